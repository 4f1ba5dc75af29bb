/- Limb: the reference's limbs of bits, those of a number, and its error for too many. -/
import Derived.Test.YtaklmkjldmbleaaDoorR
namespace Go.Proofs.YtaklmkjldmbleaaDoor
open Go.ChangeShapes Go.WideShapes Go.ChangeAt Go.RowKit
set_option linter.unusedSimpArgs false
set_option linter.unusedVariables false
/-- Limbs that are answered, to be read: the one list of a number. -/
def LRead (w : World) (m N : Nat) (en : Ending) (w' : World) : Prop :=
  ∃ A c, en = .returned (.slice A m c) ∧ m ≤ c ∧ Reads w' w'.heap.size 1 A m (ints .u32 (dig 4294967296 N)) ∧ Below w.heap.size w w'
theorem own_cap {w : World} {base n c : Nat} {e : TypeId} {A : Option Addr} {xs : List Value} (h : w.ownsRow base e 1 (.slice A n c) n xs) : n ≤ c := by
  rcases h.2 with ⟨_, h⟩ | ⟨_, _, _, h, _, _, h3, _⟩
  · omega
  · injection h with _ _ h; omega
theorem horner {P T k x n : Nat} (h : T = P + 2 ^ k * x + 2 ^ (k + 1) * n) : T = P + 2 ^ k * (2 * n + x) := by
  rw [Nat.pow_succ, Nat.mul_assoc] at h
  rw [Nat.mul_add]
  omega
theorem pre_stop {B : Nat} {l : List Nat} {k : Nat} (h : l.length ≤ k) : pre B l k = pre B l l.length := by
  rw [pre_all B l k h, pre_all B l l.length (Nat.le_refl _)]
set_option maxHeartbeats 8000000 in
theorem limbs_any (A : Option Addr) (n c : Nat) (a : List Nat) (hn : a.length = n) (hm : n ≤ 20000) (hnc : n ≤ c) (ha : ∀ x ∈ a, x < 2) (m : Nat) (hL : (dig 4294967296 (val 2 a)).length = m) (w : World) (hR : Reads w w.heap.size 1 A n (ints .u8 a)) :
    Calls Tryd.prog 38 #[.slice A n c] w (LRead w m (val 2 a)) := by
  obtain ⟨i0, hi0, hz0, hz1, hz2⟩ := info_parts infoU32
  obtain ⟨d, hd⟩ : ∃ d, (dig 2 (val 2 a)).length = d := ⟨_, rfl⟩
  obtain ⟨ht, hdn⟩ := dig_take (B := 2) (by omega) ha rfl hd
  rw [hn] at hdn
  have hcut := rcut_any A n c w.heap.size a hn (by omega) hnc ha w hR d hd
  have hR2 := reads_take hn hR hdn
  rw [ht] at hR2
  obtain ⟨V, hV⟩ : ∃ V, val 2 a = V := ⟨_, rfl⟩
  rw [hV] at hL hd hR2 ⊢
  obtain ⟨b, hb⟩ : ∃ b, dig 2 V = b := ⟨_, rfl⟩
  have hbl : ∀ x ∈ b, x < 2 := by rw [← hb]; exact dig_lt (by omega) V
  have hbc : Canon b := by rw [← hb]; exact dig_canon (by omega) V
  have hbv : val 2 b = V := by rw [← hb]; exact val_dig (by omega) V
  rw [hb] at hd hR2
  have hdn2 : d ≤ 20000 := by omega
  have hdc : d ≤ c := by omega
  have pb := pre_all 2 b d (by omega)
  rw [hbv] at pb
  have gd := Lib.hid hd
  have gL := Lib.hid hL
  clear hR ha ht hV hb hn hd hL hdn
  go_enter Tryd.func38, Tryd.ntmps38
  go_wp2_with (go_at_call 50; refine hcut.mono ?_; rintro e w' ⟨rfl, rfl⟩)
  clear hcut
  go_loopw [3, 4] (fun o i wr => ∃ (k t : Nat) (L : List Nat) (Ao : Option Addr) (co : Nat), t = 32 * k ∧ t < d + 32 ∧ i = .int .i64 (t : Int) ∧ o = .slice Ao k co ∧ Hid (L.length = k) ∧ (∀ x ∈ L, x < 4294967296) ∧ Hid (val 4294967296 L = pre 2 b t) ∧ wr.ownsRow w.heap.size 45 1 (.slice Ao k co) k (ints .u32 L) ∧ Below w.heap.size w wr) (fun _ i _ => d + 32 - (intOf i).toNat)
  case atStart => exact ⟨0, 0, [], none, 0, rfl, by omega, rfl, rfl, Lib.hid rfl, by simp, Lib.hid rfl, World.ownsRow_nil _ _ _ _, Below.refl _ _⟩
  case round =>
    obtain ⟨k, t, L, Ao, co, ht, htd, rfl, rfl, hLl, hLb, hv, hown, hB⟩ := hrel
    have hz := hB.size
    have gt := Lib.hid ht
    have hk2 : k ≤ 20000 := by omega
    by_cases hlt : t < d
    · obtain ⟨T, hT⟩ : ∃ T, min d (t + 32) = T := ⟨_, rfl⟩
      have hTd : T ≤ d := by omega
      have hT32 : T ≤ t + 32 := by omega
      have hmin : (if (t : Int) + 32 < d then (t : Int) + 32 else (d : Int)) = (T : Int) := by split <;> omega
      have hmin2 : (if t + 32 < d then (t : Int) + 32 else (d : Int)) = (T : Int) := by split <;> omega
      have hTt : t ≤ T := by omega
      have hTv : Hid (pre 2 b T = pre 2 b (t + 32)) := Lib.hid (by
        rcases Nat.le_total (t + 32) d with h | h
        · rw [show T = t + 32 by omega]
        · rw [show T = d by omega, pre_stop (k := t + 32) (by rw [gd.out]; omega), gd.out])
      have hTw : Hid (T - t ≤ 32) := Lib.hid (by omega)
      clear ht hT
      go_wp2
      obtain ⟨wo, rfl⟩ : ∃ wo : World, wo = wr := ⟨_, rfl⟩
      have gm := Lib.hid hmin
      have gm2 := Lib.hid hmin2
      clear hmin hmin2
      go_loop [5, 6] (fun s i => ∃ (j y : Nat), t ≤ j ∧ j ≤ T ∧ i = .int .i64 ((j : Int) - 1) ∧ s = .int .u32 (y : Int) ∧ y < 4294967296 ∧ Hid (y < 2 ^ (T - j)) ∧ Hid (pre 2 b T = pre 2 b j + 2 ^ j * y)) (fun _ i => (intOf i + 1 - t).toNat)
      case atStart => exact ⟨T, 0, hTt, Nat.le_refl _, by first | rfl | (simp; done), rfl, by omega, Lib.hid (by simp), Lib.hid (by simp)⟩
      case round =>
        obtain ⟨j, y, htj, hjT, rfl, rfl, hy, hy2, hp⟩ := hrel
        rcases Nat.eq_or_lt_of_le htj with rfl | hlt2
        · have hyl := hy2.out
          have hp2 := hp.out
          have hv' : Hid (val 4294967296 (L ++ [y]) = pre 2 b (t + 32)) := Lib.hid (by
            rw [val_snoc, hLl.out, hv.out, pow32, ← gt.out, ← hTv.out, hp2])
          have hLb' : ∀ z ∈ L ++ [y], z < 4294967296 := by
            intro z hz
            rcases List.mem_append.1 hz with h | h
            · exact hLb z h
            · simp at h; omega
          have hLl' : Hid ((L ++ [y]).length = k + 1) := Lib.hid (by simp; exact hLl.out)
          have ht' : Hid (t + 32 = 32 * (k + 1)) := Lib.hid (by rw [gt.out]; omega)
          have t1 : decide ((t : Int) ≤ (t : Int) - 1) = false := decide_eq_false (by omega)
          clear hyl hp2 hp hy2 hTv hv hLl hLb pb hR2
          go_wp2_with (at_builtin; refine wpList_push rfl (.tmp 34) (.tmp 36) 22 rfl w.heap.size 45 i0 _ 1 4 Tryd.underlying22 hi0 hz0 hz1 hz2 rfl (by omega) hB (Nat.le_refl _) (.slice Ao k co) k (ints .u32 L) rfl hown [.int .u32 _] rfl (one_int _ _) rfl (by unfold maxLen; omega) (by omega) ?_; intro v4 w4 ho4 hb4; rw [ints_push _ _ (by omega)] at ho4; obtain ⟨A4, c4, rfl, _, _⟩ := own_slice ho4)
          rw [Int.toNat_natCast] at ho4
          go_roundw
          case rel => exact ⟨k + 1, t + 32, L ++ [y], A4, c4, ht'.out, by omega, by go_num, rfl, hLl', hLb', hv', ho4, hb4⟩
          case measure => simp [intOf] <;> omega
        · obtain ⟨i, rfl⟩ : ∃ i, j = i + 1 := ⟨j - 1, by omega⟩
          obtain ⟨ad, rfl, hab, cA⟩ := at_ints gd.out (hR2.below hB) (show i < d by omega)
          have xa := getD_lt (B := 2) (by omega) hbl i
          have va := pre_succ 2 b i
          obtain ⟨x, hx⟩ : ∃ x, b.getD i 0 = x := ⟨_, rfl⟩
          rw [hx] at cA va xa
          have j2 : ((i + 1 : Nat) : Int) - 1 = i := by omega
          have i1 : (0 : Int) ≤ i := by omega
          have i2 : (i : Int) < d := by omega
          have hpow : 2 * y + x < 2 ^ (T - i) := by
            have h := hy2.out
            rw [show T - i = (T - (i + 1)) + 1 by omega, Nat.pow_succ]
            omega
          have h32 : 2 ^ (T - i) ≤ 2 ^ 32 := Nat.pow_le_pow_right (by omega) (by have := hTw.out; omega)
          have hy' : 2 * y + x < 4294967296 := by
            have : (2 : Nat) ^ 32 = 4294967296 := by decide
            omega
          have gp := Lib.hid hpow
          have hp' : Hid (pre 2 b T = pre 2 b i + 2 ^ i * (2 * y + x)) := Lib.hid (horner (by rw [← va]; exact hp.out))
          have t1 : decide ((t : Int) ≤ (i : Int)) = true := decide_eq_true (by omega)
          have t2 : decide (t ≤ i) = true := decide_eq_true (by omega)
          rw [j2]
          clear hx va hp hpow h32 hy2 hR2 hv hLl hLb pb hown hB hTv j2
          go_wp2
          go_round
          case rel => exact ⟨i, 2 * y + x, by omega, by omega, by first | rfl | go_num, by first | rfl | go_num | (congr 1; omega), hy', gp, hp'⟩
          case measure => simp [intOf] <;> omega
    · have hv2 : val 4294967296 L = V := by rw [hv.out, pre_stop (by rw [gd.out]; omega), gd.out, pb]
      obtain ⟨hta, hmk⟩ := dig_take (B := 4294967296) (by omega) hLb hv2 gL.out
      rw [hLl.out] at hmk
      have hmk2 : k ≤ m := by
        rcases Nat.eq_zero_or_pos k with h | h
        · omega
        · have hd0 : 0 < d := by have := gt.out; omega
          have h1 := canon_ge (B := 2) (by omega) hbc (by rw [gd.out]; exact hd0)
          rw [gd.out, hbv] at h1
          have h2 : 4294967296 ^ (k - 1) ≤ V := by
            rw [pow32]
            refine Nat.le_trans (Nat.pow_le_pow_right (by omega) ?_) h1
            have := gt.out
            omega
          have := dig_len_gt (B := 4294967296) (by omega) h2
          rw [gL.out] at this
          omega
      obtain rfl : k = m := by omega
      have hLd : L = dig 4294967296 V := by rw [← hta, List.take_of_length_le (by rw [hLl.out]; exact Nat.le_refl _)]
      rw [hLd] at hown
      have hRo := Reads.of_own hown
      have hcap := own_cap hown
      clear hR2 hv hv2 hLl hLb pb hta hown hLd gt gL hmk hmk2 hbl hbc hbv
      go_wp2
      go_ret
      exact ⟨Ao, co, rfl, hcap, hRo, hB⟩
end Go.Proofs.YtaklmkjldmbleaaDoor
