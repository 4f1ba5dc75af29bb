/- Limb: the reference's sums and differences of bits, the bits of limbs, limbs of bits. -/
import Derived.Test.YtaklmkjldmbleaaDoorO
namespace Go.Proofs.YtaklmkjldmbleaaDoor
open Go.ChangeShapes Go.WideShapes Go.ChangeAt Go.RowKit
set_option linter.unusedSimpArgs false
set_option linter.unusedVariables false
theorem infoU8 : (Tryd.prog.info? 5).map (fun i => (i.zero, i.size, i.bytes)) = some (some (.int .u8 0), 1, 1) := by kernel_rfl
theorem infoU32 : (Tryd.prog.info? 45).map (fun i => (i.zero, i.size, i.bytes)) = some (some (.int .u32 0), 1, 4) := by kernel_rfl
theorem one_int (k : IntKind) (z : Int) : ∀ u ∈ [Value.int k z], u.oneCell' = true := by
  intro u hu
  simp at hu
  subst hu
  rfl
theorem ints_push (k : IntKind) (L : List Nat) {z : Int} (h : 0 ≤ z) : ints k L ++ [.int k z] = ints k (L ++ [z.toNat]) := by
  simp [ints, Int.toNat_of_nonneg h]
/-- Bits that are answered: the one list of a number. -/
def BPost (w : World) (m N : Nat) (en : Ending) (w' : World) : Prop :=
  ∃ A c, en = .returned (.slice A m c) ∧ m ≤ c ∧ Reads w' w'.heap.size 1 A m (ints .u8 (dig 2 N)) ∧ Below w.heap.size w w'
theorem dig_take {B : Nat} (hB : 2 ≤ B) {L : List Nat} (hl : ∀ x ∈ L, x < B) {N m : Nat} (hv : val B L = N) (hm : (dig B N).length = m) : L.take m = dig B N ∧ m ≤ L.length := by
  have hle : (dig B N).length ≤ L.length := dig_len_le hB (by rw [← hv]; exact val_lt hl)
  have hN : val B (dig B N ++ List.replicate (L.length - m) 0) = N := by
    rw [val_app, val_dig hB, val_zero (l := List.replicate _ _) (fun x hx => (List.mem_replicate.1 hx).2), Nat.mul_zero, Nat.add_zero]
  have uniq : ∀ {a b : List Nat}, a.length = b.length → (∀ x ∈ a, x < B) → (∀ x ∈ b, x < B) → val B a = val B b → a = b := by
    intro a
    induction a with
    | nil => intro b h _ _ _; exact (List.eq_nil_of_length_eq_zero h.symm).symm
    | cons x r ih =>
      intro b h h1 h2 h3
      cases b with
      | nil => simp at h
      | cons y s =>
        rw [val_cons, val_cons] at h3
        have hx := h1 x (List.mem_cons_self ..)
        have hy := h2 y (List.mem_cons_self ..)
        have e : x = y := by
          have := congrArg (· % B) h3
          simp only [Nat.add_mul_mod_self_left, Nat.mod_eq_of_lt hx, Nat.mod_eq_of_lt hy] at this
          exact this
        subst e
        have : val B r = val B s := Nat.eq_of_mul_eq_mul_left (show 0 < B by omega) (by omega)
        rw [ih (by simpa using h) (fun z hz => h1 z (List.mem_cons_of_mem _ hz)) (fun z hz => h2 z (List.mem_cons_of_mem _ hz)) this]
  have : L = dig B N ++ List.replicate (L.length - m) 0 := by
    apply uniq
    · simp; omega
    · exact hl
    · intro x hx
      rcases List.mem_append.1 hx with h | h
      · exact dig_lt hB N x h
      · rw [(List.mem_replicate.1 h).2]; omega
    · rw [hN, hv]
  refine ⟨?_, by omega⟩
  conv => lhs; rw [this]
  rw [List.take_append_of_le_length (by omega), List.take_of_length_le (by omega)]
theorem plus_step {V P k a b c : Nat} (h : V + 2 ^ k * c = P) : V + 2 ^ k * ((a + b + c) % 2) + 2 ^ (k + 1) * ((a + b + c) / 2) = P + 2 ^ k * a + 2 ^ k * b := by
  have e : (a + b + c) % 2 + 2 * ((a + b + c) / 2) = a + b + c := Nat.mod_add_div _ 2
  have : 2 ^ k * ((a + b + c) % 2) + 2 ^ (k + 1) * ((a + b + c) / 2) = 2 ^ k * (a + b + c) := by
    rw [Nat.pow_succ, Nat.mul_assoc, ← Nat.mul_add, e]
  rw [Nat.mul_add, Nat.mul_add] at this
  omega
theorem minus_step {V P Q k x y q d : Nat} (hx : x < 2) (hy : y < 2) (hq : q ≤ 1) (hd : d = x + 2 - y - q) (h : P + 2 ^ k * q = V + Q) : P + 2 ^ k * x + 2 ^ (k + 1) * (1 - d / 2) = V + 2 ^ k * (d % 2) + (Q + 2 ^ k * y) := by
  have e : x + 2 * (1 - d / 2) = d % 2 + y + q := by omega
  have e2 : 2 ^ k * x + 2 ^ (k + 1) * (1 - d / 2) = 2 ^ k * (d % 2) + 2 ^ k * y + 2 ^ k * q := by
    rw [Nat.pow_succ, Nat.mul_assoc, ← Nat.mul_add, e, Nat.mul_add, Nat.mul_add]
  omega
theorem pow32 (i : Nat) : 4294967296 ^ i = 2 ^ (32 * i) := by rw [Nat.pow_mul]
theorem dig_step {V P s n : Nat} (h : V + 2 ^ s * n = P) : V + 2 ^ s * (n % 2) + 2 ^ (s + 1) * (n / 2) = P := by
  have : 2 ^ s * (n % 2) + 2 ^ (s + 1) * (n / 2) = 2 ^ s * n := by
    rw [Nat.pow_succ, Nat.mul_assoc, ← Nat.mul_add, Nat.mod_add_div]
  omega
set_option maxHeartbeats 4000000 in
theorem digits_any (A : Option Addr) (n c : Nat) (a : List Nat) (hn : a.length = n) (hm : n ≤ 500) (ha : ∀ x ∈ a, x < 4294967296) (m : Nat) (hL : (dig 2 (val 4294967296 a)).length = m) (w : World) (hR : Reads w w.heap.size 1 A n (ints .u32 a)) :
    Calls Tryd.prog 35 #[.slice A n c] w (BPost w m (val 4294967296 a)) := by
  obtain ⟨i0, hi0, hz0, hz1, hz2⟩ := info_parts infoU8
  have pa := pre_all 4294967296 a n (by omega)
  have gn := Lib.hid hn
  have gL := Lib.hid hL
  clear hn hL
  go_enter Tryd.func35, Tryd.ntmps35
  go_wp2
  go_loopw [3, 4] (fun o i wr => ∃ (k r : Nat) (L : List Nat) (Ao : Option Addr) (co : Nat), k ≤ n ∧ i = .int .i64 (k : Int) ∧ r = 32 * k ∧ o = .slice Ao r co ∧ Hid (L.length = r) ∧ (∀ x ∈ L, x < 2) ∧ Hid (val 2 L = pre 4294967296 a k) ∧ wr.ownsRow w.heap.size 5 1 (.slice Ao r co) r (ints .u8 L) ∧ Below w.heap.size w wr) (fun _ i _ => n - (intOf i).toNat)
  case atStart => exact ⟨0, 0, [], none, 0, Nat.zero_le _, rfl, rfl, rfl, Lib.hid rfl, by simp, Lib.hid rfl, World.ownsRow_nil _ _ _ _, Below.refl _ _⟩
  case round =>
    obtain ⟨k, r, L, Ao, co, hk, rfl, hr, rfl, hLl, hLb, hv, hown, hB⟩ := hrel
    have hz := hB.size
    by_cases hlt : k < n
    · obtain ⟨ad, rfl, hab, cA⟩ := at_ints gn.out (hR.below hB) hlt
      have xa := getD_lt (B := 4294967296) (by omega) ha k
      have va := pre_succ 4294967296 a k
      have i1 : (0 : Int) ≤ k := by omega
      have i2 : (k : Int) < n := by omega
      obtain ⟨x, hx⟩ : ∃ x, a.getD k 0 = x := ⟨_, rfl⟩
      rw [hx] at cA va xa
      have hv1 : Hid (val 2 L + 2 ^ r * x = pre 4294967296 a (k + 1)) := Lib.hid (by rw [va, hv.out, pow32, hr])
      have gr := Lib.hid hr
      have hr2 : r ≤ 16000 := by omega
      clear hx va hv hR pa hr
      go_wp2
      obtain ⟨wo, rfl⟩ : ∃ wo : World, wo = wr := ⟨_, rfl⟩
      go_loopw [3, 5, 6] (fun o t i wr => ∃ (j s y : Nat) (L : List Nat) (Ao : Option Addr) (co : Nat), j ≤ 32 ∧ i = .int .i64 (j : Int) ∧ t = .int .u32 (y : Int) ∧ Hid (y < 2 ^ (32 - j)) ∧ y < 4294967296 ∧ Hid (s = r + j) ∧ s ≤ 17000 ∧ o = .slice Ao s co ∧ Hid (L.length = s) ∧ (∀ x ∈ L, x < 2) ∧ Hid (val 2 L + 2 ^ s * y = pre 4294967296 a (k + 1)) ∧ wr.ownsRow w.heap.size 5 1 (.slice Ao s co) s (ints .u8 L) ∧ Below w.heap.size w wr) (fun _ _ i _ => 32 - (intOf i).toNat)
      case atStart => exact ⟨0, r, x, L, Ao, co, by omega, rfl, rfl, Lib.hid (by simpa using xa), xa, Lib.hid rfl, by omega, rfl, hLl, hLb, hv1, hown, hB⟩
      case round =>
        clear hLl hLb hv1 hown hB hz cA
        obtain ⟨j, s, y, L, Ao, co, hj, rfl, rfl, hy, hy2, hs, hs2, rfl, hLl, hLb, hv, hown, hB⟩ := hrel
        have hz := hB.size
        by_cases hj32 : j < 32
        · have hv' : Hid (val 2 (L ++ [y % 2]) + 2 ^ (s + 1) * (y / 2) = pre 4294967296 a (k + 1)) := Lib.hid (by
            have := dig_step hv.out
            rw [val_snoc, hLl.out]
            omega)
          have hLb' : ∀ z ∈ L ++ [y % 2], z < 2 := by
            intro z hz
            rcases List.mem_append.1 hz with h | h
            · exact hLb z h
            · simp at h; omega
          have hLl' : Hid ((L ++ [y % 2]).length = s + 1) := Lib.hid (by simp; exact hLl.out)
          have hy' : Hid (y / 2 < 2 ^ (32 - (j + 1))) := Lib.hid (by
            have := hy.out
            rw [show 32 - j = (32 - (j + 1)) + 1 by omega, Nat.pow_succ] at this
            omega)
          have hs' : Hid (s + 1 = r + (j + 1)) := Lib.hid (by have := hs.out; omega)
          have hs3 : s + 1 ≤ 17000 := by have := hs.out; omega
          clear hv hLl hLb ha hy hs
          go_wp2_with (at_builtin; refine wpList_push rfl (.tmp 21) (.tmp 25) 51 rfl w.heap.size 5 i0 _ 1 1 Tryd.underlying51 hi0 hz0 hz1 hz2 rfl (by omega) hB (Nat.le_refl _) (.slice Ao s co) s (ints .u8 L) rfl hown [.int .u8 _] rfl (one_int _ _) rfl (by unfold maxLen; omega) (by omega) ?_; intro v4 w4 ho4 hb4; rw [ints_push _ _ (by omega)] at ho4; obtain ⟨A4, c4, rfl, _, _⟩ := own_slice ho4)
          rw [show (y : Int) % 2 = ((y % 2 : Nat) : Int) by omega, Int.toNat_natCast] at ho4
          go_roundw
          case rel => exact ⟨j + 1, s + 1, y / 2, L ++ [y % 2], A4, c4, by omega, by go_num, by first | rfl | go_num | (congr 1; omega), hy', by omega, hs', hs3, rfl, hLl', hLb', hv', ho4, hb4⟩
          case measure => simp [intOf] <;> omega
        · obtain rfl : j = 32 := by omega
          have y0 : y = 0 := by have := hy.out; simp at this; exact this
          subst y0
          have hv' : Hid (val 2 L = pre 4294967296 a (k + 1)) := Lib.hid (by have := hv.out; omega)
          have hs' : s = 32 * (k + 1) := by rw [hs.out, gr.out]; omega
          have gs := Lib.hid hs'
          clear hv hs' ha hs hy
          go_wp2
          go_roundw
          case rel => exact ⟨k + 1, s, L, Ao, co, by omega, by go_num, gs.out, rfl, hLl, hLb, hv', hown, hB⟩
          case measure => simp [intOf] <;> omega
    · obtain rfl : k = n := by omega
      have hv2 := hv.out
      rw [pa] at hv2
      obtain ⟨ht, hmk⟩ := dig_take (B := 2) (by omega) hLb hv2 gL.out
      rw [hLl.out] at hmk
      have hRo := Reads.of_own hown
      have hcap : r ≤ co := by
        rcases hown.2 with ⟨h1, h⟩ | ⟨_, _, _, h, _, _, h3, _⟩
        · omega
        · injection h with _ _ h; omega
      have hcut := rcut_any Ao r co wr.heap.size L hLl.out (by omega) hcap hLb wr hRo m (by rw [hv2]; exact gL.out)
      have hres := reads_take hLl.out hRo hmk
      rw [ht] at hres
      have hmc : m ≤ co := by omega
      clear hR hv hv2 hLl hLb ha pa ht hown hRo gn gL hr hmk
      go_wp2_with (go_at_call 50; refine hcut.mono ?_; rintro e w' ⟨rfl, rfl⟩)
      go_ret
      exact ⟨Ao, co, rfl, hmc, hres, hB⟩
end Go.Proofs.YtaklmkjldmbleaaDoor
