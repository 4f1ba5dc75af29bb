/- Limb: how many binary digits; shifts to the left. -/
import Derived.Test.YtaklmkjldmbleaaDoorSh
import Derived.Test.YtaklmkjldmbleaaDoorZ
import Derived.Lib.ItoaNum
namespace Go.Proofs.YtaklmkjldmbleaaDoor
open Go.ChangeShapes Go.WideShapes Go.ChangeAt Go.RowKit
set_option linter.unusedSimpArgs false
set_option linter.unusedVariables false
/-- How many binary digits a number has. -/
def bl (N : Nat) : Nat := (dig 2 N).length
theorem bl_eq {N k : Nat} (h1 : 2 ^ k ≤ N) (h2 : N < 2 ^ (k + 1)) : bl N = k + 1 := by
  have a := dig_len_le (B := 2) (by omega) h2
  have b := dig_len_gt (B := 2) (by omega) h1
  unfold bl
  omega
theorem bl_lt (N : Nat) : N < 2 ^ bl N := by
  have := val_lt (dig_lt (B := 2) (by omega) N)
  rwa [val_dig (by omega)] at this
theorem bl_ge {N : Nat} (h : 0 < N) : 2 ^ (bl N - 1) ≤ N := by
  have hp : 0 < (dig 2 N).length := by
    rcases Nat.eq_zero_or_pos (dig 2 N).length with h0 | h0
    · have := val_dig (B := 2) (by omega) N
      rw [List.eq_nil_of_length_eq_zero h0, val_nil] at this
      omega
    · exact h0
  have := canon_ge (B := 2) (by omega) (dig_canon (by omega) N) hp
  rwa [val_dig (by omega)] at this
theorem bl_top {a : List Nat} {n x : Nat} (hn : a.length = n + 1) (ha : ∀ x ∈ a, x < 4294967296) (hx : a.getD n 0 = x) (h0 : x ≠ 0) : bl (val 4294967296 a) = 32 * n + Lib.bitLen x := by
  have hxl : x < 4294967296 := by rw [← hx]; exact getD_lt (by omega) ha n
  obtain ⟨b1, b2, b3⟩ := Lib.bitLenAux_bounds 64 x (by omega) h0
  have e : Lib.bitLen x = Lib.bitLenAux 64 x := rfl
  rw [← e] at b1 b2 b3
  obtain ⟨L, hL⟩ : ∃ L, Lib.bitLen x = L + 1 := ⟨Lib.bitLen x - 1, by omega⟩
  rw [hL] at b2 b3 ⊢
  rw [Nat.add_sub_cancel] at b2
  have hv : val 4294967296 a = pre 4294967296 a n + 4294967296 ^ n * x := by
    rw [← pre_all 4294967296 a (n + 1) (by omega), pre_succ, hx]
  have hp := pre_lt (B := 4294967296) (by omega) ha n
  rw [pow32] at hp hv
  have h1 : 2 ^ (32 * n) * 2 ^ L ≤ 2 ^ (32 * n) * x := Nat.mul_le_mul_left _ b2
  have h2 : 2 ^ (32 * n) * (x + 1) ≤ 2 ^ (32 * n) * 2 ^ (L + 1) := Nat.mul_le_mul_left _ b3
  rw [Nat.mul_add, Nat.mul_one] at h2
  refine bl_eq (k := 32 * n + L) ?_ ?_
  · rw [Nat.pow_add]; omega
  · rw [Nat.add_assoc, Nat.pow_add]; omega
set_option maxHeartbeats 2000000 in
theorem length_any (A : Option Addr) (n c B : Nat) (a : List Nat) (hn : a.length = n) (hm : n ≤ 10000) (ha : ∀ x ∈ a, x < 4294967296) (hc : Canon a) (w : World) (hR : Reads w B 1 A n (ints .u32 a)) :
    Calls Tryd.prog 40 #[.slice A n c] w fun en w' => en = .returned (.int .i64 ((bl (val 4294967296 a) : Nat) : Int)) ∧ w = w' := by
  rcases Nat.eq_zero_or_pos n with h0 | h0
  · have : bl (val 4294967296 a) = 0 := by rw [show a = [] from List.eq_nil_of_length_eq_zero (by omega), val_nil]; unfold bl; rw [dig_zero]; rfl
    rw [this]
    subst h0
    clear hR ha hc hn this
    go_enter Tryd.func40, Tryd.ntmps40
    go_wp2
    go_ret
    exact ⟨rfl, rfl⟩
  · obtain ⟨j, rfl⟩ : ∃ j, n = j + 1 := ⟨n - 1, by omega⟩
    obtain ⟨ad, rfl, hab, cA⟩ := at_ints hn hR (show j < j + 1 by omega)
    have xa := getD_lt (B := 4294967296) (by omega) ha j
    have hx0 : a.getD j 0 ≠ 0 := by
      rcases hc with h | h
      · omega
      · rw [hn, Nat.add_sub_cancel] at h; exact h
    obtain ⟨x, hx⟩ : ∃ x, a.getD j 0 = x := ⟨_, rfl⟩
    have hb := bl_top hn ha hx (by rw [← hx]; exact hx0)
    rw [hx] at cA xa
    have hlen := sh_bits_Len32 (x : Int) w (by omega) (by omega)
    rw [Int.toNat_natCast] at hlen
    have hbl : Lib.bitLen x ≤ 32 := by
      obtain ⟨b1, b2, b3⟩ := Lib.bitLenAux_bounds 64 x (by omega) (by rw [← hx]; exact hx0)
      have e : Lib.bitLen x = Lib.bitLenAux 64 x := rfl
      rw [← e] at b1 b2 b3
      rcases Nat.lt_or_ge 32 (Lib.bitLen x) with h | h
      · have := Nat.pow_le_pow_right (show 0 < 2 by omega) (show 32 ≤ Lib.bitLen x - 1 by omega)
        omega
      · exact h
    obtain ⟨L, hL⟩ : ∃ L, Lib.bitLen x = L := ⟨_, rfl⟩
    rw [hL] at hlen hb hbl
    rw [hb]
    have t1 : (((j + 1 : Nat) : Int) == 0) = false := by (simp <;> omega)
    have t2 : ((j : Int) + 1 == 0) = false := by (simp <;> omega)
    have j2 : (j : Int) + 1 - 1 = j := by omega
    have i1 : (0 : Int) ≤ j := by omega
    have i2 : (j : Int) < (j : Int) + 1 := by omega
    clear hR ha hc hn hx hx0 hb hL
    go_enter Tryd.func40, Tryd.ntmps40
    go_wp2_with (go_at_call 51; (with_reducible refine hlen.mono ?_); rintro e w' ⟨rfl, rfl⟩)
    go_ret
    exact ⟨ret_int (by push_cast; rfl), rfl⟩
theorem shl_or {x r h : Nat} (hx : x < 4294967296) (hr : r < 32) (hh : h < 2 ^ r) : h ||| (x * 2 ^ r) % 4294967296 = h + (x * 2 ^ r) % 4294967296 := by
  have e : (x * 2 ^ r) % 4294967296 = 2 ^ r * (x % 2 ^ (32 - r)) := by
    have h32 : (4294967296 : Nat) = 2 ^ r * 2 ^ (32 - r) := by rw [← Nat.pow_add, show r + (32 - r) = 32 by omega]
    rw [h32, Nat.mul_comm x, Nat.mul_mod_mul_left]
  rw [e, Nat.or_comm, ← Nat.two_pow_add_eq_or_of_lt hh, Nat.add_comm]
theorem shl_hi {x r : Nat} (hx : x < 4294967296) : x * 2 ^ r / 4294967296 < 2 ^ r := by
  rw [Nat.div_lt_iff_lt_mul (by omega), Nat.mul_comm]
  exact (Nat.mul_lt_mul_left (Nat.pow_pos (by omega))).2 hx
theorem left_step {V W p h lo hi S P : Nat} {V1 V2 : Nat} (h1 : V1 + p * h = V + p * (h + lo)) (h2 : V2 = V1 + p * W * hi) (hS : lo + W * hi = S) (hP : P = V + p * S) : V2 = P := by
  subst hS hP h2
  rw [Nat.mul_add] at h1
  rw [Nat.mul_add, Nat.mul_assoc]
  omega
set_option maxRecDepth 100000 in
set_option maxHeartbeats 8000000 in
theorem left_any (A : Option Addr) (n c k : Nat) (a : List Nat) (hn : a.length = n) (hm : n ≤ 1000) (hk : k ≤ 10000) (ha : ∀ x ∈ a, x < 4294967296) (m : Nat) (hL : (dig 4294967296 (val 4294967296 a * 2 ^ k)).length = m) (w : World) (hR : Reads w w.heap.size 1 A n (ints .u32 a)) :
    Calls Tryd.prog 31 #[.slice A n c, .int .i64 (k : Int)] w fun en w' => ∃ Ao, en = .returned (.slice Ao m m) ∧ OwnR w' w.heap.size 45 Ao m (ints .u32 (dig 4294967296 (val 4294967296 a * 2 ^ k))) ∧ Below w.heap.size w w' := by
  obtain ⟨q, hq⟩ : ∃ q, k / 32 = q := ⟨_, rfl⟩
  obtain ⟨r, hr⟩ : ∃ r, k % 32 = r := ⟨_, rfl⟩
  have hqI : (k : Int) / 32 = (q : Int) := by omega
  have hrI : (k : Int) % 32 = (r : Int) := by omega
  have hqI2 : (k : Int).tdiv 32 = (q : Int) := by rw [← hqI]; exact Int.tdiv_eq_ediv_of_nonneg (by omega)
  have hrI2 : (k : Int).tmod 32 = (r : Int) := by rw [← hrI]; exact Int.tmod_eq_emod_of_nonneg (by omega)
  have hr32 : r < 32 := by omega
  have hq10 : q ≤ 10000 := by omega
  have hn9 : n + q + 1 ≤ 10000 := by omega
  have hmk := run_z32 (n + q + 1) hn9
  rw [show ((n + q + 1 : Nat) : Int) = (n : Int) + q + 1 by omega] at hmk
  have hB0 := (Below.refl w.heap.size w).alloc (Nat.le_refl _) (Z32 (n + q + 1))
  have hK0 : Blk (w.alloc (Z32 (n + q + 1))) w.heap.size 45 (ints .u32 (List.replicate (n + q + 1) 0)).toArray := Blk.new w 45 _
  obtain ⟨Z, hZ⟩ : ∃ Z, Z32 (n + q + 1) = Z := ⟨_, rfl⟩
  rw [hZ] at hB0 hK0
  simp only [hZ] at hmk
  have pa := pre_all 4294967296 a n (by omega)
  have hkk : 2 ^ k = 4294967296 ^ q * 2 ^ r := by rw [pow32, ← Nat.pow_add]; congr 1; omega
  have gn := Lib.hid hn
  have gL := Lib.hid hL
  have gkk := Lib.hid hkk
  have gpa := Lib.hid pa
  clear hn hL hZ hkk pa hq hr hqI hrI
  go_enter Tryd.func31, Tryd.ntmps31
  go_wp2
  go_loopw [18] (fun i wr => ∃ (j : Nat) (L : List Nat), j ≤ n ∧ i = .int .i64 (j : Int) ∧ Hid (L.length = n + q + 1) ∧ Hid (∀ x ∈ L, x < 4294967296) ∧ Hid (∀ i, j + q + 1 ≤ i → L.getD i 0 = 0) ∧ L.getD (j + q) 0 < 2 ^ r ∧ Hid (val 4294967296 L = pre 4294967296 a j * 2 ^ k) ∧ Blk wr w.heap.size 45 (ints .u32 L).toArray ∧ Below w.heap.size w wr) (fun i _ => n - (intOf i).toNat)
  case atStart => exact ⟨0, List.replicate (n + q + 1) 0, Nat.zero_le _, rfl, Lib.hid (by simp), Lib.hid (fun x hx => by rw [(List.mem_replicate.1 hx).2]; omega), Lib.hid (fun j _ => by rw [List.getD_eq_getElem?_getD, List.getElem?_replicate]; split <;> rfl), (by rw [List.getD_eq_getElem?_getD, List.getElem?_replicate]; split <;> exact Nat.pow_pos (by omega)), Lib.hid (by rw [pre_zero, Nat.zero_mul]; exact val_zero (fun x hx => (List.mem_replicate.1 hx).2)), hK0, hB0⟩
  case round =>
    clear hmk hB0 hK0
    obtain ⟨j, L, hj, rfl, hLl, hLb, hL0, hLh, hv, hK, hB⟩ := hrel
    by_cases hlt : j < n
    · obtain ⟨ad, rfl, hab, cA⟩ := at_ints gn.out (hR.below hB) hlt
      have xa := getD_lt (B := 4294967296) (by omega) ha j
      obtain ⟨x, hx⟩ : ∃ x, a.getD j 0 = x := ⟨_, rfl⟩
      rw [hx] at cA xa
      have hlen : j + q < L.length := by rw [hLl.out]; omega
      have zc : wr.cell? ⟨w.heap.size, j + q, none⟩ = some (.int .u32 ((L.getD (j + q) 0 : Nat) : Int)) := by rw [hK.cell]; simp only [List.getElem?_toArray]; exact ints_at .u32 hlen
      have zf := hK.frozen (j + q)
      have zd : wr.cell? ⟨w.heap.size, j + q + 1, none⟩ = some (.int .u32 ((L.getD (j + q + 1) 0 : Nat) : Int)) := by rw [hK.cell]; simp only [List.getElem?_toArray]; exact ints_at .u32 (by rw [hLl.out]; omega)
      rw [hL0.out (j + q + 1) (Nat.le_refl _)] at zd
      have zg := hK.frozen (j + q + 1)
      have zl := hK.lt
      obtain ⟨h, hh⟩ : ∃ h, L.getD (j + q) 0 = h := ⟨_, rfl⟩
      rw [hh] at zc hLh
      have i1 : (0 : Int) ≤ j := by omega
      have i2 : (j : Int) < n := by omega
      have i3 : (0 : Int) ≤ (j : Int) + q := by omega
      have i4 : (j : Int) + q < (n : Int) + q + 1 := by omega
      have i5 : ((j : Int) + q).toNat = j + q := by omega
      have i6 : (0 : Int) ≤ (j : Int) + q + 1 := by omega
      have i7 : (j : Int) + q + 1 < (n : Int) + q + 1 := by omega
      have i8 : ((j : Int) + q + 1).toNat = j + q + 1 := by omega
      obtain ⟨S, hS⟩ : ∃ S, x * 2 ^ r = S := ⟨_, rfl⟩
      have hSb : S < 4294967296 * 4294967296 := by
        rw [← hS]
        have h1 : 2 ^ r ≤ 2 ^ 31 := Nat.pow_le_pow_right (by omega) (by omega)
        exact Nat.lt_of_le_of_lt (Nat.mul_le_mul_left x h1) (by omega)
      have hor := shl_or (h := h) xa hr32 hLh
      have hhi := shl_hi (r := r) xa
      rw [hS] at hor hhi
      have wS : IntKind.u64.wrap ((x : Int) * 2 ^ r) = (S : Int) := by
        rw [show (x : Int) * 2 ^ r = (S : Int) by rw [← hS]; push_cast; rfl]
        exact IntWalk.u64_in _ (by omega)
      obtain ⟨lo, hlo⟩ : ∃ lo, S % 4294967296 = lo := ⟨_, rfl⟩
      obtain ⟨hi, hhd⟩ : ∃ hi, S / 4294967296 = hi := ⟨_, rfl⟩
      rw [hlo] at hor
      rw [hhd] at hhi
      have hhl : h < 4294967296 := Nat.lt_of_lt_of_le hLh (Nat.pow_le_pow_right (n := 2) (by omega) (show r ≤ 32 by omega))
      have hlol : lo < 4294967296 := by omega
      have hhil : hi < 4294967296 := by omega
      have hv1l : h + lo < 4294967296 := by rw [← hor]; exact Nat.or_lt_two_pow (n := 32) hhl hlol
      have o1 : bits BinOp.or .u32 (h : Int) ((S : Int) % 4294967296) = ((h + lo : Nat) : Int) := by
        rw [show (S : Int) % 4294967296 = (lo : Int) by omega, u32_or_nat h lo hhl hlol, hor]
      have o2 : bits BinOp.or .u32 0 ((S : Int) / 4294967296 % 4294967296) = (hi : Int) := by
        rw [show (S : Int) / 4294967296 % 4294967296 = (hi : Int) by omega]
        have := u32_or_nat 0 hi (by omega) hhil
        rw [Nat.zero_or] at this
        exact this
      have o4 : bits BinOp.or .u32 0 ((S : Int) / 4294967296) = (hi : Int) := by rw [← o2, show (S : Int) / 4294967296 % 4294967296 = (S : Int) / 4294967296 by omega]
      have hlen2 : j + q + 1 < (L.set (j + q) (h + lo)).length := by rw [List.length_set, hLl.out]; omega
      have s1 := val_set 4294967296 L (j + q) (h + lo) hlen
      rw [hh] at s1
      have s2 := val_set 4294967296 (L.set (j + q) (h + lo)) (j + q + 1) hi hlen2
      have hz0 : (L.set (j + q) (h + lo)).getD (j + q + 1) 0 = 0 := by
        rw [List.getD_eq_getElem?_getD, List.getElem?_set, if_neg (by omega), ← List.getD_eq_getElem?_getD]
        exact hL0.out _ (Nat.le_refl _)
      rw [hz0, Nat.mul_zero, Nat.add_zero, Nat.pow_succ] at s2
      have va := pre_succ 4294967296 a j
      rw [hx] at va
      have hv' : Hid (val 4294967296 ((L.set (j + q) (h + lo)).set (j + q + 1) hi) = pre 4294967296 a (j + 1) * 2 ^ k) := Lib.hid (by
        refine left_step s1 s2 (show lo + 4294967296 * hi = S by omega) ?_
        rw [va, Nat.add_mul, hv.out, gkk.out, Nat.pow_add, ← hS]
        congr 1
        rw [Nat.mul_assoc, Nat.mul_assoc, Nat.mul_left_comm x])
      have hLl' : Hid (((L.set (j + q) (h + lo)).set (j + q + 1) hi).length = n + q + 1) := Lib.hid (by rw [List.length_set, List.length_set]; exact hLl.out)
      have hLb' : Hid (∀ z ∈ (L.set (j + q) (h + lo)).set (j + q + 1) hi, z < 4294967296) := Lib.hid (by
        intro z hz
        rcases List.mem_or_eq_of_mem_set hz with h' | h'
        · rcases List.mem_or_eq_of_mem_set h' with h'' | h''
          · exact hLb.out z h''
          · omega
        · omega)
      have hL0' : Hid (∀ i, j + 1 + q + 1 ≤ i → ((L.set (j + q) (h + lo)).set (j + q + 1) hi).getD i 0 = 0) := Lib.hid (fun i hi' => by
        rw [List.getD_eq_getElem?_getD, List.getElem?_set, if_neg (by omega), List.getElem?_set, if_neg (by omega), ← List.getD_eq_getElem?_getD]
        exact hL0.out i (by omega))
      have hLh' : ((L.set (j + q) (h + lo)).set (j + q + 1) hi).getD (j + 1 + q) 0 < 2 ^ r := by
        rw [show j + 1 + q = j + q + 1 by omega, getD_set hlen2, if_pos rfl]
        exact hhi
      have hK1 := hK.set_ (j + q) (.int .u32 ((h + lo : Nat) : Int))
      rw [ints_set _ _ _ (by omega), Int.toNat_natCast] at hK1
      have hK2 := hK1.set_ (j + q + 1) (.int .u32 (hi : Int))
      rw [ints_set _ _ _ (by omega), Int.toNat_natCast] at hK2
      have hB2 := (hB.setCell (p := ⟨w.heap.size, j + q, none⟩) (Nat.le_refl _) (.int .u32 ((h + lo : Nat) : Int))).setCell (p := ⟨w.heap.size, j + q + 1, none⟩) (Nat.le_refl _) (.int .u32 (hi : Int))
      have o3 : ((h + lo : Nat) : Int) = (h : Int) + lo := by omega
      rw [o3] at o1 hK2 hB2
      clear hR ha hv hLl hLb hL0 hK hK1 hx hh hS hor hlo hhd s1 s2 hz0 va hlen hlen2 o3
      go_wp2
      go_roundw
      case rel => exact ⟨j + 1, (L.set (j + q) (h + lo)).set (j + q + 1) hi, by omega, by go_num, hLl', hLb', hL0', hLh', hv', hK2, hB2⟩
      case measure => simp [intOf] <;> omega
    · obtain rfl : j = n := by omega
      have hv2 := hv.out
      rw [gpa.out] at hv2
      have hO := own_of_make hK (Nat.le_refl _)
      simp only [List.size_toArray, List.length_map, hLl.out] at hO
      obtain ⟨ht, hmk⟩ := dig_take (B := 4294967296) (by omega) hLb.out hv2 gL.out
      rw [hLl.out] at hmk
      have hcut := cut_any (some ⟨w.heap.size, 0, none⟩) (j + q + 1) (j + q + 1) wr.heap.size L hLl.out (by omega) (Nat.le_refl _) hLb.out wr hO.reads m (by rw [hv2]; exact gL.out)
      have hres := hO.cut hmk
      rw [← List.map_take, ht] at hres
      clear hv hv2 hLl hLb hL0 hLh ht hO hK gn gL gkk gpa hR ha hmk
      go_wp2_with (go_at_call 37; (with_reducible refine hcut.mono ?_); rintro e w' ⟨rfl, rfl⟩)
      go_ret
      exact ⟨_, rfl, hres, hB⟩
end Go.Proofs.YtaklmkjldmbleaaDoor
