/- Limb: what reads alone: which limbs may be, one limb, orders, sums and differences of two limbs, what is left when the 0 at the end are cut off; the reference's, too. -/
import Derived.Test.YtaklmkjldmbleaaDoorProg
import Derived.Test.YtaklmkjldmbleaaDoorKit7
namespace Go.Proofs.YtaklmkjldmbleaaDoor
open Go.ChangeShapes Go.WideShapes Go.ChangeAt Go.RowKit
set_option linter.unusedSimpArgs false
set_option linter.unusedVariables false
abbrev W32 : Nat := 4294967296
/-- May limbs be? -/
def mayB (l : List Nat) : Bool := decide (l.length ≤ 40 ∧ Canon l)
set_option maxHeartbeats 1000000 in
theorem lim_at (A : Option Addr) (n c B k : Nat) (l : List Nat) (hn : l.length = n) (hm : n ≤ 100000) (hk : k ≤ 100000) (w : World) (hR : Reads w B 1 A n (ints .u32 l)) :
    Calls Tryd.prog 36 #[.slice A n c, .int .i64 (k : Int)] w fun en w' => en = .returned (.int .u32 ((l.getD k 0 : Nat) : Int)) ∧ w = w' := by
  by_cases hlt : k < n
  · obtain ⟨ad, rfl, hb, cA⟩ := at_ints hn hR hlt
    obtain ⟨x, hx⟩ : ∃ x, l.getD k 0 = x := ⟨_, rfl⟩
    rw [hx] at cA ⊢
    have d1 : decide (k < n) = true := decide_eq_true hlt
    have i1 : (0 : Int) ≤ k := by omega
    have i2 : (k : Int) < n := by omega
    clear hR hn hx
    go_enter Tryd.func36, Tryd.ntmps36
    go_wp2
    go_ret
    exact ⟨rfl, rfl⟩
  · have d1 : decide (k < n) = false := decide_eq_false hlt
    have e : l.getD k 0 = 0 := by rw [List.getD_eq_getElem?_getD, List.getElem?_eq_none (by omega)]; rfl
    rw [e]
    clear hR hn e
    go_enter Tryd.func36, Tryd.ntmps36
    go_wp2
    go_ret
    exact ⟨rfl, rfl⟩
theorem ones_xor (x : Nat) (h : x < 4294967296) : 4294967295 ^^^ x = 4294967295 - x := by
  have e : (BitVec.allOnes 32 ^^^ BitVec.ofNat 32 x).toNat = (~~~ BitVec.ofNat 32 x).toNat := by rw [BitVec.allOnes_xor]
  rw [BitVec.toNat_xor, BitVec.toNat_not, BitVec.toNat_allOnes, BitVec.toNat_ofNat, Nat.mod_eq_of_lt (by omega)] at e
  have : (2 : Nat) ^ 32 - 1 = 4294967295 := by decide
  rw [this] at e
  exact e
theorem not_val (x : Nat) (h : x < 4294967296) : bits .xor .u32 IntKind.u32.max (x : Int) = ((4294967295 - x : Nat) : Int) := by
  rw [← ones_xor x h, ← u32_xor_nat 4294967295 x (by omega) h]
  rfl
theorem tb31 (x : Nat) (h : x < 4294967296) : x.testBit 31 = decide (2147483648 ≤ x) := by
  rw [Nat.testBit_eq_decide_div_mod_eq]
  rw [decide_eq_decide]
  have : (2 : Nat) ^ 31 = 2147483648 := by decide
  rw [this]
  omega
theorem borrow_nat (x y c : Nat) (hx : x < 4294967296) (hy : y < 4294967296) (hc : c ≤ 1) :
    (((4294967295 - x) &&& y) ||| ((4294967295 - (x ^^^ y)) &&& ((x + 4294967296 - y - c) % 4294967296))) / 2147483648 = if x < y + c then 1 else 0 := by
  have hxy : x ^^^ y < 4294967296 := Nat.xor_lt_two_pow (n := 32) (by omega) (by omega)
  have hd : (x + 4294967296 - y - c) % 4294967296 < 4294967296 := Nat.mod_lt _ (by omega)
  have ha : (4294967295 - x) &&& y < 4294967296 := Nat.and_lt_two_pow (n := 32) _ (by omega)
  have hb : (4294967295 - (x ^^^ y)) &&& ((x + 4294967296 - y - c) % 4294967296) < 4294967296 := Nat.and_lt_two_pow (n := 32) _ (by omega)
  have hz := Nat.or_lt_two_pow (n := 32) (show _ < 2 ^ 32 from ha) (show _ < 2 ^ 32 from hb)
  have ht := tb31 _ hz
  rw [Nat.testBit_or, Nat.testBit_and, Nat.testBit_and, tb31 y hy, tb31 _ hd, tb31 (4294967295 - x) (by omega), tb31 (4294967295 - (x ^^^ y)) (by omega)] at ht
  have hxor : decide (2147483648 ≤ 4294967295 - (x ^^^ y)) = !(decide (2147483648 ≤ x ^^^ y)) := by
    by_cases h : 2147483648 ≤ x ^^^ y
    · rw [decide_eq_true h, decide_eq_false (by omega)]; rfl
    · rw [decide_eq_false h, decide_eq_true (by omega)]; rfl
  have h2 := tb31 (x ^^^ y) hxy
  rw [Nat.testBit_xor, tb31 x hx, tb31 y hy] at h2
  rw [hxor, ← h2] at ht
  generalize ((4294967295 - x) &&& y ||| (4294967295 - (x ^^^ y)) &&& ((x + 4294967296 - y - c) % 4294967296)) = z at ht hz ⊢
  have key : (2147483648 ≤ z) ↔ x < y + c := by
    have := ht
    by_cases h3 : 2147483648 ≤ z
    · rw [decide_eq_true h3] at this
      simp only [Bool.or_eq_true, Bool.and_eq_true, decide_eq_true_eq, Bool.not_eq_true'] at this
      refine ⟨fun _ => ?_, fun _ => h3⟩
      rcases this with ⟨h4, h5⟩ | ⟨h4, h5⟩
      · omega
      · have : (2147483648 ≤ x) ↔ (2147483648 ≤ y) := by
          by_cases a1 : 2147483648 ≤ x <;> by_cases a2 : 2147483648 ≤ y <;> simp [a1, a2] at h4 <;> omega
        omega
    · rw [decide_eq_false h3] at this
      simp only [Bool.or_eq_false_iff, Bool.and_eq_false_iff, decide_eq_false_iff_not, Bool.not_eq_false'] at this
      refine ⟨fun h => absurd h h3, fun h => ?_⟩
      exfalso
      obtain ⟨h4, h5⟩ := this
      rcases h5 with h5 | h5
      · by_cases a1 : 2147483648 ≤ x <;> by_cases a2 : 2147483648 ≤ y <;> simp [a1, a2] at h5 <;> omega
      · omega
  have hz' : z < 4294967296 := hz
  by_cases h : x < y + c
  · rw [if_pos h]
    have := key.2 h
    omega
  · rw [if_neg h]
    have : ¬ 2147483648 ≤ z := fun h' => h (key.1 h')
    omega
theorem borrow_val (x y c : Nat) (hx : x < 4294967296) (hy : y < 4294967296) (hc : c ≤ 1) :
    bits .or .u32 (bits .and .u32 (bits .xor .u32 IntKind.u32.max (x : Int)) (y : Int)) (bits .and .u32 (bits .xor .u32 IntKind.u32.max (bits .xor .u32 (x : Int) (y : Int))) (((x : Int) - y - c) % 4294967296)) / 2147483648 = ((if x < y + c then 1 else 0 : Nat) : Int) := by
  have hd : ((x : Int) - y - c) % 4294967296 = (((x + 4294967296 - y - c) % 4294967296 : Nat) : Int) := by omega
  have hxy : x ^^^ y < 4294967296 := Nat.xor_lt_two_pow (n := 32) (by omega) (by omega)
  have hd2 : (x + 4294967296 - y - c) % 4294967296 < 4294967296 := Nat.mod_lt _ (by omega)
  rw [hd, not_val x hx, u32_xor_nat x y hx hy, not_val _ hxy, u32_and_nat _ _ (by omega) hy, u32_and_nat _ _ (by omega) hd2, u32_or_nat _ _ (Nat.and_lt_two_pow (n := 32) _ (by omega)) (Nat.and_lt_two_pow (n := 32) _ (by omega)), ← borrow_nat x y c hx hy hc]
  rfl
theorem ret_two {a b a2 b2 : Int} {k k2 : IntKind} (h : a = b) (h2 : a2 = b2) : Ending.returned (.tuple #[.int k a, .int k2 a2]) = .returned (.tuple #[.int k b, .int k2 b2]) := by rw [h, h2]
set_option maxHeartbeats 1000000 in
theorem add32 (x y c : Nat) (hx : x < 4294967296) (hy : y < 4294967296) (hc : c ≤ 1) (w : World) :
    Calls Tryd.prog 43 #[.int .u32 (x : Int), .int .u32 (y : Int), .int .u32 (c : Int)] w fun en w' => en = .returned (.tuple #[.int .u32 (((x + y + c) % 4294967296 : Nat) : Int), .int .u32 (((x + y + c) / 4294967296 : Nat) : Int)]) ∧ w = w' := by
  obtain ⟨R, hR⟩ : ∃ R, (((x + y + c) % 4294967296 : Nat) : Int) = R := ⟨_, rfl⟩
  obtain ⟨R2, hR2⟩ : ∃ R, (((x + y + c) / 4294967296 : Nat) : Int) = R := ⟨_, rfl⟩
  rw [hR, hR2]
  replace hR := Lib.hid hR
  replace hR2 := Lib.hid hR2
  go_enter Tryd.func43, Tryd.ntmps43
  go_wp2
  go_ret2
  exact ⟨ret_two (by rw [← hR.out]; omega) (by rw [← hR2.out]; omega), rfl⟩
set_option maxHeartbeats 1000000 in
theorem sub32 (x y c : Nat) (hx : x < 4294967296) (hy : y < 4294967296) (hc : c ≤ 1) (w : World) :
    Calls Tryd.prog 52 #[.int .u32 (x : Int), .int .u32 (y : Int), .int .u32 (c : Int)] w fun en w' => en = .returned (.tuple #[.int .u32 (((x + 4294967296 - y - c) % 4294967296 : Nat) : Int), .int .u32 ((if x < y + c then 1 else 0 : Nat) : Int)]) ∧ w = w' := by
  obtain ⟨B, hB⟩ : ∃ B, ((if x < y + c then 1 else 0 : Nat) : Int) = B := ⟨_, rfl⟩
  obtain ⟨R2, hR2⟩ : ∃ R, (((x + 4294967296 - y - c) % 4294967296 : Nat) : Int) = R := ⟨_, rfl⟩
  rw [hB, hR2]
  replace hB := Lib.hid hB
  replace hR2 := Lib.hid hR2
  go_enter Tryd.func52, Tryd.ntmps52
  go_wp2
  go_ret2
  exact ⟨ret_two (by rw [← hR2.out]; omega) (by rw [← hB.out]; exact borrow_val x y c hx hy hc), rfl⟩
set_option maxHeartbeats 2000000 in
theorem cut_any (A : Option Addr) (n c B : Nat) (l : List Nat) (hn : l.length = n) (hm : n ≤ 100000) (hnc : n ≤ c) (hl : ∀ x ∈ l, x < 4294967296) (w : World) (hR : Reads w B 1 A n (ints .u32 l)) (m : Nat) (hL : (dig 4294967296 (val 4294967296 l)).length = m) :
    Calls Tryd.prog 37 #[.slice A n c] w fun en w' => en = .returned (.slice A m m) ∧ w = w' := by
  have fin : ∀ k, k ≤ n → (∀ j, k ≤ j → j < n → l.getD j 0 = 0) → (k = 0 ∨ l.getD (k - 1) 0 ≠ 0) → k = m := by
    intro k hk h0 h1
    have := cut_eq (B := 4294967296) (by omega) hl (m := k) (by omega) (fun j h2 h3 => h0 j h2 (by omega)) h1
    rw [← hL, ← this, List.length_take]
    omega
  have gn := Lib.hid hn
  have gfin := Lib.hid fin
  have gl := Lib.hid hl
  clear hn fin hl hL
  go_enter Tryd.func37, Tryd.ntmps37
  go_wp2
  go_loop [3] (fun t => ∃ k : Nat, k ≤ n ∧ t = .int .i64 k ∧ Hid (∀ j, k ≤ j → j < n → l.getD j 0 = 0)) (fun t => (intOf t).toNat)
  case atStart => exact ⟨n, Nat.le_refl _, rfl, Lib.hid (fun j h1 h2 => by omega)⟩
  case round =>
    obtain ⟨k, hk, rfl, h0⟩ := hrel
    rcases Nat.eq_zero_or_pos k with rfl | hp
    · have hm0 := gfin.out 0 (Nat.zero_le _) h0.out (Or.inl rfl)
      subst hm0
      have i1 : (0 : Int) ≤ (c : Int) := by omega
      clear gfin gl gn h0
      go_wp2
      go_ret
      exact ⟨by simp, rfl⟩
    · obtain ⟨j, rfl⟩ : ∃ j, k = j + 1 := ⟨k - 1, by omega⟩
      obtain ⟨ad, rfl, hb, cA⟩ := at_ints gn.out hR (show j < n by omega)
      have d1 : decide ((0 : Int) < ((j + 1 : Nat) : Int)) = true := decide_eq_true (by omega)
      have d2 : decide (0 < j + 1) = true := decide_eq_true (by omega)
      have j0 : (0 : Int) ≤ (j : Int) := by omega
      have j1 : (j : Int) < n := by omega
      have j2 : (j : Int) + 1 - 1 = j := by omega
      have j3 : (0 : Int) < (j : Int) + 1 := by omega
      have jc : (j : Int) + 1 ≤ c := by omega
      have jc0 : (0 : Int) ≤ (j : Int) + 1 := by omega
      have jn : ((j : Int) + 1).toNat = j + 1 := by omega
      obtain ⟨x, hx⟩ : ∃ x, l.getD j 0 = x := ⟨_, rfl⟩
      rw [hx] at cA
      by_cases hz : x = 0
      · subst hz
        have h0' : Hid (∀ i, j ≤ i → i < n → l.getD i 0 = 0) := Lib.hid (fun i h1 h2 => by
          rcases Nat.eq_or_lt_of_le h1 with rfl | h3
          · exact hx
          · exact h0.out i (by omega) h2)
        clear hx hR gfin gl gn h0
        go_wp2
        go_round
        case rel => exact ⟨j, by omega, by first | rfl | go_num, h0'⟩
        case measure => simp [intOf] <;> omega
      · have d3 : ((x : Int) == 0) = false := by simp; omega
        have d4 : (x == 0) = false := by simpa using hz
        have hmj := gfin.out (j + 1) hk h0.out (Or.inr (by rw [Nat.add_sub_cancel, hx]; exact hz))
        subst hmj
        clear hx hR gfin gl gn h0
        go_wp2
        go_ret
        exact ⟨by simp, rfl⟩
set_option maxHeartbeats 2000000 in
theorem rcut_any (A : Option Addr) (n c B : Nat) (l : List Nat) (hn : l.length = n) (hm : n ≤ 100000) (hnc : n ≤ c) (hl : ∀ x ∈ l, x < 2) (w : World) (hR : Reads w B 1 A n (ints .u8 l)) (m : Nat) (hL : (dig 2 (val 2 l)).length = m) :
    Calls Tryd.prog 50 #[.slice A n c] w fun en w' => en = .returned (.slice A m c) ∧ w = w' := by
  have fin : ∀ k, k ≤ n → (∀ j, k ≤ j → j < n → l.getD j 0 = 0) → (k = 0 ∨ l.getD (k - 1) 0 ≠ 0) → k = m := by
    intro k hk h0 h1
    have := cut_eq (B := 2) (by omega) hl (m := k) (by omega) (fun j h2 h3 => h0 j h2 (by omega)) h1
    rw [← hL, ← this, List.length_take]
    omega
  have gn := Lib.hid hn
  have gfin := Lib.hid fin
  have gl := Lib.hid hl
  clear hn fin hl hL
  go_enter Tryd.func50, Tryd.ntmps50
  go_wp2
  go_loop [3] (fun t => ∃ k : Nat, k ≤ n ∧ t = .int .i64 k ∧ Hid (∀ j, k ≤ j → j < n → l.getD j 0 = 0)) (fun t => (intOf t).toNat)
  case atStart => exact ⟨n, Nat.le_refl _, rfl, Lib.hid (fun j h1 h2 => by omega)⟩
  case round =>
    obtain ⟨k, hk, rfl, h0⟩ := hrel
    rcases Nat.eq_zero_or_pos k with rfl | hp
    · have hm0 := gfin.out 0 (Nat.zero_le _) h0.out (Or.inl rfl)
      subst hm0
      have i1 : (0 : Int) ≤ (c : Int) := by omega
      clear gfin gl gn h0
      go_wp2
      go_ret
      exact ⟨by simp, rfl⟩
    · obtain ⟨j, rfl⟩ : ∃ j, k = j + 1 := ⟨k - 1, by omega⟩
      obtain ⟨ad, rfl, hb, cA⟩ := at_ints gn.out hR (show j < n by omega)
      have d1 : decide ((0 : Int) < ((j + 1 : Nat) : Int)) = true := decide_eq_true (by omega)
      have d2 : decide (0 < j + 1) = true := decide_eq_true (by omega)
      have j0 : (0 : Int) ≤ (j : Int) := by omega
      have j1 : (j : Int) < n := by omega
      have j2 : (j : Int) + 1 - 1 = j := by omega
      have j3 : (0 : Int) < (j : Int) + 1 := by omega
      have jc : (j : Int) + 1 ≤ c := by omega
      have jc0 : (0 : Int) ≤ (j : Int) + 1 := by omega
      have jn : ((j : Int) + 1).toNat = j + 1 := by omega
      obtain ⟨x, hx⟩ : ∃ x, l.getD j 0 = x := ⟨_, rfl⟩
      rw [hx] at cA
      by_cases hz : x = 0
      · subst hz
        have h0' : Hid (∀ i, j ≤ i → i < n → l.getD i 0 = 0) := Lib.hid (fun i h1 h2 => by
          rcases Nat.eq_or_lt_of_le h1 with rfl | h3
          · exact hx
          · exact h0.out i (by omega) h2)
        clear hx hR gfin gl gn h0
        go_wp2
        go_round
        case rel => exact ⟨j, by omega, by first | rfl | go_num, h0'⟩
        case measure => simp [intOf] <;> omega
      · have d3 : ((x : Int) == 0) = false := by simp; omega
        have d4 : (x == 0) = false := by simpa using hz
        have hmj := gfin.out (j + 1) hk h0.out (Or.inr (by rw [Nat.add_sub_cancel, hx]; exact hz))
        subst hmj
        clear hx hR gfin gl gn h0
        go_wp2
        go_ret
        exact ⟨by simp, rfl⟩
end Go.Proofs.YtaklmkjldmbleaaDoor
