/- Ether: copies: what they read as; which ones may be (the program's and the reference's answers). -/
import Derived.Test.YtbiodoeimbfbnaaProg
import Derived.Test.YtbiodoeimbfbnaaRec
namespace Go.Proofs.Ytbiodoeimbfbnaa
open Go.ChangeShapes Go.WideShapes Go.ChangeAt Go.RowKit
set_option linter.unusedSimpArgs false
set_option linter.unusedVariables false
structure Cp where
  num : Int
  dn : Int
  txt : List Nat
  sp : Bool
deriving DecidableEq
def fds (c : Cp) : List Fd := [.val (.int .i64 c.num), .val (.int .i64 c.dn), .row .u8 c.txt, .val (.bool c.sp)]
abbrev Cps (w : World) (B : Nat) (A : Option Addr) (n : Nat) (l : List Cp) : Prop := Recs w B 4 A n (l.map fds)
theorem add_lit (a : Addr) {j : Nat} (h : 0 < j) : a.add j = ⟨a.block, a.off + j, none⟩ := by
  unfold Addr.add
  rw [if_neg (by omega)]
/-- One copy of a row. -/
theorem cps_at {w : World} {B n i : Nat} {A : Option Addr} {l : List Cp} (h : Cps w B A n l) (hi : i < n) : ∃ ad num dn txt sp X m d, A = some ad ∧ ad.block < B ∧ l[i]? = some ⟨num, dn, txt, sp⟩ ∧ txt.length = m ∧ m ≤ d ∧ Reads w B 1 X m (ints .u8 txt) ∧
    w.cell? (ad.add (i * 4)) = some (.int .i64 num) ∧ w.cell? ⟨(ad.add (i * 4)).block, (ad.add (i * 4)).off + 1, none⟩ = some (.int .i64 dn) ∧ w.cell? ⟨(ad.add (i * 4)).block, (ad.add (i * 4)).off + 2, none⟩ = some (.slice X m d) ∧ w.cell? ⟨(ad.add (i * 4)).block, (ad.add (i * 4)).off + 3, none⟩ = some (.bool sp) := by
  obtain ⟨ad, r, e, hb, hr, hc⟩ := h.at_ hi
  rw [List.getElem?_map] at hr
  obtain ⟨c, hl, rfl⟩ := Option.map_eq_some_iff.1 hr
  obtain ⟨num, dn, txt, sp⟩ := c
  have h0 := hc 0 _ rfl
  have h1 := hc 1 _ rfl
  obtain ⟨X, m, d, h2, h3, h4, h5⟩ := hc 2 _ rfl
  have h6 := hc 3 _ rfl
  rw [← add_of_add, add_lit _ (by omega)] at h1 h5 h6
  exact ⟨ad, num, dn, txt, sp, X, m, d, e, hb, hl, h2, h3, h4, h0, h1, h5, h6⟩
theorem cps_len {w : World} {B n : Nat} {A : Option Addr} {l : List Cp} (h : Cps w B A n l) : l.length = n := by have := h.1; simpa using this
/-- May a copy be? -/
def mayC (num dn : Int) (n : Nat) : Bool := decide (0 ≤ num ∧ num ≤ 1048575 ∧ 0 ≤ dn ∧ dn < 8 ∧ 0 < n ∧ n ≤ 4105)
def mayOf (c : Cp) : Bool := mayC c.num c.dn c.txt.length
set_option maxHeartbeats 2000000 in
theorem may_any (num dn : Int) (X : Option Addr) (n d : Nat) (sp : Bool) (R : Bool) (hR : mayC num dn n = R) (w : World) :
    Calls Try.prog 21 #[.agg #[.int .i64 num, .int .i64 dn, .slice X n d, .bool sp]] w fun en w' => en = .returned (.bool R) ∧ Below w.heap.size w w' := by
  have hB := (Below.refl w.heap.size w).alloc (Nat.le_refl _) (.cells #[.int .i64 num, .int .i64 dn, .slice X n d, .bool sp] 25)
  by_cases h0 : 0 ≤ num
  rotate_left
  · have hf : mayC num dn n = false := by unfold mayC; exact decide_eq_false (by omega)
    obtain rfl := hf.symm.trans hR
    have d0_0 : decide ((0 : Int) ≤ num) = false := decide_eq_false (by omega)
    clear hf hR h0
    go_enter Try.func21, Try.ntmps21
    go_wp2
    go_ret
    exact ⟨rfl, hB⟩
  by_cases h1 : num ≤ 1048575
  rotate_left
  · have hf : mayC num dn n = false := by unfold mayC; exact decide_eq_false (by omega)
    obtain rfl := hf.symm.trans hR
    have d0_0 : decide ((0 : Int) ≤ num) = true := decide_eq_true (by omega)
    have d1_0 : decide (num ≤ 1048575) = false := decide_eq_false (by omega)
    clear hf hR h0 h1
    go_enter Try.func21, Try.ntmps21
    go_wp2
    go_ret
    exact ⟨rfl, hB⟩
  by_cases h2 : 0 ≤ dn
  rotate_left
  · have hf : mayC num dn n = false := by unfold mayC; exact decide_eq_false (by omega)
    obtain rfl := hf.symm.trans hR
    have d0_0 : decide ((0 : Int) ≤ num) = true := decide_eq_true (by omega)
    have d1_0 : decide (num ≤ 1048575) = true := decide_eq_true (by omega)
    have d2_0 : decide ((0 : Int) ≤ dn) = false := decide_eq_false (by omega)
    clear hf hR h0 h1 h2
    go_enter Try.func21, Try.ntmps21
    go_wp2
    go_ret
    exact ⟨rfl, hB⟩
  by_cases h3 : dn < 8
  rotate_left
  · have hf : mayC num dn n = false := by unfold mayC; exact decide_eq_false (by omega)
    obtain rfl := hf.symm.trans hR
    have d0_0 : decide ((0 : Int) ≤ num) = true := decide_eq_true (by omega)
    have d1_0 : decide (num ≤ 1048575) = true := decide_eq_true (by omega)
    have d2_0 : decide ((0 : Int) ≤ dn) = true := decide_eq_true (by omega)
    have d3_0 : decide (dn < 8) = false := decide_eq_false (by omega)
    clear hf hR h0 h1 h2 h3
    go_enter Try.func21, Try.ntmps21
    go_wp2
    go_ret
    exact ⟨rfl, hB⟩
  by_cases h4 : 0 < n
  rotate_left
  · have hf : mayC num dn n = false := by unfold mayC; exact decide_eq_false (by omega)
    obtain rfl := hf.symm.trans hR
    have d0_0 : decide ((0 : Int) ≤ num) = true := decide_eq_true (by omega)
    have d1_0 : decide (num ≤ 1048575) = true := decide_eq_true (by omega)
    have d2_0 : decide ((0 : Int) ≤ dn) = true := decide_eq_true (by omega)
    have d3_0 : decide (dn < 8) = true := decide_eq_true (by omega)
    have d4_0 : decide ((0 : Int) < n) = false := decide_eq_false (by omega)
    have d4_1 : decide (0 < n) = false := decide_eq_false (by omega)
    have d4_2 : decide ((1 : Int) ≤ n) = false := decide_eq_false (by omega)
    have d4_3 : decide (1 ≤ n) = false := decide_eq_false (by omega)
    clear hf hR h0 h1 h2 h3 h4
    go_enter Try.func21, Try.ntmps21
    go_wp2
    go_ret
    exact ⟨rfl, hB⟩
  by_cases h5 : n ≤ 4105
  rotate_left
  · have hf : mayC num dn n = false := by unfold mayC; exact decide_eq_false (by omega)
    obtain rfl := hf.symm.trans hR
    have d0_0 : decide ((0 : Int) ≤ num) = true := decide_eq_true (by omega)
    have d1_0 : decide (num ≤ 1048575) = true := decide_eq_true (by omega)
    have d2_0 : decide ((0 : Int) ≤ dn) = true := decide_eq_true (by omega)
    have d3_0 : decide (dn < 8) = true := decide_eq_true (by omega)
    have d4_0 : decide ((0 : Int) < n) = true := decide_eq_true (by omega)
    have d4_1 : decide (0 < n) = true := decide_eq_true (by omega)
    have d4_2 : decide ((1 : Int) ≤ n) = true := decide_eq_true (by omega)
    have d4_3 : decide (1 ≤ n) = true := decide_eq_true (by omega)
    have d5_0 : decide ((n : Int) ≤ 4105) = false := decide_eq_false (by omega)
    have d5_1 : decide (n ≤ 4105) = false := decide_eq_false (by omega)
    clear hf hR h0 h1 h2 h3 h4 h5
    go_enter Try.func21, Try.ntmps21
    go_wp2
    go_ret
    exact ⟨rfl, hB⟩
  have hf : mayC num dn n = true := by unfold mayC; exact decide_eq_true (by omega)
  obtain rfl := hf.symm.trans hR
  have d0_0 : decide ((0 : Int) ≤ num) = true := decide_eq_true (by omega)
  have d1_0 : decide (num ≤ 1048575) = true := decide_eq_true (by omega)
  have d2_0 : decide ((0 : Int) ≤ dn) = true := decide_eq_true (by omega)
  have d3_0 : decide (dn < 8) = true := decide_eq_true (by omega)
  have d4_0 : decide ((0 : Int) < n) = true := decide_eq_true (by omega)
  have d4_1 : decide (0 < n) = true := decide_eq_true (by omega)
  have d4_2 : decide ((1 : Int) ≤ n) = true := decide_eq_true (by omega)
  have d4_3 : decide (1 ≤ n) = true := decide_eq_true (by omega)
  have d5_0 : decide ((n : Int) ≤ 4105) = true := decide_eq_true (by omega)
  have d5_1 : decide (n ≤ 4105) = true := decide_eq_true (by omega)
  clear hf hR h0 h1 h2 h3 h4 h5
  go_enter Try.func21, Try.ntmps21
  go_wp2
  go_ret
  exact ⟨rfl, hB⟩
set_option maxHeartbeats 2000000 in
theorem rmay_any (num dn : Int) (X : Option Addr) (n d : Nat) (sp : Bool) (R : Bool) (hR : mayC num dn n = R) (w : World) :
    Calls Try.prog 23 #[.agg #[.int .i64 num, .int .i64 dn, .slice X n d, .bool sp]] w fun en w' => en = .returned (.bool R) ∧ Below w.heap.size w w' := by
  have hB := (Below.refl w.heap.size w).alloc (Nat.le_refl _) (.cells #[.int .i64 num, .int .i64 dn, .slice X n d, .bool sp] 25)
  by_cases h0 : 0 ≤ num
  rotate_left
  · have hf : mayC num dn n = false := by unfold mayC; exact decide_eq_false (by omega)
    obtain rfl := hf.symm.trans hR
    have d0_0 : decide ((0 : Int) ≤ num) = false := decide_eq_false (by omega)
    clear hf hR h0
    go_enter Try.func23, Try.ntmps23
    go_wp2
    go_ret
    exact ⟨rfl, hB⟩
  by_cases h1 : num ≤ 1048575
  rotate_left
  · have hf : mayC num dn n = false := by unfold mayC; exact decide_eq_false (by omega)
    obtain rfl := hf.symm.trans hR
    have d0_0 : decide ((0 : Int) ≤ num) = true := decide_eq_true (by omega)
    have d1_0 : decide (num ≤ 1048575) = false := decide_eq_false (by omega)
    clear hf hR h0 h1
    go_enter Try.func23, Try.ntmps23
    go_wp2
    go_ret
    exact ⟨rfl, hB⟩
  by_cases h2 : 0 ≤ dn
  rotate_left
  · have hf : mayC num dn n = false := by unfold mayC; exact decide_eq_false (by omega)
    obtain rfl := hf.symm.trans hR
    have d0_0 : decide ((0 : Int) ≤ num) = true := decide_eq_true (by omega)
    have d1_0 : decide (num ≤ 1048575) = true := decide_eq_true (by omega)
    have d2_0 : decide ((0 : Int) ≤ dn) = false := decide_eq_false (by omega)
    clear hf hR h0 h1 h2
    go_enter Try.func23, Try.ntmps23
    go_wp2
    go_ret
    exact ⟨rfl, hB⟩
  by_cases h3 : dn < 8
  rotate_left
  · have hf : mayC num dn n = false := by unfold mayC; exact decide_eq_false (by omega)
    obtain rfl := hf.symm.trans hR
    have d0_0 : decide ((0 : Int) ≤ num) = true := decide_eq_true (by omega)
    have d1_0 : decide (num ≤ 1048575) = true := decide_eq_true (by omega)
    have d2_0 : decide ((0 : Int) ≤ dn) = true := decide_eq_true (by omega)
    have d3_0 : decide (dn < 8) = false := decide_eq_false (by omega)
    clear hf hR h0 h1 h2 h3
    go_enter Try.func23, Try.ntmps23
    go_wp2
    go_ret
    exact ⟨rfl, hB⟩
  by_cases h4 : 0 < n
  rotate_left
  · have hf : mayC num dn n = false := by unfold mayC; exact decide_eq_false (by omega)
    obtain rfl := hf.symm.trans hR
    have d0_0 : decide ((0 : Int) ≤ num) = true := decide_eq_true (by omega)
    have d1_0 : decide (num ≤ 1048575) = true := decide_eq_true (by omega)
    have d2_0 : decide ((0 : Int) ≤ dn) = true := decide_eq_true (by omega)
    have d3_0 : decide (dn < 8) = true := decide_eq_true (by omega)
    have d4_0 : decide ((0 : Int) < n) = false := decide_eq_false (by omega)
    have d4_1 : decide (0 < n) = false := decide_eq_false (by omega)
    have d4_2 : decide ((1 : Int) ≤ n) = false := decide_eq_false (by omega)
    have d4_3 : decide (1 ≤ n) = false := decide_eq_false (by omega)
    clear hf hR h0 h1 h2 h3 h4
    go_enter Try.func23, Try.ntmps23
    go_wp2
    go_ret
    exact ⟨rfl, hB⟩
  by_cases h5 : n ≤ 4105
  rotate_left
  · have hf : mayC num dn n = false := by unfold mayC; exact decide_eq_false (by omega)
    obtain rfl := hf.symm.trans hR
    have d0_0 : decide ((0 : Int) ≤ num) = true := decide_eq_true (by omega)
    have d1_0 : decide (num ≤ 1048575) = true := decide_eq_true (by omega)
    have d2_0 : decide ((0 : Int) ≤ dn) = true := decide_eq_true (by omega)
    have d3_0 : decide (dn < 8) = true := decide_eq_true (by omega)
    have d4_0 : decide ((0 : Int) < n) = true := decide_eq_true (by omega)
    have d4_1 : decide (0 < n) = true := decide_eq_true (by omega)
    have d4_2 : decide ((1 : Int) ≤ n) = true := decide_eq_true (by omega)
    have d4_3 : decide (1 ≤ n) = true := decide_eq_true (by omega)
    have d5_0 : decide ((n : Int) ≤ 4105) = false := decide_eq_false (by omega)
    have d5_1 : decide (n ≤ 4105) = false := decide_eq_false (by omega)
    clear hf hR h0 h1 h2 h3 h4 h5
    go_enter Try.func23, Try.ntmps23
    go_wp2
    go_ret
    exact ⟨rfl, hB⟩
  have hf : mayC num dn n = true := by unfold mayC; exact decide_eq_true (by omega)
  obtain rfl := hf.symm.trans hR
  have d0_0 : decide ((0 : Int) ≤ num) = true := decide_eq_true (by omega)
  have d1_0 : decide (num ≤ 1048575) = true := decide_eq_true (by omega)
  have d2_0 : decide ((0 : Int) ≤ dn) = true := decide_eq_true (by omega)
  have d3_0 : decide (dn < 8) = true := decide_eq_true (by omega)
  have d4_0 : decide ((0 : Int) < n) = true := decide_eq_true (by omega)
  have d4_1 : decide (0 < n) = true := decide_eq_true (by omega)
  have d4_2 : decide ((1 : Int) ≤ n) = true := decide_eq_true (by omega)
  have d4_3 : decide (1 ≤ n) = true := decide_eq_true (by omega)
  have d5_0 : decide ((n : Int) ≤ 4105) = true := decide_eq_true (by omega)
  have d5_1 : decide (n ≤ 4105) = true := decide_eq_true (by omega)
  clear hf hR h0 h1 h2 h3 h4 h5
  go_enter Try.func23, Try.ntmps23
  go_wp2
  go_ret
  exact ⟨rfl, hB⟩
end Go.Proofs.Ytbiodoeimbfbnaa
