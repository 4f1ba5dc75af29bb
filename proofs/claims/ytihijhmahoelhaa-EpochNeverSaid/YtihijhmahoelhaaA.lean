/- Epoch: what a clock may be, and the contracts of the two functions that check it. -/
import Derived.Test.YtihijhmahoelhaaProg
import Derived.Test.YtihijhmahoelhaaKit
namespace Go.Proofs.Ytihijhmahoelhaa
open Go.ChangeShapes Go.WideShapes Go.ChangeAt Go.RowKit

def ClkOK (l t s e f : Int) : Prop := (1 ≤ l ∧ l ≤ 64) ∧ (0 ≤ s ∧ s ≤ t ∧ t ≤ 2147483647) ∧ (0 ≤ e ∧ e ≤ 65535) ∧ (0 ≤ f ∧ f ≤ 65536) ∧ (t - s < l ∨ e = 65535)
instance (l t s e f : Int) : Decidable (ClkOK l t s e f) := by unfold ClkOK; infer_instance
def chk (l t s e f : Int) : Int := if ClkOK l t s e f then 0 else 8
theorem chk_yes {l t s e f : Int} (h : ClkOK l t s e f) : chk l t s e f = 0 := if_pos h
theorem chk_no {l t s e f : Int} (h : ¬ ClkOK l t s e f) : chk l t s e f = 8 := if_neg h
def mayB (l t s e f : Int) : Bool := decide (ClkOK l t s e f)
abbrev clk (l t s e f : Int) : Value := .agg #[.int .i64 l, .int .i64 t, .int .i64 s, .int .i64 e, .int .i64 f]

set_option maxHeartbeats 1000000 in
theorem check_any (l t s e f : Int) (w : World) :
    Calls Try.prog 19 #[clk l t s e f] w fun en w' => en = .returned (.int .i64 (chk l t s e f)) ∧ Below w.heap.size w w' := by
  go_enter Try.func19, Try.ntmps19
  go_wp2
  all_goals
    go_ret
    exact ⟨ret_int (by first | (rw [chk_no (by unfold ClkOK; omega)]; done) | (rw [chk_yes (by unfold ClkOK; omega)]; done) | (simp only [bne_iff_ne, bne_eq_false_iff_eq, ne_eq] at *; first | (rw [chk_no (by unfold ClkOK; omega)]; done) | (rw [chk_yes (by unfold ClkOK; omega)]; done))), (Below.refl _ _).alloc (Nat.le_refl _) _⟩

theorem may_iff {l t s e f : Int} : mayB l t s e f = true ↔ ClkOK l t s e f := decide_eq_true_iff
set_option maxHeartbeats 1000000 in
theorem may_any (l t s e f : Int) (w : World) :
    Calls Try.prog 23 #[clk l t s e f] w fun en w' => en = .returned (.bool (mayB l t s e f)) ∧ Below w.heap.size w w' := by
  go_enter Try.func23, Try.ntmps23
  go_wp2
  all_goals
    go_ret
    exact ⟨ret_bool (by first | exact (decide_eq_false (by unfold ClkOK; omega)).symm | exact (decide_eq_true (by unfold ClkOK; omega)).symm | (rw [Bool.eq_iff_iff, may_iff]; unfold ClkOK; simp only [Bool.or_eq_true, decide_eq_true_eq, beq_iff_eq]; omega)), (Below.refl _ _).alloc (Nat.le_refl _) _⟩

theorem check_yes {l t s e f : Int} (h : ClkOK l t s e f) (w : World) :
    Calls Try.prog 19 #[clk l t s e f] w fun en w' => en = .returned (.int .i64 0) ∧ Below w.heap.size w w' := by
  rw [← chk_yes h]; exact check_any l t s e f w
theorem check_no {l t s e f : Int} (h : ¬ ClkOK l t s e f) (w : World) :
    Calls Try.prog 19 #[clk l t s e f] w fun en w' => en = .returned (.int .i64 8) ∧ Below w.heap.size w w' := by
  rw [← chk_no h]; exact check_any l t s e f w
end Go.Proofs.Ytihijhmahoelhaa
