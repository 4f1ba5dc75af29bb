/- Epoch: contracts of the two Checks that tell the world exactly. -/
import Derived.Test.YtihijhmahoelhaaE
import Derived.Deep.RegionHeld3
import Derived.Deep.DrawnRows
import Derived.StillTactics
import Derived.OwnWalk
import Derived.Laws.Pointers
namespace Go.Proofs.Ytihijhmahoelhaa.EpochTells
open Go.ChangeShapes Go.WideShapes Go.ChangeAt Go.RowKit
attribute [local go_sem ↓] Go.wp_at_zero Go.wp_at_succ
set_option linter.unusedSimpArgs false
abbrev box (c : K) : Obj := .cells #[.int .i64 c.l, .int .i64 c.t, .int .i64 c.s, .int .i64 c.e, .int .i64 c.f] 23
set_option maxHeartbeats 1000000 in
theorem check_ex (c : K) (w : World) :
    Calls Try.prog 19 #[clk c.l c.t c.s c.e c.f] w fun en w' => en = .returned (.int .i64 (chk c.l c.t c.s c.e c.f)) ∧ w.alloc (box c) = w' := by
  obtain ⟨l, t, s, e, f⟩ := c
  dsimp only
  go_enter Try.func19, Try.ntmps19
  go_wp2
  all_goals
    go_ret
    exact ⟨ret_int (by first | (rw [chk_no (by unfold ClkOK; omega)]; done) | (rw [chk_yes (by unfold ClkOK; omega)]; done) | (simp only [bne_iff_ne, bne_eq_false_iff_eq, ne_eq] at *; first | (rw [chk_no (by unfold ClkOK; omega)]; done) | (rw [chk_yes (by unfold ClkOK; omega)]; done))), rfl⟩
set_option maxHeartbeats 1000000 in
theorem may_ex (c : K) (w : World) :
    Calls Try.prog 23 #[clk c.l c.t c.s c.e c.f] w fun en w' => en = .returned (.bool (mayB c.l c.t c.s c.e c.f)) ∧ w.alloc (box c) = w' := by
  obtain ⟨l, t, s, e, f⟩ := c
  dsimp only
  go_enter Try.func23, Try.ntmps23
  go_wp2
  all_goals
    go_ret
    exact ⟨ret_bool (by first | exact (decide_eq_false (by unfold ClkOK; omega)).symm | exact (decide_eq_true (by unfold ClkOK; omega)).symm | (rw [Bool.eq_iff_iff, may_iff]; unfold ClkOK; simp only [Bool.or_eq_true, decide_eq_true_eq, beq_iff_eq]; omega)), rfl⟩
theorem rcheck_ex (c : K) (w : World) :
    Calls Try.prog 20 #[clk c.l c.t c.s c.e c.f] w fun en w' => en = .returned (.int .i64 (chk c.l c.t c.s c.e c.f)) ∧ (w.alloc (box c)).alloc (box c) = w' := by
  by_cases h : c.ok
  · rw [chk_yes h]
    have hm : mayB c.l c.t c.s c.e c.f = true := may_iff.2 h
    have hc := fun w => may_ex c w
    rw [hm] at hc
    go_enter Try.func20, Try.ntmps20
    go_wp2_with (go_at_call 23; refine (hc _).mono ?_; rintro en w1 ⟨rfl, rfl⟩)
    go_ret
    exact ⟨rfl, rfl⟩
  · rw [chk_no h]
    have hm : mayB c.l c.t c.s c.e c.f = false := decide_eq_false h
    have hc := fun w => may_ex c w
    rw [hm] at hc
    go_enter Try.func20, Try.ntmps20
    go_wp2_with (go_at_call 23; refine (hc _).mono ?_; rintro en w1 ⟨rfl, rfl⟩)
    go_ret
    exact ⟨rfl, rfl⟩
end Go.Proofs.Ytihijhmahoelhaa.EpochTells
