/- Edge: what an edge may be, and the contracts of the functions that check it. -/
import Derived.Test.YtdibchmhigcaaaaProg
import Derived.Test.YtdibchmhigcaaaaKit
import Derived.Test.YtdibchmhigcaaaaKit2
namespace Go.Proofs.Ytdibchmhigcaaaa
open Go.ChangeShapes Go.WideShapes Go.ChangeAt Go.RowKit
set_option linter.unusedSimpArgs false
def ValOK (x : Int) : Prop := -2147483647 ≤ x ∧ x ≤ 2147483647
instance (x : Int) : Decidable (ValOK x) := by unfold ValOK; infer_instance
def EdgeOK (h : Bool) (a b : Int) : Prop := (h = true ∧ ValOK a ∧ ValOK b ∧ a ≤ b) ∨ (h = false ∧ a = 0 ∧ b = 0)
instance (h : Bool) (a b : Int) : Decidable (EdgeOK h a b) := by unfold EdgeOK; infer_instance
abbrev edg (h : Bool) (a b : Int) : Value := .agg #[.bool h, .int .i64 a, .int .i64 b]
set_option maxHeartbeats 1000000 in
theorem value_any (x : Int) (w : World) :
    Calls Try.prog 23 #[.int .i64 x] w fun en w' => en = .returned (.bool (decide (ValOK x))) ∧ w = w' := by
  go_enter Try.func23, Try.ntmps23
  go_wp2
  all_goals
    go_ret
    exact ⟨ret_bool (by first | exact (decide_eq_false (by unfold ValOK; omega)).symm | exact (decide_eq_true (by unfold ValOK; omega)).symm | (refine decide_eq_decide.mpr ?_; unfold ValOK; omega)), rfl⟩
theorem value_yes {x : Int} (h : ValOK x) (w : World) : Calls Try.prog 23 #[.int .i64 x] w fun en w' => en = .returned (.bool true) ∧ w = w' := by
  rw [← decide_eq_true h]; exact value_any x w
theorem value_no {x : Int} (h : ¬ ValOK x) (w : World) : Calls Try.prog 23 #[.int .i64 x] w fun en w' => en = .returned (.bool false) ∧ w = w' := by
  rw [← decide_eq_false h]; exact value_any x w
theorem rvalue_any (x : Int) (w : World) :
    Calls Try.prog 26 #[.int .i64 x] w fun en w' => en = .returned (.bool (decide (ValOK x))) ∧ w = w' := by
  go_enter Try.func26, Try.ntmps26
  go_wp2
  all_goals
    go_ret
    exact ⟨ret_bool (by first | exact (decide_eq_false (by unfold ValOK; omega)).symm | exact (decide_eq_true (by unfold ValOK; omega)).symm | (refine decide_eq_decide.mpr ?_; unfold ValOK; omega)), rfl⟩
theorem rvalue_yes {x : Int} (h : ValOK x) (w : World) : Calls Try.prog 26 #[.int .i64 x] w fun en w' => en = .returned (.bool true) ∧ w = w' := by
  rw [← decide_eq_true h]; exact rvalue_any x w
theorem rvalue_no {x : Int} (h : ¬ ValOK x) (w : World) : Calls Try.prog 26 #[.int .i64 x] w fun en w' => en = .returned (.bool false) ∧ w = w' := by
  rw [← decide_eq_false h]; exact rvalue_any x w
set_option maxHeartbeats 4000000 in
theorem check_yes {h : Bool} {a b : Int} (ho : EdgeOK h a b) (w : World) :
    Calls Try.prog 13 #[edg h a b] w fun en w' => en = .returned (.int .i64 0) ∧ Below w.heap.size w w' := by
  rcases ho with ⟨rfl, ha, hb, hab⟩ | ⟨rfl, rfl, rfl⟩
  · have h1 : decide (b < a) = false := decide_eq_false (by omega)
    go_enter Try.func13, Try.ntmps13
    go_wp2_with (first | (go_at_call 23; refine (value_yes ha _).mono ?_; clear ha; rintro en w1 ⟨rfl, rfl⟩) | (go_at_call 23; refine (value_yes hb _).mono ?_; clear hb; rintro en w1 ⟨rfl, rfl⟩))
    go_ret
    exact ⟨rfl, (Below.refl _ _).alloc (Nat.le_refl _) _⟩
  · go_enter Try.func13, Try.ntmps13
    go_wp2
    go_ret
    exact ⟨rfl, (Below.refl _ _).alloc (Nat.le_refl _) _⟩
set_option maxHeartbeats 4000000 in
theorem check_no {h : Bool} {a b : Int} (ho : ¬ EdgeOK h a b) (w : World) :
    Calls Try.prog 13 #[edg h a b] w fun en w' => en = .returned (.int .i64 8) ∧ Below w.heap.size w w' := by
  cases h
  · have hab : ¬ (a = 0 ∧ b = 0) := fun hh => ho (Or.inr ⟨rfl, hh⟩)
    by_cases ha : a = 0
    · subst ha
      have hb : b ≠ 0 := fun hb => hab ⟨rfl, hb⟩
      have hb' : (b == 0) = false := by simpa using hb
      go_enter Try.func13, Try.ntmps13
      go_wp2
      go_ret
      exact ⟨rfl, (Below.refl _ _).alloc (Nat.le_refl _) _⟩
    · have ha' : (a == 0) = false := by simpa using ha
      go_enter Try.func13, Try.ntmps13
      go_wp2
      go_ret
      exact ⟨rfl, (Below.refl _ _).alloc (Nat.le_refl _) _⟩
  · by_cases ha : ValOK a
    · by_cases hb : ValOK b
      · have h1 : decide (b < a) = true := decide_eq_true (by
          by_cases h2 : b < a
          · exact h2
          · exact absurd (Or.inl ⟨rfl, ha, hb, by omega⟩) ho)
        go_enter Try.func13, Try.ntmps13
        go_wp2_with (first | (go_at_call 23; refine (value_yes ha _).mono ?_; clear ha; rintro en w1 ⟨rfl, rfl⟩) | (go_at_call 23; refine (value_yes hb _).mono ?_; clear hb; rintro en w1 ⟨rfl, rfl⟩))
        go_ret
        exact ⟨rfl, (Below.refl _ _).alloc (Nat.le_refl _) _⟩
      · go_enter Try.func13, Try.ntmps13
        go_wp2_with (first | (go_at_call 23; refine (value_yes ha _).mono ?_; clear ha; rintro en w1 ⟨rfl, rfl⟩) | (go_at_call 23; refine (value_no hb _).mono ?_; clear hb; rintro en w1 ⟨rfl, rfl⟩))
        go_ret
        exact ⟨rfl, (Below.refl _ _).alloc (Nat.le_refl _) _⟩
    · go_enter Try.func13, Try.ntmps13
      go_wp2_with (first | (go_at_call 23; refine (value_no ha _).mono ?_; clear ha; rintro en w1 ⟨rfl, rfl⟩))
      go_ret
      exact ⟨rfl, (Below.refl _ _).alloc (Nat.le_refl _) _⟩
end Go.Proofs.Ytdibchmhigcaaaa
