/- Mail: nodes -/
import Derived.Test.YtjmhefkmpfkpbaaPD
namespace Go.Proofs.Ytjmhefkmpfkpbaa
open Go.ChangeShapes Go.WideShapes Go.ChangeAt Go.RowKit
set_option linter.unusedSimpArgs false
set_option linter.unusedVariables false
def badN (x : Int) : Bool := decide (x < 0) || decide (8 ≤ x)
theorem nbad (x : Int) (w : World) (Q : Bool) (hQ : badN x = Q) : Calls Try.prog 74 #[.int .i64 x] w fun en w' => en = .returned (.bool Q) ∧ w = w' := by
  obtain ⟨q0, hq0⟩ : ∃ q, decide (x < 0) = q := ⟨_, rfl⟩
  obtain ⟨q1, hq1⟩ : ∃ q, decide (8 ≤ x) = q := ⟨_, rfl⟩
  unfold badN at hQ
  rw [hq0, hq1] at hQ
  subst hQ
  cases q0 <;> cases q1
  all_goals
    go_enter Try.func74, Try.ntmps74
    go_wp2
    go_ret
    exact ⟨rfl, rfl⟩
theorem nidx (g : Nat) (a b : Int) (w : World) (ca : w.cell? ⟨g, 0, none⟩ = some (.int .i64 a)) (cb : w.cell? ⟨g, 1, none⟩ = some (.int .i64 b)) :
    Calls Try.prog 95 #[.slice (some ⟨g, 0, none⟩) 2 2, .func (.func 74) #[] #[]] w fun en w' => (∃ r : Int, en = .returned (.int .i64 r) ∧ ((r = 0 ∧ badN a = true) ∨ (r = 1 ∧ badN b = true) ∨ (r = -1 ∧ badN a = false ∧ badN b = false))) ∧ w = w' := by
  obtain ⟨qa, hqa⟩ : ∃ q, badN a = q := ⟨_, rfl⟩
  obtain ⟨qb, hqb⟩ : ∃ q, badN b = q := ⟨_, rfl⟩
  have fa := fun w' => nbad a w' qa hqa
  have fb := fun w' => nbad b w' qb hqb
  rw [hqa, hqb]
  clear hqa hqb
  cases qa <;> cases qb
  all_goals
    go_enter Try.func95, Try.ntmps95
    go_wp2
  · go_loopw [8] (fun t wr => (t = .int .i64 0 ∨ t = .int .i64 1 ∨ t = .int .i64 2) ∧ w = wr) (fun t _ => 2 - (intOf t).toNat)
    case atStart => exact ⟨.inl rfl, rfl⟩
    case round =>
      obtain ⟨rfl | rfl | rfl, rfl⟩ := hrel
      · go_wp2_with (go_at_call 74; refine (fa _).mono ?_; rintro en w2 ⟨rfl, rfl⟩)
        go_roundw
        case rel => exact ⟨.inr (.inl rfl), (by first | rfl | trivial)⟩
        case measure => simp [intOf]
      · go_wp2_with (go_at_call 74; refine (fb _).mono ?_; rintro en w2 ⟨rfl, rfl⟩)
        go_roundw
        case rel => exact ⟨.inr (.inr rfl), (by first | rfl | trivial)⟩
        case measure => simp [intOf]
      · go_wp2
        go_ret
        exact ⟨⟨-1, rfl, .inr (.inr ⟨(by first | rfl | trivial), (by first | rfl | trivial), (by first | rfl | trivial)⟩)⟩, (by first | rfl | trivial)⟩
  · go_loopw [8] (fun t wr => (t = .int .i64 0 ∨ t = .int .i64 1) ∧ w = wr) (fun t _ => 2 - (intOf t).toNat)
    case atStart => exact ⟨.inl rfl, rfl⟩
    case round =>
      obtain ⟨rfl | rfl, rfl⟩ := hrel
      · go_wp2_with (go_at_call 74; refine (fa _).mono ?_; rintro en w2 ⟨rfl, rfl⟩)
        go_roundw
        case rel => exact ⟨.inr rfl, (by first | rfl | trivial)⟩
        case measure => simp [intOf]
      · go_wp2_with (go_at_call 74; refine (fb _).mono ?_; rintro en w2 ⟨rfl, rfl⟩)
        go_ret
        exact ⟨⟨1, rfl, .inr (.inl ⟨(by first | rfl | trivial), (by first | rfl | trivial)⟩)⟩, (by first | rfl | trivial)⟩
  · go_loopw [8] (fun t wr => t = .int .i64 0 ∧ w = wr) (fun t _ => 2 - (intOf t).toNat)
    case atStart => exact ⟨rfl, rfl⟩
    case round =>
      obtain ⟨rfl, rfl⟩ := hrel
      go_wp2_with (go_at_call 74; refine (fa _).mono ?_; rintro en w2 ⟨rfl, rfl⟩)
      go_ret
      exact ⟨⟨0, rfl, .inl ⟨(by first | rfl | trivial), (by first | rfl | trivial)⟩⟩, (by first | rfl | trivial)⟩
  · go_loopw [8] (fun t wr => t = .int .i64 0 ∧ w = wr) (fun t _ => 2 - (intOf t).toNat)
    case atStart => exact ⟨rfl, rfl⟩
    case round =>
      obtain ⟨rfl, rfl⟩ := hrel
      go_wp2_with (go_at_call 74; refine (fa _).mono ?_; rintro en w2 ⟨rfl, rfl⟩)
      go_ret
      exact ⟨⟨0, rfl, .inl ⟨(by first | rfl | trivial), (by first | rfl | trivial)⟩⟩, (by first | rfl | trivial)⟩
theorem node_any (g : Nat) (a b : Int) (w : World) (ca : w.cell? ⟨g, 0, none⟩ = some (.int .i64 a)) (cb : w.cell? ⟨g, 1, none⟩ = some (.int .i64 b)) :
    Calls Try.prog 40 #[.slice (some ⟨g, 0, none⟩) 2 2] w fun en w' => en = .returned (.bool (!(badN a || badN b))) ∧ w = w' := by
  have hc : Calls Try.prog 73 #[.slice (some ⟨g, 0, none⟩) 2 2, .func (.func 74) #[] #[]] w fun en w' => en = .returned (.bool (badN a || badN b)) ∧ w = w' := by
    have hi := nidx g a b w ca cb
    obtain ⟨Q, hQ⟩ : ∃ Q, (badN a || badN b) = Q := ⟨_, rfl⟩
    rw [hQ]
    have gQ := Lib.hid hQ
    clear ca cb hQ
    go_enter Try.func73, Try.ntmps73
    go_wp2_with fail
    refine hi.mono ?_
    rintro en w1 ⟨⟨r, rfl, ⟨rfl, h⟩ | ⟨rfl, h⟩ | ⟨rfl, h, h2⟩⟩, rfl⟩
    · obtain rfl : true = Q := by rw [← gQ.out, h]; simp
      clear h
      go_wp2
      go_ret
      exact ⟨rfl, rfl⟩
    · obtain rfl : true = Q := by rw [← gQ.out, h]; simp
      clear h
      go_wp2
      go_ret
      exact ⟨rfl, rfl⟩
    · obtain rfl : false = Q := by rw [← gQ.out, h, h2]; simp
      clear h h2
      go_wp2
      go_ret
      exact ⟨rfl, rfl⟩
  generalize (badN a || badN b) = Q at hc
  clear ca cb
  go_enter Try.func40, Try.ntmps40
  go_wp2_with fail
  refine hc.mono ?_
  rintro en w1 ⟨rfl, rfl⟩
  cases Q
  all_goals
    go_wp2
    go_ret
    exact ⟨rfl, rfl⟩
end Go.Proofs.Ytjmhefkmpfkpbaa
