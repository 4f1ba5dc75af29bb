/- Frame: what was framed is taken, and what is taken was framed so: of lists, no program in sight. -/
import Derived.Test.YtjmhefkmpfkpbaaTakeW
namespace Go.Proofs.Ytjmhefkmpfkpbaa
open Go.ChangeShapes Go.WideShapes Go.ChangeAt Go.RowKit
set_option linter.unusedSimpArgs false
/-- Bytes that are a frame. -/
def OkT (l : List Nat) : Prop := 9 ≤ l.length ∧ l.drop (l.length - 4) = told (crc (l.take (l.length - 4))) ∧ (l.getD 0 0 = 72 ∧ l.getD 1 0 = 1 ∧ l.getD 3 0 * 256 + l.getD 4 0 = l.length - 9 ∧ l.length - 9 ≤ 4096)
theorem Owns.slice {w0 w : World} {v : Value} {l : List Nat} (h : Owns w0 w v l) : ∃ A c, v = .slice A l.length c ∧ l.length ≤ c ∧ Reads w w.heap.size 1 A l.length (bytes l) := by
  have h' := h
  rcases h'.2 with ⟨hv, hx⟩ | ⟨g, cap, cur, hv, _, _, hnc, _⟩
  · subst hv
    have : l.length = 0 := by have := h.1; simp_all
    rw [this]
    exact ⟨none, 0, rfl, Nat.le_refl _, by
      have e : l = [] := List.eq_nil_of_length_eq_zero this
      subst e
      exact Reads.none_⟩
  · subst hv
    exact ⟨_, _, rfl, by omega, Reads.of_own h⟩
end Go.Proofs.Ytjmhefkmpfkpbaa
