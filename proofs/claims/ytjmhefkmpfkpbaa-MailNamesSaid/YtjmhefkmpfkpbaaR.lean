/- Field: the reference's digits, numbers and puts. -/
import Derived.Test.YtjmhefkmpfkpbaaC
namespace Go.Proofs.Ytjmhefkmpfkpbaa
open Go.ChangeShapes Go.WideShapes Go.ChangeAt Go.RowKit
set_option linter.unusedSimpArgs false
set_option linter.unusedVariables false
def numI : List Int → Int := List.foldl (fun a b => 256 * a + b) 0
theorem numI_snoc (l : List Int) (b : Int) : numI (l ++ [b]) = 256 * numI l + b := by simp [numI]
theorem numI_take {l : List Int} {k : Nat} (h : k < l.length) : numI (l.take (k + 1)) = 256 * numI (l.take k) + l.getD k 0 := by
  rw [List.take_succ_eq_append_getElem h, numI_snoc, List.getD_eq_getElem?_getD, List.getElem?_eq_getElem h]
  rfl
theorem numI_digs (s : Nat) : ∀ x, numI (digs x s) = ((x % 256 ^ s : Nat) : Int) := by
  induction s with
  | zero => intro x; simp [digs, numI, Nat.mod_one]
  | succ s ih =>
    intro x
    rw [digs, numI_snoc, ih, Nat.pow_succ, Nat.mul_comm (256 ^ s) 256, Nat.mod_mul]
    omega
theorem numI_lt {l : List Int} (hb : ∀ b ∈ l, 0 ≤ b ∧ b < 256) : ∀ k, k ≤ l.length → 0 ≤ numI (l.take k) ∧ numI (l.take k) < ((256 ^ k : Nat) : Int) := by
  intro k
  induction k with
  | zero => intro _; simp [numI]
  | succ k ih =>
    intro hk
    have h1 := ih (by omega)
    have hb1 := hb _ (show l.getD k 0 ∈ l by rw [List.getD_eq_getElem?_getD, List.getElem?_eq_getElem (by omega)]; exact List.getElem_mem _)
    rw [numI_take (by omega), Nat.pow_succ]
    omega
theorem digs_byte (s : Nat) : ∀ x, ∀ b ∈ digs x s, 0 ≤ b ∧ b < 256 := by
  induction s with
  | zero => intro x b hb; simp [digs] at hb
  | succ s ih =>
    intro x b hb
    rw [digs] at hb
    rcases List.mem_append.mp hb with h | h
    · exact ih _ b h
    · simp at h; omega
end Go.Proofs.Ytjmhefkmpfkpbaa
