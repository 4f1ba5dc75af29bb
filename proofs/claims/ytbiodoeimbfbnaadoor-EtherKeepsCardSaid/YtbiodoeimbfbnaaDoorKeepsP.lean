/- Ether: what taking, doubling and sending leave, in plain Lean. -/
import Derived.Test.YtbiodoeimbfbnaaDoorQ
namespace Go.Proofs.YtbiodoeimbfbnaaDoor
open Go.ChangeShapes Go.WideShapes Go.ChangeAt Go.RowKit
set_option linter.unusedSimpArgs false
set_option linter.unusedVariables false
theorem tk_cases {l : List Cp} {i : Int} {L : List Cp} {x : Cp} {E : Int} (h : tkS l i = (L, x, E)) : (E ≠ 0 ∧ L = [] ∧ x = ⟨0, 0, [], false⟩ ∧ (E = chkE l ∨ E = 2 ∧ (i < 0 ∨ (l.length : Int) ≤ i))) ∨ (E = 0 ∧ ∃ k : Nat, i = k ∧ k < l.length ∧ chkE l = 0 ∧ l[k]? = some x ∧ L = l.take k ++ l.drop (k + 1)) := by
  by_cases hE : chkE l = 0
  rotate_left
  · rw [tk_err rfl hE] at h
    injection h with h1 h2
    injection h2 with h2 h3
    exact Or.inl ⟨by rw [← h3]; exact hE, h1.symm, h2.symm, Or.inl h3.symm⟩
  by_cases hi : i < 0 ∨ (l.length : Int) ≤ i
  · rw [tk_out hE hi] at h
    injection h with h1 h2
    injection h2 with h2 h3
    exact Or.inl ⟨by rw [← h3]; decide, h1.symm, h2.symm, Or.inr ⟨h3.symm, hi⟩⟩
  obtain ⟨k, rfl⟩ : ∃ k : Nat, i = k := ⟨i.toNat, by omega⟩
  obtain ⟨y, hy⟩ : ∃ y, l[k]? = some y := ⟨_, List.getElem?_eq_getElem (by omega)⟩
  rw [tk_in hE hy] at h
  injection h with h1 h2
  injection h2 with h2 h3
  subst h2
  exact Or.inr ⟨h3.symm, k, rfl, by omega, hE, hy, h1.symm⟩
section
variable {l : List Cp} {k : Nat} {x : Cp}
theorem rest_len (hk : k < l.length) : (l.take k ++ l.drop (k + 1)).length = l.length - 1 := by simp; omega
theorem rest_head (hk : k < l.length) : (l.take k ++ l.drop (k + 1)).take k = l.take k := by rw [List.take_left' (by simp; omega)]
theorem rest_tail (hk : k < l.length) : (l.take k ++ l.drop (k + 1)).drop k = l.drop (k + 1) := by rw [List.drop_left' (by simp; omega)]
theorem rest_chk (hE : chkE l = 0) (hk : k < l.length) : chkE (l.take k ++ l.drop (k + 1)) = 0 := by
  refine chk_of (by rw [rest_len hk]; have := chk_len hE; omega) (fun y hy => ?_)
  rcases List.mem_append.1 hy with h | h
  · exact chk_mem hE (List.mem_of_mem_take h)
  · exact chk_mem hE (List.mem_of_mem_drop h)
theorem rest_all {Q : Cp → Prop} (h : ∀ y ∈ l, Q y) : ∀ y ∈ l.take k ++ l.drop (k + 1), Q y := by
  intro y hy
  rcases List.mem_append.1 hy with h1 | h1
  · exact h y (List.mem_of_mem_take h1)
  · exact h y (List.mem_of_mem_drop h1)
theorem snd_of (hE : chkE l = 0) (hk : l[k]? = some x) : sndS l x = if l.length = 16 then ([], 9) else (l ++ [x], 0) := by
  unfold sndS
  rw [if_pos hE, if_pos (chk_mem hE (List.mem_of_getElem? hk))]
theorem tk_last (hE : chkE l = 0) (hk : l[k]? = some x) (h16 : l.length ≠ 16) : tkS (l ++ [x]) (l.length : Int) = (l, x, 0) := by
  rw [tk_in (chk_more hE hk h16) (c := x) (by simp)]
  simp
theorem snd_cases {c : Cp} {L : List Cp} {E : Int} (hE : chkE l = 0) (h : sndS l c = (L, E)) : (E ≠ 0 ∧ L = []) ∨ (E = 0 ∧ L = l ++ [c]) := by
  unfold sndS at h
  rw [if_pos hE] at h
  split at h
  · split at h
    · injection h with h1 h2; exact Or.inl ⟨by rw [← h2]; decide, h1.symm⟩
    · injection h with h1 h2; exact Or.inr ⟨h2.symm, h1.symm⟩
  · injection h with h1 h2; exact Or.inl ⟨by rw [← h2]; decide, h1.symm⟩
theorem snd_cases2 {c : Cp} {L : List Cp} {E : Int} (hE : chkE l = 0) (hl : l.length ≠ 16) (h : sndS l c = (L, E)) : (E = 8 ∧ L = []) ∨ (E = 0 ∧ L = l ++ [c]) := by
  unfold sndS at h
  rw [if_pos hE, if_neg hl] at h
  split at h
  · injection h with h1 h2; exact Or.inr ⟨h2.symm, h1.symm⟩
  · injection h with h1 h2; exact Or.inl ⟨h2.symm, h1.symm⟩
end
end Go.Proofs.YtbiodoeimbfbnaaDoor
