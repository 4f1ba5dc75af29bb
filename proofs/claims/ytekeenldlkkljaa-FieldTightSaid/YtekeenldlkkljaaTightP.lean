/- Field: what was taken was put so: of lists. -/
import Derived.Test.YtekeenldlkkljaaW
namespace Go.Proofs.Ytekeenldlkkljaa
open Go.ChangeShapes Go.WideShapes Go.ChangeAt Go.RowKit
set_option linter.unusedSimpArgs false
set_option linter.unusedVariables false
theorem digs_back : ∀ (l : List Int), (∀ b ∈ l, 0 ≤ b ∧ b < 256) → digs (numI l).toNat l.length = l := by
  intro l
  -- from the end
  have key : ∀ k, k ≤ l.length → (∀ b ∈ l, 0 ≤ b ∧ b < 256) → digs (numI (l.take k)).toNat k = l.take k := by
    intro k
    induction k with
    | zero => intro _ _; simp [digs]
    | succ k ih =>
      intro hk hb
      have hb1 := hb _ (show l.getD k 0 ∈ l by rw [List.getD_eq_getElem?_getD, List.getElem?_eq_getElem (by omega)]; exact List.getElem_mem _)
      have hr := numI_lt hb k (by omega)
      have i := ih (by omega) hb
      rw [numI_take (by omega), digs]
      have e1 : (256 * numI (l.take k) + l.getD k 0).toNat / 256 = (numI (l.take k)).toNat := by omega
      have e2 : (((256 * numI (l.take k) + l.getD k 0).toNat % 256 : Nat) : Int) = l.getD k 0 := by omega
      rw [e1, e2, i, List.take_succ_eq_append_getElem (by omega), List.getD_eq_getElem?_getD, List.getElem?_eq_getElem (show k < l.length by omega)]
      rfl
  intro hb
  have := key l.length (Nat.le_refl _) hb
  rwa [List.take_of_length_le (Nat.le_refl _)] at this
theorem piece_back {L : List Int} (hb : ∀ b ∈ L, 0 ≤ b ∧ b < 256) (p s : Nat) (h : p + s ≤ L.length) : digs (numI ((L.drop p).take s)).toNat s = (L.drop p).take s := by
  have hl : ((L.drop p).take s).length = s := by rw [List.length_take, List.length_drop]; omega
  have := digs_back ((L.drop p).take s) (fun x hx => hb x (List.mem_of_mem_drop (List.mem_of_mem_take hx)))
  rwa [hl] at this
theorem piece_app (L : List Int) (p a b : Nat) : (L.drop p).take (a + b) = (L.drop p).take a ++ (L.drop (p + a)).take b := by
  rw [List.take_add, List.drop_drop]
theorem limbs_flat {L : List Int} (hb : ∀ b ∈ L, 0 ≤ b ∧ b < 256) (p : Nat) : ∀ k, p + 4 + 4 * k ≤ L.length → flat ((limbsOf L p k).map (fun x => (x.toNat, 4))) = (L.drop (p + 4)).take (4 * k) := by
  intro k
  induction k with
  | zero => intro _; simp [limbsOf, flat]
  | succ k ih =>
    intro h
    rw [limbs_more, List.map_append, flat_app, ih (by omega), show 4 * (k + 1) = 4 * k + 4 by omega, piece_app]
    congr 1
    simp only [List.map_cons, List.map_nil, flat, List.append_nil]
    unfold limbAt
    exact piece_back hb (p + 4 + 4 * k) 4 (by omega)
theorem dyE_zero {L : List Int} {p : Nat} (h : dyE L (p : Int) = 0) : p + 4 + 4 * vM L p ≤ L.length ∧ vN L p ≤ 1 ∧ mayD (vN L p == 1) (limbsOf L p (vM L p)) (vX L p) = true := by
  unfold dyE at h
  simp only [Int.toNat_natCast] at h
  split at h
  · cases h
  · split at h
    · cases h
    · split at h
      · cases h
      · split at h
        · cases h
        · rename_i h1 h2 h3 h4
          simp only [Bool.or_eq_true, decide_eq_true_eq, Bool.not_eq_true', not_or] at h4
          refine ⟨by omega, by omega, by simpa using h4.2⟩
/-- What Dyad takes is what PutDyad puts. -/
theorem tight {L : List Int} {p : Nat} (hb : ∀ b ∈ L, 0 ≤ b ∧ b < 256) (h : dyE L (p : Int) = 0) :
    L.take (p + 4 + 4 * vM L p) = L.take p ++ flat (ptsD (vN L p == 1) (limbsOf L p (vM L p)) (vX L p)) := by
  obtain ⟨h1, h2, h3⟩ := dyE_zero h
  have r1 := part_range hb p 1
  have r3 := part_range hb (p + 3) 1
  have eN : (if (vN L p == 1) = true then 1 else 0) = (vN L p).toNat := by
    unfold vN at *
    have : numI ((L.drop p).take 1) = 0 ∨ numI ((L.drop p).take 1) = 1 := by omega
    rcases this with e | e <;> rw [e] <;> rfl
  have e0 : L.take (p + 4 + 4 * vM L p) = L.take p ++ (L.drop p).take (4 + 4 * vM L p) := by
    have := piece_app L 0 p (4 + 4 * vM L p)
    simp only [List.drop_zero, Nat.zero_add] at this
    rw [show p + 4 + 4 * vM L p = p + (4 + 4 * vM L p) by omega]
    exact this
  rw [e0]
  congr 1
  unfold ptsD
  simp only [flat]
  rw [eN, limbs_len, limbs_flat hb p (vM L p) h1]
  have g1 := piece_back hb p 1 (by omega)
  have g2 := piece_back hb (p + 1) 2 (by omega)
  have g3 := piece_back hb (p + 3) 1 (by omega)
  rw [show digs (vN L p).toNat 1 = (L.drop p).take 1 from g1, show digs (vX L p).toNat 2 = (L.drop (p + 1)).take 2 from g2, show digs (vM L p) 1 = (L.drop (p + 3)).take 1 from g3]
  rw [show 4 + 4 * vM L p = 1 + (2 + (1 + 4 * vM L p)) by omega, piece_app, piece_app, piece_app]
theorem take_part {L : List Int} {n p s : Nat} (h : p + s ≤ n) : ((L.take n).drop p).take s = (L.drop p).take s := by
  rw [List.drop_take, List.take_take, Nat.min_eq_left (by omega)]
/-- A beginning of it is not taken. -/
theorem tight_short {L : List Int} {p : Nat} (h : dyE L (p : Int) = 0) : dyE (L.take (p + 4 + 4 * vM L p - 1)) (p : Int) = 40 := by
  obtain ⟨h1, h2, h3⟩ := dyE_zero h
  have hl : (L.take (p + 4 + 4 * vM L p - 1)).length = p + 4 + 4 * vM L p - 1 := by rw [List.length_take]; omega
  unfold dyE
  simp only [Int.toNat_natCast]
  rw [hl, if_neg (by unfold rdrE; rw [if_pos ⟨by omega, by omega⟩]; decide)]
  by_cases h4 : p + 4 + 4 * vM L p - 1 < p + 4
  · rw [if_pos h4]
  · rw [if_neg h4, if_pos]
    have e : vM (L.take (p + 4 + 4 * vM L p - 1)) p = vM L p := by
      show (numI (((L.take (p + 4 + 4 * vM L p - 1)).drop (p + 3)).take 1)).toNat = (numI ((L.drop (p + 3)).take 1)).toNat
      rw [take_part (by omega)]
    rw [e]
    omega
/-- What Number takes is what PutNumber puts. -/
theorem tight_num {L : List Int} (hb : ∀ b ∈ L, 0 ≤ b ∧ b < 256) (p s : Nat) (h : p + s ≤ L.length) : L.take (p + s) = L.take p ++ digs (numI ((L.drop p).take s)).toNat s := by
  rw [piece_back hb p s h]
  have := piece_app L 0 p s
  simpa using this
end Go.Proofs.Ytekeenldlkkljaa
