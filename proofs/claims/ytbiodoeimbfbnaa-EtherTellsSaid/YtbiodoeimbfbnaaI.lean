/- Ether: what spoiling answers; the reference's. -/
import Derived.Test.YtbiodoeimbfbnaaH
namespace Go.Proofs.Ytbiodoeimbfbnaa
open Go.ChangeShapes Go.WideShapes Go.ChangeAt Go.RowKit
set_option linter.unusedSimpArgs false
set_option linter.unusedVariables false
theorem flat_set : ∀ (os : List (Cp × Option Addr × Nat)) (k j : Nat) (o o' : Cp × Option Addr × Nat) (v : Value), os[k]? = some o → (row4 o).set j v = row4 o' → j < 4 → (os.flatMap row4).set (k * 4 + j) v = (os.set k o').flatMap row4
  | [], k, j, o, o', v, h, _, _ => by simp at h
  | x :: r, 0, j, o, o', v, h, hv, hj => by
    have : x = o := by simpa using h
    subst this
    rw [List.flatMap_cons, List.set_append_left _ _ (by simp [row4]; omega), Nat.zero_mul, Nat.zero_add, hv]
    rfl
  | x :: r, k + 1, j, o, o', v, h, hv, hj => by
    have e : (row4 x).length = 4 := rfl
    rw [List.flatMap_cons, List.set_append_right _ _ (by rw [e]; omega), e, show (k + 1) * 4 + j - 4 = k * 4 + j by omega, flat_set r k j o o' v (by simpa using h) hv hj]
    rfl
theorem OwnR.set_other {w : World} {base n : Nat} {e E : TypeId} {X : Option Addr} {xs : List Value} {g : Nat} {cs : Array Value} (h : OwnR w base e X n xs) (hb : Blk w g E cs) (hE : e ≠ E) (j : Nat) (u : Value) : OwnR (w.setCell ⟨g, j, none⟩ u) base e X n xs :=
  ⟨h.1, fun h0 => by obtain ⟨g', cur, hA, hg, hh, ht⟩ := h.2 h0; exact ⟨g', cur, hA, hg, hh.far (p := ⟨g, j, none⟩) (hh.ne_ hb hE) u, ht⟩⟩
theorem rows_cps {w' : World} {base : Nat} {A : Option Addr} {r c : Nat} {os : List (Cp × Option Addr × Nat)} (ho : w'.ownsRow base 25 4 (.slice A r c) r (os.flatMap row4)) (ht : ∀ o ∈ os, o.1.txt.length ≤ o.2.2 ∧ OwnR w' base 5 o.2.1 o.1.txt.length (ints .u8 o.1.txt)) : Cps w' w'.heap.size A r (os.map (·.1)) := by
  have hlen : os.length = r := by
    have h1 := ho.1
    have h2 : ∀ os : List (Cp × Option Addr × Nat), (os.flatMap row4).length = os.length * 4 := by
      intro os
      induction os with
      | nil => rfl
      | cons x r ih => rw [List.flatMap_cons, List.length_append, ih, List.length_cons]; simp [row4]; omega
    rw [h2] at h1
    omega
  refine ⟨by simp [hlen], fun h0 => ?_⟩
  obtain ⟨ad, e, hb, hc⟩ := (Reads.of_own ho).2 h0
  refine ⟨ad, e, hb, fun i r' hr j f hf => ?_⟩
  rw [List.map_map, List.getElem?_map] at hr
  obtain ⟨o, hoo, rfl⟩ := Option.map_eq_some_iff.1 hr
  have hto := ht o (List.mem_of_getElem? hoo)
  match j, hf with
  | 0, hf => injection hf with hf; subst hf; exact hc _ _ (flat_at os i 0 o _ hoo rfl (by omega))
  | 1, hf => injection hf with hf; subst hf; exact hc _ _ (flat_at os i 1 o _ hoo rfl (by omega))
  | 2, hf => injection hf with hf; subst hf; exact ⟨o.2.1, _, o.2.2, rfl, hto.1, hto.2.reads, hc _ _ (flat_at os i 2 o _ hoo rfl (by omega))⟩
  | 3, hf => injection hf with hf; subst hf; exact hc _ _ (flat_at os i 3 o _ hoo rfl (by omega))
  | j + 4, hf => simp [fds] at hf
theorem chk_len {l : List Cp} (h : chkE l = 0) : l.length ≤ 16 := by
  unfold chkE at h
  split at h
  · exact absurd h (by decide)
  · omega
theorem chk_txt {l : List Cp} (h : chkE l = 0) {x : Cp} (hx : x ∈ l) : x.txt.length ≤ 4105 := by
  unfold chkE at h
  split at h
  · exact absurd h (by decide)
  · split at h
    · rename_i h1
      have := List.all_eq_true.1 h1 x hx
      unfold mayOf mayC at this
      simp only [decide_eq_true_eq] at this
      omega
    · exact absurd h (by decide)
def SpRead (w : World) (R : List Cp × Int) (en : Ending) (w' : World) : Prop := ∃ Ao co, en = .returned (.tuple #[.slice Ao R.1.length co, .int .i64 R.2]) ∧ Cps w' w'.heap.size Ao R.1.length R.1 ∧ Below w.heap.size w w'
theorem sp_nil {w w' : World} (hb : Below w.heap.size w w') (E : Int) : SpRead w ([], E) (.returned (.tuple #[.slice none 0 0, .int .i64 E])) w' := ⟨none, 0, rfl, Recs.none_, hb⟩
end Go.Proofs.Ytbiodoeimbfbnaa
