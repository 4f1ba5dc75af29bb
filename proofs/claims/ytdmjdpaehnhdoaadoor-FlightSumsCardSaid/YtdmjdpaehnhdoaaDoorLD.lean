/- Flight: rows of entries as cells -/
import Derived.Test.YtdmjdpaehnhdoaaDoorLC
namespace Go.Proofs.YtdmjdpaehnhdoaaDoor
open Go.ChangeShapes Go.WideShapes Go.ChangeAt Go.RowKit
set_option linter.unusedSimpArgs false
set_option linter.unusedVariables false
def rdE (w : World) (B : Nat) (o : EO) : Prop := (o.x.give.s.ls.length ≤ o.c0 ∧ Reads w B 1 o.X0 o.x.give.s.ls.length (ints .u32 o.x.give.s.ls)) ∧ (o.x.give.w.ls.length ≤ o.c1 ∧ Reads w B 1 o.X1 o.x.give.w.ls.length (ints .u32 o.x.give.w.ls)) ∧ (o.x.give.c.ls.length ≤ o.c2 ∧ Reads w B 1 o.X2 o.x.give.c.ls.length (ints .u32 o.x.give.c.ls)) ∧ (o.x.give.a.ls.length ≤ o.c3 ∧ Reads w B 1 o.X3 o.x.give.a.ls.length (ints .u32 o.x.give.a.ls))
theorem rdE.below {w w' : World} {B B' : Nat} {o : EO} (h : rdE w B o) (hb : Below B w w') (hB : B ≤ B') : rdE w' B' o := ⟨⟨h.1.1, (h.1.2.below hb).more hB⟩, ⟨h.2.1.1, (h.2.1.2.below hb).more hB⟩, ⟨h.2.2.1.1, (h.2.2.1.2.below hb).more hB⟩, ⟨h.2.2.2.1, (h.2.2.2.2.below hb).more hB⟩⟩
theorem ownE.rd {w : World} {base : Nat} {o : EO} (h : ownE w base o) : rdE w w.heap.size o := ⟨⟨h.1.1, h.1.2.reads⟩, ⟨h.2.1.1, h.2.1.2.reads⟩, ⟨h.2.2.1.1, h.2.2.1.2.reads⟩, ⟨h.2.2.2.1, h.2.2.2.2.reads⟩⟩
set_option maxHeartbeats 2000000 in
theorem ens_rows {w : World} {B n : Nat} {A : Option Addr} {l : List En} (h : Ens w B A n l) : ∃ os : List EO, os.map (·.x) = l ∧ Reads w B 15 A n (os.flatMap row15) ∧ ∀ o ∈ os, rdE w B o := by
  have ln := ens_len h
  have hch : ∀ i : Nat, ∃ o : EO, ∀ c, l[i]? = some c → o.x = c ∧ rdE w B o ∧ ∀ ad, A = some ad → (w.cell? (ad.add (i * 15 + 4)) = some (.slice o.X0 c.give.s.ls.length o.c0) ∧ w.cell? (ad.add (i * 15 + 7)) = some (.slice o.X1 c.give.w.ls.length o.c1) ∧ w.cell? (ad.add (i * 15 + 10)) = some (.slice o.X2 c.give.c.ls.length o.c2) ∧ w.cell? (ad.add (i * 15 + 13)) = some (.slice o.X3 c.give.a.ls.length o.c3)) := by
    intro i
    rcases hl : l[i]? with _ | c
    · exact ⟨⟨⟨0, 0, 0, ⟨⟨false, [], 0⟩, ⟨false, [], 0⟩, ⟨false, [], 0⟩, ⟨false, [], 0⟩⟩⟩, none, 0, none, 0, none, 0, none, 0⟩, fun c hc => by cases hc⟩
    · have hi : i < n := by have := (List.getElem?_eq_some_iff.1 hl).1; omega
      obtain ⟨ad, r, e, hb, hr, hc⟩ := h.at_ hi
      rw [List.getElem?_map, hl] at hr
      injection hr with hr
      subst hr
      obtain ⟨X0, n0, c0, p0, q0, r0, x0⟩ := hc 4 _ rfl
      subst p0
      obtain ⟨X1, n1, c1, p1, q1, r1, x1⟩ := hc 7 _ rfl
      subst p1
      obtain ⟨X2, n2, c2, p2, q2, r2, x2⟩ := hc 10 _ rfl
      subst p2
      obtain ⟨X3, n3, c3, p3, q3, r3, x3⟩ := hc 13 _ rfl
      subst p3
      exact ⟨⟨c, X0, c0, X1, c1, X2, c2, X3, c3⟩, fun c' hc' => by
        injection hc' with hc'
        subst hc'
        exact ⟨rfl, ⟨⟨q0, r0⟩, ⟨q1, r1⟩, ⟨q2, r2⟩, ⟨q3, r3⟩⟩, fun ad' e' => by rw [e] at e'; injection e' with e'; subst e'; exact ⟨x0, x1, x2, x3⟩⟩⟩
  obtain ⟨F, hF⟩ := Classical.axiomOfChoice hch
  have hat : ∀ i, i < n → ((List.range n).map F)[i]? = some (F i) := fun i hi => by rw [List.getElem?_map, List.getElem?_range hi]; rfl
  have hl : ∀ i, i < n → ∃ c, l[i]? = some c := fun i hi => ⟨_, List.getElem?_eq_getElem (by omega)⟩
  refine ⟨(List.range n).map F, ?_, ?_, ?_⟩
  · apply List.ext_getElem?
    intro i
    rw [List.getElem?_map]
    by_cases hi : i < n
    · obtain ⟨c, hc⟩ := hl i hi
      rw [hat i hi, hc, Option.map_some, (hF i c hc).1]
    · rw [List.getElem?_eq_none (by simp; omega), List.getElem?_eq_none (by omega)]
      rfl
  · refine ⟨by rw [flat15_len]; simp, fun h0 => ?_⟩
    obtain ⟨ad, e, hb, hc⟩ := h.2 h0
    refine ⟨ad, e, hb, fun j u hu => ?_⟩
    have hj : j < n * 15 := by
      have := (List.getElem?_eq_some_iff.1 hu).1
      rw [flat15_len] at this
      simpa using this
    obtain ⟨i, hi'⟩ : ∃ i, j / 15 = i := ⟨_, rfl⟩
    have hi : i < n := by omega
    obtain ⟨c, hlc⟩ := hl i hi
    obtain ⟨e1, _, h5⟩ := hF i c hlc
    obtain ⟨h50, h51, h52, h53⟩ := h5 ad e
    have hr : (l.map fdsE)[i]? = some (fdsE c) := by rw [List.getElem?_map, hlc]; rfl
    have key : ∀ r v, r < 15 → j = i * 15 + r → (row15 (F i))[r]? = some v → w.cell? (ad.add (i * 15 + r)) = some v → w.cell? (ad.add j) = some u := by
      intro r v hr4 hj2 hv hcell
      have := flat15_at _ i r _ v (hat i hi) hv hr4
      rw [← hj2, hu] at this
      injection this with this
      rw [hj2, this]
      exact hcell
    have hm : j % 15 = 0 ∨ j % 15 = 1 ∨ j % 15 = 2 ∨ j % 15 = 3 ∨ j % 15 = 4 ∨ j % 15 = 5 ∨ j % 15 = 6 ∨ j % 15 = 7 ∨ j % 15 = 8 ∨ j % 15 = 9 ∨ j % 15 = 10 ∨ j % 15 = 11 ∨ j % 15 = 12 ∨ j % 15 = 13 ∨ j % 15 = 14 := by omega
    rcases hm with hm | hm | hm | hm | hm | hm | hm | hm | hm | hm | hm | hm | hm | hm | hm
    · exact key 0 _ (by omega) (by omega) rfl (by rw [e1]; exact hc i _ hr 0 _ rfl)
    · exact key 1 _ (by omega) (by omega) rfl (by rw [e1]; exact hc i _ hr 1 _ rfl)
    · exact key 2 _ (by omega) (by omega) rfl (by rw [e1]; exact hc i _ hr 2 _ rfl)
    · exact key 3 _ (by omega) (by omega) rfl (by rw [e1]; exact hc i _ hr 3 _ rfl)
    · exact key 4 _ (by omega) (by omega) rfl (by rw [e1]; exact h50)
    · exact key 5 _ (by omega) (by omega) rfl (by rw [e1]; exact hc i _ hr 5 _ rfl)
    · exact key 6 _ (by omega) (by omega) rfl (by rw [e1]; exact hc i _ hr 6 _ rfl)
    · exact key 7 _ (by omega) (by omega) rfl (by rw [e1]; exact h51)
    · exact key 8 _ (by omega) (by omega) rfl (by rw [e1]; exact hc i _ hr 8 _ rfl)
    · exact key 9 _ (by omega) (by omega) rfl (by rw [e1]; exact hc i _ hr 9 _ rfl)
    · exact key 10 _ (by omega) (by omega) rfl (by rw [e1]; exact h52)
    · exact key 11 _ (by omega) (by omega) rfl (by rw [e1]; exact hc i _ hr 11 _ rfl)
    · exact key 12 _ (by omega) (by omega) rfl (by rw [e1]; exact hc i _ hr 12 _ rfl)
    · exact key 13 _ (by omega) (by omega) rfl (by rw [e1]; exact h53)
    · exact key 14 _ (by omega) (by omega) rfl (by rw [e1]; exact hc i _ hr 14 _ rfl)
  · intro o ho
    obtain ⟨i, hi, rfl⟩ := List.mem_map.1 ho
    obtain ⟨c, hlc⟩ := hl i (List.mem_range.1 hi)
    exact (hF i c hlc).2.1
theorem rows_ens {w : World} {B n : Nat} {A : Option Addr} {os : List EO} (ho : Reads w B 15 A n (os.flatMap row15)) (ht : ∀ o ∈ os, rdE w B o) : Ens w B A n (os.map (·.x)) := by
  have hlen : os.length = n := by
    have h1 := ho.1
    rw [flat15_len] at h1
    omega
  refine ⟨by simp [hlen], fun h0 => ?_⟩
  obtain ⟨ad, e, hb, hc⟩ := ho.2 h0
  refine ⟨ad, e, hb, fun i r' hr j f hf => ?_⟩
  rw [List.map_map, List.getElem?_map] at hr
  obtain ⟨o, hoo, rfl⟩ := Option.map_eq_some_iff.1 hr
  have hto := ht o (List.mem_of_getElem? hoo)
  match j, hf with
  | 0, hf => injection hf with hf; subst hf; exact hc _ _ (flat15_at os i 0 o _ hoo rfl (by omega))
  | 1, hf => injection hf with hf; subst hf; exact hc _ _ (flat15_at os i 1 o _ hoo rfl (by omega))
  | 2, hf => injection hf with hf; subst hf; exact hc _ _ (flat15_at os i 2 o _ hoo rfl (by omega))
  | 3, hf => injection hf with hf; subst hf; exact hc _ _ (flat15_at os i 3 o _ hoo rfl (by omega))
  | 4, hf => injection hf with hf; subst hf; exact ⟨o.X0, _, o.c0, rfl, hto.1.1, hto.1.2, hc _ _ (flat15_at os i 4 o _ hoo rfl (by omega))⟩
  | 5, hf => injection hf with hf; subst hf; exact hc _ _ (flat15_at os i 5 o _ hoo rfl (by omega))
  | 6, hf => injection hf with hf; subst hf; exact hc _ _ (flat15_at os i 6 o _ hoo rfl (by omega))
  | 7, hf => injection hf with hf; subst hf; exact ⟨o.X1, _, o.c1, rfl, hto.2.1.1, hto.2.1.2, hc _ _ (flat15_at os i 7 o _ hoo rfl (by omega))⟩
  | 8, hf => injection hf with hf; subst hf; exact hc _ _ (flat15_at os i 8 o _ hoo rfl (by omega))
  | 9, hf => injection hf with hf; subst hf; exact hc _ _ (flat15_at os i 9 o _ hoo rfl (by omega))
  | 10, hf => injection hf with hf; subst hf; exact ⟨o.X2, _, o.c2, rfl, hto.2.2.1.1, hto.2.2.1.2, hc _ _ (flat15_at os i 10 o _ hoo rfl (by omega))⟩
  | 11, hf => injection hf with hf; subst hf; exact hc _ _ (flat15_at os i 11 o _ hoo rfl (by omega))
  | 12, hf => injection hf with hf; subst hf; exact hc _ _ (flat15_at os i 12 o _ hoo rfl (by omega))
  | 13, hf => injection hf with hf; subst hf; exact ⟨o.X3, _, o.c3, rfl, hto.2.2.2.1, hto.2.2.2.2, hc _ _ (flat15_at os i 13 o _ hoo rfl (by omega))⟩
  | 14, hf => injection hf with hf; subst hf; exact hc _ _ (flat15_at os i 14 o _ hoo rfl (by omega))
  | j + 15, hf => simp [fdsE, fdsM, fdsD] at hf
theorem flat15_set : ∀ (os : List EO) (i j : Nat) (o o' : EO) (v : Value), os[i]? = some o → (row15 o).set j v = row15 o' → j < 15 → (os.flatMap row15).set (i * 15 + j) v = (os.set i o').flatMap row15
  | [], i, j, o, o', v, h, _, _ => by simp at h
  | x :: r, 0, j, o, o', v, h, hv, hj => by
    injection h with h
    subst h
    rw [List.flatMap_cons, Nat.zero_mul, Nat.zero_add, List.set_append_left _ _ (by show j < 15; exact hj), hv, List.set_cons_zero, List.flatMap_cons]
  | x :: r, i + 1, j, o, o', v, h, hv, hj => by
    have e : (row15 x).length = 15 := rfl
    rw [List.flatMap_cons, List.set_append_right _ _ (by rw [e]; omega), e, show (i + 1) * 15 + j - 15 = i * 15 + j by omega, flat15_set r i j o o' v (by simpa using h) hv hj, List.set_cons_succ, List.flatMap_cons]
end Go.Proofs.YtdmjdpaehnhdoaaDoor
