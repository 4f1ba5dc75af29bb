/- Ledger: rows of entries as cells -/
import Derived.Test.YtmppalgecboeeaaDoorLC
namespace Go.Proofs.YtmppalgecboeeaaDoor
open Go.ChangeShapes Go.WideShapes Go.ChangeAt Go.RowKit
set_option linter.unusedSimpArgs false
set_option linter.unusedVariables false
def rdE (w : World) (B : Nat) (o : EO) : Prop := (o.x.give.s.ls.length ≤ o.c0 ∧ Reads w B 1 o.X0 o.x.give.s.ls.length (ints .u32 o.x.give.s.ls)) ∧ (o.x.give.w.ls.length ≤ o.c1 ∧ Reads w B 1 o.X1 o.x.give.w.ls.length (ints .u32 o.x.give.w.ls)) ∧ (o.x.give.c.ls.length ≤ o.c2 ∧ Reads w B 1 o.X2 o.x.give.c.ls.length (ints .u32 o.x.give.c.ls)) ∧ (o.x.give.a.ls.length ≤ o.c3 ∧ Reads w B 1 o.X3 o.x.give.a.ls.length (ints .u32 o.x.give.a.ls))
theorem rdE.below {w w' : World} {B B' : Nat} {o : EO} (h : rdE w B o) (hb : Below B w w') (hB : B ≤ B') : rdE w' B' o := ⟨⟨h.1.1, (h.1.2.below hb).more hB⟩, ⟨h.2.1.1, (h.2.1.2.below hb).more hB⟩, ⟨h.2.2.1.1, (h.2.2.1.2.below hb).more hB⟩, ⟨h.2.2.2.1, (h.2.2.2.2.below hb).more hB⟩⟩
theorem ownE.rd {w : World} {base : Nat} {o : EO} (h : ownE w base o) : rdE w w.heap.size o := ⟨⟨h.1.1, h.1.2.reads⟩, ⟨h.2.1.1, h.2.1.2.reads⟩, ⟨h.2.2.1.1, h.2.2.1.2.reads⟩, ⟨h.2.2.2.1, h.2.2.2.2.reads⟩⟩
set_option maxHeartbeats 2000000 in
theorem ens_rows {w : World} {B n : Nat} {A : Option Addr} {l : List En} (h : Ens w B A n l) : ∃ os : List EO, os.map (·.x) = l ∧ Reads w B 14 A n (os.flatMap row14) ∧ ∀ o ∈ os, rdE w B o := by
  have ln := ens_len h
  have hch : ∀ i : Nat, ∃ o : EO, ∀ c, l[i]? = some c → o.x = c ∧ rdE w B o ∧ ∀ ad, A = some ad → (w.cell? (ad.add (i * 14 + 3)) = some (.slice o.X0 c.give.s.ls.length o.c0) ∧ w.cell? (ad.add (i * 14 + 6)) = some (.slice o.X1 c.give.w.ls.length o.c1) ∧ w.cell? (ad.add (i * 14 + 9)) = some (.slice o.X2 c.give.c.ls.length o.c2) ∧ w.cell? (ad.add (i * 14 + 12)) = some (.slice o.X3 c.give.a.ls.length o.c3)) := by
    intro i
    rcases hl : l[i]? with _ | c
    · exact ⟨⟨⟨0, 0, ⟨⟨false, [], 0⟩, ⟨false, [], 0⟩, ⟨false, [], 0⟩, ⟨false, [], 0⟩⟩⟩, none, 0, none, 0, none, 0, none, 0⟩, fun c hc => by cases hc⟩
    · have hi : i < n := by have := (List.getElem?_eq_some_iff.1 hl).1; omega
      obtain ⟨ad, r, e, hb, hr, hc⟩ := h.at_ hi
      rw [List.getElem?_map, hl] at hr
      injection hr with hr
      subst hr
      obtain ⟨X0, n0, c0, p0, q0, r0, x0⟩ := hc 3 _ rfl
      subst p0
      obtain ⟨X1, n1, c1, p1, q1, r1, x1⟩ := hc 6 _ rfl
      subst p1
      obtain ⟨X2, n2, c2, p2, q2, r2, x2⟩ := hc 9 _ rfl
      subst p2
      obtain ⟨X3, n3, c3, p3, q3, r3, x3⟩ := hc 12 _ rfl
      subst p3
      exact ⟨⟨c, X0, c0, X1, c1, X2, c2, X3, c3⟩, fun c' hc' => by
        injection hc' with hc'
        subst hc'
        exact ⟨rfl, ⟨⟨q0, r0⟩, ⟨q1, r1⟩, ⟨q2, r2⟩, ⟨q3, r3⟩⟩, fun ad' e' => by rw [e] at e'; injection e' with e'; subst e'; exact ⟨x0, x1, x2, x3⟩⟩⟩
  obtain ⟨F, hF⟩ := Classical.axiomOfChoice hch
  have hat : ∀ i, i < n → ((List.range n).map F)[i]? = some (F i) := fun i hi => by rw [List.getElem?_map, List.getElem?_range hi]; rfl
  have hl : ∀ i, i < n → ∃ c, l[i]? = some c := fun i hi => ⟨_, List.getElem?_eq_getElem (by omega)⟩
  refine ⟨(List.range n).map F, ?_, ?_, ?_⟩
  · apply List.ext_getElem?
    intro i
    rw [List.getElem?_map]
    by_cases hi : i < n
    · obtain ⟨c, hc⟩ := hl i hi
      rw [hat i hi, hc, Option.map_some, (hF i c hc).1]
    · rw [List.getElem?_eq_none (by simp; omega), List.getElem?_eq_none (by omega)]
      rfl
  · refine ⟨by rw [flat14_len]; simp, fun h0 => ?_⟩
    obtain ⟨ad, e, hb, hc⟩ := h.2 h0
    refine ⟨ad, e, hb, fun j u hu => ?_⟩
    have hj : j < n * 14 := by
      have := (List.getElem?_eq_some_iff.1 hu).1
      rw [flat14_len] at this
      simpa using this
    obtain ⟨i, hi'⟩ : ∃ i, j / 14 = i := ⟨_, rfl⟩
    have hi : i < n := by omega
    obtain ⟨c, hlc⟩ := hl i hi
    obtain ⟨e1, _, h5⟩ := hF i c hlc
    obtain ⟨h50, h51, h52, h53⟩ := h5 ad e
    have hr : (l.map fdsE)[i]? = some (fdsE c) := by rw [List.getElem?_map, hlc]; rfl
    have key : ∀ r v, r < 14 → j = i * 14 + r → (row14 (F i))[r]? = some v → w.cell? (ad.add (i * 14 + r)) = some v → w.cell? (ad.add j) = some u := by
      intro r v hr4 hj2 hv hcell
      have := flat14_at _ i r _ v (hat i hi) hv hr4
      rw [← hj2, hu] at this
      injection this with this
      rw [hj2, this]
      exact hcell
    have hm : j % 14 = 0 ∨ j % 14 = 1 ∨ j % 14 = 2 ∨ j % 14 = 3 ∨ j % 14 = 4 ∨ j % 14 = 5 ∨ j % 14 = 6 ∨ j % 14 = 7 ∨ j % 14 = 8 ∨ j % 14 = 9 ∨ j % 14 = 10 ∨ j % 14 = 11 ∨ j % 14 = 12 ∨ j % 14 = 13 := by omega
    rcases hm with hm | hm | hm | hm | hm | hm | hm | hm | hm | hm | hm | hm | hm | hm
    · exact key 0 _ (by omega) (by omega) rfl (by rw [e1]; exact hc i _ hr 0 _ rfl)
    · exact key 1 _ (by omega) (by omega) rfl (by rw [e1]; exact hc i _ hr 1 _ rfl)
    · exact key 2 _ (by omega) (by omega) rfl (by rw [e1]; exact hc i _ hr 2 _ rfl)
    · exact key 3 _ (by omega) (by omega) rfl (by rw [e1]; exact h50)
    · exact key 4 _ (by omega) (by omega) rfl (by rw [e1]; exact hc i _ hr 4 _ rfl)
    · exact key 5 _ (by omega) (by omega) rfl (by rw [e1]; exact hc i _ hr 5 _ rfl)
    · exact key 6 _ (by omega) (by omega) rfl (by rw [e1]; exact h51)
    · exact key 7 _ (by omega) (by omega) rfl (by rw [e1]; exact hc i _ hr 7 _ rfl)
    · exact key 8 _ (by omega) (by omega) rfl (by rw [e1]; exact hc i _ hr 8 _ rfl)
    · exact key 9 _ (by omega) (by omega) rfl (by rw [e1]; exact h52)
    · exact key 10 _ (by omega) (by omega) rfl (by rw [e1]; exact hc i _ hr 10 _ rfl)
    · exact key 11 _ (by omega) (by omega) rfl (by rw [e1]; exact hc i _ hr 11 _ rfl)
    · exact key 12 _ (by omega) (by omega) rfl (by rw [e1]; exact h53)
    · exact key 13 _ (by omega) (by omega) rfl (by rw [e1]; exact hc i _ hr 13 _ rfl)
  · intro o ho
    obtain ⟨i, hi, rfl⟩ := List.mem_map.1 ho
    obtain ⟨c, hlc⟩ := hl i (List.mem_range.1 hi)
    exact (hF i c hlc).2.1
theorem rows_ens {w : World} {B n : Nat} {A : Option Addr} {os : List EO} (ho : Reads w B 14 A n (os.flatMap row14)) (ht : ∀ o ∈ os, rdE w B o) : Ens w B A n (os.map (·.x)) := by
  have hlen : os.length = n := by
    have h1 := ho.1
    rw [flat14_len] at h1
    omega
  refine ⟨by simp [hlen], fun h0 => ?_⟩
  obtain ⟨ad, e, hb, hc⟩ := ho.2 h0
  refine ⟨ad, e, hb, fun i r' hr j f hf => ?_⟩
  rw [List.map_map, List.getElem?_map] at hr
  obtain ⟨o, hoo, rfl⟩ := Option.map_eq_some_iff.1 hr
  have hto := ht o (List.mem_of_getElem? hoo)
  match j, hf with
  | 0, hf => injection hf with hf; subst hf; exact hc _ _ (flat14_at os i 0 o _ hoo rfl (by omega))
  | 1, hf => injection hf with hf; subst hf; exact hc _ _ (flat14_at os i 1 o _ hoo rfl (by omega))
  | 2, hf => injection hf with hf; subst hf; exact hc _ _ (flat14_at os i 2 o _ hoo rfl (by omega))
  | 3, hf => injection hf with hf; subst hf; exact ⟨o.X0, _, o.c0, rfl, hto.1.1, hto.1.2, hc _ _ (flat14_at os i 3 o _ hoo rfl (by omega))⟩
  | 4, hf => injection hf with hf; subst hf; exact hc _ _ (flat14_at os i 4 o _ hoo rfl (by omega))
  | 5, hf => injection hf with hf; subst hf; exact hc _ _ (flat14_at os i 5 o _ hoo rfl (by omega))
  | 6, hf => injection hf with hf; subst hf; exact ⟨o.X1, _, o.c1, rfl, hto.2.1.1, hto.2.1.2, hc _ _ (flat14_at os i 6 o _ hoo rfl (by omega))⟩
  | 7, hf => injection hf with hf; subst hf; exact hc _ _ (flat14_at os i 7 o _ hoo rfl (by omega))
  | 8, hf => injection hf with hf; subst hf; exact hc _ _ (flat14_at os i 8 o _ hoo rfl (by omega))
  | 9, hf => injection hf with hf; subst hf; exact ⟨o.X2, _, o.c2, rfl, hto.2.2.1.1, hto.2.2.1.2, hc _ _ (flat14_at os i 9 o _ hoo rfl (by omega))⟩
  | 10, hf => injection hf with hf; subst hf; exact hc _ _ (flat14_at os i 10 o _ hoo rfl (by omega))
  | 11, hf => injection hf with hf; subst hf; exact hc _ _ (flat14_at os i 11 o _ hoo rfl (by omega))
  | 12, hf => injection hf with hf; subst hf; exact ⟨o.X3, _, o.c3, rfl, hto.2.2.2.1, hto.2.2.2.2, hc _ _ (flat14_at os i 12 o _ hoo rfl (by omega))⟩
  | 13, hf => injection hf with hf; subst hf; exact hc _ _ (flat14_at os i 13 o _ hoo rfl (by omega))
  | j + 14, hf => simp [fdsE, fdsM, fdsD] at hf
theorem flat14_set : ∀ (os : List EO) (i j : Nat) (o o' : EO) (v : Value), os[i]? = some o → (row14 o).set j v = row14 o' → j < 14 → (os.flatMap row14).set (i * 14 + j) v = (os.set i o').flatMap row14
  | [], i, j, o, o', v, h, _, _ => by simp at h
  | x :: r, 0, j, o, o', v, h, hv, hj => by
    injection h with h
    subst h
    rw [List.flatMap_cons, Nat.zero_mul, Nat.zero_add, List.set_append_left _ _ (by show j < 14; exact hj), hv, List.set_cons_zero, List.flatMap_cons]
  | x :: r, i + 1, j, o, o', v, h, hv, hj => by
    have e : (row14 x).length = 14 := rfl
    rw [List.flatMap_cons, List.set_append_right _ _ (by rw [e]; omega), e, show (i + 1) * 14 + j - 14 = i * 14 + j by omega, flat14_set r i j o o' v (by simpa using h) hv hj, List.set_cons_succ, List.flatMap_cons]
end Go.Proofs.YtmppalgecboeeaaDoor
