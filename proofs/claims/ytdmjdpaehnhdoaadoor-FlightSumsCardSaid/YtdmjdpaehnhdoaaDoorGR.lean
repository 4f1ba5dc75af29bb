/- Flight's Door: rows of loads in memory of their own -/
import Derived.Test.YtdmjdpaehnhdoaaDoorLEE
import Derived.Test.YtdmjdpaehnhdoaaDoorFAO
import Derived.Test.YtdmjdpaehnhdoaaDoorLI
import Derived.Test.YtdmjdpaehnhdoaaDoorLC
namespace Go.Proofs.YtdmjdpaehnhdoaaDoor
open Go.ChangeShapes Go.WideShapes Go.ChangeAt Go.RowKit
set_option linter.unusedSimpArgs false
set_option linter.unusedVariables false
def SB (A : Option Addr) (n : Nat) (os : List EO) (g : Nat) : Prop := (A = some ⟨g, 0, none⟩) ∨ ∃ o ∈ os, hasB o g
/-- A row of loads in memory of its own, from B on. -/
def RowE (w : World) (B : Nat) (A : Option Addr) (n c : Nat) (os : List EO) : Prop := w.ownsRow B 48 15 (.slice A n c) n (os.flatMap row15) ∧ ∀ o ∈ os, ownE w B o
theorem RowE.len {w : World} {B n c : Nat} {A : Option Addr} {os : List EO} (h : RowE w B A n c os) : os.length = n := by
  have h1 := h.1.1
  rw [flat15_len] at h1
  omega
theorem RowE.below {w w' : World} {B n c : Nat} {A : Option Addr} {os : List EO} (h : RowE w B A n c os) (hb : Below w.heap.size w w') : RowE w' B A n c os := ⟨own_below h.1 hb, fun o ho => (h.2 o ho).map (fun h => h.below hb)⟩
theorem RowE.ens {w : World} {B n c : Nat} {A : Option Addr} {os : List EO} {l : List En} (h : RowE w B A n c os) (e : os.map (·.x) = l) : Ens w w.heap.size A n l := by
  subst e
  exact rows_ens (Reads.of_own h.1) (fun o ho => (h.2 o ho).rd)
theorem RowE.lim {w : World} {B n c : Nat} {A : Option Addr} {os : List EO} (h : RowE w B A n c os) : ∀ g, SB A n os g → B ≤ g ∧ g < w.heap.size := by
  rintro g (hA | ⟨o, ho, hg⟩)
  · rcases h.1.2 with ⟨h1, _⟩ | ⟨g', cap, cur, h1, h2, h3, _⟩
    · injection h1 with h1
      rw [hA] at h1; cases h1
    · injection h1 with h1
      rw [hA] at h1
      injection h1 with h1
      injection h1 with h1
      subst h1
      exact ⟨h2, Blk.lt (show Blk w g 48 cur from h3)⟩
  · obtain ⟨h1, cur, h2⟩ := (h.2 o ho).has hg
    exact ⟨h1, h2.lt⟩
theorem OwnR.fr' {w w' : World} {S : Nat → Prop} {base n : Nat} {e : TypeId} {X : Option Addr} {xs : List Value} (h : OwnR w base e X n xs) (hf : Fr S w w') (hS : ∀ g, blkO X n g → ¬ S g) : OwnR w' base e X n xs := ⟨h.1, fun hp => by
  obtain ⟨g, cur, hA, hg, hb, ht⟩ := h.2 hp
  exact ⟨g, cur, hA, hg, hf.blk (hS g ⟨hp, hA⟩) hb, ht⟩⟩
theorem ownE.fr {w w' : World} {S : Nat → Prop} {b : Nat} {o : EO} (h : ownE w b o) (hf : Fr S w w') (hS : ∀ g, hasB o g → ¬ S g) : ownE w' b o :=
  ⟨⟨h.1.1, h.1.2.fr' hf (fun g hg => hS g (.inl hg))⟩, ⟨h.2.1.1, h.2.1.2.fr' hf (fun g hg => hS g (.inr (.inl hg)))⟩, ⟨h.2.2.1.1, h.2.2.1.2.fr' hf (fun g hg => hS g (.inr (.inr (.inl hg))))⟩, ⟨h.2.2.2.1, h.2.2.2.2.fr' hf (fun g hg => hS g (.inr (.inr (.inr hg))))⟩⟩
theorem RowE.fr {w w' : World} {S : Nat → Prop} {B n c : Nat} {A : Option Addr} {os : List EO} (h : RowE w B A n c os) (hf : Fr S w w') (hS : ∀ g, SB A n os g → ¬ S g) : RowE w' B A n c os := by
  refine ⟨⟨h.1.1, ?_⟩, fun o ho => (h.2 o ho).fr hf (fun g hg => hS g (.inr ⟨o, ho, hg⟩))⟩
  rcases h.1.2 with h1 | ⟨g, cap, cur, h1, h2, h3, h4⟩
  · exact .inl h1
  · exact .inr ⟨g, cap, cur, h1, h2, hf.blk (hS g (.inl (by injection h1))) h3, h4⟩
theorem RowE.wr {w : World} {B n c : Nat} {A : Option Addr} {os : List EO} {l : List En} (h : RowE w B A n c os) (e : os.map (·.x) = l) : Wr w (SB A n os) 48 15 A n (l.map fdsE) := by
  subst e
  have hlen := h.len
  obtain ⟨ho, ht⟩ := h
  refine ⟨by simp [hlen], fun h0 => ?_⟩
  · rcases ho.2 with ⟨_, h1⟩ | ⟨g, cap, cur, hv, hb, hh, _, _, _, htk⟩
    · omega
    · injection hv with hA
      have hblk : Blk w g 48 cur := hh
      refine ⟨g, cur, hA, .inl hA, hblk, fun i r' hr j f hf => ?_⟩
      rw [List.map_map, List.getElem?_map] at hr
      obtain ⟨o, hoo, rfl⟩ := Option.map_eq_some_iff.1 hr
      have hto := ht o (List.mem_of_getElem? hoo)
      have hcell : ∀ j v, (row15 o)[j]? = some v → j < 15 → cur[i * 15 + j]? = some v := by
        intro j v hv hj
        have h5 := flat15_at os i j o v hoo hv hj
        rw [← htk, List.getElem?_take] at h5
        split at h5
        · simpa using h5
        · cases h5
      match j, hf with
      | 0, hf => injection hf with hf; subst hf; exact ⟨_, hcell 0 _ rfl (by omega), trivial⟩
      | 1, hf => injection hf with hf; subst hf; exact ⟨_, hcell 1 _ rfl (by omega), trivial⟩
      | 2, hf => injection hf with hf; subst hf; exact ⟨_, hcell 2 _ rfl (by omega), trivial⟩
      | 3, hf => injection hf with hf; subst hf; exact ⟨_, hcell 3 _ rfl (by omega), trivial⟩
      | 4, hf =>
        injection hf with hf; subst hf
        refine ⟨_, hcell 4 _ rfl (by omega), o.X0, _, o.c0, rfl, rfl, fun hm0 => ?_⟩
        obtain ⟨g', cur', e, hg', hb', ht'⟩ := hto.1.2.2 hm0
        refine ⟨g', _, cur', e, .inr ⟨o, List.mem_of_getElem? hoo, .inl ⟨hm0, e⟩⟩, hb', ?_, by decide⟩
        have h6 := congrArg List.length ht'
        simp only [List.length_take, ints, List.length_map, Array.length_toList] at h6
        omega
      | 5, hf => injection hf with hf; subst hf; exact ⟨_, hcell 5 _ rfl (by omega), trivial⟩
      | 6, hf => injection hf with hf; subst hf; exact ⟨_, hcell 6 _ rfl (by omega), trivial⟩
      | 7, hf =>
        injection hf with hf; subst hf
        refine ⟨_, hcell 7 _ rfl (by omega), o.X1, _, o.c1, rfl, rfl, fun hm0 => ?_⟩
        obtain ⟨g', cur', e, hg', hb', ht'⟩ := hto.2.1.2.2 hm0
        refine ⟨g', _, cur', e, .inr ⟨o, List.mem_of_getElem? hoo, .inr (.inl ⟨hm0, e⟩)⟩, hb', ?_, by decide⟩
        have h6 := congrArg List.length ht'
        simp only [List.length_take, ints, List.length_map, Array.length_toList] at h6
        omega
      | 8, hf => injection hf with hf; subst hf; exact ⟨_, hcell 8 _ rfl (by omega), trivial⟩
      | 9, hf => injection hf with hf; subst hf; exact ⟨_, hcell 9 _ rfl (by omega), trivial⟩
      | 10, hf =>
        injection hf with hf; subst hf
        refine ⟨_, hcell 10 _ rfl (by omega), o.X2, _, o.c2, rfl, rfl, fun hm0 => ?_⟩
        obtain ⟨g', cur', e, hg', hb', ht'⟩ := hto.2.2.1.2.2 hm0
        refine ⟨g', _, cur', e, .inr ⟨o, List.mem_of_getElem? hoo, .inr (.inr (.inl ⟨hm0, e⟩))⟩, hb', ?_, by decide⟩
        have h6 := congrArg List.length ht'
        simp only [List.length_take, ints, List.length_map, Array.length_toList] at h6
        omega
      | 11, hf => injection hf with hf; subst hf; exact ⟨_, hcell 11 _ rfl (by omega), trivial⟩
      | 12, hf => injection hf with hf; subst hf; exact ⟨_, hcell 12 _ rfl (by omega), trivial⟩
      | 13, hf =>
        injection hf with hf; subst hf
        refine ⟨_, hcell 13 _ rfl (by omega), o.X3, _, o.c3, rfl, rfl, fun hm0 => ?_⟩
        obtain ⟨g', cur', e, hg', hb', ht'⟩ := hto.2.2.2.2.2 hm0
        refine ⟨g', _, cur', e, .inr ⟨o, List.mem_of_getElem? hoo, .inr (.inr (.inr ⟨hm0, e⟩))⟩, hb', ?_, by decide⟩
        have h6 := congrArg List.length ht'
        simp only [List.length_take, ints, List.length_map, Array.length_toList] at h6
        omega
      | 14, hf => injection hf with hf; subst hf; exact ⟨_, hcell 14 _ rfl (by omega), trivial⟩
      | j + 15, hf => simp [fdsE, fdsM, fdsD] at hf
theorem accE_row {w : World} {B n c : Nat} {A : Option Addr} {l : List En} (h : AccE w B (.slice A n c) n l) : ∃ os : List EO, os.map (·.x) = l ∧ RowE w B A n c os := by
  obtain ⟨os, h1, h2, h3⟩ := h
  exact ⟨os, h1, h2, h3⟩
/-- A load that carries a mass. -/
def eO (r : MB) : EO := ⟨⟨0, 0, 0, r.m⟩, r.X0, r.c0, r.X1, r.c1, r.X2, r.c2, r.X3, r.c3⟩
theorem eO_own {w : World} {B : Nat} {r : MB} (h : OwM w B r) : ownE w B (eO r) := h
/-- A row of two loads, laid by a builder. -/
theorem row_two {w : World} {b : Nat} {o p : EO} (h : ownE w b o) (h2 : ownE w b p) (hb : b ≤ w.heap.size) : RowE (w.alloc (.cells (row15 o ++ row15 p).toArray 48)) b (some ⟨w.heap.size, 0, none⟩) 2 2 [o, p] := by
  refine ⟨⟨by simp [row15], .inr ⟨w.heap.size, 2, (row15 o ++ row15 p).toArray, rfl, hb, (Blk.new w 48 _ :), Nat.le_refl _, by unfold maxLen; omega, by simp [row15], by simp [row15]⟩⟩, fun o' ho => ?_⟩
  have hB := (Below.refl w.heap.size w).alloc (Nat.le_refl _) (.cells (row15 o ++ row15 p).toArray 48)
  rcases List.mem_cons.1 ho with rfl | ho
  · exact h.map (fun h => h.below hB)
  · rw [List.mem_singleton.1 ho]
    exact h2.map (fun h => h.below hB)
theorem SB_two {w : World} {o p : EO} {g : Nat} (h : SB (some ⟨w.heap.size, 0, none⟩) 2 [o, p] g) : g = w.heap.size ∨ hasB o g ∨ hasB p g := by
  rcases h with h | ⟨o', ho, h⟩
  · injection h with h
    injection h with h
    exact .inl h.symm
  · rcases List.mem_cons.1 ho with rfl | ho
    · exact .inr (.inl h)
    · rw [List.mem_singleton.1 ho] at h
      exact .inr (.inr h)
end Go.Proofs.YtdmjdpaehnhdoaaDoor
