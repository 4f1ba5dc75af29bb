/- Flight: rows of loads and single loads: kept, read, written over -/
import Derived.Test.YtdmjdpaehnhdoaaDoorLZ
import Derived.Test.YtdmjdpaehnhdoaaDoorLES
import Derived.Test.YtdmjdpaehnhdoaaDoorLQU
namespace Go.Proofs.YtdmjdpaehnhdoaaDoor
open Go.ChangeShapes Go.WideShapes Go.ChangeAt Go.RowKit
set_option linter.unusedSimpArgs false
set_option linter.unusedVariables false
/-- The blocks of a row of loads. -/
def SB (A : Option Addr) (n : Nat) (os : List EO) (g : Nat) : Prop := (A = some ⟨g, 0, none⟩) ∨ ∃ o ∈ os, hasB o g
/-- A row of loads in memory of its own, from B on. -/
def RowE (w : World) (B : Nat) (A : Option Addr) (n c : Nat) (os : List EO) : Prop := w.ownsRow B 48 15 (.slice A n c) n (os.flatMap row15) ∧ ∀ o ∈ os, ownE w B o
theorem RowE.len {w : World} {B n c : Nat} {A : Option Addr} {os : List EO} (h : RowE w B A n c os) : os.length = n := by
  have h1 := h.1.1
  rw [flat15_len] at h1
  omega
theorem RowE.cap {w : World} {B n c : Nat} {A : Option Addr} {os : List EO} (h : RowE w B A n c os) : n ≤ c := by
  obtain ⟨_, _, e, h1, _⟩ := own_slice h.1
  injection e with _ _ e
  rw [e]; exact h1
theorem RowE.below {w w' : World} {B n c : Nat} {A : Option Addr} {os : List EO} (h : RowE w B A n c os) (hb : Below w.heap.size w w') : RowE w' B A n c os := ⟨own_below h.1 hb, fun o ho => (h.2 o ho).map (fun h => h.below hb)⟩
theorem RowE.ens {w : World} {B n c : Nat} {A : Option Addr} {os : List EO} {l : List En} (h : RowE w B A n c os) (e : os.map (·.x) = l) : Ens w w.heap.size A n l := by
  subst e
  exact rows_ens (Reads.of_own h.1) (fun o ho => (h.2 o ho).rd)
theorem RowE.lim {w : World} {B n c : Nat} {A : Option Addr} {os : List EO} (h : RowE w B A n c os) : ∀ g, SB A n os g → B ≤ g ∧ g < w.heap.size := by
  rintro g (hA | ⟨o, ho, hg⟩)
  · rcases h.1.2 with ⟨h1, _⟩ | ⟨g', cap, cur, h1, h2, h3, _⟩
    · injection h1 with h1
      rw [hA] at h1; cases h1
    · injection h1 with h1
      rw [hA] at h1
      injection h1 with h1
      injection h1 with h1
      subst h1
      exact ⟨h2, Blk.lt (show Blk w g 48 cur from h3)⟩
  · obtain ⟨h1, cur, h2⟩ := (h.2 o ho).has hg
    exact ⟨h1, h2.lt⟩
theorem OwnR.fr' {w w' : World} {S : Nat → Prop} {base n : Nat} {e : TypeId} {X : Option Addr} {xs : List Value} (h : OwnR w base e X n xs) (hf : Fr S w w') (hS : ∀ g, blkO X n g → ¬ S g) : OwnR w' base e X n xs := ⟨h.1, fun hp => by
  obtain ⟨g, cur, hA, hg, hb, ht⟩ := h.2 hp
  exact ⟨g, cur, hA, hg, hf.blk (hS g ⟨hp, hA⟩) hb, ht⟩⟩
theorem ownE.fr {w w' : World} {S : Nat → Prop} {b : Nat} {o : EO} (h : ownE w b o) (hf : Fr S w w') (hS : ∀ g, hasB o g → ¬ S g) : ownE w' b o :=
  ⟨⟨h.1.1, h.1.2.fr' hf (fun g hg => hS g (.inl hg))⟩, ⟨h.2.1.1, h.2.1.2.fr' hf (fun g hg => hS g (.inr (.inl hg)))⟩, ⟨h.2.2.1.1, h.2.2.1.2.fr' hf (fun g hg => hS g (.inr (.inr (.inl hg))))⟩, ⟨h.2.2.2.1, h.2.2.2.2.fr' hf (fun g hg => hS g (.inr (.inr (.inr hg))))⟩⟩
theorem RowE.fr {w w' : World} {S : Nat → Prop} {B n c : Nat} {A : Option Addr} {os : List EO} (h : RowE w B A n c os) (hf : Fr S w w') (hS : ∀ g, SB A n os g → ¬ S g) : RowE w' B A n c os := by
  refine ⟨⟨h.1.1, ?_⟩, fun o ho => (h.2 o ho).fr hf (fun g hg => hS g (.inr ⟨o, ho, hg⟩))⟩
  rcases h.1.2 with h1 | ⟨g, cap, cur, h1, h2, h3, h4⟩
  · exact .inl h1
  · exact .inr ⟨g, cap, cur, h1, h2, hf.blk (hS g (.inl (by injection h1))) h3, h4⟩
set_option maxHeartbeats 4000000 in
theorem RowE.wr {w : World} {B n c : Nat} {A : Option Addr} {os : List EO} {l : List En} (h : RowE w B A n c os) (e : os.map (·.x) = l) : Wr w (SB A n os) 48 15 A n (l.map fdsE) := by
  subst e
  have hlen := h.len
  obtain ⟨ho, ht⟩ := h
  refine ⟨by simp [hlen], fun h0 => ?_⟩
  · rcases ho.2 with ⟨_, h1⟩ | ⟨g, cap, cur, hv, hb, hh, _, _, _, htk⟩
    · omega
    · injection hv with hA
      have hblk : Blk w g 48 cur := hh
      refine ⟨g, cur, hA, .inl hA, hblk, fun i r' hr j f hf => ?_⟩
      rw [List.map_map, List.getElem?_map] at hr
      obtain ⟨o, hoo, rfl⟩ := Option.map_eq_some_iff.1 hr
      have hto := ht o (List.mem_of_getElem? hoo)
      have hcell : ∀ j v, (row15 o)[j]? = some v → j < 15 → cur[i * 15 + j]? = some v := by
        intro j v hv hj
        have h5 := flat15_at os i j o v hoo hv hj
        rw [← htk, List.getElem?_take] at h5
        split at h5
        · simpa using h5
        · cases h5
      match j, hf with
      | 0, hf => injection hf with hf; subst hf; exact ⟨_, hcell 0 _ rfl (by omega), trivial⟩
      | 1, hf => injection hf with hf; subst hf; exact ⟨_, hcell 1 _ rfl (by omega), trivial⟩
      | 2, hf => injection hf with hf; subst hf; exact ⟨_, hcell 2 _ rfl (by omega), trivial⟩
      | 3, hf => injection hf with hf; subst hf; exact ⟨_, hcell 3 _ rfl (by omega), trivial⟩
      | 4, hf =>
        injection hf with hf; subst hf
        refine ⟨_, hcell 4 _ rfl (by omega), o.X0, _, o.c0, rfl, rfl, fun hm0 => ?_⟩
        obtain ⟨g', cur', e, hg', hb', ht'⟩ := hto.1.2.2 hm0
        refine ⟨g', _, cur', e, .inr ⟨o, List.mem_of_getElem? hoo, .inl ⟨hm0, e⟩⟩, hb', ?_, by decide⟩
        have h6 := congrArg List.length ht'
        simp only [List.length_take, ints, List.length_map, Array.length_toList] at h6
        omega
      | 5, hf => injection hf with hf; subst hf; exact ⟨_, hcell 5 _ rfl (by omega), trivial⟩
      | 6, hf => injection hf with hf; subst hf; exact ⟨_, hcell 6 _ rfl (by omega), trivial⟩
      | 7, hf =>
        injection hf with hf; subst hf
        refine ⟨_, hcell 7 _ rfl (by omega), o.X1, _, o.c1, rfl, rfl, fun hm0 => ?_⟩
        obtain ⟨g', cur', e, hg', hb', ht'⟩ := hto.2.1.2.2 hm0
        refine ⟨g', _, cur', e, .inr ⟨o, List.mem_of_getElem? hoo, .inr (.inl ⟨hm0, e⟩)⟩, hb', ?_, by decide⟩
        have h6 := congrArg List.length ht'
        simp only [List.length_take, ints, List.length_map, Array.length_toList] at h6
        omega
      | 8, hf => injection hf with hf; subst hf; exact ⟨_, hcell 8 _ rfl (by omega), trivial⟩
      | 9, hf => injection hf with hf; subst hf; exact ⟨_, hcell 9 _ rfl (by omega), trivial⟩
      | 10, hf =>
        injection hf with hf; subst hf
        refine ⟨_, hcell 10 _ rfl (by omega), o.X2, _, o.c2, rfl, rfl, fun hm0 => ?_⟩
        obtain ⟨g', cur', e, hg', hb', ht'⟩ := hto.2.2.1.2.2 hm0
        refine ⟨g', _, cur', e, .inr ⟨o, List.mem_of_getElem? hoo, .inr (.inr (.inl ⟨hm0, e⟩))⟩, hb', ?_, by decide⟩
        have h6 := congrArg List.length ht'
        simp only [List.length_take, ints, List.length_map, Array.length_toList] at h6
        omega
      | 11, hf => injection hf with hf; subst hf; exact ⟨_, hcell 11 _ rfl (by omega), trivial⟩
      | 12, hf => injection hf with hf; subst hf; exact ⟨_, hcell 12 _ rfl (by omega), trivial⟩
      | 13, hf =>
        injection hf with hf; subst hf
        refine ⟨_, hcell 13 _ rfl (by omega), o.X3, _, o.c3, rfl, rfl, fun hm0 => ?_⟩
        obtain ⟨g', cur', e, hg', hb', ht'⟩ := hto.2.2.2.2.2 hm0
        refine ⟨g', _, cur', e, .inr ⟨o, List.mem_of_getElem? hoo, .inr (.inr (.inr ⟨hm0, e⟩))⟩, hb', ?_, by decide⟩
        have h6 := congrArg List.length ht'
        simp only [List.length_take, ints, List.length_map, Array.length_toList] at h6
        omega
      | 14, hf => injection hf with hf; subst hf; exact ⟨_, hcell 14 _ rfl (by omega), trivial⟩
      | j + 15, hf => simp [fdsE, fdsM, fdsD] at hf
theorem accE_row {w : World} {B n c : Nat} {A : Option Addr} {l : List En} (h : AccE w B (.slice A n c) n l) : ∃ os : List EO, os.map (·.x) = l ∧ RowE w B A n c os := by
  obtain ⟨os, h1, h2, h3⟩ := h
  exact ⟨os, h1, h2, h3⟩
theorem outE_row {w w' : World} {v : Value} {l : List En} (h : OutE w v l w') : ∃ (A : Option Addr) (n c : Nat) (os : List EO), v = .slice A n c ∧ os.map (·.x) = l ∧ RowE w' w.heap.size A n c os ∧ (∀ g, SB A n os g → w.heap.size ≤ g ∧ g < w'.heap.size) ∧ l.length = n ∧ Below w.heap.size w w' := by
  obtain ⟨A, n, c, e, hT⟩ := h
  obtain ⟨os, h1, h2⟩ := accE_row hT.2.2.2.2
  exact ⟨A, n, c, os, e, h1, h2, h2.lim, by rw [← h1, List.length_map, h2.len], hT.2.2.2.1⟩
theorem pair_row {w w' : World} {v : Value} {l : List En} {x : En} {ox : EO} (h : PairE w v l x ox w') : ∃ (A : Option Addr) (n c : Nat) (os : List EO), v = .slice A n c ∧ os.map (·.x) = l ∧ ox.x = x ∧ RowE w' w.heap.size A n c os ∧ (∀ g, SB A n os g → w.heap.size ≤ g ∧ g < w'.heap.size) ∧ l.length = n ∧ ownE w' w.heap.size ox ∧ (∀ g, hasB ox g → w.heap.size ≤ g ∧ g < w'.heap.size) ∧ (∀ g, SB A n os g → hasB ox g → False) ∧ Below w.heap.size w w' := by
  obtain ⟨⟨A, n, c, os, e, h1, h2, h3, h4, h5, h6⟩, hb⟩ := h
  have hr : RowE w' w.heap.size A n c os := ⟨h3, h4⟩
  refine ⟨A, n, c, os, e, h1, h2, hr, hr.lim, by rw [← h1, List.length_map, hr.len], h5, fun g hg => ?_, ?_, hb⟩
  · obtain ⟨p, cur, q⟩ := h5.has hg
    exact ⟨p, q.lt⟩
  · rintro g (hA | ⟨o, ho, hg⟩) hx
    · rcases h3.2 with ⟨p, _⟩ | ⟨g', cap, cur, p, _, q, _⟩
      · injection p with p
        rw [hA] at p; cases p
      · injection p with p
        rw [hA] at p
        injection p with p
        injection p with p
        subst p
        obtain ⟨_, cur2, hb2⟩ := h5.has hx
        exact absurd rfl (Blk.ne_ (show Blk w' g 48 cur from q) hb2 (by decide))
    · exact h6 o ho g hg hx
/-- A row of one load, laid by a builder. -/
theorem row_one {w : World} {b : Nat} {o : EO} (h : ownE w b o) (hb : b ≤ w.heap.size) : RowE (w.alloc (.cells (row15 o).toArray 48)) b (some ⟨w.heap.size, 0, none⟩) 1 1 [o] := by
  refine ⟨⟨by simp [row15], .inr ⟨w.heap.size, 1, (row15 o).toArray, rfl, hb, (Blk.new w 48 _ :), Nat.le_refl _, by unfold maxLen; omega, by simp [row15], by simp [row15]⟩⟩, fun o' ho => ?_⟩
  rw [List.mem_singleton.1 ho]
  exact h.map (fun h => h.below ((Below.refl _ _).alloc (Nat.le_refl _) _))
theorem SB_one {w : World} {o : EO} {g : Nat} (h : SB (some ⟨w.heap.size, 0, none⟩) 1 [o] g) : g = w.heap.size ∨ hasB o g := by
  rcases h with h | ⟨o', ho, h⟩
  · injection h with h
    injection h with h
    exact .inl h.symm
  · rw [List.mem_singleton.1 ho] at h
    exact .inr h
theorem ownE.rdM {w : World} {b : Nat} {o : EO} (h : ownE w b o) : RdM w w.heap.size o.x.give.s.neg o.X0 o.x.give.s.ls.length o.c0 o.x.give.s.ex o.x.give.w.neg o.X1 o.x.give.w.ls.length o.c1 o.x.give.w.ex o.x.give.c.neg o.X2 o.x.give.c.ls.length o.c2 o.x.give.c.ex o.x.give.a.neg o.X3 o.x.give.a.ls.length o.c3 o.x.give.a.ex o.x.give :=
  ⟨⟨rfl, rfl, rfl, h.1.1, h.1.2.reads⟩, ⟨rfl, rfl, rfl, h.2.1.1, h.2.1.2.reads⟩, ⟨rfl, rfl, rfl, h.2.2.1.1, h.2.2.1.2.reads⟩, ⟨rfl, rfl, rfl, h.2.2.2.1, h.2.2.2.2.reads⟩⟩
/-- What answers, is not too long, and its limbs neither. -/
def OkE (l : List En) (l' : List En) : Prop := l'.length ≤ l.length + 1 ∧ ∀ x ∈ l', smM x.give
theorem okE_nil (l : List En) : OkE l [] := ⟨Nat.zero_le _, fun x h => by cases h⟩
theorem zE_sm : smM zE.give := ⟨Nat.zero_le _, Nat.zero_le _, Nat.zero_le _, Nat.zero_le _⟩
theorem insL_len (x : En) : ∀ l : List En, (insL x l).length = l.length + 1
  | [] => rfl
  | y :: r => by
    unfold insL
    split
    · rfl
    · rw [List.length_cons, insL_len x r, List.length_cons]
theorem set_sm {l : List En} (hs : ∀ x ∈ l, smM x.give) {k : Nat} {y : En} (hy : l[k]? = some y) (q : Int) : ∀ x ∈ l.set k { y with cp := q }, smM x.give := fun x hx => by
  rcases List.mem_or_eq_of_mem_set hx with h | rfl
  · exact hs x h
  · exact hs y (List.mem_of_getElem? hy)
theorem lch_ok {l l' : List En} {N e E : Int} {m : Ms} (hs : ∀ x ∈ l, smM x.give) (hm : smM m) (h : LchF l N e m l' E) : OkE l l' := by
  rcases h with ⟨_, _, rfl⟩ | ⟨_, _, _, rfl⟩ | ⟨_, _, ⟨_, _, rfl⟩ | ⟨_, ⟨_, _, rfl⟩ | ⟨_, ⟨_, _, rfl⟩ | ⟨_, ⟨_, _, rfl⟩ | ⟨_, _, rfl⟩⟩⟩⟩⟩
  all_goals first | exact okE_nil _ | exact ⟨Nat.le_of_eq (insL_len _ _), insL_sm hm hs⟩
theorem dbl_ok {l l' : List En} {N E : Int} (hs : ∀ x ∈ l, smM x.give) (h : DblF l N l' E) : OkE l l' := by
  rcases h with ⟨_, _, rfl⟩ | ⟨_, _, _, rfl⟩ | ⟨_, _, ⟨k, y, hy, _, ⟨_, rfl, _⟩ | ⟨_, rfl, _⟩⟩ | ⟨_, rfl, _⟩⟩
  · exact okE_nil _
  · exact okE_nil _
  · exact okE_nil _
  · exact ⟨by rw [List.length_set]; omega, set_sm hs hy _⟩
  · exact ⟨Nat.le_succ _, hs⟩
theorem cme_ok {q : Bool} {l l' : List En} {N E : Int} {x : En} (hs : ∀ x ∈ l, smM x.give) (h : CmeF q l N l' x E) : OkE l l' ∧ smM x.give := by
  rcases h with ⟨_, _, rfl, rfl⟩ | ⟨_, _, _, rfl, rfl⟩ | ⟨_, _, _, ⟨k, y, hy, _, ⟨_, rfl, rfl⟩ | ⟨_, rfl, rfl⟩⟩ | ⟨_, rfl, rfl⟩⟩
  · exact ⟨okE_nil _, zE_sm⟩
  · exact ⟨okE_nil _, zE_sm⟩
  · refine ⟨⟨?_, fun x hx => ?_⟩, hs _ (List.mem_of_getElem? hy)⟩
    · rw [List.length_append, List.length_take, List.length_drop]; omega
    · rcases List.mem_append.1 hx with h | h
      · exact hs x (List.mem_of_mem_take h)
      · exact hs x (List.mem_of_mem_drop h)
  · exact ⟨⟨by rw [List.length_set]; omega, set_sm hs hy _⟩, zE_sm⟩
  · exact ⟨⟨Nat.le_succ _, hs⟩, zE_sm⟩
end Go.Proofs.YtdmjdpaehnhdoaaDoor
