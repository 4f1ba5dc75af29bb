/- Rows of records: each record a list of fields, one cell each: a plain value, or a slice of whole numbers. What is read, what may be written over. -/
import Derived.Test.YtdmjdpaehnhdoaaKit7
namespace Go.Proofs.Ytdmjdpaehnhdoaa
open Go.ChangeShapes Go.WideShapes Go.ChangeAt Go.RowKit
set_option linter.unusedSimpArgs false
set_option linter.unusedVariables false
inductive Fd where
  | val (x : Value) : Fd
  | row (k : IntKind) (xs : List Nat) : Fd
/-- A cell holds a field. -/
def RdF (w : World) (B : Nat) (p : Addr) : Fd → Prop
  | .val x => w.cell? p = some x
  | .row k xs => ∃ X m d, xs.length = m ∧ m ≤ d ∧ Reads w B 1 X m (ints k xs) ∧ w.cell? p = some (.slice X m d)
/-- A row of n records of m fields each, all in blocks below B. -/
def Recs (w : World) (B m : Nat) (A : Option Addr) (n : Nat) (l : List (List Fd)) : Prop :=
  l.length = n ∧ (0 < n → ∃ ad, A = some ad ∧ ad.block < B ∧ ∀ i r, l[i]? = some r → ∀ j f, r[j]? = some f → RdF w B (ad.add (i * m + j)) f)
section
variable {w w' : World} {B B' m n : Nat} {A : Option Addr} {l : List (List Fd)}
theorem RdF.keep {p : Addr} {f : Fd} (h : RdF w B p f) (hp : p.block < B) (hk : ∀ q : Addr, q.block < B → w'.cell? q = w.cell? q) : RdF w' B p f := by
  cases f with
  | val x => exact (hk p hp).trans h
  | row k xs =>
    obtain ⟨X, m, d, h1, h2, h3, h4⟩ := h
    exact ⟨X, m, d, h1, h2, h3.keep hk, (hk p hp).trans h4⟩
theorem RdF.more {p : Addr} {f : Fd} (h : RdF w B p f) (hB : B ≤ B') : RdF w B' p f := by
  cases f with
  | val x => exact h
  | row k xs =>
    obtain ⟨X, m, d, h1, h2, h3, h4⟩ := h
    exact ⟨X, m, d, h1, h2, h3.more hB, h4⟩
theorem Recs.none_ : Recs w B m A 0 [] := ⟨rfl, fun h => absurd h (by omega)⟩
theorem Recs.keep (h : Recs w B m A n l) (hk : ∀ q : Addr, q.block < B → w'.cell? q = w.cell? q) : Recs w' B m A n l :=
  ⟨h.1, fun h0 => by
    obtain ⟨ad, e, hb, hc⟩ := h.2 h0
    exact ⟨ad, e, hb, fun i r hr j f hf => (hc i r hr j f hf).keep (by rw [block_of_add]; exact hb) hk⟩⟩
theorem Recs.more (h : Recs w B m A n l) (hB : B ≤ B') : Recs w B' m A n l :=
  ⟨h.1, fun h0 => by
    obtain ⟨ad, e, hb, hc⟩ := h.2 h0
    exact ⟨ad, e, by omega, fun i r hr j f hf => (hc i r hr j f hf).more hB⟩⟩
theorem Recs.below (h : Recs w B m A n l) (hb : Below B w w') : Recs w' B m A n l := h.keep fun _ hp => hb.cell hp
theorem Recs.drew (h : Recs w B m A n l) : Recs w.drew B m A n l := h.keep fun _ _ => rfl
theorem Recs.alloc (h : Recs w B m A n l) (hB : B ≤ w.heap.size) (o : Obj) : Recs (w.alloc o) B m A n l := h.keep fun p hp => World.cell?_alloc_lt w o p (by omega)
theorem Recs.at_ {i : Nat} (h : Recs w B m A n l) (hi : i < n) : ∃ ad r, A = some ad ∧ ad.block < B ∧ l[i]? = some r ∧ ∀ j f, r[j]? = some f → RdF w B (ad.add (i * m + j)) f := by
  obtain ⟨ad, e, hb, hc⟩ := h.2 (by omega)
  have hl : i < l.length := by have := h.1; omega
  exact ⟨ad, l[i], e, hb, List.getElem?_eq_getElem hl, hc i _ (List.getElem?_eq_getElem hl)⟩
theorem Recs.take (h : Recs w B m A n l) {k : Nat} (hk : k ≤ n) : Recs w B m A k (l.take k) := by
  refine ⟨by rw [List.length_take, h.1]; omega, fun h0 => ?_⟩
  obtain ⟨ad, e, hb, hc⟩ := h.2 (by omega)
  refine ⟨ad, e, hb, fun i r hr => hc i r ?_⟩
  rw [List.getElem?_take] at hr
  split at hr
  · exact hr
  · cases hr
theorem Recs.cut (h : Recs w B m A n l) {k cap : Nat} (hk : k ≤ n) (hc : n ≤ cap) : Recs w B m (if cap = k then A else A.map (·.add (k * m))) (n - k) (l.drop k) := by
  refine ⟨by rw [List.length_drop, h.1], fun h0 => ?_⟩
  obtain ⟨ad, rfl, hb, hcell⟩ := h.2 (by omega)
  rw [if_neg (by omega)]
  refine ⟨ad.add (k * m), rfl, by rw [block_of_add]; exact hb, fun i r hr j f hf => ?_⟩
  rw [add_of_add, show k * m + (i * m + j) = (k + i) * m + j by rw [Nat.add_mul]; omega]
  exact hcell (k + i) r (by rw [← hr, List.getElem?_drop]) j f hf
end
theorem OwnR.lt {w : World} {base n : Nat} {e : TypeId} {A : Option Addr} {xs : List Value} (h : OwnR w base e A n xs) : ∀ g, A = some ⟨g, 0, none⟩ → 0 < n → g < w.heap.size := by
  intro g hA h0
  obtain ⟨g', cur, hA', _, hh, _⟩ := h.2 h0
  rw [hA] at hA'
  injection hA' with hA'
  injection hA' with hA' _ _
  rw [hA']
  exact hh.lt
theorem OwnR.far {w : World} {base n : Nat} {e : TypeId} {A : Option Addr} {xs : List Value} (h : OwnR w base e A n xs) {p : Addr} (hp : p.block < base) (u : Value) : OwnR (w.setCell p u) base e A n xs :=
  ⟨h.1, fun h0 => by obtain ⟨g, cur, hA, hg, hh, ht⟩ := h.2 h0; exact ⟨g, cur, hA, hg, hh.far (by omega) u, ht⟩⟩
/-- Where a row may be written over: it lies at the head of a block of S, whose cells are not of type E. -/
def WrR (w : World) (S : Nat → Prop) (E : TypeId) (X : Option Addr) (m : Nat) : Prop :=
  0 < m → ∃ g T cur, X = some ⟨g, 0, none⟩ ∧ S g ∧ Blk w g T cur ∧ m ≤ cur.size ∧ T ≠ E
def WrF (w : World) (S : Nat → Prop) (E : TypeId) (v : Value) : Fd → Prop
  | .val _ => True
  | .row _ xs => ∃ X m d, v = .slice X m d ∧ xs.length = m ∧ WrR w S E X m
/-- Records that may be written over. -/
def Wr (w : World) (S : Nat → Prop) (E : TypeId) (m : Nat) (A : Option Addr) (n : Nat) (l : List (List Fd)) : Prop :=
  l.length = n ∧ (0 < n → ∃ g cur, A = some ⟨g, 0, none⟩ ∧ S g ∧ Blk w g E cur ∧ ∀ i r, l[i]? = some r → ∀ j f, r[j]? = some f → ∃ v, cur[i * m + j]? = some v ∧ WrF w S E v f)
/-- Blocks outside S stay. -/
def Fr (S : Nat → Prop) (w w' : World) : Prop := Below 0 w w' ∧ w'.heap.size = w.heap.size ∧ ∀ g, ¬ S g → w'.heap[g]? = w.heap[g]?
section
variable {w w' w'' : World} {S : Nat → Prop} {E : TypeId} {m n : Nat} {A : Option Addr} {l : List (List Fd)}
theorem Fr.refl (S : Nat → Prop) (w : World) : Fr S w w := ⟨Below.refl _ _, rfl, fun _ _ => rfl⟩
theorem Fr.trans (h : Fr S w w') (h2 : Fr S w' w'') : Fr S w w'' := ⟨h.1.trans h2.1, h2.2.1.trans h.2.1, fun g hg => (h2.2.2 g hg).trans (h.2.2 g hg)⟩
theorem Fr.set_ (w : World) {p : Addr} (hp : S p.block) (u : Value) : Fr S w (w.setCell p u) :=
  ⟨(Below.refl 0 w).setCell (Nat.zero_le _) u, by simp, fun g hg => Below.heap_setCell w p u g (fun e => hg (by rw [e]; exact hp))⟩
theorem Fr.below (h : Fr S w w') {B : Nat} (hS : ∀ g, S g → B ≤ g) : Below B w w' :=
  ⟨h.1.os, h.1.tape, h.1.output, h.1.size, fun b hb => h.2.2 b (fun hs => by have := hS b hs; omega)⟩
theorem Fr.blk (h : Fr S w w') {g : Nat} {t : TypeId} {cs : Array Value} (hg : ¬ S g) (hb : Blk w g t cs) : Blk w' g t cs := (h.2.2 g hg).trans hb
theorem OwnR.fr {base : Nat} {e : TypeId} {X : Option Addr} {xs : List Value} (h : OwnR w base e X n xs) (hf : Fr S w w') (hS : ∀ g, X = some ⟨g, 0, none⟩ → ¬ S g) : OwnR w' base e X n xs :=
  ⟨h.1, fun h0 => by obtain ⟨g, cur, hA, hg, hh, ht⟩ := h.2 h0; exact ⟨g, cur, hA, hg, hf.blk (hS g hA) hh, ht⟩⟩
theorem WrR.keep {X : Option Addr} (h : WrR w S E X m) (hk : ∀ g t cs, S g → Blk w g t cs → Blk w' g t cs) : WrR w' S E X m := fun h0 => by
  obtain ⟨g, T, cur, e, hg, hb, hm, hT⟩ := h h0
  exact ⟨g, T, cur, e, hg, hk g T cur hg hb, hm, hT⟩
theorem WrF.keep {v : Value} {f : Fd} (h : WrF w S E v f) (hk : ∀ g t cs, S g → Blk w g t cs → Blk w' g t cs) : WrF w' S E v f := by
  cases f with
  | val x => trivial
  | row k xs =>
    obtain ⟨X, m, d, e, h1, h2⟩ := h
    exact ⟨X, m, d, e, h1, h2.keep hk⟩
theorem Wr.keep (h : Wr w S E m A n l) (hk : ∀ g t cs, S g → Blk w g t cs → Blk w' g t cs) : Wr w' S E m A n l :=
  ⟨h.1, fun h0 => by
    obtain ⟨g, cur, e, hg, hb, hc⟩ := h.2 h0
    exact ⟨g, cur, e, hg, hk g E cur hg hb, fun i r hr j f hf => by
      obtain ⟨v, hv, hw⟩ := hc i r hr j f hf
      exact ⟨v, hv, hw.keep hk⟩⟩⟩
theorem Wr.below (h : Wr w S E m A n l) (hb : Below w.heap.size w w') : Wr w' S E m A n l := h.keep fun g t cs _ hB => hB.below hb hB.lt
theorem Wr.fr {S' : Nat → Prop} (h : Wr w S E m A n l) (hf : Fr S' w w') (hd : ∀ g, S g → ¬ S' g) : Wr w' S E m A n l := h.keep fun g t cs hg hB => hf.blk (hd g hg) hB
theorem Wr.mono {S' : Nat → Prop} (h : Wr w S E m A n l) (hs : ∀ g, S g → S' g) : Wr w S' E m A n l :=
  ⟨h.1, fun h0 => by
    obtain ⟨g, cur, e, hg, hb, hc⟩ := h.2 h0
    refine ⟨g, cur, e, hs g hg, hb, fun i r hr j f hf => ?_⟩
    obtain ⟨v, hv, hw⟩ := hc i r hr j f hf
    refine ⟨v, hv, ?_⟩
    cases f with
    | val x => trivial
    | row k xs =>
      obtain ⟨X, m, d, e1, h1, h2⟩ := hw
      exact ⟨X, m, d, e1, h1, fun h0 => by obtain ⟨g, T, c, e, hg, r⟩ := h2 h0; exact ⟨g, T, c, e, hs g hg, r⟩⟩⟩
theorem Wr.none_ : Wr w S E m A 0 [] := ⟨rfl, fun h => absurd h (by omega)⟩
/-- A plain field is written. -/
theorem Wr.set_val (h : Wr w S E m A n l) {i j : Nat} {r : List Fd} {x : Value} (hr : l[i]? = some r) (hj : r[j]? = some (.val x)) (hrl : ∀ r, r ∈ l → r.length = m) (u : Value) :
    ∃ g v, A = some ⟨g, 0, none⟩ ∧ g < w.heap.size ∧ w.cell? ⟨g, i * m + j, none⟩ = some v ∧ w.frozen? ⟨g, i * m + j, none⟩ = false ∧ Wr (w.setCell ⟨g, i * m + j, none⟩ u) S E m A n l ∧ Fr S w (w.setCell ⟨g, i * m + j, none⟩ u) := by
  have hi : i < n := by
    have := (List.getElem?_eq_some_iff.1 hr).1
    have := h.1
    omega
  obtain ⟨g, cur, e, hg, hb, hc⟩ := h.2 (by omega)
  obtain ⟨v, hv, _⟩ := hc i r hr j _ hj
  refine ⟨g, v, e, hb.lt, by rw [hb.cell]; exact hv, hb.frozen _, ⟨h.1, fun h0 => ⟨g, _, e, hg, hb.set_ _ u, fun i' r' hr' j' f' hf' => ?_⟩⟩, Fr.set_ w hg u⟩
  obtain ⟨v', hv', hw'⟩ := hc i' r' hr' j' f' hf'
  have hkeep : ∀ v f, WrF w S E v f → WrF (w.setCell ⟨g, i * m + j, none⟩ u) S E v f := by
    intro v f hf
    cases f with
    | val x => trivial
    | row k xs =>
      obtain ⟨X, m1, d, e1, h1, h2⟩ := hf
      refine ⟨X, m1, d, e1, h1, fun h0 => ?_⟩
      obtain ⟨g1, T, c1, e2, hg1, hb1, hm1, hT⟩ := h2 h0
      exact ⟨g1, T, c1, e2, hg1, hb1.far (p := ⟨g, i * m + j, none⟩) (hb1.ne_ hb hT) u, hm1, hT⟩
  by_cases hij : i' * m + j' = i * m + j
  · have hjm : j < m := by
      have h1 := (List.getElem?_eq_some_iff.1 hj).1
      have h2 := hrl r (List.mem_of_getElem? hr)
      omega
    have hjm' : j' < m := by
      have h1 := (List.getElem?_eq_some_iff.1 hf').1
      have h2 := hrl r' (List.mem_of_getElem? hr')
      omega
    have hm0 : 0 < m := by omega
    have hii : i' = i := by
      have h1 : (i' * m + j') / m = (i * m + j) / m := by rw [hij]
      rw [Nat.mul_comm, Nat.mul_add_div hm0, Nat.div_eq_of_lt hjm', Nat.mul_comm i, Nat.mul_add_div hm0, Nat.div_eq_of_lt hjm] at h1
      omega
    subst hii
    have hjj : j' = j := by omega
    subst hjj
    rw [hr] at hr'
    injection hr' with hr'
    subst hr'
    rw [hj] at hf'
    injection hf' with hf'
    subst hf'
    refine ⟨u, ?_, trivial⟩
    rw [Array.getElem?_setIfInBounds_self_of_lt]
    exact (Array.getElem?_eq_some_iff.1 hv').1
  · refine ⟨v', ?_, hkeep v' f' hw'⟩
    rw [Array.getElem?_setIfInBounds_ne (fun e => hij e.symm)]
    exact hv'
/-- A number of a row is written. -/
theorem Wr.set_row (h : Wr w S E m A n l) {i j q : Nat} {r : List Fd} {k : IntKind} {xs : List Nat} (hr : l[i]? = some r) (hj : r[j]? = some (.row k xs)) :
    ∃ g X c d, A = some ⟨g, 0, none⟩ ∧ g < w.heap.size ∧ xs.length = c ∧ w.cell? ⟨g, i * m + j, none⟩ = some (.slice X c d) ∧ (q < c → ∃ g' v, X = some ⟨g', 0, none⟩ ∧ g' < w.heap.size ∧ w.cell? ⟨g', q, none⟩ = some v ∧ w.frozen? ⟨g', q, none⟩ = false ∧ ∀ u, Wr (w.setCell ⟨g', q, none⟩ u) S E m A n l ∧ Fr S w (w.setCell ⟨g', q, none⟩ u)) := by
  have hi : i < n := by
    have := (List.getElem?_eq_some_iff.1 hr).1
    have := h.1
    omega
  obtain ⟨g, cur, e, hg, hb, hc⟩ := h.2 (by omega)
  obtain ⟨v, hv, hw⟩ := hc i r hr j _ hj
  obtain ⟨X, c, d, rfl, hxc, hwr⟩ := hw
  refine ⟨g, X, c, d, e, hb.lt, hxc, by rw [hb.cell]; exact hv, fun hq => ?_⟩
  obtain ⟨g1, T, c1, rfl, hg1, hb1, hm1, hT⟩ := hwr (by omega)
  refine ⟨g1, c1[q]'(by omega), rfl, hb1.lt, by rw [hb1.cell]; exact Array.getElem?_eq_getElem (by omega), hb1.frozen _, fun u => ⟨⟨h.1, fun h0 => ⟨g, cur, e, hg, hb.far (p := ⟨g1, q, none⟩) (fun e2 => hb.ne_ hb1 (Ne.symm hT) e2) u, fun i' r' hr' j' f' hf' => ?_⟩⟩, Fr.set_ w hg1 u⟩⟩
  obtain ⟨v', hv', hw'⟩ := hc i' r' hr' j' f' hf'
  refine ⟨v', hv', ?_⟩
  cases f' with
  | val x => trivial
  | row k' xs' =>
    obtain ⟨X', m', d', e1, h1, h2⟩ := hw'
    refine ⟨X', m', d', e1, h1, fun h0 => ?_⟩
    obtain ⟨g2, T2, c2, e2, hg2, hb2, hm2, hT2⟩ := h2 h0
    by_cases hgg : g2 = g1
    · subst hgg
      have hcc : T2 = T ∧ c2 = c1 := by
        have h5 : w.heap[g2]? = some (.cells c2 T2 (0, 0)) := hb2
        have h6 : w.heap[g2]? = some (.cells c1 T (0, 0)) := hb1
        rw [h5] at h6
        injection h6 with h6
        injection h6 with h6 h7
        exact ⟨h7, h6⟩
      obtain ⟨rfl, rfl⟩ := hcc
      exact ⟨g2, T2, _, e2, hg2, hb2.set_ q u, by rw [Array.size_setIfInBounds]; exact hm2, hT2⟩
    · exact ⟨g2, T2, c2, e2, hg2, hb2.far (p := ⟨g1, q, none⟩) hgg u, hm2, hT2⟩
end
end Go.Proofs.Ytdmjdpaehnhdoaa
