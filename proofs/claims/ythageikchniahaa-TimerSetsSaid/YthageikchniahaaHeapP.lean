/- Timer: a heap of timers, plain: what stands in the heap's order, what one way down makes of it, the least one. -/
namespace Go.Proofs.Ythageikchniahaa
set_option linter.unusedVariables false
abbrev Tm := Int × Int
/-- One is ahead of another one. -/
def ahd (a b : Tm) : Bool := decide (a.1 < b.1 ∨ a.1 = b.1 ∧ a.2 < b.2)
theorem ahd_iff {a b : Tm} : ahd a b = true ↔ (a.1 < b.1 ∨ a.1 = b.1 ∧ a.2 < b.2) := by simp [ahd]
theorem ahd_not {a b : Tm} : ahd a b = false ↔ ¬ (a.1 < b.1 ∨ a.1 = b.1 ∧ a.2 < b.2) := by simp [ahd]
theorem ahd_irr (a : Tm) : ahd a a = false := by rw [ahd_not]; omega
theorem ahd_asymm {a b : Tm} (h : ahd a b = true) : ahd b a = false := by rw [ahd_not]; rw [ahd_iff] at h; omega
theorem ahd_trans {a b c : Tm} (h : ahd a b = true) (h2 : ahd b c = true) : ahd a c = true := by rw [ahd_iff] at *; omega
theorem ahd_le_trans {a b c : Tm} (h : ahd b a = false) (h2 : ahd c b = false) : ahd c a = false := by rw [ahd_not] at *; omega
theorem ahd_le_antisymm {a b : Tm} (h : ahd a b = false) (h2 : ahd b a = false) : a = b := by
  rw [ahd_not] at *
  obtain ⟨a1, a2⟩ := a
  obtain ⟨b1, b2⟩ := b
  simp only at h h2
  rw [Prod.mk.injEq]
  omega
def tz (l : List Tm) (k : Nat) : Tm := l.getD k (0, 0)
theorem tz_some {l : List Tm} {k : Nat} {x : Tm} (h : l[k]? = some x) : tz l k = x := by simp [tz, h]
theorem tz_lt {l : List Tm} {k : Nat} (h : k < l.length) : l[k]? = some (tz l k) := by simp [tz, h]
def swp (l : List Tm) (i j : Nat) : List Tm := (l.set i (tz l j)).set j (tz l i)
theorem swp_len (l : List Tm) (i j : Nat) : (swp l i j).length = l.length := by simp [swp]
theorem swp_perm {l : List Tm} {i j : Nat} (hi : i < l.length) (hj : j < l.length) : (swp l i j).Perm l := by
  have h := Array.swap_perm (xs := l.toArray) (i := i) (j := j) (by simpa using hi) (by simpa using hj)
  rw [Array.perm_iff_toList_perm] at h
  have e : (l.toArray.swap i j (by simpa using hi) (by simpa using hj)).toList = swp l i j := by
    simp [swp, tz, Array.swap, hi, hj]
  rw [e] at h
  exact h
theorem swp_at (l : List Tm) {i j k : Nat} (hi : i < l.length) (hj : j < l.length) : tz (swp l i j) k = if k = j then tz l i else if k = i then tz l j else tz l k := by
  by_cases h : k = j
  · subst h
    rw [if_pos rfl]
    exact tz_some (by simp [swp, hj])
  · rw [if_neg h]
    by_cases h2 : k = i
    · subst h2
      rw [if_pos rfl]
      exact tz_some (by simp [swp, hi, Ne.symm h])
    · rw [if_neg h2]
      unfold swp tz
      rw [List.getD_eq_getElem?_getD, List.getElem?_set, if_neg (Ne.symm h), List.getElem?_set, if_neg (Ne.symm h2), ← List.getD_eq_getElem?_getD]
/-- From place i on, below n, no child is ahead of its parent. -/
def HpFrom (l : List Tm) (i n : Nat) : Prop := ∀ p k, i ≤ p → k < n → (k = 2 * p + 1 ∨ k = 2 * p + 2) → ahd (tz l k) (tz l p) = false
/-- The same but for the children of place i; and those are not ahead of the parent of place i. -/
def Hole (l : List Tm) (i0 i n : Nat) : Prop := i0 ≤ i ∧ (∀ p k, i0 ≤ p → p ≠ i → k < n → (k = 2 * p + 1 ∨ k = 2 * p + 2) → ahd (tz l k) (tz l p) = false) ∧
  ∀ q k, i0 ≤ q → (i = 2 * q + 1 ∨ i = 2 * q + 2) → k < n → (k = 2 * i + 1 ∨ k = 2 * i + 2) → ahd (tz l k) (tz l q) = false
theorem hole_start {l : List Tm} {i n : Nat} (h : HpFrom l (i + 1) n) : Hole l i i n :=
  ⟨Nat.le_refl _, fun p k h1 h2 h3 h4 => h p k (by omega) h3 h4, fun q k h1 h2 _ _ => by omega⟩
theorem hole_leaf {l : List Tm} {i0 i n : Nat} (h : Hole l i0 i n) (hn : n ≤ 2 * i + 1) : HpFrom l i0 n := fun p k h1 h2 h3 => by
  by_cases hp : p = i
  · omega
  · exact h.2.1 p k h1 hp h2 h3
/-- j is a child of i that no child of i is ahead of. -/
def Least (l : List Tm) (i j n : Nat) : Prop := j < n ∧ (j = 2 * i + 1 ∨ j = 2 * i + 2) ∧ ∀ k, k < n → (k = 2 * i + 1 ∨ k = 2 * i + 2) → ahd (tz l k) (tz l j) = false
theorem least_left {l : List Tm} {i n : Nat} (h : 2 * i + 1 < n) (h2 : ∀ (_ : 2 * i + 2 < n), ahd (tz l (2 * i + 2)) (tz l (2 * i + 1)) = false) : Least l i (2 * i + 1) n :=
  ⟨h, Or.inl rfl, fun k hk hc => by
    rcases hc with rfl | rfl
    · exact ahd_irr _
    · exact h2 hk⟩
theorem least_right {l : List Tm} {i n : Nat} (h : 2 * i + 2 < n) (h2 : ahd (tz l (2 * i + 2)) (tz l (2 * i + 1)) = true) : Least l i (2 * i + 2) n :=
  ⟨h, Or.inr rfl, fun k hk hc => by
    rcases hc with rfl | rfl
    · exact ahd_asymm h2
    · exact ahd_irr _⟩
theorem hole_end {l : List Tm} {i0 i j n : Nat} (h : Hole l i0 i n) (hl : Least l i j n) (hs : ahd (tz l j) (tz l i) = false) : HpFrom l i0 n := fun p k h1 h2 h3 => by
  by_cases hp : p = i
  · subst hp
    exact ahd_le_trans hs (hl.2.2 k h2 h3)
  · exact h.2.1 p k h1 hp h2 h3
theorem hole_step {l : List Tm} {i0 i j n : Nat} (hn : n ≤ l.length) (h : Hole l i0 i n) (hl : Least l i j n) (hs : ahd (tz l j) (tz l i) = true) : Hole (swp l i j) i0 j n := by
  obtain ⟨h0, ha, hb⟩ := h
  obtain ⟨hj, hij, hm⟩ := hl
  have hi' : i < l.length := by omega
  have hj' : j < l.length := by omega
  refine ⟨by omega, fun p k h1 h2 h3 h4 => ?_, fun q k h1 h2 h3 h4 => ?_⟩
  · rw [swp_at l hi' hj', swp_at l hi' hj', if_neg h2]
    by_cases hp : p = i
    · subst hp
      rw [if_pos rfl]
      by_cases hk : k = j
      · rw [if_pos hk]; exact ahd_asymm hs
      · rw [if_neg hk, if_neg (by omega)]; exact hm k h3 h4
    · rw [if_neg hp, if_neg (by omega)]
      by_cases hk : k = i
      · subst hk
        rw [if_pos rfl]
        exact hb p j h1 h4 hj hij
      · rw [if_neg hk]; exact ha p k h1 hp h3 h4
  · have hq : q = i := by omega
    subst hq
    rw [swp_at l hi' hj', swp_at l hi' hj', if_neg (by omega), if_neg (by omega), if_neg (by omega), if_pos rfl]
    exact ha j k (by omega) (by omega) h3 h4
/-- The first one of a heap is the least one. -/
theorem heap_first {l : List Tm} {n : Nat} (h : HpFrom l 0 n) : ∀ k, k < n → ahd (tz l k) (tz l 0) = false := by
  intro k
  induction k using Nat.strongRecOn with
  | ind k ih =>
    intro hk
    rcases Nat.eq_zero_or_pos k with rfl | hp
    · exact ahd_irr _
    · have h1 := ih ((k - 1) / 2) (by omega) (by omega)
      have h2 := h ((k - 1) / 2) k (Nat.zero_le _) hk (by omega)
      exact ahd_le_trans h1 h2
theorem heap_swap {l : List Tm} {n : Nat} (hn : l.length = n + 1) (h : HpFrom l 0 (n + 1)) : HpFrom (swp l 0 n) 1 n := fun p k h1 h2 h3 => by
  rw [swp_at l (by omega) (by omega), swp_at l (by omega) (by omega), if_neg (by omega), if_neg (by omega), if_neg (by omega), if_neg (by omega)]
  exact h p k (by omega) (by omega) h3
/-- What lies at n or behind it stays. -/
def Kept (l l' : List Tm) (n : Nat) : Prop := l'.Perm l ∧ ∀ k, n ≤ k → tz l' k = tz l k
theorem kept_refl (l : List Tm) (n : Nat) : Kept l l n := ⟨List.Perm.refl _, fun _ _ => rfl⟩
theorem kept_swp {l l' : List Tm} {n i j : Nat} (h : Kept l l' n) (hi : i < n) (hj : j < n) (hn : n ≤ l.length) : Kept l (swp l' i j) n := by
  have e := h.1.length_eq
  refine ⟨(swp_perm (by omega) (by omega)).trans h.1, fun k hk => ?_⟩
  rw [swp_at l' (by omega) (by omega), if_neg (by omega), if_neg (by omega)]
  exact h.2 k hk
theorem hp_start (l : List Tm) {i n : Nat} (h : n ≤ 2 * i + 1) : HpFrom l i n := fun p k h1 h2 h3 => by omega
/-- What a pop takes away: the least one; what is left is a heap again. -/
def Pops (l r : List Tm) (t : Tm) : Prop := (t :: r).Perm l ∧ (∀ x ∈ r, ahd x t = false) ∧ HpFrom r 0 r.length
theorem take_tz {l : List Tm} {n k : Nat} (h : k < n) : tz (l.take n) k = tz l k := by
  unfold tz
  rw [List.getD_eq_getElem?_getD, List.getD_eq_getElem?_getD, List.getElem?_take, if_pos h]
theorem pops_of {l m : List Tm} {n : Nat} (hn : l.length = n + 1) (h : HpFrom l 0 (n + 1)) (hk : Kept (swp l 0 n) m n) (hm : HpFrom m 0 n) : tz m n = tz l 0 ∧ Pops l (m.take n) (tz m n) := by
  have e : tz m n = tz l 0 := by
    rw [hk.2 n (Nat.le_refl _), swp_at l (by omega) (by omega), if_pos rfl]
  have hlen : m.length = n + 1 := by have := hk.1.length_eq; rw [swp_len] at this; omega
  have hsplit : m = m.take n ++ [tz m n] := by
    have h1 : m.drop n = [tz m n] := by
      rw [List.drop_eq_getElem_cons (by omega), List.drop_of_length_le (by omega)]
      have := tz_lt (l := m) (k := n) (by omega)
      rw [List.getElem?_eq_getElem (by omega)] at this
      injection this with this
      rw [this]
    rw [← h1, List.take_append_drop]
  have hp : (tz m n :: m.take n).Perm l := by
    have h2 : (m.take n ++ [tz m n]).Perm l := by rw [← hsplit]; exact hk.1.trans (swp_perm (by omega) (by omega))
    exact (List.perm_append_comm (l₁ := [tz m n]) (l₂ := m.take n)).trans h2
  refine ⟨e, hp, fun x hx => ?_, fun p k h1 h2 h3 => ?_⟩
  · have h3 : x ∈ l := hp.subset (List.mem_cons_of_mem _ hx)
    obtain ⟨k, hk2, rfl⟩ := List.getElem_of_mem h3
    have h4 := heap_first h k (by omega)
    have h5 : tz l k = l[k] := tz_some (List.getElem?_eq_getElem hk2)
    rw [e, ← h5]
    exact h4
  · have h4 : k < n := by rw [List.length_take] at h2; omega
    rw [take_tz h4, take_tz (by omega)]
    exact hm p k h1 h4 h3
/-- In order; two the same let in. -/
def Ord (l : List Tm) : Prop := l.Pairwise (fun a b => ahd b a = false)
/-- In order, none twice. -/
def Str (l : List Tm) : Prop := l.Pairwise (fun a b => ahd a b = true)
theorem ord_snoc {l r : List Tm} {t : Tm} (h : Ord l) (hr : ∀ x ∈ l, ∀ y ∈ (t :: r), ahd y x = false) : Ord (l ++ [t]) := by
  refine List.pairwise_append.2 ⟨h, List.pairwise_singleton _ _, fun x hx y hy => ?_⟩
  rw [List.mem_singleton] at hy
  subst hy
  exact hr x hx y (List.mem_cons_self ..)
theorem str_ord {l : List Tm} (h : Str l) : Ord l := h.imp ahd_asymm
theorem str_eq : ∀ {a b : List Tm}, Str a → Str b → (∀ x, x ∈ a ↔ x ∈ b) → a = b
  | [], [], _, _, _ => rfl
  | [], y :: b, _, _, h => by have := (h y).2 (List.mem_cons_self ..); cases this
  | x :: a, [], _, _, h => by have := (h x).1 (List.mem_cons_self ..); cases this
  | x :: a, y :: b, ha, hb, h => by
    have ha := List.pairwise_cons.1 ha
    have hb := List.pairwise_cons.1 hb
    have hxy : x = y := by
      rcases List.mem_cons.1 ((h x).1 (List.mem_cons_self ..)) with e | h1
      · exact e
      · rcases List.mem_cons.1 ((h y).2 (List.mem_cons_self ..)) with e | h2
        · exact e.symm
        · have h3 := hb.1 x h1
          have h4 := ahd_asymm (ha.1 y h2)
          rw [h3] at h4
          cases h4
    subst hxy
    have : a = b := str_eq ha.2 hb.2 (fun z => by
      constructor
      · intro hz
        rcases List.mem_cons.1 ((h z).1 (List.mem_cons_of_mem _ hz)) with e | h1
        · subst e
          have := ha.1 z hz
          rw [ahd_irr] at this
          cases this
        · exact h1
      · intro hz
        rcases List.mem_cons.1 ((h z).2 (List.mem_cons_of_mem _ hz)) with e | h1
        · subst e
          have := hb.1 z hz
          rw [ahd_irr] at this
          cases this
        · exact h1)
    rw [this]
theorem ord_eq : ∀ {a b : List Tm}, Ord a → Ord b → a.Perm b → a = b
  | [], b, _, _, h => by rw [List.nil_perm] at h; exact h.symm
  | x :: a, [], _, _, h => by have := h.length_eq; simp at this
  | x :: a, y :: b, ha, hb, h => by
    have ha := List.pairwise_cons.1 ha
    have hb := List.pairwise_cons.1 hb
    have hxy : x = y := by
      rcases List.mem_cons.1 (h.subset (List.mem_cons_self ..)) with e | h1
      · exact e
      · rcases List.mem_cons.1 (h.symm.subset (List.mem_cons_self ..)) with e | h2
        · exact e.symm
        · exact ahd_le_antisymm (hb.1 x h1) (ha.1 y h2)
    subst hxy
    rw [ord_eq ha.2 hb.2 ((List.perm_cons x).1 h)]
/-- One more one, unless it stood there last. -/
def lay1 (out : List Tm) (t : Tm) : List Tm := if out.getLast? = some t then out else out ++ [t]
theorem lay1_mem {out : List Tm} {t x : Tm} : x ∈ lay1 out t ↔ x ∈ out ∨ x = t := by
  unfold lay1
  split
  · rename_i h
    constructor
    · exact Or.inl
    · rintro (h1 | rfl)
      · exact h1
      · exact List.mem_of_getLast? h
  · simp
theorem lay1_str {out : List Tm} {t : Tm} (h : Str out) (hr : ∀ x ∈ out, ahd t x = false) : Str (lay1 out t) := by
  unfold lay1
  split
  · exact h
  · rename_i hne
    refine List.pairwise_append.2 ⟨h, List.pairwise_singleton _ _, fun x hx y hy => ?_⟩
    rw [List.mem_singleton] at hy
    subst hy
    have h1 := hr x hx
    cases h2 : ahd x y with
    | true => rfl
    | false =>
      exfalso
      have e := ahd_le_antisymm h2 h1
      subst e
      -- x stands in out, and is not its last one: the last one is behind it
      rcases List.eq_nil_or_concat out with e | ⟨i, z, e⟩
      · rw [e] at hx; cases hx
      · subst e
        rw [List.concat_eq_append] at *
        have h3 := List.pairwise_append.1 h
        have hz := hr z (by simp)
        rcases List.mem_append.1 hx with h4 | h4
        · have := h3.2.2 x h4 z (by simp)
          rw [this] at hz
          cases hz
        · rw [List.mem_singleton] at h4
          subst h4
          exact hne (by simp)
end Go.Proofs.Ythageikchniahaa
