/- Timer: timers in order, plain: what the reference's insertion makes, what taking the least one by one makes. -/
import Derived.Test.YthageikchniahaaHeapP
namespace Go.Proofs.Ythageikchniahaa
set_option linter.unusedVariables false
/-- Timers in order, and one more. -/
def wth : List Tm → Tm → List Tm
  | [], t => [t]
  | x :: r, t => if ahd t x then t :: x :: r else x :: wth r t
theorem wth_mem {t x : Tm} : ∀ {l : List Tm}, x ∈ wth l t ↔ x = t ∨ x ∈ l
  | [] => by simp [wth]
  | y :: r => by
    unfold wth
    split
    · simp
    · rw [List.mem_cons, wth_mem (l := r), List.mem_cons]
      constructor
      · rintro (h | h | h)
        · exact .inr (.inl h)
        · exact .inl h
        · exact .inr (.inr h)
      · rintro (h | h | h)
        · exact .inr (.inl h)
        · exact .inl h
        · exact .inr (.inr h)
theorem wth_len (t : Tm) : ∀ l : List Tm, (wth l t).length = l.length + 1
  | [] => rfl
  | y :: r => by
    unfold wth
    split
    · rfl
    · rw [List.length_cons, wth_len t r]; rfl
theorem wth_str {t : Tm} : ∀ {l : List Tm}, Str l → t ∉ l → Str (wth l t)
  | [], _, _ => List.pairwise_singleton _ _
  | y :: r, h, ht => by
    have h1 := List.pairwise_cons.1 h
    unfold wth
    split
    · rename_i hty
      refine List.pairwise_cons.2 ⟨fun x hx => ?_, h⟩
      rcases List.mem_cons.1 hx with rfl | hx
      · exact hty
      · exact ahd_trans hty (h1.1 x hx)
    · rename_i hty
      have hty : ahd t y = false := by simpa using hty
      have hyt : ahd y t = true := by
        cases e : ahd y t with
        | true => rfl
        | false =>
          have := ahd_le_antisymm e hty
          exact absurd (by rw [this]; exact List.mem_cons_self ..) ht
      refine List.pairwise_cons.2 ⟨fun x hx => ?_, wth_str h1.2 (fun h2 => ht (List.mem_cons_of_mem _ h2))⟩
      rcases wth_mem.1 hx with rfl | hx
      · exact hyt
      · exact h1.1 x hx
/-- One more timer, unless it is there. -/
def wth1 (o : List Tm) (t : Tm) : List Tm := if o.contains t then o else wth o t
def ordL (l : List Tm) : List Tm := l.foldl wth1 []
theorem wth1_mem {o : List Tm} {t x : Tm} : x ∈ wth1 o t ↔ x = t ∨ x ∈ o := by
  unfold wth1
  split
  · rename_i h
    constructor
    · exact .inr
    · rintro (rfl | h1)
      · simpa using h
      · exact h1
  · exact wth_mem
theorem wth1_str {o : List Tm} {t : Tm} (h : Str o) : Str (wth1 o t) := by
  unfold wth1
  split
  · exact h
  · rename_i h1
    exact wth_str h (by simpa using h1)
theorem fold_mem {x : Tm} : ∀ {l o : List Tm}, x ∈ l.foldl wth1 o ↔ x ∈ l ∨ x ∈ o
  | [], o => by simp
  | t :: r, o => by
    rw [List.foldl_cons, fold_mem, wth1_mem, List.mem_cons]
    constructor
    · rintro (h | h | h)
      · exact .inl (.inr h)
      · exact .inl (.inl h)
      · exact .inr h
    · rintro ((h | h) | h)
      · exact .inr (.inl h)
      · exact .inl h
      · exact .inr (.inr h)
theorem fold_str : ∀ {l o : List Tm}, Str o → Str (l.foldl wth1 o)
  | [], o, h => h
  | t :: r, o, h => by rw [List.foldl_cons]; exact fold_str (wth1_str h)
theorem ordL_mem {l : List Tm} {x : Tm} : x ∈ ordL l ↔ x ∈ l := by unfold ordL; rw [fold_mem]; simp
theorem ordL_str (l : List Tm) : Str (ordL l) := fold_str List.Pairwise.nil
theorem ordL_eq {l o : List Tm} (h : Str o) (hm : ∀ x, x ∈ o ↔ x ∈ l) : o = ordL l := str_eq h (ordL_str l) (fun x => by rw [hm, ordL_mem])
theorem ordL_snoc {l : List Tm} {t : Tm} (h : Str l) (ht : t ∉ l) : ordL (l ++ [t]) = wth l t := (ordL_eq (wth_str h ht) (fun x => by rw [wth_mem, List.mem_append, List.mem_singleton]; exact Or.comm)).symm
theorem ordL_len (l : List Tm) : (ordL l).length ≤ l.length := by
  have : ∀ (l o : List Tm), (l.foldl wth1 o).length ≤ l.length + o.length := by
    intro l
    induction l with
    | nil => intro o; simp
    | cons t r ih =>
      intro o
      rw [List.foldl_cons]
      have h1 := ih (wth1 o t)
      have h2 : (wth1 o t).length ≤ o.length + 1 := by
        unfold wth1
        split
        · omega
        · rw [wth_len]; exact Nat.le_refl _
      rw [List.length_cons]
      omega
  simpa [ordL] using this l []
def mayT (t : Tm) : Bool := decide (0 ≤ t.1 ∧ t.1 ≤ 2147483647 ∧ 0 ≤ t.2 ∧ t.2 ≤ 1048575)
/-- The error of timers that are brought in order. -/
def ordE (l : List Tm) : Int := if 1024 < l.length then 4 else if (l.any fun t => !mayT t) then 8 else 0
def ordO (l : List Tm) : List Tm := if ordE l = 0 then ordL l else []
/-- Under way: what was taken, what is left, what came of it. -/
def OrdP (l out r : List Tm) : Prop := ∃ ps, (ps ++ r).Perm l ∧ Str out ∧ (∀ x, x ∈ out ↔ x ∈ ps) ∧ (∀ x ∈ ps, ∀ y ∈ r, ahd y x = false) ∧ out.length ≤ ps.length
theorem ordP_start {l r : List Tm} (h : r.Perm l) : OrdP l [] r := ⟨[], h, List.Pairwise.nil, fun x => Iff.rfl, fun x hx => absurd hx (by simp), Nat.le_refl _⟩
theorem ordP_step {l out r r' : List Tm} {t : Tm} (h : OrdP l out r) (hp : Pops r r' t) : OrdP l (lay1 out t) r' := by
  obtain ⟨ps, h1, h2, h3, h4, h5⟩ := h
  have ht : t ∈ r := hp.1.subset (List.mem_cons_self ..)
  refine ⟨ps ++ [t], ?_, lay1_str h2 (fun x hx => h4 x ((h3 x).1 hx) t ht), fun x => ?_, fun x hx y hy => ?_, ?_⟩
  · rw [List.append_assoc]
    exact (List.Perm.append_left ps hp.1).trans h1
  · rw [lay1_mem, List.mem_append, List.mem_singleton, h3]
  · rcases List.mem_append.1 hx with hx | hx
    · exact h4 x hx y (hp.1.subset (List.mem_cons_of_mem _ hy))
    · rw [List.mem_singleton] at hx
      subst hx
      exact hp.2.1 y hy
  · unfold lay1
    split
    · simp; omega
    · simp; omega
theorem ordP_end {l out : List Tm} (h : OrdP l out []) : out = ordL l := by
  obtain ⟨ps, h1, h2, h3, _⟩ := h
  rw [List.append_nil] at h1
  exact ordL_eq h2 (fun x => (h3 x).trans h1.mem_iff)
theorem ordP_len {l out r : List Tm} (h : OrdP l out r) : out.length + r.length ≤ l.length := by
  obtain ⟨ps, h1, _, _, _, h5⟩ := h
  have := h1.length_eq
  rw [List.length_append] at this
  omega
theorem pops_len {r r' : List Tm} {t : Tm} (h : Pops r r' t) : r.length = r'.length + 1 := by have := h.1.length_eq; simpa using this.symm
/-- Two heaps' worth of timers: those that are due, and the others. -/
def DueP (now : Int) (l d q r : List Tm) : Prop := ∃ ps, (ps ++ r).Perm l ∧ Ord ps ∧ (∀ x ∈ ps, ∀ y ∈ r, ahd y x = false) ∧ d = ps.filter (fun t => decide (t.1 ≤ now)) ∧ q = ps.filter (fun t => !decide (t.1 ≤ now))
theorem dueP_start {now : Int} {l r : List Tm} (h : r.Perm l) : DueP now l [] [] r := ⟨[], h, List.Pairwise.nil, fun x hx => absurd hx (by simp), rfl, rfl⟩
theorem dueP_step {now : Int} {l d q r r' : List Tm} {t : Tm} (h : DueP now l d q r) (hp : Pops r r' t) : DueP now l (if t.1 ≤ now then d ++ [t] else d) (if t.1 ≤ now then q else q ++ [t]) r' := by
  obtain ⟨ps, h1, h2, h4, h5, h6⟩ := h
  have ht : t ∈ r := hp.1.subset (List.mem_cons_self ..)
  refine ⟨ps ++ [t], ?_, List.pairwise_append.2 ⟨h2, List.pairwise_singleton _ _, fun x hx y hy => ?_⟩, fun x hx y hy => ?_, ?_, ?_⟩
  · rw [List.append_assoc]
    exact (List.Perm.append_left ps hp.1).trans h1
  · rw [List.mem_singleton] at hy
    subst hy
    exact h4 x hx y ht
  · rcases List.mem_append.1 hx with hx | hx
    · exact h4 x hx y (hp.1.subset (List.mem_cons_of_mem _ hy))
    · rw [List.mem_singleton] at hx
      subst hx
      exact hp.2.1 y hy
  · rw [List.filter_append, ← h5]
    by_cases h : t.1 ≤ now <;> simp [h]
  · rw [List.filter_append, ← h6]
    by_cases h : t.1 ≤ now <;> simp [h]
theorem dueP_end {now : Int} {l d q : List Tm} (h : DueP now l d q []) (hl : Str l) : d = l.filter (fun t => decide (t.1 ≤ now)) ∧ q = l.filter (fun t => !decide (t.1 ≤ now)) := by
  obtain ⟨ps, h1, h2, _, h5, h6⟩ := h
  rw [List.append_nil] at h1
  have : ps = l := ord_eq h2 (str_ord hl) h1
  subst this
  exact ⟨h5, h6⟩
end Go.Proofs.Ythageikchniahaa
