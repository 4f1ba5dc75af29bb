/- Door: sums over ledgers (plain): one entry more; an epoch's sum is that of its kinds' -/
import Derived.Test.YtmppalgecboeeaaDoorEH
namespace Go.Proofs.YtmppalgecboeeaaDoor
open Go.ChangeShapes Go.WideShapes Go.ChangeAt Go.RowKit
set_option linter.unusedSimpArgs false
set_option linter.unusedVariables false
theorem okd_zdy : okd zdy := ⟨by decide, fun x h => by cases h⟩
def okM (m : Ms) : Prop := okd m.s ∧ okd m.w ∧ okd m.c ∧ okd m.a
theorem okM_zM : okM zM := ⟨okd_zdy, okd_zdy, okd_zdy, okd_zdy⟩
theorem okM_of {m : Ms} (h : mayM m = true) (hl : ltM4 m) : okM m := by
  obtain ⟨h1, h2, h3, h4⟩ := mayM_each h
  exact ⟨⟨h1, hl.1⟩, ⟨h2, hl.2.1⟩, ⟨h3, hl.2.2.1⟩, ⟨h4, hl.2.2.2⟩⟩
theorem okM.may {m : Ms} (h : okM m) : mayM m = true := mayM_of h.1.1 h.2.1.1 h.2.2.1.1 h.2.2.2.1
theorem okM.lt {m : Ms} (h : okM m) : ltM4 m := ⟨h.1.2, h.2.1.2, h.2.2.1.2, h.2.2.2.2⟩
theorem okM.sm {m : Ms} (h : okM m) : smM m := by
  have h1 := (mayd_parts h.1.1).1
  have h2 := (mayd_parts h.2.1.1).1
  have h3 := (mayd_parts h.2.2.1.1).1
  have h4 := (mayd_parts h.2.2.2.1).1
  exact ⟨by omega, by omega, by omega, by omega⟩
theorem okM_add {m k d : Ms} (h : addM m k = some d) : okM d := okM_of (addM_ok h).1 (addM_ok h).2
theorem sumF_ok : ∀ (l : List Ms) (a d : Ms), okM a → sumF a l = some d → okM d
  | [], a, d, ha, h => by injection h with h; subst h; exact ha
  | x :: r, a, d, ha, h => by
    have h' : (match addM a x with | none => none | some d => sumF d r) = some d := h
    cases h2 : addM a x with
    | none => rw [h2] at h'; cases h'
    | some b => rw [h2] at h'; exact sumF_ok r b d (okM_add h2) h'
theorem sumL_ok {l : List Ms} {d : Ms} (h : sumL l = some d) : okM d := sumF_ok l zM d okM_zM h
theorem lsM_ok {E : Int} {s : Option Ms} (h : ∀ d, s = some d → okM d) : okM (lsM E s) := by
  unfold lsM
  by_cases h0 : E ≠ 0
  · rw [if_pos h0]; exact okM_zM
  · rw [if_neg h0]
    cases s with
    | none => exact okM_zM
    | some d => exact h d rfl
theorem maM_ok (m k : Ms) : okM (maM m k) := by
  unfold maM
  by_cases h0 : (mayM m && mayM k) = false
  · rw [if_pos h0]; exact okM_zM
  · rw [if_neg h0]
    cases h : addM m k with
    | none => exact okM_zM
    | some d => exact okM_add h
theorem addD_zr {d : Dy} (h : okd d) : addD d zdy = some d := addD_is h (by rw [worth_zero, Int.add_zero])
theorem addM_zr {m : Ms} (h : okM m) : addM m zM = some m := by
  have h1 : addD m.s zM.s = some m.s := addD_zr h.1
  have h2 : addD m.w zM.w = some m.w := addD_zr h.2.1
  have h3 : addD m.c zM.c = some m.c := addD_zr h.2.2.1
  have h4 : addD m.a zM.a = some m.a := addD_zr h.2.2.2
  unfold addM
  rw [h1, h2, h3, h4]
/-- What Book does. -/
theorem book_cases {l : List En} {N y : Int} {g : Ms} (h : bkE l N y g = 0) : askL l N y = 0 ∧ mayM g = true ∧ ((g = zM ∧ bkL l N y g = l) ∨ (g ≠ zM ∧ bkL l N y g = l ++ [⟨N, y, g⟩] ∧ l.length ≠ 8192)) := by
  have hb : bkL l N y g = if g = zM then l else l ++ [⟨N, y, g⟩] := by unfold bkL; rw [if_neg (by rw [h]; decide)]
  unfold bkE at h
  by_cases h1 : askL l N y ≠ 0
  · rw [if_pos h1] at h; exact absurd h h1
  · rw [if_neg h1] at h
    by_cases h2 : mayM g = false
    · rw [if_pos h2] at h; cases h
    · rw [if_neg h2] at h
      refine ⟨Decidable.not_not.1 h1, by simpa using h2, ?_⟩
      by_cases h3 : g = zM
      · exact .inl ⟨h3, by rw [hb, if_pos h3]⟩
      · rw [if_neg h3] at h
        by_cases h4 : l.length = 8192
        · rw [if_pos h4] at h; cases h
        · exact .inr ⟨h3, by rw [hb, if_neg h3], h4⟩
theorem book_no_l {l : List En} {N y : Int} {g : Ms} (h : bkE l N y g ≠ 0) : bkL l N y g = [] := by unfold bkL; rw [if_pos h]
theorem chkL_more {l : List En} {N y : Int} {g : Ms} (h : chkL l = 0) (hN : eraN N = true) (hy : knK y = true) (hm : mayM g = true) (hl : l.length ≠ 8192) : chkL (l ++ [⟨N, y, g⟩]) = 0 := by
  obtain ⟨h1, h2⟩ := chkL_zero h
  unfold chkL
  rw [if_neg (by rw [List.length_append]; simp; omega), if_pos]
  rw [List.all_eq_true]
  intro x hx
  rcases List.mem_append.1 hx with hx | hx
  · exact h2 x hx
  · rw [List.mem_singleton.1 hx]
    simp [goodE, hN, hy, hm]
theorem ask_same {l l' : List En} (h : chkL l = 0) (h' : chkL l' = 0) (N y : Int) : askL l N y = askL l' N y := by
  unfold askL
  rw [h, h']
theorem ofE_snoc (l : List En) (N y : Int) (g : Ms) (N2 y2 : Int) : ofE (l ++ [⟨N, y, g⟩]) N2 y2 = if N = N2 ∧ y = y2 then (ofE l N2 y2).bind (fun d => addM d g) else ofE l N2 y2 := by
  unfold ofE
  rw [List.filter_append, List.map_append]
  by_cases h : N = N2 ∧ y = y2
  · obtain ⟨rfl, rfl⟩ := h
    rw [if_pos ⟨rfl, rfl⟩]
    have e : [(⟨N, y, g⟩ : En)].filter (fun x => x.ep == N && x.why == y) = [⟨N, y, g⟩] := by simp
    rw [e]
    exact sumF_snoc g _ zM
  · rw [if_neg h]
    have e : [(⟨N, y, g⟩ : En)].filter (fun x => x.ep == N2 && x.why == y2) = [] := by
      simp only [List.filter_cons, List.filter_nil]
      rw [if_neg]
      simpa using h
    rw [e]
    simp
/-- THE STAGE'S THEOREM, of the answers: the errors, and the sums, behind a booking. -/
theorem own_plain {l : List En} {N y : Int} {g : Ms} (lg : ltM4 g) (h : bkE l N y g = 0) (N2 y2 : Int) :
    askL (bkL l N y g) N2 y2 = askL l N2 y2 ∧
    (lsE (askL l N2 y2) (ofE l N2 y2) ≠ 0 → lsE (askL (bkL l N y g) N2 y2) (ofE (bkL l N y g) N2 y2) = lsE (askL l N2 y2) (ofE l N2 y2)) ∧
    (lsE (askL l N2 y2) (ofE l N2 y2) = 0 → ¬ (N2 = N ∧ y2 = y) → lsE (askL (bkL l N y g) N2 y2) (ofE (bkL l N y g) N2 y2) = 0 ∧ lsM (askL (bkL l N y g) N2 y2) (ofE (bkL l N y g) N2 y2) = lsM (askL l N2 y2) (ofE l N2 y2)) ∧
    (lsE (askL l N2 y2) (ofE l N2 y2) = 0 → N2 = N ∧ y2 = y → lsE (askL (bkL l N y g) N2 y2) (ofE (bkL l N y g) N2 y2) = maE (lsM (askL l N2 y2) (ofE l N2 y2)) g ∧ lsM (askL (bkL l N y g) N2 y2) (ofE (bkL l N y g) N2 y2) = maM (lsM (askL l N2 y2) (ofE l N2 y2)) g) := by
  obtain ⟨h1, hm, h2⟩ := book_cases h
  obtain ⟨h3, h4, h5⟩ := askL_zero h1
  have ha : askL (bkL l N y g) N2 y2 = askL l N2 y2 := by
    rcases h2 with ⟨_, e⟩ | ⟨_, e, hl⟩
    · rw [e]
    · rw [e]; exact ask_same (chkL_more h3 h4 h5 hm hl) h3 _ _
  refine ⟨ha, ?_⟩
  rw [ha]
  have ho : ofE (bkL l N y g) N2 y2 = if N = N2 ∧ y = y2 then (ofE l N2 y2).bind (fun d => addM d g) else ofE l N2 y2 := by
    rcases h2 with ⟨e0, e⟩ | ⟨_, e, hl⟩
    · rw [e]
      by_cases hc : N = N2 ∧ y = y2
      · rw [if_pos hc, e0]
        cases hs : ofE l N2 y2 with
        | none => rfl
        | some d => exact (addM_zr (sumL_ok hs)).symm
      · rw [if_neg hc]
    · rw [e]; exact ofE_snoc _ _ _ _ _ _
  rw [ho]
  obtain ⟨A, hA⟩ : ∃ A, askL l N2 y2 = A := ⟨_, rfl⟩
  obtain ⟨s, hs⟩ : ∃ s, ofE l N2 y2 = s := ⟨_, rfl⟩
  have hk : ∀ d, s = some d → okM d := fun d hd => sumL_ok (hs.trans hd)
  rw [hA, hs]
  refine ⟨fun hne => ?_, fun h0 hc => ?_, fun h0 hc => ?_⟩
  · by_cases hc : N = N2 ∧ y = y2
    · rw [if_pos hc]
      by_cases hA0 : A ≠ 0
      · unfold lsE; rw [if_pos hA0, if_pos hA0]
      · cases s with
        | none => rfl
        | some d => exact absurd (by unfold lsE; rw [if_neg hA0]) hne
    · rw [if_neg hc]
  · rw [if_neg (fun hh => hc ⟨hh.1.symm, hh.2.symm⟩)]
    exact ⟨h0, rfl⟩
  · rw [if_pos ⟨hc.1.symm, hc.2.symm⟩]
    by_cases hA0 : A ≠ 0
    · unfold lsE at h0
      rw [if_pos hA0] at h0
      exact absurd h0 hA0
    · cases s with
      | none =>
        unfold lsE at h0
        rw [if_neg hA0] at h0
        cases h0
      | some d =>
        have hd := (hk d rfl).may
        have e1 : lsM A (some d) = d := by unfold lsM; rw [if_neg hA0]; rfl
        have e2 : ¬ (mayM d && mayM g) = false := by rw [hd, hm]; decide
        rw [e1]
        unfold maE maM lsE lsM
        rw [if_neg hA0, if_neg hA0, if_neg e2, if_neg e2]
        exact ⟨rfl, rfl⟩
/-- What masses are worth, part by part. -/
def wM (m : Ms) : Int × Int × Int × Int := (worth m.s, worth m.w, worth m.c, worth m.a)
def wAdd (x y : Int × Int × Int × Int) : Int × Int × Int × Int := (x.1 + y.1, x.2.1 + y.2.1, x.2.2.1 + y.2.2.1, x.2.2.2 + y.2.2.2)
def wZ : Int × Int × Int × Int := (0, 0, 0, 0)
def wS : List Ms → Int × Int × Int × Int
  | [] => wZ
  | m :: r => wAdd (wM m) (wS r)
theorem wAdd_z (x : Int × Int × Int × Int) : wAdd x wZ = x := by simp [wAdd, wZ]
theorem wZ_add (x : Int × Int × Int × Int) : wAdd wZ x = x := by simp [wAdd, wZ]
theorem wAdd_assoc (x y z : Int × Int × Int × Int) : wAdd (wAdd x y) z = wAdd x (wAdd y z) := by simp [wAdd, Int.add_assoc]
theorem wAdd_comm (x y : Int × Int × Int × Int) : wAdd x y = wAdd y x := by simp [wAdd, Int.add_comm]
theorem wM_zM : wM zM = wZ := by
  unfold wM wZ
  rw [show worth zM.s = 0 from worth_zero, show worth zM.w = 0 from worth_zero, show worth zM.c = 0 from worth_zero, show worth zM.a = 0 from worth_zero]
theorem wM_add {m k d : Ms} (h : addM m k = some d) : wM d = wAdd (wM m) (wM k) := by
  obtain ⟨h1, h2, h3, h4⟩ := addM_some h
  unfold wM wAdd
  rw [(form_ok h1).2, (form_ok h2).2, (form_ok h3).2, (form_ok h4).2]
theorem wM_inj {m k : Ms} (hm : okM m) (hk : okM k) (h : wM m = wM k) : m = k := by
  unfold wM at h
  injection h with h1 h
  injection h with h2 h
  injection h with h3 h4
  cases m
  cases k
  simp only [Ms.mk.injEq]
  exact ⟨worth_inj hm.1 hk.1 h1, worth_inj hm.2.1 hk.2.1 h2, worth_inj hm.2.2.1 hk.2.2.1 h3, worth_inj hm.2.2.2 hk.2.2.2 h4⟩
theorem wF : ∀ (l : List Ms) (a d : Ms), sumF a l = some d → wM d = wAdd (wM a) (wS l)
  | [], a, d, h => by injection h with h; subst h; exact (wAdd_z _).symm
  | x :: r, a, d, h => by
    have h' : (match addM a x with | none => none | some d => sumF d r) = some d := h
    cases h2 : addM a x with
    | none => rw [h2] at h'; cases h'
    | some b =>
      rw [h2] at h'
      rw [wF r b d h', wM_add h2]
      exact wAdd_assoc _ _ _
theorem wL {l : List Ms} {d : Ms} (h : sumL l = some d) : wM d = wS l := by rw [wF l zM d h, wM_zM, wZ_add]
theorem wAdd_left (x y z : Int × Int × Int × Int) : wAdd x (wAdd y z) = wAdd y (wAdd x z) := by rw [← wAdd_assoc, wAdd_comm x y, wAdd_assoc]
/-- What an epoch lost by the first so many kinds. -/
def wK (l : List En) (N : Int) : Nat → Int × Int × Int × Int
  | 0 => wZ
  | k + 1 => wAdd (wK l N k) (wS ((l.filter (fun x => x.ep == N && x.why == ((k + 1 : Nat) : Int))).map (·.give)))
theorem wK_nil (N : Int) : ∀ k, wK [] N k = wZ
  | 0 => rfl
  | k + 1 => by show wAdd (wK [] N k) wZ = wZ; rw [wK_nil N k, wAdd_z]
theorem wK_cons (x : En) (l : List En) (N : Int) : ∀ k : Nat, wK (x :: l) N k = if x.ep = N ∧ 1 ≤ x.why ∧ x.why ≤ (k : Int) then wAdd (wM x.give) (wK l N k) else wK l N k
  | 0 => by rw [if_neg (by intro h; have h1 := h.2.1; have h2 := h.2.2; simp at h2; omega)]; rfl
  | k + 1 => by
    show wAdd (wK (x :: l) N k) (wS (((x :: l).filter (fun x => x.ep == N && x.why == ((k + 1 : Nat) : Int))).map (·.give))) = _
    rw [wK_cons x l N k, List.filter_cons]
    by_cases h0 : x.ep = N
    · by_cases h1 : x.why = ((k + 1 : Nat) : Int)
      · have e : (x.ep == N && x.why == ((k + 1 : Nat) : Int)) = true := by rw [h0, h1]; simp
        rw [if_pos e, if_neg (by intro h; have h2 := h.2.2; rw [h1] at h2; omega), if_pos ⟨h0, by rw [h1]; omega, by rw [h1]; exact Int.le_refl _⟩]
        exact wAdd_left _ _ _
      · have e : ¬ (x.ep == N && x.why == ((k + 1 : Nat) : Int)) = true := by
          intro h
          simp only [Bool.and_eq_true, beq_iff_eq] at h
          exact h1 h.2
        rw [if_neg e]
        by_cases h2 : 1 ≤ x.why ∧ x.why ≤ (k : Int)
        · rw [if_pos ⟨h0, h2⟩, if_pos ⟨h0, h2.1, by have := h2.2; omega⟩]
          exact wAdd_assoc _ _ _
        · rw [if_neg (fun h => h2 h.2), if_neg (fun h => h2 ⟨h.2.1, by have h4 := h.2.2; omega⟩)]
          rfl
    · have e : ¬ (x.ep == N && x.why == ((k + 1 : Nat) : Int)) = true := by
        intro h
        simp only [Bool.and_eq_true, beq_iff_eq] at h
        exact h0 h.1
      rw [if_neg e, if_neg (fun h => h0 h.1), if_neg (fun h => h0 h.1)]
      rfl
theorem wK_all (N : Int) : ∀ l : List En, (∀ x ∈ l, 1 ≤ x.why ∧ x.why ≤ 6) → wK l N 6 = wS ((l.filter (fun x => x.ep == N)).map (·.give))
  | [], _ => wK_nil N 6
  | x :: l, h => by
    have ih := wK_all N l (fun z hz => h z (List.mem_cons_of_mem _ hz))
    have hx := h x (List.mem_cons_self ..)
    rw [wK_cons, ih, List.filter_cons]
    by_cases h0 : x.ep = N
    · rw [if_pos ⟨h0, hx.1, by have := hx.2; omega⟩, if_pos (by rw [h0]; simp)]
      rfl
    · rw [if_neg (fun hh => h0 hh.1), if_neg (by simpa using h0)]
theorem goodE_why {x : En} (h : goodE x = true) : 1 ≤ x.why ∧ x.why ≤ 6 := by
  unfold goodE knK at h
  simp only [Bool.and_eq_true, decide_eq_true_eq] at h
  exact h.2.1
/-- The sum by kinds is the whole. -/
theorem kinds_plain {l : List En} {N : Int} {s d : Ms} (h : askL l N 1 = 0) (hd : sumE l N = some d) (hs : okM s) (hw : wM s = wK l N 6) : s = d := by
  have h1 := (chkL_zero (askL_zero h).1).2
  refine wM_inj hs (sumL_ok hd) ?_
  rw [hw, wL hd]
  exact wK_all N l (fun x hx => goodE_why (h1 x hx))
theorem kinds_step {l : List En} {N : Int} {k : Nat} {s x d : Ms} (hw : wM s = wK l N k) (hx : ofE l N ((k + 1 : Nat) : Int) = some x) (ha : addM s x = some d) : wM d = wK l N (k + 1) := by
  rw [wM_add ha, hw, wL hx]
  rfl
theorem ask_kinds (l : List En) (N : Int) {k : Nat} (h1 : 1 ≤ k) (h6 : k ≤ 6) : askL l N (k : Int) = askL l N 1 := by
  unfold askL
  have e : knK (k : Int) = knK 1 := by
    unfold knK
    rw [decide_eq_true (show (1 : Int) ≤ k by omega), decide_eq_true (show (k : Int) ≤ 6 by omega)]
    rfl
  rw [e]
theorem clean_plain {l : List En} {N : Int} (h : clnL l N = true) : sumE l N = some zM := by
  unfold clnL at h
  have h1 : l.filter (fun x => x.ep == N) = [] := by
    rw [List.filter_eq_nil_iff]
    intro x hx
    have h2 : l.any (fun x => x.ep == N) = false := by simpa using h
    rw [List.any_eq_false] at h2
    exact h2 x hx
  unfold sumE
  rw [h1]
  rfl
end Go.Proofs.YtmppalgecboeeaaDoor
