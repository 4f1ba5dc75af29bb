/- Door: masses as letters; sums of masses (plain) -/
import Derived.Test.YtdmjdpaehnhdoaaDoorDN
namespace Go.Proofs.YtdmjdpaehnhdoaaDoor
open Go.ChangeShapes Go.WideShapes Go.ChangeAt Go.RowKit
set_option linter.unusedSimpArgs false
set_option linter.unusedVariables false
/-- What masses are together, from the first one to the last one. -/
def sumF (a : Ms) : List Ms → Option Ms
  | [] => some a
  | m :: r => match addM a m with
    | none => none
    | some d => sumF d r
theorem owD_zero (w : World) (B : Nat) : OwD w B none 0 ⟨false, [], 0⟩ := ⟨Nat.le_refl _, rfl, fun h => absurd h (by decide)⟩
theorem OwD.below {w w' : World} {B c : Nat} {X : Option Addr} {d : Dy} (h : OwD w B X c d) (hb : Below w.heap.size w w') : OwD w' B X c d := ⟨h.1, h.2.below hb⟩
def zM : Ms := ⟨⟨false, [], 0⟩, ⟨false, [], 0⟩, ⟨false, [], 0⟩, ⟨false, [], 0⟩⟩
def sumL (l : List Ms) : Option Ms := sumF zM l
theorem sumF_snoc (m : Ms) : ∀ (l : List Ms) (a : Ms), sumF a (l ++ [m]) = (sumF a l).bind (fun d => addM d m)
  | [], a => by
    show (match addM a m with | none => none | some d => some d) = addM a m
    cases addM a m <;> rfl
  | x :: r, a => by
    show (match addM a x with | none => none | some d => sumF d (r ++ [m])) = (match addM a x with | none => none | some d => sumF d r).bind _
    cases h : addM a x with
    | none => rfl
    | some d => exact sumF_snoc m r d
theorem sumF_no (r : List Ms) : ∀ (l : List Ms) (a : Ms), sumF a l = none → sumF a (l ++ r) = none
  | [], a, h => by cases h
  | x :: t, a, h => by
    show (match addM a x with | none => none | some d => sumF d (t ++ r)) = none
    have h' : (match addM a x with | none => none | some d => sumF d t) = none := h
    cases h2 : addM a x with
    | none => rfl
    | some d => rw [h2] at h'; exact sumF_no r t d h'
theorem mayM_of {s w c a : Dy} (h1 : mayd s = true) (h2 : mayd w = true) (h3 : mayd c = true) (h4 : mayd a = true) : mayM ⟨s, w, c, a⟩ = true := by
  unfold mayM
  simp [h1, h2, h3, h4]
theorem addM_some {m k d : Ms} (h : addM m k = some d) : addD m.s k.s = some d.s ∧ addD m.w k.w = some d.w ∧ addD m.c k.c = some d.c ∧ addD m.a k.a = some d.a := by
  unfold addM at h
  cases h1 : addD m.s k.s <;> cases h2 : addD m.w k.w <;> cases h3 : addD m.c k.c <;> cases h4 : addD m.a k.a <;> simp only [h1, h2, h3, h4] at h <;> first | cases h | skip
  exact ⟨rfl, rfl, rfl, rfl⟩
theorem addM_ok {m k d : Ms} (h : addM m k = some d) : mayM d = true ∧ ltM4 d := by
  obtain ⟨h1, h2, h3, h4⟩ := addM_some h
  exact ⟨mayM_of (form_ok h1).1.1 (form_ok h2).1.1 (form_ok h3).1.1 (form_ok h4).1.1, (form_ok h1).1.2, (form_ok h2).1.2, (form_ok h3).1.2, (form_ok h4).1.2⟩
theorem ret_cc {fn : Func} {p u : Tmp} (h : fn.results = #[.cell p 27, .cell u 37]) (tmps : Array Value) (w : World) (r g : Nat) (cs : Array Value) (E : Int) (hp : tmps.getD p undef = .pointer (some ⟨r, 0, none⟩)) (hu : tmps.getD u undef = .pointer (some ⟨g, 0, none⟩)) (hk : Blk w r 27 cs) (hs : (Tryd.prog.info? 27).map (·.size) = some cs.size) (hv : Blk w g 37 #[.int .i64 E]) : (results fn tmps).run Tryd.prog w = .ok (.tuple #[.agg cs, .int .i64 E]) w := by
  have h1 := run_loadVar_row (P := Tryd.prog) w r 27 27 cs (0, 0) _ hk Tryd.underlying27 rfl hs
  have e0 := hv.cell 0
  simp only [List.getElem?_toArray, List.getElem?_cons_zero] at e0
  have h2 : (loadVar 37 ⟨g, 0, none⟩).run Tryd.prog w = .ok (.int .i64 E) w := by simp [go_sem, e0]
  rw [Array.getD_eq_getD_getElem?] at hp hu
  simp only [results, h]
  simp [Sem.run_bind, Result.andThen, hp, hu, h1, h2, asAddr]
/-- A mass with the rows that it lies in. -/
structure MB where
  m : Ms
  X0 : Option Addr
  c0 : Nat
  X1 : Option Addr
  c1 : Nat
  X2 : Option Addr
  c2 : Nat
  X3 : Option Addr
  c3 : Nat
def OwM (w : World) (B : Nat) (o : MB) : Prop := OwD w B o.X0 o.c0 o.m.s ∧ OwD w B o.X1 o.c1 o.m.w ∧ OwD w B o.X2 o.c2 o.m.c ∧ OwD w B o.X3 o.c3 o.m.a
theorem OwD.base_le {w : World} {B b c : Nat} {X : Option Addr} {d : Dy} (h : OwD w B X c d) (hb : b ≤ B) : OwD w b X c d := ⟨h.1, h.2.base_le hb⟩
theorem OwM.below {w w' : World} {B : Nat} {o : MB} (h : OwM w B o) (hb : Below w.heap.size w w') : OwM w' B o := ⟨h.1.below hb, h.2.1.below hb, h.2.2.1.below hb, h.2.2.2.below hb⟩
theorem OwM.base_le {w : World} {B b : Nat} {o : MB} (h : OwM w B o) (hb : b ≤ B) : OwM w b o := ⟨h.1.base_le hb, h.2.1.base_le hb, h.2.2.1.base_le hb, h.2.2.2.base_le hb⟩
theorem OwD.rd {w : World} {B c : Nat} {X : Option Addr} {d : Dy} (h : OwD w B X c d) : RdD w w.heap.size d.neg X d.ls.length c d.ex d := ⟨rfl, rfl, rfl, h.1, h.2.reads⟩
/-- A mass that is read. -/
abbrev RdO (w : World) (o : MB) : Prop := RdM w w.heap.size o.m.s.neg o.X0 o.m.s.ls.length o.c0 o.m.s.ex o.m.w.neg o.X1 o.m.w.ls.length o.c1 o.m.w.ex o.m.c.neg o.X2 o.m.c.ls.length o.c2 o.m.c.ex o.m.a.neg o.X3 o.m.a.ls.length o.c3 o.m.a.ex o.m
theorem OwM.rd {w : World} {B : Nat} {o : MB} (h : OwM w B o) : RdO w o := ⟨h.1.rd, h.2.1.rd, h.2.2.1.rd, h.2.2.2.rd⟩
theorem RdO.below {w w' : World} {o : MB} (h : RdO w o) (hb : Below w.heap.size w w') : RdO w' o := RdM.below h hb hb.size
theorem rdD_zero (w : World) (B : Nat) : RdD w B false none 0 0 0 ⟨false, [], 0⟩ := ⟨rfl, rfl, rfl, Nat.le_refl _, Reads.none_⟩
theorem rdM_zero (w : World) (B : Nat) : RdM w B false none 0 0 0 false none 0 0 0 false none 0 0 0 false none 0 0 0 zM := ⟨rdD_zero w B, rdD_zero w B, rdD_zero w B, rdD_zero w B⟩
theorem zM_sm : smM zM := ⟨Nat.zero_le _, Nat.zero_le _, Nat.zero_le _, Nat.zero_le _⟩
theorem lt_nil : ∀ x ∈ ([] : List Nat), x < LB := fun x h => by cases h
theorem zM_lt : ltM4 zM := ⟨lt_nil, lt_nil, lt_nil, lt_nil⟩
/-- What a sum over a ledger answers, in one way: a number and a mass, which is 0 where the number is not. -/
def lsE (E : Int) (s : Option Ms) : Int := if E ≠ 0 then E else match s with | none => 10 | some _ => 0
def lsM (E : Int) (s : Option Ms) : Ms := if E ≠ 0 then zM else s.getD zM
/-- What the sum of two masses answers, in one way. -/
def maE (m k : Ms) : Int := if (mayM m && mayM k) = false then 8 else match addM m k with | none => 10 | some _ => 0
def maM (m k : Ms) : Ms := if (mayM m && mayM k) = false then zM else (addM m k).getD zM
theorem madd_one {m k : Ms} {w w' : World} {en : Ending} (h : MaddP m k w en w') : ∃ o : MB, o.m = maM m k ∧ en = .returned (.tuple #[.agg #[.bool o.m.s.neg, .slice o.X0 o.m.s.ls.length o.c0, .int .i64 o.m.s.ex, .bool o.m.w.neg, .slice o.X1 o.m.w.ls.length o.c1, .int .i64 o.m.w.ex, .bool o.m.c.neg, .slice o.X2 o.m.c.ls.length o.c2, .int .i64 o.m.c.ex, .bool o.m.a.neg, .slice o.X3 o.m.a.ls.length o.c3, .int .i64 o.m.a.ex], .int .i64 (maE m k)]) ∧ OwM w' w.heap.size o ∧ Below w.heap.size w w' := by
  have hz : OwM w' w.heap.size ⟨zM, none, 0, none, 0, none, 0, none, 0⟩ := ⟨owD_zero _ _, owD_zero _ _, owD_zero _ _, owD_zero _ _⟩
  obtain ⟨hb, ⟨h0, he⟩ | ⟨h0, ⟨h1, he⟩ | ⟨d', h1, X0, c0, X1, c1, X2, c2, X3, c3, he, i0, i1, i2, i3⟩⟩⟩ := h
  · exact ⟨_, (if_pos h0).symm, by rw [he]; unfold maE; rw [if_pos h0]; rfl, hz, hb⟩
  · have h2 : ¬ (mayM m && mayM k) = false := by rw [h0]; decide
    exact ⟨_, by unfold maM; rw [if_neg h2, h1]; rfl, by rw [he]; unfold maE; rw [if_neg h2, h1]; rfl, hz, hb⟩
  · have h2 : ¬ (mayM m && mayM k) = false := by rw [h0]; decide
    exact ⟨⟨d', X0, c0, X1, c1, X2, c2, X3, c3⟩, by unfold maM; rw [if_neg h2, h1]; rfl, by rw [he]; unfold maE; rw [if_neg h2, h1], ⟨i0, i1, i2, i3⟩, hb⟩
theorem addD_is {a b d : Dy} (hd : okd d) (h : worth a + worth b = worth d) : addD a b = some d := by
  unfold addD
  rw [h]
  exact form_worth hd
theorem okd_z : okd zdy := ⟨by decide, fun x h => by cases h⟩
theorem okd_1 {x : Nat} (h0 : x ≠ 0) (h : x < LB) : okd ⟨false, [x], 0⟩ := ⟨mayd_of (by simp) (by simp [Canon, h0]) (Int.le_refl _) (show (0 : Int) ≤ 1024 by decide) (by simp) (.inl rfl), fun y hy => by rw [List.mem_singleton.1 hy]; exact h⟩
theorem addD_zz : addD zdy zdy = some zdy := addD_is okd_z (by simp [worth_zero])
theorem addD_zx {d : Dy} (h : okd d) : addD zdy d = some d := addD_is h (by simp [worth_zero])
theorem worth_1 (x : Nat) : worth ⟨false, [x], 0⟩ = ((x * 2 ^ (1024 - (0 : Int).toNat) : Nat) : Int) := by
  unfold worth
  rw [show val LB [x] = x by simp [val]]
  rfl
theorem addM_is {m k d : Ms} (h0 : addD m.s k.s = some d.s) (h1 : addD m.w k.w = some d.w) (h2 : addD m.c k.c = some d.c) (h3 : addD m.a k.a = some d.a) : addM m k = some d := by
  unfold addM
  rw [h0, h1, h2, h3]
theorem okd_zdy : okd zdy := ⟨by decide, fun x h => by cases h⟩
def okM (m : Ms) : Prop := okd m.s ∧ okd m.w ∧ okd m.c ∧ okd m.a
theorem okM_zM : okM zM := ⟨okd_zdy, okd_zdy, okd_zdy, okd_zdy⟩
theorem okM_of {m : Ms} (h : mayM m = true) (hl : ltM4 m) : okM m := by
  obtain ⟨h1, h2, h3, h4⟩ := mayM_each h
  exact ⟨⟨h1, hl.1⟩, ⟨h2, hl.2.1⟩, ⟨h3, hl.2.2.1⟩, ⟨h4, hl.2.2.2⟩⟩
theorem okM.may {m : Ms} (h : okM m) : mayM m = true := mayM_of h.1.1 h.2.1.1 h.2.2.1.1 h.2.2.2.1
theorem okM.lt {m : Ms} (h : okM m) : ltM4 m := ⟨h.1.2, h.2.1.2, h.2.2.1.2, h.2.2.2.2⟩
theorem okM.sm {m : Ms} (h : okM m) : smM m := by
  have h1 := (mayd_parts h.1.1).1
  have h2 := (mayd_parts h.2.1.1).1
  have h3 := (mayd_parts h.2.2.1.1).1
  have h4 := (mayd_parts h.2.2.2.1).1
  exact ⟨by omega, by omega, by omega, by omega⟩
theorem okM_add {m k d : Ms} (h : addM m k = some d) : okM d := okM_of (addM_ok h).1 (addM_ok h).2
theorem sumF_ok : ∀ (l : List Ms) (a d : Ms), okM a → sumF a l = some d → okM d
  | [], a, d, ha, h => by injection h with h; subst h; exact ha
  | x :: r, a, d, ha, h => by
    have h' : (match addM a x with | none => none | some d => sumF d r) = some d := h
    cases h2 : addM a x with
    | none => rw [h2] at h'; cases h'
    | some b => rw [h2] at h'; exact sumF_ok r b d (okM_add h2) h'
theorem sumL_ok {l : List Ms} {d : Ms} (h : sumL l = some d) : okM d := sumF_ok l zM d okM_zM h
theorem lsM_ok {E : Int} {s : Option Ms} (h : ∀ d, s = some d → okM d) : okM (lsM E s) := by
  unfold lsM
  by_cases h0 : E ≠ 0
  · rw [if_pos h0]; exact okM_zM
  · rw [if_neg h0]
    cases s with
    | none => exact okM_zM
    | some d => exact h d rfl
theorem maM_ok (m k : Ms) : okM (maM m k) := by
  unfold maM
  by_cases h0 : (mayM m && mayM k) = false
  · rw [if_pos h0]; exact okM_zM
  · rw [if_neg h0]
    cases h : addM m k with
    | none => exact okM_zM
    | some d => exact okM_add h
theorem addD_zr {d : Dy} (h : okd d) : addD d zdy = some d := addD_is h (by rw [worth_zero, Int.add_zero])
theorem addM_zr {m : Ms} (h : okM m) : addM m zM = some m := by
  have h1 : addD m.s zM.s = some m.s := addD_zr h.1
  have h2 : addD m.w zM.w = some m.w := addD_zr h.2.1
  have h3 : addD m.c zM.c = some m.c := addD_zr h.2.2.1
  have h4 : addD m.a zM.a = some m.a := addD_zr h.2.2.2
  unfold addM
  rw [h1, h2, h3, h4]
/-- What masses are worth, part by part. -/
def wM (m : Ms) : Int × Int × Int × Int := (worth m.s, worth m.w, worth m.c, worth m.a)
def wAdd (x y : Int × Int × Int × Int) : Int × Int × Int × Int := (x.1 + y.1, x.2.1 + y.2.1, x.2.2.1 + y.2.2.1, x.2.2.2 + y.2.2.2)
def wZ : Int × Int × Int × Int := (0, 0, 0, 0)
def wS : List Ms → Int × Int × Int × Int
  | [] => wZ
  | m :: r => wAdd (wM m) (wS r)
theorem wAdd_z (x : Int × Int × Int × Int) : wAdd x wZ = x := by simp [wAdd, wZ]
theorem wZ_add (x : Int × Int × Int × Int) : wAdd wZ x = x := by simp [wAdd, wZ]
theorem wAdd_assoc (x y z : Int × Int × Int × Int) : wAdd (wAdd x y) z = wAdd x (wAdd y z) := by simp [wAdd, Int.add_assoc]
theorem wAdd_comm (x y : Int × Int × Int × Int) : wAdd x y = wAdd y x := by simp [wAdd, Int.add_comm]
theorem wM_zM : wM zM = wZ := by
  unfold wM wZ
  rw [show worth zM.s = 0 from worth_zero, show worth zM.w = 0 from worth_zero, show worth zM.c = 0 from worth_zero, show worth zM.a = 0 from worth_zero]
theorem wM_add {m k d : Ms} (h : addM m k = some d) : wM d = wAdd (wM m) (wM k) := by
  obtain ⟨h1, h2, h3, h4⟩ := addM_some h
  unfold wM wAdd
  rw [(form_ok h1).2, (form_ok h2).2, (form_ok h3).2, (form_ok h4).2]
theorem wM_inj {m k : Ms} (hm : okM m) (hk : okM k) (h : wM m = wM k) : m = k := by
  unfold wM at h
  injection h with h1 h
  injection h with h2 h
  injection h with h3 h4
  cases m
  cases k
  simp only [Ms.mk.injEq]
  exact ⟨worth_inj hm.1 hk.1 h1, worth_inj hm.2.1 hk.2.1 h2, worth_inj hm.2.2.1 hk.2.2.1 h3, worth_inj hm.2.2.2 hk.2.2.2 h4⟩
theorem wF : ∀ (l : List Ms) (a d : Ms), sumF a l = some d → wM d = wAdd (wM a) (wS l)
  | [], a, d, h => by injection h with h; subst h; exact (wAdd_z _).symm
  | x :: r, a, d, h => by
    have h' : (match addM a x with | none => none | some d => sumF d r) = some d := h
    cases h2 : addM a x with
    | none => rw [h2] at h'; cases h'
    | some b =>
      rw [h2] at h'
      rw [wF r b d h', wM_add h2]
      exact wAdd_assoc _ _ _
theorem wL {l : List Ms} {d : Ms} (h : sumL l = some d) : wM d = wS l := by rw [wF l zM d h, wM_zM, wZ_add]
theorem wAdd_left (x y z : Int × Int × Int × Int) : wAdd x (wAdd y z) = wAdd y (wAdd x z) := by rw [← wAdd_assoc, wAdd_comm x y, wAdd_assoc]
theorem maE_ten {m k : Ms} {E : Int} (h : maE m k = E) (h0 : ¬ E = 0) (hm : mayM m = true) (hk : mayM k = true) : addM m k = none ∧ E = 10 := by
  unfold maE at h
  rw [if_neg (by rw [hm, hk]; decide)] at h
  cases h1 : addM m k with
  | none => rw [h1] at h; exact ⟨rfl, h.symm⟩
  | some d => rw [h1] at h; exact absurd h.symm h0
end Go.Proofs.YtdmjdpaehnhdoaaDoor
