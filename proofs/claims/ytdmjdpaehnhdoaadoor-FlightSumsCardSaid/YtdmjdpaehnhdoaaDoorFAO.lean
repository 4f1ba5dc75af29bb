/- Door: masses as letters; sums of masses (plain) | Flight's Door: arguments that are rows of loads, opened, with the limbs' bounds -/
import Derived.Deep.Draws
import Derived.Deep.Fields
import Derived.Deep.Strs
import Derived.Lib.SmallJoins
import Derived.Test.YtdmjdpaehnhdoaaDoorDN
import Derived.Test.YtdmjdpaehnhdoaaDoorLAB
import Derived.Test.YtdmjdpaehnhdoaaDoorKA
namespace Go.Proofs.YtdmjdpaehnhdoaaDoor
open Go.ChangeShapes Go.WideShapes Go.ChangeAt Go.RowKit
set_option linter.unusedSimpArgs false
set_option linter.unusedVariables false
/-- What masses are together, from the first one to the last one. -/
def sumF (a : Ms) : List Ms → Option Ms
  | [] => some a
  | m :: r => match addM a m with
    | none => none
    | some d => sumF d r
theorem owD_zero (w : World) (B : Nat) : OwD w B none 0 ⟨false, [], 0⟩ := ⟨Nat.le_refl _, rfl, fun h => absurd h (by decide)⟩
theorem OwD.below {w w' : World} {B c : Nat} {X : Option Addr} {d : Dy} (h : OwD w B X c d) (hb : Below w.heap.size w w') : OwD w' B X c d := ⟨h.1, h.2.below hb⟩
def zM : Ms := ⟨⟨false, [], 0⟩, ⟨false, [], 0⟩, ⟨false, [], 0⟩, ⟨false, [], 0⟩⟩
def sumL (l : List Ms) : Option Ms := sumF zM l
theorem sumF_snoc (m : Ms) : ∀ (l : List Ms) (a : Ms), sumF a (l ++ [m]) = (sumF a l).bind (fun d => addM d m)
  | [], a => by
    show (match addM a m with | none => none | some d => some d) = addM a m
    cases addM a m <;> rfl
  | x :: r, a => by
    show (match addM a x with | none => none | some d => sumF d (r ++ [m])) = (match addM a x with | none => none | some d => sumF d r).bind _
    cases h : addM a x with
    | none => rfl
    | some d => exact sumF_snoc m r d
theorem sumF_no (r : List Ms) : ∀ (l : List Ms) (a : Ms), sumF a l = none → sumF a (l ++ r) = none
  | [], a, h => by cases h
  | x :: t, a, h => by
    show (match addM a x with | none => none | some d => sumF d (t ++ r)) = none
    have h' : (match addM a x with | none => none | some d => sumF d t) = none := h
    cases h2 : addM a x with
    | none => rfl
    | some d => rw [h2] at h'; exact sumF_no r t d h'
theorem mayM_of {s w c a : Dy} (h1 : mayd s = true) (h2 : mayd w = true) (h3 : mayd c = true) (h4 : mayd a = true) : mayM ⟨s, w, c, a⟩ = true := by
  unfold mayM
  simp [h1, h2, h3, h4]
theorem addM_some {m k d : Ms} (h : addM m k = some d) : addD m.s k.s = some d.s ∧ addD m.w k.w = some d.w ∧ addD m.c k.c = some d.c ∧ addD m.a k.a = some d.a := by
  unfold addM at h
  cases h1 : addD m.s k.s <;> cases h2 : addD m.w k.w <;> cases h3 : addD m.c k.c <;> cases h4 : addD m.a k.a <;> simp only [h1, h2, h3, h4] at h <;> first | cases h | skip
  exact ⟨rfl, rfl, rfl, rfl⟩
theorem addM_ok {m k d : Ms} (h : addM m k = some d) : mayM d = true ∧ ltM4 d := by
  obtain ⟨h1, h2, h3, h4⟩ := addM_some h
  exact ⟨mayM_of (form_ok h1).1.1 (form_ok h2).1.1 (form_ok h3).1.1 (form_ok h4).1.1, (form_ok h1).1.2, (form_ok h2).1.2, (form_ok h3).1.2, (form_ok h4).1.2⟩
/-- A mass with the rows that it lies in. -/
structure MB where
  m : Ms
  X0 : Option Addr
  c0 : Nat
  X1 : Option Addr
  c1 : Nat
  X2 : Option Addr
  c2 : Nat
  X3 : Option Addr
  c3 : Nat
def OwM (w : World) (B : Nat) (o : MB) : Prop := OwD w B o.X0 o.c0 o.m.s ∧ OwD w B o.X1 o.c1 o.m.w ∧ OwD w B o.X2 o.c2 o.m.c ∧ OwD w B o.X3 o.c3 o.m.a
theorem OwD.base_le {w : World} {B b c : Nat} {X : Option Addr} {d : Dy} (h : OwD w B X c d) (hb : b ≤ B) : OwD w b X c d := ⟨h.1, h.2.base_le hb⟩
theorem OwM.below {w w' : World} {B : Nat} {o : MB} (h : OwM w B o) (hb : Below w.heap.size w w') : OwM w' B o := ⟨h.1.below hb, h.2.1.below hb, h.2.2.1.below hb, h.2.2.2.below hb⟩
theorem OwM.base_le {w : World} {B b : Nat} {o : MB} (h : OwM w B o) (hb : b ≤ B) : OwM w b o := ⟨h.1.base_le hb, h.2.1.base_le hb, h.2.2.1.base_le hb, h.2.2.2.base_le hb⟩
theorem OwD.rd {w : World} {B c : Nat} {X : Option Addr} {d : Dy} (h : OwD w B X c d) : RdD w w.heap.size d.neg X d.ls.length c d.ex d := ⟨rfl, rfl, rfl, h.1, h.2.reads⟩
/-- A mass that is read. -/
abbrev RdO (w : World) (o : MB) : Prop := RdM w w.heap.size o.m.s.neg o.X0 o.m.s.ls.length o.c0 o.m.s.ex o.m.w.neg o.X1 o.m.w.ls.length o.c1 o.m.w.ex o.m.c.neg o.X2 o.m.c.ls.length o.c2 o.m.c.ex o.m.a.neg o.X3 o.m.a.ls.length o.c3 o.m.a.ex o.m
theorem OwM.rd {w : World} {B : Nat} {o : MB} (h : OwM w B o) : RdO w o := ⟨h.1.rd, h.2.1.rd, h.2.2.1.rd, h.2.2.2.rd⟩
theorem RdO.below {w w' : World} {o : MB} (h : RdO w o) (hb : Below w.heap.size w w') : RdO w' o := RdM.below h hb hb.size
theorem rdD_zero (w : World) (B : Nat) : RdD w B false none 0 0 0 ⟨false, [], 0⟩ := ⟨rfl, rfl, rfl, Nat.le_refl _, Reads.none_⟩
theorem rdM_zero (w : World) (B : Nat) : RdM w B false none 0 0 0 false none 0 0 0 false none 0 0 0 false none 0 0 0 zM := ⟨rdD_zero w B, rdD_zero w B, rdD_zero w B, rdD_zero w B⟩
theorem zM_sm : smM zM := ⟨Nat.zero_le _, Nat.zero_le _, Nat.zero_le _, Nat.zero_le _⟩
theorem lt_nil : ∀ x ∈ ([] : List Nat), x < LB := fun x h => by cases h
theorem zM_lt : ltM4 zM := ⟨lt_nil, lt_nil, lt_nil, lt_nil⟩
/-- What a sum over a ledger answers, in one way: a number and a mass, which is 0 where the number is not. -/
def lsE (E : Int) (s : Option Ms) : Int := if E ≠ 0 then E else match s with | none => 10 | some _ => 0
def lsM (E : Int) (s : Option Ms) : Ms := if E ≠ 0 then zM else s.getD zM
/-- What the sum of two masses answers, in one way. -/
def maE (m k : Ms) : Int := if (mayM m && mayM k) = false then 8 else match addM m k with | none => 10 | some _ => 0
def maM (m k : Ms) : Ms := if (mayM m && mayM k) = false then zM else (addM m k).getD zM
theorem madd_one {m k : Ms} {w w' : World} {en : Ending} (h : MaddP m k w en w') : ∃ o : MB, o.m = maM m k ∧ en = .returned (.tuple #[.agg #[.bool o.m.s.neg, .slice o.X0 o.m.s.ls.length o.c0, .int .i64 o.m.s.ex, .bool o.m.w.neg, .slice o.X1 o.m.w.ls.length o.c1, .int .i64 o.m.w.ex, .bool o.m.c.neg, .slice o.X2 o.m.c.ls.length o.c2, .int .i64 o.m.c.ex, .bool o.m.a.neg, .slice o.X3 o.m.a.ls.length o.c3, .int .i64 o.m.a.ex], .int .i64 (maE m k)]) ∧ OwM w' w.heap.size o ∧ Below w.heap.size w w' := by
  have hz : OwM w' w.heap.size ⟨zM, none, 0, none, 0, none, 0, none, 0⟩ := ⟨owD_zero _ _, owD_zero _ _, owD_zero _ _, owD_zero _ _⟩
  obtain ⟨hb, ⟨h0, he⟩ | ⟨h0, ⟨h1, he⟩ | ⟨d', h1, X0, c0, X1, c1, X2, c2, X3, c3, he, i0, i1, i2, i3⟩⟩⟩ := h
  · exact ⟨_, (if_pos h0).symm, by rw [he]; unfold maE; rw [if_pos h0]; rfl, hz, hb⟩
  · have h2 : ¬ (mayM m && mayM k) = false := by rw [h0]; decide
    exact ⟨_, by unfold maM; rw [if_neg h2, h1]; rfl, by rw [he]; unfold maE; rw [if_neg h2, h1]; rfl, hz, hb⟩
  · have h2 : ¬ (mayM m && mayM k) = false := by rw [h0]; decide
    exact ⟨⟨d', X0, c0, X1, c1, X2, c2, X3, c3⟩, by unfold maM; rw [if_neg h2, h1]; rfl, by rw [he]; unfold maE; rw [if_neg h2, h1], ⟨i0, i1, i2, i3⟩, hb⟩
theorem okd_zdy : okd zdy := ⟨by decide, fun x h => by cases h⟩
def okM (m : Ms) : Prop := okd m.s ∧ okd m.w ∧ okd m.c ∧ okd m.a
theorem okM_zM : okM zM := ⟨okd_zdy, okd_zdy, okd_zdy, okd_zdy⟩
theorem okM_of {m : Ms} (h : mayM m = true) (hl : ltM4 m) : okM m := by
  obtain ⟨h1, h2, h3, h4⟩ := mayM_each h
  exact ⟨⟨h1, hl.1⟩, ⟨h2, hl.2.1⟩, ⟨h3, hl.2.2.1⟩, ⟨h4, hl.2.2.2⟩⟩
theorem okM.may {m : Ms} (h : okM m) : mayM m = true := mayM_of h.1.1 h.2.1.1 h.2.2.1.1 h.2.2.2.1
theorem okM.lt {m : Ms} (h : okM m) : ltM4 m := ⟨h.1.2, h.2.1.2, h.2.2.1.2, h.2.2.2.2⟩
theorem okM.sm {m : Ms} (h : okM m) : smM m := by
  have h1 := (mayd_parts h.1.1).1
  have h2 := (mayd_parts h.2.1.1).1
  have h3 := (mayd_parts h.2.2.1.1).1
  have h4 := (mayd_parts h.2.2.2.1).1
  exact ⟨by omega, by omega, by omega, by omega⟩
theorem okM_add {m k d : Ms} (h : addM m k = some d) : okM d := okM_of (addM_ok h).1 (addM_ok h).2
theorem sumF_ok : ∀ (l : List Ms) (a d : Ms), okM a → sumF a l = some d → okM d
  | [], a, d, ha, h => by injection h with h; subst h; exact ha
  | x :: r, a, d, ha, h => by
    have h' : (match addM a x with | none => none | some d => sumF d r) = some d := h
    cases h2 : addM a x with
    | none => rw [h2] at h'; cases h'
    | some b => rw [h2] at h'; exact sumF_ok r b d (okM_add h2) h'
theorem sumL_ok {l : List Ms} {d : Ms} (h : sumL l = some d) : okM d := sumF_ok l zM d okM_zM h
theorem lsM_ok {E : Int} {s : Option Ms} (h : ∀ d, s = some d → okM d) : okM (lsM E s) := by
  unfold lsM
  by_cases h0 : E ≠ 0
  · rw [if_pos h0]; exact okM_zM
  · rw [if_neg h0]
    cases s with
    | none => exact okM_zM
    | some d => exact h d rfl
/-- What masses are worth, part by part. -/
def wM (m : Ms) : Int × Int × Int × Int := (worth m.s, worth m.w, worth m.c, worth m.a)
def wAdd (x y : Int × Int × Int × Int) : Int × Int × Int × Int := (x.1 + y.1, x.2.1 + y.2.1, x.2.2.1 + y.2.2.1, x.2.2.2 + y.2.2.2)
def wZ : Int × Int × Int × Int := (0, 0, 0, 0)
def wS : List Ms → Int × Int × Int × Int
  | [] => wZ
  | m :: r => wAdd (wM m) (wS r)
theorem maE_ten {m k : Ms} {E : Int} (h : maE m k = E) (h0 : ¬ E = 0) (hm : mayM m = true) (hk : mayM k = true) : addM m k = none ∧ E = 10 := by
  unfold maE at h
  rw [if_neg (by rw [hm, hk]; decide)] at h
  cases h1 : addM m k with
  | none => rw [h1] at h; exact ⟨rfl, h.symm⟩
  | some d => rw [h1] at h; exact absurd h.symm h0
end Go.Proofs.YtdmjdpaehnhdoaaDoor
namespace Go.Proofs.YtdmjdpaehnhdoaaDoor
open Go.ChangeShapes Go.WideShapes Go.ChangeAt Go.RowKit Go.Joins Go.Deep
set_option linter.unusedSimpArgs false
set_option linter.unusedVariables false
set_option maxRecDepth 100000
section
variable {H : Type} {enc : TypeId × Value → H} {P : Program} {w : World}
/-- A field that is a slice of integers. -/
theorem open_field {n0 : Nat} {t e : TypeId} {k : IntKind} {v : Value} {y : DataW H × List MemPlace} (ht : P.underlying t = some (.slice e)) (he : P.underlying e = some (.int k)) (hc : P.cellsOf e = 1)
    (hf : DataW.trod enc P w 0 (fun _ => true) true n0 t [v] = some y) :
    ∃ (A : Option Addr) (n c : Nat) (zs : List Int), v = .slice A n c ∧ n ≤ c ∧ zs.length = n ∧ Reads w w.heap.size 1 A n (zs.map (Value.int k)) ∧ ∀ z ∈ zs, (Lit.int k z).wf = true := by
  rcases open_ints ht he hc hf with ⟨hcs, _⟩ | ⟨a, len', cap', zs, hcs, _, hl, hm, hz, _, hcell, hwf⟩
  · simp only [List.cons.injEq, and_true] at hcs
    subst hcs
    exact ⟨none, 0, 0, [], rfl, Nat.le_refl _, rfl, Reads.none_, by simp⟩
  · simp only [List.cons.injEq, and_true] at hcs
    subst hcs
    simp only [if_true] at hz
    refine ⟨some a, len', cap', zs.take len', rfl, hl, by simp; omega, ⟨by simp; omega, fun hn => ⟨a, rfl, ?_, ?_⟩⟩, fun z hz' => hwf z (List.mem_of_mem_take hz')⟩
    · have := World.block_lt_of_cell? w _ (hcell 0 (by omega))
      rwa [block_of_add] at this
    · intro j u hu
      rw [List.getElem?_map, List.getElem?_take] at hu
      split at hu
      · rename_i hj
        have hj' : j < zs.length := by omega
        rw [hcell j hj', List.getD_eq_getElem?_getD]
        rw [List.getElem?_eq_getElem hj'] at hu ⊢
        simpa using hu
      · simp at hu
theorem dyad_at {n0 : Nat} {t tb ts te ti : TypeId} {f0 f1 f2 : Field} {c0 c1 c2 : Value} {y : DataW H × List MemPlace} (hs : P.underlying t = some (.struct #[f0, f1, f2])) (hone : oneCellFields P #[f0, f1, f2] = true)
    (e0 : f0.type = tb) (e1 : f1.type = ts) (e2 : f2.type = ti) (hb : P.underlying tb = some .bool) (hsl : P.underlying ts = some (.slice te)) (he : P.underlying te = some (.int .u32)) (hc : P.cellsOf te = 1) (hi : P.underlying ti = some (.int .i64))
    (hf : DataW.trod enc P w 0 (fun _ => true) true n0 t [c0, c1, c2] = some y) :
    ∃ (g : Bool) (X : Option Addr) (n c : Nat) (e : Int) (l : List Nat), c0 = .bool g ∧ c1 = .slice X n c ∧ c2 = .int .i64 e ∧ RdD w w.heap.size g X n c e ⟨g, l, e⟩ ∧ ∀ x ∈ l, x < LB := by
  obtain ⟨y0, y1, y2, n, _, _, t0, t1, t2⟩ := trod_struct3 hs hf
  obtain ⟨o0, k0⟩ := hone_of hone 0 f0 rfl
  obtain ⟨o1, k1⟩ := hone_of hone 1 f1 rfl
  obtain ⟨o2, k2⟩ := hone_of hone 2 f2 rfl
  rw [o0, k0, e0] at t0
  rw [o1, k1, e1] at t1
  rw [o2, k2, e2] at t2
  simp only [List.drop_succ_cons, List.drop_zero, List.take_succ_cons, List.take_zero] at t0 t1 t2
  obtain ⟨b, q0, _⟩ := DataW.trod_bool hb t0
  obtain ⟨A, m, c, zs, rfl, hmc, hz, hR, hwf⟩ := open_field hsl he hc t1
  obtain ⟨a2, q2, _, w2⟩ := DataW.trod_int hi t2
  simp only [List.cons.injEq, and_true] at q0 q2
  rw [ints_of (fun z hz => (u32_range (hwf z hz)).1)] at hR
  exact ⟨b, A, m, c, a2, zs.map Int.toNat, q0, rfl, q2, ⟨rfl, rfl, by simpa using hz, hmc, hR⟩, fun y hy => by
    obtain ⟨z, hz, rfl⟩ := List.mem_map.1 hy
    have := u32_range (hwf z hz)
    unfold LB
    omega⟩
end
section
variable {H : Type} {enc : TypeId × Value → H} {w : World}
theorem mass_at {n0 : Nat} {c0 c1 c2 c3 c4 c5 c6 c7 c8 c9 c10 c11 : Value} {y : DataW H × List MemPlace} (hf : DataW.trod enc Tryd.prog w 0 (fun _ => true) true n0 27 [c0, c1, c2, c3, c4, c5, c6, c7, c8, c9, c10, c11] = some y) :
    ∃ (ag0 : Bool) (aX0 : Option Addr) (an0 ac0 : Nat) (ae0 : Int) (ag1 : Bool) (aX1 : Option Addr) (an1 ac1 : Nat) (ae1 : Int) (ag2 : Bool) (aX2 : Option Addr) (an2 ac2 : Nat) (ae2 : Int) (ag3 : Bool) (aX3 : Option Addr) (an3 ac3 : Nat) (ae3 : Int) (m : Ms), c0 = .bool ag0 ∧ c1 = .slice aX0 an0 ac0 ∧ c2 = .int .i64 ae0 ∧ c3 = .bool ag1 ∧ c4 = .slice aX1 an1 ac1 ∧ c5 = .int .i64 ae1 ∧ c6 = .bool ag2 ∧ c7 = .slice aX2 an2 ac2 ∧ c8 = .int .i64 ae2 ∧ c9 = .bool ag3 ∧ c10 = .slice aX3 an3 ac3 ∧ c11 = .int .i64 ae3 ∧ RdM w w.heap.size ag0 aX0 an0 ac0 ae0 ag1 aX1 an1 ac1 ae1 ag2 aX2 an2 ac2 ae2 ag3 aX3 an3 ac3 ae3 m ∧ ltM4 m := by
  obtain ⟨y0, y1, y2, y3, n, _, _, t0, t1, t2, t3⟩ := trod_struct4 Tryd.underlying27 hf
  have hk : Tryd.prog.cellsOf 25 = 3 := by kernel_rfl
  dsimp only at t0 t1 t2 t3
  rw [hk] at t0 t1 t2 t3
  simp only [List.drop_succ_cons, List.drop_zero, List.take_succ_cons, List.take_zero] at t0 t1 t2 t3
  obtain ⟨g0, X0, n0, d0, e0, l0, a0, b0, z0, r0, j0⟩ := dyad_at Tryd.underlying25 (by kernel_rfl) rfl rfl rfl Tryd.underlying4 Tryd.underlying23 Tryd.underlying71 (by kernel_rfl) Tryd.underlying3 t0
  obtain ⟨g1, X1, n1, d1, e1, l1, a1, b1, z1, r1, j1⟩ := dyad_at Tryd.underlying25 (by kernel_rfl) rfl rfl rfl Tryd.underlying4 Tryd.underlying23 Tryd.underlying71 (by kernel_rfl) Tryd.underlying3 t1
  obtain ⟨g2, X2, n2, d2, e2, l2, a2, b2, z2, r2, j2⟩ := dyad_at Tryd.underlying25 (by kernel_rfl) rfl rfl rfl Tryd.underlying4 Tryd.underlying23 Tryd.underlying71 (by kernel_rfl) Tryd.underlying3 t2
  obtain ⟨g3, X3, n3, d3, e3, l3, a3, b3, z3, r3, j3⟩ := dyad_at Tryd.underlying25 (by kernel_rfl) rfl rfl rfl Tryd.underlying4 Tryd.underlying23 Tryd.underlying71 (by kernel_rfl) Tryd.underlying3 t3
  exact ⟨g0, X0, n0, d0, e0, g1, X1, n1, d1, e1, g2, X2, n2, d2, e2, g3, X3, n3, d3, e3, ⟨⟨g0, l0, e0⟩, ⟨g1, l1, e1⟩, ⟨g2, l2, e2⟩, ⟨g3, l3, e3⟩⟩, a0, b0, z0, a1, b1, z1, a2, b2, z2, a3, b3, z3, ⟨r0, r1, r2, r3⟩, j0, j1, j2, j3⟩
theorem entry_at {n0 : Nat} {c0 c1 c2 c3 c4 c5 c6 c7 c8 c9 c10 c11 c12 c13 c14 : Value} {y : DataW H × List MemPlace} (hf : DataW.trod enc Tryd.prog w 0 (fun _ => true) true n0 48 [c0, c1, c2, c3, c4, c5, c6, c7, c8, c9, c10, c11, c12, c13, c14] = some y) :
    ∃ (nu ep cp : Int) (ag0 : Bool) (aX0 : Option Addr) (an0 ac0 : Nat) (ae0 : Int) (ag1 : Bool) (aX1 : Option Addr) (an1 ac1 : Nat) (ae1 : Int) (ag2 : Bool) (aX2 : Option Addr) (an2 ac2 : Nat) (ae2 : Int) (ag3 : Bool) (aX3 : Option Addr) (an3 ac3 : Nat) (ae3 : Int) (m : Ms), c0 = .int .i64 nu ∧ c1 = .int .i64 ep ∧ c2 = .int .i64 cp ∧ c3 = .bool ag0 ∧ c4 = .slice aX0 an0 ac0 ∧ c5 = .int .i64 ae0 ∧ c6 = .bool ag1 ∧ c7 = .slice aX1 an1 ac1 ∧ c8 = .int .i64 ae1 ∧ c9 = .bool ag2 ∧ c10 = .slice aX2 an2 ac2 ∧ c11 = .int .i64 ae2 ∧ c12 = .bool ag3 ∧ c13 = .slice aX3 an3 ac3 ∧ c14 = .int .i64 ae3 ∧ RdM w w.heap.size ag0 aX0 an0 ac0 ae0 ag1 aX1 an1 ac1 ae1 ag2 aX2 an2 ac2 ae2 ag3 aX3 an3 ac3 ae3 m ∧ ltM4 m := by
  obtain ⟨y0, y1, y2, y3, n, _, _, t0, t1, t2, t3⟩ := trod_struct4 Tryd.underlying48 hf
  have hk0 : Tryd.prog.cellsOf 3 = 1 := by kernel_rfl
  have hk2 : Tryd.prog.cellsOf 27 = 12 := by kernel_rfl
  dsimp only at t0 t1 t2 t3
  rw [hk0] at t0 t1 t2
  rw [hk2] at t3
  simp only [List.drop_succ_cons, List.drop_zero, List.take_succ_cons, List.take_zero] at t0 t1 t2 t3
  obtain ⟨a0, q0, _, _⟩ := DataW.trod_int Tryd.underlying3 t0
  obtain ⟨a1, q1, _, _⟩ := DataW.trod_int Tryd.underlying3 t1
  obtain ⟨a2, q2, _, _⟩ := DataW.trod_int Tryd.underlying3 t2
  simp only [List.cons.injEq, and_true] at q0 q1 q2
  obtain ⟨ag0, aX0, an0, ac0, ae0, ag1, aX1, an1, ac1, ae1, ag2, aX2, an2, ac2, ae2, ag3, aX3, an3, ac3, ae3, m, h0, h1, h2, h3, h4, h5, h6, h7, h8, h9, h10, h11, hr⟩ := mass_at t3
  exact ⟨a0, a1, a2, ag0, aX0, an0, ac0, ae0, ag1, aX1, an1, ac1, ae1, ag2, aX2, an2, ac2, ae2, ag3, aX3, an3, ac3, ae3, m, q0, q1, q2, h0, h1, h2, h3, h4, h5, h6, h7, h8, h9, h10, h11, hr⟩
/-- An argument that is a row of entries. -/
theorem open_ens {r : Reach} {b0 : Nat} {v : Value} {d : DataW H} {p : List MemPlace} (hv : Value.okWide Tryd.prog w r b0 22 v) (h : DataW.Trod enc Tryd.prog w 0 (fun _ => true) true 22 v d p) :
    ∃ (A : Option Addr) (n c : Nat) (l : List En), v = .slice A n c ∧ n ≤ c ∧ c ≤ maxLen ∧ Ens w w.heap.size A n l ∧ ∀ x ∈ l, ltM4 x.give := by
  have hsl := Tryd.underlying22
  have hC : Tryd.prog.cellsOf 48 = 15 := by kernel_rfl
  obtain ⟨a0, len, cap, rfl⟩ := okWide_slice hsl hv
  obtain ⟨fuel, hf⟩ := h
  rcases DataW.trod_slice hsl hf with ⟨hcs, _⟩ | ⟨a, len', cap', elems, rest, n, _, hcs, _, _, hl, hm, hlen, hel, _, _⟩
  · simp [Value.cells] at hcs
    obtain ⟨rfl, rfl, rfl⟩ := hcs
    exact ⟨none, 0, 0, [], rfl, Nat.le_refl _, Nat.zero_le _, Recs.none_, (fun x h => by cases h)⟩
  · simp [Value.cells] at hcs
    obtain ⟨rfl, rfl, rfl⟩ := hcs
    have each : ∀ i, i < len → ∃ c : En, ltM4 c.give ∧ ∀ j f, (fdsE c)[j]? = some f → RdF w w.heap.size (a.add (i * 15 + j)) f := by
      intro i hi
      have hE := hel i hi
      rw [List.getElem?_eq_getElem (by omega), Option.bind_eq_some_iff] at hE
      obtain ⟨cs, hc1, hy⟩ := hE
      rw [hC] at hc1
      obtain ⟨_, hcl, hcc⟩ := World.cells?_some hc1
      match cs, hcl with
      | [c0, c1, c2, c3, c4, c5, c6, c7, c8, c9, c10, c11, c12, c13, c14], _ =>
        obtain ⟨nu, ep, cp, ag0, aX0, an0, ac0, ae0, ag1, aX1, an1, ac1, ae1, ag2, aX2, an2, ac2, ae2, ag3, aX3, an3, ac3, ae3, m, rfl, rfl, rfl, rfl, rfl, rfl, rfl, rfl, rfl, rfl, rfl, rfl, rfl, rfl, rfl, hr, hlt⟩ := entry_at hy
        have g0 := hcc 0 (by omega)
        have g1 := hcc 1 (by omega)
        have g2 := hcc 2 (by omega)
        have g3 := hcc 3 (by omega)
        have g4 := hcc 4 (by omega)
        have g5 := hcc 5 (by omega)
        have g6 := hcc 6 (by omega)
        have g7 := hcc 7 (by omega)
        have g8 := hcc 8 (by omega)
        have g9 := hcc 9 (by omega)
        have g10 := hcc 10 (by omega)
        have g11 := hcc 11 (by omega)
        have g12 := hcc 12 (by omega)
        have g13 := hcc 13 (by omega)
        have g14 := hcc 14 (by omega)
        rw [add_of_add] at g0 g1 g2 g3 g4 g5 g6 g7 g8 g9 g10 g11 g12 g13 g14
        obtain ⟨⟨g0a, l0, e0a⟩, ⟨g1a, l1, e1a⟩, ⟨g2a, l2, e2a⟩, ⟨g3a, l3, e3a⟩⟩ := m
        obtain ⟨p0a, p0b, p0c, p0d, p0e⟩ := hr.1
        simp only at p0a p0b p0c p0e
        subst p0a p0b
        obtain ⟨p1a, p1b, p1c, p1d, p1e⟩ := hr.2.1
        simp only at p1a p1b p1c p1e
        subst p1a p1b
        obtain ⟨p2a, p2b, p2c, p2d, p2e⟩ := hr.2.2.1
        simp only at p2a p2b p2c p2e
        subst p2a p2b
        obtain ⟨p3a, p3b, p3c, p3d, p3e⟩ := hr.2.2.2
        simp only at p3a p3b p3c p3e
        subst p3a p3b
        refine ⟨⟨nu, ep, cp, ⟨⟨g0a, l0, e0a⟩, ⟨g1a, l1, e1a⟩, ⟨g2a, l2, e2a⟩, ⟨g3a, l3, e3a⟩⟩⟩, hlt, fun j f hf => ?_⟩
        match j, hf with
        | 0, hf => injection hf with hf; subst hf; exact g0
        | 1, hf => injection hf with hf; subst hf; exact g1
        | 2, hf => injection hf with hf; subst hf; exact g2
        | 3, hf => injection hf with hf; subst hf; exact g3
        | 4, hf => injection hf with hf; subst hf; exact ⟨_, _, _, p0c, p0d, p0e, g4⟩
        | 5, hf => injection hf with hf; subst hf; exact g5
        | 6, hf => injection hf with hf; subst hf; exact g6
        | 7, hf => injection hf with hf; subst hf; exact ⟨_, _, _, p1c, p1d, p1e, g7⟩
        | 8, hf => injection hf with hf; subst hf; exact g8
        | 9, hf => injection hf with hf; subst hf; exact g9
        | 10, hf => injection hf with hf; subst hf; exact ⟨_, _, _, p2c, p2d, p2e, g10⟩
        | 11, hf => injection hf with hf; subst hf; exact g11
        | 12, hf => injection hf with hf; subst hf; exact g12
        | 13, hf => injection hf with hf; subst hf; exact ⟨_, _, _, p3c, p3d, p3e, g13⟩
        | 14, hf => injection hf with hf; subst hf; exact g14
        | j + 15, hf => simp [fdsE, fdsM, fdsD] at hf
    have ex : ∀ k, k ≤ len → ∃ l : List En, l.length = k ∧ (∀ x ∈ l, ltM4 x.give) ∧ ∀ i c, l[i]? = some c → ∀ j f, (fdsE c)[j]? = some f → RdF w w.heap.size (a.add (i * 15 + j)) f := by
      intro k
      induction k with
      | zero => exact fun _ => ⟨[], rfl, (fun x h => by cases h), by simp⟩
      | succ k ih =>
        intro hk
        obtain ⟨l, hl, hlx, hr⟩ := ih (by omega)
        obtain ⟨c, hcx, hc⟩ := each k (by omega)
        refine ⟨l ++ [c], by simp [hl], fun x hx => (List.mem_append.1 hx).elim (hlx x) (fun h => by rw [List.mem_singleton.1 h]; exact hcx), fun i x hx => ?_⟩
        rw [List.getElem?_append] at hx
        split at hx
        · exact hr i x hx
        · rename_i hi
          have : i = k := by
            rcases Nat.lt_or_ge k i with h | h
            · rw [List.getElem?_eq_none (by simp; omega)] at hx; cases hx
            · omega
          subst this
          rw [hl, Nat.sub_self] at hx
          injection hx with hx
          subst hx
          exact hc
    obtain ⟨l, hll, hlx, hr⟩ := ex len (Nat.le_refl _)
    refine ⟨some a, len, cap, l, rfl, hl, hm, ⟨by simpa using hll, fun h0 => ⟨a, rfl, ?_, fun i r hr' j f hf => ?_⟩⟩, hlx⟩
    · obtain ⟨c, _, hc⟩ := each 0 h0
      have := World.block_lt_of_cell? w _ (hc 0 _ rfl)
      rwa [block_of_add] at this
    · rw [List.getElem?_map] at hr'
      obtain ⟨c, hc, rfl⟩ := Option.map_eq_some_iff.1 hr'
      exact hr i c hc j f hf
end
end Go.Proofs.YtdmjdpaehnhdoaaDoor
