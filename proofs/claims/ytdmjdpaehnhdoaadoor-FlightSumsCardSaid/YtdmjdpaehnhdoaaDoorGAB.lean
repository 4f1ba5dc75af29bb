/- Flight's Door: mails by value | Flight's Door: mail.Same -/
import Derived.Test.YtdmjdpaehnhdoaaDoorFM
import Derived.Test.YtdmjdpaehnhdoaaDoorMDG
import Derived.Test.YtdmjdpaehnhdoaaDoorGKJ
import Derived.Test.YtdmjdpaehnhdoaaDoorKA
namespace Go.Proofs.YtdmjdpaehnhdoaaDoor
open Go.ChangeShapes Go.WideShapes Go.ChangeAt Go.RowKit
set_option linter.unusedSimpArgs false
set_option linter.unusedVariables false
/-- A mail. -/
structure Ml where
  kd : Int
  fr : Int
  tt : Int
  ep : Int
  nu : Int
  ab : Int
  give : Ms
  wa : Bool
  ds : List Tm
  eh : Bool
  e1 : Int
  e2 : Int
  ls : List Nat
deriving DecidableEq
/-- A mail, and where its rows lie. -/
structure MO where
  x : Ml
  X0 : Option Addr
  c0 : Nat
  X1 : Option Addr
  c1 : Nat
  X2 : Option Addr
  c2 : Nat
  X3 : Option Addr
  c3 : Nat
  D : Option Addr
  dc : Nat
  L : Option Addr
  lc : Nat
def aggL (o : MO) : Value := .agg #[.int .u8 o.x.kd, .int .i64 o.x.fr, .int .i64 o.x.tt, .int .i64 o.x.ep, .int .i64 o.x.nu, .int .i64 o.x.ab, .bool o.x.give.s.neg, .slice o.X0 o.x.give.s.ls.length o.c0, .int .i64 o.x.give.s.ex, .bool o.x.give.w.neg, .slice o.X1 o.x.give.w.ls.length o.c1, .int .i64 o.x.give.w.ex, .bool o.x.give.c.neg, .slice o.X2 o.x.give.c.ls.length o.c2, .int .i64 o.x.give.c.ex, .bool o.x.give.a.neg, .slice o.X3 o.x.give.a.ls.length o.c3, .int .i64 o.x.give.a.ex, .bool o.x.wa, .slice o.D o.x.ds.length o.dc, .bool o.x.eh, .int .i64 o.x.e1, .int .i64 o.x.e2, .slice o.L o.x.ls.length o.lc]
def rdL (w : World) (B : Nat) (o : MO) : Prop := RdM w B o.x.give.s.neg o.X0 o.x.give.s.ls.length o.c0 o.x.give.s.ex o.x.give.w.neg o.X1 o.x.give.w.ls.length o.c1 o.x.give.w.ex o.x.give.c.neg o.X2 o.x.give.c.ls.length o.c2 o.x.give.c.ex o.x.give.a.neg o.X3 o.x.give.a.ls.length o.c3 o.x.give.a.ex o.x.give ∧ Tms w B o.D o.x.ds.length o.x.ds ∧ Reads w B 1 o.L o.x.ls.length (ints .u32 o.x.ls)
theorem rdL.below {w w' : World} {B B' : Nat} {o : MO} (h : rdL w B o) (hb : Below B w w') (hB : B ≤ B') : rdL w' B' o := ⟨h.1.below hb hB, (h.2.1.below hb).more hB, (h.2.2.below hb).more hB⟩
/-- Rows of bounded length. -/
def smL (m : Ml) : Prop := smM m.give ∧ m.ds.length ≤ 5000 ∧ m.ls.length ≤ 100000
theorem ml_eq {a b : Ml} (h : a.kd = b.kd ∧ a.fr = b.fr ∧ a.tt = b.tt ∧ a.ep = b.ep ∧ a.nu = b.nu ∧ a.ab = b.ab ∧ a.give = b.give ∧ a.wa = b.wa ∧ a.ds = b.ds ∧ a.eh = b.eh ∧ a.e1 = b.e1 ∧ a.e2 = b.e2 ∧ a.ls = b.ls) : a = b := by
  cases a; cases b
  simp only at h
  obtain ⟨h0, h1, h2, h3, h4, h5, h6, h7, h8, h9, h10, h11, h12⟩ := h
  subst h0 h1 h2 h3 h4 h5 h6 h7 h8 h9 h10 h11 h12
  rfl
theorem ml_dec (a b : Ml) : ((((((((((((a.kd == b.kd) && (a.fr == b.fr)) && (a.tt == b.tt)) && (a.ep == b.ep)) && (a.nu == b.nu)) && (a.ab == b.ab)) && decide (a.give = b.give)) && (a.wa == b.wa)) && decide (a.ds = b.ds)) && ((a.eh == b.eh) && ((a.e1 == b.e1) && (a.e2 == b.e2)))) && decide (a.ls = b.ls))) = decide (a = b) := by
  rw [Bool.eq_iff_iff]
  constructor
  · intro h
    simp only [Bool.and_eq_true, beq_iff_eq, decide_eq_true_eq] at h
    obtain ⟨⟨⟨⟨⟨⟨⟨⟨⟨⟨h0, h1⟩, h2⟩, h3⟩, h4⟩, h5⟩, h6⟩, h7⟩, h8⟩, h9, h10, h11⟩, h12⟩ := h
    exact decide_eq_true (ml_eq ⟨h0, h1, h2, h3, h4, h5, h6, h7, h8, h9, h10, h11, h12⟩)
  · intro h
    obtain rfl := of_decide_eq_true h
    simp
end Go.Proofs.YtdmjdpaehnhdoaaDoor
namespace Go.Proofs.YtdmjdpaehnhdoaaDoor
open Go.ChangeShapes Go.WideShapes Go.ChangeAt Go.RowKit
set_option linter.unusedSimpArgs false
set_option linter.unusedVariables false
set_option maxRecDepth 100000
theorem wpList_abs2 {P : Program} {ops : Array Oper} {Q : Exit → Act → World → Prop} {a : Act} {w : World} {l : List Oper} (n t1 t2 : Nat) (v1 v2 : Value) (hs : a.tmps.size = n) (hd : a.defers = []) (h1 : tv a t1 = v1) (h2 : tv a t2 = v2) (h : ∀ a' : Act, Sx a' n [(t1, gv true v1), (t2, gv true v2)] → wpList P ops Q l a' w) : wpList P ops Q l a w := h a (Sx.two hs hd h1 h2)
set_option maxHeartbeats 32000000 in
theorem lsameA (a0 b0 : MO) (w : World) (qm qd ql R : Bool) (hR : (((((((((((a0.x.kd == b0.x.kd) && (a0.x.fr == b0.x.fr)) && (a0.x.tt == b0.x.tt)) && (a0.x.ep == b0.x.ep)) && (a0.x.nu == b0.x.nu)) && (a0.x.ab == b0.x.ab)) && qm) && (a0.x.wa == b0.x.wa)) && qd) && ((a0.x.eh == b0.x.eh) && ((a0.x.e1 == b0.x.e1) && (a0.x.e2 == b0.x.e2)))) && ql) = R) (hm : ∀ w', Below w.heap.size w w' → Calls Tryd.prog 24 #[.agg #[.bool a0.x.give.s.neg, .slice a0.X0 a0.x.give.s.ls.length a0.c0, .int .i64 a0.x.give.s.ex, .bool a0.x.give.w.neg, .slice a0.X1 a0.x.give.w.ls.length a0.c1, .int .i64 a0.x.give.w.ex, .bool a0.x.give.c.neg, .slice a0.X2 a0.x.give.c.ls.length a0.c2, .int .i64 a0.x.give.c.ex, .bool a0.x.give.a.neg, .slice a0.X3 a0.x.give.a.ls.length a0.c3, .int .i64 a0.x.give.a.ex], .agg #[.bool b0.x.give.s.neg, .slice b0.X0 b0.x.give.s.ls.length b0.c0, .int .i64 b0.x.give.s.ex, .bool b0.x.give.w.neg, .slice b0.X1 b0.x.give.w.ls.length b0.c1, .int .i64 b0.x.give.w.ex, .bool b0.x.give.c.neg, .slice b0.X2 b0.x.give.c.ls.length b0.c2, .int .i64 b0.x.give.c.ex, .bool b0.x.give.a.neg, .slice b0.X3 b0.x.give.a.ls.length b0.c3, .int .i64 b0.x.give.a.ex]] w' fun en w'' => en = .returned (.bool qm) ∧ Below w'.heap.size w' w'') (hd : ∀ w', Below w.heap.size w w' → Calls Tryd.prog 96 #[.slice a0.D a0.x.ds.length a0.dc, .slice b0.D b0.x.ds.length b0.dc] w' fun en w'' => en = .returned (.bool qd) ∧ Below w'.heap.size w' w'') (hl : ∀ w', Below w.heap.size w w' → Calls Tryd.prog 86 #[.slice a0.L a0.x.ls.length a0.lc, .slice b0.L b0.x.ls.length b0.lc] w' fun en w'' => en = .returned (.bool ql) ∧ Below w'.heap.size w' w'') : Calls Tryd.prog 66 #[aggL a0, aggL b0] w fun en w' => en = .returned (.bool R) ∧ Below w.heap.size w w' := by
  unfold aggL
  obtain ⟨V, hV⟩ : ∃ V, V = ((w.alloc (.cells #[.int .u8 a0.x.kd, .int .i64 a0.x.fr, .int .i64 a0.x.tt, .int .i64 a0.x.ep, .int .i64 a0.x.nu, .int .i64 a0.x.ab, .bool a0.x.give.s.neg, .slice a0.X0 a0.x.give.s.ls.length a0.c0, .int .i64 a0.x.give.s.ex, .bool a0.x.give.w.neg, .slice a0.X1 a0.x.give.w.ls.length a0.c1, .int .i64 a0.x.give.w.ex, .bool a0.x.give.c.neg, .slice a0.X2 a0.x.give.c.ls.length a0.c2, .int .i64 a0.x.give.c.ex, .bool a0.x.give.a.neg, .slice a0.X3 a0.x.give.a.ls.length a0.c3, .int .i64 a0.x.give.a.ex, .bool a0.x.wa, .slice a0.D a0.x.ds.length a0.dc, .bool a0.x.eh, .int .i64 a0.x.e1, .int .i64 a0.x.e2, .slice a0.L a0.x.ls.length a0.lc] 32)).alloc (.cells #[.int .u8 b0.x.kd, .int .i64 b0.x.fr, .int .i64 b0.x.tt, .int .i64 b0.x.ep, .int .i64 b0.x.nu, .int .i64 b0.x.ab, .bool b0.x.give.s.neg, .slice b0.X0 b0.x.give.s.ls.length b0.c0, .int .i64 b0.x.give.s.ex, .bool b0.x.give.w.neg, .slice b0.X1 b0.x.give.w.ls.length b0.c1, .int .i64 b0.x.give.w.ex, .bool b0.x.give.c.neg, .slice b0.X2 b0.x.give.c.ls.length b0.c2, .int .i64 b0.x.give.c.ex, .bool b0.x.give.a.neg, .slice b0.X3 b0.x.give.a.ls.length b0.c3, .int .i64 b0.x.give.a.ex, .bool b0.x.wa, .slice b0.D b0.x.ds.length b0.dc, .bool b0.x.eh, .int .i64 b0.x.e1, .int .i64 b0.x.e2, .slice b0.L b0.x.ls.length b0.lc] 32)) := ⟨_, rfl⟩
  have hB : Below w.heap.size w V := by rw [hV]; exact ((Below.refl _ _).alloc (Nat.le_refl _) _).alloc (by simp) _
  have kb : Blk V w.heap.size 32 #[.int .u8 a0.x.kd, .int .i64 a0.x.fr, .int .i64 a0.x.tt, .int .i64 a0.x.ep, .int .i64 a0.x.nu, .int .i64 a0.x.ab, .bool a0.x.give.s.neg, .slice a0.X0 a0.x.give.s.ls.length a0.c0, .int .i64 a0.x.give.s.ex, .bool a0.x.give.w.neg, .slice a0.X1 a0.x.give.w.ls.length a0.c1, .int .i64 a0.x.give.w.ex, .bool a0.x.give.c.neg, .slice a0.X2 a0.x.give.c.ls.length a0.c2, .int .i64 a0.x.give.c.ex, .bool a0.x.give.a.neg, .slice a0.X3 a0.x.give.a.ls.length a0.c3, .int .i64 a0.x.give.a.ex, .bool a0.x.wa, .slice a0.D a0.x.ds.length a0.dc, .bool a0.x.eh, .int .i64 a0.x.e1, .int .i64 a0.x.e2, .slice a0.L a0.x.ls.length a0.lc] := by rw [hV]; exact (Blk.new w _ _).alloc _
  have kc : Blk V (w.heap.size + 1) 32 #[.int .u8 b0.x.kd, .int .i64 b0.x.fr, .int .i64 b0.x.tt, .int .i64 b0.x.ep, .int .i64 b0.x.nu, .int .i64 b0.x.ab, .bool b0.x.give.s.neg, .slice b0.X0 b0.x.give.s.ls.length b0.c0, .int .i64 b0.x.give.s.ex, .bool b0.x.give.w.neg, .slice b0.X1 b0.x.give.w.ls.length b0.c1, .int .i64 b0.x.give.w.ex, .bool b0.x.give.c.neg, .slice b0.X2 b0.x.give.c.ls.length b0.c2, .int .i64 b0.x.give.c.ex, .bool b0.x.give.a.neg, .slice b0.X3 b0.x.give.a.ls.length b0.c3, .int .i64 b0.x.give.a.ex, .bool b0.x.wa, .slice b0.D b0.x.ds.length b0.dc, .bool b0.x.eh, .int .i64 b0.x.e1, .int .i64 b0.x.e2, .slice b0.L b0.x.ls.length b0.lc] := by rw [hV]; simpa using Blk.new (w.alloc (.cells #[.int .u8 a0.x.kd, .int .i64 a0.x.fr, .int .i64 a0.x.tt, .int .i64 a0.x.ep, .int .i64 a0.x.nu, .int .i64 a0.x.ab, .bool a0.x.give.s.neg, .slice a0.X0 a0.x.give.s.ls.length a0.c0, .int .i64 a0.x.give.s.ex, .bool a0.x.give.w.neg, .slice a0.X1 a0.x.give.w.ls.length a0.c1, .int .i64 a0.x.give.w.ex, .bool a0.x.give.c.neg, .slice a0.X2 a0.x.give.c.ls.length a0.c2, .int .i64 a0.x.give.c.ex, .bool a0.x.give.a.neg, .slice a0.X3 a0.x.give.a.ls.length a0.c3, .int .i64 a0.x.give.a.ex, .bool a0.x.wa, .slice a0.D a0.x.ds.length a0.dc, .bool a0.x.eh, .int .i64 a0.x.e1, .int .i64 a0.x.e2, .slice a0.L a0.x.ls.length a0.lc] 32)) 32 #[.int .u8 b0.x.kd, .int .i64 b0.x.fr, .int .i64 b0.x.tt, .int .i64 b0.x.ep, .int .i64 b0.x.nu, .int .i64 b0.x.ab, .bool b0.x.give.s.neg, .slice b0.X0 b0.x.give.s.ls.length b0.c0, .int .i64 b0.x.give.s.ex, .bool b0.x.give.w.neg, .slice b0.X1 b0.x.give.w.ls.length b0.c1, .int .i64 b0.x.give.w.ex, .bool b0.x.give.c.neg, .slice b0.X2 b0.x.give.c.ls.length b0.c2, .int .i64 b0.x.give.c.ex, .bool b0.x.give.a.neg, .slice b0.X3 b0.x.give.a.ls.length b0.c3, .int .i64 b0.x.give.a.ex, .bool b0.x.wa, .slice b0.D b0.x.ds.length b0.dc, .bool b0.x.eh, .int .i64 b0.x.e1, .int .i64 b0.x.e2, .slice b0.L b0.x.ls.length b0.lc]
  go_enter Tryd.func66, Tryd.ntmps66
  go_upto_region 1 with (fail)
  rename_i Q0 K1 k1
  rw [← hV]
  clear hV
  refine wp_region_lit ?_
  refine wpList_abs2 80 2 3 (.pointer (some ⟨w.heap.size, 0, none⟩)) (.pointer (some ⟨w.heap.size + 1, 0, none⟩)) rfl rfl rfl rfl ?_
  intro a S
  refine qF (fun a S => ?_); refine qL kb (fun a S => ?_); refine qF (fun a S => ?_); refine qL kc (fun a S => ?_); refine qEqI (fun a S => ?_); refine qMv (fun a S => ?_); refine qF (fun a S => ?_); refine qL kb (fun a S => ?_); refine qF (fun a S => ?_); refine qL kc (fun a S => ?_); refine qEqI (fun a S => ?_); refine qAnd (fun a S => ?_); refine qMv (fun a S => ?_); refine qF (fun a S => ?_); refine qL kb (fun a S => ?_); refine qF (fun a S => ?_); refine qL kc (fun a S => ?_); refine qEqI (fun a S => ?_); refine qAnd (fun a S => ?_); refine qMv (fun a S => ?_); refine qF (fun a S => ?_); refine qL kb (fun a S => ?_); refine qF (fun a S => ?_); refine qL kc (fun a S => ?_); refine qEqI (fun a S => ?_); refine qAnd (fun a S => ?_); refine qMv (fun a S => ?_); refine qF (fun a S => ?_); refine qL kb (fun a S => ?_); refine qF (fun a S => ?_); refine qL kc (fun a S => ?_); refine qEqI (fun a S => ?_); refine qAnd (fun a S => ?_); refine qMv (fun a S => ?_); refine qF (fun a S => ?_); refine qL kb (fun a S => ?_); refine qF (fun a S => ?_); refine qL kc (fun a S => ?_); refine qEqI (fun a S => ?_); refine qAnd (fun a S => ?_); refine qMv (fun a S => ?_); refine qF (fun a S => ?_)
  refine qR kb [.bool a0.x.give.s.neg, .slice a0.X0 a0.x.give.s.ls.length a0.c0, .int .i64 a0.x.give.s.ex, .bool a0.x.give.w.neg, .slice a0.X1 a0.x.give.w.ls.length a0.c1, .int .i64 a0.x.give.w.ex, .bool a0.x.give.c.neg, .slice a0.X2 a0.x.give.c.ls.length a0.c2, .int .i64 a0.x.give.c.ex, .bool a0.x.give.a.neg, .slice a0.X3 a0.x.give.a.ls.length a0.c3, .int .i64 a0.x.give.a.ex] (fun a S => ?_)
  refine qF (fun a S => ?_)
  refine qR kc [.bool b0.x.give.s.neg, .slice b0.X0 b0.x.give.s.ls.length b0.c0, .int .i64 b0.x.give.s.ex, .bool b0.x.give.w.neg, .slice b0.X1 b0.x.give.w.ls.length b0.c1, .int .i64 b0.x.give.w.ex, .bool b0.x.give.c.neg, .slice b0.X2 b0.x.give.c.ls.length b0.c2, .int .i64 b0.x.give.c.ex, .bool b0.x.give.a.neg, .slice b0.X3 b0.x.give.a.ls.length b0.c3, .int .i64 b0.x.give.a.ex] (fun a S => ?_)
  refine qC2 (hm _ hB) (fun a w1 hb S => ?_); replace kb := kb.below hb kb.lt; replace kc := kc.below hb kc.lt; replace hB := hB.trans (hb.mono hB.size); clear hb
  refine qAnd (fun a S => ?_); refine qMv (fun a S => ?_); refine qF (fun a S => ?_); refine qL kb (fun a S => ?_); refine qF (fun a S => ?_); refine qL kc (fun a S => ?_); refine qEqB (fun a S => ?_); refine qAnd (fun a S => ?_); refine qMv (fun a S => ?_); refine qF (fun a S => ?_); refine qL kb (fun a S => ?_); refine qF (fun a S => ?_); refine qL kc (fun a S => ?_)
  refine qC2 (hd _ hB) (fun a w1 hb S => ?_); replace kb := kb.below hb kb.lt; replace kc := kc.below hb kc.lt; replace hB := hB.trans (hb.mono hB.size); clear hb
  refine qAnd (fun a S => ?_); refine qMv (fun a S => ?_); refine qF (fun a S => ?_)
  refine qR kb [.bool a0.x.eh, .int .i64 a0.x.e1, .int .i64 a0.x.e2] (fun a S => ?_)
  refine qF (fun a S => ?_)
  refine qR kc [.bool b0.x.eh, .int .i64 b0.x.e1, .int .i64 b0.x.e2] (fun a S => ?_)
  refine sx2 68 70 S (.bool ((a0.x.eh == b0.x.eh) && ((a0.x.e1 == b0.x.e1) && (a0.x.e2 == b0.x.e2)))) (wG S rfl rfl (by decide) rfl) rfl rfl id id (fun ev ec e e2 => by go_simp; by_cases x1 : a0.x.eh = b0.x.eh <;> by_cases x2 : a0.x.e1 = b0.x.e1 <;> by_cases x3 : a0.x.e2 = b0.x.e2 <;> simp [x1, x2, x3]) ?_; intro a S
  refine qAnd (fun a S => ?_); refine qMv (fun a S => ?_); refine qF (fun a S => ?_); refine qL kb (fun a S => ?_); refine qF (fun a S => ?_); refine qL kc (fun a S => ?_)
  refine qC2 (hl _ hB) (fun a w1 hb S => ?_); replace kb := kb.below hb kb.lt; replace kc := kc.below hb kc.lt; replace hB := hB.trans (hb.mono hB.size); clear hb
  refine qAnd (fun a S => ?_); refine qAs (fun a S => ?_)
  refine wpList_nil ?_
  refine k1 _ _ ?_
  refine wp_ret ?_
  show Q0 .ret a _
  refine bodyPost_ret (v := .bool R) ?_ S.df ⟨rfl, hB⟩
  exact (results_tmp rfl _ _ _).trans (by rw [show a.tmps.getD 4 undef = _ from S.fx 4 _ rfl]; exact congrArg (fun x => Result.ok (Value.bool x) _) (hR))
theorem mlsame_any (a b : MO) (hsa : smL a.x) (hsb : smL b.x) (w : World) (ra : rdL w w.heap.size a) (rb : rdL w w.heap.size b) (R : Bool) (hR : decide (a.x = b.x) = R) : Calls Tryd.prog 66 #[aggL a, aggL b] w fun en w' => en = .returned (.bool R) ∧ Below w.heap.size w w' :=
  lsameA a b w (decide (a.x.give = b.x.give)) (decide (a.x.ds = b.x.ds)) (decide (a.x.ls = b.x.ls)) R (by rw [← hR]; exact ml_dec a.x b.x)
    (fun w' h => msame_any _ _ _ _ _ _ _ _ _ _ _ _ _ _ _ _ _ _ _ _ _ _ _ _ _ _ _ _ _ _ _ _ _ _ _ _ _ _ _ _ a.x.give b.x.give hsa.1 hsb.1 w' (ra.below h h.size).1 (rb.below h h.size).1 _ rfl)
    (fun w' h => (descsame_any a.D b.D a.x.ds.length b.x.ds.length a.dc b.dc _ _ a.x.ds b.x.ds (by have := hsa.2.1; omega) w' (ra.below h h.size).2.1 (rb.below h h.size).2.1 _ rfl).mono fun en w'' hh => ⟨hh.1, by obtain ⟨m, e⟩ := hh.2; rw [e]; exact below_drewN (Below.refl _ _) m⟩)
    (fun w' h => (lequal_any a.L b.L a.x.ls.length b.x.ls.length a.lc b.lc _ _ a.x.ls b.x.ls rfl rfl hsa.2.2 hsb.2.2 w' (ra.below h h.size).2.2 (rb.below h h.size).2.2).mono fun en w'' hh => ⟨by rw [hh.1], by obtain ⟨m, e⟩ := hh.2; rw [e]; exact below_drewN (Below.refl _ _) m⟩)
end Go.Proofs.YtdmjdpaehnhdoaaDoor
