/- Flight's Door: the reference's zero, Same and Great of any mail -/
import Derived.Test.YtdmjdpaehnhdoaaDoorGF
import Derived.Test.YtdmjdpaehnhdoaaDoorGE
import Derived.Test.YtdmjdpaehnhdoaaDoorKA
import Derived.Test.YtdmjdpaehnhdoaaDoorLKM
import Derived.Test.YtdmjdpaehnhdoaaDoorGAB
import Derived.BigQuiet
namespace Go.Proofs.YtdmjdpaehnhdoaaDoor
open Go.ChangeShapes Go.WideShapes Go.ChangeAt Go.RowKit
set_option linter.unusedSimpArgs false
set_option linter.unusedVariables false
set_option maxRecDepth 100000
set_option maxHeartbeats 4000000 in
theorem rzero_any (g : Bool) (X : Option Addr) (n c : Nat) (ze : Int) (d : Dy) (hd : d.ls.length ≤ 100000) (w : World) (B : Nat) (hr : RdD w B g X n c ze d) (hBw : B = w.heap.size) (R : Bool) (hR : decide (d = zd) = R) : Calls Tryd.prog 72 #[.agg #[.bool g, .slice X n c, .int .i64 ze]] w fun en w' => en = .returned (.bool R) ∧ Below w.heap.size w w' := by
  subst hBw
  have hs : ∀ w', Below w.heap.size w w' → Calls Tryd.prog 40 #[.agg #[.bool g, .slice X n c, .int .i64 ze], .agg #[.bool false, .slice none 0 0, .int .i64 0]] w' fun en w'' => en = .returned (.bool R) ∧ Below w'.heap.size w' w'' := fun w' hb => by
    obtain ⟨h1, h2, h3, h4, h5⟩ := hr
    exact rdsame_any g false X none n 0 c 0 ze 0 d.ls [] h3 rfl (by omega) (by decide) R (by rw [← hR]; obtain ⟨dn, dl, de⟩ := d; simp only at h1 h2; subst h1 h2; rfl) w' ((h5.below hb).more hb.size) Reads.none_
  obtain ⟨V, hV⟩ : ∃ V, V = (w.alloc (.cells #[.bool g, .slice X n c, .int .i64 ze] 25)) := ⟨_, rfl⟩
  have hB : Below w.heap.size w V := by rw [hV]; exact (Below.refl _ _).alloc (Nat.le_refl _) _
  have kb : Blk V w.heap.size 25 #[.bool g, .slice X n c, .int .i64 ze] := by rw [hV]; exact Blk.new w _ _
  go_enter Tryd.func72, Tryd.ntmps72
  go_upto_region 1 with (fail)
  rename_i Q0 K1 k1
  rw [← hV]
  clear hV
  refine wp_region_lit ?_
  refine wpList_abs2 6 1 2 (.pointer (some ⟨w.heap.size, 0, none⟩)) (.bool false) rfl rfl rfl rfl ?_
  intro a S
  refine qR kb [.bool g, .slice X n c, .int .i64 ze] (fun a S => ?_)
  refine sx0 S (.agg #[.bool false, .slice none 0 0, .int .i64 0]) (wantN rfl _) rfl (by decide) (fun _ => by go_simp; try rfl) ?_; intro a S
  refine qC2 (hs _ hB) (fun a w1 hb S => ?_); replace kb := kb.below hb kb.lt; replace hB := hB.trans (hb.mono hB.size); clear hb
  refine qAs (fun a S => ?_)
  refine wpList_nil ?_
  refine k1 _ _ ?_
  refine wp_ret ?_
  show Q0 .ret a _
  refine bodyPost_ret (v := .bool R) ?_ S.df ⟨rfl, hB⟩
  exact (results_tmp rfl _ _ _).trans (by rw [show a.tmps.getD 2 undef = _ from S.fx 2 _ rfl]; exact congrArg (fun x => Result.ok (Value.bool x) _) (rfl))
set_option maxHeartbeats 32000000 in
theorem rlsameA (a0 b0 : MO) (w : World) (qm qd ql R : Bool) (hR : (((((((((((a0.x.kd == b0.x.kd) && (a0.x.fr == b0.x.fr)) && (a0.x.tt == b0.x.tt)) && (a0.x.ep == b0.x.ep)) && (a0.x.nu == b0.x.nu)) && (a0.x.ab == b0.x.ab)) && qm) && (a0.x.wa == b0.x.wa)) && qd) && ((a0.x.eh == b0.x.eh) && ((a0.x.e1 == b0.x.e1) && (a0.x.e2 == b0.x.e2)))) && ql) = R) (hm : ∀ w', Below w.heap.size w w' → Calls Tryd.prog 15 #[.agg #[.bool a0.x.give.s.neg, .slice a0.X0 a0.x.give.s.ls.length a0.c0, .int .i64 a0.x.give.s.ex, .bool a0.x.give.w.neg, .slice a0.X1 a0.x.give.w.ls.length a0.c1, .int .i64 a0.x.give.w.ex, .bool a0.x.give.c.neg, .slice a0.X2 a0.x.give.c.ls.length a0.c2, .int .i64 a0.x.give.c.ex, .bool a0.x.give.a.neg, .slice a0.X3 a0.x.give.a.ls.length a0.c3, .int .i64 a0.x.give.a.ex], .agg #[.bool b0.x.give.s.neg, .slice b0.X0 b0.x.give.s.ls.length b0.c0, .int .i64 b0.x.give.s.ex, .bool b0.x.give.w.neg, .slice b0.X1 b0.x.give.w.ls.length b0.c1, .int .i64 b0.x.give.w.ex, .bool b0.x.give.c.neg, .slice b0.X2 b0.x.give.c.ls.length b0.c2, .int .i64 b0.x.give.c.ex, .bool b0.x.give.a.neg, .slice b0.X3 b0.x.give.a.ls.length b0.c3, .int .i64 b0.x.give.a.ex]] w' fun en w'' => en = .returned (.bool qm) ∧ Below w'.heap.size w' w'') (hd : ∀ w', Below w.heap.size w w' → Calls Tryd.prog 44 #[.slice a0.D a0.x.ds.length a0.dc, .slice b0.D b0.x.ds.length b0.dc] w' fun en w'' => en = .returned (.bool qd) ∧ Below w'.heap.size w' w'') (hl : ∀ w', Below w.heap.size w w' → Calls Tryd.prog 45 #[.slice a0.L a0.x.ls.length a0.lc, .slice b0.L b0.x.ls.length b0.lc] w' fun en w'' => en = .returned (.bool ql) ∧ Below w'.heap.size w' w'') : Calls Tryd.prog 19 #[aggL a0, aggL b0] w fun en w' => en = .returned (.bool R) ∧ Below w.heap.size w w' := by
  unfold aggL
  obtain ⟨V, hV⟩ : ∃ V, V = ((w.alloc (.cells #[.int .u8 a0.x.kd, .int .i64 a0.x.fr, .int .i64 a0.x.tt, .int .i64 a0.x.ep, .int .i64 a0.x.nu, .int .i64 a0.x.ab, .bool a0.x.give.s.neg, .slice a0.X0 a0.x.give.s.ls.length a0.c0, .int .i64 a0.x.give.s.ex, .bool a0.x.give.w.neg, .slice a0.X1 a0.x.give.w.ls.length a0.c1, .int .i64 a0.x.give.w.ex, .bool a0.x.give.c.neg, .slice a0.X2 a0.x.give.c.ls.length a0.c2, .int .i64 a0.x.give.c.ex, .bool a0.x.give.a.neg, .slice a0.X3 a0.x.give.a.ls.length a0.c3, .int .i64 a0.x.give.a.ex, .bool a0.x.wa, .slice a0.D a0.x.ds.length a0.dc, .bool a0.x.eh, .int .i64 a0.x.e1, .int .i64 a0.x.e2, .slice a0.L a0.x.ls.length a0.lc] 32)).alloc (.cells #[.int .u8 b0.x.kd, .int .i64 b0.x.fr, .int .i64 b0.x.tt, .int .i64 b0.x.ep, .int .i64 b0.x.nu, .int .i64 b0.x.ab, .bool b0.x.give.s.neg, .slice b0.X0 b0.x.give.s.ls.length b0.c0, .int .i64 b0.x.give.s.ex, .bool b0.x.give.w.neg, .slice b0.X1 b0.x.give.w.ls.length b0.c1, .int .i64 b0.x.give.w.ex, .bool b0.x.give.c.neg, .slice b0.X2 b0.x.give.c.ls.length b0.c2, .int .i64 b0.x.give.c.ex, .bool b0.x.give.a.neg, .slice b0.X3 b0.x.give.a.ls.length b0.c3, .int .i64 b0.x.give.a.ex, .bool b0.x.wa, .slice b0.D b0.x.ds.length b0.dc, .bool b0.x.eh, .int .i64 b0.x.e1, .int .i64 b0.x.e2, .slice b0.L b0.x.ls.length b0.lc] 32)) := ⟨_, rfl⟩
  have hB : Below w.heap.size w V := by rw [hV]; exact ((Below.refl _ _).alloc (Nat.le_refl _) _).alloc (by simp) _
  have kb : Blk V w.heap.size 32 #[.int .u8 a0.x.kd, .int .i64 a0.x.fr, .int .i64 a0.x.tt, .int .i64 a0.x.ep, .int .i64 a0.x.nu, .int .i64 a0.x.ab, .bool a0.x.give.s.neg, .slice a0.X0 a0.x.give.s.ls.length a0.c0, .int .i64 a0.x.give.s.ex, .bool a0.x.give.w.neg, .slice a0.X1 a0.x.give.w.ls.length a0.c1, .int .i64 a0.x.give.w.ex, .bool a0.x.give.c.neg, .slice a0.X2 a0.x.give.c.ls.length a0.c2, .int .i64 a0.x.give.c.ex, .bool a0.x.give.a.neg, .slice a0.X3 a0.x.give.a.ls.length a0.c3, .int .i64 a0.x.give.a.ex, .bool a0.x.wa, .slice a0.D a0.x.ds.length a0.dc, .bool a0.x.eh, .int .i64 a0.x.e1, .int .i64 a0.x.e2, .slice a0.L a0.x.ls.length a0.lc] := by rw [hV]; exact (Blk.new w _ _).alloc _
  have kc : Blk V (w.heap.size + 1) 32 #[.int .u8 b0.x.kd, .int .i64 b0.x.fr, .int .i64 b0.x.tt, .int .i64 b0.x.ep, .int .i64 b0.x.nu, .int .i64 b0.x.ab, .bool b0.x.give.s.neg, .slice b0.X0 b0.x.give.s.ls.length b0.c0, .int .i64 b0.x.give.s.ex, .bool b0.x.give.w.neg, .slice b0.X1 b0.x.give.w.ls.length b0.c1, .int .i64 b0.x.give.w.ex, .bool b0.x.give.c.neg, .slice b0.X2 b0.x.give.c.ls.length b0.c2, .int .i64 b0.x.give.c.ex, .bool b0.x.give.a.neg, .slice b0.X3 b0.x.give.a.ls.length b0.c3, .int .i64 b0.x.give.a.ex, .bool b0.x.wa, .slice b0.D b0.x.ds.length b0.dc, .bool b0.x.eh, .int .i64 b0.x.e1, .int .i64 b0.x.e2, .slice b0.L b0.x.ls.length b0.lc] := by rw [hV]; simpa using Blk.new (w.alloc (.cells #[.int .u8 a0.x.kd, .int .i64 a0.x.fr, .int .i64 a0.x.tt, .int .i64 a0.x.ep, .int .i64 a0.x.nu, .int .i64 a0.x.ab, .bool a0.x.give.s.neg, .slice a0.X0 a0.x.give.s.ls.length a0.c0, .int .i64 a0.x.give.s.ex, .bool a0.x.give.w.neg, .slice a0.X1 a0.x.give.w.ls.length a0.c1, .int .i64 a0.x.give.w.ex, .bool a0.x.give.c.neg, .slice a0.X2 a0.x.give.c.ls.length a0.c2, .int .i64 a0.x.give.c.ex, .bool a0.x.give.a.neg, .slice a0.X3 a0.x.give.a.ls.length a0.c3, .int .i64 a0.x.give.a.ex, .bool a0.x.wa, .slice a0.D a0.x.ds.length a0.dc, .bool a0.x.eh, .int .i64 a0.x.e1, .int .i64 a0.x.e2, .slice a0.L a0.x.ls.length a0.lc] 32)) 32 #[.int .u8 b0.x.kd, .int .i64 b0.x.fr, .int .i64 b0.x.tt, .int .i64 b0.x.ep, .int .i64 b0.x.nu, .int .i64 b0.x.ab, .bool b0.x.give.s.neg, .slice b0.X0 b0.x.give.s.ls.length b0.c0, .int .i64 b0.x.give.s.ex, .bool b0.x.give.w.neg, .slice b0.X1 b0.x.give.w.ls.length b0.c1, .int .i64 b0.x.give.w.ex, .bool b0.x.give.c.neg, .slice b0.X2 b0.x.give.c.ls.length b0.c2, .int .i64 b0.x.give.c.ex, .bool b0.x.give.a.neg, .slice b0.X3 b0.x.give.a.ls.length b0.c3, .int .i64 b0.x.give.a.ex, .bool b0.x.wa, .slice b0.D b0.x.ds.length b0.dc, .bool b0.x.eh, .int .i64 b0.x.e1, .int .i64 b0.x.e2, .slice b0.L b0.x.ls.length b0.lc]
  go_enter Tryd.func19, Tryd.ntmps19
  go_upto_region 1 with (fail)
  rename_i Q0 K1 k1
  rw [← hV]
  clear hV
  refine wp_region_lit ?_
  refine wpList_abs2 80 2 3 (.pointer (some ⟨w.heap.size, 0, none⟩)) (.pointer (some ⟨w.heap.size + 1, 0, none⟩)) rfl rfl rfl rfl ?_
  intro a S
  refine qF (fun a S => ?_); refine qL kb (fun a S => ?_); refine qF (fun a S => ?_); refine qL kc (fun a S => ?_); refine qEqI (fun a S => ?_); refine qMv (fun a S => ?_); refine qF (fun a S => ?_); refine qL kb (fun a S => ?_); refine qF (fun a S => ?_); refine qL kc (fun a S => ?_); refine qEqI (fun a S => ?_); refine qAnd (fun a S => ?_); refine qMv (fun a S => ?_); refine qF (fun a S => ?_); refine qL kb (fun a S => ?_); refine qF (fun a S => ?_); refine qL kc (fun a S => ?_); refine qEqI (fun a S => ?_); refine qAnd (fun a S => ?_); refine qMv (fun a S => ?_); refine qF (fun a S => ?_); refine qL kb (fun a S => ?_); refine qF (fun a S => ?_); refine qL kc (fun a S => ?_); refine qEqI (fun a S => ?_); refine qAnd (fun a S => ?_); refine qMv (fun a S => ?_); refine qF (fun a S => ?_); refine qL kb (fun a S => ?_); refine qF (fun a S => ?_); refine qL kc (fun a S => ?_); refine qEqI (fun a S => ?_); refine qAnd (fun a S => ?_); refine qMv (fun a S => ?_); refine qF (fun a S => ?_); refine qL kb (fun a S => ?_); refine qF (fun a S => ?_); refine qL kc (fun a S => ?_); refine qEqI (fun a S => ?_); refine qAnd (fun a S => ?_); refine qMv (fun a S => ?_); refine qF (fun a S => ?_)
  refine qR kb [.bool a0.x.give.s.neg, .slice a0.X0 a0.x.give.s.ls.length a0.c0, .int .i64 a0.x.give.s.ex, .bool a0.x.give.w.neg, .slice a0.X1 a0.x.give.w.ls.length a0.c1, .int .i64 a0.x.give.w.ex, .bool a0.x.give.c.neg, .slice a0.X2 a0.x.give.c.ls.length a0.c2, .int .i64 a0.x.give.c.ex, .bool a0.x.give.a.neg, .slice a0.X3 a0.x.give.a.ls.length a0.c3, .int .i64 a0.x.give.a.ex] (fun a S => ?_)
  refine qF (fun a S => ?_)
  refine qR kc [.bool b0.x.give.s.neg, .slice b0.X0 b0.x.give.s.ls.length b0.c0, .int .i64 b0.x.give.s.ex, .bool b0.x.give.w.neg, .slice b0.X1 b0.x.give.w.ls.length b0.c1, .int .i64 b0.x.give.w.ex, .bool b0.x.give.c.neg, .slice b0.X2 b0.x.give.c.ls.length b0.c2, .int .i64 b0.x.give.c.ex, .bool b0.x.give.a.neg, .slice b0.X3 b0.x.give.a.ls.length b0.c3, .int .i64 b0.x.give.a.ex] (fun a S => ?_)
  refine qC2 (hm _ hB) (fun a w1 hb S => ?_); replace kb := kb.below hb kb.lt; replace kc := kc.below hb kc.lt; replace hB := hB.trans (hb.mono hB.size); clear hb
  refine qAnd (fun a S => ?_); refine qMv (fun a S => ?_); refine qF (fun a S => ?_); refine qL kb (fun a S => ?_); refine qF (fun a S => ?_); refine qL kc (fun a S => ?_); refine qEqB (fun a S => ?_); refine qAnd (fun a S => ?_); refine qMv (fun a S => ?_); refine qF (fun a S => ?_); refine qL kb (fun a S => ?_); refine qF (fun a S => ?_); refine qL kc (fun a S => ?_)
  refine qC2 (hd _ hB) (fun a w1 hb S => ?_); replace kb := kb.below hb kb.lt; replace kc := kc.below hb kc.lt; replace hB := hB.trans (hb.mono hB.size); clear hb
  refine qAnd (fun a S => ?_); refine qMv (fun a S => ?_); refine qF (fun a S => ?_)
  refine qR kb [.bool a0.x.eh, .int .i64 a0.x.e1, .int .i64 a0.x.e2] (fun a S => ?_)
  refine qF (fun a S => ?_)
  refine qR kc [.bool b0.x.eh, .int .i64 b0.x.e1, .int .i64 b0.x.e2] (fun a S => ?_)
  refine sx2 68 70 S (.bool ((a0.x.eh == b0.x.eh) && ((a0.x.e1 == b0.x.e1) && (a0.x.e2 == b0.x.e2)))) (wG S rfl rfl (by decide) rfl) rfl rfl id id (fun ev ec e e2 => by go_simp; by_cases x1 : a0.x.eh = b0.x.eh <;> by_cases x2 : a0.x.e1 = b0.x.e1 <;> by_cases x3 : a0.x.e2 = b0.x.e2 <;> simp [x1, x2, x3]) ?_; intro a S
  refine qAnd (fun a S => ?_); refine qMv (fun a S => ?_); refine qF (fun a S => ?_); refine qL kb (fun a S => ?_); refine qF (fun a S => ?_); refine qL kc (fun a S => ?_)
  refine qC2 (hl _ hB) (fun a w1 hb S => ?_); replace kb := kb.below hb kb.lt; replace kc := kc.below hb kc.lt; replace hB := hB.trans (hb.mono hB.size); clear hb
  refine qAnd (fun a S => ?_); refine qAs (fun a S => ?_)
  refine wpList_nil ?_
  refine k1 _ _ ?_
  refine wp_ret ?_
  show Q0 .ret a _
  refine bodyPost_ret (v := .bool R) ?_ S.df ⟨rfl, hB⟩
  exact (results_tmp rfl _ _ _).trans (by rw [show a.tmps.getD 4 undef = _ from S.fx 4 _ rfl]; exact congrArg (fun x => Result.ok (Value.bool x) _) (hR))
/-- Is a mail more than statements go through? -/
def grL (o : MO) (q : Bool) : Bool := ((q || (decide (70 < (o.x.ds.length:Int)))) || (decide (70 < (o.x.ls.length:Int))))
set_option maxHeartbeats 16000000 in
theorem rlgreat_any (o : MO) (q : Bool) (w : World) (hg : ∀ w', Below w.heap.size w w' → Calls Tryd.prog 30 #[.agg #[.bool o.x.give.s.neg, .slice o.X0 o.x.give.s.ls.length o.c0, .int .i64 o.x.give.s.ex, .bool o.x.give.w.neg, .slice o.X1 o.x.give.w.ls.length o.c1, .int .i64 o.x.give.w.ex, .bool o.x.give.c.neg, .slice o.X2 o.x.give.c.ls.length o.c2, .int .i64 o.x.give.c.ex, .bool o.x.give.a.neg, .slice o.X3 o.x.give.a.ls.length o.c3, .int .i64 o.x.give.a.ex]] w' fun en w'' => en = .returned (.bool q) ∧ Below w'.heap.size w' w'') (R : Bool) (hR : grL o q = R) : Calls Tryd.prog 7 #[aggL o] w fun en w' => en = .returned (.bool R) ∧ Below w.heap.size w w' := by
  unfold grL at hR
  unfold aggL
  obtain ⟨V, hV⟩ : ∃ V, V = (w.alloc (.cells #[.int .u8 o.x.kd, .int .i64 o.x.fr, .int .i64 o.x.tt, .int .i64 o.x.ep, .int .i64 o.x.nu, .int .i64 o.x.ab, .bool o.x.give.s.neg, .slice o.X0 o.x.give.s.ls.length o.c0, .int .i64 o.x.give.s.ex, .bool o.x.give.w.neg, .slice o.X1 o.x.give.w.ls.length o.c1, .int .i64 o.x.give.w.ex, .bool o.x.give.c.neg, .slice o.X2 o.x.give.c.ls.length o.c2, .int .i64 o.x.give.c.ex, .bool o.x.give.a.neg, .slice o.X3 o.x.give.a.ls.length o.c3, .int .i64 o.x.give.a.ex, .bool o.x.wa, .slice o.D o.x.ds.length o.dc, .bool o.x.eh, .int .i64 o.x.e1, .int .i64 o.x.e2, .slice o.L o.x.ls.length o.lc] 32)) := ⟨_, rfl⟩
  have hB : Below w.heap.size w V := by rw [hV]; exact (Below.refl _ _).alloc (Nat.le_refl _) _
  have kb : Blk V w.heap.size 32 #[.int .u8 o.x.kd, .int .i64 o.x.fr, .int .i64 o.x.tt, .int .i64 o.x.ep, .int .i64 o.x.nu, .int .i64 o.x.ab, .bool o.x.give.s.neg, .slice o.X0 o.x.give.s.ls.length o.c0, .int .i64 o.x.give.s.ex, .bool o.x.give.w.neg, .slice o.X1 o.x.give.w.ls.length o.c1, .int .i64 o.x.give.w.ex, .bool o.x.give.c.neg, .slice o.X2 o.x.give.c.ls.length o.c2, .int .i64 o.x.give.c.ex, .bool o.x.give.a.neg, .slice o.X3 o.x.give.a.ls.length o.c3, .int .i64 o.x.give.a.ex, .bool o.x.wa, .slice o.D o.x.ds.length o.dc, .bool o.x.eh, .int .i64 o.x.e1, .int .i64 o.x.e2, .slice o.L o.x.ls.length o.lc] := by rw [hV]; exact Blk.new w _ _
  go_enter Tryd.func7, Tryd.ntmps7
  go_upto_region 1 with (fail)
  rename_i Q0 K1 k1
  rw [← hV]
  clear hV
  refine wp_region_lit ?_
  refine wpList_abs2 18 1 2 (.pointer (some ⟨w.heap.size, 0, none⟩)) (.bool false) rfl rfl rfl rfl ?_
  intro a S
  refine qF (fun a S => ?_)
  refine qR kb [.bool o.x.give.s.neg, .slice o.X0 o.x.give.s.ls.length o.c0, .int .i64 o.x.give.s.ex, .bool o.x.give.w.neg, .slice o.X1 o.x.give.w.ls.length o.c1, .int .i64 o.x.give.w.ex, .bool o.x.give.c.neg, .slice o.X2 o.x.give.c.ls.length o.c2, .int .i64 o.x.give.c.ex, .bool o.x.give.a.neg, .slice o.X3 o.x.give.a.ls.length o.c3, .int .i64 o.x.give.a.ex] (fun a S => ?_)
  refine qC (hg _ hB) (fun a w1 hb S => ?_); replace kb := kb.below hb kb.lt; replace hB := hB.trans (hb.mono hB.size); clear hb
  refine qMv (fun a S => ?_); refine qF (fun a S => ?_); refine qL kb (fun a S => ?_); refine qLen (fun a S => ?_); refine qGtr (fun a S => ?_); refine qOr (fun a S => ?_); refine qMv (fun a S => ?_); refine qF (fun a S => ?_); refine qL kb (fun a S => ?_); refine qLen (fun a S => ?_); refine qGtr (fun a S => ?_); refine qOr (fun a S => ?_); refine qAs (fun a S => ?_)
  refine wpList_nil ?_
  refine k1 _ _ ?_
  refine wp_ret ?_
  show Q0 .ret a _
  refine bodyPost_ret (v := .bool R) ?_ S.df ⟨rfl, hB⟩
  exact (results_tmp rfl _ _ _).trans (by rw [show a.tmps.getD 2 undef = _ from S.fx 2 _ rfl]; exact congrArg (fun x => Result.ok (Value.bool x) _) (hR))
end Go.Proofs.YtdmjdpaehnhdoaaDoor
