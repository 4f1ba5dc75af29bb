/- Flight's Door: the reference's May of any mail -/
import Derived.Test.YtdmjdpaehnhdoaaDoorGF
import Derived.Test.YtdmjdpaehnhdoaaDoorKA
import Derived.Test.YtdmjdpaehnhdoaaDoorLKM
import Derived.Test.YtdmjdpaehnhdoaaDoorGKJ
import Derived.Test.YtdmjdpaehnhdoaaDoorGAB
import Derived.BigQuiet
namespace Go.Proofs.YtdmjdpaehnhdoaaDoor
open Go.ChangeShapes Go.WideShapes Go.ChangeAt Go.RowKit
set_option linter.unusedSimpArgs false
set_option linter.unusedVariables false
set_option maxRecDepth 100000
set_option maxHeartbeats 32000000 in
theorem rmayA (o : MO) (w : World) (Qm Qe Ql Z0 Z1 Z2 Z3 R : Bool) (Ed : Int) (hR : (!(((((((((((((((((decide (o.x.kd < 1)) || (decide (6 < o.x.kd))) || (decide (o.x.fr < 0))) || (decide (8 ≤ o.x.fr))) || (decide (o.x.tt < 0))) || (decide (8 ≤ o.x.tt))) || (decide (o.x.ep < 0))) || (decide (65535 < o.x.ep))) || (decide (o.x.nu < 0))) || (decide (1048575 < o.x.nu))) || (decide (o.x.ab < 0))) || (decide (1048575 < o.x.ab))) || (((o.x.kd != 3) && (o.x.kd != 4)) && (o.x.ab != 0))) || (!Qm)) || (Ed != 0)) || (!Qe)) || (!Ql)) && (!(((o.x.kd != 1) && ((!Z0) || (!Z1))) || (((o.x.kd != 2) && (o.x.kd != 3)) && ((!Z2) || (!Z3)))) && (((o.x.kd == 5) || ((!o.x.wa) && ((o.x.ds.length:Int) == 0))) && ((o.x.kd == 6) || ((!o.x.eh) && ((o.x.ls.length:Int) == 0)))))) = R) (hz0 : ∀ w', Below w.heap.size w w' → Calls Tryd.prog 72 #[.agg #[.bool o.x.give.s.neg, .slice o.X0 o.x.give.s.ls.length o.c0, .int .i64 o.x.give.s.ex]] w' fun en w'' => en = .returned (.bool Z0) ∧ Below w'.heap.size w' w'') (hz1 : ∀ w', Below w.heap.size w w' → Calls Tryd.prog 72 #[.agg #[.bool o.x.give.w.neg, .slice o.X1 o.x.give.w.ls.length o.c1, .int .i64 o.x.give.w.ex]] w' fun en w'' => en = .returned (.bool Z1) ∧ Below w'.heap.size w' w'') (hz2 : ∀ w', Below w.heap.size w w' → Calls Tryd.prog 72 #[.agg #[.bool o.x.give.c.neg, .slice o.X2 o.x.give.c.ls.length o.c2, .int .i64 o.x.give.c.ex]] w' fun en w'' => en = .returned (.bool Z2) ∧ Below w'.heap.size w' w'') (hz3 : ∀ w', Below w.heap.size w w' → Calls Tryd.prog 72 #[.agg #[.bool o.x.give.a.neg, .slice o.X3 o.x.give.a.ls.length o.c3, .int .i64 o.x.give.a.ex]] w' fun en w'' => en = .returned (.bool Z3) ∧ Below w'.heap.size w' w'') (hm : ∀ w', Below w.heap.size w w' → Calls Tryd.prog 60 #[.agg #[.bool o.x.give.s.neg, .slice o.X0 o.x.give.s.ls.length o.c0, .int .i64 o.x.give.s.ex, .bool o.x.give.w.neg, .slice o.X1 o.x.give.w.ls.length o.c1, .int .i64 o.x.give.w.ex, .bool o.x.give.c.neg, .slice o.X2 o.x.give.c.ls.length o.c2, .int .i64 o.x.give.c.ex, .bool o.x.give.a.neg, .slice o.X3 o.x.give.a.ls.length o.c3, .int .i64 o.x.give.a.ex]] w' fun en w'' => en = .returned (.bool Qm) ∧ Below w'.heap.size w' w'') (hee : ∀ w', Below w.heap.size w w' → Calls Tryd.prog 70 #[.agg #[.bool o.x.eh, .int .i64 o.x.e1, .int .i64 o.x.e2]] w' fun en w'' => en = .returned (.bool Qe) ∧ Below w'.heap.size w' w'') (hl : ∀ w', Below w.heap.size w w' → Calls Tryd.prog 71 #[.slice o.L o.x.ls.length o.lc] w' fun en w'' => en = .returned (.bool Ql) ∧ Below w'.heap.size w' w'') (hdc : ∀ w', Below w.heap.size w w' → Calls Tryd.prog 69 #[.slice o.D o.x.ds.length o.dc] w' fun en w'' => en = .returned (.int .i64 Ed) ∧ Below w'.heap.size w' w'') : Calls Tryd.prog 37 #[aggL o] w fun en w' => en = .returned (.bool R) ∧ Below w.heap.size w w' := by
  unfold aggL
  obtain ⟨V, hV⟩ : ∃ V, V = w.alloc (.cells #[.int .u8 o.x.kd, .int .i64 o.x.fr, .int .i64 o.x.tt, .int .i64 o.x.ep, .int .i64 o.x.nu, .int .i64 o.x.ab, .bool o.x.give.s.neg, .slice o.X0 o.x.give.s.ls.length o.c0, .int .i64 o.x.give.s.ex, .bool o.x.give.w.neg, .slice o.X1 o.x.give.w.ls.length o.c1, .int .i64 o.x.give.w.ex, .bool o.x.give.c.neg, .slice o.X2 o.x.give.c.ls.length o.c2, .int .i64 o.x.give.c.ex, .bool o.x.give.a.neg, .slice o.X3 o.x.give.a.ls.length o.c3, .int .i64 o.x.give.a.ex, .bool o.x.wa, .slice o.D o.x.ds.length o.dc, .bool o.x.eh, .int .i64 o.x.e1, .int .i64 o.x.e2, .slice o.L o.x.ls.length o.lc] 32) := ⟨_, rfl⟩
  have hB : Below w.heap.size w V := by rw [hV]; exact (Below.refl _ _).alloc (Nat.le_refl _) _
  have kb : Blk V w.heap.size 32 #[.int .u8 o.x.kd, .int .i64 o.x.fr, .int .i64 o.x.tt, .int .i64 o.x.ep, .int .i64 o.x.nu, .int .i64 o.x.ab, .bool o.x.give.s.neg, .slice o.X0 o.x.give.s.ls.length o.c0, .int .i64 o.x.give.s.ex, .bool o.x.give.w.neg, .slice o.X1 o.x.give.w.ls.length o.c1, .int .i64 o.x.give.w.ex, .bool o.x.give.c.neg, .slice o.X2 o.x.give.c.ls.length o.c2, .int .i64 o.x.give.c.ex, .bool o.x.give.a.neg, .slice o.X3 o.x.give.a.ls.length o.c3, .int .i64 o.x.give.a.ex, .bool o.x.wa, .slice o.D o.x.ds.length o.dc, .bool o.x.eh, .int .i64 o.x.e1, .int .i64 o.x.e2, .slice o.L o.x.ls.length o.lc] := by rw [hV]; exact Blk.new w _ _
  go_enter Tryd.func37, Tryd.ntmps37
  go_upto_region 1 with (fail)
  rename_i Q0 K1 k1 K2 k2
  rw [← hV]
  clear hV
  refine wp_region_lit ?_
  refine wpList_sx (l := [(1, gv true (.pointer (some ⟨w.heap.size, 0, none⟩)))]) 172 rfl rfl (allC rfl allN) ?_
  intro a S
  refine qF (fun a S => ?_); refine qL kb (fun a S => ?_); refine qLss (fun a S => ?_); refine qMv (fun a S => ?_); refine qF (fun a S => ?_); refine qL kb (fun a S => ?_); refine qGtr (fun a S => ?_); refine qOr (fun a S => ?_); refine qMv (fun a S => ?_); refine qF (fun a S => ?_); refine qL kb (fun a S => ?_); refine qLss (fun a S => ?_); refine qOr (fun a S => ?_); refine qMv (fun a S => ?_); refine qF (fun a S => ?_); refine qL kb (fun a S => ?_); refine qGeq (fun a S => ?_); refine qOr (fun a S => ?_); refine qMv (fun a S => ?_); refine qF (fun a S => ?_); refine qL kb (fun a S => ?_); refine qLss (fun a S => ?_); refine qOr (fun a S => ?_); refine qMv (fun a S => ?_); refine qF (fun a S => ?_); refine qL kb (fun a S => ?_); refine qGeq (fun a S => ?_); refine qOr (fun a S => ?_); refine qMv (fun a S => ?_); refine qF (fun a S => ?_); refine qL kb (fun a S => ?_); refine qLss (fun a S => ?_); refine qOr (fun a S => ?_); refine qMv (fun a S => ?_); refine qF (fun a S => ?_); refine qL kb (fun a S => ?_); refine qGtr (fun a S => ?_); refine qOr (fun a S => ?_); refine qMv (fun a S => ?_); refine qF (fun a S => ?_); refine qL kb (fun a S => ?_); refine qLss (fun a S => ?_); refine qOr (fun a S => ?_); refine qMv (fun a S => ?_); refine qF (fun a S => ?_); refine qL kb (fun a S => ?_); refine qGtr (fun a S => ?_); refine qOr (fun a S => ?_); refine qMv (fun a S => ?_); refine qF (fun a S => ?_); refine qL kb (fun a S => ?_); refine qLss (fun a S => ?_); refine qOr (fun a S => ?_); refine qMv (fun a S => ?_); refine qF (fun a S => ?_); refine qL kb (fun a S => ?_); refine qGtr (fun a S => ?_); refine qOr (fun a S => ?_); refine qMv (fun a S => ?_); refine qF (fun a S => ?_); refine qL kb (fun a S => ?_); refine qNeq (fun a S => ?_); refine qMv (fun a S => ?_); refine qF (fun a S => ?_); refine qL kb (fun a S => ?_); refine qNeq (fun a S => ?_); refine qAnd (fun a S => ?_); refine qMv (fun a S => ?_); refine qF (fun a S => ?_); refine qL kb (fun a S => ?_); refine qNeq (fun a S => ?_); refine qAnd (fun a S => ?_); refine qOr (fun a S => ?_); refine qMv (fun a S => ?_); refine qF (fun a S => ?_)
  refine qR kb [.bool o.x.give.s.neg, .slice o.X0 o.x.give.s.ls.length o.c0, .int .i64 o.x.give.s.ex, .bool o.x.give.w.neg, .slice o.X1 o.x.give.w.ls.length o.c1, .int .i64 o.x.give.w.ex, .bool o.x.give.c.neg, .slice o.X2 o.x.give.c.ls.length o.c2, .int .i64 o.x.give.c.ex, .bool o.x.give.a.neg, .slice o.X3 o.x.give.a.ls.length o.c3, .int .i64 o.x.give.a.ex] (fun a S => ?_)
  refine qC (hm _ hB) (fun a w1 hb S => ?_); replace kb := kb.below hb kb.lt; replace hB := hB.trans (hb.mono hB.size); clear hb
  refine qNot (fun a S => ?_); refine qOr (fun a S => ?_); refine qMv (fun a S => ?_); refine qF (fun a S => ?_); refine qL kb (fun a S => ?_)
  refine qC (hdc _ hB) (fun a w1 hb S => ?_); replace kb := kb.below hb kb.lt; replace hB := hB.trans (hb.mono hB.size); clear hb
  refine qNeq (fun a S => ?_); refine qOr (fun a S => ?_); refine qMv (fun a S => ?_); refine qF (fun a S => ?_)
  refine qR kb [.bool o.x.eh, .int .i64 o.x.e1, .int .i64 o.x.e2] (fun a S => ?_)
  refine qC (hee _ hB) (fun a w1 hb S => ?_); replace kb := kb.below hb kb.lt; replace hB := hB.trans (hb.mono hB.size); clear hb
  refine qNot (fun a S => ?_); refine qOr (fun a S => ?_); refine qMv (fun a S => ?_); refine qF (fun a S => ?_); refine qL kb (fun a S => ?_)
  refine qC (hl _ hB) (fun a w1 hb S => ?_); replace kb := kb.below hb kb.lt; replace hB := hB.trans (hb.mono hB.size); clear hb
  refine qNot (fun a S => ?_); refine qOr (fun a S => ?_)
  obtain ⟨X5, hX5⟩ : ∃ X5 : Bool, (((((((((((((((((decide (o.x.kd < 1)) || (decide (6 < o.x.kd))) || (decide (o.x.fr < 0))) || (decide (8 ≤ o.x.fr))) || (decide (o.x.tt < 0))) || (decide (8 ≤ o.x.tt))) || (decide (o.x.ep < 0))) || (decide (65535 < o.x.ep))) || (decide (o.x.nu < 0))) || (decide (1048575 < o.x.nu))) || (decide (o.x.ab < 0))) || (decide (1048575 < o.x.ab))) || (((o.x.kd != 3) && (o.x.kd != 4)) && (o.x.ab != 0))) || (!Qm)) || (Ed != 0)) || (!Qe)) || (!Ql)) = X5 := ⟨_, rfl⟩
  rw [hX5] at hR S
  clear hX5
  refine wpList_nil ?_
  refine k2 _ _ ?_
  refine wp_cond_split (S.fx _ _ rfl) (fun ht => ?_) (fun hf => ?_)
  · refine wp_seq (wp_region_list ?_)
    refine sx0 S (.bool false) (wantN rfl _) rfl (by decide) (fun _ => by go_simp; try rfl) ?_
    intro a S
    refine wpList_nil ?_
    show Code.wp _ _ _ _ _
    refine wp_ret ?_
    show Q0 .ret a _
    refine bodyPost_ret (v := .bool R) ?_ S.df ⟨rfl, hB⟩
    exact (results_tmp rfl _ _ _).trans (by rw [show a.tmps.getD 2 undef = _ from S.fx 2 _ rfl]; exact congrArg (fun x => Result.ok (Value.bool x) _) (by rw [← hR, ht]; rfl))
  rw [hf] at hR
  replace S : Sx a 172 [(1, gv true (.pointer (some ⟨w.heap.size, 0, none⟩)))] := S.sub (allC rfl allN)
  clear hf
  refine wp_skip ?_
  refine k1 _ _ ?_
  refine wp_seq (wp_seq (wp_region_lit ?_))
  refine qF (fun a S => ?_); refine qL kb (fun a S => ?_); refine qNeq (fun a S => ?_); refine qMv (fun a S => ?_); refine qF (fun a S => ?_); refine qF (fun a S => ?_)
  refine qR kb [.bool o.x.give.s.neg, .slice o.X0 o.x.give.s.ls.length o.c0, .int .i64 o.x.give.s.ex] (fun a S => ?_)
  refine qC (hz0 _ hB) (fun a w1 hb S => ?_); replace kb := kb.below hb kb.lt; replace hB := hB.trans (hb.mono hB.size); clear hb
  refine qNot (fun a S => ?_); refine qMv (fun a S => ?_); refine qF (fun a S => ?_); refine qF (fun a S => ?_)
  refine qR kb [.bool o.x.give.w.neg, .slice o.X1 o.x.give.w.ls.length o.c1, .int .i64 o.x.give.w.ex] (fun a S => ?_)
  refine qC (hz1 _ hB) (fun a w1 hb S => ?_); replace kb := kb.below hb kb.lt; replace hB := hB.trans (hb.mono hB.size); clear hb
  refine qNot (fun a S => ?_); refine qOr (fun a S => ?_); refine qAnd (fun a S => ?_); refine qMv (fun a S => ?_); refine qF (fun a S => ?_); refine qL kb (fun a S => ?_); refine qNeq (fun a S => ?_); refine qMv (fun a S => ?_); refine qF (fun a S => ?_); refine qL kb (fun a S => ?_); refine qNeq (fun a S => ?_); refine qAnd (fun a S => ?_); refine qMv (fun a S => ?_); refine qF (fun a S => ?_); refine qF (fun a S => ?_)
  refine qR kb [.bool o.x.give.c.neg, .slice o.X2 o.x.give.c.ls.length o.c2, .int .i64 o.x.give.c.ex] (fun a S => ?_)
  refine qC (hz2 _ hB) (fun a w1 hb S => ?_); replace kb := kb.below hb kb.lt; replace hB := hB.trans (hb.mono hB.size); clear hb
  refine qNot (fun a S => ?_); refine qMv (fun a S => ?_); refine qF (fun a S => ?_); refine qF (fun a S => ?_)
  refine qR kb [.bool o.x.give.a.neg, .slice o.X3 o.x.give.a.ls.length o.c3, .int .i64 o.x.give.a.ex] (fun a S => ?_)
  refine qC (hz3 _ hB) (fun a w1 hb S => ?_); replace kb := kb.below hb kb.lt; replace hB := hB.trans (hb.mono hB.size); clear hb
  refine qNot (fun a S => ?_); refine qOr (fun a S => ?_); refine qAnd (fun a S => ?_); refine qOr (fun a S => ?_)
  obtain ⟨X6, hX6⟩ : ∃ X6 : Bool, (((o.x.kd != 1) && ((!Z0) || (!Z1))) || (((o.x.kd != 2) && (o.x.kd != 3)) && ((!Z2) || (!Z3)))) = X6 := ⟨_, rfl⟩
  rw [hX6] at hR S
  clear hX6
  refine wpList_nil ?_
  show Code.wp _ _ _ _ _
  refine wp_cond_split (S.fx _ _ rfl) (fun ht => ?_) (fun hf2 => ?_)
  · refine wp_seq (wp_region_list ?_)
    refine sx0 S (.bool false) (wantN rfl _) rfl (by decide) (fun _ => by go_simp; try rfl) ?_
    intro a S
    refine wpList_nil ?_
    show Code.wp _ _ _ _ _
    refine wp_ret ?_
    show Q0 .ret a _
    refine bodyPost_ret (v := .bool R) ?_ S.df ⟨rfl, hB⟩
    exact (results_tmp rfl _ _ _).trans (by rw [show a.tmps.getD 2 undef = _ from S.fx 2 _ rfl]; exact congrArg (fun x => Result.ok (Value.bool x) _) (by rw [← hR, ht]; rfl))
  rw [hf2] at hR
  replace S : Sx a 172 [(1, gv true (.pointer (some ⟨w.heap.size, 0, none⟩)))] := S.sub (allC rfl allN)
  clear hf2
  refine wp_skip ?_
  show Code.wp _ _ _ _ _
  refine wp_seq (wp_region_lit ?_)
  refine qF (fun a S => ?_); refine qL kb (fun a S => ?_); refine qEql (fun a S => ?_); refine qMv (fun a S => ?_); refine qF (fun a S => ?_); refine qL kb (fun a S => ?_); refine qNot (fun a S => ?_); refine qMv (fun a S => ?_); refine qF (fun a S => ?_); refine qL kb (fun a S => ?_); refine qLen (fun a S => ?_); refine qEql (fun a S => ?_); refine qAnd (fun a S => ?_); refine qOr (fun a S => ?_); refine qMv (fun a S => ?_); refine qF (fun a S => ?_); refine qL kb (fun a S => ?_); refine qEql (fun a S => ?_); refine qMv (fun a S => ?_); refine qF (fun a S => ?_); refine qF (fun a S => ?_); refine qL kb (fun a S => ?_); refine qNot (fun a S => ?_); refine qMv (fun a S => ?_); refine qF (fun a S => ?_); refine qL kb (fun a S => ?_); refine qLen (fun a S => ?_); refine qEql (fun a S => ?_); refine qAnd (fun a S => ?_); refine qOr (fun a S => ?_); refine qAnd (fun a S => ?_); refine qAs (fun a S => ?_)
  refine wpList_nil ?_
  show Code.wp _ _ _ _ _
  refine wp_ret ?_
  show Q0 .ret a _
  refine bodyPost_ret (v := .bool R) ?_ S.df ⟨rfl, hB⟩
  exact (results_tmp rfl _ _ _).trans (by rw [show a.tmps.getD 2 undef = _ from S.fx 2 _ rfl]; exact congrArg (fun x => Result.ok (Value.bool x) _) (hR))
end Go.Proofs.YtdmjdpaehnhdoaaDoor
