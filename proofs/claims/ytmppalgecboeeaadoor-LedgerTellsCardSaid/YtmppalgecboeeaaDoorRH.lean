/- Door: the reference's Sum, Of, Booked, Book -/
import Derived.Test.YtmppalgecboeeaaDoorRG
import Derived.Test.YtmppalgecboeeaaDoorEG
import Derived.Test.YtmppalgecboeeaaDoorLC
import Derived.Deep.CutRange
namespace Go.Proofs.YtmppalgecboeeaaDoor
open Go.ChangeShapes Go.WideShapes Go.ChangeAt Go.RowKit
set_option linter.unusedSimpArgs false
set_option linter.unusedVariables false
open Go.Shelf
set_option maxRecDepth 100000
set_option maxHeartbeats 16000000 in
theorem rsumS_any (A : Option Addr) (n c : Nat) (l : List En) (hm : n ≤ 8300) (w : World) (h1 : Ens w w.heap.size A n l) (hl : ∀ x ∈ l, ltM4 x.give) (N : Int) : Calls Tryd.prog 14 #[.slice A n c, .int .i64 N] w (RsumP (askL l N 1) (sumE l N) w) := by
  obtain ⟨V, hV⟩ : ∃ V, V = w.alloc (.cells #[.bool false, .slice none 0 0, .int .i64 0, .bool false, .slice none 0 0, .int .i64 0, .bool false, .slice none 0 0, .int .i64 0, .bool false, .slice none 0 0, .int .i64 0] 27) := ⟨_, rfl⟩
  have hB : Below w.heap.size w V := by rw [hV]; exact (Below.refl _ w).alloc (Nat.le_refl _) _
  have kr : Hid (Blk V w.heap.size 27 #[.bool false, .slice none 0 0, .int .i64 0, .bool false, .slice none 0 0, .int .i64 0, .bool false, .slice none 0 0, .int .i64 0, .bool false, .slice none 0 0, .int .i64 0]) := Lib.hid (by rw [hV]; exact Blk.new w _ _)
  have r1 := Lib.hid (Recs.more (Recs.below h1 hB) hB.size)
  have gB := Lib.hid hB
  obtain ⟨E, hE⟩ : ∃ E, askL l N 1 = E := ⟨_, rfl⟩
  have gE := Lib.hid hE
  rw [hE]
  obtain ⟨F, hF⟩ : ∃ F, lsE 0 (sumE l N) = F := ⟨_, rfl⟩
  have gF := Lib.hid hF
  clear hB h1 hE hF
  go_enter Tryd.func14, Tryd.ntmps14
  go_wp2_with fail
  rw [← hV]
  clear hV
  refine (rasked_any A n c l hm V r1.out N 1).mono ?_
  rintro en x1 ⟨he, hb⟩
  rw [gE.out] at he
  subst he
  have sx1 : V.heap.size ≤ x1.heap.size := hb.size
  replace kr := Lib.hid (kr.out.below hb kr.out.lt)
  replace r1 := Lib.hid (Recs.more (Recs.below r1.out hb) hb.size)
  replace gB := Lib.hid (gB.out.trans (hb.mono gB.out.size))
  clear hb
  by_cases h0 : E = 0
  rotate_left
  · have t0 : (E != 0) = true := bne_iff_ne.2 h0
    have ge : Hid (lsE E (sumE l N) = E ∧ lsM E (sumE l N) = zM) := Lib.hid ⟨by unfold lsE; rw [if_pos h0], by unfold lsM; rw [if_pos h0]⟩
    have kz : Blk ((((((((((((x1.setCell ⟨w.heap.size, 0, none⟩ (.bool false)).setCell ⟨w.heap.size, 1, none⟩ (.slice none 0 0)).setCell ⟨w.heap.size, 2, none⟩ (.int .i64 0)).setCell ⟨w.heap.size, 3, none⟩ (.bool false)).setCell ⟨w.heap.size, 4, none⟩ (.slice none 0 0)).setCell ⟨w.heap.size, 5, none⟩ (.int .i64 0)).setCell ⟨w.heap.size, 6, none⟩ (.bool false)).setCell ⟨w.heap.size, 7, none⟩ (.slice none 0 0)).setCell ⟨w.heap.size, 8, none⟩ (.int .i64 0)).setCell ⟨w.heap.size, 9, none⟩ (.bool false)).setCell ⟨w.heap.size, 10, none⟩ (.slice none 0 0)).setCell ⟨w.heap.size, 11, none⟩ (.int .i64 0)) w.heap.size 27 #[.bool false, .slice none 0 0, .int .i64 0, .bool false, .slice none 0 0, .int .i64 0, .bool false, .slice none 0 0, .int .i64 0, .bool false, .slice none 0 0, .int .i64 0] := c12_blk kr.out (.bool false) (.slice none 0 0) (.int .i64 0) (.bool false) (.slice none 0 0) (.int .i64 0) (.bool false) (.slice none 0 0) (.int .i64 0) (.bool false) (.slice none 0 0) (.int .i64 0)
    have hBz : Below w.heap.size w ((((((((((((x1.setCell ⟨w.heap.size, 0, none⟩ (.bool false)).setCell ⟨w.heap.size, 1, none⟩ (.slice none 0 0)).setCell ⟨w.heap.size, 2, none⟩ (.int .i64 0)).setCell ⟨w.heap.size, 3, none⟩ (.bool false)).setCell ⟨w.heap.size, 4, none⟩ (.slice none 0 0)).setCell ⟨w.heap.size, 5, none⟩ (.int .i64 0)).setCell ⟨w.heap.size, 6, none⟩ (.bool false)).setCell ⟨w.heap.size, 7, none⟩ (.slice none 0 0)).setCell ⟨w.heap.size, 8, none⟩ (.int .i64 0)).setCell ⟨w.heap.size, 9, none⟩ (.bool false)).setCell ⟨w.heap.size, 10, none⟩ (.slice none 0 0)).setCell ⟨w.heap.size, 11, none⟩ (.int .i64 0)) := c12_below gB.out (Nat.le_refl _) (.bool false) (.slice none 0 0) (.int .i64 0) (.bool false) (.slice none 0 0) (.int .i64 0) (.bool false) (.slice none 0 0) (.int .i64 0) (.bool false) (.slice none 0 0) (.int .i64 0)
    have r0 : x1.cell? ⟨w.heap.size, 0, none⟩ = some (.bool false) := by rw [kr.out.cell]; rfl
    have r1 : x1.cell? ⟨w.heap.size, 1, none⟩ = some (.slice none 0 0) := by rw [kr.out.cell]; rfl
    have r2 : x1.cell? ⟨w.heap.size, 2, none⟩ = some (.int .i64 0) := by rw [kr.out.cell]; rfl
    have r3 : x1.cell? ⟨w.heap.size, 3, none⟩ = some (.bool false) := by rw [kr.out.cell]; rfl
    have r4 : x1.cell? ⟨w.heap.size, 4, none⟩ = some (.slice none 0 0) := by rw [kr.out.cell]; rfl
    have r5 : x1.cell? ⟨w.heap.size, 5, none⟩ = some (.int .i64 0) := by rw [kr.out.cell]; rfl
    have r6 : x1.cell? ⟨w.heap.size, 6, none⟩ = some (.bool false) := by rw [kr.out.cell]; rfl
    have r7 : x1.cell? ⟨w.heap.size, 7, none⟩ = some (.slice none 0 0) := by rw [kr.out.cell]; rfl
    have r8 : x1.cell? ⟨w.heap.size, 8, none⟩ = some (.int .i64 0) := by rw [kr.out.cell]; rfl
    have r9 : x1.cell? ⟨w.heap.size, 9, none⟩ = some (.bool false) := by rw [kr.out.cell]; rfl
    have r10 : x1.cell? ⟨w.heap.size, 10, none⟩ = some (.slice none 0 0) := by rw [kr.out.cell]; rfl
    have r11 : x1.cell? ⟨w.heap.size, 11, none⟩ = some (.int .i64 0) := by rw [kr.out.cell]; rfl
    have f0 := kr.out.frozen 0
    have f1 := kr.out.frozen 1
    have f2 := kr.out.frozen 2
    have f3 := kr.out.frozen 3
    have f4 := kr.out.frozen 4
    have f5 := kr.out.frozen 5
    have f6 := kr.out.frozen 6
    have f7 := kr.out.frozen 7
    have f8 := kr.out.frozen 8
    have f9 := kr.out.frozen 9
    have f10 := kr.out.frozen 10
    have f11 := kr.out.frozen 11
    clear h0
    go_wp2
    refine bodyPost_ret (ret_mass rfl _ _ w.heap.size #[.bool false, .slice none 0 0, .int .i64 0, .bool false, .slice none 0 0, .int .i64 0, .bool false, .slice none 0 0, .int .i64 0, .bool false, .slice none 0 0, .int .i64 0] (.int .i64 E) rfl kz info_mass rfl) rfl ?_
    exact ⟨(⟨zM, none, 0, none, 0, none, 0, none, 0⟩ : MB), ge.out.2.symm, by rw [ge.out.1]; rfl, rdo_z _, hBz⟩
  subst h0
  have hl' : ∀ x ∈ l, mayM x.give = true ∧ ltM4 x.give := fun x hx => ⟨goodE_may ((chkL_zero (askL_zero gE.out).1).2 x hx), hl x hx⟩
  go_wp2_with fail
  refine (rsummed_any A n c l hm x1 r1.out hl' N 0).mono ?_
  rintro en x2 hP
  rw [show sumL ((l.filter (fun x => x.ep == N && ((0 : Int) == 0 || x.why == 0))).map (·.give)) = sumE l N from by unfold sumE; congr 2; apply List.filter_congr; intro x _; simp] at hP
  obtain ⟨o, ho, he, hr, hb⟩ := hP
  rw [gF.out] at he
  subst he
  have go := Lib.hid ho
  have u := Lib.hid hr
  clear ho hr
  have sx2 : x1.heap.size ≤ x2.heap.size := hb.size
  replace kr := Lib.hid (kr.out.below hb kr.out.lt)
  replace r1 := Lib.hid (Recs.more (Recs.below r1.out hb) hb.size)
  replace gB := Lib.hid (gB.out.trans (hb.mono gB.out.size))
  clear hb
  obtain ⟨tob, ht⟩ : ∃ t, t = x2.heap.size := ⟨_, rfl⟩
  obtain ⟨y2ob, hy2ob⟩ : ∃ W, W = x2.alloc (.cells #[.bool o.m.s.neg, .slice o.X0 o.m.s.ls.length o.c0, .int .i64 o.m.s.ex, .bool o.m.w.neg, .slice o.X1 o.m.w.ls.length o.c1, .int .i64 o.m.w.ex, .bool o.m.c.neg, .slice o.X2 o.m.c.ls.length o.c2, .int .i64 o.m.c.ex, .bool o.m.a.neg, .slice o.X3 o.m.a.ls.length o.c3, .int .i64 o.m.a.ex] 27) := ⟨_, rfl⟩
  have hb : Below x2.heap.size x2 y2ob := by rw [hy2ob]; exact (Below.refl _ _).alloc (Nat.le_refl _) _
  have kob : Blk y2ob x2.heap.size 27 #[.bool o.m.s.neg, .slice o.X0 o.m.s.ls.length o.c0, .int .i64 o.m.s.ex, .bool o.m.w.neg, .slice o.X1 o.m.w.ls.length o.c1, .int .i64 o.m.w.ex, .bool o.m.c.neg, .slice o.X2 o.m.c.ls.length o.c2, .int .i64 o.m.c.ex, .bool o.m.a.neg, .slice o.X3 o.m.a.ls.length o.c3, .int .i64 o.m.a.ex] := by rw [hy2ob]; exact Blk.new _ _ _
  rw [← ht] at kob
  replace kob := Lib.hid kob
  have sy2ob : x2.heap.size ≤ y2ob.heap.size := hb.size
  replace kr := Lib.hid (kr.out.below hb kr.out.lt)
  replace r1 := Lib.hid (Recs.more (Recs.below r1.out hb) hb.size)
  replace u := Lib.hid (RdO.below u.out hb)
  replace gB := Lib.hid (gB.out.trans (hb.mono gB.out.size))
  clear hb
  go_upto_region 5 with fail
  rw [← hy2ob]
  clear hy2ob
  rw [← ht]
  clear ht
  have kz : Blk ((((((((((((y2ob.setCell ⟨w.heap.size, 0, none⟩ (.bool o.m.s.neg)).setCell ⟨w.heap.size, 1, none⟩ (.slice o.X0 o.m.s.ls.length o.c0)).setCell ⟨w.heap.size, 2, none⟩ (.int .i64 o.m.s.ex)).setCell ⟨w.heap.size, 3, none⟩ (.bool o.m.w.neg)).setCell ⟨w.heap.size, 4, none⟩ (.slice o.X1 o.m.w.ls.length o.c1)).setCell ⟨w.heap.size, 5, none⟩ (.int .i64 o.m.w.ex)).setCell ⟨w.heap.size, 6, none⟩ (.bool o.m.c.neg)).setCell ⟨w.heap.size, 7, none⟩ (.slice o.X2 o.m.c.ls.length o.c2)).setCell ⟨w.heap.size, 8, none⟩ (.int .i64 o.m.c.ex)).setCell ⟨w.heap.size, 9, none⟩ (.bool o.m.a.neg)).setCell ⟨w.heap.size, 10, none⟩ (.slice o.X3 o.m.a.ls.length o.c3)).setCell ⟨w.heap.size, 11, none⟩ (.int .i64 o.m.a.ex)) w.heap.size 27 #[.bool o.m.s.neg, .slice o.X0 o.m.s.ls.length o.c0, .int .i64 o.m.s.ex, .bool o.m.w.neg, .slice o.X1 o.m.w.ls.length o.c1, .int .i64 o.m.w.ex, .bool o.m.c.neg, .slice o.X2 o.m.c.ls.length o.c2, .int .i64 o.m.c.ex, .bool o.m.a.neg, .slice o.X3 o.m.a.ls.length o.c3, .int .i64 o.m.a.ex] := c12_blk kr.out (.bool o.m.s.neg) (.slice o.X0 o.m.s.ls.length o.c0) (.int .i64 o.m.s.ex) (.bool o.m.w.neg) (.slice o.X1 o.m.w.ls.length o.c1) (.int .i64 o.m.w.ex) (.bool o.m.c.neg) (.slice o.X2 o.m.c.ls.length o.c2) (.int .i64 o.m.c.ex) (.bool o.m.a.neg) (.slice o.X3 o.m.a.ls.length o.c3) (.int .i64 o.m.a.ex)
  have hBz : Below w.heap.size w ((((((((((((y2ob.setCell ⟨w.heap.size, 0, none⟩ (.bool o.m.s.neg)).setCell ⟨w.heap.size, 1, none⟩ (.slice o.X0 o.m.s.ls.length o.c0)).setCell ⟨w.heap.size, 2, none⟩ (.int .i64 o.m.s.ex)).setCell ⟨w.heap.size, 3, none⟩ (.bool o.m.w.neg)).setCell ⟨w.heap.size, 4, none⟩ (.slice o.X1 o.m.w.ls.length o.c1)).setCell ⟨w.heap.size, 5, none⟩ (.int .i64 o.m.w.ex)).setCell ⟨w.heap.size, 6, none⟩ (.bool o.m.c.neg)).setCell ⟨w.heap.size, 7, none⟩ (.slice o.X2 o.m.c.ls.length o.c2)).setCell ⟨w.heap.size, 8, none⟩ (.int .i64 o.m.c.ex)).setCell ⟨w.heap.size, 9, none⟩ (.bool o.m.a.neg)).setCell ⟨w.heap.size, 10, none⟩ (.slice o.X3 o.m.a.ls.length o.c3)).setCell ⟨w.heap.size, 11, none⟩ (.int .i64 o.m.a.ex)) := c12_below gB.out (Nat.le_refl _) (.bool o.m.s.neg) (.slice o.X0 o.m.s.ls.length o.c0) (.int .i64 o.m.s.ex) (.bool o.m.w.neg) (.slice o.X1 o.m.w.ls.length o.c1) (.int .i64 o.m.w.ex) (.bool o.m.c.neg) (.slice o.X2 o.m.c.ls.length o.c2) (.int .i64 o.m.c.ex) (.bool o.m.a.neg) (.slice o.X3 o.m.a.ls.length o.c3) (.int .i64 o.m.a.ex)
  have hu := Lib.hid (c12_rdo u.out kr.out (.bool o.m.s.neg) (.slice o.X0 o.m.s.ls.length o.c0) (.int .i64 o.m.s.ex) (.bool o.m.w.neg) (.slice o.X1 o.m.w.ls.length o.c1) (.int .i64 o.m.w.ex) (.bool o.m.c.neg) (.slice o.X2 o.m.c.ls.length o.c2) (.int .i64 o.m.c.ex) (.bool o.m.a.neg) (.slice o.X3 o.m.a.ls.length o.c3) (.int .i64 o.m.a.ex))
  have z0 : y2ob.cell? ⟨tob, 0, none⟩ = some (.bool o.m.s.neg) := by rw [kob.out.cell]; rfl
  have z1 : y2ob.cell? ⟨tob, 1, none⟩ = some (.slice o.X0 o.m.s.ls.length o.c0) := by rw [kob.out.cell]; rfl
  have z2 : y2ob.cell? ⟨tob, 2, none⟩ = some (.int .i64 o.m.s.ex) := by rw [kob.out.cell]; rfl
  have z3 : y2ob.cell? ⟨tob, 3, none⟩ = some (.bool o.m.w.neg) := by rw [kob.out.cell]; rfl
  have z4 : y2ob.cell? ⟨tob, 4, none⟩ = some (.slice o.X1 o.m.w.ls.length o.c1) := by rw [kob.out.cell]; rfl
  have z5 : y2ob.cell? ⟨tob, 5, none⟩ = some (.int .i64 o.m.w.ex) := by rw [kob.out.cell]; rfl
  have z6 : y2ob.cell? ⟨tob, 6, none⟩ = some (.bool o.m.c.neg) := by rw [kob.out.cell]; rfl
  have z7 : y2ob.cell? ⟨tob, 7, none⟩ = some (.slice o.X2 o.m.c.ls.length o.c2) := by rw [kob.out.cell]; rfl
  have z8 : y2ob.cell? ⟨tob, 8, none⟩ = some (.int .i64 o.m.c.ex) := by rw [kob.out.cell]; rfl
  have z9 : y2ob.cell? ⟨tob, 9, none⟩ = some (.bool o.m.a.neg) := by rw [kob.out.cell]; rfl
  have z10 : y2ob.cell? ⟨tob, 10, none⟩ = some (.slice o.X3 o.m.a.ls.length o.c3) := by rw [kob.out.cell]; rfl
  have z11 : y2ob.cell? ⟨tob, 11, none⟩ = some (.int .i64 o.m.a.ex) := by rw [kob.out.cell]; rfl
  have r0 : y2ob.cell? ⟨w.heap.size, 0, none⟩ = some (.bool false) := by rw [kr.out.cell]; rfl
  have r1 : y2ob.cell? ⟨w.heap.size, 1, none⟩ = some (.slice none 0 0) := by rw [kr.out.cell]; rfl
  have r2 : y2ob.cell? ⟨w.heap.size, 2, none⟩ = some (.int .i64 0) := by rw [kr.out.cell]; rfl
  have r3 : y2ob.cell? ⟨w.heap.size, 3, none⟩ = some (.bool false) := by rw [kr.out.cell]; rfl
  have r4 : y2ob.cell? ⟨w.heap.size, 4, none⟩ = some (.slice none 0 0) := by rw [kr.out.cell]; rfl
  have r5 : y2ob.cell? ⟨w.heap.size, 5, none⟩ = some (.int .i64 0) := by rw [kr.out.cell]; rfl
  have r6 : y2ob.cell? ⟨w.heap.size, 6, none⟩ = some (.bool false) := by rw [kr.out.cell]; rfl
  have r7 : y2ob.cell? ⟨w.heap.size, 7, none⟩ = some (.slice none 0 0) := by rw [kr.out.cell]; rfl
  have r8 : y2ob.cell? ⟨w.heap.size, 8, none⟩ = some (.int .i64 0) := by rw [kr.out.cell]; rfl
  have r9 : y2ob.cell? ⟨w.heap.size, 9, none⟩ = some (.bool false) := by rw [kr.out.cell]; rfl
  have r10 : y2ob.cell? ⟨w.heap.size, 10, none⟩ = some (.slice none 0 0) := by rw [kr.out.cell]; rfl
  have r11 : y2ob.cell? ⟨w.heap.size, 11, none⟩ = some (.int .i64 0) := by rw [kr.out.cell]; rfl
  have f0 := kr.out.frozen 0
  have f1 := kr.out.frozen 1
  have f2 := kr.out.frozen 2
  have f3 := kr.out.frozen 3
  have f4 := kr.out.frozen 4
  have f5 := kr.out.frozen 5
  have f6 := kr.out.frozen 6
  have f7 := kr.out.frozen 7
  have f8 := kr.out.frozen 8
  have f9 := kr.out.frozen 9
  have f10 := kr.out.frozen 10
  have f11 := kr.out.frozen 11
  go_wp2
  refine bodyPost_ret (ret_mass rfl _ _ w.heap.size #[.bool o.m.s.neg, .slice o.X0 o.m.s.ls.length o.c0, .int .i64 o.m.s.ex, .bool o.m.w.neg, .slice o.X1 o.m.w.ls.length o.c1, .int .i64 o.m.w.ex, .bool o.m.c.neg, .slice o.X2 o.m.c.ls.length o.c2, .int .i64 o.m.c.ex, .bool o.m.a.neg, .slice o.X3 o.m.a.ls.length o.c3, .int .i64 o.m.a.ex] (.int .i64 F) rfl kz info_mass rfl) rfl ?_
  exact ⟨o, go.out, by rw [gF.out], hu.out, hBz⟩
theorem of_pred {l : List En} {N y : Int} (h : knK y = true) : sumL ((l.filter (fun x => x.ep == N && (y == 0 || x.why == y))).map (·.give)) = ofE l N y := by
  have h0 : (y == 0) = false := by
    unfold knK at h
    simp only [Bool.and_eq_true, decide_eq_true_eq] at h
    exact beq_eq_false_iff_ne.2 (by omega)
  unfold ofE
  congr 2
  apply List.filter_congr
  intro x _
  rw [h0, Bool.false_or]
set_option maxHeartbeats 16000000 in
theorem rsumO_any (A : Option Addr) (n c : Nat) (l : List En) (hm : n ≤ 8300) (w : World) (h1 : Ens w w.heap.size A n l) (hl : ∀ x ∈ l, ltM4 x.give) (N y : Int) : Calls Tryd.prog 16 #[.slice A n c, .int .i64 N, .int .u8 y] w (RsumP (askL l N y) (ofE l N y) w) := by
  obtain ⟨V, hV⟩ : ∃ V, V = w.alloc (.cells #[.bool false, .slice none 0 0, .int .i64 0, .bool false, .slice none 0 0, .int .i64 0, .bool false, .slice none 0 0, .int .i64 0, .bool false, .slice none 0 0, .int .i64 0] 27) := ⟨_, rfl⟩
  have hB : Below w.heap.size w V := by rw [hV]; exact (Below.refl _ w).alloc (Nat.le_refl _) _
  have kr : Hid (Blk V w.heap.size 27 #[.bool false, .slice none 0 0, .int .i64 0, .bool false, .slice none 0 0, .int .i64 0, .bool false, .slice none 0 0, .int .i64 0, .bool false, .slice none 0 0, .int .i64 0]) := Lib.hid (by rw [hV]; exact Blk.new w _ _)
  have r1 := Lib.hid (Recs.more (Recs.below h1 hB) hB.size)
  have gB := Lib.hid hB
  obtain ⟨E, hE⟩ : ∃ E, askL l N y = E := ⟨_, rfl⟩
  have gE := Lib.hid hE
  rw [hE]
  obtain ⟨F, hF⟩ : ∃ F, lsE 0 (ofE l N y) = F := ⟨_, rfl⟩
  have gF := Lib.hid hF
  clear hB h1 hE hF
  go_enter Tryd.func16, Tryd.ntmps16
  go_wp2_with fail
  rw [← hV]
  clear hV
  refine (rasked_any A n c l hm V r1.out N y).mono ?_
  rintro en x1 ⟨he, hb⟩
  rw [gE.out] at he
  subst he
  have sx1 : V.heap.size ≤ x1.heap.size := hb.size
  replace kr := Lib.hid (kr.out.below hb kr.out.lt)
  replace r1 := Lib.hid (Recs.more (Recs.below r1.out hb) hb.size)
  replace gB := Lib.hid (gB.out.trans (hb.mono gB.out.size))
  clear hb
  by_cases h0 : E = 0
  rotate_left
  · have t0 : (E != 0) = true := bne_iff_ne.2 h0
    have ge : Hid (lsE E (ofE l N y) = E ∧ lsM E (ofE l N y) = zM) := Lib.hid ⟨by unfold lsE; rw [if_pos h0], by unfold lsM; rw [if_pos h0]⟩
    have kz : Blk ((((((((((((x1.setCell ⟨w.heap.size, 0, none⟩ (.bool false)).setCell ⟨w.heap.size, 1, none⟩ (.slice none 0 0)).setCell ⟨w.heap.size, 2, none⟩ (.int .i64 0)).setCell ⟨w.heap.size, 3, none⟩ (.bool false)).setCell ⟨w.heap.size, 4, none⟩ (.slice none 0 0)).setCell ⟨w.heap.size, 5, none⟩ (.int .i64 0)).setCell ⟨w.heap.size, 6, none⟩ (.bool false)).setCell ⟨w.heap.size, 7, none⟩ (.slice none 0 0)).setCell ⟨w.heap.size, 8, none⟩ (.int .i64 0)).setCell ⟨w.heap.size, 9, none⟩ (.bool false)).setCell ⟨w.heap.size, 10, none⟩ (.slice none 0 0)).setCell ⟨w.heap.size, 11, none⟩ (.int .i64 0)) w.heap.size 27 #[.bool false, .slice none 0 0, .int .i64 0, .bool false, .slice none 0 0, .int .i64 0, .bool false, .slice none 0 0, .int .i64 0, .bool false, .slice none 0 0, .int .i64 0] := c12_blk kr.out (.bool false) (.slice none 0 0) (.int .i64 0) (.bool false) (.slice none 0 0) (.int .i64 0) (.bool false) (.slice none 0 0) (.int .i64 0) (.bool false) (.slice none 0 0) (.int .i64 0)
    have hBz : Below w.heap.size w ((((((((((((x1.setCell ⟨w.heap.size, 0, none⟩ (.bool false)).setCell ⟨w.heap.size, 1, none⟩ (.slice none 0 0)).setCell ⟨w.heap.size, 2, none⟩ (.int .i64 0)).setCell ⟨w.heap.size, 3, none⟩ (.bool false)).setCell ⟨w.heap.size, 4, none⟩ (.slice none 0 0)).setCell ⟨w.heap.size, 5, none⟩ (.int .i64 0)).setCell ⟨w.heap.size, 6, none⟩ (.bool false)).setCell ⟨w.heap.size, 7, none⟩ (.slice none 0 0)).setCell ⟨w.heap.size, 8, none⟩ (.int .i64 0)).setCell ⟨w.heap.size, 9, none⟩ (.bool false)).setCell ⟨w.heap.size, 10, none⟩ (.slice none 0 0)).setCell ⟨w.heap.size, 11, none⟩ (.int .i64 0)) := c12_below gB.out (Nat.le_refl _) (.bool false) (.slice none 0 0) (.int .i64 0) (.bool false) (.slice none 0 0) (.int .i64 0) (.bool false) (.slice none 0 0) (.int .i64 0) (.bool false) (.slice none 0 0) (.int .i64 0)
    have r0 : x1.cell? ⟨w.heap.size, 0, none⟩ = some (.bool false) := by rw [kr.out.cell]; rfl
    have r1 : x1.cell? ⟨w.heap.size, 1, none⟩ = some (.slice none 0 0) := by rw [kr.out.cell]; rfl
    have r2 : x1.cell? ⟨w.heap.size, 2, none⟩ = some (.int .i64 0) := by rw [kr.out.cell]; rfl
    have r3 : x1.cell? ⟨w.heap.size, 3, none⟩ = some (.bool false) := by rw [kr.out.cell]; rfl
    have r4 : x1.cell? ⟨w.heap.size, 4, none⟩ = some (.slice none 0 0) := by rw [kr.out.cell]; rfl
    have r5 : x1.cell? ⟨w.heap.size, 5, none⟩ = some (.int .i64 0) := by rw [kr.out.cell]; rfl
    have r6 : x1.cell? ⟨w.heap.size, 6, none⟩ = some (.bool false) := by rw [kr.out.cell]; rfl
    have r7 : x1.cell? ⟨w.heap.size, 7, none⟩ = some (.slice none 0 0) := by rw [kr.out.cell]; rfl
    have r8 : x1.cell? ⟨w.heap.size, 8, none⟩ = some (.int .i64 0) := by rw [kr.out.cell]; rfl
    have r9 : x1.cell? ⟨w.heap.size, 9, none⟩ = some (.bool false) := by rw [kr.out.cell]; rfl
    have r10 : x1.cell? ⟨w.heap.size, 10, none⟩ = some (.slice none 0 0) := by rw [kr.out.cell]; rfl
    have r11 : x1.cell? ⟨w.heap.size, 11, none⟩ = some (.int .i64 0) := by rw [kr.out.cell]; rfl
    have f0 := kr.out.frozen 0
    have f1 := kr.out.frozen 1
    have f2 := kr.out.frozen 2
    have f3 := kr.out.frozen 3
    have f4 := kr.out.frozen 4
    have f5 := kr.out.frozen 5
    have f6 := kr.out.frozen 6
    have f7 := kr.out.frozen 7
    have f8 := kr.out.frozen 8
    have f9 := kr.out.frozen 9
    have f10 := kr.out.frozen 10
    have f11 := kr.out.frozen 11
    clear h0
    go_wp2
    refine bodyPost_ret (ret_mass rfl _ _ w.heap.size #[.bool false, .slice none 0 0, .int .i64 0, .bool false, .slice none 0 0, .int .i64 0, .bool false, .slice none 0 0, .int .i64 0, .bool false, .slice none 0 0, .int .i64 0] (.int .i64 E) rfl kz info_mass rfl) rfl ?_
    exact ⟨(⟨zM, none, 0, none, 0, none, 0, none, 0⟩ : MB), ge.out.2.symm, by rw [ge.out.1]; rfl, rdo_z _, hBz⟩
  subst h0
  have hl' : ∀ x ∈ l, mayM x.give = true ∧ ltM4 x.give := fun x hx => ⟨goodE_may ((chkL_zero (askL_zero gE.out).1).2 x hx), hl x hx⟩
  go_wp2_with fail
  refine (rsummed_any A n c l hm x1 r1.out hl' N y).mono ?_
  rintro en x2 hP
  rw [of_pred (askL_zero gE.out).2.2] at hP
  obtain ⟨o, ho, he, hr, hb⟩ := hP
  rw [gF.out] at he
  subst he
  have go := Lib.hid ho
  have u := Lib.hid hr
  clear ho hr
  have sx2 : x1.heap.size ≤ x2.heap.size := hb.size
  replace kr := Lib.hid (kr.out.below hb kr.out.lt)
  replace r1 := Lib.hid (Recs.more (Recs.below r1.out hb) hb.size)
  replace gB := Lib.hid (gB.out.trans (hb.mono gB.out.size))
  clear hb
  obtain ⟨tob, ht⟩ : ∃ t, t = x2.heap.size := ⟨_, rfl⟩
  obtain ⟨y2ob, hy2ob⟩ : ∃ W, W = x2.alloc (.cells #[.bool o.m.s.neg, .slice o.X0 o.m.s.ls.length o.c0, .int .i64 o.m.s.ex, .bool o.m.w.neg, .slice o.X1 o.m.w.ls.length o.c1, .int .i64 o.m.w.ex, .bool o.m.c.neg, .slice o.X2 o.m.c.ls.length o.c2, .int .i64 o.m.c.ex, .bool o.m.a.neg, .slice o.X3 o.m.a.ls.length o.c3, .int .i64 o.m.a.ex] 27) := ⟨_, rfl⟩
  have hb : Below x2.heap.size x2 y2ob := by rw [hy2ob]; exact (Below.refl _ _).alloc (Nat.le_refl _) _
  have kob : Blk y2ob x2.heap.size 27 #[.bool o.m.s.neg, .slice o.X0 o.m.s.ls.length o.c0, .int .i64 o.m.s.ex, .bool o.m.w.neg, .slice o.X1 o.m.w.ls.length o.c1, .int .i64 o.m.w.ex, .bool o.m.c.neg, .slice o.X2 o.m.c.ls.length o.c2, .int .i64 o.m.c.ex, .bool o.m.a.neg, .slice o.X3 o.m.a.ls.length o.c3, .int .i64 o.m.a.ex] := by rw [hy2ob]; exact Blk.new _ _ _
  rw [← ht] at kob
  replace kob := Lib.hid kob
  have sy2ob : x2.heap.size ≤ y2ob.heap.size := hb.size
  replace kr := Lib.hid (kr.out.below hb kr.out.lt)
  replace r1 := Lib.hid (Recs.more (Recs.below r1.out hb) hb.size)
  replace u := Lib.hid (RdO.below u.out hb)
  replace gB := Lib.hid (gB.out.trans (hb.mono gB.out.size))
  clear hb
  go_upto_region 5 with fail
  rw [← hy2ob]
  clear hy2ob
  rw [← ht]
  clear ht
  have kz : Blk ((((((((((((y2ob.setCell ⟨w.heap.size, 0, none⟩ (.bool o.m.s.neg)).setCell ⟨w.heap.size, 1, none⟩ (.slice o.X0 o.m.s.ls.length o.c0)).setCell ⟨w.heap.size, 2, none⟩ (.int .i64 o.m.s.ex)).setCell ⟨w.heap.size, 3, none⟩ (.bool o.m.w.neg)).setCell ⟨w.heap.size, 4, none⟩ (.slice o.X1 o.m.w.ls.length o.c1)).setCell ⟨w.heap.size, 5, none⟩ (.int .i64 o.m.w.ex)).setCell ⟨w.heap.size, 6, none⟩ (.bool o.m.c.neg)).setCell ⟨w.heap.size, 7, none⟩ (.slice o.X2 o.m.c.ls.length o.c2)).setCell ⟨w.heap.size, 8, none⟩ (.int .i64 o.m.c.ex)).setCell ⟨w.heap.size, 9, none⟩ (.bool o.m.a.neg)).setCell ⟨w.heap.size, 10, none⟩ (.slice o.X3 o.m.a.ls.length o.c3)).setCell ⟨w.heap.size, 11, none⟩ (.int .i64 o.m.a.ex)) w.heap.size 27 #[.bool o.m.s.neg, .slice o.X0 o.m.s.ls.length o.c0, .int .i64 o.m.s.ex, .bool o.m.w.neg, .slice o.X1 o.m.w.ls.length o.c1, .int .i64 o.m.w.ex, .bool o.m.c.neg, .slice o.X2 o.m.c.ls.length o.c2, .int .i64 o.m.c.ex, .bool o.m.a.neg, .slice o.X3 o.m.a.ls.length o.c3, .int .i64 o.m.a.ex] := c12_blk kr.out (.bool o.m.s.neg) (.slice o.X0 o.m.s.ls.length o.c0) (.int .i64 o.m.s.ex) (.bool o.m.w.neg) (.slice o.X1 o.m.w.ls.length o.c1) (.int .i64 o.m.w.ex) (.bool o.m.c.neg) (.slice o.X2 o.m.c.ls.length o.c2) (.int .i64 o.m.c.ex) (.bool o.m.a.neg) (.slice o.X3 o.m.a.ls.length o.c3) (.int .i64 o.m.a.ex)
  have hBz : Below w.heap.size w ((((((((((((y2ob.setCell ⟨w.heap.size, 0, none⟩ (.bool o.m.s.neg)).setCell ⟨w.heap.size, 1, none⟩ (.slice o.X0 o.m.s.ls.length o.c0)).setCell ⟨w.heap.size, 2, none⟩ (.int .i64 o.m.s.ex)).setCell ⟨w.heap.size, 3, none⟩ (.bool o.m.w.neg)).setCell ⟨w.heap.size, 4, none⟩ (.slice o.X1 o.m.w.ls.length o.c1)).setCell ⟨w.heap.size, 5, none⟩ (.int .i64 o.m.w.ex)).setCell ⟨w.heap.size, 6, none⟩ (.bool o.m.c.neg)).setCell ⟨w.heap.size, 7, none⟩ (.slice o.X2 o.m.c.ls.length o.c2)).setCell ⟨w.heap.size, 8, none⟩ (.int .i64 o.m.c.ex)).setCell ⟨w.heap.size, 9, none⟩ (.bool o.m.a.neg)).setCell ⟨w.heap.size, 10, none⟩ (.slice o.X3 o.m.a.ls.length o.c3)).setCell ⟨w.heap.size, 11, none⟩ (.int .i64 o.m.a.ex)) := c12_below gB.out (Nat.le_refl _) (.bool o.m.s.neg) (.slice o.X0 o.m.s.ls.length o.c0) (.int .i64 o.m.s.ex) (.bool o.m.w.neg) (.slice o.X1 o.m.w.ls.length o.c1) (.int .i64 o.m.w.ex) (.bool o.m.c.neg) (.slice o.X2 o.m.c.ls.length o.c2) (.int .i64 o.m.c.ex) (.bool o.m.a.neg) (.slice o.X3 o.m.a.ls.length o.c3) (.int .i64 o.m.a.ex)
  have hu := Lib.hid (c12_rdo u.out kr.out (.bool o.m.s.neg) (.slice o.X0 o.m.s.ls.length o.c0) (.int .i64 o.m.s.ex) (.bool o.m.w.neg) (.slice o.X1 o.m.w.ls.length o.c1) (.int .i64 o.m.w.ex) (.bool o.m.c.neg) (.slice o.X2 o.m.c.ls.length o.c2) (.int .i64 o.m.c.ex) (.bool o.m.a.neg) (.slice o.X3 o.m.a.ls.length o.c3) (.int .i64 o.m.a.ex))
  have z0 : y2ob.cell? ⟨tob, 0, none⟩ = some (.bool o.m.s.neg) := by rw [kob.out.cell]; rfl
  have z1 : y2ob.cell? ⟨tob, 1, none⟩ = some (.slice o.X0 o.m.s.ls.length o.c0) := by rw [kob.out.cell]; rfl
  have z2 : y2ob.cell? ⟨tob, 2, none⟩ = some (.int .i64 o.m.s.ex) := by rw [kob.out.cell]; rfl
  have z3 : y2ob.cell? ⟨tob, 3, none⟩ = some (.bool o.m.w.neg) := by rw [kob.out.cell]; rfl
  have z4 : y2ob.cell? ⟨tob, 4, none⟩ = some (.slice o.X1 o.m.w.ls.length o.c1) := by rw [kob.out.cell]; rfl
  have z5 : y2ob.cell? ⟨tob, 5, none⟩ = some (.int .i64 o.m.w.ex) := by rw [kob.out.cell]; rfl
  have z6 : y2ob.cell? ⟨tob, 6, none⟩ = some (.bool o.m.c.neg) := by rw [kob.out.cell]; rfl
  have z7 : y2ob.cell? ⟨tob, 7, none⟩ = some (.slice o.X2 o.m.c.ls.length o.c2) := by rw [kob.out.cell]; rfl
  have z8 : y2ob.cell? ⟨tob, 8, none⟩ = some (.int .i64 o.m.c.ex) := by rw [kob.out.cell]; rfl
  have z9 : y2ob.cell? ⟨tob, 9, none⟩ = some (.bool o.m.a.neg) := by rw [kob.out.cell]; rfl
  have z10 : y2ob.cell? ⟨tob, 10, none⟩ = some (.slice o.X3 o.m.a.ls.length o.c3) := by rw [kob.out.cell]; rfl
  have z11 : y2ob.cell? ⟨tob, 11, none⟩ = some (.int .i64 o.m.a.ex) := by rw [kob.out.cell]; rfl
  have r0 : y2ob.cell? ⟨w.heap.size, 0, none⟩ = some (.bool false) := by rw [kr.out.cell]; rfl
  have r1 : y2ob.cell? ⟨w.heap.size, 1, none⟩ = some (.slice none 0 0) := by rw [kr.out.cell]; rfl
  have r2 : y2ob.cell? ⟨w.heap.size, 2, none⟩ = some (.int .i64 0) := by rw [kr.out.cell]; rfl
  have r3 : y2ob.cell? ⟨w.heap.size, 3, none⟩ = some (.bool false) := by rw [kr.out.cell]; rfl
  have r4 : y2ob.cell? ⟨w.heap.size, 4, none⟩ = some (.slice none 0 0) := by rw [kr.out.cell]; rfl
  have r5 : y2ob.cell? ⟨w.heap.size, 5, none⟩ = some (.int .i64 0) := by rw [kr.out.cell]; rfl
  have r6 : y2ob.cell? ⟨w.heap.size, 6, none⟩ = some (.bool false) := by rw [kr.out.cell]; rfl
  have r7 : y2ob.cell? ⟨w.heap.size, 7, none⟩ = some (.slice none 0 0) := by rw [kr.out.cell]; rfl
  have r8 : y2ob.cell? ⟨w.heap.size, 8, none⟩ = some (.int .i64 0) := by rw [kr.out.cell]; rfl
  have r9 : y2ob.cell? ⟨w.heap.size, 9, none⟩ = some (.bool false) := by rw [kr.out.cell]; rfl
  have r10 : y2ob.cell? ⟨w.heap.size, 10, none⟩ = some (.slice none 0 0) := by rw [kr.out.cell]; rfl
  have r11 : y2ob.cell? ⟨w.heap.size, 11, none⟩ = some (.int .i64 0) := by rw [kr.out.cell]; rfl
  have f0 := kr.out.frozen 0
  have f1 := kr.out.frozen 1
  have f2 := kr.out.frozen 2
  have f3 := kr.out.frozen 3
  have f4 := kr.out.frozen 4
  have f5 := kr.out.frozen 5
  have f6 := kr.out.frozen 6
  have f7 := kr.out.frozen 7
  have f8 := kr.out.frozen 8
  have f9 := kr.out.frozen 9
  have f10 := kr.out.frozen 10
  have f11 := kr.out.frozen 11
  go_wp2
  refine bodyPost_ret (ret_mass rfl _ _ w.heap.size #[.bool o.m.s.neg, .slice o.X0 o.m.s.ls.length o.c0, .int .i64 o.m.s.ex, .bool o.m.w.neg, .slice o.X1 o.m.w.ls.length o.c1, .int .i64 o.m.w.ex, .bool o.m.c.neg, .slice o.X2 o.m.c.ls.length o.c2, .int .i64 o.m.c.ex, .bool o.m.a.neg, .slice o.X3 o.m.a.ls.length o.c3, .int .i64 o.m.a.ex] (.int .i64 F) rfl kz info_mass rfl) rfl ?_
  exact ⟨o, go.out, by rw [gF.out], hu.out, hBz⟩
set_option maxHeartbeats 16000000 in
theorem rbooked_any (A : Option Addr) (n c : Nat) (l : List En) (hm : n ≤ 8300) (hs : ∀ x ∈ l, smM x.give) (w : World) (h1 : Ens w w.heap.size A n l) (N y : Int) (g : MB) (hsg : smM g.m) (ug0 : RdO w g) (R : Bool) (hR : zrM g.m = R) : Calls Tryd.prog 38 #[.slice A n c, .int .i64 N, .int .u8 y, .agg #[.bool g.m.s.neg, .slice g.X0 g.m.s.ls.length g.c0, .int .i64 g.m.s.ex, .bool g.m.w.neg, .slice g.X1 g.m.w.ls.length g.c1, .int .i64 g.m.w.ex, .bool g.m.c.neg, .slice g.X2 g.m.c.ls.length g.c2, .int .i64 g.m.c.ex, .bool g.m.a.neg, .slice g.X3 g.m.a.ls.length g.c3, .int .i64 g.m.a.ex]] w fun en w' => ∃ Ao co, en = .returned (.slice Ao (if R = true then l else l ++ [⟨N, y, g.m⟩]).length co) ∧ TwE w (if R = true then l else l ++ [⟨N, y, g.m⟩]).length (if R = true then l else l ++ [⟨N, y, g.m⟩]) Ao co w' := by
  obtain ⟨i0, hi0, hz0, hz1, hz2⟩ := info_parts infoE
  have gln := Lib.hid (ens_len h1)
  obtain ⟨V, hV⟩ : ∃ V, V = w.alloc (.cells #[.bool g.m.s.neg, .slice g.X0 g.m.s.ls.length g.c0, .int .i64 g.m.s.ex, .bool g.m.w.neg, .slice g.X1 g.m.w.ls.length g.c1, .int .i64 g.m.w.ex, .bool g.m.c.neg, .slice g.X2 g.m.c.ls.length g.c2, .int .i64 g.m.c.ex, .bool g.m.a.neg, .slice g.X3 g.m.a.ls.length g.c3, .int .i64 g.m.a.ex] 27) := ⟨_, rfl⟩
  have hB : Below w.heap.size w V := by rw [hV]; exact (Below.refl _ w).alloc (Nat.le_refl _) _
  have kg : Hid (Blk V w.heap.size 27 #[.bool g.m.s.neg, .slice g.X0 g.m.s.ls.length g.c0, .int .i64 g.m.s.ex, .bool g.m.w.neg, .slice g.X1 g.m.w.ls.length g.c1, .int .i64 g.m.w.ex, .bool g.m.c.neg, .slice g.X2 g.m.c.ls.length g.c2, .int .i64 g.m.c.ex, .bool g.m.a.neg, .slice g.X3 g.m.a.ls.length g.c3, .int .i64 g.m.a.ex]) := Lib.hid (by rw [hV]; exact Blk.new w _ _)
  have r1 := Lib.hid (Recs.more (Recs.below h1 hB) hB.size)
  have ug := Lib.hid (RdO.below ug0 hB)
  have gB := Lib.hid hB
  have gV0 := Lib.hid hB
  have gV := Lib.hid hB.size
  have gs := Lib.hid hs
  have gsg := Lib.hid hsg
  have gR := Lib.hid hR
  clear hB h1 ug0 hs hsg hR
  go_enter Tryd.func38, Tryd.ntmps38
  go_wp2_with fail
  rw [← hV]
  clear hV
  refine (retwin_any A n c l (by omega) gs.out V r1.out).mono ?_
  rintro en x1 ⟨Ao, co, rfl, hT⟩
  have hb := hT.2.2.2.1
  have gA : Hid (AccE x1 V.heap.size (.slice Ao n co) n l) := Lib.hid hT.2.2.2.2
  clear hT
  have gBV := Lib.hid hb
  have sx1 : V.heap.size ≤ x1.heap.size := hb.size
  replace kg := Lib.hid (kg.out.below hb kg.out.lt)
  replace r1 := Lib.hid (Recs.more (Recs.below r1.out hb) hb.size)
  replace ug := Lib.hid (RdO.below ug.out hb)
  replace gB := Lib.hid (gB.out.trans (hb.mono gB.out.size))
  clear hb
  have z0 : x1.cell? ⟨w.heap.size, 0, none⟩ = some (.bool g.m.s.neg) := by rw [kg.out.cell]; rfl
  have z1 : x1.cell? ⟨w.heap.size, 1, none⟩ = some (.slice g.X0 g.m.s.ls.length g.c0) := by rw [kg.out.cell]; rfl
  have z2 : x1.cell? ⟨w.heap.size, 2, none⟩ = some (.int .i64 g.m.s.ex) := by rw [kg.out.cell]; rfl
  have z3 : x1.cell? ⟨w.heap.size, 3, none⟩ = some (.bool g.m.w.neg) := by rw [kg.out.cell]; rfl
  have z4 : x1.cell? ⟨w.heap.size, 4, none⟩ = some (.slice g.X1 g.m.w.ls.length g.c1) := by rw [kg.out.cell]; rfl
  have z5 : x1.cell? ⟨w.heap.size, 5, none⟩ = some (.int .i64 g.m.w.ex) := by rw [kg.out.cell]; rfl
  have z6 : x1.cell? ⟨w.heap.size, 6, none⟩ = some (.bool g.m.c.neg) := by rw [kg.out.cell]; rfl
  have z7 : x1.cell? ⟨w.heap.size, 7, none⟩ = some (.slice g.X2 g.m.c.ls.length g.c2) := by rw [kg.out.cell]; rfl
  have z8 : x1.cell? ⟨w.heap.size, 8, none⟩ = some (.int .i64 g.m.c.ex) := by rw [kg.out.cell]; rfl
  have z9 : x1.cell? ⟨w.heap.size, 9, none⟩ = some (.bool g.m.a.neg) := by rw [kg.out.cell]; rfl
  have z10 : x1.cell? ⟨w.heap.size, 10, none⟩ = some (.slice g.X3 g.m.a.ls.length g.c3) := by rw [kg.out.cell]; rfl
  have z11 : x1.cell? ⟨w.heap.size, 11, none⟩ = some (.int .i64 g.m.a.ex) := by rw [kg.out.cell]; rfl
  go_wp2_with fail
  refine (rzero_any g R gR.out x1).mono ?_
  rintro en x2 ⟨rfl, hb⟩
  replace gA := Lib.hid (AccE.below gA.out hb)
  replace gBV := Lib.hid (gBV.out.trans (hb.mono gBV.out.size))
  have sx2 : x1.heap.size ≤ x2.heap.size := hb.size
  replace kg := Lib.hid (kg.out.below hb kg.out.lt)
  replace r1 := Lib.hid (Recs.more (Recs.below r1.out hb) hb.size)
  replace ug := Lib.hid (RdO.below ug.out hb)
  replace gB := Lib.hid (gB.out.trans (hb.mono gB.out.size))
  clear hb
  clear z0 z1 z2 z3 z4 z5 z6 z7 z8 z9 z10 z11
  cases R with
  | true =>
    have gf := Lib.hid (accE_done (AccE.base_le gA.out gV.out) gB.out)
    go_wp2
    go_ret
    exact ⟨Ao, co, by (try rw [if_pos rfl]); rw [gln.out]; rfl, by (try rw [if_pos rfl]); rw [gln.out]; exact gf.out⟩
  | false =>
  have z0 : x2.cell? ⟨w.heap.size, 0, none⟩ = some (.bool g.m.s.neg) := by rw [kg.out.cell]; rfl
  have z1 : x2.cell? ⟨w.heap.size, 1, none⟩ = some (.slice g.X0 g.m.s.ls.length g.c0) := by rw [kg.out.cell]; rfl
  have z2 : x2.cell? ⟨w.heap.size, 2, none⟩ = some (.int .i64 g.m.s.ex) := by rw [kg.out.cell]; rfl
  have z3 : x2.cell? ⟨w.heap.size, 3, none⟩ = some (.bool g.m.w.neg) := by rw [kg.out.cell]; rfl
  have z4 : x2.cell? ⟨w.heap.size, 4, none⟩ = some (.slice g.X1 g.m.w.ls.length g.c1) := by rw [kg.out.cell]; rfl
  have z5 : x2.cell? ⟨w.heap.size, 5, none⟩ = some (.int .i64 g.m.w.ex) := by rw [kg.out.cell]; rfl
  have z6 : x2.cell? ⟨w.heap.size, 6, none⟩ = some (.bool g.m.c.neg) := by rw [kg.out.cell]; rfl
  have z7 : x2.cell? ⟨w.heap.size, 7, none⟩ = some (.slice g.X2 g.m.c.ls.length g.c2) := by rw [kg.out.cell]; rfl
  have z8 : x2.cell? ⟨w.heap.size, 8, none⟩ = some (.int .i64 g.m.c.ex) := by rw [kg.out.cell]; rfl
  have z9 : x2.cell? ⟨w.heap.size, 9, none⟩ = some (.bool g.m.a.neg) := by rw [kg.out.cell]; rfl
  have z10 : x2.cell? ⟨w.heap.size, 10, none⟩ = some (.slice g.X3 g.m.a.ls.length g.c3) := by rw [kg.out.cell]; rfl
  have z11 : x2.cell? ⟨w.heap.size, 11, none⟩ = some (.int .i64 g.m.a.ex) := by rw [kg.out.cell]; rfl
  go_wp2_with fail
  refine (rmtwin_any g.m.s.neg g.X0 g.m.s.ls.length g.c0 g.m.s.ex g.m.w.neg g.X1 g.m.w.ls.length g.c1 g.m.w.ex g.m.c.neg g.X2 g.m.c.ls.length g.c2 g.m.c.ex g.m.a.neg g.X3 g.m.a.ls.length g.c3 g.m.a.ex g.m gsg.out x2 ug.out).mono ?_
  rintro en x3 ⟨X0, c0, X1, c1, X2, c2, X3, c3, rfl, i0', i1, i2, i3, hb⟩
  have go' : Hid (ownE x3 V.heap.size ⟨⟨N, y, g.m⟩, X0, c0, X1, c1, X2, c2, X3, c3⟩) := Lib.hid ⟨⟨i0'.1, i0'.2.base_le gBV.out.size⟩, ⟨i1.1, i1.2.base_le gBV.out.size⟩, ⟨i2.1, i2.2.base_le gBV.out.size⟩, ⟨i3.1, i3.2.base_le gBV.out.size⟩⟩
  clear i0' i1 i2 i3
  replace gA := Lib.hid (AccE.below gA.out hb)
  replace gBV := Lib.hid (gBV.out.trans (hb.mono gBV.out.size))
  have sx3 : x2.heap.size ≤ x3.heap.size := hb.size
  replace kg := Lib.hid (kg.out.below hb kg.out.lt)
  replace r1 := Lib.hid (Recs.more (Recs.below r1.out hb) hb.size)
  replace ug := Lib.hid (RdO.below ug.out hb)
  replace gB := Lib.hid (gB.out.trans (hb.mono gB.out.size))
  clear hb
  clear z0 z1 z2 z3 z4 z5 z6 z7 z8 z9 z10 z11
  obtain ⟨os, hos, hown, hto⟩ := gA.out
  have gown := Lib.hid hown
  have gto := Lib.hid hto
  have hB5 := gBV.out
  clear hown hto
  go_wp2_with (at_builtin; refine wpList_push2 rfl (.tmp 15) (.tmp 21) 22 rfl V.heap.size 53 i0 _ 14 176 Tryd.underlying22 hi0 hz0 hz1 hz2 rfl (by omega) hB5 (Nat.le_refl _) (.slice Ao n co) n _ rfl gown.out [.int .i64 N, .int .u8 y, .bool g.m.s.neg, .slice X0 g.m.s.ls.length c0, .int .i64 g.m.s.ex, .bool g.m.w.neg, .slice X1 g.m.w.ls.length c1, .int .i64 g.m.w.ex, .bool g.m.c.neg, .slice X2 g.m.c.ls.length c2, .int .i64 g.m.c.ex, .bool g.m.a.neg, .slice X3 g.m.a.ls.length c3, .int .i64 g.m.a.ex] rfl (one14 _ _ _ _ _ _ _ _ _ _ _ _ _ _ _ _ _ _ _ _ _ _) rfl (by unfold maxLen; omega) (by omega) ?_; intro v6 w6 ho6 hb6 hk6; have hA6 := accE_push (o := ⟨⟨N, y, g.m⟩, X0, c0, X1, c1, X2, c2, X3, c3⟩) gown.out gto.out go'.out ho6 hk6; rw [hos] at hA6; obtain ⟨A6, c6, rfl⟩ := accE_slice hA6; have gA6 := Lib.hid hA6; clear ho6 hk6 hA6)
  have gB6 := Lib.hid (gV0.out.trans (hb6.mono gV0.out.size))
  have gf := Lib.hid (accE_done (AccE.base_le gA6.out gV.out) gB6.out)
  clear hb6
  first | go_ret | (go_wp2; go_ret)
  exact ⟨A6, c6, by (try rw [if_neg (by decide)]); (try rw [List.length_append]); rw [gln.out]; rfl, by (try rw [if_neg (by decide)]); (try rw [List.length_append]); rw [gln.out]; exact gf.out⟩
set_option maxHeartbeats 16000000 in
theorem rbook_any (A : Option Addr) (n c : Nat) (l : List En) (hm : n ≤ 8300) (hs : ∀ x ∈ l, smM x.give) (w : World) (h1 : Ens w w.heap.size A n l) (N y : Int) (g : MB) (hsg : smM g.m) (ug0 : RdO w g) : Calls Tryd.prog 12 #[.slice A n c, .int .i64 N, .int .u8 y, .agg #[.bool g.m.s.neg, .slice g.X0 g.m.s.ls.length g.c0, .int .i64 g.m.s.ex, .bool g.m.w.neg, .slice g.X1 g.m.w.ls.length g.c1, .int .i64 g.m.w.ex, .bool g.m.c.neg, .slice g.X2 g.m.c.ls.length g.c2, .int .i64 g.m.c.ex, .bool g.m.a.neg, .slice g.X3 g.m.a.ls.length g.c3, .int .i64 g.m.a.ex]] w (BookP l N y g.m w) := by
  have gln := Lib.hid (ens_len h1)
  obtain ⟨V, hV⟩ : ∃ V, V = w.alloc (.cells #[.bool g.m.s.neg, .slice g.X0 g.m.s.ls.length g.c0, .int .i64 g.m.s.ex, .bool g.m.w.neg, .slice g.X1 g.m.w.ls.length g.c1, .int .i64 g.m.w.ex, .bool g.m.c.neg, .slice g.X2 g.m.c.ls.length g.c2, .int .i64 g.m.c.ex, .bool g.m.a.neg, .slice g.X3 g.m.a.ls.length g.c3, .int .i64 g.m.a.ex] 27) := ⟨_, rfl⟩
  have hB : Below w.heap.size w V := by rw [hV]; exact (Below.refl _ w).alloc (Nat.le_refl _) _
  have kg : Hid (Blk V w.heap.size 27 #[.bool g.m.s.neg, .slice g.X0 g.m.s.ls.length g.c0, .int .i64 g.m.s.ex, .bool g.m.w.neg, .slice g.X1 g.m.w.ls.length g.c1, .int .i64 g.m.w.ex, .bool g.m.c.neg, .slice g.X2 g.m.c.ls.length g.c2, .int .i64 g.m.c.ex, .bool g.m.a.neg, .slice g.X3 g.m.a.ls.length g.c3, .int .i64 g.m.a.ex]) := Lib.hid (by rw [hV]; exact Blk.new w _ _)
  have r1 := Lib.hid (Recs.more (Recs.below h1 hB) hB.size)
  have r0 := Lib.hid (Recs.more (Recs.below h1 hB) hB.size)
  have ug := Lib.hid (RdO.below ug0 hB)
  have ug0' := Lib.hid (RdO.below ug0 hB)
  have gB := Lib.hid hB
  have gBW := Lib.hid (Below.refl V.heap.size V)
  have gs := Lib.hid hs
  have gsg := Lib.hid hsg
  obtain ⟨E, hE⟩ : ∃ E, askL l N y = E := ⟨_, rfl⟩
  obtain ⟨Q, hQ⟩ : ∃ Q, mayM g.m = Q := ⟨_, rfl⟩
  have gE := Lib.hid hE
  have gQ := Lib.hid hQ
  clear hB h1 ug0 hs hsg hE hQ
  go_enter Tryd.func12, Tryd.ntmps12
  go_wp2_with fail
  rw [← hV]
  clear hV
  refine (rasked_any A n c l hm V r1.out N y).mono ?_
  rintro en x1 ⟨he, hb⟩
  rw [gE.out] at he
  subst he
  replace gBW := Lib.hid (gBW.out.trans (hb.mono gBW.out.size))
  have sx1 : V.heap.size ≤ x1.heap.size := hb.size
  replace kg := Lib.hid (kg.out.below hb kg.out.lt)
  replace r1 := Lib.hid (Recs.more (Recs.below r1.out hb) hb.size)
  replace ug := Lib.hid (RdO.below ug.out hb)
  replace gB := Lib.hid (gB.out.trans (hb.mono gB.out.size))
  clear hb
  by_cases h0 : E = 0
  rotate_left
  · have t0 : (E != 0) = true := bne_iff_ne.2 h0
    have gf := Lib.hid (book_no (w := w) (w' := x1) (l := l) (N := N) (y := y) (g := g.m) (E := E) (by unfold bkE; rw [gE.out, if_pos h0]) (by first | assumption | decide) gB.out)
    go_wp2
    go_ret2
    exact gf.out
  subst h0
  have z0 : x1.cell? ⟨w.heap.size, 0, none⟩ = some (.bool g.m.s.neg) := by rw [kg.out.cell]; rfl
  have z1 : x1.cell? ⟨w.heap.size, 1, none⟩ = some (.slice g.X0 g.m.s.ls.length g.c0) := by rw [kg.out.cell]; rfl
  have z2 : x1.cell? ⟨w.heap.size, 2, none⟩ = some (.int .i64 g.m.s.ex) := by rw [kg.out.cell]; rfl
  have z3 : x1.cell? ⟨w.heap.size, 3, none⟩ = some (.bool g.m.w.neg) := by rw [kg.out.cell]; rfl
  have z4 : x1.cell? ⟨w.heap.size, 4, none⟩ = some (.slice g.X1 g.m.w.ls.length g.c1) := by rw [kg.out.cell]; rfl
  have z5 : x1.cell? ⟨w.heap.size, 5, none⟩ = some (.int .i64 g.m.w.ex) := by rw [kg.out.cell]; rfl
  have z6 : x1.cell? ⟨w.heap.size, 6, none⟩ = some (.bool g.m.c.neg) := by rw [kg.out.cell]; rfl
  have z7 : x1.cell? ⟨w.heap.size, 7, none⟩ = some (.slice g.X2 g.m.c.ls.length g.c2) := by rw [kg.out.cell]; rfl
  have z8 : x1.cell? ⟨w.heap.size, 8, none⟩ = some (.int .i64 g.m.c.ex) := by rw [kg.out.cell]; rfl
  have z9 : x1.cell? ⟨w.heap.size, 9, none⟩ = some (.bool g.m.a.neg) := by rw [kg.out.cell]; rfl
  have z10 : x1.cell? ⟨w.heap.size, 10, none⟩ = some (.slice g.X3 g.m.a.ls.length g.c3) := by rw [kg.out.cell]; rfl
  have z11 : x1.cell? ⟨w.heap.size, 11, none⟩ = some (.int .i64 g.m.a.ex) := by rw [kg.out.cell]; rfl
  go_wp2_with fail
  refine (rmmay_any g.m.s.neg g.X0 g.m.s.ls.length g.c0 g.m.s.ex g.m.w.neg g.X1 g.m.w.ls.length g.c1 g.m.w.ex g.m.c.neg g.X2 g.m.c.ls.length g.c2 g.m.c.ex g.m.a.neg g.X3 g.m.a.ls.length g.c3 g.m.a.ex g.m Q gQ.out x1 ug.out).mono ?_
  rintro en x2 ⟨rfl, hb⟩
  replace gBW := Lib.hid (gBW.out.trans (hb.mono gBW.out.size))
  have sx2 : x1.heap.size ≤ x2.heap.size := hb.size
  replace kg := Lib.hid (kg.out.below hb kg.out.lt)
  replace r1 := Lib.hid (Recs.more (Recs.below r1.out hb) hb.size)
  replace ug := Lib.hid (RdO.below ug.out hb)
  replace gB := Lib.hid (gB.out.trans (hb.mono gB.out.size))
  clear hb
  clear z0 z1 z2 z3 z4 z5 z6 z7 z8 z9 z10 z11
  cases Q with
  | false =>
    have gf := Lib.hid (book_no (w := w) (w' := x2) (l := l) (N := N) (y := y) (g := g.m) (E := 8) (by unfold bkE; rw [gE.out, if_neg (by decide), if_pos gQ.out]) (by first | assumption | decide) gB.out)
    go_wp2
    go_ret2
    exact gf.out
  | true =>
  have gz : Hid (zrM g.m = decide (g.m = zM)) := Lib.hid (zrM_may gQ.out)
  obtain ⟨R, hR⟩ : ∃ R, zrM g.m = R := ⟨_, rfl⟩
  have gR := Lib.hid hR
  rw [hR] at gz
  clear hR
  have z0 : x2.cell? ⟨w.heap.size, 0, none⟩ = some (.bool g.m.s.neg) := by rw [kg.out.cell]; rfl
  have z1 : x2.cell? ⟨w.heap.size, 1, none⟩ = some (.slice g.X0 g.m.s.ls.length g.c0) := by rw [kg.out.cell]; rfl
  have z2 : x2.cell? ⟨w.heap.size, 2, none⟩ = some (.int .i64 g.m.s.ex) := by rw [kg.out.cell]; rfl
  have z3 : x2.cell? ⟨w.heap.size, 3, none⟩ = some (.bool g.m.w.neg) := by rw [kg.out.cell]; rfl
  have z4 : x2.cell? ⟨w.heap.size, 4, none⟩ = some (.slice g.X1 g.m.w.ls.length g.c1) := by rw [kg.out.cell]; rfl
  have z5 : x2.cell? ⟨w.heap.size, 5, none⟩ = some (.int .i64 g.m.w.ex) := by rw [kg.out.cell]; rfl
  have z6 : x2.cell? ⟨w.heap.size, 6, none⟩ = some (.bool g.m.c.neg) := by rw [kg.out.cell]; rfl
  have z7 : x2.cell? ⟨w.heap.size, 7, none⟩ = some (.slice g.X2 g.m.c.ls.length g.c2) := by rw [kg.out.cell]; rfl
  have z8 : x2.cell? ⟨w.heap.size, 8, none⟩ = some (.int .i64 g.m.c.ex) := by rw [kg.out.cell]; rfl
  have z9 : x2.cell? ⟨w.heap.size, 9, none⟩ = some (.bool g.m.a.neg) := by rw [kg.out.cell]; rfl
  have z10 : x2.cell? ⟨w.heap.size, 10, none⟩ = some (.slice g.X3 g.m.a.ls.length g.c3) := by rw [kg.out.cell]; rfl
  have z11 : x2.cell? ⟨w.heap.size, 11, none⟩ = some (.int .i64 g.m.a.ex) := by rw [kg.out.cell]; rfl
  go_wp2_with fail
  refine (rzero_any g R gR.out x2).mono ?_
  rintro en x3 ⟨rfl, hb⟩
  replace gBW := Lib.hid (gBW.out.trans (hb.mono gBW.out.size))
  have sx3 : x2.heap.size ≤ x3.heap.size := hb.size
  replace kg := Lib.hid (kg.out.below hb kg.out.lt)
  replace r1 := Lib.hid (Recs.more (Recs.below r1.out hb) hb.size)
  replace ug := Lib.hid (RdO.below ug.out hb)
  replace gB := Lib.hid (gB.out.trans (hb.mono gB.out.size))
  clear hb
  clear z0 z1 z2 z3 z4 z5 z6 z7 z8 z9 z10 z11
  have hle : n ≤ 8192 := by have h := (chkL_zero (askL_zero gE.out).1).1; rw [gln.out] at h; exact h
  by_cases hf : R = false ∧ n = 8192
  · obtain ⟨rfl, hn⟩ := hf
    have t5 : (8192 : Int) ≤ (n : Int) := by omega
    have t6 : 8192 ≤ n := by omega
    have hnz : g.m ≠ zM := of_decide_eq_false gz.out.symm
    have gf := Lib.hid (book_no (w := w) (w' := x3) (l := l) (N := N) (y := y) (g := g.m) (E := 9) (by unfold bkE; rw [gE.out, if_neg (by decide), if_neg (by rw [gQ.out]; decide), if_neg hnz, if_pos (by rw [gln.out]; exact hn)]) (by first | assumption | decide) gB.out)
    clear hn hnz
    go_wp2
    go_ret2
    exact gf.out
  have ge : Hid (bkE l N y g.m = 0 ∧ bkL l N y g.m = if R = true then l else l ++ [⟨N, y, g.m⟩]) := Lib.hid (by
    have e1 : bkE l N y g.m = 0 := by
      unfold bkE
      rw [gE.out, if_neg (by decide), if_neg (by rw [gQ.out]; decide)]
      by_cases hz : g.m = zM
      · rw [if_pos hz]
      · rw [if_neg hz, if_neg]
        rw [gln.out]
        intro hn
        exact hf ⟨gz.out.trans (decide_eq_false hz), hn⟩
    refine ⟨e1, ?_⟩
    unfold bkL
    rw [e1, if_neg (by decide)]
    by_cases hz : g.m = zM
    · rw [if_pos hz, if_pos (gz.out.trans (decide_eq_true hz))]
    · rw [if_neg hz, if_neg (by rw [gz.out.trans (decide_eq_false hz)]; decide)])
  have t9 : R = true ∨ (R = false ∧ ¬ (8192 : Int) ≤ (n : Int)) := by
    cases R
    · exact .inr ⟨rfl, fun h => hf ⟨rfl, by omega⟩⟩
    · exact .inl rfl
  clear hf
  obtain ⟨lq, hlq⟩ : ∃ lq, (if R = true then l else l ++ [⟨N, y, g.m⟩]) = lq := ⟨_, rfl⟩
  have glq := Lib.hid hlq
  have hbk := fun w' (hb : Below V.heap.size V w') => rbooked_any A n c l hm gs.out w' (Recs.more (Recs.below r0.out hb) hb.size) N y g gsg.out (RdO.below ug0'.out hb) R gR.out
  rw [hlq] at hbk ge
  clear hlq
  have gBV : Hid (Below V.heap.size V x3) := gBW
  have hbc := hbk x3 gBV.out
  clear hbk
  rcases t9 with rfl | ⟨rfl, t5⟩
  · have z0 : x3.cell? ⟨w.heap.size, 0, none⟩ = some (.bool g.m.s.neg) := by rw [kg.out.cell]; rfl
    have z1 : x3.cell? ⟨w.heap.size, 1, none⟩ = some (.slice g.X0 g.m.s.ls.length g.c0) := by rw [kg.out.cell]; rfl
    have z2 : x3.cell? ⟨w.heap.size, 2, none⟩ = some (.int .i64 g.m.s.ex) := by rw [kg.out.cell]; rfl
    have z3 : x3.cell? ⟨w.heap.size, 3, none⟩ = some (.bool g.m.w.neg) := by rw [kg.out.cell]; rfl
    have z4 : x3.cell? ⟨w.heap.size, 4, none⟩ = some (.slice g.X1 g.m.w.ls.length g.c1) := by rw [kg.out.cell]; rfl
    have z5 : x3.cell? ⟨w.heap.size, 5, none⟩ = some (.int .i64 g.m.w.ex) := by rw [kg.out.cell]; rfl
    have z6 : x3.cell? ⟨w.heap.size, 6, none⟩ = some (.bool g.m.c.neg) := by rw [kg.out.cell]; rfl
    have z7 : x3.cell? ⟨w.heap.size, 7, none⟩ = some (.slice g.X2 g.m.c.ls.length g.c2) := by rw [kg.out.cell]; rfl
    have z8 : x3.cell? ⟨w.heap.size, 8, none⟩ = some (.int .i64 g.m.c.ex) := by rw [kg.out.cell]; rfl
    have z9 : x3.cell? ⟨w.heap.size, 9, none⟩ = some (.bool g.m.a.neg) := by rw [kg.out.cell]; rfl
    have z10 : x3.cell? ⟨w.heap.size, 10, none⟩ = some (.slice g.X3 g.m.a.ls.length g.c3) := by rw [kg.out.cell]; rfl
    have z11 : x3.cell? ⟨w.heap.size, 11, none⟩ = some (.int .i64 g.m.a.ex) := by rw [kg.out.cell]; rfl
    go_wp2_with fail
    refine hbc.mono ?_
    rintro en w9 ⟨Ao, co, rfl, hT⟩
    have gf : Hid (BookP l N y g.m w (.returned (.tuple #[.slice Ao lq.length co, .int .i64 0])) w9) := Lib.hid ⟨Ao, lq.length, co, by rw [ge.out.1], by rw [ge.out.2], by rw [ge.out.2]; exact accE_done (AccE.base_le hT.2.2.2.2 gB.out.size) (gB.out.trans (hT.2.2.2.1.mono gB.out.size))⟩
    clear hT hbc
    clear z0 z1 z2 z3 z4 z5 z6 z7 z8 z9 z10 z11
    go_wp2
    go_ret2
    exact gf.out
  · have z0 : x3.cell? ⟨w.heap.size, 0, none⟩ = some (.bool g.m.s.neg) := by rw [kg.out.cell]; rfl
    have z1 : x3.cell? ⟨w.heap.size, 1, none⟩ = some (.slice g.X0 g.m.s.ls.length g.c0) := by rw [kg.out.cell]; rfl
    have z2 : x3.cell? ⟨w.heap.size, 2, none⟩ = some (.int .i64 g.m.s.ex) := by rw [kg.out.cell]; rfl
    have z3 : x3.cell? ⟨w.heap.size, 3, none⟩ = some (.bool g.m.w.neg) := by rw [kg.out.cell]; rfl
    have z4 : x3.cell? ⟨w.heap.size, 4, none⟩ = some (.slice g.X1 g.m.w.ls.length g.c1) := by rw [kg.out.cell]; rfl
    have z5 : x3.cell? ⟨w.heap.size, 5, none⟩ = some (.int .i64 g.m.w.ex) := by rw [kg.out.cell]; rfl
    have z6 : x3.cell? ⟨w.heap.size, 6, none⟩ = some (.bool g.m.c.neg) := by rw [kg.out.cell]; rfl
    have z7 : x3.cell? ⟨w.heap.size, 7, none⟩ = some (.slice g.X2 g.m.c.ls.length g.c2) := by rw [kg.out.cell]; rfl
    have z8 : x3.cell? ⟨w.heap.size, 8, none⟩ = some (.int .i64 g.m.c.ex) := by rw [kg.out.cell]; rfl
    have z9 : x3.cell? ⟨w.heap.size, 9, none⟩ = some (.bool g.m.a.neg) := by rw [kg.out.cell]; rfl
    have z10 : x3.cell? ⟨w.heap.size, 10, none⟩ = some (.slice g.X3 g.m.a.ls.length g.c3) := by rw [kg.out.cell]; rfl
    have z11 : x3.cell? ⟨w.heap.size, 11, none⟩ = some (.int .i64 g.m.a.ex) := by rw [kg.out.cell]; rfl
    have t6 : ¬ 8192 ≤ n := by omega
    go_wp2_with fail
    refine hbc.mono ?_
    rintro en w9 ⟨Ao, co, rfl, hT⟩
    have gf : Hid (BookP l N y g.m w (.returned (.tuple #[.slice Ao lq.length co, .int .i64 0])) w9) := Lib.hid ⟨Ao, lq.length, co, by rw [ge.out.1], by rw [ge.out.2], by rw [ge.out.2]; exact accE_done (AccE.base_le hT.2.2.2.2 gB.out.size) (gB.out.trans (hT.2.2.2.1.mono gB.out.size))⟩
    clear hT hbc
    clear z0 z1 z2 z3 z4 z5 z6 z7 z8 z9 z10 z11
    go_wp2
    go_ret2
    exact gf.out
end Go.Proofs.YtmppalgecboeeaaDoor
