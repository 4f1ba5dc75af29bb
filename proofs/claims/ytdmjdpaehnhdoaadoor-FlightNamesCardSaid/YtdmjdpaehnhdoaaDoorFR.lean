/- Flight's Door: the walk of FlightNames -/
import Derived.Test.YtdmjdpaehnhdoaaDoorFQ
import Derived.Test.YtdmjdpaehnhdoaaDoorFP
import Derived.Test.YtdmjdpaehnhdoaaDoorKA
import Derived.Test.YtdmjdpaehnhdoaaDoorKitT
namespace Go.Proofs.YtdmjdpaehnhdoaaDoor
open Go.ChangeShapes Go.WideShapes Go.ChangeAt Go.RowKit
set_option linter.unusedSimpArgs false
set_option linter.unusedVariables false
open Go.Shelf
set_option maxRecDepth 100000
theorem accE_hd0 {w : World} {base n c : Nat} {A : Option Addr} {l : List En} (h : AccE w base (.slice A n c) n l) (h0 : 0 < n) : ∃ g, A = some ⟨g, 0, none⟩ ∧ g < w.heap.size ∧ ∀ x, l[0]? = some x → w.cell? ⟨g, 0, none⟩ = some (.int .i64 x.nu) := by
  obtain ⟨os, e, ho, ht⟩ := h
  have hfl := flat15_len os
  have hn := ho.1
  rcases ho.2 with ⟨h1, h2⟩ | ⟨g, cap, cur, hv, hbg, hh, hnc, hcm, hcs, htk⟩
  · injection h1 with _ h1 _
    omega
  · injection hv with hA _ _
    have hh : Blk w g 48 cur := hh
    refine ⟨g, hA, hh.lt, fun x hk => ?_⟩
    rw [← e, List.getElem?_map] at hk
    obtain ⟨o, hok, rfl⟩ := Option.map_eq_some_iff.1 hk
    have h5 := flat15_at os 0 0 o (.int .i64 o.x.nu) hok rfl (by omega)
    rw [← htk, List.getElem?_take] at h5
    rw [hh.cell]
    split at h5
    · simpa using h5
    · cases h5
theorem nlaunch (A : Option Addr) (n c : Nat) (l : List En) (hm : n ≤ 10000) (hs : ∀ x ∈ l, smM x.give) (N e : Int) (l' : List En) (E : Int) (hL : LchF l N e sixM l' E) (om : EO) (em : om.x.give = sixM) (w : World) (h : Ens w w.heap.size A n l) (um : RdM w w.heap.size om.x.give.s.neg om.X0 om.x.give.s.ls.length om.c0 om.x.give.s.ex om.x.give.w.neg om.X1 om.x.give.w.ls.length om.c1 om.x.give.w.ex om.x.give.c.neg om.X2 om.x.give.c.ls.length om.c2 om.x.give.c.ex om.x.give.a.neg om.X3 om.x.give.a.ls.length om.c3 om.x.give.a.ex om.x.give) : Calls Tryd.prog 26 #[.slice A n c, .int .i64 N, .int .i64 e, .agg #[.bool om.x.give.s.neg, .slice om.X0 om.x.give.s.ls.length om.c0, .int .i64 om.x.give.s.ex, .bool om.x.give.w.neg, .slice om.X1 om.x.give.w.ls.length om.c1, .int .i64 om.x.give.w.ex, .bool om.x.give.c.neg, .slice om.X2 om.x.give.c.ls.length om.c2, .int .i64 om.x.give.c.ex, .bool om.x.give.a.neg, .slice om.X3 om.x.give.a.ls.length om.c3, .int .i64 om.x.give.a.ex]] w fun en w' => ∃ A' n' c', en = .returned (.tuple #[.slice A' n' c', .int .i64 E]) ∧ TwE w n' l' A' c' w' := by
  refine (launch_any A n c l hm hs N e om.x.give.s.neg om.X0 om.x.give.s.ls.length om.c0 om.x.give.s.ex om.x.give.w.neg om.X1 om.x.give.w.ls.length om.c1 om.x.give.w.ex om.x.give.c.neg om.X2 om.x.give.c.ls.length om.c2 om.x.give.c.ex om.x.give.a.neg om.X3 om.x.give.a.ls.length om.c3 om.x.give.a.ex om.x.give (by rw [em]; exact six_sm) w h um).mono ?_
  rintro en w2 ⟨l2, v2, E2, rfl, hF, hO⟩
  rw [em] at hF
  obtain ⟨rfl, rfl⟩ := lch_one hF hL
  obtain ⟨A2, n2, c2, rfl, hT⟩ := hO
  exact ⟨A2, n2, c2, rfl, hT⟩
theorem nsum (A : Option Addr) (c : Nat) (w : World) (h : Ens w w.heap.size A 16 (lfN 16)) (hT : Tab w) : Calls Tryd.prog 10 #[.slice A 16 c, .int .i64 0] w fun en w' => ∃ s : MB, s.m = mmN 16 ∧ en = .returned (.tuple #[.agg #[.bool s.m.s.neg, .slice s.X0 s.m.s.ls.length s.c0, .int .i64 s.m.s.ex, .bool s.m.w.neg, .slice s.X1 s.m.w.ls.length s.c1, .int .i64 s.m.w.ex, .bool s.m.c.neg, .slice s.X2 s.m.c.ls.length s.c2, .int .i64 s.m.c.ex, .bool s.m.a.neg, .slice s.X3 s.m.a.ls.length s.c3, .int .i64 s.m.a.ex], .int .i64 0]) ∧ OwM w' w.heap.size s ∧ Below w.heap.size w w' := by
  refine (fsum_any A 16 c (lfN 16) (by omega) w h (lfN_lt 16) 0 hT).mono ?_
  rintro en w2 ⟨E0, hc0, s, es, he, us, hb⟩
  obtain rfl := chkF_one hc0 (lfN_chk (by omega))
  have e1 : lsE (fsA 0 0) (sumFl (lfN 16) 0) = 0 := by rw [lfN_sum]; rfl
  have e2 : lsM (fsA 0 0) (sumFl (lfN 16) 0) = mmN 16 := by rw [lfN_sum]; rfl
  exact ⟨s, es.trans e2, by rw [he, e1], us, hb⟩
def askM : Ms := ⟨⟨false, [], 0⟩, ⟨false, [], 0⟩, ⟨false, [1], 0⟩, ⟨false, [], 0⟩⟩
theorem ask_sm : smM askM := ⟨by decide, by decide, by decide, by decide⟩
theorem ask_may : mayM askM = true := by decide
theorem ask_rd {w : World} {b g : Nat} (h : OwnR w b 71 (some ⟨g, 0, none⟩) 1 (ints .u32 [1])) : RdM w w.heap.size false none 0 0 0 false none 0 0 0 false (some ⟨g, 0, none⟩) 1 1 0 false none 0 0 0 askM := ⟨rdD_zero _ _, rdD_zero _ _, ⟨rfl, rfl, rfl, Nat.le_refl _, h.reads⟩, rdD_zero _ _⟩
set_option maxHeartbeats 32000000 in
theorem FlightNames.walk (w : World) (hT : Tab w) : Calls Tryd.prog 5 #[] w fun en w' => en = .returned (.bool true) ∧ Below w.heap.size w w' := by
  have gT0 := Lib.hid hT
  clear hT
  go_enter Tryd.func5, Tryd.ntmps5
  go_wp2
  go_loopw [1, 2] (fun v t wr => ∃ (k : Nat) (A : Option Addr) (c : Nat), k ≤ 16 ∧ v = .slice A k c ∧ t = .int .i64 (15 - (k : Int)) ∧ Hid (Ens wr wr.heap.size A k (lfN k)) ∧ Hid (0 < k → ∃ g, A = some ⟨g, 0, none⟩ ∧ wr.cell? ⟨g, 0, none⟩ = some (.int .i64 (16 - (k : Int))) ∧ g < wr.heap.size) ∧ Hid (Below w.heap.size w wr) ∧ Hid (Tab wr)) (fun _ t _ => (intOf t + 1).toNat)
  case atStart => exact ⟨0, none, 0, by omega, rfl, rfl, Lib.hid Recs.none_, Lib.hid (fun h => absurd h (by omega)), Lib.hid (Below.refl _ _), Lib.hid gT0.out⟩
  case round =>
    clear gT0
    obtain ⟨k, A, cr, hk, rfl, rfl, rE, gH, gB, gT⟩ := hrel
    by_cases hlt : k < 16
    · have y1 : (0 : Int) ≤ 15 - (k : Int) := by omega
      have d1 : decide ((0 : Int) ≤ 15 - (k : Int)) = true := decide_eq_true y1
      clear gH
      go_wp2_with fail
      refine (six_any wr).mono ?_
      rintro en w1 ⟨om, rfl, em, um, hb1⟩
      replace em := Lib.hid em
      replace um := Lib.hid um
      replace rE := Lib.hid (Recs.more (Recs.below rE.out hb1) hb1.size)
      replace gB := Lib.hid (gB.out.trans (hb1.mono gB.out.size))
      replace gT := Lib.hid (Tab.below gT.out hb1 gT.out.2)
      clear hb1
      go_wp2_with fail
      refine (nlaunch A k cr (lfN k) (by omega) (lfN_sm k) _ 0 (lfN (k + 1)) 0 (lfN_up hlt) om em.out w1 rE.out um.out.rdM).mono ?_
      rintro en w2 ⟨A2, n2, c2, rfl, hT⟩
      have hb := hT.2.2.2.1
      obtain rfl : n2 = k + 1 := by rw [← ens_len hT.2.1, lfN_len]
      obtain ⟨g, rfl, hg, hq⟩ := accE_hd0 hT.2.2.2.2 (by omega)
      have gH : Hid (w2.cell? ⟨g, 0, none⟩ = some (.int .i64 (15 - (k : Int))) ∧ g < w2.heap.size) := Lib.hid ⟨hq _ rfl, hg⟩
      have rE2 := Lib.hid hT.2.1
      replace gB := Lib.hid (gB.out.trans (hb.mono gB.out.size))
      replace gT := Lib.hid (Tab.below gT.out hb gT.out.2)
      clear hT hb hq hg rE em um
      go_wp2
      go_roundw
      case rel => exact ⟨k + 1, some ⟨g, 0, none⟩, c2, by omega, rfl, by go_num, rE2, Lib.hid (fun _ => ⟨g, rfl, by rw [show (16 - ((k + 1 : Nat) : Int)) = 15 - (k : Int) by omega]; exact gH.out.1, gH.out.2⟩), gB, gT⟩
      case measure => simp [intOf]; omega
    · obtain rfl : k = 16 := by omega
      obtain ⟨g, rfl, hc0, hg0⟩ := gH.out (by omega)
      replace gH : Hid (wr.cell? ⟨g, 0, none⟩ = some (.int .i64 0) ∧ g < wr.heap.size) := Lib.hid ⟨hc0, hg0⟩
      rw [show (15 - ((16 : Nat) : Int)) = -1 by decide]
      clear hc0 hg0 hk hlt
      go_wp2_with fail
      refine (six_any wr).mono ?_
      rintro en x1 ⟨om, rfl, em, um, hb⟩
      replace em := Lib.hid em
      replace um := Lib.hid um
      replace gH := Lib.hid (⟨(hb.cell (p := ⟨g, 0, none⟩) gH.out.2).trans gH.out.1, Nat.lt_of_lt_of_le gH.out.2 hb.size⟩ : _ ∧ _)
      have sx1 : wr.heap.size ≤ x1.heap.size := hb.size
      replace gT := Lib.hid (Tab.below gT.out hb gT.out.2)
      replace rE := Lib.hid (Recs.more (Recs.below rE.out hb) hb.size)
      replace gB := Lib.hid (gB.out.trans (hb.mono gB.out.size))
      clear hb
      go_wp2_with fail
      refine (nlaunch (some ⟨g, 0, none⟩) 16 cr (lfN 16) (by omega) (lfN_sm 16) 16 0 [] 9 lfN_full om em.out x1 rE.out um.out.rdM).mono ?_
      rintro en x2 ⟨Aa, na, ca, rfl, hT⟩
      have hb := hT.2.2.2.1
      clear hT em um
      replace gH := Lib.hid (⟨(hb.cell (p := ⟨g, 0, none⟩) gH.out.2).trans gH.out.1, Nat.lt_of_lt_of_le gH.out.2 hb.size⟩ : _ ∧ _)
      have sx2 : x1.heap.size ≤ x2.heap.size := hb.size
      replace gT := Lib.hid (Tab.below gT.out hb gT.out.2)
      replace rE := Lib.hid (Recs.more (Recs.below rE.out hb) hb.size)
      replace gB := Lib.hid (gB.out.trans (hb.mono gB.out.size))
      clear hb
      go_wp2_with fail
      refine (six_any x2).mono ?_
      rintro en x3 ⟨om, rfl, em, um, hb⟩
      replace em := Lib.hid em
      replace um := Lib.hid um
      replace gH := Lib.hid (⟨(hb.cell (p := ⟨g, 0, none⟩) gH.out.2).trans gH.out.1, Nat.lt_of_lt_of_le gH.out.2 hb.size⟩ : _ ∧ _)
      have sx3 : x2.heap.size ≤ x3.heap.size := hb.size
      replace gT := Lib.hid (Tab.below gT.out hb gT.out.2)
      replace rE := Lib.hid (Recs.more (Recs.below rE.out hb) hb.size)
      replace gB := Lib.hid (gB.out.trans (hb.mono gB.out.size))
      clear hb
      go_wp2_with fail
      refine (nlaunch (some ⟨g, 0, none⟩) 16 cr (lfN 16) (by omega) (lfN_sm 16) 3 0 [] 12 lfN_again om em.out x3 rE.out um.out.rdM).mono ?_
      rintro en x4 ⟨Ab, nb, cb, rfl, hT⟩
      have hb := hT.2.2.2.1
      clear hT em um
      replace gH := Lib.hid (⟨(hb.cell (p := ⟨g, 0, none⟩) gH.out.2).trans gH.out.1, Nat.lt_of_lt_of_le gH.out.2 hb.size⟩ : _ ∧ _)
      have sx4 : x3.heap.size ≤ x4.heap.size := hb.size
      replace gT := Lib.hid (Tab.below gT.out hb gT.out.2)
      replace rE := Lib.hid (Recs.more (Recs.below rE.out hb) hb.size)
      replace gB := Lib.hid (gB.out.trans (hb.mono gB.out.size))
      clear hb
      go_wp2_with fail
      refine (six_any x4).mono ?_
      rintro en x5 ⟨om, rfl, em, um, hb⟩
      replace em := Lib.hid em
      replace um := Lib.hid um
      replace gH := Lib.hid (⟨(hb.cell (p := ⟨g, 0, none⟩) gH.out.2).trans gH.out.1, Nat.lt_of_lt_of_le gH.out.2 hb.size⟩ : _ ∧ _)
      have sx5 : x4.heap.size ≤ x5.heap.size := hb.size
      replace gT := Lib.hid (Tab.below gT.out hb gT.out.2)
      replace rE := Lib.hid (Recs.more (Recs.below rE.out hb) hb.size)
      replace gB := Lib.hid (gB.out.trans (hb.mono gB.out.size))
      clear hb
      go_wp2_with fail
      refine (nlaunch (some ⟨g, 0, none⟩) 16 cr (lfN 16) (by omega) (lfN_sm 16) 1048576 0 [] 2 lfN_arg om em.out x5 rE.out um.out.rdM).mono ?_
      rintro en x6 ⟨Ac, nc, cc, rfl, hT⟩
      have hb := hT.2.2.2.1
      clear hT em um
      replace gH := Lib.hid (⟨(hb.cell (p := ⟨g, 0, none⟩) gH.out.2).trans gH.out.1, Nat.lt_of_lt_of_le gH.out.2 hb.size⟩ : _ ∧ _)
      have sx6 : x5.heap.size ≤ x6.heap.size := hb.size
      replace gT := Lib.hid (Tab.below gT.out hb gT.out.2)
      replace rE := Lib.hid (Recs.more (Recs.below rE.out hb) hb.size)
      replace gB := Lib.hid (gB.out.trans (hb.mono gB.out.size))
      clear hb
      go_wp2_with fail
      refine (six_any x6).mono ?_
      rintro en x7 ⟨om, rfl, em, um, hb⟩
      replace em := Lib.hid em
      replace um := Lib.hid um
      replace gH := Lib.hid (⟨(hb.cell (p := ⟨g, 0, none⟩) gH.out.2).trans gH.out.1, Nat.lt_of_lt_of_le gH.out.2 hb.size⟩ : _ ∧ _)
      have sx7 : x6.heap.size ≤ x7.heap.size := hb.size
      replace gT := Lib.hid (Tab.below gT.out hb gT.out.2)
      replace rE := Lib.hid (Recs.more (Recs.below rE.out hb) hb.size)
      replace gB := Lib.hid (gB.out.trans (hb.mono gB.out.size))
      clear hb
      go_wp2_with fail
      refine (nlaunch none 0 0 [] (by omega) (fun x h => by cases h) 1 65536 [] 2 nil_arg om em.out x7 Recs.none_ um.out.rdM).mono ?_
      rintro en x8 ⟨Ad, nd, cd, rfl, hT⟩
      have hb := hT.2.2.2.1
      clear hT em um
      replace gH := Lib.hid (⟨(hb.cell (p := ⟨g, 0, none⟩) gH.out.2).trans gH.out.1, Nat.lt_of_lt_of_le gH.out.2 hb.size⟩ : _ ∧ _)
      have sx8 : x7.heap.size ≤ x8.heap.size := hb.size
      replace gT := Lib.hid (Tab.below gT.out hb gT.out.2)
      replace rE := Lib.hid (Recs.more (Recs.below rE.out hb) hb.size)
      replace gB := Lib.hid (gB.out.trans (hb.mono gB.out.size))
      clear hb
      go_wp2_with fail
      refine (six_any x8).mono ?_
      rintro en x9 ⟨om, rfl, em, um, hb⟩
      replace em := Lib.hid em
      replace um := Lib.hid um
      replace gH := Lib.hid (⟨(hb.cell (p := ⟨g, 0, none⟩) gH.out.2).trans gH.out.1, Nat.lt_of_lt_of_le gH.out.2 hb.size⟩ : _ ∧ _)
      have sx9 : x8.heap.size ≤ x9.heap.size := hb.size
      replace gT := Lib.hid (Tab.below gT.out hb gT.out.2)
      replace rE := Lib.hid (Recs.more (Recs.below rE.out hb) hb.size)
      replace gB := Lib.hid (gB.out.trans (hb.mono gB.out.size))
      clear hb
      go_wp2_with fail
      refine (fof1 om.x.give.s.neg om.X0 om.x.give.s.ls.length om.c0 om.x.give.s.ex om.x.give.w.neg om.X1 om.x.give.w.ls.length om.c1 om.x.give.w.ex om.x.give.c.neg om.X2 om.x.give.c.ls.length om.c2 om.x.give.c.ex om.x.give.a.neg om.X3 om.x.give.a.ls.length om.c3 om.x.give.a.ex om.x.give (by rw [em.out]; exact six_sm) (by rw [em.out]; exact may_six) (by rw [em.out]; rfl) (by rw [em.out]; rfl) x9 um.out.rdM).mono ?_
      rintro en x10 ⟨o1, e1, rfl, u1, hb⟩
      replace e1 := Lib.hid (e1.trans em.out)
      clear em um
      replace u1 := Lib.hid u1.rd
      replace gH := Lib.hid (⟨(hb.cell (p := ⟨g, 0, none⟩) gH.out.2).trans gH.out.1, Nat.lt_of_lt_of_le gH.out.2 hb.size⟩ : _ ∧ _)
      have sx10 : x9.heap.size ≤ x10.heap.size := hb.size
      replace gT := Lib.hid (Tab.below gT.out hb gT.out.2)
      replace rE := Lib.hid (Recs.more (Recs.below rE.out hb) hb.size)
      replace gB := Lib.hid (gB.out.trans (hb.mono gB.out.size))
      clear hb
      obtain ⟨tm, ht⟩ : ∃ t, t = x10.heap.size := ⟨_, rfl⟩
      obtain ⟨y10m, hy10m⟩ : ∃ W, W = x10.alloc (.cells #[.bool o1.m.s.neg, .slice o1.X0 o1.m.s.ls.length o1.c0, .int .i64 o1.m.s.ex, .bool o1.m.w.neg, .slice o1.X1 o1.m.w.ls.length o1.c1, .int .i64 o1.m.w.ex, .bool o1.m.c.neg, .slice o1.X2 o1.m.c.ls.length o1.c2, .int .i64 o1.m.c.ex, .bool o1.m.a.neg, .slice o1.X3 o1.m.a.ls.length o1.c3, .int .i64 o1.m.a.ex] 27) := ⟨_, rfl⟩
      have hb : Below x10.heap.size x10 y10m := by rw [hy10m]; exact (Below.refl _ _).alloc (Nat.le_refl _) _
      have km : Blk y10m x10.heap.size 27 #[.bool o1.m.s.neg, .slice o1.X0 o1.m.s.ls.length o1.c0, .int .i64 o1.m.s.ex, .bool o1.m.w.neg, .slice o1.X1 o1.m.w.ls.length o1.c1, .int .i64 o1.m.w.ex, .bool o1.m.c.neg, .slice o1.X2 o1.m.c.ls.length o1.c2, .int .i64 o1.m.c.ex, .bool o1.m.a.neg, .slice o1.X3 o1.m.a.ls.length o1.c3, .int .i64 o1.m.a.ex] := by rw [hy10m]; exact Blk.new _ _ _
      rw [← ht] at km
      replace km := Lib.hid km
      replace gH := Lib.hid (⟨(hb.cell (p := ⟨g, 0, none⟩) gH.out.2).trans gH.out.1, Nat.lt_of_lt_of_le gH.out.2 hb.size⟩ : _ ∧ _)
      have sy10m : x10.heap.size ≤ y10m.heap.size := hb.size
      replace gT := Lib.hid (Tab.below gT.out hb gT.out.2)
      replace rE := Lib.hid (Recs.more (Recs.below rE.out hb) hb.size)
      replace u1 := Lib.hid (RdO.below u1.out hb)
      replace gB := Lib.hid (gB.out.trans (hb.mono gB.out.size))
      clear hb
      go_wp2_with fail
      rw [← hy10m]
      clear hy10m
      rw [← ht]
      clear ht
      refine (dof 1 (.inr (.inl rfl)) y10m).mono ?_
      rintro en x11 ⟨g1, rfl, ho1, hb⟩
      replace ho1 := Lib.hid ho1
      replace gH := Lib.hid (⟨(hb.cell (p := ⟨g, 0, none⟩) gH.out.2).trans gH.out.1, Nat.lt_of_lt_of_le gH.out.2 hb.size⟩ : _ ∧ _)
      have sx11 : y10m.heap.size ≤ x11.heap.size := hb.size
      replace gT := Lib.hid (Tab.below gT.out hb gT.out.2)
      replace rE := Lib.hid (Recs.more (Recs.below rE.out hb) hb.size)
      replace u1 := Lib.hid (RdO.below u1.out hb)
      replace km := Lib.hid (km.out.below hb km.out.lt)
      replace gB := Lib.hid (gB.out.trans (hb.mono gB.out.size))
      clear hb
      go_wp2_with fail
      refine (fof2 false (some ⟨g1, 0, none⟩) 1 1 0 false none 0 0 0 askM ask_sm ask_may x11 (ask_rd ho1.out)).mono ?_
      rintro en x12 ⟨rfl, hb⟩
      clear ho1
      replace gH := Lib.hid (⟨(hb.cell (p := ⟨g, 0, none⟩) gH.out.2).trans gH.out.1, Nat.lt_of_lt_of_le gH.out.2 hb.size⟩ : _ ∧ _)
      have sx12 : x11.heap.size ≤ x12.heap.size := hb.size
      replace gT := Lib.hid (Tab.below gT.out hb gT.out.2)
      replace rE := Lib.hid (Recs.more (Recs.below rE.out hb) hb.size)
      replace u1 := Lib.hid (RdO.below u1.out hb)
      replace km := Lib.hid (km.out.below hb km.out.lt)
      replace gB := Lib.hid (gB.out.trans (hb.mono gB.out.size))
      clear hb
      obtain ⟨tn, ht⟩ : ∃ t, t = x12.heap.size := ⟨_, rfl⟩
      obtain ⟨y12n, hy12n⟩ : ∃ W, W = x12.alloc (.cells #[.bool false, .slice none 0 0, .int .i64 0, .bool false, .slice none 0 0, .int .i64 0, .bool false, .slice none 0 0, .int .i64 0, .bool false, .slice none 0 0, .int .i64 0] 27) := ⟨_, rfl⟩
      have hb : Below x12.heap.size x12 y12n := by rw [hy12n]; exact (Below.refl _ _).alloc (Nat.le_refl _) _
      have kn : Blk y12n x12.heap.size 27 #[.bool false, .slice none 0 0, .int .i64 0, .bool false, .slice none 0 0, .int .i64 0, .bool false, .slice none 0 0, .int .i64 0, .bool false, .slice none 0 0, .int .i64 0] := by rw [hy12n]; exact Blk.new _ _ _
      rw [← ht] at kn
      replace kn := Lib.hid kn
      replace gH := Lib.hid (⟨(hb.cell (p := ⟨g, 0, none⟩) gH.out.2).trans gH.out.1, Nat.lt_of_lt_of_le gH.out.2 hb.size⟩ : _ ∧ _)
      have sy12n : x12.heap.size ≤ y12n.heap.size := hb.size
      replace gT := Lib.hid (Tab.below gT.out hb gT.out.2)
      replace rE := Lib.hid (Recs.more (Recs.below rE.out hb) hb.size)
      replace u1 := Lib.hid (RdO.below u1.out hb)
      replace km := Lib.hid (km.out.below hb km.out.lt)
      replace gB := Lib.hid (gB.out.trans (hb.mono gB.out.size))
      clear hb
      go_wp2_with fail
      rw [← hy12n]
      clear hy12n
      rw [← ht]
      clear ht
      refine (fof0 y12n).mono ?_
      rintro en x13 ⟨rfl, hb⟩
      replace gH := Lib.hid (⟨(hb.cell (p := ⟨g, 0, none⟩) gH.out.2).trans gH.out.1, Nat.lt_of_lt_of_le gH.out.2 hb.size⟩ : _ ∧ _)
      have sx13 : y12n.heap.size ≤ x13.heap.size := hb.size
      replace gT := Lib.hid (Tab.below gT.out hb gT.out.2)
      replace rE := Lib.hid (Recs.more (Recs.below rE.out hb) hb.size)
      replace u1 := Lib.hid (RdO.below u1.out hb)
      replace km := Lib.hid (km.out.below hb km.out.lt)
      replace kn := Lib.hid (kn.out.below hb kn.out.lt)
      replace gB := Lib.hid (gB.out.trans (hb.mono gB.out.size))
      clear hb
      obtain ⟨tz, ht⟩ : ∃ t, t = x13.heap.size := ⟨_, rfl⟩
      obtain ⟨y13z, hy13z⟩ : ∃ W, W = x13.alloc (.cells #[.bool false, .slice none 0 0, .int .i64 0, .bool false, .slice none 0 0, .int .i64 0, .bool false, .slice none 0 0, .int .i64 0, .bool false, .slice none 0 0, .int .i64 0] 27) := ⟨_, rfl⟩
      have hb : Below x13.heap.size x13 y13z := by rw [hy13z]; exact (Below.refl _ _).alloc (Nat.le_refl _) _
      have kz : Blk y13z x13.heap.size 27 #[.bool false, .slice none 0 0, .int .i64 0, .bool false, .slice none 0 0, .int .i64 0, .bool false, .slice none 0 0, .int .i64 0, .bool false, .slice none 0 0, .int .i64 0] := by rw [hy13z]; exact Blk.new _ _ _
      rw [← ht] at kz
      replace kz := Lib.hid kz
      replace gH := Lib.hid (⟨(hb.cell (p := ⟨g, 0, none⟩) gH.out.2).trans gH.out.1, Nat.lt_of_lt_of_le gH.out.2 hb.size⟩ : _ ∧ _)
      have sy13z : x13.heap.size ≤ y13z.heap.size := hb.size
      replace gT := Lib.hid (Tab.below gT.out hb gT.out.2)
      replace rE := Lib.hid (Recs.more (Recs.below rE.out hb) hb.size)
      replace u1 := Lib.hid (RdO.below u1.out hb)
      replace km := Lib.hid (km.out.below hb km.out.lt)
      replace kn := Lib.hid (kn.out.below hb kn.out.lt)
      replace gB := Lib.hid (gB.out.trans (hb.mono gB.out.size))
      clear hb
      go_wp2_with fail
      rw [← hy13z]
      clear hy13z
      rw [← ht]
      clear ht
      refine (nsum (some ⟨g, 0, none⟩) cr y13z rE.out gT.out).mono ?_
      rintro en x14 ⟨s, es, rfl, us, hb⟩
      replace es := Lib.hid es
      replace us := Lib.hid us.rd
      replace gH := Lib.hid (⟨(hb.cell (p := ⟨g, 0, none⟩) gH.out.2).trans gH.out.1, Nat.lt_of_lt_of_le gH.out.2 hb.size⟩ : _ ∧ _)
      have sx14 : y13z.heap.size ≤ x14.heap.size := hb.size
      replace gT := Lib.hid (Tab.below gT.out hb gT.out.2)
      replace rE := Lib.hid (Recs.more (Recs.below rE.out hb) hb.size)
      replace u1 := Lib.hid (RdO.below u1.out hb)
      replace km := Lib.hid (km.out.below hb km.out.lt)
      replace kn := Lib.hid (kn.out.below hb kn.out.lt)
      replace kz := Lib.hid (kz.out.below hb kz.out.lt)
      replace gB := Lib.hid (gB.out.trans (hb.mono gB.out.size))
      clear hb
      obtain ⟨ts, ht⟩ : ∃ t, t = x14.heap.size := ⟨_, rfl⟩
      obtain ⟨y14s, hy14s⟩ : ∃ W, W = x14.alloc (.cells #[.bool s.m.s.neg, .slice s.X0 s.m.s.ls.length s.c0, .int .i64 s.m.s.ex, .bool s.m.w.neg, .slice s.X1 s.m.w.ls.length s.c1, .int .i64 s.m.w.ex, .bool s.m.c.neg, .slice s.X2 s.m.c.ls.length s.c2, .int .i64 s.m.c.ex, .bool s.m.a.neg, .slice s.X3 s.m.a.ls.length s.c3, .int .i64 s.m.a.ex] 27) := ⟨_, rfl⟩
      have hb : Below x14.heap.size x14 y14s := by rw [hy14s]; exact (Below.refl _ _).alloc (Nat.le_refl _) _
      have ks : Blk y14s x14.heap.size 27 #[.bool s.m.s.neg, .slice s.X0 s.m.s.ls.length s.c0, .int .i64 s.m.s.ex, .bool s.m.w.neg, .slice s.X1 s.m.w.ls.length s.c1, .int .i64 s.m.w.ex, .bool s.m.c.neg, .slice s.X2 s.m.c.ls.length s.c2, .int .i64 s.m.c.ex, .bool s.m.a.neg, .slice s.X3 s.m.a.ls.length s.c3, .int .i64 s.m.a.ex] := by rw [hy14s]; exact Blk.new _ _ _
      rw [← ht] at ks
      replace ks := Lib.hid ks
      replace gH := Lib.hid (⟨(hb.cell (p := ⟨g, 0, none⟩) gH.out.2).trans gH.out.1, Nat.lt_of_lt_of_le gH.out.2 hb.size⟩ : _ ∧ _)
      have sy14s : x14.heap.size ≤ y14s.heap.size := hb.size
      replace gT := Lib.hid (Tab.below gT.out hb gT.out.2)
      replace rE := Lib.hid (Recs.more (Recs.below rE.out hb) hb.size)
      replace u1 := Lib.hid (RdO.below u1.out hb)
      replace km := Lib.hid (km.out.below hb km.out.lt)
      replace kn := Lib.hid (kn.out.below hb kn.out.lt)
      replace kz := Lib.hid (kz.out.below hb kz.out.lt)
      replace us := Lib.hid (RdO.below us.out hb)
      replace gB := Lib.hid (gB.out.trans (hb.mono gB.out.size))
      clear hb
      go_wp2_with fail
      rw [← hy14s]
      clear hy14s
      rw [← ht]
      clear ht
      have SS : ∀ w', Below y14s.heap.size y14s w' → (w'.cell? ⟨tm, 0, none⟩ = some (.bool o1.m.s.neg) ∧ w'.cell? ⟨tm, 1, none⟩ = some (.slice o1.X0 o1.m.s.ls.length o1.c0) ∧ w'.cell? ⟨tm, 2, none⟩ = some (.int .i64 o1.m.s.ex) ∧ w'.cell? ⟨tm, 3, none⟩ = some (.bool o1.m.w.neg) ∧ w'.cell? ⟨tm, 4, none⟩ = some (.slice o1.X1 o1.m.w.ls.length o1.c1) ∧ w'.cell? ⟨tm, 5, none⟩ = some (.int .i64 o1.m.w.ex) ∧ w'.cell? ⟨tm, 6, none⟩ = some (.bool o1.m.c.neg) ∧ w'.cell? ⟨tm, 7, none⟩ = some (.slice o1.X2 o1.m.c.ls.length o1.c2) ∧ w'.cell? ⟨tm, 8, none⟩ = some (.int .i64 o1.m.c.ex) ∧ w'.cell? ⟨tm, 9, none⟩ = some (.bool o1.m.a.neg) ∧ w'.cell? ⟨tm, 10, none⟩ = some (.slice o1.X3 o1.m.a.ls.length o1.c3) ∧ w'.cell? ⟨tm, 11, none⟩ = some (.int .i64 o1.m.a.ex) ∧ w'.cell? ⟨tn, 0, none⟩ = some (.bool false) ∧ w'.cell? ⟨tn, 1, none⟩ = some (.slice none 0 0) ∧ w'.cell? ⟨tn, 2, none⟩ = some (.int .i64 0) ∧ w'.cell? ⟨tn, 3, none⟩ = some (.bool false) ∧ w'.cell? ⟨tn, 4, none⟩ = some (.slice none 0 0) ∧ w'.cell? ⟨tn, 5, none⟩ = some (.int .i64 0) ∧ w'.cell? ⟨tn, 6, none⟩ = some (.bool false) ∧ w'.cell? ⟨tn, 7, none⟩ = some (.slice none 0 0) ∧ w'.cell? ⟨tn, 8, none⟩ = some (.int .i64 0) ∧ w'.cell? ⟨tn, 9, none⟩ = some (.bool false) ∧ w'.cell? ⟨tn, 10, none⟩ = some (.slice none 0 0) ∧ w'.cell? ⟨tn, 11, none⟩ = some (.int .i64 0) ∧ w'.cell? ⟨ts, 0, none⟩ = some (.bool s.m.s.neg) ∧ w'.cell? ⟨ts, 1, none⟩ = some (.slice s.X0 s.m.s.ls.length s.c0) ∧ w'.cell? ⟨ts, 2, none⟩ = some (.int .i64 s.m.s.ex) ∧ w'.cell? ⟨g, 0, none⟩ = some (.int .i64 0)) := by
        intro w' hw
        have km' := km.out.below hw km.out.lt
        have kn' := kn.out.below hw kn.out.lt
        have ks' := ks.out.below hw ks.out.lt
        refine ⟨?_, ?_, ?_, ?_, ?_, ?_, ?_, ?_, ?_, ?_, ?_, ?_, ?_, ?_, ?_, ?_, ?_, ?_, ?_, ?_, ?_, ?_, ?_, ?_, ?_, ?_, ?_, ?_⟩
        · rw [km'.cell]; rfl
        · rw [km'.cell]; rfl
        · rw [km'.cell]; rfl
        · rw [km'.cell]; rfl
        · rw [km'.cell]; rfl
        · rw [km'.cell]; rfl
        · rw [km'.cell]; rfl
        · rw [km'.cell]; rfl
        · rw [km'.cell]; rfl
        · rw [km'.cell]; rfl
        · rw [km'.cell]; rfl
        · rw [km'.cell]; rfl
        · rw [kn'.cell]; rfl
        · rw [kn'.cell]; rfl
        · rw [kn'.cell]; rfl
        · rw [kn'.cell]; rfl
        · rw [kn'.cell]; rfl
        · rw [kn'.cell]; rfl
        · rw [kn'.cell]; rfl
        · rw [kn'.cell]; rfl
        · rw [kn'.cell]; rfl
        · rw [kn'.cell]; rfl
        · rw [kn'.cell]; rfl
        · rw [kn'.cell]; rfl
        · rw [ks'.cell]; rfl
        · rw [ks'.cell]; rfl
        · rw [ks'.cell]; rfl
        · exact (hw.cell (p := ⟨g, 0, none⟩) gH.out.2).trans gH.out.1
      have nm : ∀ w' (o2 : EO) b, Below y14s.heap.size y14s w' → ownE w' b o2 → o2.x.give = sixM → Calls Tryd.prog 24 #[.agg #[.bool o1.m.s.neg, .slice o1.X0 o1.m.s.ls.length o1.c0, .int .i64 o1.m.s.ex, .bool o1.m.w.neg, .slice o1.X1 o1.m.w.ls.length o1.c1, .int .i64 o1.m.w.ex, .bool o1.m.c.neg, .slice o1.X2 o1.m.c.ls.length o1.c2, .int .i64 o1.m.c.ex, .bool o1.m.a.neg, .slice o1.X3 o1.m.a.ls.length o1.c3, .int .i64 o1.m.a.ex], .agg #[.bool o2.x.give.s.neg, .slice o2.X0 o2.x.give.s.ls.length o2.c0, .int .i64 o2.x.give.s.ex, .bool o2.x.give.w.neg, .slice o2.X1 o2.x.give.w.ls.length o2.c1, .int .i64 o2.x.give.w.ex, .bool o2.x.give.c.neg, .slice o2.X2 o2.x.give.c.ls.length o2.c2, .int .i64 o2.x.give.c.ex, .bool o2.x.give.a.neg, .slice o2.X3 o2.x.give.a.ls.length o2.c3, .int .i64 o2.x.give.a.ex]] w' fun en w'' => en = .returned (.bool true) ∧ Below w'.heap.size w' w'' := fun w' o2 b hw h1 h2 => msame_any _ _ _ _ _ _ _ _ _ _ _ _ _ _ _ _ _ _ _ _ _ _ _ _ _ _ _ _ _ _ _ _ _ _ _ _ _ _ _ _  o1.m o2.x.give (by rw [e1.out]; exact six_sm) (by rw [h2]; exact six_sm) w' (RdM.below u1.out hw hw.size) h1.rdM true (decide_eq_true (by rw [e1.out, h2]))
      have nn : ∀ w', Calls Tryd.prog 24 #[.agg #[.bool false, .slice none 0 0, .int .i64 0, .bool false, .slice none 0 0, .int .i64 0, .bool false, .slice none 0 0, .int .i64 0, .bool false, .slice none 0 0, .int .i64 0], .agg #[.bool false, .slice none 0 0, .int .i64 0, .bool false, .slice none 0 0, .int .i64 0, .bool false, .slice none 0 0, .int .i64 0, .bool false, .slice none 0 0, .int .i64 0]] w' fun en w'' => en = .returned (.bool true) ∧ Below w'.heap.size w' w'' := fun w' => msame_any false none 0 0 0 false none 0 0 0 false none 0 0 0 false none 0 0 0 false none 0 0 0 false none 0 0 0 false none 0 0 0 false none 0 0 0 zM zM zM_sm zM_sm w' (rdM_zero _ _) (rdM_zero _ _) true (decide_eq_true rfl)
      have ns : ∀ w' (g' : Nat) b, Below y14s.heap.size y14s w' → OwnR w' b 71 (some ⟨g', 0, none⟩) 1 (ints .u32 [96]) → Calls Tryd.prog 29 #[.agg #[.bool s.m.s.neg, .slice s.X0 s.m.s.ls.length s.c0, .int .i64 s.m.s.ex], .agg #[.bool false, .slice (some ⟨g', 0, none⟩) 1 1, .int .i64 0]] w' fun en w'' => en = .returned (.bool true) ∧ Below w'.heap.size w' w'' := fun w' g' b hw h1 => dsame_any s.m.s.neg false s.X0 (some ⟨g', 0, none⟩) s.m.s.ls.length 1 s.c0 1 s.m.s.ex 0 s.m.s.ls [96] rfl rfl (by rw [es.out]; decide) (by omega) true (decide_eq_true (by rw [es.out]; rfl)) w' (RdM.below us.out hw hw.size).1.2.2.2.2 h1.reads
      refine wp_region_noPanic ?_
      refine wp_region_held_drew (S := fun w' => w'.cell? ⟨tm, 0, none⟩ = some (.bool o1.m.s.neg) ∧ w'.cell? ⟨tm, 1, none⟩ = some (.slice o1.X0 o1.m.s.ls.length o1.c0) ∧ w'.cell? ⟨tm, 2, none⟩ = some (.int .i64 o1.m.s.ex) ∧ w'.cell? ⟨tm, 3, none⟩ = some (.bool o1.m.w.neg) ∧ w'.cell? ⟨tm, 4, none⟩ = some (.slice o1.X1 o1.m.w.ls.length o1.c1) ∧ w'.cell? ⟨tm, 5, none⟩ = some (.int .i64 o1.m.w.ex) ∧ w'.cell? ⟨tm, 6, none⟩ = some (.bool o1.m.c.neg) ∧ w'.cell? ⟨tm, 7, none⟩ = some (.slice o1.X2 o1.m.c.ls.length o1.c2) ∧ w'.cell? ⟨tm, 8, none⟩ = some (.int .i64 o1.m.c.ex) ∧ w'.cell? ⟨tm, 9, none⟩ = some (.bool o1.m.a.neg) ∧ w'.cell? ⟨tm, 10, none⟩ = some (.slice o1.X3 o1.m.a.ls.length o1.c3) ∧ w'.cell? ⟨tm, 11, none⟩ = some (.int .i64 o1.m.a.ex) ∧ w'.cell? ⟨tn, 0, none⟩ = some (.bool false) ∧ w'.cell? ⟨tn, 1, none⟩ = some (.slice none 0 0) ∧ w'.cell? ⟨tn, 2, none⟩ = some (.int .i64 0) ∧ w'.cell? ⟨tn, 3, none⟩ = some (.bool false) ∧ w'.cell? ⟨tn, 4, none⟩ = some (.slice none 0 0) ∧ w'.cell? ⟨tn, 5, none⟩ = some (.int .i64 0) ∧ w'.cell? ⟨tn, 6, none⟩ = some (.bool false) ∧ w'.cell? ⟨tn, 7, none⟩ = some (.slice none 0 0) ∧ w'.cell? ⟨tn, 8, none⟩ = some (.int .i64 0) ∧ w'.cell? ⟨tn, 9, none⟩ = some (.bool false) ∧ w'.cell? ⟨tn, 10, none⟩ = some (.slice none 0 0) ∧ w'.cell? ⟨tn, 11, none⟩ = some (.int .i64 0) ∧ w'.cell? ⟨ts, 0, none⟩ = some (.bool s.m.s.neg) ∧ w'.cell? ⟨ts, 1, none⟩ = some (.slice s.X0 s.m.s.ls.length s.c0) ∧ w'.cell? ⟨ts, 2, none⟩ = some (.int .i64 s.m.s.ex) ∧ w'.cell? ⟨g, 0, none⟩ = some (.int .i64 0)) (by kernel_rfl) (SS _ blw) (fun hHeld => ?_)
      refine tkY 0 (h := ?_)
      (try simp only [Act.put, List.setIfInBounds_toArray, List.set_cons_zero, List.set_cons_succ])
      refine tkR 1 (h := fun K hK => ?_)
      go_simp
      with_reducible refine (alive_any _).mono ?_
      rintro en vA ⟨rfl, hvA⟩
      have hvA2 : Below y14s.heap.size y14s vA := Below.trans blw (hvA.mono (by first | exact Nat.le_refl _ | (simp only [World.size_alloc, World.size_drew, World.size_setCell]; omega) | omega))
      have svA : y14s.heap.size ≤ vA.heap.size := hvA2.size
      refine hK.out _ _ (SS _ blw) (fun hHeld => ?_)
      clear hK K
      (try simp only [Act.put, List.setIfInBounds_toArray, List.set_cons_zero, List.set_cons_succ])
      refine tkY 2 (h := ?_)
      (try simp only [Act.put, List.setIfInBounds_toArray, List.set_cons_zero, List.set_cons_succ])
      refine tkY 3 (h := ?_)
      (try simp only [Act.put, List.setIfInBounds_toArray, List.set_cons_zero, List.set_cons_succ])
      refine tkY 4 (h := ?_)
      (try simp only [Act.put, List.setIfInBounds_toArray, List.set_cons_zero, List.set_cons_succ])
      refine tkY 5 (h := ?_)
      (try simp only [Act.put, List.setIfInBounds_toArray, List.set_cons_zero, List.set_cons_succ])
      refine tkY 6 (h := ?_)
      (try simp only [Act.put, List.setIfInBounds_toArray, List.set_cons_zero, List.set_cons_succ])
      refine tkY 7 (h := ?_)
      (try simp only [Act.put, List.setIfInBounds_toArray, List.set_cons_zero, List.set_cons_succ])
      refine tkY 8 (h := ?_)
      (try simp only [Act.put, List.setIfInBounds_toArray, List.set_cons_zero, List.set_cons_succ])
      refine tkY 9 (h := ?_)
      (try simp only [Act.put, List.setIfInBounds_toArray, List.set_cons_zero, List.set_cons_succ])
      refine tkY 10 (h := ?_)
      (try simp only [Act.put, List.setIfInBounds_toArray, List.set_cons_zero, List.set_cons_succ])
      refine tkY 11 (h := ?_)
      (try simp only [Act.put, List.setIfInBounds_toArray, List.set_cons_zero, List.set_cons_succ])
      refine tkY 12 (h := ?_)
      (try simp only [Act.put, List.setIfInBounds_toArray, List.set_cons_zero, List.set_cons_succ])
      refine tkY 13 (h := ?_)
      (try simp only [Act.put, List.setIfInBounds_toArray, List.set_cons_zero, List.set_cons_succ])
      refine tkY 14 (h := ?_)
      (try simp only [Act.put, List.setIfInBounds_toArray, List.set_cons_zero, List.set_cons_succ])
      refine tkY 15 (h := ?_)
      (try simp only [Act.put, List.setIfInBounds_toArray, List.set_cons_zero, List.set_cons_succ])
      refine tkY 16 (h := ?_)
      (try simp only [Act.put, List.setIfInBounds_toArray, List.set_cons_zero, List.set_cons_succ])
      refine tkY 17 (h := ?_)
      (try simp only [Act.put, List.setIfInBounds_toArray, List.set_cons_zero, List.set_cons_succ])
      refine tkY 18 (h := ?_)
      (try simp only [Act.put, List.setIfInBounds_toArray, List.set_cons_zero, List.set_cons_succ])
      refine tkY 19 (h := ?_)
      (try simp only [Act.put, List.setIfInBounds_toArray, List.set_cons_zero, List.set_cons_succ])
      refine tkY 20 (h := ?_)
      (try simp only [Act.put, List.setIfInBounds_toArray, List.set_cons_zero, List.set_cons_succ])
      refine tkY 21 (h := ?_)
      (try simp only [Act.put, List.setIfInBounds_toArray, List.set_cons_zero, List.set_cons_succ])
      refine tkY 22 (h := ?_)
      (try simp only [Act.put, List.setIfInBounds_toArray, List.set_cons_zero, List.set_cons_succ])
      refine tkY 23 (h := ?_)
      (try simp only [Act.put, List.setIfInBounds_toArray, List.set_cons_zero, List.set_cons_succ])
      refine tkY 24 (h := ?_)
      (try simp only [Act.put, List.setIfInBounds_toArray, List.set_cons_zero, List.set_cons_succ])
      refine tkR 25 (h := fun K hK => ?_)
      go_simp
      with_reducible refine (six_any _).mono ?_
      rintro en vB ⟨o2, rfl, em2, hom2, hvB⟩
      have hvB2 : Below y14s.heap.size y14s vB := Below.trans blw (hvB.mono (by first | exact Nat.le_refl _ | (simp only [World.size_alloc, World.size_drew, World.size_setCell]; omega) | omega))
      have svB : y14s.heap.size ≤ vB.heap.size := hvB2.size
      have gem2 := Lib.hid em2
      have ghom2 := Lib.hid hom2
      clear em2 hom2
      refine hK.out _ _ (SS _ blw) (fun hHeld => ?_)
      clear hK K
      (try simp only [Act.put, List.setIfInBounds_toArray, List.set_cons_zero, List.set_cons_succ])
      refine tkR 26 (h := fun K hK => ?_)
      go_simp
      with_reducible refine (nm _ o2 _ blw ghom2.out gem2.out).mono ?_
      rintro en vC ⟨rfl, hvC⟩
      have hvC2 : Below y14s.heap.size y14s vC := Below.trans blw (hvC.mono (by first | exact Nat.le_refl _ | (simp only [World.size_alloc, World.size_drew, World.size_setCell]; omega) | omega))
      have svC : y14s.heap.size ≤ vC.heap.size := hvC2.size
      refine hK.out _ _ (SS _ blw) (fun hHeld => ?_)
      clear hK K
      (try simp only [Act.put, List.setIfInBounds_toArray, List.set_cons_zero, List.set_cons_succ])
      refine tkY 27 (h := ?_)
      (try simp only [Act.put, List.setIfInBounds_toArray, List.set_cons_zero, List.set_cons_succ])
      refine tkY 28 (h := ?_)
      (try simp only [Act.put, List.setIfInBounds_toArray, List.set_cons_zero, List.set_cons_succ])
      refine tkY 29 (h := ?_)
      (try simp only [Act.put, List.setIfInBounds_toArray, List.set_cons_zero, List.set_cons_succ])
      refine tkY 30 (h := ?_)
      (try simp only [Act.put, List.setIfInBounds_toArray, List.set_cons_zero, List.set_cons_succ])
      refine tkY 31 (h := ?_)
      (try simp only [Act.put, List.setIfInBounds_toArray, List.set_cons_zero, List.set_cons_succ])
      refine tkY 32 (h := ?_)
      (try simp only [Act.put, List.setIfInBounds_toArray, List.set_cons_zero, List.set_cons_succ])
      refine tkY 33 (h := ?_)
      (try simp only [Act.put, List.setIfInBounds_toArray, List.set_cons_zero, List.set_cons_succ])
      refine tkY 34 (h := ?_)
      (try simp only [Act.put, List.setIfInBounds_toArray, List.set_cons_zero, List.set_cons_succ])
      refine tkR 35 (h := fun K hK => ?_)
      go_simp
      with_reducible refine (nn _).mono ?_
      rintro en vD ⟨rfl, hvD⟩
      have hvD2 : Below y14s.heap.size y14s vD := Below.trans blw (hvD.mono (by first | exact Nat.le_refl _ | (simp only [World.size_alloc, World.size_drew, World.size_setCell]; omega) | omega))
      have svD : y14s.heap.size ≤ vD.heap.size := hvD2.size
      refine hK.out _ _ (SS _ blw) (fun hHeld => ?_)
      clear hK K
      (try simp only [Act.put, List.setIfInBounds_toArray, List.set_cons_zero, List.set_cons_succ])
      refine tkY 36 (h := ?_)
      (try simp only [Act.put, List.setIfInBounds_toArray, List.set_cons_zero, List.set_cons_succ])
      refine tkY 37 (h := ?_)
      (try simp only [Act.put, List.setIfInBounds_toArray, List.set_cons_zero, List.set_cons_succ])
      refine tkY 38 (h := ?_)
      (try simp only [Act.put, List.setIfInBounds_toArray, List.set_cons_zero, List.set_cons_succ])
      refine tkY 39 (h := ?_)
      (try simp only [Act.put, List.setIfInBounds_toArray, List.set_cons_zero, List.set_cons_succ])
      refine tkY 40 (h := ?_)
      (try simp only [Act.put, List.setIfInBounds_toArray, List.set_cons_zero, List.set_cons_succ])
      refine tkY 41 (h := ?_)
      (try simp only [Act.put, List.setIfInBounds_toArray, List.set_cons_zero, List.set_cons_succ])
      refine tkY 42 (h := ?_)
      (try simp only [Act.put, List.setIfInBounds_toArray, List.set_cons_zero, List.set_cons_succ])
      refine tkY 43 (h := ?_)
      (try simp only [Act.put, List.setIfInBounds_toArray, List.set_cons_zero, List.set_cons_succ])
      refine tkY 44 (h := ?_)
      (try simp only [Act.put, List.setIfInBounds_toArray, List.set_cons_zero, List.set_cons_succ])
      refine tkY 45 (h := ?_)
      (try simp only [Act.put, List.setIfInBounds_toArray, List.set_cons_zero, List.set_cons_succ])
      refine tkY 46 (h := ?_)
      (try simp only [Act.put, List.setIfInBounds_toArray, List.set_cons_zero, List.set_cons_succ])
      refine tkY 47 (h := ?_)
      (try simp only [Act.put, List.setIfInBounds_toArray, List.set_cons_zero, List.set_cons_succ])
      refine tkR 48 (h := fun K hK => ?_)
      go_simp
      with_reducible refine (dof 96 (.inr (.inr rfl)) _).mono ?_
      rintro en vE ⟨g3, rfl, ho3, hvE⟩
      have hvE2 : Below y14s.heap.size y14s vE := Below.trans blw (hvE.mono (by first | exact Nat.le_refl _ | (simp only [World.size_alloc, World.size_drew, World.size_setCell]; omega) | omega))
      have svE : y14s.heap.size ≤ vE.heap.size := hvE2.size
      have gho3 := Lib.hid ho3
      clear ho3
      refine hK.out _ _ (SS _ blw) (fun hHeld => ?_)
      clear hK K
      (try simp only [Act.put, List.setIfInBounds_toArray, List.set_cons_zero, List.set_cons_succ])
      refine tkR 49 (h := fun K hK => ?_)
      go_simp
      with_reducible refine (ns _ g3 _ blw gho3.out).mono ?_
      rintro en vF ⟨rfl, hvF⟩
      have hvF2 : Below y14s.heap.size y14s vF := Below.trans blw (hvF.mono (by first | exact Nat.le_refl _ | (simp only [World.size_alloc, World.size_drew, World.size_setCell]; omega) | omega))
      have svF : y14s.heap.size ≤ vF.heap.size := hvF2.size
      refine hK.out _ _ (SS _ blw) (fun hHeld => ?_)
      clear hK K
      (try simp only [Act.put, List.setIfInBounds_toArray, List.set_cons_zero, List.set_cons_succ])
      refine tkY 50 (h := ?_)
      (try simp only [Act.put, List.setIfInBounds_toArray, List.set_cons_zero, List.set_cons_succ])
      refine tkY 51 (h := ?_)
      (try simp only [Act.put, List.setIfInBounds_toArray, List.set_cons_zero, List.set_cons_succ])
      refine tkY 52 (h := ?_)
      (try simp only [Act.put, List.setIfInBounds_toArray, List.set_cons_zero, List.set_cons_succ])
      refine tkY 53 (h := ?_)
      (try simp only [Act.put, List.setIfInBounds_toArray, List.set_cons_zero, List.set_cons_succ])
      refine tkY 54 (h := ?_)
      (try simp only [Act.put, List.setIfInBounds_toArray, List.set_cons_zero, List.set_cons_succ])
      refine tkY 55 (h := ?_)
      (try simp only [Act.put, List.setIfInBounds_toArray, List.set_cons_zero, List.set_cons_succ])
      refine tkY 56 (h := ?_)
      (try simp only [Act.put, List.setIfInBounds_toArray, List.set_cons_zero, List.set_cons_succ])
      refine tkY 57 (h := ?_)
      (try simp only [Act.put, List.setIfInBounds_toArray, List.set_cons_zero, List.set_cons_succ])
      refine tkY 58 (h := ?_)
      (try simp only [Act.put, List.setIfInBounds_toArray, List.set_cons_zero, List.set_cons_succ])
      refine wpAnyH_done (by kernel_rfl) ?_ _
      refine NoPanic.normal ?_
      have gB9 := gB.out.trans (hvF2.mono gB.out.size)
      clear SS nm nn ns
      go_wp2
      go_ret
      exact ⟨rfl, gB9⟩
end Go.Proofs.YtdmjdpaehnhdoaaDoor
