/- Door: LedgerKinds -/
import Derived.Test.YtmppalgecboeeaaDoorEI
import Derived.Test.YtmppalgecboeeaaDoorEK
import Derived.Test.YtmppalgecboeeaaDoorLI
namespace Go.Proofs.YtmppalgecboeeaaDoor
open Go.ChangeShapes Go.WideShapes Go.ChangeAt Go.RowKit
set_option linter.unusedSimpArgs false
set_option linter.unusedVariables false
open Go.Shelf
set_option maxRecDepth 100000
theorem OwD.far {w : World} {B c : Nat} {X : Option Addr} {d : Dy} (h : OwD w B X c d) {p : Addr} (hp : p.block < B) (u : Value) : OwD (w.setCell p u) B X c d := ⟨h.1, h.2.far hp u⟩
theorem OwM.far {w : World} {B : Nat} {o : MB} (h : OwM w B o) {p : Addr} (hp : p.block < B) (u : Value) : OwM (w.setCell p u) B o := ⟨h.1.far hp u, h.2.1.far hp u, h.2.2.1.far hp u, h.2.2.2.far hp u⟩
/-- A mass is stored into a box. -/
def c12 (w : World) (g : Nat) (u0 u1 u2 u3 u4 u5 u6 u7 u8 u9 u10 u11 : Value) : World := (((((((((((w.setCell ⟨g, 0, none⟩ u0).setCell ⟨g, 1, none⟩ u1).setCell ⟨g, 2, none⟩ u2).setCell ⟨g, 3, none⟩ u3).setCell ⟨g, 4, none⟩ u4).setCell ⟨g, 5, none⟩ u5).setCell ⟨g, 6, none⟩ u6).setCell ⟨g, 7, none⟩ u7).setCell ⟨g, 8, none⟩ u8).setCell ⟨g, 9, none⟩ u9).setCell ⟨g, 10, none⟩ u10).setCell ⟨g, 11, none⟩ u11
theorem c12_own {w : World} {B g : Nat} {o : MB} (h : OwM w B o) (hg : g < B) (u0 u1 u2 u3 u4 u5 u6 u7 u8 u9 u10 u11 : Value) : OwM (c12 w g u0 u1 u2 u3 u4 u5 u6 u7 u8 u9 u10 u11) B o := by
  unfold c12
  exact (((((((((((h.far (p := ⟨g, 0, none⟩) hg u0).far (p := ⟨g, 1, none⟩) hg u1).far (p := ⟨g, 2, none⟩) hg u2).far (p := ⟨g, 3, none⟩) hg u3).far (p := ⟨g, 4, none⟩) hg u4).far (p := ⟨g, 5, none⟩) hg u5).far (p := ⟨g, 6, none⟩) hg u6).far (p := ⟨g, 7, none⟩) hg u7).far (p := ⟨g, 8, none⟩) hg u8).far (p := ⟨g, 9, none⟩) hg u9).far (p := ⟨g, 10, none⟩) hg u10).far (p := ⟨g, 11, none⟩) hg u11
theorem c12_blk {w : World} {g : Nat} {z0 z1 z2 z3 z4 z5 z6 z7 z8 z9 z10 z11 : Value} (h : Blk w g 27 #[z0, z1, z2, z3, z4, z5, z6, z7, z8, z9, z10, z11]) (u0 u1 u2 u3 u4 u5 u6 u7 u8 u9 u10 u11 : Value) : Blk (c12 w g u0 u1 u2 u3 u4 u5 u6 u7 u8 u9 u10 u11) g 27 #[u0, u1, u2, u3, u4, u5, u6, u7, u8, u9, u10, u11] := blk12 h u0 u1 u2 u3 u4 u5 u6 u7 u8 u9 u10 u11
theorem c12_below {w w0 : World} {B g : Nat} (h : Below B w0 w) (hg : B ≤ g) (u0 u1 u2 u3 u4 u5 u6 u7 u8 u9 u10 u11 : Value) : Below B w0 (c12 w g u0 u1 u2 u3 u4 u5 u6 u7 u8 u9 u10 u11) := by
  unfold c12
  exact (((((((((((h.setCell (p := ⟨g, 0, none⟩) hg u0).setCell (p := ⟨g, 1, none⟩) hg u1).setCell (p := ⟨g, 2, none⟩) hg u2).setCell (p := ⟨g, 3, none⟩) hg u3).setCell (p := ⟨g, 4, none⟩) hg u4).setCell (p := ⟨g, 5, none⟩) hg u5).setCell (p := ⟨g, 6, none⟩) hg u6).setCell (p := ⟨g, 7, none⟩) hg u7).setCell (p := ⟨g, 8, none⟩) hg u8).setCell (p := ⟨g, 9, none⟩) hg u9).setCell (p := ⟨g, 10, none⟩) hg u10).setCell (p := ⟨g, 11, none⟩) hg u11
theorem lsE_cases {E : Int} {s : Option Ms} (h : lsE E s = 0) : E = 0 ∧ ∃ d, s = some d ∧ lsM E s = d := by
  unfold lsE at h
  by_cases h0 : E ≠ 0
  · rw [if_pos h0] at h; exact absurd h h0
  · rw [if_neg h0] at h
    cases s with
    | none => cases h
    | some d => exact ⟨Decidable.not_not.1 h0, d, rfl, by unfold lsM; rw [if_neg h0]; rfl⟩
theorem lsE_err {E : Int} {s : Option Ms} (h : E ≠ 0) : lsE E s = E := by unfold lsE; rw [if_pos h]
theorem maE_cases {m k : Ms} (h : maE m k = 0) : ∃ d, addM m k = some d ∧ maM m k = d := by
  unfold maE at h
  by_cases h0 : (mayM m && mayM k) = false
  · rw [if_pos h0] at h; cases h
  · rw [if_neg h0] at h
    cases h1 : addM m k with
    | none => rw [h1] at h; cases h
    | some d => exact ⟨d, rfl, by unfold maM; rw [if_neg h0, h1]; rfl⟩
set_option maxHeartbeats 64000000 in
theorem LedgerKinds.walk (A : Option Addr) (n c : Nat) (l : List En) (hmx : n ≤ maxLen) (hl : ∀ x ∈ l, ltM4 x.give) (N : Int) (w : World) (h1 : Ens w w.heap.size A n l) (hT : Tab w) : Calls Tryd.prog 5 #[.slice A n c, .int .i64 N] w fun en w' => en = .returned (.bool true) ∧ Below w.heap.size w w' := by
  have gB := Lib.hid (Below.refl w.heap.size w)
  have gT := Lib.hid hT
  have r1 := Lib.hid h1
  clear h1 hT
  go_enter Tryd.func5, Tryd.ntmps5
  go_wp2_with fail
  refine (alive_any w gT.out).mono ?_
  rintro en x1 ⟨rfl, hb⟩
  have sx1 : w.heap.size ≤ x1.heap.size := hb.size
  replace gT := Lib.hid (Tab.below gT.out hb gT.out.2)
  replace r1 := Lib.hid (Recs.more (Recs.below r1.out hb) hb.size)
  replace gB := Lib.hid (gB.out.trans (hb.mono gB.out.size))
  clear hb
  go_wp2_with fail
  refine (egreat_any A n c l hmx x1 r1.out).mono ?_
  rintro en x2 ⟨G, rfl, hb, hG⟩
  have sx2 : x1.heap.size ≤ x2.heap.size := hb.size
  replace gT := Lib.hid (Tab.below gT.out hb gT.out.2)
  replace r1 := Lib.hid (Recs.more (Recs.below r1.out hb) hb.size)
  replace gB := Lib.hid (gB.out.trans (hb.mono gB.out.size))
  clear hb
  cases G with
  | true =>
    clear hG
    go_wp2
    go_ret
    exact ⟨rfl, gB.out⟩
  | false =>
  have gG := Lib.hid (hG rfl)
  clear hG
  by_cases h60 : n ≤ 60
  rotate_left
  · have t1 : (60 : Int) < (n : Int) := by omega
    have t2 : 60 < n := by omega
    clear h60
    go_wp2
    go_ret
    exact ⟨rfl, gB.out⟩
  have t1 : ¬ (60 : Int) < (n : Int) := by omega
  have t2 : ¬ 60 < n := by omega
  have hn83 : n ≤ 8300 := by omega
  obtain ⟨E, hE⟩ : ∃ E, lsE (askL l N 1) (sumE l N) = E := ⟨_, rfl⟩
  obtain ⟨X, hX⟩ : ∃ X, lsM (askL l N 1) (sumE l N) = X := ⟨_, rfl⟩
  have okX : Hid (okM X) := Lib.hid (by rw [← hX]; exact lsM_ok (fun d hd => sumL_ok hd))
  have gE := Lib.hid (And.intro hE hX)
  clear hE hX
  obtain ⟨F, hF⟩ : ∃ F, askL l N 1 = F := ⟨_, rfl⟩
  obtain ⟨J, hJ⟩ : ∃ J, (if askL l N 1 = 0 then clnL l N else false) = J := ⟨_, rfl⟩
  have gF := Lib.hid hF
  have gJ := Lib.hid hJ
  clear hF hJ
  go_wp2_with fail
  refine (lsumS_any A n c l hn83 x2 r1.out hl N gT.out).mono ?_
  rintro en x3 hP
  have hq := lsum_one hP
  rw [gE.out.1, gE.out.2] at hq
  obtain ⟨a, ea, rfl, ua, hb⟩ := hq
  clear hP
  replace ea := Lib.hid ea
  replace ua := Lib.hid ua.rd
  have sx3 : x2.heap.size ≤ x3.heap.size := hb.size
  replace gT := Lib.hid (Tab.below gT.out hb gT.out.2)
  replace r1 := Lib.hid (Recs.more (Recs.below r1.out hb) hb.size)
  replace gB := Lib.hid (gB.out.trans (hb.mono gB.out.size))
  clear hb
  clear t1 t2 h60
  obtain ⟨ta, ht⟩ : ∃ t, t = x3.heap.size := ⟨_, rfl⟩
  obtain ⟨y3a, hy3a⟩ : ∃ W, W = x3.alloc (.cells #[.bool a.m.s.neg, .slice a.X0 a.m.s.ls.length a.c0, .int .i64 a.m.s.ex, .bool a.m.w.neg, .slice a.X1 a.m.w.ls.length a.c1, .int .i64 a.m.w.ex, .bool a.m.c.neg, .slice a.X2 a.m.c.ls.length a.c2, .int .i64 a.m.c.ex, .bool a.m.a.neg, .slice a.X3 a.m.a.ls.length a.c3, .int .i64 a.m.a.ex] 27) := ⟨_, rfl⟩
  have hb : Below x3.heap.size x3 y3a := by rw [hy3a]; exact (Below.refl _ _).alloc (Nat.le_refl _) _
  have ka : Blk y3a x3.heap.size 27 #[.bool a.m.s.neg, .slice a.X0 a.m.s.ls.length a.c0, .int .i64 a.m.s.ex, .bool a.m.w.neg, .slice a.X1 a.m.w.ls.length a.c1, .int .i64 a.m.w.ex, .bool a.m.c.neg, .slice a.X2 a.m.c.ls.length a.c2, .int .i64 a.m.c.ex, .bool a.m.a.neg, .slice a.X3 a.m.a.ls.length a.c3, .int .i64 a.m.a.ex] := by rw [hy3a]; exact Blk.new _ _ _
  rw [← ht] at ka
  replace ka := Lib.hid ka
  have sy3a : x3.heap.size ≤ y3a.heap.size := hb.size
  replace gT := Lib.hid (Tab.below gT.out hb gT.out.2)
  replace r1 := Lib.hid (Recs.more (Recs.below r1.out hb) hb.size)
  replace ua := Lib.hid (RdO.below ua.out hb)
  replace gB := Lib.hid (gB.out.trans (hb.mono gB.out.size))
  clear hb
  go_wp2_with fail
  rw [← hy3a]
  clear hy3a
  rw [← ht]
  clear ht
  refine (lclean_any A n c l hn83 y3a r1.out N).mono ?_
  rintro en x4 hP
  rw [gJ.out, gF.out] at hP
  obtain ⟨rfl, hb⟩ := hP
  have sx4 : y3a.heap.size ≤ x4.heap.size := hb.size
  replace gT := Lib.hid (Tab.below gT.out hb gT.out.2)
  replace r1 := Lib.hid (Recs.more (Recs.below r1.out hb) hb.size)
  replace ua := Lib.hid (RdO.below ua.out hb)
  replace ka := Lib.hid (ka.out.below hb ka.out.lt)
  replace gB := Lib.hid (gB.out.trans (hb.mono gB.out.size))
  clear hb
  go_upto_region 6 with fail
  go_cut [51] (fun s wx => s = .bool false ∧ Below x4.heap.size x4 wx)
  case first =>
    cases J with
    | false =>
      have hbr : Below x4.heap.size x4 x4 := Below.refl _ _
      go_wp2_with fail
      go_meet
      exact ⟨rfl, hbr⟩
    | true =>
      have hj : F = 0 ∧ clnL l N = true := by
        have h := gJ.out
        rw [gF.out] at h
        by_cases h0 : F = 0
        · rw [if_pos h0] at h; exact ⟨h0, h⟩
        · rw [if_neg h0] at h; cases h
      have hs := clean_plain hj.2
      have hz : E = 0 ∧ X = zM := by
        have h1 := gE.out
        rw [hs, gF.out, hj.1] at h1
        exact ⟨h1.1.symm, h1.2.symm⟩
      have t1 : (E != 0) = false := bne_eq_false_iff_eq.2 hz.1
      have t3 : a.m = zM := ea.out.trans hz.2
      replace t3 := Lib.hid t3
      clear hj hs hz
      have z0 : x4.cell? ⟨ta, 0, none⟩ = some (.bool a.m.s.neg) := by rw [ka.out.cell]; rfl
      have z1 : x4.cell? ⟨ta, 1, none⟩ = some (.slice a.X0 a.m.s.ls.length a.c0) := by rw [ka.out.cell]; rfl
      have z2 : x4.cell? ⟨ta, 2, none⟩ = some (.int .i64 a.m.s.ex) := by rw [ka.out.cell]; rfl
      have z3 : x4.cell? ⟨ta, 3, none⟩ = some (.bool a.m.w.neg) := by rw [ka.out.cell]; rfl
      have z4 : x4.cell? ⟨ta, 4, none⟩ = some (.slice a.X1 a.m.w.ls.length a.c1) := by rw [ka.out.cell]; rfl
      have z5 : x4.cell? ⟨ta, 5, none⟩ = some (.int .i64 a.m.w.ex) := by rw [ka.out.cell]; rfl
      have z6 : x4.cell? ⟨ta, 6, none⟩ = some (.bool a.m.c.neg) := by rw [ka.out.cell]; rfl
      have z7 : x4.cell? ⟨ta, 7, none⟩ = some (.slice a.X2 a.m.c.ls.length a.c2) := by rw [ka.out.cell]; rfl
      have z8 : x4.cell? ⟨ta, 8, none⟩ = some (.int .i64 a.m.c.ex) := by rw [ka.out.cell]; rfl
      have z9 : x4.cell? ⟨ta, 9, none⟩ = some (.bool a.m.a.neg) := by rw [ka.out.cell]; rfl
      have z10 : x4.cell? ⟨ta, 10, none⟩ = some (.slice a.X3 a.m.a.ls.length a.c3) := by rw [ka.out.cell]; rfl
      have z11 : x4.cell? ⟨ta, 11, none⟩ = some (.int .i64 a.m.a.ex) := by rw [ka.out.cell]; rfl
      go_wp2_with fail
      refine (msame_any a.m.s.neg a.X0 a.m.s.ls.length a.c0 a.m.s.ex a.m.w.neg a.X1 a.m.w.ls.length a.c1 a.m.w.ex a.m.c.neg a.X2 a.m.c.ls.length a.c2 a.m.c.ex a.m.a.neg a.X3 a.m.a.ls.length a.c3 a.m.a.ex false none 0 0 0 false none 0 0 0 false none 0 0 0 false none 0 0 0 a.m zM (by rw [t3.out]; exact zM_sm) zM_sm x4 ua.out (rdM_zero _ _) true (decide_eq_true t3.out)).mono ?_
      rintro en x5 ⟨rfl, hb⟩
      have gC := Lib.hid hb
      have sx5 : x4.heap.size ≤ x5.heap.size := hb.size
      replace gT := Lib.hid (Tab.below gT.out hb gT.out.2)
      replace r1 := Lib.hid (Recs.more (Recs.below r1.out hb) hb.size)
      replace ua := Lib.hid (RdO.below ua.out hb)
      replace ka := Lib.hid (ka.out.below hb ka.out.lt)
      replace gB := Lib.hid (gB.out.trans (hb.mono gB.out.size))
      clear hb
      clear z0 z1 z2 z3 z4 z5 z6 z7 z8 z9 z10 z11
      go_wp2
      go_meet
      exact ⟨rfl, gC.out⟩
  case rest =>
  obtain ⟨rfl, hb⟩ := hcut
  have swc : x4.heap.size ≤ wc.heap.size := hb.size
  replace gT := Lib.hid (Tab.below gT.out hb gT.out.2)
  replace r1 := Lib.hid (Recs.more (Recs.below r1.out hb) hb.size)
  replace ua := Lib.hid (RdO.below ua.out hb)
  replace ka := Lib.hid (ka.out.below hb ka.out.lt)
  replace gB := Lib.hid (gB.out.trans (hb.mono gB.out.size))
  clear hb
  go_upto_region 9 with fail
  have kS0 := Blk.new wc 27 #[.bool false, .slice none 0 0, .int .i64 0, .bool false, .slice none 0 0, .int .i64 0, .bool false, .slice none 0 0, .int .i64 0, .bool false, .slice none 0 0, .int .i64 0]
  obtain ⟨WL, hWL⟩ : ∃ W, W = wc.alloc (.cells #[.bool false, .slice none 0 0, .int .i64 0, .bool false, .slice none 0 0, .int .i64 0, .bool false, .slice none 0 0, .int .i64 0, .bool false, .slice none 0 0, .int .i64 0] 27) := ⟨_, rfl⟩
  have hb : Below wc.heap.size wc WL := by rw [hWL]; exact (Below.refl _ _).alloc (Nat.le_refl _) _
  rw [← hWL] at kS0
  obtain ⟨tS, htS⟩ : ∃ t, t = wc.heap.size := ⟨_, rfl⟩
  rw [← htS] at kS0
  rw [← hWL, ← htS]
  have gS0 : Hid (Blk WL tS 27 #[.bool (⟨zM, none, 0, none, 0, none, 0, none, 0⟩ : MB).m.s.neg, .slice (⟨zM, none, 0, none, 0, none, 0, none, 0⟩ : MB).X0 (⟨zM, none, 0, none, 0, none, 0, none, 0⟩ : MB).m.s.ls.length (⟨zM, none, 0, none, 0, none, 0, none, 0⟩ : MB).c0, .int .i64 (⟨zM, none, 0, none, 0, none, 0, none, 0⟩ : MB).m.s.ex, .bool (⟨zM, none, 0, none, 0, none, 0, none, 0⟩ : MB).m.w.neg, .slice (⟨zM, none, 0, none, 0, none, 0, none, 0⟩ : MB).X1 (⟨zM, none, 0, none, 0, none, 0, none, 0⟩ : MB).m.w.ls.length (⟨zM, none, 0, none, 0, none, 0, none, 0⟩ : MB).c1, .int .i64 (⟨zM, none, 0, none, 0, none, 0, none, 0⟩ : MB).m.w.ex, .bool (⟨zM, none, 0, none, 0, none, 0, none, 0⟩ : MB).m.c.neg, .slice (⟨zM, none, 0, none, 0, none, 0, none, 0⟩ : MB).X2 (⟨zM, none, 0, none, 0, none, 0, none, 0⟩ : MB).m.c.ls.length (⟨zM, none, 0, none, 0, none, 0, none, 0⟩ : MB).c2, .int .i64 (⟨zM, none, 0, none, 0, none, 0, none, 0⟩ : MB).m.c.ex, .bool (⟨zM, none, 0, none, 0, none, 0, none, 0⟩ : MB).m.a.neg, .slice (⟨zM, none, 0, none, 0, none, 0, none, 0⟩ : MB).X3 (⟨zM, none, 0, none, 0, none, 0, none, 0⟩ : MB).m.a.ls.length (⟨zM, none, 0, none, 0, none, 0, none, 0⟩ : MB).c3, .int .i64 (⟨zM, none, 0, none, 0, none, 0, none, 0⟩ : MB).m.a.ex] ∧ RdO WL (⟨zM, none, 0, none, 0, none, 0, none, 0⟩ : MB) ∧ Below wc.heap.size wc WL) := Lib.hid ⟨kS0, rdM_zero _ _, hb⟩
  have ltS := Lib.hid (show wc.heap.size ≤ tS from Nat.le_of_eq htS.symm)
  clear kS0 hWL htS hb
  go_wp2
  go_loopw [11] (fun t wr => ∃ (K : Nat) (s : MB), (1 ≤ K ∧ K ≤ 7) ∧ t = .int .u8 (K : Int) ∧ Hid ((∃ k, K = k + 1 ∧ wM s.m = wK l N k) ∧ okM s.m ∧ (1 < K → E = 0)) ∧ Hid (RdO wr s) ∧ Hid (Blk wr tS 27 #[.bool s.m.s.neg, .slice s.X0 s.m.s.ls.length s.c0, .int .i64 s.m.s.ex, .bool s.m.w.neg, .slice s.X1 s.m.w.ls.length s.c1, .int .i64 s.m.w.ex, .bool s.m.c.neg, .slice s.X2 s.m.c.ls.length s.c2, .int .i64 s.m.c.ex, .bool s.m.a.neg, .slice s.X3 s.m.a.ls.length s.c3, .int .i64 s.m.a.ex]) ∧ Hid (Below wc.heap.size wc wr)) (fun t _ => 7 - (intOf t).toNat)
  case atStart => exact ⟨1, (⟨zM, none, 0, none, 0, none, 0, none, 0⟩ : MB), ⟨by omega, by omega⟩, rfl, Lib.hid ⟨⟨0, rfl, wM_zM⟩, okM_zM, fun h => absurd h (by omega)⟩, Lib.hid gS0.out.2.1, Lib.hid gS0.out.1, Lib.hid gS0.out.2.2⟩
  case round =>
    clear gS0
    obtain ⟨K, s, hK, rfl, gW, us, kS, hbr⟩ := hrel
    replace hbr := hbr.out
    have gBl := Lib.hid hbr
    by_cases hlt : K ≤ 6
    · have hb := hbr
      have swr : wc.heap.size ≤ wr.heap.size := hb.size
      replace gT := Lib.hid (Tab.below gT.out hb gT.out.2)
      replace r1 := Lib.hid (Recs.more (Recs.below r1.out hb) hb.size)
      replace ua := Lib.hid (RdO.below ua.out hb)
      replace ka := Lib.hid (ka.out.below hb ka.out.lt)
      replace gB := Lib.hid (gB.out.trans (hb.mono gB.out.size))
      clear hb
      clear hbr
      have i1 : (K : Int) ≤ 6 := by omega
      obtain ⟨Ek, hEk⟩ : ∃ Ek, lsE (askL l N (K : Int)) (ofE l N (K : Int)) = Ek := ⟨_, rfl⟩
      obtain ⟨Y, hY⟩ : ∃ Y, lsM (askL l N (K : Int)) (ofE l N (K : Int)) = Y := ⟨_, rfl⟩
      have okY : Hid (okM Y) := Lib.hid (by rw [← hY]; exact lsM_ok (fun d hd => sumL_ok hd))
      have gEk := Lib.hid (And.intro hEk hY)
      clear hEk hY
      obtain ⟨Hh, hH⟩ : ∃ Hh, maE s.m Y = Hh := ⟨_, rfl⟩
      obtain ⟨Z, hZ⟩ : ∃ Z, maM s.m Y = Z := ⟨_, rfl⟩
      have okZ : Hid (okM Z) := Lib.hid (by rw [← hZ]; exact maM_ok _ _)
      have gH := Lib.hid (And.intro hH hZ)
      clear hH hZ
      go_wp2_with fail
      refine (lsumO_any A n c l hn83 wr r1.out hl N (K : Int) gT.out).mono ?_
      rintro en x9 hP
      have hq := lsum_one hP
      rw [gEk.out.1, gEk.out.2] at hq
      obtain ⟨x, ex, rfl, ux, hb⟩ := hq
      clear hP
      replace ex := Lib.hid ex
      replace ux := Lib.hid ux.rd
      replace gBl := Lib.hid (gBl.out.trans (hb.mono gBl.out.size))
      have sx9 : wr.heap.size ≤ x9.heap.size := hb.size
      replace gT := Lib.hid (Tab.below gT.out hb gT.out.2)
      replace r1 := Lib.hid (Recs.more (Recs.below r1.out hb) hb.size)
      replace ua := Lib.hid (RdO.below ua.out hb)
      replace ka := Lib.hid (ka.out.below hb ka.out.lt)
      replace us := Lib.hid (RdO.below us.out hb)
      replace kS := Lib.hid (kS.out.below hb kS.out.lt)
      replace gB := Lib.hid (gB.out.trans (hb.mono gB.out.size))
      clear hb
      obtain ⟨tx, ht⟩ : ∃ t, t = x9.heap.size := ⟨_, rfl⟩
      obtain ⟨y9x, hy9x⟩ : ∃ W, W = x9.alloc (.cells #[.bool x.m.s.neg, .slice x.X0 x.m.s.ls.length x.c0, .int .i64 x.m.s.ex, .bool x.m.w.neg, .slice x.X1 x.m.w.ls.length x.c1, .int .i64 x.m.w.ex, .bool x.m.c.neg, .slice x.X2 x.m.c.ls.length x.c2, .int .i64 x.m.c.ex, .bool x.m.a.neg, .slice x.X3 x.m.a.ls.length x.c3, .int .i64 x.m.a.ex] 27) := ⟨_, rfl⟩
      have hb : Below x9.heap.size x9 y9x := by rw [hy9x]; exact (Below.refl _ _).alloc (Nat.le_refl _) _
      have kx : Blk y9x x9.heap.size 27 #[.bool x.m.s.neg, .slice x.X0 x.m.s.ls.length x.c0, .int .i64 x.m.s.ex, .bool x.m.w.neg, .slice x.X1 x.m.w.ls.length x.c1, .int .i64 x.m.w.ex, .bool x.m.c.neg, .slice x.X2 x.m.c.ls.length x.c2, .int .i64 x.m.c.ex, .bool x.m.a.neg, .slice x.X3 x.m.a.ls.length x.c3, .int .i64 x.m.a.ex] := by rw [hy9x]; exact Blk.new _ _ _
      rw [← ht] at kx
      replace kx := Lib.hid kx
      replace gBl := Lib.hid (gBl.out.trans (hb.mono gBl.out.size))
      have sy9x : x9.heap.size ≤ y9x.heap.size := hb.size
      replace gT := Lib.hid (Tab.below gT.out hb gT.out.2)
      replace r1 := Lib.hid (Recs.more (Recs.below r1.out hb) hb.size)
      replace ua := Lib.hid (RdO.below ua.out hb)
      replace ka := Lib.hid (ka.out.below hb ka.out.lt)
      replace us := Lib.hid (RdO.below us.out hb)
      replace kS := Lib.hid (kS.out.below hb kS.out.lt)
      replace ux := Lib.hid (RdO.below ux.out hb)
      replace gB := Lib.hid (gB.out.trans (hb.mono gB.out.size))
      clear hb
      go_upto_region 13 with fail
      rw [← hy9x]
      clear hy9x
      rw [← ht]
      clear ht
      have a0 : y9x.cell? ⟨tS, 0, none⟩ = some (.bool s.m.s.neg) := by rw [kS.out.cell]; rfl
      have a1 : y9x.cell? ⟨tS, 1, none⟩ = some (.slice s.X0 s.m.s.ls.length s.c0) := by rw [kS.out.cell]; rfl
      have a2 : y9x.cell? ⟨tS, 2, none⟩ = some (.int .i64 s.m.s.ex) := by rw [kS.out.cell]; rfl
      have a3 : y9x.cell? ⟨tS, 3, none⟩ = some (.bool s.m.w.neg) := by rw [kS.out.cell]; rfl
      have a4 : y9x.cell? ⟨tS, 4, none⟩ = some (.slice s.X1 s.m.w.ls.length s.c1) := by rw [kS.out.cell]; rfl
      have a5 : y9x.cell? ⟨tS, 5, none⟩ = some (.int .i64 s.m.w.ex) := by rw [kS.out.cell]; rfl
      have a6 : y9x.cell? ⟨tS, 6, none⟩ = some (.bool s.m.c.neg) := by rw [kS.out.cell]; rfl
      have a7 : y9x.cell? ⟨tS, 7, none⟩ = some (.slice s.X2 s.m.c.ls.length s.c2) := by rw [kS.out.cell]; rfl
      have a8 : y9x.cell? ⟨tS, 8, none⟩ = some (.int .i64 s.m.c.ex) := by rw [kS.out.cell]; rfl
      have a9 : y9x.cell? ⟨tS, 9, none⟩ = some (.bool s.m.a.neg) := by rw [kS.out.cell]; rfl
      have a10 : y9x.cell? ⟨tS, 10, none⟩ = some (.slice s.X3 s.m.a.ls.length s.c3) := by rw [kS.out.cell]; rfl
      have a11 : y9x.cell? ⟨tS, 11, none⟩ = some (.int .i64 s.m.a.ex) := by rw [kS.out.cell]; rfl
      have z0 : y9x.cell? ⟨tx, 0, none⟩ = some (.bool x.m.s.neg) := by rw [kx.out.cell]; rfl
      have z1 : y9x.cell? ⟨tx, 1, none⟩ = some (.slice x.X0 x.m.s.ls.length x.c0) := by rw [kx.out.cell]; rfl
      have z2 : y9x.cell? ⟨tx, 2, none⟩ = some (.int .i64 x.m.s.ex) := by rw [kx.out.cell]; rfl
      have z3 : y9x.cell? ⟨tx, 3, none⟩ = some (.bool x.m.w.neg) := by rw [kx.out.cell]; rfl
      have z4 : y9x.cell? ⟨tx, 4, none⟩ = some (.slice x.X1 x.m.w.ls.length x.c1) := by rw [kx.out.cell]; rfl
      have z5 : y9x.cell? ⟨tx, 5, none⟩ = some (.int .i64 x.m.w.ex) := by rw [kx.out.cell]; rfl
      have z6 : y9x.cell? ⟨tx, 6, none⟩ = some (.bool x.m.c.neg) := by rw [kx.out.cell]; rfl
      have z7 : y9x.cell? ⟨tx, 7, none⟩ = some (.slice x.X2 x.m.c.ls.length x.c2) := by rw [kx.out.cell]; rfl
      have z8 : y9x.cell? ⟨tx, 8, none⟩ = some (.int .i64 x.m.c.ex) := by rw [kx.out.cell]; rfl
      have z9 : y9x.cell? ⟨tx, 9, none⟩ = some (.bool x.m.a.neg) := by rw [kx.out.cell]; rfl
      have z10 : y9x.cell? ⟨tx, 10, none⟩ = some (.slice x.X3 x.m.a.ls.length x.c3) := by rw [kx.out.cell]; rfl
      have z11 : y9x.cell? ⟨tx, 11, none⟩ = some (.int .i64 x.m.a.ex) := by rw [kx.out.cell]; rfl
      go_wp2_with fail
      refine (madd_any s.m x.m gW.out.2.1.lt (by rw [ex.out]; exact okY.out.lt) s.X0 s.c0 s.X1 s.c1 s.X2 s.c2 s.X3 s.c3 x.X0 x.c0 x.X1 x.c1 x.X2 x.c2 x.X3 x.c3 y9x us.out ux.out gT.out).mono ?_
      rintro en x10 hP
      rw [ex.out] at hP
      have hq := madd_one hP
      rw [gH.out.1, gH.out.2] at hq
      obtain ⟨v, ev, rfl, uv, hb⟩ := hq
      clear hP
      replace ev := Lib.hid ev
      have gtS : Hid (tS < y9x.heap.size) := Lib.hid kS.out.lt
      replace uv := Lib.hid (OwM.base_le uv gtS.out)
      replace gBl := Lib.hid (gBl.out.trans (hb.mono gBl.out.size))
      have sx10 : y9x.heap.size ≤ x10.heap.size := hb.size
      replace gT := Lib.hid (Tab.below gT.out hb gT.out.2)
      replace r1 := Lib.hid (Recs.more (Recs.below r1.out hb) hb.size)
      replace ua := Lib.hid (RdO.below ua.out hb)
      replace ka := Lib.hid (ka.out.below hb ka.out.lt)
      replace us := Lib.hid (RdO.below us.out hb)
      replace kS := Lib.hid (kS.out.below hb kS.out.lt)
      replace ux := Lib.hid (RdO.below ux.out hb)
      replace kx := Lib.hid (kx.out.below hb kx.out.lt)
      replace gB := Lib.hid (gB.out.trans (hb.mono gB.out.size))
      clear hb
      clear a0 a1 a2 a3 a4 a5 a6 a7 a8 a9 a10 a11 z0 z1 z2 z3 z4 z5 z6 z7 z8 z9 z10 z11
      obtain ⟨tv, ht⟩ : ∃ t, t = x10.heap.size := ⟨_, rfl⟩
      obtain ⟨y10v, hy10v⟩ : ∃ W, W = x10.alloc (.cells #[.bool v.m.s.neg, .slice v.X0 v.m.s.ls.length v.c0, .int .i64 v.m.s.ex, .bool v.m.w.neg, .slice v.X1 v.m.w.ls.length v.c1, .int .i64 v.m.w.ex, .bool v.m.c.neg, .slice v.X2 v.m.c.ls.length v.c2, .int .i64 v.m.c.ex, .bool v.m.a.neg, .slice v.X3 v.m.a.ls.length v.c3, .int .i64 v.m.a.ex] 27) := ⟨_, rfl⟩
      have hb : Below x10.heap.size x10 y10v := by rw [hy10v]; exact (Below.refl _ _).alloc (Nat.le_refl _) _
      have kv : Blk y10v x10.heap.size 27 #[.bool v.m.s.neg, .slice v.X0 v.m.s.ls.length v.c0, .int .i64 v.m.s.ex, .bool v.m.w.neg, .slice v.X1 v.m.w.ls.length v.c1, .int .i64 v.m.w.ex, .bool v.m.c.neg, .slice v.X2 v.m.c.ls.length v.c2, .int .i64 v.m.c.ex, .bool v.m.a.neg, .slice v.X3 v.m.a.ls.length v.c3, .int .i64 v.m.a.ex] := by rw [hy10v]; exact Blk.new _ _ _
      rw [← ht] at kv
      replace kv := Lib.hid kv
      replace gBl := Lib.hid (gBl.out.trans (hb.mono gBl.out.size))
      have sy10v : x10.heap.size ≤ y10v.heap.size := hb.size
      replace gT := Lib.hid (Tab.below gT.out hb gT.out.2)
      replace r1 := Lib.hid (Recs.more (Recs.below r1.out hb) hb.size)
      replace ua := Lib.hid (RdO.below ua.out hb)
      replace ka := Lib.hid (ka.out.below hb ka.out.lt)
      replace us := Lib.hid (RdO.below us.out hb)
      replace kS := Lib.hid (kS.out.below hb kS.out.lt)
      replace ux := Lib.hid (RdO.below ux.out hb)
      replace kx := Lib.hid (kx.out.below hb kx.out.lt)
      replace uv := Lib.hid (OwM.below uv.out hb)
      replace gB := Lib.hid (gB.out.trans (hb.mono gB.out.size))
      clear hb
      go_upto_region 14 with fail
      rw [← hy10v]
      clear hy10v
      rw [← ht]
      clear ht
      by_cases hz : Ek = 0 ∧ Hh = 0 ∧ E = 0
      rotate_left
      · by_cases f0 : F = 0
        · have t9 : (F == 0) = true := beq_iff_eq.2 f0
          clear f0
          have ty : (Ek != 0) = true ∨ (Ek != 0) = false ∧ ((Hh != 0) = true ∨ (Hh != 0) = false ∧ (E != 0) = true) := by
            by_cases h1 : Ek = 0
            · refine .inr ⟨bne_eq_false_iff_eq.2 h1, ?_⟩
              by_cases h2 : Hh = 0
              · exact .inr ⟨bne_eq_false_iff_eq.2 h2, bne_iff_ne.2 (fun h3 => hz ⟨h1, h2, h3⟩)⟩
              · exact .inl (bne_iff_ne.2 h2)
            · exact .inl (bne_iff_ne.2 h1)
          clear hz
          rcases ty with t1 | ⟨t1, t2 | ⟨t2, t3⟩⟩
          · go_wp2
            go_ret
            exact ⟨rfl, gB.out⟩
          · go_wp2
            go_ret
            exact ⟨rfl, gB.out⟩
          · go_wp2
            go_ret
            exact ⟨rfl, gB.out⟩
        · have e1 : E = F := by rw [← gE.out.1, gF.out]; exact lsE_err f0
          have e2 : Ek = F := by rw [← gEk.out.1, ask_kinds l N hK.1 hlt, gF.out]; exact lsE_err f0
          have t1 : (F != 0) = true := bne_iff_ne.2 f0
          have t2 : (F == 0) = false := beq_eq_false_iff_ne.2 f0
          have t3 : (F == F) = true := by simp
          clear hz f0
          subst e1
          subst e2
          go_wp2
          go_ret
          exact ⟨rfl, gB.out⟩
      obtain ⟨z1, z2, z3⟩ := hz
      subst z1
      subst z2
      have t1 : (E != 0) = false := bne_eq_false_iff_eq.2 z3
      have gN : Hid ((∃ k, K + 1 = k + 1 ∧ wM v.m = wK l N k) ∧ okM v.m ∧ (1 < K + 1 → E = 0)) := Lib.hid (by
        obtain ⟨⟨k, e, hw⟩, hs, _⟩ := gW.out
        obtain ⟨_, d, hd, h1⟩ := lsE_cases gEk.out.1
        obtain ⟨d2, hd2, h2⟩ := maE_cases gH.out.1
        have e1 : Y = d := gEk.out.2.symm.trans h1
        have e2 : Z = d2 := gH.out.2.symm.trans h2
        refine ⟨⟨K, rfl, ?_⟩, by rw [ev.out]; exact okZ.out, fun _ => z3⟩
        rw [ev.out, e2, e]
        exact kinds_step (k := k) hw (by rw [← e]; exact hd) (by rw [← e1]; exact hd2))
      clear z3
      have gk' : Hid (Blk ((((((((((((y10v.setCell ⟨tS, 0, none⟩ (.bool v.m.s.neg)).setCell ⟨tS, 1, none⟩ (.slice v.X0 v.m.s.ls.length v.c0)).setCell ⟨tS, 2, none⟩ (.int .i64 v.m.s.ex)).setCell ⟨tS, 3, none⟩ (.bool v.m.w.neg)).setCell ⟨tS, 4, none⟩ (.slice v.X1 v.m.w.ls.length v.c1)).setCell ⟨tS, 5, none⟩ (.int .i64 v.m.w.ex)).setCell ⟨tS, 6, none⟩ (.bool v.m.c.neg)).setCell ⟨tS, 7, none⟩ (.slice v.X2 v.m.c.ls.length v.c2)).setCell ⟨tS, 8, none⟩ (.int .i64 v.m.c.ex)).setCell ⟨tS, 9, none⟩ (.bool v.m.a.neg)).setCell ⟨tS, 10, none⟩ (.slice v.X3 v.m.a.ls.length v.c3)).setCell ⟨tS, 11, none⟩ (.int .i64 v.m.a.ex)) tS 27 #[.bool v.m.s.neg, .slice v.X0 v.m.s.ls.length v.c0, .int .i64 v.m.s.ex, .bool v.m.w.neg, .slice v.X1 v.m.w.ls.length v.c1, .int .i64 v.m.w.ex, .bool v.m.c.neg, .slice v.X2 v.m.c.ls.length v.c2, .int .i64 v.m.c.ex, .bool v.m.a.neg, .slice v.X3 v.m.a.ls.length v.c3, .int .i64 v.m.a.ex]) := Lib.hid (c12_blk kS.out (.bool v.m.s.neg) (.slice v.X0 v.m.s.ls.length v.c0) (.int .i64 v.m.s.ex) (.bool v.m.w.neg) (.slice v.X1 v.m.w.ls.length v.c1) (.int .i64 v.m.w.ex) (.bool v.m.c.neg) (.slice v.X2 v.m.c.ls.length v.c2) (.int .i64 v.m.c.ex) (.bool v.m.a.neg) (.slice v.X3 v.m.a.ls.length v.c3) (.int .i64 v.m.a.ex))
      have gu' : Hid (RdO ((((((((((((y10v.setCell ⟨tS, 0, none⟩ (.bool v.m.s.neg)).setCell ⟨tS, 1, none⟩ (.slice v.X0 v.m.s.ls.length v.c0)).setCell ⟨tS, 2, none⟩ (.int .i64 v.m.s.ex)).setCell ⟨tS, 3, none⟩ (.bool v.m.w.neg)).setCell ⟨tS, 4, none⟩ (.slice v.X1 v.m.w.ls.length v.c1)).setCell ⟨tS, 5, none⟩ (.int .i64 v.m.w.ex)).setCell ⟨tS, 6, none⟩ (.bool v.m.c.neg)).setCell ⟨tS, 7, none⟩ (.slice v.X2 v.m.c.ls.length v.c2)).setCell ⟨tS, 8, none⟩ (.int .i64 v.m.c.ex)).setCell ⟨tS, 9, none⟩ (.bool v.m.a.neg)).setCell ⟨tS, 10, none⟩ (.slice v.X3 v.m.a.ls.length v.c3)).setCell ⟨tS, 11, none⟩ (.int .i64 v.m.a.ex)) v) := Lib.hid (OwM.rd (c12_own uv.out (Nat.lt_succ_self _) (.bool v.m.s.neg) (.slice v.X0 v.m.s.ls.length v.c0) (.int .i64 v.m.s.ex) (.bool v.m.w.neg) (.slice v.X1 v.m.w.ls.length v.c1) (.int .i64 v.m.w.ex) (.bool v.m.c.neg) (.slice v.X2 v.m.c.ls.length v.c2) (.int .i64 v.m.c.ex) (.bool v.m.a.neg) (.slice v.X3 v.m.a.ls.length v.c3) (.int .i64 v.m.a.ex)))
      have gb' : Hid (Below wc.heap.size wc ((((((((((((y10v.setCell ⟨tS, 0, none⟩ (.bool v.m.s.neg)).setCell ⟨tS, 1, none⟩ (.slice v.X0 v.m.s.ls.length v.c0)).setCell ⟨tS, 2, none⟩ (.int .i64 v.m.s.ex)).setCell ⟨tS, 3, none⟩ (.bool v.m.w.neg)).setCell ⟨tS, 4, none⟩ (.slice v.X1 v.m.w.ls.length v.c1)).setCell ⟨tS, 5, none⟩ (.int .i64 v.m.w.ex)).setCell ⟨tS, 6, none⟩ (.bool v.m.c.neg)).setCell ⟨tS, 7, none⟩ (.slice v.X2 v.m.c.ls.length v.c2)).setCell ⟨tS, 8, none⟩ (.int .i64 v.m.c.ex)).setCell ⟨tS, 9, none⟩ (.bool v.m.a.neg)).setCell ⟨tS, 10, none⟩ (.slice v.X3 v.m.a.ls.length v.c3)).setCell ⟨tS, 11, none⟩ (.int .i64 v.m.a.ex))) := Lib.hid (c12_below gBl.out ltS.out (.bool v.m.s.neg) (.slice v.X0 v.m.s.ls.length v.c0) (.int .i64 v.m.s.ex) (.bool v.m.w.neg) (.slice v.X1 v.m.w.ls.length v.c1) (.int .i64 v.m.w.ex) (.bool v.m.c.neg) (.slice v.X2 v.m.c.ls.length v.c2) (.int .i64 v.m.c.ex) (.bool v.m.a.neg) (.slice v.X3 v.m.a.ls.length v.c3) (.int .i64 v.m.a.ex))
      have z0 : y10v.cell? ⟨tv, 0, none⟩ = some (.bool v.m.s.neg) := by rw [kv.out.cell]; rfl
      have z1 : y10v.cell? ⟨tv, 1, none⟩ = some (.slice v.X0 v.m.s.ls.length v.c0) := by rw [kv.out.cell]; rfl
      have z2 : y10v.cell? ⟨tv, 2, none⟩ = some (.int .i64 v.m.s.ex) := by rw [kv.out.cell]; rfl
      have z3 : y10v.cell? ⟨tv, 3, none⟩ = some (.bool v.m.w.neg) := by rw [kv.out.cell]; rfl
      have z4 : y10v.cell? ⟨tv, 4, none⟩ = some (.slice v.X1 v.m.w.ls.length v.c1) := by rw [kv.out.cell]; rfl
      have z5 : y10v.cell? ⟨tv, 5, none⟩ = some (.int .i64 v.m.w.ex) := by rw [kv.out.cell]; rfl
      have z6 : y10v.cell? ⟨tv, 6, none⟩ = some (.bool v.m.c.neg) := by rw [kv.out.cell]; rfl
      have z7 : y10v.cell? ⟨tv, 7, none⟩ = some (.slice v.X2 v.m.c.ls.length v.c2) := by rw [kv.out.cell]; rfl
      have z8 : y10v.cell? ⟨tv, 8, none⟩ = some (.int .i64 v.m.c.ex) := by rw [kv.out.cell]; rfl
      have z9 : y10v.cell? ⟨tv, 9, none⟩ = some (.bool v.m.a.neg) := by rw [kv.out.cell]; rfl
      have z10 : y10v.cell? ⟨tv, 10, none⟩ = some (.slice v.X3 v.m.a.ls.length v.c3) := by rw [kv.out.cell]; rfl
      have z11 : y10v.cell? ⟨tv, 11, none⟩ = some (.int .i64 v.m.a.ex) := by rw [kv.out.cell]; rfl
      have a0 : y10v.cell? ⟨tS, 0, none⟩ = some (.bool s.m.s.neg) := by rw [kS.out.cell]; rfl
      have a1 : y10v.cell? ⟨tS, 1, none⟩ = some (.slice s.X0 s.m.s.ls.length s.c0) := by rw [kS.out.cell]; rfl
      have a2 : y10v.cell? ⟨tS, 2, none⟩ = some (.int .i64 s.m.s.ex) := by rw [kS.out.cell]; rfl
      have a3 : y10v.cell? ⟨tS, 3, none⟩ = some (.bool s.m.w.neg) := by rw [kS.out.cell]; rfl
      have a4 : y10v.cell? ⟨tS, 4, none⟩ = some (.slice s.X1 s.m.w.ls.length s.c1) := by rw [kS.out.cell]; rfl
      have a5 : y10v.cell? ⟨tS, 5, none⟩ = some (.int .i64 s.m.w.ex) := by rw [kS.out.cell]; rfl
      have a6 : y10v.cell? ⟨tS, 6, none⟩ = some (.bool s.m.c.neg) := by rw [kS.out.cell]; rfl
      have a7 : y10v.cell? ⟨tS, 7, none⟩ = some (.slice s.X2 s.m.c.ls.length s.c2) := by rw [kS.out.cell]; rfl
      have a8 : y10v.cell? ⟨tS, 8, none⟩ = some (.int .i64 s.m.c.ex) := by rw [kS.out.cell]; rfl
      have a9 : y10v.cell? ⟨tS, 9, none⟩ = some (.bool s.m.a.neg) := by rw [kS.out.cell]; rfl
      have a10 : y10v.cell? ⟨tS, 10, none⟩ = some (.slice s.X3 s.m.a.ls.length s.c3) := by rw [kS.out.cell]; rfl
      have a11 : y10v.cell? ⟨tS, 11, none⟩ = some (.int .i64 s.m.a.ex) := by rw [kS.out.cell]; rfl
      have f0 := kS.out.frozen 0
      have f1 := kS.out.frozen 1
      have f2 := kS.out.frozen 2
      have f3 := kS.out.frozen 3
      have f4 := kS.out.frozen 4
      have f5 := kS.out.frozen 5
      have f6 := kS.out.frozen 6
      have f7 := kS.out.frozen 7
      have f8 := kS.out.frozen 8
      have f9 := kS.out.frozen 9
      have f10 := kS.out.frozen 10
      have f11 := kS.out.frozen 11
      go_wp2
      go_roundw
      case rel => exact ⟨K + 1, v, ⟨by omega, by omega⟩, by go_num, gN, gu', gk', gb'⟩
      case measure => simp [intOf]; omega
    · have hb := hbr
      have swr : wc.heap.size ≤ wr.heap.size := hb.size
      replace gT := Lib.hid (Tab.below gT.out hb gT.out.2)
      replace r1 := Lib.hid (Recs.more (Recs.below r1.out hb) hb.size)
      replace ua := Lib.hid (RdO.below ua.out hb)
      replace ka := Lib.hid (ka.out.below hb ka.out.lt)
      replace gB := Lib.hid (gB.out.trans (hb.mono gB.out.size))
      clear hb
      clear hbr
      obtain rfl : K = 7 := by omega
      have e0 : E = 0 := gW.out.2.2 (by omega)
      have hq := lsE_cases (gE.out.1.trans e0)
      obtain ⟨hq1, d, hq2, hq3⟩ := hq
      have e1 : s.m = X := by
        obtain ⟨⟨k, e, hw⟩, hs, _⟩ := gW.out
        obtain rfl : k = 6 := by omega
        rw [← gE.out.2, hq3]
        exact kinds_plain hq1 hq2 hs hw
      have f0 : F = 0 := gF.out.symm.trans hq1
      have t1 : (F == 0) = true := beq_iff_eq.2 f0
      clear f0 e0 hq1 hq2 hq3
      replace e1 := Lib.hid e1
      have a0 : wr.cell? ⟨tS, 0, none⟩ = some (.bool s.m.s.neg) := by rw [kS.out.cell]; rfl
      have a1 : wr.cell? ⟨tS, 1, none⟩ = some (.slice s.X0 s.m.s.ls.length s.c0) := by rw [kS.out.cell]; rfl
      have a2 : wr.cell? ⟨tS, 2, none⟩ = some (.int .i64 s.m.s.ex) := by rw [kS.out.cell]; rfl
      have a3 : wr.cell? ⟨tS, 3, none⟩ = some (.bool s.m.w.neg) := by rw [kS.out.cell]; rfl
      have a4 : wr.cell? ⟨tS, 4, none⟩ = some (.slice s.X1 s.m.w.ls.length s.c1) := by rw [kS.out.cell]; rfl
      have a5 : wr.cell? ⟨tS, 5, none⟩ = some (.int .i64 s.m.w.ex) := by rw [kS.out.cell]; rfl
      have a6 : wr.cell? ⟨tS, 6, none⟩ = some (.bool s.m.c.neg) := by rw [kS.out.cell]; rfl
      have a7 : wr.cell? ⟨tS, 7, none⟩ = some (.slice s.X2 s.m.c.ls.length s.c2) := by rw [kS.out.cell]; rfl
      have a8 : wr.cell? ⟨tS, 8, none⟩ = some (.int .i64 s.m.c.ex) := by rw [kS.out.cell]; rfl
      have a9 : wr.cell? ⟨tS, 9, none⟩ = some (.bool s.m.a.neg) := by rw [kS.out.cell]; rfl
      have a10 : wr.cell? ⟨tS, 10, none⟩ = some (.slice s.X3 s.m.a.ls.length s.c3) := by rw [kS.out.cell]; rfl
      have a11 : wr.cell? ⟨tS, 11, none⟩ = some (.int .i64 s.m.a.ex) := by rw [kS.out.cell]; rfl
      have z0 : wr.cell? ⟨ta, 0, none⟩ = some (.bool a.m.s.neg) := by rw [ka.out.cell]; rfl
      have z1 : wr.cell? ⟨ta, 1, none⟩ = some (.slice a.X0 a.m.s.ls.length a.c0) := by rw [ka.out.cell]; rfl
      have z2 : wr.cell? ⟨ta, 2, none⟩ = some (.int .i64 a.m.s.ex) := by rw [ka.out.cell]; rfl
      have z3 : wr.cell? ⟨ta, 3, none⟩ = some (.bool a.m.w.neg) := by rw [ka.out.cell]; rfl
      have z4 : wr.cell? ⟨ta, 4, none⟩ = some (.slice a.X1 a.m.w.ls.length a.c1) := by rw [ka.out.cell]; rfl
      have z5 : wr.cell? ⟨ta, 5, none⟩ = some (.int .i64 a.m.w.ex) := by rw [ka.out.cell]; rfl
      have z6 : wr.cell? ⟨ta, 6, none⟩ = some (.bool a.m.c.neg) := by rw [ka.out.cell]; rfl
      have z7 : wr.cell? ⟨ta, 7, none⟩ = some (.slice a.X2 a.m.c.ls.length a.c2) := by rw [ka.out.cell]; rfl
      have z8 : wr.cell? ⟨ta, 8, none⟩ = some (.int .i64 a.m.c.ex) := by rw [ka.out.cell]; rfl
      have z9 : wr.cell? ⟨ta, 9, none⟩ = some (.bool a.m.a.neg) := by rw [ka.out.cell]; rfl
      have z10 : wr.cell? ⟨ta, 10, none⟩ = some (.slice a.X3 a.m.a.ls.length a.c3) := by rw [ka.out.cell]; rfl
      have z11 : wr.cell? ⟨ta, 11, none⟩ = some (.int .i64 a.m.a.ex) := by rw [ka.out.cell]; rfl
      go_wp2_with fail
      refine (msame_any s.m.s.neg s.X0 s.m.s.ls.length s.c0 s.m.s.ex s.m.w.neg s.X1 s.m.w.ls.length s.c1 s.m.w.ex s.m.c.neg s.X2 s.m.c.ls.length s.c2 s.m.c.ex s.m.a.neg s.X3 s.m.a.ls.length s.c3 s.m.a.ex a.m.s.neg a.X0 a.m.s.ls.length a.c0 a.m.s.ex a.m.w.neg a.X1 a.m.w.ls.length a.c1 a.m.w.ex a.m.c.neg a.X2 a.m.c.ls.length a.c2 a.m.c.ex a.m.a.neg a.X3 a.m.a.ls.length a.c3 a.m.a.ex s.m a.m gW.out.2.1.sm (by rw [ea.out]; exact okX.out.sm) wr us.out ua.out true (decide_eq_true (by rw [ea.out]; exact e1.out))).mono ?_
      rintro en x9 ⟨rfl, hb⟩
      have sx9 : wr.heap.size ≤ x9.heap.size := hb.size
      replace gT := Lib.hid (Tab.below gT.out hb gT.out.2)
      replace r1 := Lib.hid (Recs.more (Recs.below r1.out hb) hb.size)
      replace ua := Lib.hid (RdO.below ua.out hb)
      replace ka := Lib.hid (ka.out.below hb ka.out.lt)
      replace us := Lib.hid (RdO.below us.out hb)
      replace kS := Lib.hid (kS.out.below hb kS.out.lt)
      replace gB := Lib.hid (gB.out.trans (hb.mono gB.out.size))
      clear hb
      clear a0 a1 a2 a3 a4 a5 a6 a7 a8 a9 a10 a11 z0 z1 z2 z3 z4 z5 z6 z7 z8 z9 z10 z11
      go_wp2
      go_ret
      exact ⟨rfl, gB.out⟩
end Go.Proofs.YtmppalgecboeeaaDoor
