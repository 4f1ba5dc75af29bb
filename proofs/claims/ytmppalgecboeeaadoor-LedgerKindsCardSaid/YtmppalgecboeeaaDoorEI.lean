/- Door: the chapter's example -/
import Derived.Test.YtmppalgecboeeaaDoorEH
import Derived.Test.YtmppalgecboeeaaDoorKA
namespace Go.Proofs.YtmppalgecboeeaaDoor
open Go.ChangeShapes Go.WideShapes Go.ChangeAt Go.RowKit
set_option linter.unusedSimpArgs false
set_option linter.unusedVariables false
open Go.Shelf
set_option maxRecDepth 100000
theorem ofM_sm (x : Nat) : smM (ofM x) := ⟨by simp [ofM], by simp [ofM], by simp [ofM], by simp [ofM]⟩
theorem okd_z : okd zdy := ⟨by decide, fun x h => by cases h⟩
theorem okd_1 {x : Nat} (h0 : x ≠ 0) (h : x < LB) : okd ⟨false, [x], 0⟩ := ⟨mayd_of (by simp) (by simp [Canon, h0]) (Int.le_refl _) (show (0 : Int) ≤ 1024 by decide) (by simp) (.inl rfl), fun y hy => by rw [List.mem_singleton.1 hy]; exact h⟩
theorem addD_zz : addD zdy zdy = some zdy := addD_is okd_z (by simp [worth_zero])
theorem addD_zx {d : Dy} (h : okd d) : addD zdy d = some d := addD_is h (by simp [worth_zero])
theorem worth_1 (x : Nat) : worth ⟨false, [x], 0⟩ = ((x * 2 ^ (1024 - (0 : Int).toNat) : Nat) : Int) := by
  unfold worth
  rw [show val LB [x] = x by simp [val]]
  rfl
theorem addD_34 : addD ⟨false, [3], 0⟩ ⟨false, [4], 0⟩ = some ⟨false, [7], 0⟩ := addD_is (okd_1 (by decide) (by decide)) (by
  rw [worth_1, worth_1, worth_1]
  generalize 2 ^ (1024 - (0 : Int).toNat) = K
  omega)
theorem addM_is {m k d : Ms} (h0 : addD m.s k.s = some d.s) (h1 : addD m.w k.w = some d.w) (h2 : addD m.c k.c = some d.c) (h3 : addD m.a k.a = some d.a) : addM m k = some d := by
  unfold addM
  rw [h0, h1, h2, h3]
theorem sum2 : sumE [⟨2, 1, ofM 3⟩, ⟨2, 4, ofM 4⟩] 2 = some (ofM 7) := by
  have h1 : addM zM (ofM 3) = some (ofM 3) := addM_is (addD_zx (okd_1 (by decide) (by decide))) addD_zz addD_zz addD_zz
  have h2 : addM (ofM 3) (ofM 4) = some (ofM 7) := addM_is addD_34 addD_zz addD_zz addD_zz
  show sumF zM [ofM 3, ofM 4] = _
  simp only [sumF, h1, h2]
theorem of21 : ofE [⟨2, 1, ofM 3⟩, ⟨2, 4, ofM 4⟩] 2 1 = some (ofM 3) := by
  have h1 : addM zM (ofM 3) = some (ofM 3) := addM_is (addD_zx (okd_1 (by decide) (by decide))) addD_zz addD_zz addD_zz
  show sumF zM [ofM 3] = _
  simp only [sumF, h1]
theorem sum1 : sumE [⟨2, 1, ofM 3⟩, ⟨2, 4, ofM 4⟩] 1 = some zM := rfl
theorem ask21 : askL [⟨2, 1, ofM 3⟩, ⟨2, 4, ofM 4⟩] 2 1 = 0 := by decide +kernel
theorem ask11 : askL [⟨2, 1, ofM 3⟩, ⟨2, 4, ofM 4⟩] 1 1 = 0 := by decide +kernel
theorem cln1 : clnL [⟨2, 1, ofM 3⟩, ⟨2, 4, ofM 4⟩] 1 = true := by decide +kernel
theorem cln2 : clnL [⟨2, 1, ofM 3⟩, ⟨2, 4, ofM 4⟩] 2 = false := by decide +kernel
theorem sm1 : ∀ x ∈ ([⟨2, 1, ofM 3⟩] : List En), smM x.give := fun x h => by rw [List.mem_singleton.1 h]; exact ofM_sm _
theorem lt_one {x : Nat} (h : x < LB) : ltM4 (ofM x) := ⟨fun y hy => by rw [List.mem_singleton.1 hy]; exact h, lt_nil, lt_nil, lt_nil⟩
theorem lt2 : ∀ x ∈ ([⟨2, 1, ofM 3⟩, ⟨2, 4, ofM 4⟩] : List En), ltM4 x.give := fun x h => by
  rcases List.mem_cons.1 h with rfl | h
  · exact lt_one (by decide)
  · rw [List.mem_singleton.1 h]; exact lt_one (by decide)
set_option maxHeartbeats 32000000 in
theorem alive_any (w : World) (hT : Tab w) : Calls Tryd.prog 25 #[] w fun en w' => en = .returned (.bool true) ∧ Below w.heap.size w w' := by
  have gB := Lib.hid (Below.refl w.heap.size w)
  have gT := Lib.hid hT
  clear hT
  go_enter Tryd.func25, Tryd.ntmps25
  go_wp2_with fail
  refine (of_any 3 (by decide) w).mono ?_
  rintro en x1 ⟨p, rfl, ep, up, hb⟩
  replace ep := Lib.hid ep
  replace up := Lib.hid up.rd
  have sx1 : w.heap.size ≤ x1.heap.size := hb.size
  replace gT := Lib.hid (Tab.below gT.out hb gT.out.2)
  replace gB := Lib.hid (gB.out.trans (hb.mono gB.out.size))
  clear hb
  go_wp2_with fail
  refine (book_any none 0 0 [] (by decide) (fun x h => by cases h) x1 (Recs.none_) 2 1 p.m (by rw [ep.out]; exact ofM_sm _) p.X0 p.c0 p.X1 p.c1 p.X2 p.c2 p.X3 p.c3 up.out).mono ?_
  rintro en x2 hP
  obtain ⟨Aa, ca, rfl, hT⟩ := book_is (l' := [⟨2, 1, ofM 3⟩]) hP (E := 0) (by rw [ep.out]; decide +kernel) (by rw [ep.out]; decide +kernel)
  clear hP
  have hb := hT.2.2.2.1
  have ra : Hid (Ens x2 x2.heap.size Aa _ _) := Lib.hid hT.2.1
  clear hT
  have sx2 : x1.heap.size ≤ x2.heap.size := hb.size
  replace gT := Lib.hid (Tab.below gT.out hb gT.out.2)
  replace up := Lib.hid (RdO.below up.out hb)
  replace gB := Lib.hid (gB.out.trans (hb.mono gB.out.size))
  clear hb
  go_wp2_with fail
  refine (of_any 4 (by decide) x2).mono ?_
  rintro en x3 ⟨q, rfl, eq, uq, hb⟩
  replace eq := Lib.hid eq
  replace uq := Lib.hid uq.rd
  have sx3 : x2.heap.size ≤ x3.heap.size := hb.size
  replace gT := Lib.hid (Tab.below gT.out hb gT.out.2)
  replace up := Lib.hid (RdO.below up.out hb)
  replace ra := Lib.hid (Recs.more (Recs.below ra.out hb) hb.size)
  replace gB := Lib.hid (gB.out.trans (hb.mono gB.out.size))
  clear hb
  go_wp2_with fail
  refine (book_any Aa 1 ca [⟨2, 1, ofM 3⟩] (by decide) (sm1) x3 (ra.out) 2 4 q.m (by rw [eq.out]; exact ofM_sm _) q.X0 q.c0 q.X1 q.c1 q.X2 q.c2 q.X3 q.c3 uq.out).mono ?_
  rintro en x4 hP
  obtain ⟨Ab, cb, rfl, hT⟩ := book_is (l' := [⟨2, 1, ofM 3⟩, ⟨2, 4, ofM 4⟩]) hP (E := 0) (by rw [eq.out]; decide +kernel) (by rw [eq.out]; decide +kernel)
  clear hP
  have hb := hT.2.2.2.1
  have rb : Hid (Ens x4 x4.heap.size Ab _ _) := Lib.hid hT.2.1
  clear hT
  have sx4 : x3.heap.size ≤ x4.heap.size := hb.size
  replace gT := Lib.hid (Tab.below gT.out hb gT.out.2)
  replace up := Lib.hid (RdO.below up.out hb)
  replace ra := Lib.hid (Recs.more (Recs.below ra.out hb) hb.size)
  replace uq := Lib.hid (RdO.below uq.out hb)
  replace gB := Lib.hid (gB.out.trans (hb.mono gB.out.size))
  clear hb
  go_wp2_with fail
  refine (lsumS_any Ab 2 cb [⟨2, 1, ofM 3⟩, ⟨2, 4, ofM 4⟩] (by decide) x4 rb.out lt2 2 gT.out).mono ?_
  rintro en x5 hP
  rw [ask21, sum2] at hP
  obtain ⟨g, eg, rfl, ug, hb⟩ := lsum_yes hP
  clear hP
  replace eg := Lib.hid eg
  replace ug := Lib.hid ug.rd
  have sx5 : x4.heap.size ≤ x5.heap.size := hb.size
  replace gT := Lib.hid (Tab.below gT.out hb gT.out.2)
  replace up := Lib.hid (RdO.below up.out hb)
  replace ra := Lib.hid (Recs.more (Recs.below ra.out hb) hb.size)
  replace uq := Lib.hid (RdO.below uq.out hb)
  replace rb := Lib.hid (Recs.more (Recs.below rb.out hb) hb.size)
  replace gB := Lib.hid (gB.out.trans (hb.mono gB.out.size))
  clear hb
  obtain ⟨tg, ht⟩ : ∃ t, t = x5.heap.size := ⟨_, rfl⟩
  obtain ⟨y5g, hy5g⟩ : ∃ W, W = x5.alloc (.cells #[.bool g.m.s.neg, .slice g.X0 g.m.s.ls.length g.c0, .int .i64 g.m.s.ex, .bool g.m.w.neg, .slice g.X1 g.m.w.ls.length g.c1, .int .i64 g.m.w.ex, .bool g.m.c.neg, .slice g.X2 g.m.c.ls.length g.c2, .int .i64 g.m.c.ex, .bool g.m.a.neg, .slice g.X3 g.m.a.ls.length g.c3, .int .i64 g.m.a.ex] 27) := ⟨_, rfl⟩
  have hb : Below x5.heap.size x5 y5g := by rw [hy5g]; exact (Below.refl _ _).alloc (Nat.le_refl _) _
  have kg : Blk y5g x5.heap.size 27 #[.bool g.m.s.neg, .slice g.X0 g.m.s.ls.length g.c0, .int .i64 g.m.s.ex, .bool g.m.w.neg, .slice g.X1 g.m.w.ls.length g.c1, .int .i64 g.m.w.ex, .bool g.m.c.neg, .slice g.X2 g.m.c.ls.length g.c2, .int .i64 g.m.c.ex, .bool g.m.a.neg, .slice g.X3 g.m.a.ls.length g.c3, .int .i64 g.m.a.ex] := by rw [hy5g]; exact Blk.new _ _ _
  rw [← ht] at kg
  replace kg := Lib.hid kg
  have sy5g : x5.heap.size ≤ y5g.heap.size := hb.size
  replace gT := Lib.hid (Tab.below gT.out hb gT.out.2)
  replace up := Lib.hid (RdO.below up.out hb)
  replace ra := Lib.hid (Recs.more (Recs.below ra.out hb) hb.size)
  replace uq := Lib.hid (RdO.below uq.out hb)
  replace rb := Lib.hid (Recs.more (Recs.below rb.out hb) hb.size)
  replace ug := Lib.hid (RdO.below ug.out hb)
  replace gB := Lib.hid (gB.out.trans (hb.mono gB.out.size))
  clear hb
  go_wp2_with fail
  rw [← hy5g]
  clear hy5g
  rw [← ht]
  clear ht
  refine (lsumO_any Ab 2 cb [⟨2, 1, ofM 3⟩, ⟨2, 4, ofM 4⟩] (by decide) y5g rb.out lt2 2 1 gT.out).mono ?_
  rintro en x6 hP
  rw [ask21, of21] at hP
  obtain ⟨h, eh, rfl, uh, hb⟩ := lsum_yes hP
  clear hP
  replace eh := Lib.hid eh
  replace uh := Lib.hid uh.rd
  have sx6 : y5g.heap.size ≤ x6.heap.size := hb.size
  replace gT := Lib.hid (Tab.below gT.out hb gT.out.2)
  replace up := Lib.hid (RdO.below up.out hb)
  replace ra := Lib.hid (Recs.more (Recs.below ra.out hb) hb.size)
  replace uq := Lib.hid (RdO.below uq.out hb)
  replace rb := Lib.hid (Recs.more (Recs.below rb.out hb) hb.size)
  replace ug := Lib.hid (RdO.below ug.out hb)
  replace kg := Lib.hid (kg.out.below hb kg.out.lt)
  replace gB := Lib.hid (gB.out.trans (hb.mono gB.out.size))
  clear hb
  obtain ⟨th, ht⟩ : ∃ t, t = x6.heap.size := ⟨_, rfl⟩
  obtain ⟨y6h, hy6h⟩ : ∃ W, W = x6.alloc (.cells #[.bool h.m.s.neg, .slice h.X0 h.m.s.ls.length h.c0, .int .i64 h.m.s.ex, .bool h.m.w.neg, .slice h.X1 h.m.w.ls.length h.c1, .int .i64 h.m.w.ex, .bool h.m.c.neg, .slice h.X2 h.m.c.ls.length h.c2, .int .i64 h.m.c.ex, .bool h.m.a.neg, .slice h.X3 h.m.a.ls.length h.c3, .int .i64 h.m.a.ex] 27) := ⟨_, rfl⟩
  have hb : Below x6.heap.size x6 y6h := by rw [hy6h]; exact (Below.refl _ _).alloc (Nat.le_refl _) _
  have kh : Blk y6h x6.heap.size 27 #[.bool h.m.s.neg, .slice h.X0 h.m.s.ls.length h.c0, .int .i64 h.m.s.ex, .bool h.m.w.neg, .slice h.X1 h.m.w.ls.length h.c1, .int .i64 h.m.w.ex, .bool h.m.c.neg, .slice h.X2 h.m.c.ls.length h.c2, .int .i64 h.m.c.ex, .bool h.m.a.neg, .slice h.X3 h.m.a.ls.length h.c3, .int .i64 h.m.a.ex] := by rw [hy6h]; exact Blk.new _ _ _
  rw [← ht] at kh
  replace kh := Lib.hid kh
  have sy6h : x6.heap.size ≤ y6h.heap.size := hb.size
  replace gT := Lib.hid (Tab.below gT.out hb gT.out.2)
  replace up := Lib.hid (RdO.below up.out hb)
  replace ra := Lib.hid (Recs.more (Recs.below ra.out hb) hb.size)
  replace uq := Lib.hid (RdO.below uq.out hb)
  replace rb := Lib.hid (Recs.more (Recs.below rb.out hb) hb.size)
  replace ug := Lib.hid (RdO.below ug.out hb)
  replace kg := Lib.hid (kg.out.below hb kg.out.lt)
  replace uh := Lib.hid (RdO.below uh.out hb)
  replace gB := Lib.hid (gB.out.trans (hb.mono gB.out.size))
  clear hb
  go_wp2_with fail
  rw [← hy6h]
  clear hy6h
  rw [← ht]
  clear ht
  refine (lsumS_any Ab 2 cb [⟨2, 1, ofM 3⟩, ⟨2, 4, ofM 4⟩] (by decide) y6h rb.out lt2 1 gT.out).mono ?_
  rintro en x7 hP
  rw [ask11, sum1] at hP
  obtain ⟨i, ei, rfl, ui, hb⟩ := lsum_yes hP
  clear hP
  replace ei := Lib.hid ei
  replace ui := Lib.hid ui.rd
  have sx7 : y6h.heap.size ≤ x7.heap.size := hb.size
  replace gT := Lib.hid (Tab.below gT.out hb gT.out.2)
  replace up := Lib.hid (RdO.below up.out hb)
  replace ra := Lib.hid (Recs.more (Recs.below ra.out hb) hb.size)
  replace uq := Lib.hid (RdO.below uq.out hb)
  replace rb := Lib.hid (Recs.more (Recs.below rb.out hb) hb.size)
  replace ug := Lib.hid (RdO.below ug.out hb)
  replace kg := Lib.hid (kg.out.below hb kg.out.lt)
  replace uh := Lib.hid (RdO.below uh.out hb)
  replace kh := Lib.hid (kh.out.below hb kh.out.lt)
  replace gB := Lib.hid (gB.out.trans (hb.mono gB.out.size))
  clear hb
  obtain ⟨ti, ht⟩ : ∃ t, t = x7.heap.size := ⟨_, rfl⟩
  obtain ⟨y7i, hy7i⟩ : ∃ W, W = x7.alloc (.cells #[.bool i.m.s.neg, .slice i.X0 i.m.s.ls.length i.c0, .int .i64 i.m.s.ex, .bool i.m.w.neg, .slice i.X1 i.m.w.ls.length i.c1, .int .i64 i.m.w.ex, .bool i.m.c.neg, .slice i.X2 i.m.c.ls.length i.c2, .int .i64 i.m.c.ex, .bool i.m.a.neg, .slice i.X3 i.m.a.ls.length i.c3, .int .i64 i.m.a.ex] 27) := ⟨_, rfl⟩
  have hb : Below x7.heap.size x7 y7i := by rw [hy7i]; exact (Below.refl _ _).alloc (Nat.le_refl _) _
  have ki : Blk y7i x7.heap.size 27 #[.bool i.m.s.neg, .slice i.X0 i.m.s.ls.length i.c0, .int .i64 i.m.s.ex, .bool i.m.w.neg, .slice i.X1 i.m.w.ls.length i.c1, .int .i64 i.m.w.ex, .bool i.m.c.neg, .slice i.X2 i.m.c.ls.length i.c2, .int .i64 i.m.c.ex, .bool i.m.a.neg, .slice i.X3 i.m.a.ls.length i.c3, .int .i64 i.m.a.ex] := by rw [hy7i]; exact Blk.new _ _ _
  rw [← ht] at ki
  replace ki := Lib.hid ki
  have sy7i : x7.heap.size ≤ y7i.heap.size := hb.size
  replace gT := Lib.hid (Tab.below gT.out hb gT.out.2)
  replace up := Lib.hid (RdO.below up.out hb)
  replace ra := Lib.hid (Recs.more (Recs.below ra.out hb) hb.size)
  replace uq := Lib.hid (RdO.below uq.out hb)
  replace rb := Lib.hid (Recs.more (Recs.below rb.out hb) hb.size)
  replace ug := Lib.hid (RdO.below ug.out hb)
  replace kg := Lib.hid (kg.out.below hb kg.out.lt)
  replace uh := Lib.hid (RdO.below uh.out hb)
  replace kh := Lib.hid (kh.out.below hb kh.out.lt)
  replace ui := Lib.hid (RdO.below ui.out hb)
  replace gB := Lib.hid (gB.out.trans (hb.mono gB.out.size))
  clear hb
  go_wp2_with fail
  rw [← hy7i]
  clear hy7i
  rw [← ht]
  clear ht
  refine (lclean_any Ab 2 cb [⟨2, 1, ofM 3⟩, ⟨2, 4, ofM 4⟩] (by decide) y7i rb.out 1).mono ?_
  rintro en x8 ⟨rfl, hb⟩
  have sx8 : y7i.heap.size ≤ x8.heap.size := hb.size
  replace gT := Lib.hid (Tab.below gT.out hb gT.out.2)
  replace up := Lib.hid (RdO.below up.out hb)
  replace ra := Lib.hid (Recs.more (Recs.below ra.out hb) hb.size)
  replace uq := Lib.hid (RdO.below uq.out hb)
  replace rb := Lib.hid (Recs.more (Recs.below rb.out hb) hb.size)
  replace ug := Lib.hid (RdO.below ug.out hb)
  replace kg := Lib.hid (kg.out.below hb kg.out.lt)
  replace uh := Lib.hid (RdO.below uh.out hb)
  replace kh := Lib.hid (kh.out.below hb kh.out.lt)
  replace ui := Lib.hid (RdO.below ui.out hb)
  replace ki := Lib.hid (ki.out.below hb ki.out.lt)
  replace gB := Lib.hid (gB.out.trans (hb.mono gB.out.size))
  clear hb
  simp only [ask11, cln1, if_true]
  go_wp2_with fail
  refine (lclean_any Ab 2 cb [⟨2, 1, ofM 3⟩, ⟨2, 4, ofM 4⟩] (by decide) x8 rb.out 2).mono ?_
  rintro en x9 ⟨rfl, hb⟩
  have sx9 : x8.heap.size ≤ x9.heap.size := hb.size
  replace gT := Lib.hid (Tab.below gT.out hb gT.out.2)
  replace up := Lib.hid (RdO.below up.out hb)
  replace ra := Lib.hid (Recs.more (Recs.below ra.out hb) hb.size)
  replace uq := Lib.hid (RdO.below uq.out hb)
  replace rb := Lib.hid (Recs.more (Recs.below rb.out hb) hb.size)
  replace ug := Lib.hid (RdO.below ug.out hb)
  replace kg := Lib.hid (kg.out.below hb kg.out.lt)
  replace uh := Lib.hid (RdO.below uh.out hb)
  replace kh := Lib.hid (kh.out.below hb kh.out.lt)
  replace ui := Lib.hid (RdO.below ui.out hb)
  replace ki := Lib.hid (ki.out.below hb ki.out.lt)
  replace gB := Lib.hid (gB.out.trans (hb.mono gB.out.size))
  clear hb
  simp only [ask21, cln2, if_true]
  have SS : ∀ w', Below x9.heap.size x9 w' → (w'.cell? ⟨tg, 0, none⟩ = some (.bool g.m.s.neg) ∧ w'.cell? ⟨tg, 1, none⟩ = some (.slice g.X0 g.m.s.ls.length g.c0) ∧ w'.cell? ⟨tg, 2, none⟩ = some (.int .i64 g.m.s.ex) ∧ w'.cell? ⟨tg, 3, none⟩ = some (.bool g.m.w.neg) ∧ w'.cell? ⟨tg, 4, none⟩ = some (.slice g.X1 g.m.w.ls.length g.c1) ∧ w'.cell? ⟨tg, 5, none⟩ = some (.int .i64 g.m.w.ex) ∧ w'.cell? ⟨tg, 6, none⟩ = some (.bool g.m.c.neg) ∧ w'.cell? ⟨tg, 7, none⟩ = some (.slice g.X2 g.m.c.ls.length g.c2) ∧ w'.cell? ⟨tg, 8, none⟩ = some (.int .i64 g.m.c.ex) ∧ w'.cell? ⟨tg, 9, none⟩ = some (.bool g.m.a.neg) ∧ w'.cell? ⟨tg, 10, none⟩ = some (.slice g.X3 g.m.a.ls.length g.c3) ∧ w'.cell? ⟨tg, 11, none⟩ = some (.int .i64 g.m.a.ex) ∧ w'.cell? ⟨th, 0, none⟩ = some (.bool h.m.s.neg) ∧ w'.cell? ⟨th, 1, none⟩ = some (.slice h.X0 h.m.s.ls.length h.c0) ∧ w'.cell? ⟨th, 2, none⟩ = some (.int .i64 h.m.s.ex) ∧ w'.cell? ⟨th, 3, none⟩ = some (.bool h.m.w.neg) ∧ w'.cell? ⟨th, 4, none⟩ = some (.slice h.X1 h.m.w.ls.length h.c1) ∧ w'.cell? ⟨th, 5, none⟩ = some (.int .i64 h.m.w.ex) ∧ w'.cell? ⟨th, 6, none⟩ = some (.bool h.m.c.neg) ∧ w'.cell? ⟨th, 7, none⟩ = some (.slice h.X2 h.m.c.ls.length h.c2) ∧ w'.cell? ⟨th, 8, none⟩ = some (.int .i64 h.m.c.ex) ∧ w'.cell? ⟨th, 9, none⟩ = some (.bool h.m.a.neg) ∧ w'.cell? ⟨th, 10, none⟩ = some (.slice h.X3 h.m.a.ls.length h.c3) ∧ w'.cell? ⟨th, 11, none⟩ = some (.int .i64 h.m.a.ex) ∧ w'.cell? ⟨ti, 0, none⟩ = some (.bool i.m.s.neg) ∧ w'.cell? ⟨ti, 1, none⟩ = some (.slice i.X0 i.m.s.ls.length i.c0) ∧ w'.cell? ⟨ti, 2, none⟩ = some (.int .i64 i.m.s.ex) ∧ w'.cell? ⟨ti, 3, none⟩ = some (.bool i.m.w.neg) ∧ w'.cell? ⟨ti, 4, none⟩ = some (.slice i.X1 i.m.w.ls.length i.c1) ∧ w'.cell? ⟨ti, 5, none⟩ = some (.int .i64 i.m.w.ex) ∧ w'.cell? ⟨ti, 6, none⟩ = some (.bool i.m.c.neg) ∧ w'.cell? ⟨ti, 7, none⟩ = some (.slice i.X2 i.m.c.ls.length i.c2) ∧ w'.cell? ⟨ti, 8, none⟩ = some (.int .i64 i.m.c.ex) ∧ w'.cell? ⟨ti, 9, none⟩ = some (.bool i.m.a.neg) ∧ w'.cell? ⟨ti, 10, none⟩ = some (.slice i.X3 i.m.a.ls.length i.c3) ∧ w'.cell? ⟨ti, 11, none⟩ = some (.int .i64 i.m.a.ex)) := by
    intro w' hw
    have kg' := kg.out.below hw kg.out.lt
    have kh' := kh.out.below hw kh.out.lt
    have ki' := ki.out.below hw ki.out.lt
    refine ⟨?_, ?_, ?_, ?_, ?_, ?_, ?_, ?_, ?_, ?_, ?_, ?_, ?_, ?_, ?_, ?_, ?_, ?_, ?_, ?_, ?_, ?_, ?_, ?_, ?_, ?_, ?_, ?_, ?_, ?_, ?_, ?_, ?_, ?_, ?_, ?_⟩
    · rw [kg'.cell]; rfl
    · rw [kg'.cell]; rfl
    · rw [kg'.cell]; rfl
    · rw [kg'.cell]; rfl
    · rw [kg'.cell]; rfl
    · rw [kg'.cell]; rfl
    · rw [kg'.cell]; rfl
    · rw [kg'.cell]; rfl
    · rw [kg'.cell]; rfl
    · rw [kg'.cell]; rfl
    · rw [kg'.cell]; rfl
    · rw [kg'.cell]; rfl
    · rw [kh'.cell]; rfl
    · rw [kh'.cell]; rfl
    · rw [kh'.cell]; rfl
    · rw [kh'.cell]; rfl
    · rw [kh'.cell]; rfl
    · rw [kh'.cell]; rfl
    · rw [kh'.cell]; rfl
    · rw [kh'.cell]; rfl
    · rw [kh'.cell]; rfl
    · rw [kh'.cell]; rfl
    · rw [kh'.cell]; rfl
    · rw [kh'.cell]; rfl
    · rw [ki'.cell]; rfl
    · rw [ki'.cell]; rfl
    · rw [ki'.cell]; rfl
    · rw [ki'.cell]; rfl
    · rw [ki'.cell]; rfl
    · rw [ki'.cell]; rfl
    · rw [ki'.cell]; rfl
    · rw [ki'.cell]; rfl
    · rw [ki'.cell]; rfl
    · rw [ki'.cell]; rfl
    · rw [ki'.cell]; rfl
    · rw [ki'.cell]; rfl
  have ng : ∀ w' (o2 : MB) b, Below x9.heap.size x9 w' → OwM w' b o2 → o2.m = ofM 7 → Calls Tryd.prog 26 #[.agg #[.bool g.m.s.neg, .slice g.X0 g.m.s.ls.length g.c0, .int .i64 g.m.s.ex, .bool g.m.w.neg, .slice g.X1 g.m.w.ls.length g.c1, .int .i64 g.m.w.ex, .bool g.m.c.neg, .slice g.X2 g.m.c.ls.length g.c2, .int .i64 g.m.c.ex, .bool g.m.a.neg, .slice g.X3 g.m.a.ls.length g.c3, .int .i64 g.m.a.ex], .agg #[.bool o2.m.s.neg, .slice o2.X0 o2.m.s.ls.length o2.c0, .int .i64 o2.m.s.ex, .bool o2.m.w.neg, .slice o2.X1 o2.m.w.ls.length o2.c1, .int .i64 o2.m.w.ex, .bool o2.m.c.neg, .slice o2.X2 o2.m.c.ls.length o2.c2, .int .i64 o2.m.c.ex, .bool o2.m.a.neg, .slice o2.X3 o2.m.a.ls.length o2.c3, .int .i64 o2.m.a.ex]] w' fun en w'' => en = .returned (.bool true) ∧ Below w'.heap.size w' w'' := fun w' o2 b hw h1 h2 => msame_any _ _ _ _ _ _ _ _ _ _ _ _ _ _ _ _ _ _ _ _ _ _ _ _ _ _ _ _ _ _ _ _ _ _ _ _ _ _ _ _  g.m o2.m (by rw [eg.out]; exact ofM_sm _) (by rw [h2]; exact ofM_sm _) w' (RdM.below ug.out hw hw.size) h1.rd true (decide_eq_true (by rw [eg.out, h2]))
  have nh : ∀ w' (o2 : MB) b, Below x9.heap.size x9 w' → OwM w' b o2 → o2.m = ofM 3 → Calls Tryd.prog 26 #[.agg #[.bool h.m.s.neg, .slice h.X0 h.m.s.ls.length h.c0, .int .i64 h.m.s.ex, .bool h.m.w.neg, .slice h.X1 h.m.w.ls.length h.c1, .int .i64 h.m.w.ex, .bool h.m.c.neg, .slice h.X2 h.m.c.ls.length h.c2, .int .i64 h.m.c.ex, .bool h.m.a.neg, .slice h.X3 h.m.a.ls.length h.c3, .int .i64 h.m.a.ex], .agg #[.bool o2.m.s.neg, .slice o2.X0 o2.m.s.ls.length o2.c0, .int .i64 o2.m.s.ex, .bool o2.m.w.neg, .slice o2.X1 o2.m.w.ls.length o2.c1, .int .i64 o2.m.w.ex, .bool o2.m.c.neg, .slice o2.X2 o2.m.c.ls.length o2.c2, .int .i64 o2.m.c.ex, .bool o2.m.a.neg, .slice o2.X3 o2.m.a.ls.length o2.c3, .int .i64 o2.m.a.ex]] w' fun en w'' => en = .returned (.bool true) ∧ Below w'.heap.size w' w'' := fun w' o2 b hw h1 h2 => msame_any _ _ _ _ _ _ _ _ _ _ _ _ _ _ _ _ _ _ _ _ _ _ _ _ _ _ _ _ _ _ _ _ _ _ _ _ _ _ _ _  h.m o2.m (by rw [eh.out]; exact ofM_sm _) (by rw [h2]; exact ofM_sm _) w' (RdM.below uh.out hw hw.size) h1.rd true (decide_eq_true (by rw [eh.out, h2]))
  have ni : ∀ w', Below x9.heap.size x9 w' → Calls Tryd.prog 26 #[.agg #[.bool i.m.s.neg, .slice i.X0 i.m.s.ls.length i.c0, .int .i64 i.m.s.ex, .bool i.m.w.neg, .slice i.X1 i.m.w.ls.length i.c1, .int .i64 i.m.w.ex, .bool i.m.c.neg, .slice i.X2 i.m.c.ls.length i.c2, .int .i64 i.m.c.ex, .bool i.m.a.neg, .slice i.X3 i.m.a.ls.length i.c3, .int .i64 i.m.a.ex], .agg #[.bool false, .slice none 0 0, .int .i64 0, .bool false, .slice none 0 0, .int .i64 0, .bool false, .slice none 0 0, .int .i64 0, .bool false, .slice none 0 0, .int .i64 0]] w' fun en w'' => en = .returned (.bool true) ∧ Below w'.heap.size w' w'' := fun w' hw => msame_any _ _ _ _ _ _ _ _ _ _ _ _ _ _ _ _ _ _ _ _  false none 0 0 0 false none 0 0 0 false none 0 0 0 false none 0 0 0 i.m zM (by rw [ei.out]; exact zM_sm) zM_sm w' (RdM.below ui.out hw hw.size) (rdM_zero _ _) true (decide_eq_true (by rw [ei.out]))
  go_wp2_with fail
  refine wp_region_noPanic ?_
  refine wp_region_held_drew (S := fun w' => w'.cell? ⟨tg, 0, none⟩ = some (.bool g.m.s.neg) ∧ w'.cell? ⟨tg, 1, none⟩ = some (.slice g.X0 g.m.s.ls.length g.c0) ∧ w'.cell? ⟨tg, 2, none⟩ = some (.int .i64 g.m.s.ex) ∧ w'.cell? ⟨tg, 3, none⟩ = some (.bool g.m.w.neg) ∧ w'.cell? ⟨tg, 4, none⟩ = some (.slice g.X1 g.m.w.ls.length g.c1) ∧ w'.cell? ⟨tg, 5, none⟩ = some (.int .i64 g.m.w.ex) ∧ w'.cell? ⟨tg, 6, none⟩ = some (.bool g.m.c.neg) ∧ w'.cell? ⟨tg, 7, none⟩ = some (.slice g.X2 g.m.c.ls.length g.c2) ∧ w'.cell? ⟨tg, 8, none⟩ = some (.int .i64 g.m.c.ex) ∧ w'.cell? ⟨tg, 9, none⟩ = some (.bool g.m.a.neg) ∧ w'.cell? ⟨tg, 10, none⟩ = some (.slice g.X3 g.m.a.ls.length g.c3) ∧ w'.cell? ⟨tg, 11, none⟩ = some (.int .i64 g.m.a.ex) ∧ w'.cell? ⟨th, 0, none⟩ = some (.bool h.m.s.neg) ∧ w'.cell? ⟨th, 1, none⟩ = some (.slice h.X0 h.m.s.ls.length h.c0) ∧ w'.cell? ⟨th, 2, none⟩ = some (.int .i64 h.m.s.ex) ∧ w'.cell? ⟨th, 3, none⟩ = some (.bool h.m.w.neg) ∧ w'.cell? ⟨th, 4, none⟩ = some (.slice h.X1 h.m.w.ls.length h.c1) ∧ w'.cell? ⟨th, 5, none⟩ = some (.int .i64 h.m.w.ex) ∧ w'.cell? ⟨th, 6, none⟩ = some (.bool h.m.c.neg) ∧ w'.cell? ⟨th, 7, none⟩ = some (.slice h.X2 h.m.c.ls.length h.c2) ∧ w'.cell? ⟨th, 8, none⟩ = some (.int .i64 h.m.c.ex) ∧ w'.cell? ⟨th, 9, none⟩ = some (.bool h.m.a.neg) ∧ w'.cell? ⟨th, 10, none⟩ = some (.slice h.X3 h.m.a.ls.length h.c3) ∧ w'.cell? ⟨th, 11, none⟩ = some (.int .i64 h.m.a.ex) ∧ w'.cell? ⟨ti, 0, none⟩ = some (.bool i.m.s.neg) ∧ w'.cell? ⟨ti, 1, none⟩ = some (.slice i.X0 i.m.s.ls.length i.c0) ∧ w'.cell? ⟨ti, 2, none⟩ = some (.int .i64 i.m.s.ex) ∧ w'.cell? ⟨ti, 3, none⟩ = some (.bool i.m.w.neg) ∧ w'.cell? ⟨ti, 4, none⟩ = some (.slice i.X1 i.m.w.ls.length i.c1) ∧ w'.cell? ⟨ti, 5, none⟩ = some (.int .i64 i.m.w.ex) ∧ w'.cell? ⟨ti, 6, none⟩ = some (.bool i.m.c.neg) ∧ w'.cell? ⟨ti, 7, none⟩ = some (.slice i.X2 i.m.c.ls.length i.c2) ∧ w'.cell? ⟨ti, 8, none⟩ = some (.int .i64 i.m.c.ex) ∧ w'.cell? ⟨ti, 9, none⟩ = some (.bool i.m.a.neg) ∧ w'.cell? ⟨ti, 10, none⟩ = some (.slice i.X3 i.m.a.ls.length i.c3) ∧ w'.cell? ⟨ti, 11, none⟩ = some (.int .i64 i.m.a.ex)) (by kernel_rfl) (SS _ (by (repeat first | with_reducible assumption | with_reducible exact Below.refl _ _ | with_reducible refine Below.drew ?_ | (with_reducible refine Below.alloc ?_ (by first | exact Nat.le_refl _ | (simp only [World.size_alloc, World.size_drew, World.size_setCell]; omega) | omega) _)))) (fun hHeld => ?_)
  refine wpAnyH_take (i := 0) (oi := ?o0) (v := ?v0) ?ho0 (by kernel_rfl) (by kernel_rfl) (by kernel_rfl) (fun _ _ _ h => h) (Or.inl ⟨?wn0, ?yn0⟩) (by assumption) ?rest0
  case ho0 => (simp only [List.getElem?_toArray, List.getElem?_cons_zero, List.getElem?_cons_succ]; rfl)
  case wn0 => rfl
  case yn0 => (intro w hSw; (try dsimp only at hSw); go_simp; (try with_reducible rfl))
  (try simp only [Act.put, List.setIfInBounds_toArray, List.set_cons_zero, List.set_cons_succ])
  refine wpAnyH_take (i := 1) (oi := ?o1) (v := ?v1) ?ho1 (by kernel_rfl) (by kernel_rfl) (by kernel_rfl) (fun _ _ _ h => h) (Or.inl ⟨?wn1, ?yn1⟩) (by assumption) ?rest1
  case ho1 => (simp only [List.getElem?_toArray, List.getElem?_cons_zero, List.getElem?_cons_succ]; rfl)
  case wn1 => rfl
  case yn1 => (intro w hSw; (try dsimp only at hSw); go_simp; (try with_reducible rfl))
  (try simp only [Act.put, List.setIfInBounds_toArray, List.set_cons_zero, List.set_cons_succ])
  refine wpAnyH_take (i := 2) (oi := ?o2) (v := ?v2) ?ho2 (by kernel_rfl) (by kernel_rfl) (by kernel_rfl) (fun _ _ _ h => h) (Or.inl ⟨?wn2, ?yn2⟩) (by assumption) ?rest2
  case ho2 => (simp only [List.getElem?_toArray, List.getElem?_cons_zero, List.getElem?_cons_succ]; rfl)
  case wn2 => rfl
  case yn2 => (intro w hSw; (try dsimp only at hSw); go_simp; (try with_reducible rfl))
  (try simp only [Act.put, List.setIfInBounds_toArray, List.set_cons_zero, List.set_cons_succ])
  refine wpAnyH_take (i := 3) (oi := ?o3) (v := ?v3) ?ho3 (by kernel_rfl) (by kernel_rfl) (by kernel_rfl) (fun _ _ _ h => h) (Or.inl ⟨?wn3, ?yn3⟩) (by assumption) ?rest3
  case ho3 => (simp only [List.getElem?_toArray, List.getElem?_cons_zero, List.getElem?_cons_succ]; rfl)
  case wn3 => rfl
  case yn3 => (intro w hSw; (try dsimp only at hSw); go_simp; (try with_reducible rfl))
  (try simp only [Act.put, List.setIfInBounds_toArray, List.set_cons_zero, List.set_cons_succ])
  refine wpAnyH_take (i := 4) (oi := ?o4) (v := ?v4) ?ho4 (by kernel_rfl) (by kernel_rfl) (by kernel_rfl) (fun _ _ _ h => h) (Or.inl ⟨?wn4, ?yn4⟩) (by assumption) ?rest4
  case ho4 => (simp only [List.getElem?_toArray, List.getElem?_cons_zero, List.getElem?_cons_succ]; rfl)
  case wn4 => rfl
  case yn4 => (intro w hSw; (try dsimp only at hSw); go_simp; (try with_reducible rfl))
  (try simp only [Act.put, List.setIfInBounds_toArray, List.set_cons_zero, List.set_cons_succ])
  refine wpAnyH_take (i := 5) (oi := ?o5) (v := ?v5) ?ho5 (by kernel_rfl) (by kernel_rfl) (by kernel_rfl) (fun _ _ _ h => h) (Or.inl ⟨?wn5, ?yn5⟩) (by assumption) ?rest5
  case ho5 => (simp only [List.getElem?_toArray, List.getElem?_cons_zero, List.getElem?_cons_succ]; rfl)
  case wn5 => rfl
  case yn5 => (intro w hSw; (try dsimp only at hSw); go_simp; (try with_reducible rfl))
  (try simp only [Act.put, List.setIfInBounds_toArray, List.set_cons_zero, List.set_cons_succ])
  refine wpAnyH_take (i := 6) (oi := ?o6) (v := ?v6) ?ho6 (by kernel_rfl) (by kernel_rfl) (by kernel_rfl) (fun _ _ _ h => h) (Or.inl ⟨?wn6, ?yn6⟩) (by assumption) ?rest6
  case ho6 => (simp only [List.getElem?_toArray, List.getElem?_cons_zero, List.getElem?_cons_succ]; rfl)
  case wn6 => rfl
  case yn6 => (intro w hSw; (try dsimp only at hSw); go_simp; (try with_reducible rfl))
  (try simp only [Act.put, List.setIfInBounds_toArray, List.set_cons_zero, List.set_cons_succ])
  refine wpAnyH_take (i := 7) (oi := ?o7) (v := ?v7) ?ho7 (by kernel_rfl) (by kernel_rfl) (by kernel_rfl) (fun _ _ _ h => h) (Or.inl ⟨?wn7, ?yn7⟩) (by assumption) ?rest7
  case ho7 => (simp only [List.getElem?_toArray, List.getElem?_cons_zero, List.getElem?_cons_succ]; rfl)
  case wn7 => rfl
  case yn7 => (intro w hSw; (try dsimp only at hSw); go_simp; (try with_reducible rfl))
  (try simp only [Act.put, List.setIfInBounds_toArray, List.set_cons_zero, List.set_cons_succ])
  refine wpAnyH_take (i := 8) (oi := ?o8) (v := ?v8) ?ho8 (by kernel_rfl) (by kernel_rfl) (by kernel_rfl) (fun _ _ _ h => h) (Or.inl ⟨?wn8, ?yn8⟩) (by assumption) ?rest8
  case ho8 => (simp only [List.getElem?_toArray, List.getElem?_cons_zero, List.getElem?_cons_succ]; rfl)
  case wn8 => rfl
  case yn8 => (intro w hSw; (try dsimp only at hSw); go_simp; (try with_reducible rfl))
  (try simp only [Act.put, List.setIfInBounds_toArray, List.set_cons_zero, List.set_cons_succ])
  refine wpAnyH_take (i := 9) (oi := ?o9) (v := ?v9) ?ho9 (by kernel_rfl) (by kernel_rfl) (by kernel_rfl) (fun _ _ _ h => h) (Or.inl ⟨?wn9, ?yn9⟩) (by assumption) ?rest9
  case ho9 => (simp only [List.getElem?_toArray, List.getElem?_cons_zero, List.getElem?_cons_succ]; rfl)
  case wn9 => rfl
  case yn9 => (intro w hSw; (try dsimp only at hSw); go_simp; (try with_reducible rfl))
  (try simp only [Act.put, List.setIfInBounds_toArray, List.set_cons_zero, List.set_cons_succ])
  refine wpAnyH_take (i := 10) (oi := ?o10) (v := ?v10) ?ho10 (by kernel_rfl) (by kernel_rfl) (by kernel_rfl) (fun _ _ _ h => h) (Or.inl ⟨?wn10, ?yn10⟩) (by assumption) ?rest10
  case ho10 => (simp only [List.getElem?_toArray, List.getElem?_cons_zero, List.getElem?_cons_succ]; rfl)
  case wn10 => rfl
  case yn10 => (intro w hSw; (try dsimp only at hSw); go_simp; (try with_reducible rfl))
  (try simp only [Act.put, List.setIfInBounds_toArray, List.set_cons_zero, List.set_cons_succ])
  refine wpAnyH_take (i := 11) (oi := ?o11) (v := ?v11) ?ho11 (by kernel_rfl) (by kernel_rfl) (by kernel_rfl) (fun _ _ _ h => h) (Or.inl ⟨?wn11, ?yn11⟩) (by assumption) ?rest11
  case ho11 => (simp only [List.getElem?_toArray, List.getElem?_cons_zero, List.getElem?_cons_succ]; rfl)
  case wn11 => rfl
  case yn11 => (intro w hSw; (try dsimp only at hSw); go_simp; (try with_reducible rfl))
  (try simp only [Act.put, List.setIfInBounds_toArray, List.set_cons_zero, List.set_cons_succ])
  refine wpAnyH_ready (rs := [12]) (by kernel_rfl) (by simp) ?_
  refine AllReadyH.cons (o := ?o12) ?ho12 (fun K hK => ?rest12) AllReadyH.nil
  case ho12 => (simp only [List.getElem?_toArray, List.getElem?_cons_zero, List.getElem?_cons_succ]; rfl)
  go_simp
  with_reducible refine (of_any 7 (by decide) _).mono ?_
  rintro en vA ⟨o2, rfl, em2, hom2, hvA⟩
  have hvA2 : Below x9.heap.size x9 vA := Below.trans (by (repeat first | with_reducible assumption | with_reducible exact Below.refl _ _ | with_reducible refine Below.drew ?_ | (with_reducible refine Below.alloc ?_ (by first | exact Nat.le_refl _ | (simp only [World.size_alloc, World.size_drew, World.size_setCell]; omega) | omega) _))) (hvA.mono (by first | exact Nat.le_refl _ | (simp only [World.size_alloc, World.size_drew, World.size_setCell]; omega) | omega))
  have svA : x9.heap.size ≤ vA.heap.size := hvA2.size
  have gem2 : Hid (o2.m = ofM 7) := Lib.hid em2
  have ghom2 := Lib.hid hom2
  clear em2 hom2
  refine hK.out _ _ (SS _ (by (repeat first | with_reducible assumption | with_reducible exact Below.refl _ _ | with_reducible refine Below.drew ?_ | (with_reducible refine Below.alloc ?_ (by first | exact Nat.le_refl _ | (simp only [World.size_alloc, World.size_drew, World.size_setCell]; omega) | omega) _)))) (fun hHeld => ?_)
  clear hK K
  (try simp only [Act.put, List.setIfInBounds_toArray, List.set_cons_zero, List.set_cons_succ])
  refine wpAnyH_ready (rs := [13]) (by kernel_rfl) (by simp) ?_
  refine AllReadyH.cons (o := ?o13) ?ho13 (fun K hK => ?rest13) AllReadyH.nil
  case ho13 => (simp only [List.getElem?_toArray, List.getElem?_cons_zero, List.getElem?_cons_succ]; rfl)
  go_simp
  with_reducible refine (ng _ o2 _ (by (repeat first | with_reducible assumption | with_reducible exact Below.refl _ _ | with_reducible refine Below.drew ?_ | (with_reducible refine Below.alloc ?_ (by first | exact Nat.le_refl _ | (simp only [World.size_alloc, World.size_drew, World.size_setCell]; omega) | omega) _))) ghom2.out gem2.out).mono ?_
  rintro en vB ⟨rfl, hvB⟩
  have hvB2 : Below x9.heap.size x9 vB := Below.trans (by (repeat first | with_reducible assumption | with_reducible exact Below.refl _ _ | with_reducible refine Below.drew ?_ | (with_reducible refine Below.alloc ?_ (by first | exact Nat.le_refl _ | (simp only [World.size_alloc, World.size_drew, World.size_setCell]; omega) | omega) _))) (hvB.mono (by first | exact Nat.le_refl _ | (simp only [World.size_alloc, World.size_drew, World.size_setCell]; omega) | omega))
  have svB : x9.heap.size ≤ vB.heap.size := hvB2.size
  refine hK.out _ _ (SS _ (by (repeat first | with_reducible assumption | with_reducible exact Below.refl _ _ | with_reducible refine Below.drew ?_ | (with_reducible refine Below.alloc ?_ (by first | exact Nat.le_refl _ | (simp only [World.size_alloc, World.size_drew, World.size_setCell]; omega) | omega) _)))) (fun hHeld => ?_)
  clear hK K
  (try simp only [Act.put, List.setIfInBounds_toArray, List.set_cons_zero, List.set_cons_succ])
  refine wpAnyH_take (i := 14) (oi := ?o14) (v := ?v14) ?ho14 (by kernel_rfl) (by kernel_rfl) (by kernel_rfl) (fun _ _ _ h => h) (Or.inl ⟨?wn14, ?yn14⟩) (by assumption) ?rest14
  case ho14 => (simp only [List.getElem?_toArray, List.getElem?_cons_zero, List.getElem?_cons_succ]; rfl)
  case wn14 => rfl
  case yn14 => (intro w hSw; (try dsimp only at hSw); go_simp; (try with_reducible rfl))
  (try simp only [Act.put, List.setIfInBounds_toArray, List.set_cons_zero, List.set_cons_succ])
  refine wpAnyH_take (i := 15) (oi := ?o15) (v := ?v15) ?ho15 (by kernel_rfl) (by kernel_rfl) (by kernel_rfl) (fun _ _ _ h => h) (Or.inl ⟨?wn15, ?yn15⟩) (by assumption) ?rest15
  case ho15 => (simp only [List.getElem?_toArray, List.getElem?_cons_zero, List.getElem?_cons_succ]; rfl)
  case wn15 => rfl
  case yn15 => (intro w hSw; (try dsimp only at hSw); go_simp; (try with_reducible rfl))
  (try simp only [Act.put, List.setIfInBounds_toArray, List.set_cons_zero, List.set_cons_succ])
  refine wpAnyH_take (i := 16) (oi := ?o16) (v := ?v16) ?ho16 (by kernel_rfl) (by kernel_rfl) (by kernel_rfl) (fun _ _ _ h => h) (Or.inl ⟨?wn16, ?yn16⟩) (by assumption) ?rest16
  case ho16 => (simp only [List.getElem?_toArray, List.getElem?_cons_zero, List.getElem?_cons_succ]; rfl)
  case wn16 => rfl
  case yn16 => (intro w hSw; (try dsimp only at hSw); go_simp; (try with_reducible rfl))
  (try simp only [Act.put, List.setIfInBounds_toArray, List.set_cons_zero, List.set_cons_succ])
  refine wpAnyH_take (i := 17) (oi := ?o17) (v := ?v17) ?ho17 (by kernel_rfl) (by kernel_rfl) (by kernel_rfl) (fun _ _ _ h => h) (Or.inl ⟨?wn17, ?yn17⟩) (by assumption) ?rest17
  case ho17 => (simp only [List.getElem?_toArray, List.getElem?_cons_zero, List.getElem?_cons_succ]; rfl)
  case wn17 => rfl
  case yn17 => (intro w hSw; (try dsimp only at hSw); go_simp; (try with_reducible rfl))
  (try simp only [Act.put, List.setIfInBounds_toArray, List.set_cons_zero, List.set_cons_succ])
  refine wpAnyH_take (i := 18) (oi := ?o18) (v := ?v18) ?ho18 (by kernel_rfl) (by kernel_rfl) (by kernel_rfl) (fun _ _ _ h => h) (Or.inl ⟨?wn18, ?yn18⟩) (by assumption) ?rest18
  case ho18 => (simp only [List.getElem?_toArray, List.getElem?_cons_zero, List.getElem?_cons_succ]; rfl)
  case wn18 => rfl
  case yn18 => (intro w hSw; (try dsimp only at hSw); go_simp; (try with_reducible rfl))
  (try simp only [Act.put, List.setIfInBounds_toArray, List.set_cons_zero, List.set_cons_succ])
  refine wpAnyH_take (i := 19) (oi := ?o19) (v := ?v19) ?ho19 (by kernel_rfl) (by kernel_rfl) (by kernel_rfl) (fun _ _ _ h => h) (Or.inl ⟨?wn19, ?yn19⟩) (by assumption) ?rest19
  case ho19 => (simp only [List.getElem?_toArray, List.getElem?_cons_zero, List.getElem?_cons_succ]; rfl)
  case wn19 => rfl
  case yn19 => (intro w hSw; (try dsimp only at hSw); go_simp; (try with_reducible rfl))
  (try simp only [Act.put, List.setIfInBounds_toArray, List.set_cons_zero, List.set_cons_succ])
  refine wpAnyH_take (i := 20) (oi := ?o20) (v := ?v20) ?ho20 (by kernel_rfl) (by kernel_rfl) (by kernel_rfl) (fun _ _ _ h => h) (Or.inl ⟨?wn20, ?yn20⟩) (by assumption) ?rest20
  case ho20 => (simp only [List.getElem?_toArray, List.getElem?_cons_zero, List.getElem?_cons_succ]; rfl)
  case wn20 => rfl
  case yn20 => (intro w hSw; (try dsimp only at hSw); go_simp; (try with_reducible rfl))
  (try simp only [Act.put, List.setIfInBounds_toArray, List.set_cons_zero, List.set_cons_succ])
  refine wpAnyH_ready (rs := [21]) (by kernel_rfl) (by simp) ?_
  refine AllReadyH.cons (o := ?o21) ?ho21 (fun K hK => ?rest21) AllReadyH.nil
  case ho21 => (simp only [List.getElem?_toArray, List.getElem?_cons_zero, List.getElem?_cons_succ]; rfl)
  go_simp
  with_reducible refine (of_any 3 (by decide) _).mono ?_
  rintro en vC ⟨o3, rfl, em3, hom3, hvC⟩
  have hvC2 : Below x9.heap.size x9 vC := Below.trans (by (repeat first | with_reducible assumption | with_reducible exact Below.refl _ _ | with_reducible refine Below.drew ?_ | (with_reducible refine Below.alloc ?_ (by first | exact Nat.le_refl _ | (simp only [World.size_alloc, World.size_drew, World.size_setCell]; omega) | omega) _))) (hvC.mono (by first | exact Nat.le_refl _ | (simp only [World.size_alloc, World.size_drew, World.size_setCell]; omega) | omega))
  have svC : x9.heap.size ≤ vC.heap.size := hvC2.size
  have gem3 : Hid (o3.m = ofM 3) := Lib.hid em3
  have ghom3 := Lib.hid hom3
  clear em3 hom3
  refine hK.out _ _ (SS _ (by (repeat first | with_reducible assumption | with_reducible exact Below.refl _ _ | with_reducible refine Below.drew ?_ | (with_reducible refine Below.alloc ?_ (by first | exact Nat.le_refl _ | (simp only [World.size_alloc, World.size_drew, World.size_setCell]; omega) | omega) _)))) (fun hHeld => ?_)
  clear hK K
  (try simp only [Act.put, List.setIfInBounds_toArray, List.set_cons_zero, List.set_cons_succ])
  refine wpAnyH_ready (rs := [22]) (by kernel_rfl) (by simp) ?_
  refine AllReadyH.cons (o := ?o22) ?ho22 (fun K hK => ?rest22) AllReadyH.nil
  case ho22 => (simp only [List.getElem?_toArray, List.getElem?_cons_zero, List.getElem?_cons_succ]; rfl)
  go_simp
  with_reducible refine (nh _ o3 _ (by (repeat first | with_reducible assumption | with_reducible exact Below.refl _ _ | with_reducible refine Below.drew ?_ | (with_reducible refine Below.alloc ?_ (by first | exact Nat.le_refl _ | (simp only [World.size_alloc, World.size_drew, World.size_setCell]; omega) | omega) _))) ghom3.out gem3.out).mono ?_
  rintro en vD ⟨rfl, hvD⟩
  have hvD2 : Below x9.heap.size x9 vD := Below.trans (by (repeat first | with_reducible assumption | with_reducible exact Below.refl _ _ | with_reducible refine Below.drew ?_ | (with_reducible refine Below.alloc ?_ (by first | exact Nat.le_refl _ | (simp only [World.size_alloc, World.size_drew, World.size_setCell]; omega) | omega) _))) (hvD.mono (by first | exact Nat.le_refl _ | (simp only [World.size_alloc, World.size_drew, World.size_setCell]; omega) | omega))
  have svD : x9.heap.size ≤ vD.heap.size := hvD2.size
  refine hK.out _ _ (SS _ (by (repeat first | with_reducible assumption | with_reducible exact Below.refl _ _ | with_reducible refine Below.drew ?_ | (with_reducible refine Below.alloc ?_ (by first | exact Nat.le_refl _ | (simp only [World.size_alloc, World.size_drew, World.size_setCell]; omega) | omega) _)))) (fun hHeld => ?_)
  clear hK K
  (try simp only [Act.put, List.setIfInBounds_toArray, List.set_cons_zero, List.set_cons_succ])
  refine wpAnyH_take (i := 23) (oi := ?o23) (v := ?v23) ?ho23 (by kernel_rfl) (by kernel_rfl) (by kernel_rfl) (fun _ _ _ h => h) (Or.inl ⟨?wn23, ?yn23⟩) (by assumption) ?rest23
  case ho23 => (simp only [List.getElem?_toArray, List.getElem?_cons_zero, List.getElem?_cons_succ]; rfl)
  case wn23 => rfl
  case yn23 => (intro w hSw; (try dsimp only at hSw); go_simp; (try with_reducible rfl))
  (try simp only [Act.put, List.setIfInBounds_toArray, List.set_cons_zero, List.set_cons_succ])
  refine wpAnyH_take (i := 24) (oi := ?o24) (v := ?v24) ?ho24 (by kernel_rfl) (by kernel_rfl) (by kernel_rfl) (fun _ _ _ h => h) (Or.inl ⟨?wn24, ?yn24⟩) (by assumption) ?rest24
  case ho24 => (simp only [List.getElem?_toArray, List.getElem?_cons_zero, List.getElem?_cons_succ]; rfl)
  case wn24 => rfl
  case yn24 => (intro w hSw; (try dsimp only at hSw); go_simp; (try with_reducible rfl))
  (try simp only [Act.put, List.setIfInBounds_toArray, List.set_cons_zero, List.set_cons_succ])
  refine wpAnyH_take (i := 25) (oi := ?o25) (v := ?v25) ?ho25 (by kernel_rfl) (by kernel_rfl) (by kernel_rfl) (fun _ _ _ h => h) (Or.inl ⟨?wn25, ?yn25⟩) (by assumption) ?rest25
  case ho25 => (simp only [List.getElem?_toArray, List.getElem?_cons_zero, List.getElem?_cons_succ]; rfl)
  case wn25 => rfl
  case yn25 => (intro w hSw; (try dsimp only at hSw); go_simp; (try with_reducible rfl))
  (try simp only [Act.put, List.setIfInBounds_toArray, List.set_cons_zero, List.set_cons_succ])
  refine wpAnyH_take (i := 26) (oi := ?o26) (v := ?v26) ?ho26 (by kernel_rfl) (by kernel_rfl) (by kernel_rfl) (fun _ _ _ h => h) (Or.inl ⟨?wn26, ?yn26⟩) (by assumption) ?rest26
  case ho26 => (simp only [List.getElem?_toArray, List.getElem?_cons_zero, List.getElem?_cons_succ]; rfl)
  case wn26 => rfl
  case yn26 => (intro w hSw; (try dsimp only at hSw); go_simp; (try with_reducible rfl))
  (try simp only [Act.put, List.setIfInBounds_toArray, List.set_cons_zero, List.set_cons_succ])
  refine wpAnyH_take (i := 27) (oi := ?o27) (v := ?v27) ?ho27 (by kernel_rfl) (by kernel_rfl) (by kernel_rfl) (fun _ _ _ h => h) (Or.inl ⟨?wn27, ?yn27⟩) (by assumption) ?rest27
  case ho27 => (simp only [List.getElem?_toArray, List.getElem?_cons_zero, List.getElem?_cons_succ]; rfl)
  case wn27 => rfl
  case yn27 => (intro w hSw; (try dsimp only at hSw); go_simp; (try with_reducible rfl))
  (try simp only [Act.put, List.setIfInBounds_toArray, List.set_cons_zero, List.set_cons_succ])
  refine wpAnyH_take (i := 28) (oi := ?o28) (v := ?v28) ?ho28 (by kernel_rfl) (by kernel_rfl) (by kernel_rfl) (fun _ _ _ h => h) (Or.inl ⟨?wn28, ?yn28⟩) (by assumption) ?rest28
  case ho28 => (simp only [List.getElem?_toArray, List.getElem?_cons_zero, List.getElem?_cons_succ]; rfl)
  case wn28 => rfl
  case yn28 => (intro w hSw; (try dsimp only at hSw); go_simp; (try with_reducible rfl))
  (try simp only [Act.put, List.setIfInBounds_toArray, List.set_cons_zero, List.set_cons_succ])
  refine wpAnyH_take (i := 29) (oi := ?o29) (v := ?v29) ?ho29 (by kernel_rfl) (by kernel_rfl) (by kernel_rfl) (fun _ _ _ h => h) (Or.inl ⟨?wn29, ?yn29⟩) (by assumption) ?rest29
  case ho29 => (simp only [List.getElem?_toArray, List.getElem?_cons_zero, List.getElem?_cons_succ]; rfl)
  case wn29 => rfl
  case yn29 => (intro w hSw; (try dsimp only at hSw); go_simp; (try with_reducible rfl))
  (try simp only [Act.put, List.setIfInBounds_toArray, List.set_cons_zero, List.set_cons_succ])
  refine wpAnyH_take (i := 30) (oi := ?o30) (v := ?v30) ?ho30 (by kernel_rfl) (by kernel_rfl) (by kernel_rfl) (fun _ _ _ h => h) (Or.inl ⟨?wn30, ?yn30⟩) (by assumption) ?rest30
  case ho30 => (simp only [List.getElem?_toArray, List.getElem?_cons_zero, List.getElem?_cons_succ]; rfl)
  case wn30 => rfl
  case yn30 => (intro w hSw; (try dsimp only at hSw); go_simp; (try with_reducible rfl))
  (try simp only [Act.put, List.setIfInBounds_toArray, List.set_cons_zero, List.set_cons_succ])
  refine wpAnyH_ready (rs := [31]) (by kernel_rfl) (by simp) ?_
  refine AllReadyH.cons (o := ?o31) ?ho31 (fun K hK => ?rest31) AllReadyH.nil
  case ho31 => (simp only [List.getElem?_toArray, List.getElem?_cons_zero, List.getElem?_cons_succ]; rfl)
  go_simp
  with_reducible refine (ni _ (by (repeat first | with_reducible assumption | with_reducible exact Below.refl _ _ | with_reducible refine Below.drew ?_ | (with_reducible refine Below.alloc ?_ (by first | exact Nat.le_refl _ | (simp only [World.size_alloc, World.size_drew, World.size_setCell]; omega) | omega) _)))).mono ?_
  rintro en vE ⟨rfl, hvE⟩
  have hvE2 : Below x9.heap.size x9 vE := Below.trans (by (repeat first | with_reducible assumption | with_reducible exact Below.refl _ _ | with_reducible refine Below.drew ?_ | (with_reducible refine Below.alloc ?_ (by first | exact Nat.le_refl _ | (simp only [World.size_alloc, World.size_drew, World.size_setCell]; omega) | omega) _))) (hvE.mono (by first | exact Nat.le_refl _ | (simp only [World.size_alloc, World.size_drew, World.size_setCell]; omega) | omega))
  have svE : x9.heap.size ≤ vE.heap.size := hvE2.size
  refine hK.out _ _ (SS _ (by (repeat first | with_reducible assumption | with_reducible exact Below.refl _ _ | with_reducible refine Below.drew ?_ | (with_reducible refine Below.alloc ?_ (by first | exact Nat.le_refl _ | (simp only [World.size_alloc, World.size_drew, World.size_setCell]; omega) | omega) _)))) (fun hHeld => ?_)
  clear hK K
  (try simp only [Act.put, List.setIfInBounds_toArray, List.set_cons_zero, List.set_cons_succ])
  refine wpAnyH_take (i := 32) (oi := ?o32) (v := ?v32) ?ho32 (by kernel_rfl) (by kernel_rfl) (by kernel_rfl) (fun _ _ _ h => h) (Or.inl ⟨?wn32, ?yn32⟩) (by assumption) ?rest32
  case ho32 => (simp only [List.getElem?_toArray, List.getElem?_cons_zero, List.getElem?_cons_succ]; rfl)
  case wn32 => rfl
  case yn32 => (intro w hSw; (try dsimp only at hSw); go_simp; (try with_reducible rfl))
  (try simp only [Act.put, List.setIfInBounds_toArray, List.set_cons_zero, List.set_cons_succ])
  refine wpAnyH_take (i := 33) (oi := ?o33) (v := ?v33) ?ho33 (by kernel_rfl) (by kernel_rfl) (by kernel_rfl) (fun _ _ _ h => h) (Or.inl ⟨?wn33, ?yn33⟩) (by assumption) ?rest33
  case ho33 => (simp only [List.getElem?_toArray, List.getElem?_cons_zero, List.getElem?_cons_succ]; rfl)
  case wn33 => rfl
  case yn33 => (intro w hSw; (try dsimp only at hSw); go_simp; (try with_reducible rfl))
  (try simp only [Act.put, List.setIfInBounds_toArray, List.set_cons_zero, List.set_cons_succ])
  refine wpAnyH_take (i := 34) (oi := ?o34) (v := ?v34) ?ho34 (by kernel_rfl) (by kernel_rfl) (by kernel_rfl) (fun _ _ _ h => h) (Or.inl ⟨?wn34, ?yn34⟩) (by assumption) ?rest34
  case ho34 => (simp only [List.getElem?_toArray, List.getElem?_cons_zero, List.getElem?_cons_succ]; rfl)
  case wn34 => rfl
  case yn34 => (intro w hSw; (try dsimp only at hSw); go_simp; (try with_reducible rfl))
  (try simp only [Act.put, List.setIfInBounds_toArray, List.set_cons_zero, List.set_cons_succ])
  refine wpAnyH_take (i := 35) (oi := ?o35) (v := ?v35) ?ho35 (by kernel_rfl) (by kernel_rfl) (by kernel_rfl) (fun _ _ _ h => h) (Or.inl ⟨?wn35, ?yn35⟩) (by assumption) ?rest35
  case ho35 => (simp only [List.getElem?_toArray, List.getElem?_cons_zero, List.getElem?_cons_succ]; rfl)
  case wn35 => rfl
  case yn35 => (intro w hSw; (try dsimp only at hSw); go_simp; (try with_reducible rfl))
  (try simp only [Act.put, List.setIfInBounds_toArray, List.set_cons_zero, List.set_cons_succ])
  refine wpAnyH_take (i := 36) (oi := ?o36) (v := ?v36) ?ho36 (by kernel_rfl) (by kernel_rfl) (by kernel_rfl) (fun _ _ _ h => h) (Or.inl ⟨?wn36, ?yn36⟩) (by assumption) ?rest36
  case ho36 => (simp only [List.getElem?_toArray, List.getElem?_cons_zero, List.getElem?_cons_succ]; rfl)
  case wn36 => rfl
  case yn36 => (intro w hSw; (try dsimp only at hSw); go_simp; (try with_reducible rfl))
  (try simp only [Act.put, List.setIfInBounds_toArray, List.set_cons_zero, List.set_cons_succ])
  refine wpAnyH_take (i := 37) (oi := ?o37) (v := ?v37) ?ho37 (by kernel_rfl) (by kernel_rfl) (by kernel_rfl) (fun _ _ _ h => h) (Or.inl ⟨?wn37, ?yn37⟩) (by assumption) ?rest37
  case ho37 => (simp only [List.getElem?_toArray, List.getElem?_cons_zero, List.getElem?_cons_succ]; rfl)
  case wn37 => rfl
  case yn37 => (intro w hSw; (try dsimp only at hSw); go_simp; (try with_reducible rfl))
  (try simp only [Act.put, List.setIfInBounds_toArray, List.set_cons_zero, List.set_cons_succ])
  refine wpAnyH_take (i := 38) (oi := ?o38) (v := ?v38) ?ho38 (by kernel_rfl) (by kernel_rfl) (by kernel_rfl) (fun _ _ _ h => h) (Or.inl ⟨?wn38, ?yn38⟩) (by assumption) ?rest38
  case ho38 => (simp only [List.getElem?_toArray, List.getElem?_cons_zero, List.getElem?_cons_succ]; rfl)
  case wn38 => rfl
  case yn38 => (intro w hSw; (try dsimp only at hSw); go_simp; (try with_reducible rfl))
  (try simp only [Act.put, List.setIfInBounds_toArray, List.set_cons_zero, List.set_cons_succ])
  refine wpAnyH_take (i := 39) (oi := ?o39) (v := ?v39) ?ho39 (by kernel_rfl) (by kernel_rfl) (by kernel_rfl) (fun _ _ _ h => h) (Or.inl ⟨?wn39, ?yn39⟩) (by assumption) ?rest39
  case ho39 => (simp only [List.getElem?_toArray, List.getElem?_cons_zero, List.getElem?_cons_succ]; rfl)
  case wn39 => rfl
  case yn39 => (intro w hSw; (try dsimp only at hSw); go_simp; (try with_reducible rfl))
  (try simp only [Act.put, List.setIfInBounds_toArray, List.set_cons_zero, List.set_cons_succ])
  refine wpAnyH_take (i := 40) (oi := ?o40) (v := ?v40) ?ho40 (by kernel_rfl) (by kernel_rfl) (by kernel_rfl) (fun _ _ _ h => h) (Or.inl ⟨?wn40, ?yn40⟩) (by assumption) ?rest40
  case ho40 => (simp only [List.getElem?_toArray, List.getElem?_cons_zero, List.getElem?_cons_succ]; rfl)
  case wn40 => rfl
  case yn40 => (intro w hSw; (try dsimp only at hSw); go_simp; (try with_reducible rfl))
  (try simp only [Act.put, List.setIfInBounds_toArray, List.set_cons_zero, List.set_cons_succ])
  refine wpAnyH_take (i := 41) (oi := ?o41) (v := ?v41) ?ho41 (by kernel_rfl) (by kernel_rfl) (by kernel_rfl) (fun _ _ _ h => h) (Or.inl ⟨?wn41, ?yn41⟩) (by assumption) ?rest41
  case ho41 => (simp only [List.getElem?_toArray, List.getElem?_cons_zero, List.getElem?_cons_succ]; rfl)
  case wn41 => rfl
  case yn41 => (intro w hSw; (try dsimp only at hSw); go_simp; (try with_reducible rfl))
  (try simp only [Act.put, List.setIfInBounds_toArray, List.set_cons_zero, List.set_cons_succ])
  refine wpAnyH_take (i := 42) (oi := ?o42) (v := ?v42) ?ho42 (by kernel_rfl) (by kernel_rfl) (by kernel_rfl) (fun _ _ _ h => h) (Or.inl ⟨?wn42, ?yn42⟩) (by assumption) ?rest42
  case ho42 => (simp only [List.getElem?_toArray, List.getElem?_cons_zero, List.getElem?_cons_succ]; rfl)
  case wn42 => rfl
  case yn42 => (intro w hSw; (try dsimp only at hSw); go_simp; (try with_reducible rfl))
  (try simp only [Act.put, List.setIfInBounds_toArray, List.set_cons_zero, List.set_cons_succ])
  refine wpAnyH_take (i := 43) (oi := ?o43) (v := ?v43) ?ho43 (by kernel_rfl) (by kernel_rfl) (by kernel_rfl) (fun _ _ _ h => h) (Or.inl ⟨?wn43, ?yn43⟩) (by assumption) ?rest43
  case ho43 => (simp only [List.getElem?_toArray, List.getElem?_cons_zero, List.getElem?_cons_succ]; rfl)
  case wn43 => rfl
  case yn43 => (intro w hSw; (try dsimp only at hSw); go_simp; (try with_reducible rfl))
  (try simp only [Act.put, List.setIfInBounds_toArray, List.set_cons_zero, List.set_cons_succ])
  refine wpAnyH_take (i := 44) (oi := ?o44) (v := ?v44) ?ho44 (by kernel_rfl) (by kernel_rfl) (by kernel_rfl) (fun _ _ _ h => h) (Or.inl ⟨?wn44, ?yn44⟩) (by assumption) ?rest44
  case ho44 => (simp only [List.getElem?_toArray, List.getElem?_cons_zero, List.getElem?_cons_succ]; rfl)
  case wn44 => rfl
  case yn44 => (intro w hSw; (try dsimp only at hSw); go_simp; (try with_reducible rfl))
  (try simp only [Act.put, List.setIfInBounds_toArray, List.set_cons_zero, List.set_cons_succ])
  refine wpAnyH_take (i := 45) (oi := ?o45) (v := ?v45) ?ho45 (by kernel_rfl) (by kernel_rfl) (by kernel_rfl) (fun _ _ _ h => h) (Or.inl ⟨?wn45, ?yn45⟩) (by assumption) ?rest45
  case ho45 => (simp only [List.getElem?_toArray, List.getElem?_cons_zero, List.getElem?_cons_succ]; rfl)
  case wn45 => rfl
  case yn45 => (intro w hSw; (try dsimp only at hSw); go_simp; (try with_reducible rfl))
  (try simp only [Act.put, List.setIfInBounds_toArray, List.set_cons_zero, List.set_cons_succ])
  refine wpAnyH_take (i := 46) (oi := ?o46) (v := ?v46) ?ho46 (by kernel_rfl) (by kernel_rfl) (by kernel_rfl) (fun _ _ _ h => h) (Or.inl ⟨?wn46, ?yn46⟩) (by assumption) ?rest46
  case ho46 => (simp only [List.getElem?_toArray, List.getElem?_cons_zero, List.getElem?_cons_succ]; rfl)
  case wn46 => rfl
  case yn46 => (intro w hSw; (try dsimp only at hSw); go_simp; (try with_reducible rfl))
  (try simp only [Act.put, List.setIfInBounds_toArray, List.set_cons_zero, List.set_cons_succ])
  refine wpAnyH_take (i := 47) (oi := ?o47) (v := ?v47) ?ho47 (by kernel_rfl) (by kernel_rfl) (by kernel_rfl) (fun _ _ _ h => h) (Or.inl ⟨?wn47, ?yn47⟩) (by assumption) ?rest47
  case ho47 => (simp only [List.getElem?_toArray, List.getElem?_cons_zero, List.getElem?_cons_succ]; rfl)
  case wn47 => rfl
  case yn47 => (intro w hSw; (try dsimp only at hSw); go_simp; (try with_reducible rfl))
  (try simp only [Act.put, List.setIfInBounds_toArray, List.set_cons_zero, List.set_cons_succ])
  refine wpAnyH_take (i := 48) (oi := ?o48) (v := ?v48) ?ho48 (by kernel_rfl) (by kernel_rfl) (by kernel_rfl) (fun _ _ _ h => h) (Or.inl ⟨?wn48, ?yn48⟩) (by assumption) ?rest48
  case ho48 => (simp only [List.getElem?_toArray, List.getElem?_cons_zero, List.getElem?_cons_succ]; rfl)
  case wn48 => rfl
  case yn48 => (intro w hSw; (try dsimp only at hSw); go_simp; (try with_reducible rfl))
  (try simp only [Act.put, List.setIfInBounds_toArray, List.set_cons_zero, List.set_cons_succ])
  refine wpAnyH_take (i := 49) (oi := ?o49) (v := ?v49) ?ho49 (by kernel_rfl) (by kernel_rfl) (by kernel_rfl) (fun _ _ _ h => h) (Or.inl ⟨?wn49, ?yn49⟩) (by assumption) ?rest49
  case ho49 => (simp only [List.getElem?_toArray, List.getElem?_cons_zero, List.getElem?_cons_succ]; rfl)
  case wn49 => rfl
  case yn49 => (intro w hSw; (try dsimp only at hSw); go_simp; (try with_reducible rfl))
  (try simp only [Act.put, List.setIfInBounds_toArray, List.set_cons_zero, List.set_cons_succ])
  refine wpAnyH_take (i := 50) (oi := ?o50) (v := ?v50) ?ho50 (by kernel_rfl) (by kernel_rfl) (by kernel_rfl) (fun _ _ _ h => h) (Or.inl ⟨?wn50, ?yn50⟩) (by assumption) ?rest50
  case ho50 => (simp only [List.getElem?_toArray, List.getElem?_cons_zero, List.getElem?_cons_succ]; rfl)
  case wn50 => rfl
  case yn50 => (intro w hSw; (try dsimp only at hSw); go_simp; (try with_reducible rfl))
  (try simp only [Act.put, List.setIfInBounds_toArray, List.set_cons_zero, List.set_cons_succ])
  refine wpAnyH_take (i := 51) (oi := ?o51) (v := ?v51) ?ho51 (by kernel_rfl) (by kernel_rfl) (by kernel_rfl) (fun _ _ _ h => h) (Or.inl ⟨?wn51, ?yn51⟩) (by assumption) ?rest51
  case ho51 => (simp only [List.getElem?_toArray, List.getElem?_cons_zero, List.getElem?_cons_succ]; rfl)
  case wn51 => rfl
  case yn51 => (intro w hSw; (try dsimp only at hSw); go_simp; (try with_reducible rfl))
  (try simp only [Act.put, List.setIfInBounds_toArray, List.set_cons_zero, List.set_cons_succ])
  refine wpAnyH_take (i := 52) (oi := ?o52) (v := ?v52) ?ho52 (by kernel_rfl) (by kernel_rfl) (by kernel_rfl) (fun _ _ _ h => h) (Or.inl ⟨?wn52, ?yn52⟩) (by assumption) ?rest52
  case ho52 => (simp only [List.getElem?_toArray, List.getElem?_cons_zero, List.getElem?_cons_succ]; rfl)
  case wn52 => rfl
  case yn52 => (intro w hSw; (try dsimp only at hSw); go_simp; (try with_reducible rfl))
  (try simp only [Act.put, List.setIfInBounds_toArray, List.set_cons_zero, List.set_cons_succ])
  refine wpAnyH_take (i := 53) (oi := ?o53) (v := ?v53) ?ho53 (by kernel_rfl) (by kernel_rfl) (by kernel_rfl) (fun _ _ _ h => h) (Or.inl ⟨?wn53, ?yn53⟩) (by assumption) ?rest53
  case ho53 => (simp only [List.getElem?_toArray, List.getElem?_cons_zero, List.getElem?_cons_succ]; rfl)
  case wn53 => rfl
  case yn53 => (intro w hSw; (try dsimp only at hSw); go_simp; (try with_reducible rfl))
  (try simp only [Act.put, List.setIfInBounds_toArray, List.set_cons_zero, List.set_cons_succ])
  refine wpAnyH_done (by kernel_rfl) ?_ _
  refine NoPanic.normal ?_
  have gB9 := gB.out.trans (hvE2.mono gB.out.size)
  clear SS ng nh ni
  go_wp2
  go_ret
  exact ⟨rfl, gB9⟩
end Go.Proofs.YtmppalgecboeeaaDoor
