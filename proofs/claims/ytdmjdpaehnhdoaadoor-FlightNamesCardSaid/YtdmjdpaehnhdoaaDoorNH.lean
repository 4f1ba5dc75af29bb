/- Flight: the chapter's example -/
import Derived.Test.YtdmjdpaehnhdoaaDoorNG
import Derived.Test.YtdmjdpaehnhdoaaDoorNB
import Derived.Test.YtdmjdpaehnhdoaaDoorLY
namespace Go.Proofs.YtdmjdpaehnhdoaaDoor
open Go.ChangeShapes Go.WideShapes Go.ChangeAt Go.RowKit
set_option linter.unusedSimpArgs false
set_option linter.unusedVariables false
theorem six_sm : smM sixM := ⟨by decide, by decide, by decide, by decide⟩
theorem chk_nil : ChkF [] 0 := .inr (.inl ⟨by decide, fun k x h => by simp at h, rfl⟩)
theorem may_six : mayM sixM = true := by decide
theorem chk_one5 (q : Int) (h1 : 1 ≤ q) (h2 : q ≤ 16) : ChkF [⟨5, 2, q, sixM⟩] 0 := .inr (.inl ⟨by simp, fun k x h => by
  match k, h with
  | 0, h =>
    injection h with h
    subst h
    exact ⟨by simp [lastN], (by decide : (5 : Int) ≤ 1048575), (by decide : (0 : Int) ≤ 2), (by decide : (2 : Int) ≤ 65535), h1, h2, may_six⟩
  | k + 1, h => simp at h, rfl⟩)
theorem ex1 : LchF [] 5 2 sixM [⟨5, 2, 1, sixM⟩] 0 := .inr (.inr ⟨chk_nil, by decide, .inr ⟨by decide, .inr ⟨may_six, .inr ⟨fun j x h => by simp at h, .inr ⟨by decide, rfl, rfl⟩⟩⟩⟩⟩)
theorem ex2 : DblF [⟨5, 2, 1, sixM⟩] 5 [⟨5, 2, 2, sixM⟩] 0 := .inr (.inr ⟨chk_one5 1 (by decide) (by decide), by decide, .inl ⟨0, _, rfl, rfl, .inr ⟨by decide, rfl, rfl⟩⟩⟩)
theorem ex3 : CmeF false [⟨5, 2, 2, sixM⟩] 5 [⟨5, 2, 1, sixM⟩] zE 0 := .inr (.inr ⟨chk_one5 2 (by decide) (by decide), by decide, rfl, .inl ⟨0, _, rfl, rfl, .inr ⟨by decide, rfl, rfl⟩⟩⟩)
theorem ex4 : CmeF true [⟨5, 2, 1, sixM⟩] 5 [] ⟨5, 2, 1, sixM⟩ 0 := .inr (.inr ⟨chk_one5 1 (by decide) (by decide), by decide, rfl, .inl ⟨0, _, rfl, rfl, .inl ⟨.inl rfl, rfl, rfl⟩⟩⟩)
theorem ex5 : CmeF true [] 5 [] zE 0 := .inr (.inr ⟨chk_nil, by decide, rfl, .inr ⟨fun j x h => by simp at h, rfl, rfl⟩⟩)
set_option maxRecDepth 100000 in
set_option maxHeartbeats 32000000 in
theorem alive_any (w : World) : Calls Tryd.prog 20 #[] w fun en w' => en = .returned (.bool true) ∧ Below w.heap.size w w' := by
  go_enter Tryd.func20, Tryd.ntmps20
  go_wp2_with fail
  refine (six_any w).mono ?_
  rintro en w1 ⟨om, rfl, em, um, hb1⟩
  have gB := Lib.hid hb1
  replace em := Lib.hid em
  replace um := Lib.hid um
  clear hb1
  go_wp2_with fail
  refine (launch_any none 0 0 [] (by omega) (fun x h => by cases h) 5 2 om.x.give.s.neg om.X0 om.x.give.s.ls.length om.c0 om.x.give.s.ex om.x.give.w.neg om.X1 om.x.give.w.ls.length om.c1 om.x.give.w.ex om.x.give.c.neg om.X2 om.x.give.c.ls.length om.c2 om.x.give.c.ex om.x.give.a.neg om.X3 om.x.give.a.ls.length om.c3 om.x.give.a.ex om.x.give (by rw [em.out]; exact six_sm) w1 Recs.none_ um.out.rdM).mono ?_
  rintro en w2 ⟨l2, v2, E2, rfl, hF, hO⟩
  rw [em.out] at hF
  obtain ⟨rfl, rfl⟩ := lch_one hF ex1
  clear hF
  obtain ⟨A2, n2, c2, rfl, hT⟩ := hO
  have hb := hT.2.2.2.1
  have r2 := Lib.hid hT.2.1
  obtain rfl : n2 = 1 := (ens_len hT.2.1).symm
  clear hT
  have sw2 : w1.heap.size ≤ w2.heap.size := hb.size
  replace um := Lib.hid (um.out.map (fun h => h.below hb))
  replace gB := Lib.hid (gB.out.trans (hb.mono gB.out.size))
  clear hb
  go_wp2_with fail
  refine (double_any A2 1 c2 [⟨5, 2, 1, sixM⟩] (by omega) (by intro x h; rw [List.mem_singleton.1 h]; exact six_sm) w2 r2.out 5).mono ?_
  rintro en w3 ⟨l3, v3, E3, rfl, hF, hO⟩
  obtain ⟨rfl, rfl⟩ := dbl_one hF ex2
  clear hF
  obtain ⟨A3, n3, c3, rfl, hT⟩ := hO
  have hb := hT.2.2.2.1
  have r3 := Lib.hid hT.2.1
  obtain rfl : n3 = 1 := (ens_len hT.2.1).symm
  obtain ⟨g3, cur, rfl, _, hg, hq⟩ := accE_head hT.2.2.2.2 (by omega)
  have b3 : Hid (w3.cell? ⟨g3, 2, none⟩ = some (.int .i64 2) ∧ g3 < w3.heap.size) := Lib.hid ⟨hq 0 _ rfl, hg.lt⟩
  clear hT hg hq
  have sw3 : w2.heap.size ≤ w3.heap.size := hb.size
  replace um := Lib.hid (um.out.map (fun h => h.below hb))
  replace gB := Lib.hid (gB.out.trans (hb.mono gB.out.size))
  clear hb
  go_wp2_with fail
  refine (lose_any (some ⟨g3, 0, none⟩) 1 c3 [⟨5, 2, 2, sixM⟩] (by omega) (by intro x h; rw [List.mem_singleton.1 h]; exact six_sm) w3 r3.out 5).mono ?_
  rintro en w4 ⟨l4, z4, ox, v4, vx, E4, rfl, hF, rfl, hP⟩
  obtain ⟨rfl, rfl, rfl⟩ := cme_one hF ex3
  clear hF
  obtain ⟨⟨A4, n4, c4, os, rfl, he, fx, hr, ho, hox, _⟩, hb⟩ := hP
  have hT := accE_done (show AccE w4 w3.heap.size (.slice A4 n4 c4) n4 _ from ⟨os, he, hr, ho⟩) hb
  have r4 := Lib.hid hT.2.1
  have a4 := Lib.hid hT.2.2.2.2
  have ux := Lib.hid hox
  replace fx := Lib.hid fx
  obtain rfl : n4 = 1 := (ens_len hT.2.1).symm
  clear hT he hr ho hox
  unfold aggE
  have sw4 : w3.heap.size ≤ w4.heap.size := hb.size
  replace um := Lib.hid (um.out.map (fun h => h.below hb))
  replace b3 := Lib.hid (And.intro ((hb.cell (p := ⟨g3, 2, none⟩) b3.out.2).trans b3.out.1) (Nat.lt_of_lt_of_le b3.out.2 hb.size))
  replace gB := Lib.hid (gB.out.trans (hb.mono gB.out.size))
  clear hb
  obtain ⟨g4, cur, rfl, _, hg, hq⟩ := accE_head a4.out (by omega)
  have b4 : Hid (w4.cell? ⟨g4, 2, none⟩ = some (.int .i64 1) ∧ g4 < w4.heap.size) := Lib.hid ⟨hq 0 _ rfl, hg.lt⟩
  clear hg hq a4
  obtain ⟨tx, ht⟩ : ∃ t, t = w4.heap.size := ⟨_, rfl⟩
  obtain ⟨y4, hy4⟩ : ∃ W, W = w4.alloc (.cells #[.int .i64 ox.x.nu, .int .i64 ox.x.ep, .int .i64 ox.x.cp, .bool ox.x.give.s.neg, .slice ox.X0 ox.x.give.s.ls.length ox.c0, .int .i64 ox.x.give.s.ex, .bool ox.x.give.w.neg, .slice ox.X1 ox.x.give.w.ls.length ox.c1, .int .i64 ox.x.give.w.ex, .bool ox.x.give.c.neg, .slice ox.X2 ox.x.give.c.ls.length ox.c2, .int .i64 ox.x.give.c.ex, .bool ox.x.give.a.neg, .slice ox.X3 ox.x.give.a.ls.length ox.c3, .int .i64 ox.x.give.a.ex] 48) := ⟨_, rfl⟩
  have hb : Below w4.heap.size w4 y4 := by rw [hy4]; exact (Below.refl _ _).alloc (Nat.le_refl _) _
  have kk : Blk y4 w4.heap.size 48 #[.int .i64 ox.x.nu, .int .i64 ox.x.ep, .int .i64 ox.x.cp, .bool ox.x.give.s.neg, .slice ox.X0 ox.x.give.s.ls.length ox.c0, .int .i64 ox.x.give.s.ex, .bool ox.x.give.w.neg, .slice ox.X1 ox.x.give.w.ls.length ox.c1, .int .i64 ox.x.give.w.ex, .bool ox.x.give.c.neg, .slice ox.X2 ox.x.give.c.ls.length ox.c2, .int .i64 ox.x.give.c.ex, .bool ox.x.give.a.neg, .slice ox.X3 ox.x.give.a.ls.length ox.c3, .int .i64 ox.x.give.a.ex] := by rw [hy4]; exact Blk.new _ _ _
  rw [← ht] at kk
  have kx := Lib.hid kk
  clear kk
  have sy4 : w4.heap.size ≤ y4.heap.size := hb.size
  replace um := Lib.hid (um.out.map (fun h => h.below hb))
  replace b3 := Lib.hid (And.intro ((hb.cell (p := ⟨g3, 2, none⟩) b3.out.2).trans b3.out.1) (Nat.lt_of_lt_of_le b3.out.2 hb.size))
  replace ux := Lib.hid (ux.out.map (fun h => h.below hb))
  replace r4 := Lib.hid (Recs.more (Recs.below r4.out hb) hb.size)
  replace b4 := Lib.hid (And.intro ((hb.cell (p := ⟨g4, 2, none⟩) b4.out.2).trans b4.out.1) (Nat.lt_of_lt_of_le b4.out.2 hb.size))
  replace gB := Lib.hid (gB.out.trans (hb.mono gB.out.size))
  clear hb
  go_wp2_with fail
  rw [← hy4]
  clear hy4
  rw [← ht]
  clear ht
  refine (land_any (some ⟨g4, 0, none⟩) 1 c4 [⟨5, 2, 1, sixM⟩] (by omega) (by intro x h; rw [List.mem_singleton.1 h]; exact six_sm) y4 r4.out 5).mono ?_
  rintro en w5 ⟨l5, z5, oy, v5, vx, E5, rfl, hF, rfl, hP⟩
  obtain ⟨rfl, rfl, rfl⟩ := cme_one hF ex4
  clear hF
  obtain ⟨⟨A5, n5, c5, os, rfl, he, fy, hr, ho, hox, _⟩, hb⟩ := hP
  have hT := accE_done (show AccE w5 y4.heap.size (.slice A5 n5 c5) n5 _ from ⟨os, he, hr, ho⟩) hb
  have r5 := Lib.hid hT.2.1
  have a5 := Lib.hid hT.2.2.2.2
  have uy := Lib.hid hox
  replace fy := Lib.hid fy
  obtain rfl : n5 = 0 := (ens_len hT.2.1).symm
  clear hT he hr ho hox
  unfold aggE
  have sw5 : y4.heap.size ≤ w5.heap.size := hb.size
  replace um := Lib.hid (um.out.map (fun h => h.below hb))
  replace b3 := Lib.hid (And.intro ((hb.cell (p := ⟨g3, 2, none⟩) b3.out.2).trans b3.out.1) (Nat.lt_of_lt_of_le b3.out.2 hb.size))
  replace ux := Lib.hid (ux.out.map (fun h => h.below hb))
  replace r4 := Lib.hid (Recs.more (Recs.below r4.out hb) hb.size)
  replace b4 := Lib.hid (And.intro ((hb.cell (p := ⟨g4, 2, none⟩) b4.out.2).trans b4.out.1) (Nat.lt_of_lt_of_le b4.out.2 hb.size))
  replace kx := Lib.hid (kx.out.below hb kx.out.lt)
  replace gB := Lib.hid (gB.out.trans (hb.mono gB.out.size))
  clear hb
  obtain ⟨ty, ht⟩ : ∃ t, t = w5.heap.size := ⟨_, rfl⟩
  obtain ⟨y5, hy5⟩ : ∃ W, W = w5.alloc (.cells #[.int .i64 oy.x.nu, .int .i64 oy.x.ep, .int .i64 oy.x.cp, .bool oy.x.give.s.neg, .slice oy.X0 oy.x.give.s.ls.length oy.c0, .int .i64 oy.x.give.s.ex, .bool oy.x.give.w.neg, .slice oy.X1 oy.x.give.w.ls.length oy.c1, .int .i64 oy.x.give.w.ex, .bool oy.x.give.c.neg, .slice oy.X2 oy.x.give.c.ls.length oy.c2, .int .i64 oy.x.give.c.ex, .bool oy.x.give.a.neg, .slice oy.X3 oy.x.give.a.ls.length oy.c3, .int .i64 oy.x.give.a.ex] 48) := ⟨_, rfl⟩
  have hb : Below w5.heap.size w5 y5 := by rw [hy5]; exact (Below.refl _ _).alloc (Nat.le_refl _) _
  have kk : Blk y5 w5.heap.size 48 #[.int .i64 oy.x.nu, .int .i64 oy.x.ep, .int .i64 oy.x.cp, .bool oy.x.give.s.neg, .slice oy.X0 oy.x.give.s.ls.length oy.c0, .int .i64 oy.x.give.s.ex, .bool oy.x.give.w.neg, .slice oy.X1 oy.x.give.w.ls.length oy.c1, .int .i64 oy.x.give.w.ex, .bool oy.x.give.c.neg, .slice oy.X2 oy.x.give.c.ls.length oy.c2, .int .i64 oy.x.give.c.ex, .bool oy.x.give.a.neg, .slice oy.X3 oy.x.give.a.ls.length oy.c3, .int .i64 oy.x.give.a.ex] := by rw [hy5]; exact Blk.new _ _ _
  rw [← ht] at kk
  have ky := Lib.hid kk
  clear kk
  have sy5 : w5.heap.size ≤ y5.heap.size := hb.size
  replace um := Lib.hid (um.out.map (fun h => h.below hb))
  replace b3 := Lib.hid (And.intro ((hb.cell (p := ⟨g3, 2, none⟩) b3.out.2).trans b3.out.1) (Nat.lt_of_lt_of_le b3.out.2 hb.size))
  replace ux := Lib.hid (ux.out.map (fun h => h.below hb))
  replace r4 := Lib.hid (Recs.more (Recs.below r4.out hb) hb.size)
  replace b4 := Lib.hid (And.intro ((hb.cell (p := ⟨g4, 2, none⟩) b4.out.2).trans b4.out.1) (Nat.lt_of_lt_of_le b4.out.2 hb.size))
  replace kx := Lib.hid (kx.out.below hb kx.out.lt)
  replace uy := Lib.hid (uy.out.map (fun h => h.below hb))
  replace r5 := Lib.hid (Recs.more (Recs.below r5.out hb) hb.size)
  replace gB := Lib.hid (gB.out.trans (hb.mono gB.out.size))
  clear hb
  go_wp2_with fail
  rw [← hy5]
  clear hy5
  rw [← ht]
  clear ht
  refine (land_any A5 0 c5 [] (by omega) (fun x h => by cases h) y5 r5.out 5).mono ?_
  rintro en w6 ⟨l6, z6, oz, v6, vx, E6, rfl, hF, rfl, hP⟩
  obtain ⟨rfl, rfl, rfl⟩ := cme_one hF ex5
  clear hF
  obtain ⟨⟨A6, n6, c6, os, rfl, he, fz, hr, ho, hox, _⟩, hb⟩ := hP
  have hT := accE_done (show AccE w6 y5.heap.size (.slice A6 n6 c6) n6 _ from ⟨os, he, hr, ho⟩) hb
  have r6 := Lib.hid hT.2.1
  have a6 := Lib.hid hT.2.2.2.2
  have uz := Lib.hid hox
  replace fz := Lib.hid fz
  obtain rfl : n6 = 0 := (ens_len hT.2.1).symm
  clear hT he hr ho hox
  unfold aggE
  have sw6 : y5.heap.size ≤ w6.heap.size := hb.size
  replace um := Lib.hid (um.out.map (fun h => h.below hb))
  replace b3 := Lib.hid (And.intro ((hb.cell (p := ⟨g3, 2, none⟩) b3.out.2).trans b3.out.1) (Nat.lt_of_lt_of_le b3.out.2 hb.size))
  replace ux := Lib.hid (ux.out.map (fun h => h.below hb))
  replace r4 := Lib.hid (Recs.more (Recs.below r4.out hb) hb.size)
  replace b4 := Lib.hid (And.intro ((hb.cell (p := ⟨g4, 2, none⟩) b4.out.2).trans b4.out.1) (Nat.lt_of_lt_of_le b4.out.2 hb.size))
  replace kx := Lib.hid (kx.out.below hb kx.out.lt)
  replace uy := Lib.hid (uy.out.map (fun h => h.below hb))
  replace r5 := Lib.hid (Recs.more (Recs.below r5.out hb) hb.size)
  replace ky := Lib.hid (ky.out.below hb ky.out.lt)
  replace gB := Lib.hid (gB.out.trans (hb.mono gB.out.size))
  clear hb
  obtain ⟨tz, ht⟩ : ∃ t, t = w6.heap.size := ⟨_, rfl⟩
  obtain ⟨y6, hy6⟩ : ∃ W, W = w6.alloc (.cells #[.int .i64 oz.x.nu, .int .i64 oz.x.ep, .int .i64 oz.x.cp, .bool oz.x.give.s.neg, .slice oz.X0 oz.x.give.s.ls.length oz.c0, .int .i64 oz.x.give.s.ex, .bool oz.x.give.w.neg, .slice oz.X1 oz.x.give.w.ls.length oz.c1, .int .i64 oz.x.give.w.ex, .bool oz.x.give.c.neg, .slice oz.X2 oz.x.give.c.ls.length oz.c2, .int .i64 oz.x.give.c.ex, .bool oz.x.give.a.neg, .slice oz.X3 oz.x.give.a.ls.length oz.c3, .int .i64 oz.x.give.a.ex] 48) := ⟨_, rfl⟩
  have hb : Below w6.heap.size w6 y6 := by rw [hy6]; exact (Below.refl _ _).alloc (Nat.le_refl _) _
  have kk : Blk y6 w6.heap.size 48 #[.int .i64 oz.x.nu, .int .i64 oz.x.ep, .int .i64 oz.x.cp, .bool oz.x.give.s.neg, .slice oz.X0 oz.x.give.s.ls.length oz.c0, .int .i64 oz.x.give.s.ex, .bool oz.x.give.w.neg, .slice oz.X1 oz.x.give.w.ls.length oz.c1, .int .i64 oz.x.give.w.ex, .bool oz.x.give.c.neg, .slice oz.X2 oz.x.give.c.ls.length oz.c2, .int .i64 oz.x.give.c.ex, .bool oz.x.give.a.neg, .slice oz.X3 oz.x.give.a.ls.length oz.c3, .int .i64 oz.x.give.a.ex] := by rw [hy6]; exact Blk.new _ _ _
  rw [← ht] at kk
  have kz := Lib.hid kk
  clear kk
  have sy6 : w6.heap.size ≤ y6.heap.size := hb.size
  replace um := Lib.hid (um.out.map (fun h => h.below hb))
  replace b3 := Lib.hid (And.intro ((hb.cell (p := ⟨g3, 2, none⟩) b3.out.2).trans b3.out.1) (Nat.lt_of_lt_of_le b3.out.2 hb.size))
  replace ux := Lib.hid (ux.out.map (fun h => h.below hb))
  replace r4 := Lib.hid (Recs.more (Recs.below r4.out hb) hb.size)
  replace b4 := Lib.hid (And.intro ((hb.cell (p := ⟨g4, 2, none⟩) b4.out.2).trans b4.out.1) (Nat.lt_of_lt_of_le b4.out.2 hb.size))
  replace kx := Lib.hid (kx.out.below hb kx.out.lt)
  replace uy := Lib.hid (uy.out.map (fun h => h.below hb))
  replace r5 := Lib.hid (Recs.more (Recs.below r5.out hb) hb.size)
  replace ky := Lib.hid (ky.out.below hb ky.out.lt)
  replace uz := Lib.hid (uz.out.map (fun h => h.below hb))
  replace r6 := Lib.hid (Recs.more (Recs.below r6.out hb) hb.size)
  replace gB := Lib.hid (gB.out.trans (hb.mono gB.out.size))
  clear hb
  go_wp2_with fail
  rw [← hy6]
  clear hy6
  rw [← ht]
  clear ht
  have SS : ∀ w', Below y6.heap.size y6 w' → (w'.cell? ⟨g3, 2, none⟩ = some (.int .i64 2) ∧ w'.cell? ⟨g4, 2, none⟩ = some (.int .i64 1) ∧ w'.cell? ⟨tx, 0, none⟩ = some (.int .i64 ox.x.nu) ∧ w'.cell? ⟨tx, 1, none⟩ = some (.int .i64 ox.x.ep) ∧ w'.cell? ⟨tx, 2, none⟩ = some (.int .i64 ox.x.cp) ∧ w'.cell? ⟨tx, 3, none⟩ = some (.bool ox.x.give.s.neg) ∧ w'.cell? ⟨tx, 4, none⟩ = some (.slice ox.X0 ox.x.give.s.ls.length ox.c0) ∧ w'.cell? ⟨tx, 5, none⟩ = some (.int .i64 ox.x.give.s.ex) ∧ w'.cell? ⟨tx, 6, none⟩ = some (.bool ox.x.give.w.neg) ∧ w'.cell? ⟨tx, 7, none⟩ = some (.slice ox.X1 ox.x.give.w.ls.length ox.c1) ∧ w'.cell? ⟨tx, 8, none⟩ = some (.int .i64 ox.x.give.w.ex) ∧ w'.cell? ⟨tx, 9, none⟩ = some (.bool ox.x.give.c.neg) ∧ w'.cell? ⟨tx, 10, none⟩ = some (.slice ox.X2 ox.x.give.c.ls.length ox.c2) ∧ w'.cell? ⟨tx, 11, none⟩ = some (.int .i64 ox.x.give.c.ex) ∧ w'.cell? ⟨tx, 12, none⟩ = some (.bool ox.x.give.a.neg) ∧ w'.cell? ⟨tx, 13, none⟩ = some (.slice ox.X3 ox.x.give.a.ls.length ox.c3) ∧ w'.cell? ⟨tx, 14, none⟩ = some (.int .i64 ox.x.give.a.ex) ∧ w'.cell? ⟨ty, 0, none⟩ = some (.int .i64 oy.x.nu) ∧ w'.cell? ⟨ty, 1, none⟩ = some (.int .i64 oy.x.ep) ∧ w'.cell? ⟨ty, 2, none⟩ = some (.int .i64 oy.x.cp) ∧ w'.cell? ⟨ty, 3, none⟩ = some (.bool oy.x.give.s.neg) ∧ w'.cell? ⟨ty, 4, none⟩ = some (.slice oy.X0 oy.x.give.s.ls.length oy.c0) ∧ w'.cell? ⟨ty, 5, none⟩ = some (.int .i64 oy.x.give.s.ex) ∧ w'.cell? ⟨ty, 6, none⟩ = some (.bool oy.x.give.w.neg) ∧ w'.cell? ⟨ty, 7, none⟩ = some (.slice oy.X1 oy.x.give.w.ls.length oy.c1) ∧ w'.cell? ⟨ty, 8, none⟩ = some (.int .i64 oy.x.give.w.ex) ∧ w'.cell? ⟨ty, 9, none⟩ = some (.bool oy.x.give.c.neg) ∧ w'.cell? ⟨ty, 10, none⟩ = some (.slice oy.X2 oy.x.give.c.ls.length oy.c2) ∧ w'.cell? ⟨ty, 11, none⟩ = some (.int .i64 oy.x.give.c.ex) ∧ w'.cell? ⟨ty, 12, none⟩ = some (.bool oy.x.give.a.neg) ∧ w'.cell? ⟨ty, 13, none⟩ = some (.slice oy.X3 oy.x.give.a.ls.length oy.c3) ∧ w'.cell? ⟨ty, 14, none⟩ = some (.int .i64 oy.x.give.a.ex) ∧ w'.cell? ⟨tz, 0, none⟩ = some (.int .i64 oz.x.nu) ∧ w'.cell? ⟨tz, 1, none⟩ = some (.int .i64 oz.x.ep) ∧ w'.cell? ⟨tz, 2, none⟩ = some (.int .i64 oz.x.cp) ∧ w'.cell? ⟨tz, 3, none⟩ = some (.bool oz.x.give.s.neg) ∧ w'.cell? ⟨tz, 4, none⟩ = some (.slice oz.X0 oz.x.give.s.ls.length oz.c0) ∧ w'.cell? ⟨tz, 5, none⟩ = some (.int .i64 oz.x.give.s.ex) ∧ w'.cell? ⟨tz, 6, none⟩ = some (.bool oz.x.give.w.neg) ∧ w'.cell? ⟨tz, 7, none⟩ = some (.slice oz.X1 oz.x.give.w.ls.length oz.c1) ∧ w'.cell? ⟨tz, 8, none⟩ = some (.int .i64 oz.x.give.w.ex) ∧ w'.cell? ⟨tz, 9, none⟩ = some (.bool oz.x.give.c.neg) ∧ w'.cell? ⟨tz, 10, none⟩ = some (.slice oz.X2 oz.x.give.c.ls.length oz.c2) ∧ w'.cell? ⟨tz, 11, none⟩ = some (.int .i64 oz.x.give.c.ex) ∧ w'.cell? ⟨tz, 12, none⟩ = some (.bool oz.x.give.a.neg) ∧ w'.cell? ⟨tz, 13, none⟩ = some (.slice oz.X3 oz.x.give.a.ls.length oz.c3) ∧ w'.cell? ⟨tz, 14, none⟩ = some (.int .i64 oz.x.give.a.ex)) := by
    intro w' hw
    have kx' := kx.out.below hw kx.out.lt
    have ky' := ky.out.below hw ky.out.lt
    have kz' := kz.out.below hw kz.out.lt
    refine ⟨(hw.cell (p := ⟨g3, 2, none⟩) b3.out.2).trans b3.out.1, (hw.cell (p := ⟨g4, 2, none⟩) b4.out.2).trans b4.out.1, ?_, ?_, ?_, ?_, ?_, ?_, ?_, ?_, ?_, ?_, ?_, ?_, ?_, ?_, ?_, ?_, ?_, ?_, ?_, ?_, ?_, ?_, ?_, ?_, ?_, ?_, ?_, ?_, ?_, ?_, ?_, ?_, ?_, ?_, ?_, ?_, ?_, ?_, ?_, ?_, ?_, ?_, ?_, ?_, ?_⟩
    · rw [kx'.cell]; rfl
    · rw [kx'.cell]; rfl
    · rw [kx'.cell]; rfl
    · rw [kx'.cell]; rfl
    · rw [kx'.cell]; rfl
    · rw [kx'.cell]; rfl
    · rw [kx'.cell]; rfl
    · rw [kx'.cell]; rfl
    · rw [kx'.cell]; rfl
    · rw [kx'.cell]; rfl
    · rw [kx'.cell]; rfl
    · rw [kx'.cell]; rfl
    · rw [kx'.cell]; rfl
    · rw [kx'.cell]; rfl
    · rw [kx'.cell]; rfl
    · rw [ky'.cell]; rfl
    · rw [ky'.cell]; rfl
    · rw [ky'.cell]; rfl
    · rw [ky'.cell]; rfl
    · rw [ky'.cell]; rfl
    · rw [ky'.cell]; rfl
    · rw [ky'.cell]; rfl
    · rw [ky'.cell]; rfl
    · rw [ky'.cell]; rfl
    · rw [ky'.cell]; rfl
    · rw [ky'.cell]; rfl
    · rw [ky'.cell]; rfl
    · rw [ky'.cell]; rfl
    · rw [ky'.cell]; rfl
    · rw [ky'.cell]; rfl
    · rw [kz'.cell]; rfl
    · rw [kz'.cell]; rfl
    · rw [kz'.cell]; rfl
    · rw [kz'.cell]; rfl
    · rw [kz'.cell]; rfl
    · rw [kz'.cell]; rfl
    · rw [kz'.cell]; rfl
    · rw [kz'.cell]; rfl
    · rw [kz'.cell]; rfl
    · rw [kz'.cell]; rfl
    · rw [kz'.cell]; rfl
    · rw [kz'.cell]; rfl
    · rw [kz'.cell]; rfl
    · rw [kz'.cell]; rfl
    · rw [kz'.cell]; rfl
  have nx : ∀ w', Below y6.heap.size y6 w' → Calls Tryd.prog 23 #[.agg #[.int .i64 ox.x.nu, .int .i64 ox.x.ep, .int .i64 ox.x.cp, .bool ox.x.give.s.neg, .slice ox.X0 ox.x.give.s.ls.length ox.c0, .int .i64 ox.x.give.s.ex, .bool ox.x.give.w.neg, .slice ox.X1 ox.x.give.w.ls.length ox.c1, .int .i64 ox.x.give.w.ex, .bool ox.x.give.c.neg, .slice ox.X2 ox.x.give.c.ls.length ox.c2, .int .i64 ox.x.give.c.ex, .bool ox.x.give.a.neg, .slice ox.X3 ox.x.give.a.ls.length ox.c3, .int .i64 ox.x.give.a.ex]] w' fun en w'' => en = .returned (.bool true) ∧ Below w'.heap.size w' w'' := fun w' hw => none_any ox (by rw [fx.out]; exact zE_sm) w' _ (ux.out.map (fun h => h.below hw)) true (.inr ⟨rfl, fx.out⟩)
  have nz : ∀ w', Below y6.heap.size y6 w' → Calls Tryd.prog 23 #[.agg #[.int .i64 oz.x.nu, .int .i64 oz.x.ep, .int .i64 oz.x.cp, .bool oz.x.give.s.neg, .slice oz.X0 oz.x.give.s.ls.length oz.c0, .int .i64 oz.x.give.s.ex, .bool oz.x.give.w.neg, .slice oz.X1 oz.x.give.w.ls.length oz.c1, .int .i64 oz.x.give.w.ex, .bool oz.x.give.c.neg, .slice oz.X2 oz.x.give.c.ls.length oz.c2, .int .i64 oz.x.give.c.ex, .bool oz.x.give.a.neg, .slice oz.X3 oz.x.give.a.ls.length oz.c3, .int .i64 oz.x.give.a.ex]] w' fun en w'' => en = .returned (.bool true) ∧ Below w'.heap.size w' w'' := fun w' hw => none_any oz (by rw [fz.out]; exact zE_sm) w' _ (uz.out.map (fun h => h.below hw)) true (.inr ⟨rfl, fz.out⟩)
  have ny : ∀ w' (om2 : EO) b, Below y6.heap.size y6 w' → ownE w' b om2 → om2.x.give = sixM → Calls Tryd.prog 24 #[.agg #[.bool oy.x.give.s.neg, .slice oy.X0 oy.x.give.s.ls.length oy.c0, .int .i64 oy.x.give.s.ex, .bool oy.x.give.w.neg, .slice oy.X1 oy.x.give.w.ls.length oy.c1, .int .i64 oy.x.give.w.ex, .bool oy.x.give.c.neg, .slice oy.X2 oy.x.give.c.ls.length oy.c2, .int .i64 oy.x.give.c.ex, .bool oy.x.give.a.neg, .slice oy.X3 oy.x.give.a.ls.length oy.c3, .int .i64 oy.x.give.a.ex], .agg #[.bool om2.x.give.s.neg, .slice om2.X0 om2.x.give.s.ls.length om2.c0, .int .i64 om2.x.give.s.ex, .bool om2.x.give.w.neg, .slice om2.X1 om2.x.give.w.ls.length om2.c1, .int .i64 om2.x.give.w.ex, .bool om2.x.give.c.neg, .slice om2.X2 om2.x.give.c.ls.length om2.c2, .int .i64 om2.x.give.c.ex, .bool om2.x.give.a.neg, .slice om2.X3 om2.x.give.a.ls.length om2.c3, .int .i64 om2.x.give.a.ex]] w' fun en w'' => en = .returned (.bool true) ∧ Below w'.heap.size w' w'' := fun w' om2 b hw h1 h2 => msame_any _ _ _ _ _ _ _ _ _ _ _ _ _ _ _ _ _ _ _ _ _ _ _ _ _ _ _ _ _ _ _ _ _ _ _ _ _ _ _ _  oy.x.give om2.x.give (by rw [fy.out]; exact six_sm) (by rw [h2]; exact six_sm) w' (uy.out.map (fun h => h.below hw)).rdM h1.rdM true (decide_eq_true (by rw [fy.out, h2]))
  have ey : (oy.x.ep == 2) = true := by rw [fy.out]; rfl
  have hs0 := SS y6 (Below.refl _ _)
  go_wp2_with fail
  refine wp_region_noPanic ?_
  refine wp_region_held_drew (S := fun w' => w'.cell? ⟨g3, 2, none⟩ = some (.int .i64 2) ∧ w'.cell? ⟨g4, 2, none⟩ = some (.int .i64 1) ∧ w'.cell? ⟨tx, 0, none⟩ = some (.int .i64 ox.x.nu) ∧ w'.cell? ⟨tx, 1, none⟩ = some (.int .i64 ox.x.ep) ∧ w'.cell? ⟨tx, 2, none⟩ = some (.int .i64 ox.x.cp) ∧ w'.cell? ⟨tx, 3, none⟩ = some (.bool ox.x.give.s.neg) ∧ w'.cell? ⟨tx, 4, none⟩ = some (.slice ox.X0 ox.x.give.s.ls.length ox.c0) ∧ w'.cell? ⟨tx, 5, none⟩ = some (.int .i64 ox.x.give.s.ex) ∧ w'.cell? ⟨tx, 6, none⟩ = some (.bool ox.x.give.w.neg) ∧ w'.cell? ⟨tx, 7, none⟩ = some (.slice ox.X1 ox.x.give.w.ls.length ox.c1) ∧ w'.cell? ⟨tx, 8, none⟩ = some (.int .i64 ox.x.give.w.ex) ∧ w'.cell? ⟨tx, 9, none⟩ = some (.bool ox.x.give.c.neg) ∧ w'.cell? ⟨tx, 10, none⟩ = some (.slice ox.X2 ox.x.give.c.ls.length ox.c2) ∧ w'.cell? ⟨tx, 11, none⟩ = some (.int .i64 ox.x.give.c.ex) ∧ w'.cell? ⟨tx, 12, none⟩ = some (.bool ox.x.give.a.neg) ∧ w'.cell? ⟨tx, 13, none⟩ = some (.slice ox.X3 ox.x.give.a.ls.length ox.c3) ∧ w'.cell? ⟨tx, 14, none⟩ = some (.int .i64 ox.x.give.a.ex) ∧ w'.cell? ⟨ty, 0, none⟩ = some (.int .i64 oy.x.nu) ∧ w'.cell? ⟨ty, 1, none⟩ = some (.int .i64 oy.x.ep) ∧ w'.cell? ⟨ty, 2, none⟩ = some (.int .i64 oy.x.cp) ∧ w'.cell? ⟨ty, 3, none⟩ = some (.bool oy.x.give.s.neg) ∧ w'.cell? ⟨ty, 4, none⟩ = some (.slice oy.X0 oy.x.give.s.ls.length oy.c0) ∧ w'.cell? ⟨ty, 5, none⟩ = some (.int .i64 oy.x.give.s.ex) ∧ w'.cell? ⟨ty, 6, none⟩ = some (.bool oy.x.give.w.neg) ∧ w'.cell? ⟨ty, 7, none⟩ = some (.slice oy.X1 oy.x.give.w.ls.length oy.c1) ∧ w'.cell? ⟨ty, 8, none⟩ = some (.int .i64 oy.x.give.w.ex) ∧ w'.cell? ⟨ty, 9, none⟩ = some (.bool oy.x.give.c.neg) ∧ w'.cell? ⟨ty, 10, none⟩ = some (.slice oy.X2 oy.x.give.c.ls.length oy.c2) ∧ w'.cell? ⟨ty, 11, none⟩ = some (.int .i64 oy.x.give.c.ex) ∧ w'.cell? ⟨ty, 12, none⟩ = some (.bool oy.x.give.a.neg) ∧ w'.cell? ⟨ty, 13, none⟩ = some (.slice oy.X3 oy.x.give.a.ls.length oy.c3) ∧ w'.cell? ⟨ty, 14, none⟩ = some (.int .i64 oy.x.give.a.ex) ∧ w'.cell? ⟨tz, 0, none⟩ = some (.int .i64 oz.x.nu) ∧ w'.cell? ⟨tz, 1, none⟩ = some (.int .i64 oz.x.ep) ∧ w'.cell? ⟨tz, 2, none⟩ = some (.int .i64 oz.x.cp) ∧ w'.cell? ⟨tz, 3, none⟩ = some (.bool oz.x.give.s.neg) ∧ w'.cell? ⟨tz, 4, none⟩ = some (.slice oz.X0 oz.x.give.s.ls.length oz.c0) ∧ w'.cell? ⟨tz, 5, none⟩ = some (.int .i64 oz.x.give.s.ex) ∧ w'.cell? ⟨tz, 6, none⟩ = some (.bool oz.x.give.w.neg) ∧ w'.cell? ⟨tz, 7, none⟩ = some (.slice oz.X1 oz.x.give.w.ls.length oz.c1) ∧ w'.cell? ⟨tz, 8, none⟩ = some (.int .i64 oz.x.give.w.ex) ∧ w'.cell? ⟨tz, 9, none⟩ = some (.bool oz.x.give.c.neg) ∧ w'.cell? ⟨tz, 10, none⟩ = some (.slice oz.X2 oz.x.give.c.ls.length oz.c2) ∧ w'.cell? ⟨tz, 11, none⟩ = some (.int .i64 oz.x.give.c.ex) ∧ w'.cell? ⟨tz, 12, none⟩ = some (.bool oz.x.give.a.neg) ∧ w'.cell? ⟨tz, 13, none⟩ = some (.slice oz.X3 oz.x.give.a.ls.length oz.c3) ∧ w'.cell? ⟨tz, 14, none⟩ = some (.int .i64 oz.x.give.a.ex)) (by kernel_rfl) (SS _ (by (repeat first | with_reducible assumption | with_reducible exact Below.refl _ _ | with_reducible refine Below.drew ?_ | (with_reducible refine Below.alloc ?_ (by first | exact Nat.le_refl _ | (simp only [World.size_alloc, World.size_drew, World.size_setCell]; omega) | omega) _)))) (fun hHeld => ?_)
  refine wpAnyH_take (i := 0) (oi := ?o0x1) (v := ?v0x1) ?ho0x1 (by kernel_rfl) (by kernel_rfl) (by kernel_rfl) (fun _ _ _ h => h) (Or.inl ⟨?wn0x1, ?yn0x1⟩) (by assumption) ?rest0x1
  case ho0x1 => (simp only [List.getElem?_toArray, List.getElem?_cons_zero, List.getElem?_cons_succ]; rfl)
  case wn0x1 => rfl
  case yn0x1 => (intro w hSw; (try dsimp only at hSw); go_simp; (try with_reducible rfl))
  (try simp only [Act.put, List.setIfInBounds_toArray, List.set_cons_zero, List.set_cons_succ])
  refine wpAnyH_take (i := 1) (oi := ?o1x1) (v := ?v1x1) ?ho1x1 (by kernel_rfl) (by kernel_rfl) (by kernel_rfl) (fun _ _ _ h => h) (Or.inl ⟨?wn1x1, ?yn1x1⟩) (by assumption) ?rest1x1
  case ho1x1 => (simp only [List.getElem?_toArray, List.getElem?_cons_zero, List.getElem?_cons_succ]; rfl)
  case wn1x1 => rfl
  case yn1x1 => (intro w hSw; (try dsimp only at hSw); go_simp; (try with_reducible rfl))
  (try simp only [Act.put, List.setIfInBounds_toArray, List.set_cons_zero, List.set_cons_succ])
  refine wpAnyH_take (i := 2) (oi := ?o2x1) (v := ?v2x1) ?ho2x1 (by kernel_rfl) (by kernel_rfl) (by kernel_rfl) (fun _ _ _ h => h) (Or.inl ⟨?wn2x1, ?yn2x1⟩) (by assumption) ?rest2x1
  case ho2x1 => (simp only [List.getElem?_toArray, List.getElem?_cons_zero, List.getElem?_cons_succ]; rfl)
  case wn2x1 => rfl
  case yn2x1 => (intro w hSw; (try dsimp only at hSw); go_simp; (try with_reducible rfl))
  (try simp only [Act.put, List.setIfInBounds_toArray, List.set_cons_zero, List.set_cons_succ])
  refine wpAnyH_take (i := 3) (oi := ?o3x1) (v := ?v3x1) ?ho3x1 (by kernel_rfl) (by kernel_rfl) (by kernel_rfl) (fun _ _ _ h => h) (Or.inl ⟨?wn3x1, ?yn3x1⟩) (by assumption) ?rest3x1
  case ho3x1 => (simp only [List.getElem?_toArray, List.getElem?_cons_zero, List.getElem?_cons_succ]; rfl)
  case wn3x1 => rfl
  case yn3x1 => (intro w hSw; (try dsimp only at hSw); go_simp; (try with_reducible rfl))
  (try simp only [Act.put, List.setIfInBounds_toArray, List.set_cons_zero, List.set_cons_succ])
  refine wpAnyH_take (i := 4) (oi := ?o4x1) (v := ?v4x1) ?ho4x1 (by kernel_rfl) (by kernel_rfl) (by kernel_rfl) (fun _ _ _ h => h) (Or.inl ⟨?wn4x1, ?yn4x1⟩) (by assumption) ?rest4x1
  case ho4x1 => (simp only [List.getElem?_toArray, List.getElem?_cons_zero, List.getElem?_cons_succ]; rfl)
  case wn4x1 => rfl
  case yn4x1 => (intro w hSw; (try dsimp only at hSw); go_simp; (try with_reducible rfl))
  (try simp only [Act.put, List.setIfInBounds_toArray, List.set_cons_zero, List.set_cons_succ])
  refine wpAnyH_take (i := 5) (oi := ?o5x1) (v := ?v5x1) ?ho5x1 (by kernel_rfl) (by kernel_rfl) (by kernel_rfl) (fun _ _ _ h => h) (Or.inl ⟨?wn5x1, ?yn5x1⟩) (by assumption) ?rest5x1
  case ho5x1 => (simp only [List.getElem?_toArray, List.getElem?_cons_zero, List.getElem?_cons_succ]; rfl)
  case wn5x1 => rfl
  case yn5x1 => (intro w hSw; (try dsimp only at hSw); go_simp; (try with_reducible rfl))
  (try simp only [Act.put, List.setIfInBounds_toArray, List.set_cons_zero, List.set_cons_succ])
  refine wpAnyH_take (i := 6) (oi := ?o6x1) (v := ?v6x1) ?ho6x1 (by kernel_rfl) (by kernel_rfl) (by kernel_rfl) (fun _ _ _ h => h) (Or.inl ⟨?wn6x1, ?yn6x1⟩) (by assumption) ?rest6x1
  case ho6x1 => (simp only [List.getElem?_toArray, List.getElem?_cons_zero, List.getElem?_cons_succ]; rfl)
  case wn6x1 => rfl
  case yn6x1 => (intro w hSw; (try dsimp only at hSw); go_simp; (try with_reducible rfl))
  (try simp only [Act.put, List.setIfInBounds_toArray, List.set_cons_zero, List.set_cons_succ])
  refine wpAnyH_take (i := 7) (oi := ?o7x1) (v := ?v7x1) ?ho7x1 (by kernel_rfl) (by kernel_rfl) (by kernel_rfl) (fun _ _ _ h => h) (Or.inl ⟨?wn7x1, ?yn7x1⟩) (by assumption) ?rest7x1
  case ho7x1 => (simp only [List.getElem?_toArray, List.getElem?_cons_zero, List.getElem?_cons_succ]; rfl)
  case wn7x1 => rfl
  case yn7x1 => (intro w hSw; (try dsimp only at hSw); go_simp; (try with_reducible rfl))
  (try simp only [Act.put, List.setIfInBounds_toArray, List.set_cons_zero, List.set_cons_succ])
  refine wpAnyH_take (i := 8) (oi := ?o8x1) (v := ?v8x1) ?ho8x1 (by kernel_rfl) (by kernel_rfl) (by kernel_rfl) (fun _ _ _ h => h) (Or.inl ⟨?wn8x1, ?yn8x1⟩) (by assumption) ?rest8x1
  case ho8x1 => (simp only [List.getElem?_toArray, List.getElem?_cons_zero, List.getElem?_cons_succ]; rfl)
  case wn8x1 => rfl
  case yn8x1 => (intro w hSw; (try dsimp only at hSw); go_simp; (try with_reducible rfl))
  (try simp only [Act.put, List.setIfInBounds_toArray, List.set_cons_zero, List.set_cons_succ])
  refine wpAnyH_take (i := 9) (oi := ?o9x1) (v := ?v9x1) ?ho9x1 (by kernel_rfl) (by kernel_rfl) (by kernel_rfl) (fun _ _ _ h => h) (Or.inl ⟨?wn9x1, ?yn9x1⟩) (by assumption) ?rest9x1
  case ho9x1 => (simp only [List.getElem?_toArray, List.getElem?_cons_zero, List.getElem?_cons_succ]; rfl)
  case wn9x1 => rfl
  case yn9x1 => (intro w hSw; (try dsimp only at hSw); go_simp; (try with_reducible rfl))
  (try simp only [Act.put, List.setIfInBounds_toArray, List.set_cons_zero, List.set_cons_succ])
  refine wpAnyH_take (i := 10) (oi := ?o10x1) (v := ?v10x1) ?ho10x1 (by kernel_rfl) (by kernel_rfl) (by kernel_rfl) (fun _ _ _ h => h) (Or.inl ⟨?wn10x1, ?yn10x1⟩) (by assumption) ?rest10x1
  case ho10x1 => (simp only [List.getElem?_toArray, List.getElem?_cons_zero, List.getElem?_cons_succ]; rfl)
  case wn10x1 => rfl
  case yn10x1 => (intro w hSw; (try dsimp only at hSw); go_simp; (try with_reducible rfl))
  (try simp only [Act.put, List.setIfInBounds_toArray, List.set_cons_zero, List.set_cons_succ])
  refine wpAnyH_take (i := 11) (oi := ?o11x1) (v := ?v11x1) ?ho11x1 (by kernel_rfl) (by kernel_rfl) (by kernel_rfl) (fun _ _ _ h => h) (Or.inl ⟨?wn11x1, ?yn11x1⟩) (by assumption) ?rest11x1
  case ho11x1 => (simp only [List.getElem?_toArray, List.getElem?_cons_zero, List.getElem?_cons_succ]; rfl)
  case wn11x1 => rfl
  case yn11x1 => (intro w hSw; (try dsimp only at hSw); go_simp; (try with_reducible rfl))
  (try simp only [Act.put, List.setIfInBounds_toArray, List.set_cons_zero, List.set_cons_succ])
  refine wpAnyH_take (i := 12) (oi := ?o12x1) (v := ?v12x1) ?ho12x1 (by kernel_rfl) (by kernel_rfl) (by kernel_rfl) (fun _ _ _ h => h) (Or.inl ⟨?wn12x1, ?yn12x1⟩) (by assumption) ?rest12x1
  case ho12x1 => (simp only [List.getElem?_toArray, List.getElem?_cons_zero, List.getElem?_cons_succ]; rfl)
  case wn12x1 => rfl
  case yn12x1 => (intro w hSw; (try dsimp only at hSw); go_simp; (try with_reducible rfl))
  (try simp only [Act.put, List.setIfInBounds_toArray, List.set_cons_zero, List.set_cons_succ])
  refine wpAnyH_take (i := 13) (oi := ?o13x1) (v := ?v13x1) ?ho13x1 (by kernel_rfl) (by kernel_rfl) (by kernel_rfl) (fun _ _ _ h => h) (Or.inl ⟨?wn13x1, ?yn13x1⟩) (by assumption) ?rest13x1
  case ho13x1 => (simp only [List.getElem?_toArray, List.getElem?_cons_zero, List.getElem?_cons_succ]; rfl)
  case wn13x1 => rfl
  case yn13x1 => (intro w hSw; (try dsimp only at hSw); go_simp; (try with_reducible rfl))
  (try simp only [Act.put, List.setIfInBounds_toArray, List.set_cons_zero, List.set_cons_succ])
  refine wpAnyH_ready (rs := [14]) (by kernel_rfl) (by simp) ?_
  refine AllReadyH.cons (o := ?o14x1) ?ho14x1 (fun K hK => ?rest14x1) AllReadyH.nil
  case ho14x1 => (simp only [List.getElem?_toArray, List.getElem?_cons_zero, List.getElem?_cons_succ]; rfl)
  go_simp
  with_reducible refine (nx _ (by (repeat first | with_reducible assumption | with_reducible exact Below.refl _ _ | with_reducible refine Below.drew ?_ | (with_reducible refine Below.alloc ?_ (by first | exact Nat.le_refl _ | (simp only [World.size_alloc, World.size_drew, World.size_setCell]; omega) | omega) _)))).mono ?_
  rintro en vA ⟨rfl, hvA⟩
  have hvA2 : Below y6.heap.size y6 vA := Below.trans (by (repeat first | with_reducible assumption | with_reducible exact Below.refl _ _ | with_reducible refine Below.drew ?_ | (with_reducible refine Below.alloc ?_ (by first | exact Nat.le_refl _ | (simp only [World.size_alloc, World.size_drew, World.size_setCell]; omega) | omega) _))) (hvA.mono (by first | exact Nat.le_refl _ | (simp only [World.size_alloc, World.size_drew, World.size_setCell]; omega) | omega))
  have svA : y6.heap.size ≤ vA.heap.size := hvA2.size
  refine hK.out _ _ (SS _ (by (repeat first | with_reducible assumption | with_reducible exact Below.refl _ _ | with_reducible refine Below.drew ?_ | (with_reducible refine Below.alloc ?_ (by first | exact Nat.le_refl _ | (simp only [World.size_alloc, World.size_drew, World.size_setCell]; omega) | omega) _)))) (fun hHeld => ?_)
  clear hK K
  (try simp only [Act.put, List.setIfInBounds_toArray, List.set_cons_zero, List.set_cons_succ])
  refine wpAnyH_take (i := 15) (oi := ?o15x1) (v := ?v15x1) ?ho15x1 (by kernel_rfl) (by kernel_rfl) (by kernel_rfl) (fun _ _ _ h => h) (Or.inl ⟨?wn15x1, ?yn15x1⟩) (by assumption) ?rest15x1
  case ho15x1 => (simp only [List.getElem?_toArray, List.getElem?_cons_zero, List.getElem?_cons_succ]; rfl)
  case wn15x1 => rfl
  case yn15x1 => (intro w hSw; (try dsimp only at hSw); go_simp; (try with_reducible rfl))
  (try simp only [Act.put, List.setIfInBounds_toArray, List.set_cons_zero, List.set_cons_succ])
  refine wpAnyH_take (i := 16) (oi := ?o16x1) (v := ?v16x1) ?ho16x1 (by kernel_rfl) (by kernel_rfl) (by kernel_rfl) (fun _ _ _ h => h) (Or.inl ⟨?wn16x1, ?yn16x1⟩) (by assumption) ?rest16x1
  case ho16x1 => (simp only [List.getElem?_toArray, List.getElem?_cons_zero, List.getElem?_cons_succ]; rfl)
  case wn16x1 => rfl
  case yn16x1 => (intro w hSw; (try dsimp only at hSw); go_simp; (try with_reducible rfl))
  (try simp only [Act.put, List.setIfInBounds_toArray, List.set_cons_zero, List.set_cons_succ])
  refine wpAnyH_take (i := 17) (oi := ?o17x1) (v := ?v17x1) ?ho17x1 (by kernel_rfl) (by kernel_rfl) (by kernel_rfl) (fun _ _ _ h => h) (Or.inl ⟨?wn17x1, ?yn17x1⟩) (by assumption) ?rest17x1
  case ho17x1 => (simp only [List.getElem?_toArray, List.getElem?_cons_zero, List.getElem?_cons_succ]; rfl)
  case wn17x1 => rfl
  case yn17x1 => (intro w hSw; (try dsimp only at hSw); go_simp; (try with_reducible rfl))
  (try simp only [Act.put, List.setIfInBounds_toArray, List.set_cons_zero, List.set_cons_succ])
  refine wpAnyH_take (i := 18) (oi := ?o18x1) (v := ?v18x1) ?ho18x1 (by kernel_rfl) (by kernel_rfl) (by kernel_rfl) (fun _ _ _ h => h) (Or.inl ⟨?wn18x1, ?yn18x1⟩) (by assumption) ?rest18x1
  case ho18x1 => (simp only [List.getElem?_toArray, List.getElem?_cons_zero, List.getElem?_cons_succ]; rfl)
  case wn18x1 => rfl
  case yn18x1 => (intro w hSw; (try dsimp only at hSw); go_simp; (try with_reducible rfl))
  (try simp only [Act.put, List.setIfInBounds_toArray, List.set_cons_zero, List.set_cons_succ])
  refine wpAnyH_take (i := 19) (oi := ?o19x1) (v := ?v19x1) ?ho19x1 (by kernel_rfl) (by kernel_rfl) (by kernel_rfl) (fun _ _ _ h => h) (Or.inl ⟨?wn19x1, ?yn19x1⟩) (by assumption) ?rest19x1
  case ho19x1 => (simp only [List.getElem?_toArray, List.getElem?_cons_zero, List.getElem?_cons_succ]; rfl)
  case wn19x1 => rfl
  case yn19x1 => (intro w hSw; (try dsimp only at hSw); go_simp; (try with_reducible rfl))
  (try simp only [Act.put, List.setIfInBounds_toArray, List.set_cons_zero, List.set_cons_succ])
  refine wpAnyH_take (i := 20) (oi := ?o20x1) (v := ?v20x1) ?ho20x1 (by kernel_rfl) (by kernel_rfl) (by kernel_rfl) (fun _ _ _ h => h) (Or.inl ⟨?wn20x1, ?yn20x1⟩) (by assumption) ?rest20x1
  case ho20x1 => (simp only [List.getElem?_toArray, List.getElem?_cons_zero, List.getElem?_cons_succ]; rfl)
  case wn20x1 => rfl
  case yn20x1 => (intro w hSw; (try dsimp only at hSw); go_simp; (try with_reducible rfl))
  (try simp only [Act.put, List.setIfInBounds_toArray, List.set_cons_zero, List.set_cons_succ])
  refine wpAnyH_take (i := 21) (oi := ?o21x1) (v := ?v21x1) ?ho21x1 (by kernel_rfl) (by kernel_rfl) (by kernel_rfl) (fun _ _ _ h => h) (Or.inl ⟨?wn21x1, ?yn21x1⟩) (by assumption) ?rest21x1
  case ho21x1 => (simp only [List.getElem?_toArray, List.getElem?_cons_zero, List.getElem?_cons_succ]; rfl)
  case wn21x1 => rfl
  case yn21x1 => (intro w hSw; (try dsimp only at hSw); go_simp; (try with_reducible rfl))
  (try simp only [Act.put, List.setIfInBounds_toArray, List.set_cons_zero, List.set_cons_succ])
  refine wpAnyH_take (i := 22) (oi := ?o22x1) (v := ?v22x1) ?ho22x1 (by kernel_rfl) (by kernel_rfl) (by kernel_rfl) (fun _ _ _ h => h) (Or.inl ⟨?wn22x1, ?yn22x1⟩) (by assumption) ?rest22x1
  case ho22x1 => (simp only [List.getElem?_toArray, List.getElem?_cons_zero, List.getElem?_cons_succ]; rfl)
  case wn22x1 => rfl
  case yn22x1 => (intro w hSw; (try dsimp only at hSw); go_simp; (try with_reducible rfl))
  (try simp only [Act.put, List.setIfInBounds_toArray, List.set_cons_zero, List.set_cons_succ])
  refine wpAnyH_take (i := 23) (oi := ?o23x1) (v := ?v23x1) ?ho23x1 (by kernel_rfl) (by kernel_rfl) (by kernel_rfl) (fun _ _ _ h => h) (Or.inl ⟨?wn23x1, ?yn23x1⟩) (by assumption) ?rest23x1
  case ho23x1 => (simp only [List.getElem?_toArray, List.getElem?_cons_zero, List.getElem?_cons_succ]; rfl)
  case wn23x1 => rfl
  case yn23x1 => (intro w hSw; (try dsimp only at hSw); go_simp; (try with_reducible rfl))
  (try simp only [Act.put, List.setIfInBounds_toArray, List.set_cons_zero, List.set_cons_succ])
  refine wpAnyH_ready (rs := [24]) (by kernel_rfl) (by simp) ?_
  refine AllReadyH.cons (o := ?o24x1) ?ho24x1 (fun K hK => ?rest24x1) AllReadyH.nil
  case ho24x1 => (simp only [List.getElem?_toArray, List.getElem?_cons_zero, List.getElem?_cons_succ]; rfl)
  go_simp
  with_reducible refine (six_any _).mono ?_
  rintro en vB ⟨om2, rfl, em2, hom2, hvB⟩
  have hvB2 : Below y6.heap.size y6 vB := Below.trans (by (repeat first | with_reducible assumption | with_reducible exact Below.refl _ _ | with_reducible refine Below.drew ?_ | (with_reducible refine Below.alloc ?_ (by first | exact Nat.le_refl _ | (simp only [World.size_alloc, World.size_drew, World.size_setCell]; omega) | omega) _))) (hvB.mono (by first | exact Nat.le_refl _ | (simp only [World.size_alloc, World.size_drew, World.size_setCell]; omega) | omega))
  have svB : y6.heap.size ≤ vB.heap.size := hvB2.size
  have gem2 := Lib.hid em2
  have ghom2 := Lib.hid hom2
  clear em2 hom2
  refine hK.out _ _ (SS _ (by (repeat first | with_reducible assumption | with_reducible exact Below.refl _ _ | with_reducible refine Below.drew ?_ | (with_reducible refine Below.alloc ?_ (by first | exact Nat.le_refl _ | (simp only [World.size_alloc, World.size_drew, World.size_setCell]; omega) | omega) _)))) (fun hHeld => ?_)
  clear hK K
  (try simp only [Act.put, List.setIfInBounds_toArray, List.set_cons_zero, List.set_cons_succ])
  refine wpAnyH_ready (rs := [25]) (by kernel_rfl) (by simp) ?_
  refine AllReadyH.cons (o := ?o25x1) ?ho25x1 (fun K hK => ?rest25x1) AllReadyH.nil
  case ho25x1 => (simp only [List.getElem?_toArray, List.getElem?_cons_zero, List.getElem?_cons_succ]; rfl)
  go_simp
  with_reducible refine (ny _ om2 _ (by (repeat first | with_reducible assumption | with_reducible exact Below.refl _ _ | with_reducible refine Below.drew ?_ | (with_reducible refine Below.alloc ?_ (by first | exact Nat.le_refl _ | (simp only [World.size_alloc, World.size_drew, World.size_setCell]; omega) | omega) _))) ghom2.out gem2.out).mono ?_
  rintro en vC ⟨rfl, hvC⟩
  have hvC2 : Below y6.heap.size y6 vC := Below.trans (by (repeat first | with_reducible assumption | with_reducible exact Below.refl _ _ | with_reducible refine Below.drew ?_ | (with_reducible refine Below.alloc ?_ (by first | exact Nat.le_refl _ | (simp only [World.size_alloc, World.size_drew, World.size_setCell]; omega) | omega) _))) (hvC.mono (by first | exact Nat.le_refl _ | (simp only [World.size_alloc, World.size_drew, World.size_setCell]; omega) | omega))
  have svC : y6.heap.size ≤ vC.heap.size := hvC2.size
  refine hK.out _ _ (SS _ (by (repeat first | with_reducible assumption | with_reducible exact Below.refl _ _ | with_reducible refine Below.drew ?_ | (with_reducible refine Below.alloc ?_ (by first | exact Nat.le_refl _ | (simp only [World.size_alloc, World.size_drew, World.size_setCell]; omega) | omega) _)))) (fun hHeld => ?_)
  clear hK K
  (try simp only [Act.put, List.setIfInBounds_toArray, List.set_cons_zero, List.set_cons_succ])
  refine wpAnyH_take (i := 26) (oi := ?o26x1) (v := ?v26x1) ?ho26x1 (by kernel_rfl) (by kernel_rfl) (by kernel_rfl) (fun _ _ _ h => h) (Or.inl ⟨?wn26x1, ?yn26x1⟩) (by assumption) ?rest26x1
  case ho26x1 => (simp only [List.getElem?_toArray, List.getElem?_cons_zero, List.getElem?_cons_succ]; rfl)
  case wn26x1 => rfl
  case yn26x1 => (intro w hSw; (try dsimp only at hSw); go_simp; (try with_reducible rfl))
  (try simp only [Act.put, List.setIfInBounds_toArray, List.set_cons_zero, List.set_cons_succ])
  refine wpAnyH_take (i := 27) (oi := ?o27x1) (v := ?v27x1) ?ho27x1 (by kernel_rfl) (by kernel_rfl) (by kernel_rfl) (fun _ _ _ h => h) (Or.inl ⟨?wn27x1, ?yn27x1⟩) (by assumption) ?rest27x1
  case ho27x1 => (simp only [List.getElem?_toArray, List.getElem?_cons_zero, List.getElem?_cons_succ]; rfl)
  case wn27x1 => rfl
  case yn27x1 => (intro w hSw; (try dsimp only at hSw); go_simp; (try with_reducible rfl))
  (try simp only [Act.put, List.setIfInBounds_toArray, List.set_cons_zero, List.set_cons_succ])
  refine wpAnyH_take (i := 28) (oi := ?o28x1) (v := ?v28x1) ?ho28x1 (by kernel_rfl) (by kernel_rfl) (by kernel_rfl) (fun _ _ _ h => h) (Or.inl ⟨?wn28x1, ?yn28x1⟩) (by assumption) ?rest28x1
  case ho28x1 => (simp only [List.getElem?_toArray, List.getElem?_cons_zero, List.getElem?_cons_succ]; rfl)
  case wn28x1 => rfl
  case yn28x1 => (intro w hSw; (try dsimp only at hSw); go_simp; (try with_reducible rfl))
  (try simp only [Act.put, List.setIfInBounds_toArray, List.set_cons_zero, List.set_cons_succ])
  refine wpAnyH_ready (rs := [29]) (by kernel_rfl) (by simp) ?_
  refine AllReadyH.cons (o := ?o29x1) ?ho29x1 (fun K hK => ?rest29x1) AllReadyH.nil
  case ho29x1 => (simp only [List.getElem?_toArray, List.getElem?_cons_zero, List.getElem?_cons_succ]; rfl)
  go_simp
  with_reducible refine (nz _ (by (repeat first | with_reducible assumption | with_reducible exact Below.refl _ _ | with_reducible refine Below.drew ?_ | (with_reducible refine Below.alloc ?_ (by first | exact Nat.le_refl _ | (simp only [World.size_alloc, World.size_drew, World.size_setCell]; omega) | omega) _)))).mono ?_
  rintro en vD ⟨rfl, hvD⟩
  have hvD2 : Below y6.heap.size y6 vD := Below.trans (by (repeat first | with_reducible assumption | with_reducible exact Below.refl _ _ | with_reducible refine Below.drew ?_ | (with_reducible refine Below.alloc ?_ (by first | exact Nat.le_refl _ | (simp only [World.size_alloc, World.size_drew, World.size_setCell]; omega) | omega) _))) (hvD.mono (by first | exact Nat.le_refl _ | (simp only [World.size_alloc, World.size_drew, World.size_setCell]; omega) | omega))
  have svD : y6.heap.size ≤ vD.heap.size := hvD2.size
  refine hK.out _ _ (SS _ (by (repeat first | with_reducible assumption | with_reducible exact Below.refl _ _ | with_reducible refine Below.drew ?_ | (with_reducible refine Below.alloc ?_ (by first | exact Nat.le_refl _ | (simp only [World.size_alloc, World.size_drew, World.size_setCell]; omega) | omega) _)))) (fun hHeld => ?_)
  clear hK K
  (try simp only [Act.put, List.setIfInBounds_toArray, List.set_cons_zero, List.set_cons_succ])
  refine wpAnyH_take (i := 30) (oi := ?o30x1) (v := ?v30x1) ?ho30x1 (by kernel_rfl) (by kernel_rfl) (by kernel_rfl) (fun _ _ _ h => h) (Or.inl ⟨?wn30x1, ?yn30x1⟩) (by assumption) ?rest30x1
  case ho30x1 => (simp only [List.getElem?_toArray, List.getElem?_cons_zero, List.getElem?_cons_succ]; rfl)
  case wn30x1 => rfl
  case yn30x1 => (intro w hSw; (try dsimp only at hSw); go_simp; (try with_reducible rfl))
  (try simp only [Act.put, List.setIfInBounds_toArray, List.set_cons_zero, List.set_cons_succ])
  refine wpAnyH_take (i := 31) (oi := ?o31x1) (v := ?v31x1) ?ho31x1 (by kernel_rfl) (by kernel_rfl) (by kernel_rfl) (fun _ _ _ h => h) (Or.inl ⟨?wn31x1, ?yn31x1⟩) (by assumption) ?rest31x1
  case ho31x1 => (simp only [List.getElem?_toArray, List.getElem?_cons_zero, List.getElem?_cons_succ]; rfl)
  case wn31x1 => rfl
  case yn31x1 => (intro w hSw; (try dsimp only at hSw); go_simp; (try with_reducible rfl))
  (try simp only [Act.put, List.setIfInBounds_toArray, List.set_cons_zero, List.set_cons_succ])
  refine wpAnyH_done (by kernel_rfl) ?_ _
  refine NoPanic.normal ?_
  have gB9 := gB.out.trans (hvD2.mono gB.out.size)
  clear SS nx nz ny
  go_wp2
  go_ret
  exact ⟨rfl, gB9⟩
end Go.Proofs.YtdmjdpaehnhdoaaDoor
