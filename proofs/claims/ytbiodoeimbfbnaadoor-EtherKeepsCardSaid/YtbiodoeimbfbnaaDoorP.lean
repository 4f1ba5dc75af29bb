/- Ether: the statements' own words: a copy of a Number, Numbers of copies, the chapter's examples. -/
import Derived.Test.YtbiodoeimbfbnaaDoorO
import Derived.Deep.QuietTactic
import Derived.BigQuiet
namespace Go.Proofs.YtbiodoeimbfbnaaDoor
open Go.ChangeShapes Go.WideShapes Go.ChangeAt Go.RowKit
set_option linter.unusedSimpArgs false
set_option linter.unusedVariables false
theorem one_any (k : Int) (w : World) : Calls Tryd.prog 14 #[.int .i64 k] w fun en w' => ∃ X, en = .returned (.agg #[.int .i64 k, .int .i64 1, .slice X 2 2, .bool false]) ∧ Reads w' w'.heap.size 1 X 2 (ints .u8 [1, 2]) ∧ Below w.heap.size w w' := by
  have hb := ((Below.refl w.heap.size w).alloc (Nat.le_refl _) (.cells #[.int .i64 k, .int .i64 1, .slice (some ⟨w.heap.size + 1, 0, none⟩) 2 2, .bool false] 37)).alloc (by simp) (.cells #[.int .u8 1, .int .u8 2] 5)
  have kb := (Blk.new w 37 #[.int .i64 k, .int .i64 1, .slice (some ⟨w.heap.size + 1, 0, none⟩) 2 2, .bool false]).alloc (.cells #[.int .u8 1, .int .u8 2] 5)
  have ku := Blk.new (w.alloc (.cells #[.int .i64 k, .int .i64 1, .slice (some ⟨w.heap.size + 1, 0, none⟩) 2 2, .bool false] 37)) 5 #[.int .u8 1, .int .u8 2]
  rw [World.size_alloc] at ku
  have q0 := kb.cell 0
  have q1 := kb.cell 1
  have q2 := kb.cell 2
  have q3 := kb.cell 3
  simp only [List.getElem?_toArray, List.getElem?_cons_zero, List.getElem?_cons_succ] at q0 q1 q2 q3
  have hr : Reads ((w.alloc (.cells #[.int .i64 k, .int .i64 1, .slice (some ⟨w.heap.size + 1, 0, none⟩) 2 2, .bool false] 37)).alloc (.cells #[.int .u8 1, .int .u8 2] 5)) _ 1 (some ⟨w.heap.size + 1, 0, none⟩) 2 (ints .u8 [1, 2]) :=
    OwnR.reads (base := 0) (e := 5) ⟨rfl, fun _ => ⟨_, _, rfl, Nat.zero_le _, ku, rfl⟩⟩
  clear kb ku
  go_enter Tryd.func14, Tryd.ntmps14
  go_wp2
  refine ⟨rfl, .agg #[.int .i64 k, .int .i64 1, .slice (some ⟨w.heap.size + 1, 0, none⟩) 2 2, .bool false], ?_, _, rfl, hr, hb⟩
  simp [results, Tryd.f14, go_sem, q0, q1, q2, q3]
set_option maxHeartbeats 4000000 in
theorem numbers_any (A A2 : Option Addr) (n c c2 : Nat) (l : List Cp) (zs : List Int) (hm : n ≤ 1000) (hz : l.map (·.num) = zs) (w : World) (h1 : Cps w w.heap.size A n l) (h2 : Reads w w.heap.size 1 A2 n (zs.map (Value.int .i64))) :
    Calls Tryd.prog 30 #[.slice A n c, .slice A2 n c2] w fun en w' => en = .returned (.bool true) ∧ Below w.heap.size w w' := by
  have gz := Lib.hid hz
  have hb0 := Below.refl w.heap.size w
  clear hz
  go_enter Tryd.func30, Tryd.ntmps30
  go_wp2
  go_loopw [5] (fun t wr => ∃ k : Nat, k ≤ n ∧ t = .int .i64 (k : Int) ∧ Below w.heap.size w wr) (fun t _ => n - (intOf t).toNat)
  case atStart => exact ⟨0, Nat.zero_le _, rfl, hb0⟩
  case round =>
    obtain ⟨k, hk, rfl, hb⟩ := hrel
    by_cases hlt : k < n
    · obtain ⟨ad, num, dn, txt, sp, X, m, d, rfl, hb1, hl1, hx1, hxd1, hrel1⟩ := cps_rel h1 hlt
      obtain ⟨a0, a1, a2, a3⟩ := (hrel1 wr hb).2
      obtain ⟨ad2, u, rfl, hb2, hu, hc⟩ := h2.at_ hlt
      have hu' : u = .int .i64 num := by
        rw [List.getElem?_map, ← gz.out, List.getElem?_map, hl1] at hu
        simpa using hu.symm
      subst hu'
      have c2' : wr.cell? (ad2.add k) = some (.int .i64 num) := (hb.cell (p := ad2.add k) (by rw [block_of_add]; exact hb2)).trans hc
      have i1 : (0 : Int) ≤ k := by omega
      have i2 : (k : Int) < n := by omega
      clear hl1 hx1 hrel1 hu hc h1 h2
      go_wp2
      go_quiet (fail)
      go_wp2
      go_roundw
      case rel => exact ⟨k + 1, by omega, by go_num, below_drewN hb _⟩
      case measure => simp [intOf] <;> omega
    · obtain rfl : k = n := by omega
      clear h1 h2
      go_wp2
      go_ret
      exact ⟨rfl, hb⟩
set_option maxRecDepth 100000 in
set_option maxHeartbeats 8000000 in
theorem alive_any (w : World) (hT : Tab w) : Calls Tryd.prog 17 #[] w fun en w' => en = .returned (.bool true) ∧ Below w.heap.size w w' := by
  have hb0 := Below.refl w.heap.size w
  go_enter Tryd.func17, Tryd.ntmps17
  go_wp2_with fail
  refine (one_any 3 w).mono ?_
  rintro en v1 ⟨X1, rfl, r1, hb⟩
  replace hb0 := hb0.trans (hb.mono hb0.size)
  replace hT := hT.below hb hT.2
  clear hb
  go_wp2_with fail
  obtain ⟨V1, hV1⟩ : ∃ V, V = v1.alloc (.cells #[.int .i64 3, .int .i64 1, .slice X1 2 2, .bool false] 37) := ⟨_, rfl⟩
  have o1 := one_cps (m := 2) (d := 2) (num := 3) (dn := 1) (txt := [1, 2]) (sp := false) rfl (Nat.le_refl 2) r1
  have hb : Below v1.heap.size v1 V1 := by rw [hV1]; exact (Below.refl _ _).alloc (Nat.le_refl _) _
  have sz : V1.heap.size = v1.heap.size + 1 := by rw [hV1, World.size_alloc]
  rw [← hV1, ← sz] at o1
  rw [← hV1]
  replace hb0 := hb0.trans (hb.mono hb0.size)
  replace hT := hT.below hb hT.2
  clear hb hV1 sz r1
  refine (one_any 4 V1).mono ?_
  rintro en v2 ⟨X2, rfl, r2, hb⟩
  replace hb0 := hb0.trans (hb.mono hb0.size)
  replace hT := hT.below hb hT.2
  replace o1 := (o1.below hb).more hb.size
  clear hb
  go_wp2_with fail
  refine (send_any _ 1 1 [⟨3, 1, [1, 2], false⟩] (by omega) 4 1 [1, 2] false X2 2 2 rfl (Nat.le_refl 2) v2 o1 r2).mono ?_
  rw [show sndS [⟨3, 1, [1, 2], false⟩] ⟨4, 1, [1, 2], false⟩ = ([⟨3, 1, [1, 2], false⟩, ⟨4, 1, [1, 2], false⟩], 0) by decide]
  rintro en v3 ⟨Al, cl, rfl, hcl, ol, _, hb⟩
  simp only [List.length_cons, List.length_nil, Nat.reduceAdd] at hcl ol ⊢
  replace hb0 := hb0.trans (hb.mono hb0.size)
  replace hT := hT.below hb hT.2
  clear hb o1 r2
  go_wp2_with fail
  refine (double_any Al 2 cl [⟨3, 1, [1, 2], false⟩, ⟨4, 1, [1, 2], false⟩] (by omega) 0 v3 ol).mono ?_
  rw [show dblS [⟨3, 1, [1, 2], false⟩, ⟨4, 1, [1, 2], false⟩] 0 = ([⟨3, 1, [1, 2], false⟩, ⟨4, 1, [1, 2], false⟩, ⟨3, 1, [1, 2], false⟩], 0) by decide]
  rintro en v4 ⟨Ad, cd, rfl, hcd, od, _, hb⟩
  simp only [List.length_cons, List.length_nil, Nat.reduceAdd] at hcd od ⊢
  replace hb0 := hb0.trans (hb.mono hb0.size)
  replace hT := hT.below hb hT.2
  replace ol := (ol.below hb).more hb.size
  clear hb
  go_wp2_with fail
  refine (take_any Ad 3 cd [⟨3, 1, [1, 2], false⟩, ⟨4, 1, [1, 2], false⟩, ⟨3, 1, [1, 2], false⟩] (by omega) hcd 0 v4 od).mono ?_
  rw [show tkS [⟨3, 1, [1, 2], false⟩, ⟨4, 1, [1, 2], false⟩, ⟨3, 1, [1, 2], false⟩] 0 = ([⟨4, 1, [1, 2], false⟩, ⟨3, 1, [1, 2], false⟩], ⟨3, 1, [1, 2], false⟩, 0) by decide]
  rintro en v5 ⟨At, ct, Xc, mc, dc, K, rfl, hct, ot, hmc, hdc, rc, _, _, _, _, hb⟩
  simp only [List.length_cons, List.length_nil, Nat.reduceAdd] at hct ot hmc ⊢
  subst hmc
  replace hb0 := hb0.trans (hb.mono hb0.size)
  replace hT := hT.below hb hT.2
  replace ol := (ol.below hb).more hb.size
  replace od := (od.below hb).more hb.size
  clear hb rc
  go_wp2_with fail
  obtain ⟨V5, hV5⟩ : ∃ V, V = v5.alloc (.cells #[.int .i64 3, .int .i64 1, .slice Xc 2 dc, .bool false] 37) := ⟨_, rfl⟩
  have kc := Blk.new v5 37 #[.int .i64 3, .int .i64 1, .slice Xc 2 dc, .bool false]
  have hb : Below v5.heap.size v5 V5 := by rw [hV5]; exact (Below.refl _ _).alloc (Nat.le_refl _) _
  rw [← hV5] at kc ⊢
  replace hb0 := hb0.trans (hb.mono hb0.size)
  replace hT := hT.below hb hT.2
  replace ol := (ol.below hb).more hb.size
  replace od := (od.below hb).more hb.size
  replace ot := (ot.below hb).more hb.size
  clear hb hV5
  refine (pspoil_any Al 2 cl [⟨3, 1, [1, 2], false⟩, ⟨4, 1, [1, 2], false⟩] 6 (by omega) (by omega) (by decide) V5 hT ol 0 6).mono ?_
  rw [show splS [⟨3, 1, [1, 2], false⟩, ⟨4, 1, [1, 2], false⟩] 0 6 6 = ([⟨3, 1, [129, 3], true⟩, ⟨4, 1, [1, 2], false⟩], 0) by decide]
  rintro en v6 ⟨As, cs, rfl, hcs, os, _, hb⟩
  simp only [List.length_cons, List.length_nil, Nat.reduceAdd] at hcs os ⊢
  replace hb0 := hb0.trans (hb.mono hb0.size)
  replace od := (od.below hb).more hb.size
  replace ot := (ot.below hb).more hb.size
  replace kc := kc.below hb kc.lt
  clear hb hT ol
  go_wp2_with fail
  obtain ⟨V6, hV6⟩ : ∃ V, V = v6.alloc (.cells #[.int .i64 3, .int .i64 4, .int .i64 3] 3) := ⟨_, rfl⟩
  have rl := reads_new v6 [Value.int .i64 3, Value.int .i64 4, Value.int .i64 3] 3 3 rfl
  have hb : Below v6.heap.size v6 V6 := by rw [hV6]; exact (Below.refl _ _).alloc (Nat.le_refl _) _
  have sz : V6.heap.size = v6.heap.size + 1 := by rw [hV6, World.size_alloc]
  have rl2 : Reads V6 V6.heap.size 1 (some ⟨v6.heap.size, 0, none⟩) 3 ([(3 : Int), (4 : Int), (3 : Int)].map (Value.int .i64)) := by rw [sz, hV6]; exact rl
  rw [← hV6]
  replace hb0 := hb0.trans (hb.mono hb0.size)
  replace kc := kc.below hb kc.lt
  replace od := (od.below hb).more hb.size
  replace ot := (ot.below hb).more hb.size
  replace os := (os.below hb).more hb.size
  clear hb hV6 sz rl
  refine (numbers_any Ad _ 3 cd 3 [⟨3, 1, [1, 2], false⟩, ⟨4, 1, [1, 2], false⟩, ⟨3, 1, [1, 2], false⟩] [3, 4, 3] (by omega) rfl V6 od rl2).mono ?_
  rintro en v7 ⟨rfl, hb⟩
  replace hb0 := hb0.trans (hb.mono hb0.size)
  replace kc := kc.below hb kc.lt
  replace ot := (ot.below hb).more hb.size
  replace os := (os.below hb).more hb.size
  clear hb rl2 od
  go_wp2_with fail
  obtain ⟨V7, hV7⟩ : ∃ V, V = v7.alloc (.cells #[.int .i64 4, .int .i64 3] 3) := ⟨_, rfl⟩
  have rl := reads_new v7 [Value.int .i64 4, Value.int .i64 3] 3 2 rfl
  have hb : Below v7.heap.size v7 V7 := by rw [hV7]; exact (Below.refl _ _).alloc (Nat.le_refl _) _
  have sz : V7.heap.size = v7.heap.size + 1 := by rw [hV7, World.size_alloc]
  have rl2 : Reads V7 V7.heap.size 1 (some ⟨v7.heap.size, 0, none⟩) 2 ([(4 : Int), (3 : Int)].map (Value.int .i64)) := by rw [sz, hV7]; exact rl
  rw [← hV7]
  replace hb0 := hb0.trans (hb.mono hb0.size)
  replace kc := kc.below hb kc.lt
  replace ot := (ot.below hb).more hb.size
  replace os := (os.below hb).more hb.size
  clear hb hV7 sz rl
  refine (numbers_any At _ 2 ct 2 [⟨4, 1, [1, 2], false⟩, ⟨3, 1, [1, 2], false⟩] [4, 3] (by omega) rfl V7 ot rl2).mono ?_
  rintro en v8 ⟨rfl, hb⟩
  replace hb0 := hb0.trans (hb.mono hb0.size)
  replace kc := kc.below hb kc.lt
  replace os := (os.below hb).more hb.size
  clear hb rl2 ot
  obtain ⟨ads, num0, dn0, txt0, sp0, Xs, ms, ds, rfl, ha0, hl0, hx0, hxd0, hr0⟩ := cps_rel os (show 0 < 2 by omega)
  injection hl0 with hl0
  injection hl0 with e1 e2 e3 e4
  subst e1 e2 e3 e4
  obtain ⟨ads1, num1, dn1, txt1, sp1, Xs1, ms1, ds1, e0, ha1, hl1, hx1, hxd1, hr1⟩ := cps_rel os (show 1 < 2 by omega)
  injection hl1 with hl1
  injection hl1 with e1 e2 e3 e4
  subst e1 e2 e3 e4
  injection e0 with e0
  subst e0
  obtain rfl : ms = 2 := hx0.symm
  obtain ⟨rt, s0, s1, s2, s3⟩ := hr0 v8 (Below.refl _ _)
  obtain ⟨_, _, _, _, s13⟩ := hr1 v8 (Below.refl _ _)
  have s2' : v8.cell? ⟨ads.block, ads.off + 2, none⟩ = some (.slice Xs 2 ds) := s2
  have s3' : v8.cell? ⟨ads.block, ads.off + 3, none⟩ = some (.bool true) := s3
  have s13' : v8.cell? ⟨ads.block, ads.off + 4 + 3, none⟩ = some (.bool false) := by simpa [Addr.add] using s13
  have s13'' : v8.cell? ⟨ads.block, ads.off + 7, none⟩ = some (.bool false) := s13'
  clear s0 s1 s2 s3 hr0 hr1 os
  have cv := conv_str (c := ds) (l := [129, 3]) (n := 2) rfl (by decide) rt
  have kc0 := kc.cell 0
  simp only [List.getElem?_toArray, List.getElem?_cons_zero] at kc0
  have hsl : (strN [129, 3]).toList = [129, 3] := by kernel_rfl
  go_wp2
  go_ret
  exact ⟨rfl, hb0⟩
end Go.Proofs.YtbiodoeimbfbnaaDoor
