/- Mail: mail.Read: kind 1 -/
import Derived.Test.YtjmhefkmpfkpbaaPXR
namespace Go.Proofs.Ytjmhefkmpfkpbaa
open Go.ChangeShapes Go.WideShapes Go.ChangeAt Go.RowKit
set_option linter.unusedSimpArgs false
set_option linter.unusedVariables false
set_option maxRecDepth 100000 in
set_option maxHeartbeats 32000000 in
theorem read1 (v : Value) (cN : List Nat) (hcl : ∀ b ∈ cN, b < 256) (hcm : cN.length ≤ 100000) (w : World) 
    (hcall : ∀ V, Below w.heap.size w V → Calls Try.prog 23 #[v] V fun en w' => (∃ A n c, en = .returned (.tuple #[.int .u8 1, .slice A n c, .int .i64 0]) ∧ n = cN.length ∧ n ≤ c ∧ Reads w' w'.heap.size 1 A n (bytes cN)) ∧ Below V.heap.size V w') :
    Calls Try.prog 14 #[v] w (RdP 1 (cN.map Int.ofNat) w) := by
  obtain ⟨V, hV⟩ : ∃ V, V = w.alloc (.cells #[.int .u8 0, .int .i64 0, .int .i64 0, .int .i64 0, .int .i64 0, .int .i64 0, .bool false, .slice none 0 0, .int .i64 0, .bool false, .slice none 0 0, .int .i64 0, .bool false, .slice none 0 0, .int .i64 0, .bool false, .slice none 0 0, .int .i64 0, .bool false, .slice none 0 0, .bool false, .int .i64 0, .int .i64 0, .slice none 0 0] 31) := ⟨_, rfl⟩
  have hB : Below w.heap.size w V := by rw [hV]; exact (Below.refl _ _).alloc (Nat.le_refl _) _
  have kz : Blk V w.heap.size 31 #[.int .u8 0, .int .i64 0, .int .i64 0, .int .i64 0, .int .i64 0, .int .i64 0, .bool false, .slice none 0 0, .int .i64 0, .bool false, .slice none 0 0, .int .i64 0, .bool false, .slice none 0 0, .int .i64 0, .bool false, .slice none 0 0, .int .i64 0, .bool false, .slice none 0 0, .bool false, .int .i64 0, .int .i64 0, .slice none 0 0] := by rw [hV]; exact Blk.new _ _ _
  have hc := hcall V hB
  have hcb : ∀ b ∈ cN.map Int.ofNat, 0 ≤ b ∧ b < 256 := fun b hb => by
    obtain ⟨x, hx, rfl⟩ := List.mem_map.1 hb
    have := hcl x hx
    exact ⟨Int.natCast_nonneg x, by show (x : Int) < 256; omega⟩
  clear hcall
  go_enter Try.func14, Try.ntmps14
  go_upto_region 1 with (fail)
  rw [← hV]
  clear hV
  go_wp2_with fail
  refine hc.mono ?_
  rintro en w0 ⟨⟨A, n, c, rfl, hn0, hnc, hR0⟩, hb0⟩
  have hn : Hid ((cN.map Int.ofNat).length = n) := Lib.hid (by rw [List.length_map, hn0])
  have hm : n ≤ 100000 := by omega
  have hub : bytes cN = u8s (cN.map Int.ofNat) := by unfold bytes u8s; rw [List.map_map]; rfl
  have hcv : ∀ w', Below w0.heap.size w0 w' → (convert 34 9 (.slice A n c)).run Try.prog w' = .ok (.string (strOf cN)) w' := fun w' hw => conv_str hn0.symm hcl (hR0.below hw)
  rw [hub] at hR0
  clear hub hc hn0
  obtain ⟨w1, hw1⟩ : ∃ x, x = w0 := ⟨_, rfl⟩
  rw [← hw1] at hb0 hR0 hcv ⊢
  clear hw1
  obtain ⟨W1, hW1⟩ : ∃ W, W = w1.alloc (.cells #[.slice A n c, .int .i64 0, .bool false] 69) := ⟨_, rfl⟩
  have hbW : Below w1.heap.size w1 W1 := by rw [hW1]; exact (Below.refl _ _).alloc (Nat.le_refl _) _
  have hk : Hid (Rdb W1 w1.heap.size A n c (some 0)) := Lib.hid (by rw [hW1]; exact Blk.new _ _ _)
  have hst : ∀ p, some 0 = some p → p ≤ n := fun p h => by injection h with h; omega
  have hz0 : w.heap.size < w1.heap.size := Nat.lt_of_lt_of_le kz.lt hb0.size
  have hR : Reads w1 w1.heap.size 1 A n (u8s (cN.map Int.ofNat)) := hR0
  have hgw : w1.heap.size ≤ w1.heap.size := Nat.le_refl _
  have gW : Hid (Below w1.heap.size w1 W1) := Lib.hid hbW
  have gB : Hid (Below w.heap.size w W1) := Lib.hid ((hB.trans (hb0.mono hB.size)).trans (hbW.mono (by omega)))
  replace kz := Lib.hid ((kz.below hb0 kz.lt).below hbW (Nat.lt_of_lt_of_le kz.lt hb0.size))
  go_upto_region 5 with (fail)
  rw [← hW1]
  have zW1 := hbW.size
  have zk : w1.heap.size < W1.heap.size := hk.out.lt
  clear hW1 hbW hb0 hB hR0
  go_wp2_with fail
  refine (rnum_any w1.heap.size A n c (cN.map Int.ofNat) hn.out hcb hm hnc 1 1 rfl (by omega) (by omega) (some 0) hst W1 hk.out ((hR.below gW.out).more gW.out.size)).mono ?_
  rintro en v1 ⟨rfl, hk1, hO1⟩
  have hxr := rN_range hcb (some 0) 1
  replace hst : ∀ p, (rN (cN.map Int.ofNat) (some 0) 1).1 = some p → p ≤ n := fun p h => by have := rN_le p h; have := hn.out; omega
  obtain ⟨⟨s1, x1⟩, e1⟩ : ∃ r, rN (cN.map Int.ofNat) (some 0) 1 = r := ⟨_, rfl⟩
  rw [e1] at hk1 hxr hst ⊢
  dsimp only at hk1 hxr hst ⊢
  have g1 := Lib.hid e1
  clear e1
  have zv1 := hO1.size
  replace gW := Lib.hid (gW.out.trans (hO1.below gW.out.size hgw))
  replace kz := Lib.hid (hO1.blk kz.out (by omega))
  replace hk := Lib.hid hk1
  replace gB := Lib.hid (gB.out.trans (hO1.below (by omega) (by omega)))
  clear hk1 hO1
  have bx1 := hxr
  clear hxr
  go_wp2_with fail
  refine (rnum_any w1.heap.size A n c (cN.map Int.ofNat) hn.out hcb hm hnc 1 1 rfl (by omega) (by omega) s1 hst v1 hk.out ((hR.below gW.out).more gW.out.size)).mono ?_
  rintro en v2 ⟨rfl, hk1, hO1⟩
  have hxr := rN_range hcb s1 1
  replace hst : ∀ p, (rN (cN.map Int.ofNat) s1 1).1 = some p → p ≤ n := fun p h => by have := rN_le p h; have := hn.out; omega
  obtain ⟨⟨s2, x2⟩, e2⟩ : ∃ r, rN (cN.map Int.ofNat) s1 1 = r := ⟨_, rfl⟩
  rw [e2] at hk1 hxr hst ⊢
  dsimp only at hk1 hxr hst ⊢
  have g2 := Lib.hid e2
  clear e2
  have zv2 := hO1.size
  replace gW := Lib.hid (gW.out.trans (hO1.below gW.out.size hgw))
  replace kz := Lib.hid (hO1.blk kz.out (by omega))
  replace hk := Lib.hid hk1
  replace gB := Lib.hid (gB.out.trans (hO1.below (by omega) (by omega)))
  clear hk1 hO1
  have bx2 := hxr
  clear hxr
  go_wp2_with fail
  refine (rnum_any w1.heap.size A n c (cN.map Int.ofNat) hn.out hcb hm hnc 2 2 rfl (by omega) (by omega) s2 hst v2 hk.out ((hR.below gW.out).more gW.out.size)).mono ?_
  rintro en v3 ⟨rfl, hk1, hO1⟩
  have hxr := rN_range hcb s2 2
  replace hst : ∀ p, (rN (cN.map Int.ofNat) s2 2).1 = some p → p ≤ n := fun p h => by have := rN_le p h; have := hn.out; omega
  obtain ⟨⟨s3, x3⟩, e3⟩ : ∃ r, rN (cN.map Int.ofNat) s2 2 = r := ⟨_, rfl⟩
  rw [e3] at hk1 hxr hst ⊢
  dsimp only at hk1 hxr hst ⊢
  have g3 := Lib.hid e3
  clear e3
  have zv3 := hO1.size
  replace gW := Lib.hid (gW.out.trans (hO1.below gW.out.size hgw))
  replace kz := Lib.hid (hO1.blk kz.out (by omega))
  replace hk := Lib.hid hk1
  replace gB := Lib.hid (gB.out.trans (hO1.below (by omega) (by omega)))
  clear hk1 hO1
  have bx3 := hxr
  clear hxr
  go_wp2_with fail
  refine (rnum_any w1.heap.size A n c (cN.map Int.ofNat) hn.out hcb hm hnc 3 3 rfl (by omega) (by omega) s3 hst v3 hk.out ((hR.below gW.out).more gW.out.size)).mono ?_
  rintro en v4 ⟨rfl, hk1, hO1⟩
  have hxr := rN_range hcb s3 3
  replace hst : ∀ p, (rN (cN.map Int.ofNat) s3 3).1 = some p → p ≤ n := fun p h => by have := rN_le p h; have := hn.out; omega
  obtain ⟨⟨s4, x4⟩, e4⟩ : ∃ r, rN (cN.map Int.ofNat) s3 3 = r := ⟨_, rfl⟩
  rw [e4] at hk1 hxr hst ⊢
  dsimp only at hk1 hxr hst ⊢
  have g4 := Lib.hid e4
  clear e4
  have zv4 := hO1.size
  replace gW := Lib.hid (gW.out.trans (hO1.below gW.out.size hgw))
  replace kz := Lib.hid (hO1.blk kz.out (by omega))
  replace hk := Lib.hid hk1
  replace gB := Lib.hid (gB.out.trans (hO1.below (by omega) (by omega)))
  clear hk1 hO1
  have bx4 := hxr
  clear hxr
  have hg0 : (v4.alloc (.cells #[.int .u8 0, .int .i64 0, .int .i64 0, .int .i64 0, .int .i64 0, .int .i64 0, .bool false, .slice none 0 0, .int .i64 0, .bool false, .slice none 0 0, .int .i64 0, .bool false, .slice none 0 0, .int .i64 0, .bool false, .slice none 0 0, .int .i64 0, .bool false, .slice none 0 0, .bool false, .int .i64 0, .int .i64 0, .slice none 0 0] 31)).heap[v4.heap.size]? = some (.cells #[.int .u8 0, .int .i64 0, .int .i64 0, .int .i64 0, .int .i64 0, .int .i64 0, .bool false, .slice none 0 0, .int .i64 0, .bool false, .slice none 0 0, .int .i64 0, .bool false, .slice none 0 0, .int .i64 0, .bool false, .slice none 0 0, .int .i64 0, .bool false, .slice none 0 0, .bool false, .int .i64 0, .int .i64 0, .slice none 0 0] 31 (0, 0)) := Blk.new v4 31 #[.int .u8 0, .int .i64 0, .int .i64 0, .int .i64 0, .int .i64 0, .int .i64 0, .bool false, .slice none 0 0, .int .i64 0, .bool false, .slice none 0 0, .int .i64 0, .bool false, .slice none 0 0, .int .i64 0, .bool false, .slice none 0 0, .int .i64 0, .bool false, .slice none 0 0, .bool false, .int .i64 0, .int .i64 0, .slice none 0 0]
  go_upto_region 7 with (refine wpList_store_row rfl 31 _ _ rfl v4.heap.size #[.int .u8 1, .int .i64 x1, .int .i64 x2, .int .i64 x3, .int .i64 x4, .int .i64 0, .bool false, .slice none 0 0, .int .i64 0, .bool false, .slice none 0 0, .int .i64 0, .bool false, .slice none 0 0, .int .i64 0, .bool false, .slice none 0 0, .int .i64 0, .bool false, .slice none 0 0, .bool false, .int .i64 0, .int .i64 0, .slice none 0 0] rfl rfl 31 #[.int .u8 0, .int .i64 0, .int .i64 0, .int .i64 0, .int .i64 0, .int .i64 0, .bool false, .slice none 0 0, .int .i64 0, .bool false, .slice none 0 0, .int .i64 0, .bool false, .slice none 0 0, .int .i64 0, .bool false, .slice none 0 0, .int .i64 0, .bool false, .slice none 0 0, .bool false, .int .i64 0, .int .i64 0, .slice none 0 0] hg0 info_mail rfl (by simp [Value.oneCell']) ?_)
  obtain ⟨U, hU⟩ : ∃ U, U = (v4.alloc (.cells #[.int .u8 0, .int .i64 0, .int .i64 0, .int .i64 0, .int .i64 0, .int .i64 0, .bool false, .slice none 0 0, .int .i64 0, .bool false, .slice none 0 0, .int .i64 0, .bool false, .slice none 0 0, .int .i64 0, .bool false, .slice none 0 0, .int .i64 0, .bool false, .slice none 0 0, .bool false, .int .i64 0, .int .i64 0, .slice none 0 0] 31)).setRow v4.heap.size #[.int .u8 1, .int .i64 x1, .int .i64 x2, .int .i64 x3, .int .i64 x4, .int .i64 0, .bool false, .slice none 0 0, .int .i64 0, .bool false, .slice none 0 0, .int .i64 0, .bool false, .slice none 0 0, .int .i64 0, .bool false, .slice none 0 0, .int .i64 0, .bool false, .slice none 0 0, .bool false, .int .i64 0, .int .i64 0, .slice none 0 0] := ⟨_, rfl⟩
  have hbU : Below v4.heap.size v4 U := by rw [hU]; exact below_setRow (g := v4.heap.size) ((Below.refl _ _).alloc (Nat.le_refl _) _) (Nat.le_refl _) _
  have km : Hid (Blk U v4.heap.size 31 #[.int .u8 1, .int .i64 x1, .int .i64 x2, .int .i64 x3, .int .i64 x4, .int .i64 0, .bool false, .slice none 0 0, .int .i64 0, .bool false, .slice none 0 0, .int .i64 0, .bool false, .slice none 0 0, .int .i64 0, .bool false, .slice none 0 0, .int .i64 0, .bool false, .slice none 0 0, .bool false, .int .i64 0, .int .i64 0, .slice none 0 0]) := Lib.hid (by rw [hU]; exact (Blk.new v4 31 #[.int .u8 0, .int .i64 0, .int .i64 0, .int .i64 0, .int .i64 0, .int .i64 0, .bool false, .slice none 0 0, .int .i64 0, .bool false, .slice none 0 0, .int .i64 0, .bool false, .slice none 0 0, .int .i64 0, .bool false, .slice none 0 0, .int .i64 0, .bool false, .slice none 0 0, .bool false, .int .i64 0, .int .i64 0, .slice none 0 0]).setRow _)
  have zU := hbU.size
  replace kz := Lib.hid (kz.out.below hbU kz.out.lt)
  replace hk := Lib.hid (hk.out.below hbU)
  replace gW := Lib.hid (gW.out.trans (hbU.mono gW.out.size))
  replace gB := Lib.hid (gB.out.trans (hbU.mono (by omega)))
  have hgm : w1.heap.size < v4.heap.size := by omega
  obtain ⟨gm, hgmE⟩ : ∃ x, v4.heap.size = x := ⟨_, rfl⟩
  rw [hgmE] at km hgm hU ⊢
  rw [← hU]
  clear hU hbU hg0
  have hgU : gm < U.heap.size := km.out.lt
  have ggm := Lib.hid hgmE
  clear hgmE
  go_wp2_with fail
  refine (rdy_any w1.heap.size A n c (cN.map Int.ofNat) hn.out hcb hm hnc s4 U hk.out ((hR.below gW.out).more gW.out.size)).mono ?_
  rintro en v5 ⟨Xa, ca, rfl, hcc, how, hk1, hO1⟩
  have hxr := rD_lt hcb s4
  obtain ⟨⟨s5, da⟩, e5⟩ : ∃ r, rD (cN.map Int.ofNat) s4 = r := ⟨_, rfl⟩
  rw [e5] at hk1 hxr how hcc ⊢
  dsimp only at hk1 hxr how hcc ⊢
  have g5 := Lib.hid e5
  have o5 : Hid (OwnR v5 U.heap.size 52 Xa da.ls.length (ints .u32 da.ls)) := Lib.hid how
  have q5 := Lib.hid hcc
  have bda := Lib.hid hxr
  clear e5 how hcc hxr
  have zv5 := hO1.size
  replace gW := Lib.hid (gW.out.trans (hO1.below gW.out.size hgw))
  replace kz := Lib.hid (hO1.blk kz.out (by omega))
  replace km := Lib.hid (hO1.blk km.out (by omega))
  replace hk := Lib.hid hk1
  replace gB := Lib.hid (gB.out.trans (hO1.below (by omega) (by omega)))
  clear hk1 hO1
  go_wp2_with fail
  refine (rdy_any w1.heap.size A n c (cN.map Int.ofNat) hn.out hcb hm hnc s5 v5 hk.out ((hR.below gW.out).more gW.out.size)).mono ?_
  rintro en v6 ⟨Xb, cb, rfl, hcc, how, hk1, hO1⟩
  have hxr := rD_lt hcb s5
  obtain ⟨⟨s6, db⟩, e6⟩ : ∃ r, rD (cN.map Int.ofNat) s5 = r := ⟨_, rfl⟩
  rw [e6] at hk1 hxr how hcc ⊢
  dsimp only at hk1 hxr how hcc ⊢
  have g6 := Lib.hid e6
  have o6 : Hid (OwnR v6 v5.heap.size 52 Xb db.ls.length (ints .u32 db.ls)) := Lib.hid how
  have q6 := Lib.hid hcc
  have bdb := Lib.hid hxr
  clear e6 how hcc hxr
  have zv6 := hO1.size
  replace gW := Lib.hid (gW.out.trans (hO1.below gW.out.size hgw))
  replace kz := Lib.hid (hO1.blk kz.out (by omega))
  replace km := Lib.hid (hO1.blk km.out (by omega))
  replace o5 := Lib.hid (o5.out.only hO1 (by omega))
  replace hk := Lib.hid hk1
  replace gB := Lib.hid (gB.out.trans (hO1.below (by omega) (by omega)))
  clear hk1 hO1
  have m6 : v6.cell? ⟨gm, 6, none⟩ = some (.bool false) := by rw [km.out.cell]; rfl
  have m7 : v6.cell? ⟨gm, 7, none⟩ = some (.slice none 0 0) := by rw [km.out.cell]; rfl
  have m8 : v6.cell? ⟨gm, 8, none⟩ = some (.int .i64 0) := by rw [km.out.cell]; rfl
  have m9 : v6.cell? ⟨gm, 9, none⟩ = some (.bool false) := by rw [km.out.cell]; rfl
  have m10 : v6.cell? ⟨gm, 10, none⟩ = some (.slice none 0 0) := by rw [km.out.cell]; rfl
  have m11 : v6.cell? ⟨gm, 11, none⟩ = some (.int .i64 0) := by rw [km.out.cell]; rfl
  have mf6 : v6.frozen? ⟨gm, 6, none⟩ = false := km.out.frozen 6
  have mf7 : v6.frozen? ⟨gm, 7, none⟩ = false := km.out.frozen 7
  have mf8 : v6.frozen? ⟨gm, 8, none⟩ = false := km.out.frozen 8
  have mf9 : v6.frozen? ⟨gm, 9, none⟩ = false := km.out.frozen 9
  have mf10 : v6.frozen? ⟨gm, 10, none⟩ = false := km.out.frozen 10
  have mf11 : v6.frozen? ⟨gm, 11, none⟩ = false := km.out.frozen 11
  go_upto_region 28 with (fail)
  obtain ⟨X6, hX6⟩ : ∃ X, X = ((((((v6.setCell ⟨gm, 6, none⟩ (.bool da.neg)).setCell ⟨gm, 7, none⟩ (.slice Xa da.ls.length ca)).setCell ⟨gm, 8, none⟩ (.int .i64 da.ex)).setCell ⟨gm, 9, none⟩ (.bool db.neg)).setCell ⟨gm, 10, none⟩ (.slice Xb db.ls.length cb)).setCell ⟨gm, 11, none⟩ (.int .i64 db.ex)) := ⟨_, rfl⟩
  have kk0 : Blk _ gm 31 #[.int .u8 1, .int .i64 x1, .int .i64 x2, .int .i64 x3, .int .i64 x4, .int .i64 0, .bool da.neg, .slice none 0 0, .int .i64 0, .bool false, .slice none 0 0, .int .i64 0, .bool false, .slice none 0 0, .int .i64 0, .bool false, .slice none 0 0, .int .i64 0, .bool false, .slice none 0 0, .bool false, .int .i64 0, .int .i64 0, .slice none 0 0] := (show _ from by simpa using km.out.set_ 6 (.bool da.neg))
  have kk1 : Blk _ gm 31 #[.int .u8 1, .int .i64 x1, .int .i64 x2, .int .i64 x3, .int .i64 x4, .int .i64 0, .bool da.neg, .slice Xa da.ls.length ca, .int .i64 0, .bool false, .slice none 0 0, .int .i64 0, .bool false, .slice none 0 0, .int .i64 0, .bool false, .slice none 0 0, .int .i64 0, .bool false, .slice none 0 0, .bool false, .int .i64 0, .int .i64 0, .slice none 0 0] := (show _ from by simpa using kk0.set_ 7 (.slice Xa da.ls.length ca))
  have kk2 : Blk _ gm 31 #[.int .u8 1, .int .i64 x1, .int .i64 x2, .int .i64 x3, .int .i64 x4, .int .i64 0, .bool da.neg, .slice Xa da.ls.length ca, .int .i64 da.ex, .bool false, .slice none 0 0, .int .i64 0, .bool false, .slice none 0 0, .int .i64 0, .bool false, .slice none 0 0, .int .i64 0, .bool false, .slice none 0 0, .bool false, .int .i64 0, .int .i64 0, .slice none 0 0] := (show _ from by simpa using kk1.set_ 8 (.int .i64 da.ex))
  have kk3 : Blk _ gm 31 #[.int .u8 1, .int .i64 x1, .int .i64 x2, .int .i64 x3, .int .i64 x4, .int .i64 0, .bool da.neg, .slice Xa da.ls.length ca, .int .i64 da.ex, .bool db.neg, .slice none 0 0, .int .i64 0, .bool false, .slice none 0 0, .int .i64 0, .bool false, .slice none 0 0, .int .i64 0, .bool false, .slice none 0 0, .bool false, .int .i64 0, .int .i64 0, .slice none 0 0] := (show _ from by simpa using kk2.set_ 9 (.bool db.neg))
  have kk4 : Blk _ gm 31 #[.int .u8 1, .int .i64 x1, .int .i64 x2, .int .i64 x3, .int .i64 x4, .int .i64 0, .bool da.neg, .slice Xa da.ls.length ca, .int .i64 da.ex, .bool db.neg, .slice Xb db.ls.length cb, .int .i64 0, .bool false, .slice none 0 0, .int .i64 0, .bool false, .slice none 0 0, .int .i64 0, .bool false, .slice none 0 0, .bool false, .int .i64 0, .int .i64 0, .slice none 0 0] := (show _ from by simpa using kk3.set_ 10 (.slice Xb db.ls.length cb))
  have kk5 : Blk _ gm 31 #[.int .u8 1, .int .i64 x1, .int .i64 x2, .int .i64 x3, .int .i64 x4, .int .i64 0, .bool da.neg, .slice Xa da.ls.length ca, .int .i64 da.ex, .bool db.neg, .slice Xb db.ls.length cb, .int .i64 db.ex, .bool false, .slice none 0 0, .int .i64 0, .bool false, .slice none 0 0, .int .i64 0, .bool false, .slice none 0 0, .bool false, .int .i64 0, .int .i64 0, .slice none 0 0] := (show _ from by simpa using kk4.set_ 11 (.int .i64 db.ex))
  replace km : Hid (Blk X6 gm 31 #[.int .u8 1, .int .i64 x1, .int .i64 x2, .int .i64 x3, .int .i64 x4, .int .i64 0, .bool da.neg, .slice Xa da.ls.length ca, .int .i64 da.ex, .bool db.neg, .slice Xb db.ls.length cb, .int .i64 db.ex, .bool false, .slice none 0 0, .int .i64 0, .bool false, .slice none 0 0, .int .i64 0, .bool false, .slice none 0 0, .bool false, .int .i64 0, .int .i64 0, .slice none 0 0]) := Lib.hid (by rw [hX6]; exact kk5)
  replace kz : Hid (Blk X6 w.heap.size 31 #[.int .u8 0, .int .i64 0, .int .i64 0, .int .i64 0, .int .i64 0, .int .i64 0, .bool false, .slice none 0 0, .int .i64 0, .bool false, .slice none 0 0, .int .i64 0, .bool false, .slice none 0 0, .int .i64 0, .bool false, .slice none 0 0, .int .i64 0, .bool false, .slice none 0 0, .bool false, .int .i64 0, .int .i64 0, .slice none 0 0]) := Lib.hid (by rw [hX6]; exact ((((((kz.out.far (p := ⟨gm, 6, none⟩) (by show _ ≠ gm; omega) (.bool da.neg)).far (p := ⟨gm, 7, none⟩) (by show _ ≠ gm; omega) (.slice Xa da.ls.length ca)).far (p := ⟨gm, 8, none⟩) (by show _ ≠ gm; omega) (.int .i64 da.ex)).far (p := ⟨gm, 9, none⟩) (by show _ ≠ gm; omega) (.bool db.neg)).far (p := ⟨gm, 10, none⟩) (by show _ ≠ gm; omega) (.slice Xb db.ls.length cb)).far (p := ⟨gm, 11, none⟩) (by show _ ≠ gm; omega) (.int .i64 db.ex)))
  replace hk : Hid (Rdb X6 w1.heap.size A n c s6) := Lib.hid (by rw [hX6]; exact ((((((hk.out.far (q := ⟨gm, 6, none⟩) (by show _ ≠ gm; omega) (.bool da.neg)).far (q := ⟨gm, 7, none⟩) (by show _ ≠ gm; omega) (.slice Xa da.ls.length ca)).far (q := ⟨gm, 8, none⟩) (by show _ ≠ gm; omega) (.int .i64 da.ex)).far (q := ⟨gm, 9, none⟩) (by show _ ≠ gm; omega) (.bool db.neg)).far (q := ⟨gm, 10, none⟩) (by show _ ≠ gm; omega) (.slice Xb db.ls.length cb)).far (q := ⟨gm, 11, none⟩) (by show _ ≠ gm; omega) (.int .i64 db.ex)))
  replace gW : Hid (Below w1.heap.size w1 X6) := Lib.hid (by rw [hX6]; exact ((((((gW.out.setCell (p := ⟨gm, 6, none⟩) (by show _ ≤ gm; omega) (.bool da.neg)).setCell (p := ⟨gm, 7, none⟩) (by show _ ≤ gm; omega) (.slice Xa da.ls.length ca)).setCell (p := ⟨gm, 8, none⟩) (by show _ ≤ gm; omega) (.int .i64 da.ex)).setCell (p := ⟨gm, 9, none⟩) (by show _ ≤ gm; omega) (.bool db.neg)).setCell (p := ⟨gm, 10, none⟩) (by show _ ≤ gm; omega) (.slice Xb db.ls.length cb)).setCell (p := ⟨gm, 11, none⟩) (by show _ ≤ gm; omega) (.int .i64 db.ex)))
  replace gB : Hid (Below w.heap.size w X6) := Lib.hid (by rw [hX6]; exact ((((((gB.out.setCell (p := ⟨gm, 6, none⟩) (by show _ ≤ gm; omega) (.bool da.neg)).setCell (p := ⟨gm, 7, none⟩) (by show _ ≤ gm; omega) (.slice Xa da.ls.length ca)).setCell (p := ⟨gm, 8, none⟩) (by show _ ≤ gm; omega) (.int .i64 da.ex)).setCell (p := ⟨gm, 9, none⟩) (by show _ ≤ gm; omega) (.bool db.neg)).setCell (p := ⟨gm, 10, none⟩) (by show _ ≤ gm; omega) (.slice Xb db.ls.length cb)).setCell (p := ⟨gm, 11, none⟩) (by show _ ≤ gm; omega) (.int .i64 db.ex)))
  have zzX6 : X6.heap.size = v6.heap.size := by rw [hX6]; simp
  replace o5 := Lib.hid (show OwnR X6 _ _ _ _ _ from by rw [hX6]; exact ((((((o5.out.far (p := ⟨gm, 6, none⟩) (by show gm < _; omega) (.bool da.neg)).far (p := ⟨gm, 7, none⟩) (by show gm < _; omega) (.slice Xa da.ls.length ca)).far (p := ⟨gm, 8, none⟩) (by show gm < _; omega) (.int .i64 da.ex)).far (p := ⟨gm, 9, none⟩) (by show gm < _; omega) (.bool db.neg)).far (p := ⟨gm, 10, none⟩) (by show gm < _; omega) (.slice Xb db.ls.length cb)).far (p := ⟨gm, 11, none⟩) (by show gm < _; omega) (.int .i64 db.ex)))
  replace o6 := Lib.hid (show OwnR X6 _ _ _ _ _ from by rw [hX6]; exact ((((((o6.out.far (p := ⟨gm, 6, none⟩) (by show gm < _; omega) (.bool da.neg)).far (p := ⟨gm, 7, none⟩) (by show gm < _; omega) (.slice Xa da.ls.length ca)).far (p := ⟨gm, 8, none⟩) (by show gm < _; omega) (.int .i64 da.ex)).far (p := ⟨gm, 9, none⟩) (by show gm < _; omega) (.bool db.neg)).far (p := ⟨gm, 10, none⟩) (by show gm < _; omega) (.slice Xb db.ls.length cb)).far (p := ⟨gm, 11, none⟩) (by show gm < _; omega) (.int .i64 db.ex)))
  rw [← hX6]
  clear hX6 m6 mf6 m7 mf7 m8 mf8 m9 mf9 m10 mf10 m11 mf11 kk0 kk1 kk2 kk3 kk4 kk5
  go_upto_region 28 with (fail)
  obtain ⟨om, hom⟩ : ∃ o : MO, o = ⟨⟨1, x1, x2, x3, x4, 0, ⟨da, db, ⟨false, [], 0⟩, ⟨false, [], 0⟩⟩, false, [], false, 0, 0, []⟩, Xa, ca, Xb, cb, none, 0, none, 0, none, 0, none, 0⟩ := ⟨_, rfl⟩
  have hh : hdR (cN.map Int.ofNat) = ⟨s4, x1, x2, x3, x4⟩ := by unfold hdR; rw [g1.out]; dsimp only; rw [g2.out]; dsimp only; rw [g3.out]; dsimp only; rw [g4.out]
  have hdec : dec 1 (cN.map Int.ofNat) = (s6, om.x) := by rw [hom]; unfold dec; rw [if_pos rfl]; rw [hh]; dsimp only; rw [g5.out]; try dsimp only; rw [g6.out]; try dsimp only; try rfl
  have hown : ownL X6 w1.heap.size om := by rw [hom]; exact ⟨⟨⟨q5.out, o5.out.base_le (by omega)⟩, ⟨q6.out, o6.out.base_le (by omega)⟩, ⟨Nat.le_refl _, OwnR.none_⟩, ⟨Nat.le_refl _, OwnR.none_⟩⟩, own_nil (c := 0), own_nil (c := 0)⟩
  have hagg : aggL om = .agg #[.int .u8 1, .int .i64 x1, .int .i64 x2, .int .i64 x3, .int .i64 x4, .int .i64 0, .bool da.neg, .slice Xa da.ls.length ca, .int .i64 da.ex, .bool db.neg, .slice Xb db.ls.length cb, .int .i64 db.ex, .bool false, .slice none 0 0, .int .i64 0, .bool false, .slice none 0 0, .int .i64 0, .bool false, .slice none 0 0, .bool false, .int .i64 0, .int .i64 0, .slice none 0 0] := by rw [hom]; simp [aggL, zM]
  have hsm : smL om.x ∧ ltL om.x := by rw [hom]; exact ⟨⟨⟨Nat.le_trans bda.out.1 (by decide), Nat.le_trans bdb.out.1 (by decide), Nat.zero_le _, Nat.zero_le _⟩, Nat.zero_le _, Nat.zero_le _⟩, ⟨⟨(bda.out.2), (bdb.out.2), (fun x h => by cases h), (fun x h => by cases h)⟩, (fun x h => by cases h)⟩⟩
  clear hom
  have hz := kz.out
  have hkm := km.out
  have kr := hk.out.wrong
  rcases hwr : s6 with _ | pf
  · have hno : ∀ m, ¬ GoodM 1 (cN.map Int.ofNat) m := fun m h => by have h1 := h.1; rw [hdec] at h1; simp only at h1; rw [hwr] at h1; simp at h1
    replace hno := Lib.hid hno
    rw [hwr] at kr
    simp only [Option.isNone] at kr
    have fw : ∀ q : Bw X6.heap.size X6, q.w.cell? ⟨w1.heap.size, 2, none⟩ = some (.bool true) := fun q => (q.h.cell (p := ⟨w1.heap.size, 2, none⟩) (by show w1.heap.size < _; omega)).trans kr
    clear kr hkm hsm hown hagg hdec
    refine wp_region_wq X6.heap.size X6 (Below.refl _ _) (by kernel_rfl) (by kernel_rfl) ?_
    repeat (first | (refine WQ.yes (by rfl) (fun K hK => ?_); go_simp; first | (refine hK _ ?_; clear hK K) | (apply Exists.intro; refine ⟨fun _ => ?_, hK _ ?_⟩; (fail); clear hK K)) | (refine WQ.no (by rfl) ?_; (try simp only [Act.put, List.setIfInBounds_toArray, List.set_cons_zero, List.set_cons_succ])))
    refine WQ.nil ?_
    intro pq
    have hz2 := hz.below pq.h hz.lt
    have hB2 := gB.out.trans (pq.h.mono gB.out.size)
    replace hno := hno.out
    clear fw hz gB kz km hk gW o5 o6
    have kf := hz2.setRow #[.int .u8 0, .int .i64 0, .int .i64 0, .int .i64 0, .int .i64 0, .int .i64 0, .bool false, .slice none 0 0, .int .i64 0, .bool false, .slice none 0 0, .int .i64 0, .bool false, .slice none 0 0, .int .i64 0, .bool false, .slice none 0 0, .int .i64 0, .bool false, .slice none 0 0, .bool false, .int .i64 0, .int .i64 0, .slice none 0 0]
    have hBf := below_setRow (g := w.heap.size) hB2 (Nat.le_refl _) #[.int .u8 0, .int .i64 0, .int .i64 0, .int .i64 0, .int .i64 0, .int .i64 0, .bool false, .slice none 0 0, .int .i64 0, .bool false, .slice none 0 0, .int .i64 0, .bool false, .slice none 0 0, .int .i64 0, .bool false, .slice none 0 0, .int .i64 0, .bool false, .slice none 0 0, .bool false, .int .i64 0, .int .i64 0, .slice none 0 0]
    go_wp2_with (refine wpList_store_row rfl 31 _ _ rfl w.heap.size #[.int .u8 0, .int .i64 0, .int .i64 0, .int .i64 0, .int .i64 0, .int .i64 0, .bool false, .slice none 0 0, .int .i64 0, .bool false, .slice none 0 0, .int .i64 0, .bool false, .slice none 0 0, .int .i64 0, .bool false, .slice none 0 0, .int .i64 0, .bool false, .slice none 0 0, .bool false, .int .i64 0, .int .i64 0, .slice none 0 0] rfl rfl 31 #[.int .u8 0, .int .i64 0, .int .i64 0, .int .i64 0, .int .i64 0, .int .i64 0, .bool false, .slice none 0 0, .int .i64 0, .bool false, .slice none 0 0, .int .i64 0, .bool false, .slice none 0 0, .int .i64 0, .bool false, .slice none 0 0, .int .i64 0, .bool false, .slice none 0 0, .bool false, .int .i64 0, .int .i64 0, .slice none 0 0] hz2.row info_mail rfl (by simp [Value.oneCell']) ?_)
    (try simp only [Exit.inBlock, Exit.then])
    refine bodyPost_ret (results_row_slot rfl _ _ w.heap.size 31 #[.int .u8 0, .int .i64 0, .int .i64 0, .int .i64 0, .int .i64 0, .int .i64 0, .bool false, .slice none 0 0, .int .i64 0, .bool false, .slice none 0 0, .int .i64 0, .bool false, .slice none 0 0, .int .i64 0, .bool false, .slice none 0 0, .int .i64 0, .bool false, .slice none 0 0, .bool false, .int .i64 0, .int .i64 0, .slice none 0 0] (0, 0) _ rfl kf.row Try.underlying31 rfl info_mail) rfl ?_
    exact ⟨hBf, zeroO, 41, rfl, ownL_zero _ _, .inr ⟨rfl, rfl, hno⟩⟩
  rw [hwr] at kr
  simp only [Option.isNone] at kr
  have hrd : ∀ w', Below X6.heap.size X6 w' → rdL w' w'.heap.size om := fun w' hw => hown.rd.below hw hw.size
  have fw : ∀ q : Bw X6.heap.size X6, q.w.cell? ⟨w1.heap.size, 2, none⟩ = some (.bool false) := fun q => (q.h.cell (p := ⟨w1.heap.size, 2, none⟩) (by show w1.heap.size < _; omega)).trans kr
  by_cases hok : okL om.x
  rotate_left
  · have hno : ∀ m, ¬ GoodM 1 (cN.map Int.ofNat) m := fun m h => by have h1 : m = om.x := (by have h2 := h.2.1; rw [hdec] at h2; exact h2); exact hok (by rw [← h1]; exact h.2.2.1)
    replace hno := Lib.hid hno
    have fc : ∀ q : Bw X6.heap.size X6, Calls Try.prog 17 #[.agg #[.int .u8 1, .int .i64 x1, .int .i64 x2, .int .i64 x3, .int .i64 x4, .int .i64 0, .bool da.neg, .slice Xa da.ls.length ca, .int .i64 da.ex, .bool db.neg, .slice Xb db.ls.length cb, .int .i64 db.ex, .bool false, .slice none 0 0, .int .i64 0, .bool false, .slice none 0 0, .int .i64 0, .bool false, .slice none 0 0, .bool false, .int .i64 0, .int .i64 0, .slice none 0 0]] q.w fun en w' => en = .returned (.int .i64 100) ∧ ∃ q' : Bw X6.heap.size X6, w' = q'.w := fun q => by rw [← hagg]; exact Calls.bw ((check_any om hsm.1 q.w (hrd q.w q.h)).mono (fun en w'' hh => by obtain ⟨E, rfl, hE, hb⟩ := hh; rcases hE with ⟨h, _⟩ | ⟨_, rfl⟩; exact absurd h hok; exact ⟨rfl, hb⟩)) (Nat.le_refl _)
    have r2 : ∀ q : Bw X6.heap.size X6, q.w.rangeAt gm 0 [.int .u8 1, .int .i64 x1, .int .i64 x2, .int .i64 x3, .int .i64 x4, .int .i64 0, .bool da.neg, .slice Xa da.ls.length ca, .int .i64 da.ex, .bool db.neg, .slice Xb db.ls.length cb, .int .i64 db.ex, .bool false, .slice none 0 0, .int .i64 0, .bool false, .slice none 0 0, .int .i64 0, .bool false, .slice none 0 0, .bool false, .int .i64 0, .int .i64 0, .slice none 0 0] := fun q => (hkm.below q.h hkm.lt).range 0 _ rfl
    clear kr hkm hsm hown hagg hdec hrd hok
    refine wp_region_wq X6.heap.size X6 (Below.refl _ _) (by kernel_rfl) (by kernel_rfl) ?_
    repeat (first | (refine WQ.yes (by rfl) (fun K hK => ?_); refine quiet_load_mid 31 _ rfl gm 0 rfl [.int .u8 1, .int .i64 x1, .int .i64 x2, .int .i64 x3, .int .i64 x4, .int .i64 0, .bool da.neg, .slice Xa da.ls.length ca, .int .i64 da.ex, .bool db.neg, .slice Xb db.ls.length cb, .int .i64 db.ex, .bool false, .slice none 0 0, .int .i64 0, .bool false, .slice none 0 0, .int .i64 0, .bool false, .slice none 0 0, .bool false, .int .i64 0, .int .i64 0, .slice none 0 0] _ r2 Try.underlying31 rfl (by kernel_rfl) (hK _ ?_); clear hK K; simp only [Act.put, List.setIfInBounds_toArray, List.set_cons_zero, List.set_cons_succ]) | (refine WQ.yes (by rfl) (fun K hK => ?_); go_simp; first | (refine hK _ ?_; clear hK K) | (apply Exists.intro; refine ⟨fun _ => ?_, hK _ ?_⟩; (exact fc _); clear hK K)) | (refine WQ.no (by rfl) ?_; (try simp only [Act.put, List.setIfInBounds_toArray, List.set_cons_zero, List.set_cons_succ])))
    refine WQ.nil ?_
    intro pq
    have hz2 := hz.below pq.h hz.lt
    have hB2 := gB.out.trans (pq.h.mono gB.out.size)
    replace hno := hno.out
    clear fw fc r2 hz gB kz km hk gW o5 o6
    have kf := hz2.setRow #[.int .u8 0, .int .i64 0, .int .i64 0, .int .i64 0, .int .i64 0, .int .i64 0, .bool false, .slice none 0 0, .int .i64 0, .bool false, .slice none 0 0, .int .i64 0, .bool false, .slice none 0 0, .int .i64 0, .bool false, .slice none 0 0, .int .i64 0, .bool false, .slice none 0 0, .bool false, .int .i64 0, .int .i64 0, .slice none 0 0]
    have hBf := below_setRow (g := w.heap.size) hB2 (Nat.le_refl _) #[.int .u8 0, .int .i64 0, .int .i64 0, .int .i64 0, .int .i64 0, .int .i64 0, .bool false, .slice none 0 0, .int .i64 0, .bool false, .slice none 0 0, .int .i64 0, .bool false, .slice none 0 0, .int .i64 0, .bool false, .slice none 0 0, .int .i64 0, .bool false, .slice none 0 0, .bool false, .int .i64 0, .int .i64 0, .slice none 0 0]
    go_wp2_with (refine wpList_store_row rfl 31 _ _ rfl w.heap.size #[.int .u8 0, .int .i64 0, .int .i64 0, .int .i64 0, .int .i64 0, .int .i64 0, .bool false, .slice none 0 0, .int .i64 0, .bool false, .slice none 0 0, .int .i64 0, .bool false, .slice none 0 0, .int .i64 0, .bool false, .slice none 0 0, .int .i64 0, .bool false, .slice none 0 0, .bool false, .int .i64 0, .int .i64 0, .slice none 0 0] rfl rfl 31 #[.int .u8 0, .int .i64 0, .int .i64 0, .int .i64 0, .int .i64 0, .int .i64 0, .bool false, .slice none 0 0, .int .i64 0, .bool false, .slice none 0 0, .int .i64 0, .bool false, .slice none 0 0, .int .i64 0, .bool false, .slice none 0 0, .int .i64 0, .bool false, .slice none 0 0, .bool false, .int .i64 0, .int .i64 0, .slice none 0 0] hz2.row info_mail rfl (by simp [Value.oneCell']) ?_)
    (try simp only [Exit.inBlock, Exit.then])
    refine bodyPost_ret (results_row_slot rfl _ _ w.heap.size 31 #[.int .u8 0, .int .i64 0, .int .i64 0, .int .i64 0, .int .i64 0, .int .i64 0, .bool false, .slice none 0 0, .int .i64 0, .bool false, .slice none 0 0, .int .i64 0, .bool false, .slice none 0 0, .int .i64 0, .bool false, .slice none 0 0, .int .i64 0, .bool false, .slice none 0 0, .bool false, .int .i64 0, .int .i64 0, .slice none 0 0] (0, 0) _ rfl kf.row Try.underlying31 rfl info_mail) rfl ?_
    exact ⟨hBf, zeroO, 41, rfl, ownL_zero _ _, .inr ⟨rfl, rfl, hno⟩⟩
  have fc : ∀ w', Below X6.heap.size X6 w' → Calls Try.prog 17 #[.agg #[.int .u8 1, .int .i64 x1, .int .i64 x2, .int .i64 x3, .int .i64 x4, .int .i64 0, .bool da.neg, .slice Xa da.ls.length ca, .int .i64 da.ex, .bool db.neg, .slice Xb db.ls.length cb, .int .i64 db.ex, .bool false, .slice none 0 0, .int .i64 0, .bool false, .slice none 0 0, .int .i64 0, .bool false, .slice none 0 0, .bool false, .int .i64 0, .int .i64 0, .slice none 0 0]] w' fun en w'' => en = .returned (.int .i64 0) ∧ Below w'.heap.size w' w'' := fun w' hw => by rw [← hagg]; exact (check_any om hsm.1 w' (hrd w' hw)).mono (fun en w'' hh => by obtain ⟨E, rfl, hE, hb⟩ := hh; rcases hE with ⟨_, rfl⟩ | ⟨h, _⟩; exact ⟨rfl, hb⟩; exact absurd hok h)
  have fn : ∀ w', Below X6.heap.size X6 w' → Calls Try.prog 26 #[.agg #[.int .u8 1, .int .i64 x1, .int .i64 x2, .int .i64 x3, .int .i64 x4, .int .i64 0, .bool da.neg, .slice Xa da.ls.length ca, .int .i64 da.ex, .bool db.neg, .slice Xb db.ls.length cb, .int .i64 db.ex, .bool false, .slice none 0 0, .int .i64 0, .bool false, .slice none 0 0, .int .i64 0, .bool false, .slice none 0 0, .bool false, .int .i64 0, .int .i64 0, .slice none 0 0]] w' fun en w'' => ∃ X c, en = .returned (.slice X (total (conP om.x)) c) ∧ w''.ownsRow w'.heap.size 5 1 (.slice X (total (conP om.x)) c) (total (conP om.x)) (u8s (flat (conP om.x))) ∧ Below w'.heap.size w' w'' := fun w' hw => by rw [← hagg]; exact content_any om hok hsm.2 w' (hrd w' hw)
  have hBd : Below X6.heap.size X6 X6.drew := (Below.refl _ _).drew
  have hBz : X6.heap.size ≤ X6.drew.heap.size := Nat.le_refl _
  obtain ⟨Q, hQ⟩ : ∃ Q, decide (byP om.x = cN) = Q := ⟨_, rfl⟩
  have hsq : ((strOf (byP om.x)).toList == (strOf cN).toList) = Q := by rw [strOf_inj (byP_lt _) hcl]; exact hQ
  have hsn : ((strOf (byP om.x)).toList != (strOf cN).toList) = !Q := by rw [bne, hsq]
  skip
  refine wp_region_noPanic ?_
  refine wp_region_held_drew (S := fun w' => w'.cell? ⟨w1.heap.size, 2, none⟩ = some (.bool false) ∧ w'.rangeAt gm 0 [.int .u8 1, .int .i64 x1, .int .i64 x2, .int .i64 x3, .int .i64 x4, .int .i64 0, .bool da.neg, .slice Xa da.ls.length ca, .int .i64 da.ex, .bool db.neg, .slice Xb db.ls.length cb, .int .i64 db.ex, .bool false, .slice none 0 0, .int .i64 0, .bool false, .slice none 0 0, .int .i64 0, .bool false, .slice none 0 0, .bool false, .int .i64 0, .int .i64 0, .slice none 0 0] ∧ (convert 34 9 (.slice A n c)).run Try.prog w' = .ok (.string (strOf cN)) w') (by kernel_rfl) (⟨(Below.cell hBd (p := ⟨w1.heap.size, 2, none⟩) (by show w1.heap.size < _; omega)).trans kr, (hkm.below hBd hkm.lt).range 0 _ rfl, hcv _ (gW.out.trans (hBd.mono gW.out.size))⟩) (fun hHeld => ?_)
  refine wpAnyH_take (i := 0) (oi := ?o0) (v := ?v0) ?ho0 (by kernel_rfl) (by kernel_rfl) (by kernel_rfl) (fun _ _ _ h => h) (Or.inl ⟨?wn0, ?yn0⟩) (by assumption) ?rest0
  case ho0 => (simp only [List.getElem?_toArray, List.getElem?_cons_zero, List.getElem?_cons_succ]; rfl)
  case wn0 => rfl
  case yn0 => (intro w hSw; (try dsimp only at hSw); go_simp; (try with_reducible rfl))
  (try simp only [Act.put, List.setIfInBounds_toArray, List.set_cons_zero, List.set_cons_succ])
  refine wpAnyH_take (i := 1) (oi := ?o1) (v := ?v1) ?ho1 (by kernel_rfl) (by kernel_rfl) (by kernel_rfl) (fun _ _ _ h => h) (Or.inl ⟨?wn1, ?yn1⟩) (by assumption) ?rest1
  case ho1 => (simp only [List.getElem?_toArray, List.getElem?_cons_zero, List.getElem?_cons_succ]; rfl)
  case wn1 => rfl
  case yn1 => (intro w hSw; (try dsimp only at hSw); go_simp; (try with_reducible rfl))
  (try simp only [Act.put, List.setIfInBounds_toArray, List.set_cons_zero, List.set_cons_succ])
  refine wpAnyH_take (i := 2) (oi := ?o2) (v := ?v2) ?ho2 (by kernel_rfl) (by kernel_rfl) (by kernel_rfl) (fun _ _ _ h => h) (Or.inl ⟨?wn2, ?yn2⟩) (by assumption) ?rest2
  case ho2 => (simp only [List.getElem?_toArray, List.getElem?_cons_zero, List.getElem?_cons_succ]; rfl)
  case wn2 => rfl
  case yn2 => (intro w hSw; (try dsimp only at hSw); go_simp; (try with_reducible rfl))
  (try simp only [Act.put, List.setIfInBounds_toArray, List.set_cons_zero, List.set_cons_succ])
  refine wpAnyH_take (i := 3) (oi := ?o3) (v := ?v3) ?ho3 (by kernel_rfl) (by kernel_rfl) (by kernel_rfl) (fun _ _ _ h => h) (Or.inl ⟨?wn3, ?yn3⟩) (by assumption) ?rest3
  case ho3 => (simp only [List.getElem?_toArray, List.getElem?_cons_zero, List.getElem?_cons_succ]; rfl)
  case wn3 => rfl
  case yn3 => (intro w hSw; (try dsimp only at hSw); go_simp; (try with_reducible rfl))
  (try simp only [Act.put, List.setIfInBounds_toArray, List.set_cons_zero, List.set_cons_succ])
  refine wpAnyH_take (i := 4) (oi := ?o4) (v := ?v4) ?ho4 (by kernel_rfl) (by kernel_rfl) (by kernel_rfl) (fun _ _ _ h => h) (Or.inl ⟨?wn4, ?yn4⟩) (by assumption) ?rest4
  case ho4 => (simp only [List.getElem?_toArray, List.getElem?_cons_zero, List.getElem?_cons_succ]; rfl)
  case wn4 => rfl
  case yn4 => (intro w hSw; (try dsimp only at hSw); go_simp; (try with_reducible rfl))
  (try simp only [Act.put, List.setIfInBounds_toArray, List.set_cons_zero, List.set_cons_succ])
  refine wpAnyH_take (i := 5) (oi := ?o5) (v := .agg ([.int .u8 1, .int .i64 x1, .int .i64 x2, .int .i64 x3, .int .i64 x4, .int .i64 0, .bool da.neg, .slice Xa da.ls.length ca, .int .i64 da.ex, .bool db.neg, .slice Xb db.ls.length cb, .int .i64 db.ex, .bool false, .slice none 0 0, .int .i64 0, .bool false, .slice none 0 0, .int .i64 0, .bool false, .slice none 0 0, .bool false, .int .i64 0, .int .i64 0, .slice none 0 0] : List Value).toArray) ?ho5 (by kernel_rfl) (by kernel_rfl) (by kernel_rfl) (fun _ _ _ h => h) (yieldsIf_load_mid ?wn5 31 (.tmp 9) ?on5 gm 0 ?xn5 [.int .u8 1, .int .i64 x1, .int .i64 x2, .int .i64 x3, .int .i64 x4, .int .i64 0, .bool da.neg, .slice Xa da.ls.length ca, .int .i64 da.ex, .bool db.neg, .slice Xb db.ls.length cb, .int .i64 db.ex, .bool false, .slice none 0 0, .int .i64 0, .bool false, .slice none 0 0, .int .i64 0, .bool false, .slice none 0 0, .bool false, .int .i64 0, .int .i64 0, .slice none 0 0] _ (fun w h => h.2.1) Try.underlying31 rfl (by kernel_rfl)) (by assumption) ?rest5
  case ho5 => (simp only [List.getElem?_toArray, List.getElem?_cons_zero, List.getElem?_cons_succ]; rfl)
  case on5 => rfl
  case wn5 => rfl
  case xn5 => rfl
  (try simp only [Act.put, List.setIfInBounds_toArray, List.set_cons_zero, List.set_cons_succ])
  refine wpAnyH_ready (rs := [6]) (by kernel_rfl) (by simp) ?_
  refine AllReadyH.cons (o := ?o6) ?ho6 (fun K hK => ?rest6) AllReadyH.nil
  case ho6 => (simp only [List.getElem?_toArray, List.getElem?_cons_zero, List.getElem?_cons_succ]; rfl)
  go_simp
  with_reducible refine (fc _ (by assumption)).mono ?_
  rintro en y6 ⟨rfl, hb6⟩
  have hB6 : Below X6.heap.size X6 y6 := Below.trans (by assumption) (hb6.mono (by assumption))
  have sz6 := hB6.size
  have u6 := hkm.below hB6 hkm.lt
  refine hK.out _ _ (⟨(Below.cell hB6 (p := ⟨w1.heap.size, 2, none⟩) (by show w1.heap.size < _; omega)).trans kr, (u6).range 0 _ rfl, hcv _ (gW.out.trans (hB6.mono gW.out.size))⟩) (fun hHeld => ?_)
  clear hK K
  (try simp only [Act.put, List.setIfInBounds_toArray, List.set_cons_zero, List.set_cons_succ])
  refine wpAnyH_take (i := 7) (oi := ?o7) (v := ?v7) ?ho7 (by kernel_rfl) (by kernel_rfl) (by kernel_rfl) (fun _ _ _ h => h) (Or.inl ⟨?wn7, ?yn7⟩) (by assumption) ?rest7
  case ho7 => (simp only [List.getElem?_toArray, List.getElem?_cons_zero, List.getElem?_cons_succ]; rfl)
  case wn7 => rfl
  case yn7 => (intro w hSw; (try dsimp only at hSw); go_simp; (try with_reducible rfl))
  (try simp only [Act.put, List.setIfInBounds_toArray, List.set_cons_zero, List.set_cons_succ])
  refine wpAnyH_take (i := 8) (oi := ?o8) (v := ?v8) ?ho8 (by kernel_rfl) (by kernel_rfl) (by kernel_rfl) (fun _ _ _ h => h) (Or.inl ⟨?wn8, ?yn8⟩) (by assumption) ?rest8
  case ho8 => (simp only [List.getElem?_toArray, List.getElem?_cons_zero, List.getElem?_cons_succ]; rfl)
  case wn8 => rfl
  case yn8 => (intro w hSw; (try dsimp only at hSw); go_simp; (try with_reducible rfl))
  (try simp only [Act.put, List.setIfInBounds_toArray, List.set_cons_zero, List.set_cons_succ])
  refine wpAnyH_take (i := 9) (oi := ?o9) (v := ?v9) ?ho9 (by kernel_rfl) (by kernel_rfl) (by kernel_rfl) (fun _ _ _ h => h) (Or.inl ⟨?wn9, ?yn9⟩) (by assumption) ?rest9
  case ho9 => (simp only [List.getElem?_toArray, List.getElem?_cons_zero, List.getElem?_cons_succ]; rfl)
  case wn9 => rfl
  case yn9 => (intro w hSw; (try dsimp only at hSw); go_simp; (try with_reducible rfl))
  (try simp only [Act.put, List.setIfInBounds_toArray, List.set_cons_zero, List.set_cons_succ])
  refine wpAnyH_take (i := 10) (oi := ?o10) (v := .agg ([.int .u8 1, .int .i64 x1, .int .i64 x2, .int .i64 x3, .int .i64 x4, .int .i64 0, .bool da.neg, .slice Xa da.ls.length ca, .int .i64 da.ex, .bool db.neg, .slice Xb db.ls.length cb, .int .i64 db.ex, .bool false, .slice none 0 0, .int .i64 0, .bool false, .slice none 0 0, .int .i64 0, .bool false, .slice none 0 0, .bool false, .int .i64 0, .int .i64 0, .slice none 0 0] : List Value).toArray) ?ho10 (by kernel_rfl) (by kernel_rfl) (by kernel_rfl) (fun _ _ _ h => h) (yieldsIf_load_mid ?wn10 31 (.tmp 9) ?on10 gm 0 ?xn10 [.int .u8 1, .int .i64 x1, .int .i64 x2, .int .i64 x3, .int .i64 x4, .int .i64 0, .bool da.neg, .slice Xa da.ls.length ca, .int .i64 da.ex, .bool db.neg, .slice Xb db.ls.length cb, .int .i64 db.ex, .bool false, .slice none 0 0, .int .i64 0, .bool false, .slice none 0 0, .int .i64 0, .bool false, .slice none 0 0, .bool false, .int .i64 0, .int .i64 0, .slice none 0 0] _ (fun w h => h.2.1) Try.underlying31 rfl (by kernel_rfl)) (by assumption) ?rest10
  case ho10 => (simp only [List.getElem?_toArray, List.getElem?_cons_zero, List.getElem?_cons_succ]; rfl)
  case on10 => rfl
  case wn10 => rfl
  case xn10 => rfl
  (try simp only [Act.put, List.setIfInBounds_toArray, List.set_cons_zero, List.set_cons_succ])
  refine wpAnyH_take (i := 13) (oi := ?o13) (v := ?v13) ?ho13 (by kernel_rfl) (by kernel_rfl) (by kernel_rfl) (fun _ _ _ h => h) (Or.inl ⟨?wn13, ?yn13⟩) (by assumption) ?rest13
  case ho13 => (simp only [List.getElem?_toArray, List.getElem?_cons_zero, List.getElem?_cons_succ]; rfl)
  case wn13 => rfl
  case yn13 => (intro w hSw; (try dsimp only at hSw); go_simp; (try with_reducible rfl))
  (try simp only [Act.put, List.setIfInBounds_toArray, List.set_cons_zero, List.set_cons_succ])
  refine wpAnyH_take (i := 14) (oi := ?o14) (v := ?v14) ?ho14 (by kernel_rfl) (by kernel_rfl) (by kernel_rfl) (fun _ _ _ h => h) (Or.inl ⟨?wn14, ?yn14⟩) (by assumption) ?rest14
  case ho14 => (simp only [List.getElem?_toArray, List.getElem?_cons_zero, List.getElem?_cons_succ]; rfl)
  case wn14 => rfl
  case yn14 => (intro w hSw; (try dsimp only at hSw); go_simp; (try with_reducible rfl))
  (try simp only [Act.put, List.setIfInBounds_toArray, List.set_cons_zero, List.set_cons_succ])
  refine wpAnyH_ready (rs := [11]) (by kernel_rfl) (by simp) ?_
  refine AllReadyH.cons (o := ?o11) ?ho11 (fun K hK => ?rest11) AllReadyH.nil
  case ho11 => (simp only [List.getElem?_toArray, List.getElem?_cons_zero, List.getElem?_cons_succ]; rfl)
  go_simp
  with_reducible refine (fn _ hB6).mono ?_
  rintro en y11 ⟨Xc, cx, rfl, ho11, hb11⟩
  have hB11 : Below X6.heap.size X6 y11 := hB6.trans (hb11.mono sz6)
  have u11 := hkm.below hB11 hkm.lt
  have cv11 : (convert 34 9 (.slice Xc (total (conP om.x)) cx)).run Try.prog y11 = .ok (.string (strOf (byP om.x))) y11 := conv_str (byP_len _) (byP_lt _) (by rw [show bytes (byP om.x) = u8s (flat (conP om.x)) from (u8s_bytes (fun b hb => (flat_byte _ b hb).1)).symm]; exact Reads.of_own ho11)
  clear ho11
  refine hK.out _ _ (⟨(Below.cell hB11 (p := ⟨w1.heap.size, 2, none⟩) (by show w1.heap.size < _; omega)).trans kr, (u11).range 0 _ rfl, hcv _ (gW.out.trans (hB11.mono gW.out.size))⟩) (fun hHeld => ?_)
  clear hK K
  (try simp only [Act.put, List.setIfInBounds_toArray, List.set_cons_zero, List.set_cons_succ])
  refine wpAnyH_ready (rs := [12]) (by kernel_rfl) (by simp) ?_
  refine AllReadyH.cons (o := ?o12) ?ho12 (fun K hK => ?rest12) AllReadyH.nil
  case ho12 => (simp only [List.getElem?_toArray, List.getElem?_cons_zero, List.getElem?_cons_succ]; rfl)
  go_simp
  refine hK.out _ _ (⟨(Below.cell hB11 (p := ⟨w1.heap.size, 2, none⟩) (by show w1.heap.size < _; omega)).trans kr, (u11).range 0 _ rfl, hcv _ (gW.out.trans (hB11.mono gW.out.size))⟩) (fun hHeld => ?_)
  clear hK K
  (try simp only [Act.put, List.setIfInBounds_toArray, List.set_cons_zero, List.set_cons_succ])
  refine wpAnyH_take (i := 15) (oi := ?o15) (v := ?v15) ?ho15 (by kernel_rfl) (by kernel_rfl) (by kernel_rfl) (fun _ _ _ h => h) (Or.inl ⟨?wn15, ?yn15⟩) (by assumption) ?rest15
  case ho15 => (simp only [List.getElem?_toArray, List.getElem?_cons_zero, List.getElem?_cons_succ]; rfl)
  case wn15 => rfl
  case yn15 => (intro w hSw; (try dsimp only at hSw); go_simp; (try with_reducible rfl))
  (try simp only [Act.put, List.setIfInBounds_toArray, List.set_cons_zero, List.set_cons_succ])
  refine wpAnyH_take (i := 16) (oi := ?o16) (v := ?v16) ?ho16 (by kernel_rfl) (by kernel_rfl) (by kernel_rfl) (fun _ _ _ h => h) (Or.inl ⟨?wn16, ?yn16⟩) (by assumption) ?rest16
  case ho16 => (simp only [List.getElem?_toArray, List.getElem?_cons_zero, List.getElem?_cons_succ]; rfl)
  case wn16 => rfl
  case yn16 => (intro w hSw; (try dsimp only at hSw); go_simp; (try with_reducible rfl))
  (try simp only [Act.put, List.setIfInBounds_toArray, List.set_cons_zero, List.set_cons_succ])
  refine wpAnyH_done (by kernel_rfl) ?_ _
  refine NoPanic.normal ?_
  have hz2 := hz.below hB11 hz.lt
  have hB2 := gB.out.trans (hB11.mono gB.out.size)
  have gown := Lib.hid hown
  have ghB11 := Lib.hid hB11
  have gagg := Lib.hid hagg
  have u12 := u11
  replace hdec := Lib.hid hdec
  replace hQ := Lib.hid hQ
  have ghok := Lib.hid hok
  have glt := Lib.hid hsm.2
  clear hok
  clear fw fc fn hrd hcv hkm hz kr gB kz km hk gW hown hagg hsm hsq hsn u6 u11 hB6 hB11 cv11 hb6 hb11 o5 o6
  cases Q
  · have hno : ∀ m, ¬ GoodM 1 (cN.map Int.ofNat) m := fun m h => by
      have h1 := h.2.1
      have h2 := h.2.2.2
      rw [hdec.out] at h1
      simp only at h1
      rw [h1] at h2
      refine of_decide_eq_false hQ.out ?_
      unfold byP
      rw [h2, List.map_map]
      conv => rhs; rw [← List.map_id cN]
      rfl
    have kf := hz2.setRow #[.int .u8 0, .int .i64 0, .int .i64 0, .int .i64 0, .int .i64 0, .int .i64 0, .bool false, .slice none 0 0, .int .i64 0, .bool false, .slice none 0 0, .int .i64 0, .bool false, .slice none 0 0, .int .i64 0, .bool false, .slice none 0 0, .int .i64 0, .bool false, .slice none 0 0, .bool false, .int .i64 0, .int .i64 0, .slice none 0 0]
    have hBf := below_setRow (g := w.heap.size) hB2 (Nat.le_refl _) #[.int .u8 0, .int .i64 0, .int .i64 0, .int .i64 0, .int .i64 0, .int .i64 0, .bool false, .slice none 0 0, .int .i64 0, .bool false, .slice none 0 0, .int .i64 0, .bool false, .slice none 0 0, .int .i64 0, .bool false, .slice none 0 0, .int .i64 0, .bool false, .slice none 0 0, .bool false, .int .i64 0, .int .i64 0, .slice none 0 0]
    go_wp2_with (refine wpList_store_row rfl 31 _ _ rfl w.heap.size #[.int .u8 0, .int .i64 0, .int .i64 0, .int .i64 0, .int .i64 0, .int .i64 0, .bool false, .slice none 0 0, .int .i64 0, .bool false, .slice none 0 0, .int .i64 0, .bool false, .slice none 0 0, .int .i64 0, .bool false, .slice none 0 0, .int .i64 0, .bool false, .slice none 0 0, .bool false, .int .i64 0, .int .i64 0, .slice none 0 0] rfl rfl 31 #[.int .u8 0, .int .i64 0, .int .i64 0, .int .i64 0, .int .i64 0, .int .i64 0, .bool false, .slice none 0 0, .int .i64 0, .bool false, .slice none 0 0, .int .i64 0, .bool false, .slice none 0 0, .int .i64 0, .bool false, .slice none 0 0, .int .i64 0, .bool false, .slice none 0 0, .bool false, .int .i64 0, .int .i64 0, .slice none 0 0] hz2.row info_mail rfl (by simp [Value.oneCell']) ?_)
    (try simp only [Exit.inBlock, Exit.then])
    refine bodyPost_ret (results_row_slot rfl _ _ w.heap.size 31 #[.int .u8 0, .int .i64 0, .int .i64 0, .int .i64 0, .int .i64 0, .int .i64 0, .bool false, .slice none 0 0, .int .i64 0, .bool false, .slice none 0 0, .int .i64 0, .bool false, .slice none 0 0, .int .i64 0, .bool false, .slice none 0 0, .int .i64 0, .bool false, .slice none 0 0, .bool false, .int .i64 0, .int .i64 0, .slice none 0 0] (0, 0) _ rfl kf.row Try.underlying31 rfl info_mail) rfl ?_
    exact ⟨hBf, zeroO, 41, rfl, ownL_zero _ _, .inr ⟨rfl, rfl, hno⟩⟩
  · have hgood : Hid (GoodM 1 (cN.map Int.ofNat) om.x) := Lib.hid (by
      refine ⟨by rw [hdec.out, hwr]; rfl, by rw [hdec.out], ghok.out, ?_⟩
      have h3 := of_decide_eq_true hQ.out
      rw [← h3]
      unfold byP
      rw [List.map_map]
      conv => lhs; rw [← List.map_id (flat (conP om.x))]
      apply List.map_congr_left
      intro b hb
      have := (flat_byte _ b hb).1
      simp [Int.toNat_of_nonneg this])
    have kf := hz2.setRow #[.int .u8 1, .int .i64 x1, .int .i64 x2, .int .i64 x3, .int .i64 x4, .int .i64 0, .bool da.neg, .slice Xa da.ls.length ca, .int .i64 da.ex, .bool db.neg, .slice Xb db.ls.length cb, .int .i64 db.ex, .bool false, .slice none 0 0, .int .i64 0, .bool false, .slice none 0 0, .int .i64 0, .bool false, .slice none 0 0, .bool false, .int .i64 0, .int .i64 0, .slice none 0 0]
    have hBf := below_setRow (g := w.heap.size) hB2 (Nat.le_refl _) #[.int .u8 1, .int .i64 x1, .int .i64 x2, .int .i64 x3, .int .i64 x4, .int .i64 0, .bool da.neg, .slice Xa da.ls.length ca, .int .i64 da.ex, .bool db.neg, .slice Xb db.ls.length cb, .int .i64 db.ex, .bool false, .slice none 0 0, .int .i64 0, .bool false, .slice none 0 0, .int .i64 0, .bool false, .slice none 0 0, .bool false, .int .i64 0, .int .i64 0, .slice none 0 0]
    have gof : Hid (ownL (y11.setRow w.heap.size #[.int .u8 1, .int .i64 x1, .int .i64 x2, .int .i64 x3, .int .i64 x4, .int .i64 0, .bool da.neg, .slice Xa da.ls.length ca, .int .i64 da.ex, .bool db.neg, .slice Xb db.ls.length cb, .int .i64 db.ex, .bool false, .slice none 0 0, .int .i64 0, .bool false, .slice none 0 0, .int .i64 0, .bool false, .slice none 0 0, .bool false, .int .i64 0, .int .i64 0, .slice none 0 0]) w.heap.size om) := Lib.hid (ownL.setRow (ownL.base (ownL.below gown.out ghB11.out) (by omega)) (by omega) (by omega) _)
    go_wp2_with (first | (refine wpList_load_row rfl 31 _ rfl gm rfl 31 #[.int .u8 1, .int .i64 x1, .int .i64 x2, .int .i64 x3, .int .i64 x4, .int .i64 0, .bool da.neg, .slice Xa da.ls.length ca, .int .i64 da.ex, .bool db.neg, .slice Xb db.ls.length cb, .int .i64 db.ex, .bool false, .slice none 0 0, .int .i64 0, .bool false, .slice none 0 0, .int .i64 0, .bool false, .slice none 0 0, .bool false, .int .i64 0, .int .i64 0, .slice none 0 0] (0, 0) _ u12.row Try.underlying31 rfl (by kernel_rfl) ?_) | (refine wpList_store_row rfl 31 _ _ rfl w.heap.size #[.int .u8 1, .int .i64 x1, .int .i64 x2, .int .i64 x3, .int .i64 x4, .int .i64 0, .bool da.neg, .slice Xa da.ls.length ca, .int .i64 da.ex, .bool db.neg, .slice Xb db.ls.length cb, .int .i64 db.ex, .bool false, .slice none 0 0, .int .i64 0, .bool false, .slice none 0 0, .int .i64 0, .bool false, .slice none 0 0, .bool false, .int .i64 0, .int .i64 0, .slice none 0 0] rfl rfl 31 #[.int .u8 0, .int .i64 0, .int .i64 0, .int .i64 0, .int .i64 0, .int .i64 0, .bool false, .slice none 0 0, .int .i64 0, .bool false, .slice none 0 0, .int .i64 0, .bool false, .slice none 0 0, .int .i64 0, .bool false, .slice none 0 0, .int .i64 0, .bool false, .slice none 0 0, .bool false, .int .i64 0, .int .i64 0, .slice none 0 0] hz2.row info_mail rfl (by simp [Value.oneCell']) ?_))
    (try simp only [Exit.inBlock, Exit.then])
    refine bodyPost_ret (results_row_slot rfl _ _ w.heap.size 31 #[.int .u8 1, .int .i64 x1, .int .i64 x2, .int .i64 x3, .int .i64 x4, .int .i64 0, .bool da.neg, .slice Xa da.ls.length ca, .int .i64 da.ex, .bool db.neg, .slice Xb db.ls.length cb, .int .i64 db.ex, .bool false, .slice none 0 0, .int .i64 0, .bool false, .slice none 0 0, .int .i64 0, .bool false, .slice none 0 0, .bool false, .int .i64 0, .int .i64 0, .slice none 0 0] (0, 0) _ rfl kf.row Try.underlying31 rfl info_mail) rfl ?_
    exact ⟨hBf, om, 0, by rw [gagg.out]; rfl, gof.out, .inl ⟨rfl, hgood.out⟩⟩
end Go.Proofs.Ytjmhefkmpfkpbaa
