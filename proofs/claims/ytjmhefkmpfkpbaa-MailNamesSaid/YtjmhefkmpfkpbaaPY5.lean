/- Mail: mail.Read: kind 5 -/
import Derived.Test.YtjmhefkmpfkpbaaPXR
namespace Go.Proofs.Ytjmhefkmpfkpbaa
open Go.ChangeShapes Go.WideShapes Go.ChangeAt Go.RowKit
set_option linter.unusedSimpArgs false
set_option linter.unusedVariables false
set_option maxRecDepth 100000 in
set_option maxHeartbeats 32000000 in
theorem read5 (v : Value) (cN : List Nat) (hcl : ∀ b ∈ cN, b < 256) (hcm : cN.length ≤ 100000) (w : World) 
    (hcall : ∀ V, Below w.heap.size w V → Calls Try.prog 23 #[v] V fun en w' => (∃ A n c, en = .returned (.tuple #[.int .u8 5, .slice A n c, .int .i64 0]) ∧ n = cN.length ∧ n ≤ c ∧ Reads w' w'.heap.size 1 A n (bytes cN)) ∧ Below V.heap.size V w') :
    Calls Try.prog 14 #[v] w (RdP 5 (cN.map Int.ofNat) w) := by
  obtain ⟨V, hV⟩ : ∃ V, V = w.alloc (.cells #[.int .u8 0, .int .i64 0, .int .i64 0, .int .i64 0, .int .i64 0, .int .i64 0, .bool false, .slice none 0 0, .int .i64 0, .bool false, .slice none 0 0, .int .i64 0, .bool false, .slice none 0 0, .int .i64 0, .bool false, .slice none 0 0, .int .i64 0, .bool false, .slice none 0 0, .bool false, .int .i64 0, .int .i64 0, .slice none 0 0] 31) := ⟨_, rfl⟩
  have hB : Below w.heap.size w V := by rw [hV]; exact (Below.refl _ _).alloc (Nat.le_refl _) _
  have kz : Blk V w.heap.size 31 #[.int .u8 0, .int .i64 0, .int .i64 0, .int .i64 0, .int .i64 0, .int .i64 0, .bool false, .slice none 0 0, .int .i64 0, .bool false, .slice none 0 0, .int .i64 0, .bool false, .slice none 0 0, .int .i64 0, .bool false, .slice none 0 0, .int .i64 0, .bool false, .slice none 0 0, .bool false, .int .i64 0, .int .i64 0, .slice none 0 0] := by rw [hV]; exact Blk.new _ _ _
  have hc := hcall V hB
  have hcb : ∀ b ∈ cN.map Int.ofNat, 0 ≤ b ∧ b < 256 := fun b hb => by
    obtain ⟨x, hx, rfl⟩ := List.mem_map.1 hb
    have := hcl x hx
    exact ⟨Int.natCast_nonneg x, by show (x : Int) < 256; omega⟩
  clear hcall
  go_enter Try.func14, Try.ntmps14
  go_upto_region 1 with (fail)
  rw [← hV]
  clear hV
  go_wp2_with fail
  refine hc.mono ?_
  rintro en w0 ⟨⟨A, n, c, rfl, hn0, hnc, hR0⟩, hb0⟩
  have hn : Hid ((cN.map Int.ofNat).length = n) := Lib.hid (by rw [List.length_map, hn0])
  have hm : n ≤ 100000 := by omega
  have hub : bytes cN = u8s (cN.map Int.ofNat) := by unfold bytes u8s; rw [List.map_map]; rfl
  have hcv : ∀ w', Below w0.heap.size w0 w' → (convert 34 9 (.slice A n c)).run Try.prog w' = .ok (.string (strOf cN)) w' := fun w' hw => conv_str hn0.symm hcl (hR0.below hw)
  rw [hub] at hR0
  clear hub hc hn0
  obtain ⟨w1, hw1⟩ : ∃ x, x = w0 := ⟨_, rfl⟩
  rw [← hw1] at hb0 hR0 hcv ⊢
  clear hw1
  obtain ⟨W1, hW1⟩ : ∃ W, W = w1.alloc (.cells #[.slice A n c, .int .i64 0, .bool false] 69) := ⟨_, rfl⟩
  have hbW : Below w1.heap.size w1 W1 := by rw [hW1]; exact (Below.refl _ _).alloc (Nat.le_refl _) _
  have hk : Hid (Rdb W1 w1.heap.size A n c (some 0)) := Lib.hid (by rw [hW1]; exact Blk.new _ _ _)
  have hst : ∀ p, some 0 = some p → p ≤ n := fun p h => by injection h with h; omega
  have hz0 : w.heap.size < w1.heap.size := Nat.lt_of_lt_of_le kz.lt hb0.size
  have hR : Reads w1 w1.heap.size 1 A n (u8s (cN.map Int.ofNat)) := hR0
  have hgw : w1.heap.size ≤ w1.heap.size := Nat.le_refl _
  have gW : Hid (Below w1.heap.size w1 W1) := Lib.hid hbW
  have gB : Hid (Below w.heap.size w W1) := Lib.hid ((hB.trans (hb0.mono hB.size)).trans (hbW.mono (by omega)))
  replace kz := Lib.hid ((kz.below hb0 kz.lt).below hbW (Nat.lt_of_lt_of_le kz.lt hb0.size))
  go_upto_region 5 with (fail)
  rw [← hW1]
  have zW1 := hbW.size
  have zk : w1.heap.size < W1.heap.size := hk.out.lt
  clear hW1 hbW hb0 hB hR0
  go_wp2_with fail
  refine (rnum_any w1.heap.size A n c (cN.map Int.ofNat) hn.out hcb hm hnc 1 1 rfl (by omega) (by omega) (some 0) hst W1 hk.out ((hR.below gW.out).more gW.out.size)).mono ?_
  rintro en v1 ⟨rfl, hk1, hO1⟩
  have hxr := rN_range hcb (some 0) 1
  replace hst : ∀ p, (rN (cN.map Int.ofNat) (some 0) 1).1 = some p → p ≤ n := fun p h => by have := rN_le p h; have := hn.out; omega
  obtain ⟨⟨s1, x1⟩, e1⟩ : ∃ r, rN (cN.map Int.ofNat) (some 0) 1 = r := ⟨_, rfl⟩
  rw [e1] at hk1 hxr hst ⊢
  dsimp only at hk1 hxr hst ⊢
  have g1 := Lib.hid e1
  clear e1
  have zv1 := hO1.size
  replace gW := Lib.hid (gW.out.trans (hO1.below gW.out.size hgw))
  replace kz := Lib.hid (hO1.blk kz.out (by omega))
  replace hk := Lib.hid hk1
  replace gB := Lib.hid (gB.out.trans (hO1.below (by omega) (by omega)))
  clear hk1 hO1
  have bx1 := hxr
  clear hxr
  go_wp2_with fail
  refine (rnum_any w1.heap.size A n c (cN.map Int.ofNat) hn.out hcb hm hnc 1 1 rfl (by omega) (by omega) s1 hst v1 hk.out ((hR.below gW.out).more gW.out.size)).mono ?_
  rintro en v2 ⟨rfl, hk1, hO1⟩
  have hxr := rN_range hcb s1 1
  replace hst : ∀ p, (rN (cN.map Int.ofNat) s1 1).1 = some p → p ≤ n := fun p h => by have := rN_le p h; have := hn.out; omega
  obtain ⟨⟨s2, x2⟩, e2⟩ : ∃ r, rN (cN.map Int.ofNat) s1 1 = r := ⟨_, rfl⟩
  rw [e2] at hk1 hxr hst ⊢
  dsimp only at hk1 hxr hst ⊢
  have g2 := Lib.hid e2
  clear e2
  have zv2 := hO1.size
  replace gW := Lib.hid (gW.out.trans (hO1.below gW.out.size hgw))
  replace kz := Lib.hid (hO1.blk kz.out (by omega))
  replace hk := Lib.hid hk1
  replace gB := Lib.hid (gB.out.trans (hO1.below (by omega) (by omega)))
  clear hk1 hO1
  have bx2 := hxr
  clear hxr
  go_wp2_with fail
  refine (rnum_any w1.heap.size A n c (cN.map Int.ofNat) hn.out hcb hm hnc 2 2 rfl (by omega) (by omega) s2 hst v2 hk.out ((hR.below gW.out).more gW.out.size)).mono ?_
  rintro en v3 ⟨rfl, hk1, hO1⟩
  have hxr := rN_range hcb s2 2
  replace hst : ∀ p, (rN (cN.map Int.ofNat) s2 2).1 = some p → p ≤ n := fun p h => by have := rN_le p h; have := hn.out; omega
  obtain ⟨⟨s3, x3⟩, e3⟩ : ∃ r, rN (cN.map Int.ofNat) s2 2 = r := ⟨_, rfl⟩
  rw [e3] at hk1 hxr hst ⊢
  dsimp only at hk1 hxr hst ⊢
  have g3 := Lib.hid e3
  clear e3
  have zv3 := hO1.size
  replace gW := Lib.hid (gW.out.trans (hO1.below gW.out.size hgw))
  replace kz := Lib.hid (hO1.blk kz.out (by omega))
  replace hk := Lib.hid hk1
  replace gB := Lib.hid (gB.out.trans (hO1.below (by omega) (by omega)))
  clear hk1 hO1
  have bx3 := hxr
  clear hxr
  go_wp2_with fail
  refine (rnum_any w1.heap.size A n c (cN.map Int.ofNat) hn.out hcb hm hnc 3 3 rfl (by omega) (by omega) s3 hst v3 hk.out ((hR.below gW.out).more gW.out.size)).mono ?_
  rintro en v4 ⟨rfl, hk1, hO1⟩
  have hxr := rN_range hcb s3 3
  replace hst : ∀ p, (rN (cN.map Int.ofNat) s3 3).1 = some p → p ≤ n := fun p h => by have := rN_le p h; have := hn.out; omega
  obtain ⟨⟨s4, x4⟩, e4⟩ : ∃ r, rN (cN.map Int.ofNat) s3 3 = r := ⟨_, rfl⟩
  rw [e4] at hk1 hxr hst ⊢
  dsimp only at hk1 hxr hst ⊢
  have g4 := Lib.hid e4
  clear e4
  have zv4 := hO1.size
  replace gW := Lib.hid (gW.out.trans (hO1.below gW.out.size hgw))
  replace kz := Lib.hid (hO1.blk kz.out (by omega))
  replace hk := Lib.hid hk1
  replace gB := Lib.hid (gB.out.trans (hO1.below (by omega) (by omega)))
  clear hk1 hO1
  have bx4 := hxr
  clear hxr
  have hg0 : (v4.alloc (.cells #[.int .u8 0, .int .i64 0, .int .i64 0, .int .i64 0, .int .i64 0, .int .i64 0, .bool false, .slice none 0 0, .int .i64 0, .bool false, .slice none 0 0, .int .i64 0, .bool false, .slice none 0 0, .int .i64 0, .bool false, .slice none 0 0, .int .i64 0, .bool false, .slice none 0 0, .bool false, .int .i64 0, .int .i64 0, .slice none 0 0] 31)).heap[v4.heap.size]? = some (.cells #[.int .u8 0, .int .i64 0, .int .i64 0, .int .i64 0, .int .i64 0, .int .i64 0, .bool false, .slice none 0 0, .int .i64 0, .bool false, .slice none 0 0, .int .i64 0, .bool false, .slice none 0 0, .int .i64 0, .bool false, .slice none 0 0, .int .i64 0, .bool false, .slice none 0 0, .bool false, .int .i64 0, .int .i64 0, .slice none 0 0] 31 (0, 0)) := Blk.new v4 31 #[.int .u8 0, .int .i64 0, .int .i64 0, .int .i64 0, .int .i64 0, .int .i64 0, .bool false, .slice none 0 0, .int .i64 0, .bool false, .slice none 0 0, .int .i64 0, .bool false, .slice none 0 0, .int .i64 0, .bool false, .slice none 0 0, .int .i64 0, .bool false, .slice none 0 0, .bool false, .int .i64 0, .int .i64 0, .slice none 0 0]
  go_upto_region 7 with (refine wpList_store_row rfl 31 _ _ rfl v4.heap.size #[.int .u8 5, .int .i64 x1, .int .i64 x2, .int .i64 x3, .int .i64 x4, .int .i64 0, .bool false, .slice none 0 0, .int .i64 0, .bool false, .slice none 0 0, .int .i64 0, .bool false, .slice none 0 0, .int .i64 0, .bool false, .slice none 0 0, .int .i64 0, .bool false, .slice none 0 0, .bool false, .int .i64 0, .int .i64 0, .slice none 0 0] rfl rfl 31 #[.int .u8 0, .int .i64 0, .int .i64 0, .int .i64 0, .int .i64 0, .int .i64 0, .bool false, .slice none 0 0, .int .i64 0, .bool false, .slice none 0 0, .int .i64 0, .bool false, .slice none 0 0, .int .i64 0, .bool false, .slice none 0 0, .int .i64 0, .bool false, .slice none 0 0, .bool false, .int .i64 0, .int .i64 0, .slice none 0 0] hg0 info_mail rfl (by simp [Value.oneCell']) ?_)
  obtain ⟨U, hU⟩ : ∃ U, U = (v4.alloc (.cells #[.int .u8 0, .int .i64 0, .int .i64 0, .int .i64 0, .int .i64 0, .int .i64 0, .bool false, .slice none 0 0, .int .i64 0, .bool false, .slice none 0 0, .int .i64 0, .bool false, .slice none 0 0, .int .i64 0, .bool false, .slice none 0 0, .int .i64 0, .bool false, .slice none 0 0, .bool false, .int .i64 0, .int .i64 0, .slice none 0 0] 31)).setRow v4.heap.size #[.int .u8 5, .int .i64 x1, .int .i64 x2, .int .i64 x3, .int .i64 x4, .int .i64 0, .bool false, .slice none 0 0, .int .i64 0, .bool false, .slice none 0 0, .int .i64 0, .bool false, .slice none 0 0, .int .i64 0, .bool false, .slice none 0 0, .int .i64 0, .bool false, .slice none 0 0, .bool false, .int .i64 0, .int .i64 0, .slice none 0 0] := ⟨_, rfl⟩
  have hbU : Below v4.heap.size v4 U := by rw [hU]; exact below_setRow (g := v4.heap.size) ((Below.refl _ _).alloc (Nat.le_refl _) _) (Nat.le_refl _) _
  have km : Hid (Blk U v4.heap.size 31 #[.int .u8 5, .int .i64 x1, .int .i64 x2, .int .i64 x3, .int .i64 x4, .int .i64 0, .bool false, .slice none 0 0, .int .i64 0, .bool false, .slice none 0 0, .int .i64 0, .bool false, .slice none 0 0, .int .i64 0, .bool false, .slice none 0 0, .int .i64 0, .bool false, .slice none 0 0, .bool false, .int .i64 0, .int .i64 0, .slice none 0 0]) := Lib.hid (by rw [hU]; exact (Blk.new v4 31 #[.int .u8 0, .int .i64 0, .int .i64 0, .int .i64 0, .int .i64 0, .int .i64 0, .bool false, .slice none 0 0, .int .i64 0, .bool false, .slice none 0 0, .int .i64 0, .bool false, .slice none 0 0, .int .i64 0, .bool false, .slice none 0 0, .int .i64 0, .bool false, .slice none 0 0, .bool false, .int .i64 0, .int .i64 0, .slice none 0 0]).setRow _)
  have zU := hbU.size
  replace kz := Lib.hid (kz.out.below hbU kz.out.lt)
  replace hk := Lib.hid (hk.out.below hbU)
  replace gW := Lib.hid (gW.out.trans (hbU.mono gW.out.size))
  replace gB := Lib.hid (gB.out.trans (hbU.mono (by omega)))
  have hgm : w1.heap.size < v4.heap.size := by omega
  obtain ⟨gm, hgmE⟩ : ∃ x, v4.heap.size = x := ⟨_, rfl⟩
  rw [hgmE] at km hgm hU ⊢
  rw [← hU]
  clear hU hbU hg0
  have hgU : gm < U.heap.size := km.out.lt
  have ggm := Lib.hid hgmE
  clear hgmE
  go_wp2_with fail
  refine (rnum_any w1.heap.size A n c (cN.map Int.ofNat) hn.out hcb hm hnc 1 1 rfl (by omega) (by omega) s4 hst U hk.out ((hR.below gW.out).more gW.out.size)).mono ?_
  rintro en v5 ⟨rfl, hk1, hO1⟩
  have hxr := rN_range hcb s4 1
  replace hst : ∀ p, (rN (cN.map Int.ofNat) s4 1).1 = some p → p ≤ n := fun p h => by have := rN_le p h; have := hn.out; omega
  obtain ⟨⟨s5, x5⟩, e5⟩ : ∃ r, rN (cN.map Int.ofNat) s4 1 = r := ⟨_, rfl⟩
  rw [e5] at hk1 hxr hst ⊢
  dsimp only at hk1 hxr hst ⊢
  have g5 := Lib.hid e5
  clear e5
  have zv5 := hO1.size
  replace gW := Lib.hid (gW.out.trans (hO1.below gW.out.size hgw))
  replace kz := Lib.hid (hO1.blk kz.out (by omega))
  replace km := Lib.hid (hO1.blk km.out (by omega))
  replace hk := Lib.hid hk1
  replace gB := Lib.hid (gB.out.trans (hO1.below (by omega) (by omega)))
  clear hk1 hO1
  have bx5 := hxr
  clear hxr
  have m18 : v5.cell? ⟨gm, 18, none⟩ = some (.bool false) := by rw [km.out.cell]; rfl
  have mf18 : v5.frozen? ⟨gm, 18, none⟩ = false := km.out.frozen 18
  go_upto_region 17 with (fail)
  obtain ⟨X5, hX5⟩ : ∃ X, X = (v5.setCell ⟨gm, 18, none⟩ (.bool (x5 == 1))) := ⟨_, rfl⟩
  have kk0 : Blk _ gm 31 #[.int .u8 5, .int .i64 x1, .int .i64 x2, .int .i64 x3, .int .i64 x4, .int .i64 0, .bool false, .slice none 0 0, .int .i64 0, .bool false, .slice none 0 0, .int .i64 0, .bool false, .slice none 0 0, .int .i64 0, .bool false, .slice none 0 0, .int .i64 0, .bool (x5 == 1), .slice none 0 0, .bool false, .int .i64 0, .int .i64 0, .slice none 0 0] := (show _ from by simpa using km.out.set_ 18 (.bool (x5 == 1)))
  replace km : Hid (Blk X5 gm 31 #[.int .u8 5, .int .i64 x1, .int .i64 x2, .int .i64 x3, .int .i64 x4, .int .i64 0, .bool false, .slice none 0 0, .int .i64 0, .bool false, .slice none 0 0, .int .i64 0, .bool false, .slice none 0 0, .int .i64 0, .bool false, .slice none 0 0, .int .i64 0, .bool (x5 == 1), .slice none 0 0, .bool false, .int .i64 0, .int .i64 0, .slice none 0 0]) := Lib.hid (by rw [hX5]; exact kk0)
  replace kz : Hid (Blk X5 w.heap.size 31 #[.int .u8 0, .int .i64 0, .int .i64 0, .int .i64 0, .int .i64 0, .int .i64 0, .bool false, .slice none 0 0, .int .i64 0, .bool false, .slice none 0 0, .int .i64 0, .bool false, .slice none 0 0, .int .i64 0, .bool false, .slice none 0 0, .int .i64 0, .bool false, .slice none 0 0, .bool false, .int .i64 0, .int .i64 0, .slice none 0 0]) := Lib.hid (by rw [hX5]; exact (kz.out.far (p := ⟨gm, 18, none⟩) (by show _ ≠ gm; omega) (.bool (x5 == 1))))
  replace hk : Hid (Rdb X5 w1.heap.size A n c s5) := Lib.hid (by rw [hX5]; exact (hk.out.far (q := ⟨gm, 18, none⟩) (by show _ ≠ gm; omega) (.bool (x5 == 1))))
  replace gW : Hid (Below w1.heap.size w1 X5) := Lib.hid (by rw [hX5]; exact (gW.out.setCell (p := ⟨gm, 18, none⟩) (by show _ ≤ gm; omega) (.bool (x5 == 1))))
  replace gB : Hid (Below w.heap.size w X5) := Lib.hid (by rw [hX5]; exact (gB.out.setCell (p := ⟨gm, 18, none⟩) (by show _ ≤ gm; omega) (.bool (x5 == 1))))
  have zzX5 : X5.heap.size = v5.heap.size := by rw [hX5]; simp
  rw [← hX5]
  clear hX5 m18 mf18 kk0
  go_wp2_with fail
  refine (rnum_any w1.heap.size A n c (cN.map Int.ofNat) hn.out hcb hm hnc 1 1 rfl (by omega) (by omega) s5 hst X5 hk.out ((hR.below gW.out).more gW.out.size)).mono ?_
  rintro en v6 ⟨rfl, hk1, hO1⟩
  have hxr := rN_range hcb s5 1
  replace hst : ∀ p, (rN (cN.map Int.ofNat) s5 1).1 = some p → p ≤ n := fun p h => by have := rN_le p h; have := hn.out; omega
  obtain ⟨⟨s6, x6⟩, e6⟩ : ∃ r, rN (cN.map Int.ofNat) s5 1 = r := ⟨_, rfl⟩
  rw [e6] at hk1 hxr hst ⊢
  dsimp only at hk1 hxr hst ⊢
  have g6 := Lib.hid e6
  clear e6
  have zv6 := hO1.size
  replace gW := Lib.hid (gW.out.trans (hO1.below gW.out.size hgw))
  replace kz := Lib.hid (hO1.blk kz.out (by omega))
  replace km := Lib.hid (hO1.blk km.out (by omega))
  replace hk := Lib.hid hk1
  replace gB := Lib.hid (gB.out.trans (hO1.below (by omega) (by omega)))
  clear hk1 hO1
  have bx6 := hxr
  clear hxr
  obtain ⟨i0, hi0, hz0, hz1, hz2⟩ := info_parts infoDs
  obtain ⟨N, rfl⟩ : ∃ N : Nat, x6 = (N : Int) := ⟨x6.toNat, by omega⟩
  have hN : N < 256 := by omega
  have ho0 : Hid (v6.ownsRow (gm + 1) 73 2 (.slice none 0 0) 0 (T2 [])) := Lib.hid (own_nil (c := 0))
  have hstq := Lib.hid hst
  clear hst
  skip
  go_wp2
  go_loopw [10] (fun t wr => ∃ (j : Nat) (D : Option Addr) (k cc : Nat) (st : Option Nat) (acc : List Tm), t = .int .i64 (j : Int) ∧ j ≤ N ∧ Hid (lpD (cN.map Int.ofNat) N s6 [] = lpD (cN.map Int.ofNat) j st acc) ∧ Hid (∀ p, st = some p → p ≤ n) ∧ Hid (Rdb wr w1.heap.size A n c st) ∧ Hid (Blk wr gm 31 #[.int .u8 5, .int .i64 x1, .int .i64 x2, .int .i64 x3, .int .i64 x4, .int .i64 0, .bool false, .slice none 0 0, .int .i64 0, .bool false, .slice none 0 0, .int .i64 0, .bool false, .slice none 0 0, .int .i64 0, .bool false, .slice none 0 0, .int .i64 0, .bool (x5 == 1), .slice D k cc, .bool false, .int .i64 0, .int .i64 0, .slice none 0 0]) ∧ Hid (wr.ownsRow (gm + 1) 73 2 (.slice D k cc) k (T2 acc)) ∧ acc.length = k ∧ k + j ≤ N ∧ Hid (Below w1.heap.size w1 wr) ∧ Hid (Below w.heap.size w wr) ∧ Hid (Blk wr w.heap.size 31 #[.int .u8 0, .int .i64 0, .int .i64 0, .int .i64 0, .int .i64 0, .int .i64 0, .bool false, .slice none 0 0, .int .i64 0, .bool false, .slice none 0 0, .int .i64 0, .bool false, .slice none 0 0, .int .i64 0, .bool false, .slice none 0 0, .int .i64 0, .bool false, .slice none 0 0, .bool false, .int .i64 0, .int .i64 0, .slice none 0 0]) ∧ gm < wr.heap.size) (fun t _ => (intOf t).toNat)
  case atStart => exact ⟨N, none, 0, 0, s6, [], rfl, Nat.le_refl _, Lib.hid rfl, hstq, hk, km, ho0, rfl, by omega, gW, gB, kz, by omega⟩
  case round =>
    clear hk km ho0 gW gB kz hstq
    obtain ⟨j, D, k, cc, st, acc, rfl, hjN, hlp, hst', hk, km, hrow, hacc, hkj, gW, gB, kz, hgU⟩ := hrel
    obtain ⟨q, hq⟩ : ∃ q : Bool, (decide (0 < j) && st.isSome) = q := ⟨_, rfl⟩
    have hwr := hk.out.wrong
    go_upto_region 18 with (fail)
    go_cut [85] (fun t wx => t = .bool q ∧ wr = wx)
    case first =>
      rcases Nat.lt_or_ge 0 j with hj | hj
      · have d1 : decide ((0 : Int) < (j : Int)) = true := decide_eq_true (by omega)
        rw [decide_eq_true hj, Bool.true_and] at hq
        cases st
        · simp only [Option.isNone] at hwr
          obtain rfl : false = q := hq
          clear hlp hst' hk km hrow gW gB kz
          go_wp2
          go_meet
          exact ⟨rfl, rfl⟩
        · simp only [Option.isNone] at hwr
          obtain rfl : true = q := hq
          clear hlp hst' hk km hrow gW gB kz
          go_wp2
          go_meet
          exact ⟨rfl, rfl⟩
      · have d1 : decide ((0 : Int) < (j : Int)) = false := decide_eq_false (by omega)
        obtain rfl : false = q := by rw [← hq, decide_eq_false (by omega)]; rfl
        clear hlp hst' hk km hrow gW gB kz
        go_wp2
        go_meet
        exact ⟨rfl, rfl⟩
    case rest =>
      obtain ⟨rfl, rfl⟩ := hcut
      clear hwr
      cases q with
      | true =>
        obtain ⟨j, rfl⟩ : ∃ i, j = i + 1 := ⟨j - 1, by by_cases h : 0 < j; omega; rw [decide_eq_false h] at hq; simp at hq⟩
        obtain ⟨p, rfl⟩ : ∃ p, st = some p := by cases st; simp at hq; exact ⟨_, rfl⟩
        clear hq
        have hk0 := hk.out.below (Below.refl _ _).drew
        have hst0 := hst'.out
        have hR0 := (hR.below gW.out.drew).more (show w1.heap.size ≤ wr.drew.heap.size from gW.out.size)
        obtain ⟨⟨sa, xa⟩, ea⟩ : ∃ r, rN (cN.map Int.ofNat) (some p) 1 = r := ⟨_, rfl⟩
        have ba := rN_range hcb (some p) 1
        rw [ea] at ba
        dsimp only at ba
        have hsta : ∀ p, sa = some p → p ≤ n := fun p' h => by have := rN_le (l := (cN.map Int.ofNat)) (st := some p) (s := 1) p' (by rw [ea]; exact h); have := hn.out; omega
        have kd0 := km.out.drew
        have l0 : wr.drew.cell? ⟨gm, 19, none⟩ = some (.slice D k cc) := by rw [kd0.cell]; rfl
        obtain ⟨⟨sb, xb⟩, eb⟩ : ∃ r, rN (cN.map Int.ofNat) sa 4 = r := ⟨_, rfl⟩
        have bb := rN_range hcb sa 4
        rw [eb] at bb
        dsimp only at bb
        have hstb : ∀ p, sb = some p → p ≤ n := fun p' h => by have := rN_le (l := (cN.map Int.ofNat)) (st := sa) (s := 4) p' (by rw [eb]; exact h); have := hn.out; omega
        have hstep : Hid (lpD (cN.map Int.ofNat) (j + 1) (some p) acc = lpD (cN.map Int.ofNat) j sb (acc ++ [(xa, xb)])) := Lib.hid (by rw [lpD, ea]; dsimp only; rw [eb])
        go_upto_region 20 with (fail)
        have sdr : wr.drew.heap.size = wr.heap.size := rfl
        have kmw := kd0
        have kzw := kz.out.drew
        have orw := own_below hrow.out (Below.refl _ _).drew
        have gWw := gW.out.drew
        have gBw := gB.out.drew
        refine wp_region_noPanic ?_
        refine wp_region_held_drew (S := fun _ => True) (by kernel_rfl) (trivial) (fun hHeld => ?_)
        refine wpAnyH_take (i := 0) (v := ?_) rfl (by kernel_rfl) (by kernel_rfl) (by kernel_rfl) (fun _ _ _ h => h) (Or.inl ⟨by rfl, ?_⟩) (by assumption) ?_
        rotate_left
        · (intro w hSw; (try dsimp only at hSw); go_simp; (try with_reducible rfl))
        (try simp only [Act.put, List.setIfInBounds_toArray, List.set_cons_zero, List.set_cons_succ])
        refine wpAnyH_take (i := 2) (v := ?_) rfl (by kernel_rfl) (by kernel_rfl) (by kernel_rfl) (fun _ _ _ h => h) (Or.inl ⟨by rfl, ?_⟩) (by assumption) ?_
        rotate_left
        · (intro w hSw; (try dsimp only at hSw); go_simp; (try with_reducible rfl))
        (try simp only [Act.put, List.setIfInBounds_toArray, List.set_cons_zero, List.set_cons_succ])
        refine wpAnyH_take (i := 4) (v := ?_) rfl (by kernel_rfl) (by kernel_rfl) (by kernel_rfl) (fun _ _ _ h => h) (Or.inl ⟨by rfl, ?_⟩) (by assumption) ?_
        rotate_left
        · (intro w hSw; (try dsimp only at hSw); go_simp; (try with_reducible rfl))
        (try simp only [Act.put, List.setIfInBounds_toArray, List.set_cons_zero, List.set_cons_succ])
        refine wpAnyH_ready (rs := [1, 3]) (by kernel_rfl) (by simp) ?_
        refine AllReadyH.cons rfl (fun K hK => ?_) (AllReadyH.cons rfl (fun K hK => ?_) AllReadyH.nil)
        · go_simp
          refine hK.out _ _ (trivial) (fun hHeld => ?_)
          clear hK K
          (try simp only [Act.put, List.setIfInBounds_toArray, List.set_cons_zero, List.set_cons_succ])
          refine wpAnyH_ready (rs := [3]) (by kernel_rfl) (by simp) ?_
          refine AllReadyH.cons rfl (fun K hK => ?_) AllReadyH.nil
          go_simp
          with_reducible refine (rnum_any w1.heap.size A n c (cN.map Int.ofNat) hn.out hcb hm hnc 1 1 rfl (by omega) (by omega) (some p) hst0 wr.drew hk0 hR0).mono ?_
          rintro en y3 ⟨rfl, hk3, hO3⟩
          rw [ea] at hk3 ⊢
          dsimp only at hk3 ⊢
          have sy3 := hO3.size
          have kmy3 := hO3.blk kmw (by omega)
          have kzy3 := hO3.blk (kzw) (by omega)
          have ory3 := own_only (orw) hO3 (by omega)
          have gWy3 := (gWw).trans (hO3.below (gWw).size (Nat.le_refl _))
          have gBy3 := (gBw).trans (hO3.below (by omega) (by omega))
          have hRy3 := (hR.below gWy3).more gWy3.size
          have ly3 : y3.cell? ⟨gm, 19, none⟩ = some (.slice D k cc) := by rw [kmy3.cell]; rfl
          refine hK.out _ _ (trivial) (fun hHeld => ?_)
          clear hK K
          (try simp only [Act.put, List.setIfInBounds_toArray, List.set_cons_zero, List.set_cons_succ])
          refine wpAnyH_ready (rs := [5]) (by kernel_rfl) (by simp) ?_
          refine AllReadyH.cons rfl (fun K hK => ?_) AllReadyH.nil
          go_simp
          with_reducible refine (rnum_any w1.heap.size A n c (cN.map Int.ofNat) hn.out hcb hm hnc 4 4 rfl (by omega) (by omega) sa hsta y3 hk3 hRy3).mono ?_
          rintro en y5 ⟨rfl, hk5, hO5⟩
          rw [eb] at hk5 ⊢
          dsimp only at hk5 ⊢
          have sy5 := hO5.size
          have kmy5 := hO5.blk (kmy3) (by omega)
          have kzy5 := hO5.blk (kzy3) (by omega)
          have ory5 := own_only (ory3) hO5 (by omega)
          have gWy5 := (gWy3).trans (hO5.below (gWy3).size (Nat.le_refl _))
          have gBy5 := (gBy3).trans (hO5.below (by omega) (by omega))
          have hRy5 := (hR.below gWy5).more gWy5.size
          have ly5 : y5.cell? ⟨gm, 19, none⟩ = some (.slice D k cc) := by rw [kmy5.cell]; rfl
          refine hK.out _ _ (trivial) (fun hHeld => ?_)
          clear hK K
          (try simp only [Act.put, List.setIfInBounds_toArray, List.set_cons_zero, List.set_cons_succ])
          refine wpAnyH_take (i := 6) (v := ?_) rfl (by kernel_rfl) (by kernel_rfl) (by kernel_rfl) (fun _ _ _ h => h) (Or.inl ⟨by rfl, ?_⟩) (by assumption) ?_
          rotate_left
          · (intro w hSw; (try dsimp only at hSw); go_simp; (try with_reducible rfl))
          (try simp only [Act.put, List.setIfInBounds_toArray, List.set_cons_zero, List.set_cons_succ])
          refine wpAnyH_ready (rs := [7]) (by kernel_rfl) (by simp) ?_
          refine AllReadyH.cons rfl (fun K hK => ?_) AllReadyH.nil
          go_simp
          have km7 := kmy5.alloc (.cells #[.int .i64 xa, .int .i64 xb] 73)
          have l7 : (y5.alloc (.cells #[.int .i64 xa, .int .i64 xb] 73)).cell? ⟨gm, 19, none⟩ = some (.slice D k cc) := by rw [km7.cell]; rfl
          have hb7 : Below y5.heap.size y5 (y5.alloc (.cells #[.int .i64 xa, .int .i64 xb] 73)) := (Below.refl _ _).alloc (Nat.le_refl _) _
          have or7 := own_below ory5 hb7
          refine hK.out _ _ (trivial) (fun hHeld => ?_)
          clear hK K
          (try simp only [Act.put, List.setIfInBounds_toArray, List.set_cons_zero, List.set_cons_succ])
          refine wpAnyH_ready (rs := [8]) (by kernel_rfl) (by simp) ?_
          refine AllReadyH.cons rfl (fun K hK => ?_) AllReadyH.nil
          refine step_append_any _ rfl (.tmp 89) (.tmp 95) 27 rfl (gm + 1) 73 i0 _ 2 16 Try.underlying27 hi0 hz0 hz1 hz2 rfl (by omega) (.slice D k cc) k _ rfl or7 (y5.heap.size + 1) (some ⟨y5.heap.size, 0, none⟩) 1 1 [.int .i64 xa, .int .i64 xb] rfl (reads_one y5 [.int .i64 xa, .int .i64 xb] 73 2 rfl) (by intro u hu; simp at hu; rcases hu with rfl | rfl <;> rfl) (by unfold maxLen; omega) (by omega) (by rw [World.size_alloc]; omega) ?_
          intro v8 y8 ho8 hg8 _
          have hbo : ∀ b, (Value.slice D k cc).ownBlock = some b → gm + 1 ≤ b := fun b hb => own_base or7 hb
          have km8 := km7.grown hg8 (by intro e; have := hbo gm e.symm; omega)
          have kz8 := (kzy5.alloc (.cells #[.int .i64 xa, .int .i64 xb] 73)).grown hg8 (by intro e; have := hbo w.heap.size e.symm; omega)
          have hb8 : Below y5.heap.size y5 y8 ∨ True := .inr trivial
          have rk8 : Rdb y8 w1.heap.size A n c sb := (hk5.below hb7).keep (hg8.block w1.heap.size (by rw [World.size_alloc]; omega) (by intro e; have := hbo w1.heap.size e.symm; omega))
          have gW8 : Below w1.heap.size w1 y8 := (gWy5.trans (hb7.mono gWy5.size)).grown hg8 (by rw [World.size_alloc]; have := gWy5.size; omega) (fun b hb => by have := hbo b hb; omega)
          have gB8 : Below w.heap.size w y8 := (gBy5.trans (hb7.mono (by omega))).grown hg8 (by rw [World.size_alloc]; omega) (fun b hb => by have := hbo b hb; omega)
          have sg8 : gm < y8.heap.size := km8.lt
          have l8 : y8.cell? ⟨gm, 19, none⟩ = some (.slice D k cc) := by rw [km8.cell]; rfl
          have f8 := km8.frozen 19
          obtain ⟨D2, c2, rfl, _, _⟩ := own_slice ho8
          refine hK.out _ _ (trivial) (fun hHeld => ?_)
          clear hK K
          (try simp only [Act.put, List.setIfInBounds_toArray, List.set_cons_zero, List.set_cons_succ])
          refine wpAnyH_take (i := 9) (v := ?_) rfl (by kernel_rfl) (by kernel_rfl) (by kernel_rfl) (fun _ _ _ h => h) (Or.inl ⟨by rfl, ?_⟩) (by assumption) ?_
          rotate_left
          · (intro w hSw; (try dsimp only at hSw); go_simp; (try with_reducible rfl))
          (try simp only [Act.put, List.setIfInBounds_toArray, List.set_cons_zero, List.set_cons_succ])
          refine wpAnyH_ready (rs := [10]) (by kernel_rfl) (by simp) ?_
          refine AllReadyH.cons rfl (fun K hK => ?_) AllReadyH.nil
          go_simp
          have km9 := km8.set_ 19 (.slice D2 (k + 1) c2)
          simp only [List.setIfInBounds_toArray, List.set_cons_zero, List.set_cons_succ] at km9
          have or9 := own_setT (own_mono ho8 (Nat.le_refl _)) (p := ⟨gm, 19, none⟩) (by show gm < gm + 1; omega) (.slice D2 (k + 1) c2)
          have kz9 := kz8.far (p := ⟨gm, 19, none⟩) (by show w.heap.size ≠ gm; omega) (.slice D2 (k + 1) c2)
          have rk9 := rk8.far (q := ⟨gm, 19, none⟩) (by show w1.heap.size ≠ gm; omega) (.slice D2 (k + 1) c2)
          have gW9 := gW8.setCell (p := ⟨gm, 19, none⟩) (by show w1.heap.size ≤ gm; omega) (.slice D2 (k + 1) c2)
          have gB9 := gB8.setCell (p := ⟨gm, 19, none⟩) (by show w.heap.size ≤ gm; omega) (.slice D2 (k + 1) c2)
          refine hK.out _ _ (trivial) (fun hHeld => ?_)
          clear hK K
          (try simp only [Act.put, List.setIfInBounds_toArray, List.set_cons_zero, List.set_cons_succ])
          refine wpAnyH_done (by kernel_rfl) ?_ _
          refine NoPanic.normal ?_
          have glp : Hid (lpD (cN.map Int.ofNat) N s6 [] = lpD (cN.map Int.ofNat) j sb (acc ++ [(xa, xb)])) := Lib.hid (hlp.out.trans hstep.out)
          have hl2 : (acc ++ [(xa, xb)]).length = k + 1 := by rw [List.length_append, hacc]; rfl
          have gor : Hid ((y8.setCell ⟨gm, 19, none⟩ (.slice D2 (k + 1) c2)).ownsRow (gm + 1) 73 2 (.slice D2 (k + 1) c2) (k + 1) (T2 (acc ++ [(xa, xb)]))) := Lib.hid (by rw [T2_app]; exact or9)
          have gkm := Lib.hid km9
          have grk := Lib.hid rk9
          have ggW := Lib.hid gW9
          have ggB := Lib.hid gB9
          have gkz := Lib.hid kz9
          have gst := Lib.hid hstb
          have wj : IntKind.i64.wrap ((j : Int) + 1 - 1) = (j : Int) := by rw [Int.add_sub_cancel]; exact IntWalk.i64_in _ (by omega)
          have hg2 : gm < (y8.setCell ⟨gm, 19, none⟩ (.slice D2 (k + 1) c2)).heap.size := by rw [World.size_setCell]; exact sg8
          clear km9 or9 rk9 gW9 gB9 kz9 hlp hstep hk km hrow gW gB kz hk0 hR0 kd0 l0 hst0 hst' or7 km7 l7 hb7 km8 kz8 rk8 gW8 gB8 l8 f8 hbo ho8 hg8 hb8 kmw kzw orw gWw gBw ea eb hk3 hk5 hO3 hO5 kmy3 kzy3 ory3 gWy3 gBy3 hRy3 ly3 kmy5 kzy5 ory5 gWy5 gBy5 hRy5 ly5
          go_wp2
          go_roundw
          case rel => exact ⟨j, D2, k + 1, c2, sb, acc ++ [(xa, xb)], by first | rfl | (simp; done) | (go_num), by omega, glp, gst, grk, gkm, gor, hl2, by omega, ggW, ggB, gkz, hg2⟩
          case measure => simp [intOf] <;> omega
        · go_simp
          with_reducible refine (rnum_any w1.heap.size A n c (cN.map Int.ofNat) hn.out hcb hm hnc 1 1 rfl (by omega) (by omega) (some p) hst0 wr.drew hk0 hR0).mono ?_
          rintro en y3 ⟨rfl, hk3, hO3⟩
          rw [ea] at hk3 ⊢
          dsimp only at hk3 ⊢
          have sy3 := hO3.size
          have kmy3 := hO3.blk kmw (by omega)
          have kzy3 := hO3.blk (kzw) (by omega)
          have ory3 := own_only (orw) hO3 (by omega)
          have gWy3 := (gWw).trans (hO3.below (gWw).size (Nat.le_refl _))
          have gBy3 := (gBw).trans (hO3.below (by omega) (by omega))
          have hRy3 := (hR.below gWy3).more gWy3.size
          have ly3 : y3.cell? ⟨gm, 19, none⟩ = some (.slice D k cc) := by rw [kmy3.cell]; rfl
          refine hK.out _ _ (trivial) (fun hHeld => ?_)
          clear hK K
          (try simp only [Act.put, List.setIfInBounds_toArray, List.set_cons_zero, List.set_cons_succ])
          refine wpAnyH_ready (rs := [1, 5]) (by kernel_rfl) (by simp) ?_
          refine AllReadyH.cons rfl (fun K hK => ?_) (AllReadyH.cons rfl (fun K hK => ?_) AllReadyH.nil)
          · go_simp
            refine hK.out _ _ (trivial) (fun hHeld => ?_)
            clear hK K
            (try simp only [Act.put, List.setIfInBounds_toArray, List.set_cons_zero, List.set_cons_succ])
            refine wpAnyH_ready (rs := [5]) (by kernel_rfl) (by simp) ?_
            refine AllReadyH.cons rfl (fun K hK => ?_) AllReadyH.nil
            go_simp
            with_reducible refine (rnum_any w1.heap.size A n c (cN.map Int.ofNat) hn.out hcb hm hnc 4 4 rfl (by omega) (by omega) sa hsta y3 hk3 hRy3).mono ?_
            rintro en y5 ⟨rfl, hk5, hO5⟩
            rw [eb] at hk5 ⊢
            dsimp only at hk5 ⊢
            have sy5 := hO5.size
            have kmy5 := hO5.blk (kmy3) (by omega)
            have kzy5 := hO5.blk (kzy3) (by omega)
            have ory5 := own_only (ory3) hO5 (by omega)
            have gWy5 := (gWy3).trans (hO5.below (gWy3).size (Nat.le_refl _))
            have gBy5 := (gBy3).trans (hO5.below (by omega) (by omega))
            have hRy5 := (hR.below gWy5).more gWy5.size
            have ly5 : y5.cell? ⟨gm, 19, none⟩ = some (.slice D k cc) := by rw [kmy5.cell]; rfl
            refine hK.out _ _ (trivial) (fun hHeld => ?_)
            clear hK K
            (try simp only [Act.put, List.setIfInBounds_toArray, List.set_cons_zero, List.set_cons_succ])
            refine wpAnyH_take (i := 6) (v := ?_) rfl (by kernel_rfl) (by kernel_rfl) (by kernel_rfl) (fun _ _ _ h => h) (Or.inl ⟨by rfl, ?_⟩) (by assumption) ?_
            rotate_left
            · (intro w hSw; (try dsimp only at hSw); go_simp; (try with_reducible rfl))
            (try simp only [Act.put, List.setIfInBounds_toArray, List.set_cons_zero, List.set_cons_succ])
            refine wpAnyH_ready (rs := [7]) (by kernel_rfl) (by simp) ?_
            refine AllReadyH.cons rfl (fun K hK => ?_) AllReadyH.nil
            go_simp
            have km7 := kmy5.alloc (.cells #[.int .i64 xa, .int .i64 xb] 73)
            have l7 : (y5.alloc (.cells #[.int .i64 xa, .int .i64 xb] 73)).cell? ⟨gm, 19, none⟩ = some (.slice D k cc) := by rw [km7.cell]; rfl
            have hb7 : Below y5.heap.size y5 (y5.alloc (.cells #[.int .i64 xa, .int .i64 xb] 73)) := (Below.refl _ _).alloc (Nat.le_refl _) _
            have or7 := own_below ory5 hb7
            refine hK.out _ _ (trivial) (fun hHeld => ?_)
            clear hK K
            (try simp only [Act.put, List.setIfInBounds_toArray, List.set_cons_zero, List.set_cons_succ])
            refine wpAnyH_ready (rs := [8]) (by kernel_rfl) (by simp) ?_
            refine AllReadyH.cons rfl (fun K hK => ?_) AllReadyH.nil
            refine step_append_any _ rfl (.tmp 89) (.tmp 95) 27 rfl (gm + 1) 73 i0 _ 2 16 Try.underlying27 hi0 hz0 hz1 hz2 rfl (by omega) (.slice D k cc) k _ rfl or7 (y5.heap.size + 1) (some ⟨y5.heap.size, 0, none⟩) 1 1 [.int .i64 xa, .int .i64 xb] rfl (reads_one y5 [.int .i64 xa, .int .i64 xb] 73 2 rfl) (by intro u hu; simp at hu; rcases hu with rfl | rfl <;> rfl) (by unfold maxLen; omega) (by omega) (by rw [World.size_alloc]; omega) ?_
            intro v8 y8 ho8 hg8 _
            have hbo : ∀ b, (Value.slice D k cc).ownBlock = some b → gm + 1 ≤ b := fun b hb => own_base or7 hb
            have km8 := km7.grown hg8 (by intro e; have := hbo gm e.symm; omega)
            have kz8 := (kzy5.alloc (.cells #[.int .i64 xa, .int .i64 xb] 73)).grown hg8 (by intro e; have := hbo w.heap.size e.symm; omega)
            have hb8 : Below y5.heap.size y5 y8 ∨ True := .inr trivial
            have rk8 : Rdb y8 w1.heap.size A n c sb := (hk5.below hb7).keep (hg8.block w1.heap.size (by rw [World.size_alloc]; omega) (by intro e; have := hbo w1.heap.size e.symm; omega))
            have gW8 : Below w1.heap.size w1 y8 := (gWy5.trans (hb7.mono gWy5.size)).grown hg8 (by rw [World.size_alloc]; have := gWy5.size; omega) (fun b hb => by have := hbo b hb; omega)
            have gB8 : Below w.heap.size w y8 := (gBy5.trans (hb7.mono (by omega))).grown hg8 (by rw [World.size_alloc]; omega) (fun b hb => by have := hbo b hb; omega)
            have sg8 : gm < y8.heap.size := km8.lt
            have l8 : y8.cell? ⟨gm, 19, none⟩ = some (.slice D k cc) := by rw [km8.cell]; rfl
            have f8 := km8.frozen 19
            obtain ⟨D2, c2, rfl, _, _⟩ := own_slice ho8
            refine hK.out _ _ (trivial) (fun hHeld => ?_)
            clear hK K
            (try simp only [Act.put, List.setIfInBounds_toArray, List.set_cons_zero, List.set_cons_succ])
            refine wpAnyH_take (i := 9) (v := ?_) rfl (by kernel_rfl) (by kernel_rfl) (by kernel_rfl) (fun _ _ _ h => h) (Or.inl ⟨by rfl, ?_⟩) (by assumption) ?_
            rotate_left
            · (intro w hSw; (try dsimp only at hSw); go_simp; (try with_reducible rfl))
            (try simp only [Act.put, List.setIfInBounds_toArray, List.set_cons_zero, List.set_cons_succ])
            refine wpAnyH_ready (rs := [10]) (by kernel_rfl) (by simp) ?_
            refine AllReadyH.cons rfl (fun K hK => ?_) AllReadyH.nil
            go_simp
            have km9 := km8.set_ 19 (.slice D2 (k + 1) c2)
            simp only [List.setIfInBounds_toArray, List.set_cons_zero, List.set_cons_succ] at km9
            have or9 := own_setT (own_mono ho8 (Nat.le_refl _)) (p := ⟨gm, 19, none⟩) (by show gm < gm + 1; omega) (.slice D2 (k + 1) c2)
            have kz9 := kz8.far (p := ⟨gm, 19, none⟩) (by show w.heap.size ≠ gm; omega) (.slice D2 (k + 1) c2)
            have rk9 := rk8.far (q := ⟨gm, 19, none⟩) (by show w1.heap.size ≠ gm; omega) (.slice D2 (k + 1) c2)
            have gW9 := gW8.setCell (p := ⟨gm, 19, none⟩) (by show w1.heap.size ≤ gm; omega) (.slice D2 (k + 1) c2)
            have gB9 := gB8.setCell (p := ⟨gm, 19, none⟩) (by show w.heap.size ≤ gm; omega) (.slice D2 (k + 1) c2)
            refine hK.out _ _ (trivial) (fun hHeld => ?_)
            clear hK K
            (try simp only [Act.put, List.setIfInBounds_toArray, List.set_cons_zero, List.set_cons_succ])
            refine wpAnyH_done (by kernel_rfl) ?_ _
            refine NoPanic.normal ?_
            have glp : Hid (lpD (cN.map Int.ofNat) N s6 [] = lpD (cN.map Int.ofNat) j sb (acc ++ [(xa, xb)])) := Lib.hid (hlp.out.trans hstep.out)
            have hl2 : (acc ++ [(xa, xb)]).length = k + 1 := by rw [List.length_append, hacc]; rfl
            have gor : Hid ((y8.setCell ⟨gm, 19, none⟩ (.slice D2 (k + 1) c2)).ownsRow (gm + 1) 73 2 (.slice D2 (k + 1) c2) (k + 1) (T2 (acc ++ [(xa, xb)]))) := Lib.hid (by rw [T2_app]; exact or9)
            have gkm := Lib.hid km9
            have grk := Lib.hid rk9
            have ggW := Lib.hid gW9
            have ggB := Lib.hid gB9
            have gkz := Lib.hid kz9
            have gst := Lib.hid hstb
            have wj : IntKind.i64.wrap ((j : Int) + 1 - 1) = (j : Int) := by rw [Int.add_sub_cancel]; exact IntWalk.i64_in _ (by omega)
            have hg2 : gm < (y8.setCell ⟨gm, 19, none⟩ (.slice D2 (k + 1) c2)).heap.size := by rw [World.size_setCell]; exact sg8
            clear km9 or9 rk9 gW9 gB9 kz9 hlp hstep hk km hrow gW gB kz hk0 hR0 kd0 l0 hst0 hst' or7 km7 l7 hb7 km8 kz8 rk8 gW8 gB8 l8 f8 hbo ho8 hg8 hb8 kmw kzw orw gWw gBw ea eb hk3 hk5 hO3 hO5 kmy3 kzy3 ory3 gWy3 gBy3 hRy3 ly3 kmy5 kzy5 ory5 gWy5 gBy5 hRy5 ly5
            go_wp2
            go_roundw
            case rel => exact ⟨j, D2, k + 1, c2, sb, acc ++ [(xa, xb)], by first | rfl | (simp; done) | (go_num), by omega, glp, gst, grk, gkm, gor, hl2, by omega, ggW, ggB, gkz, hg2⟩
            case measure => simp [intOf] <;> omega
          · go_simp
            with_reducible refine (rnum_any w1.heap.size A n c (cN.map Int.ofNat) hn.out hcb hm hnc 4 4 rfl (by omega) (by omega) sa hsta y3 hk3 hRy3).mono ?_
            rintro en y5 ⟨rfl, hk5, hO5⟩
            rw [eb] at hk5 ⊢
            dsimp only at hk5 ⊢
            have sy5 := hO5.size
            have kmy5 := hO5.blk (kmy3) (by omega)
            have kzy5 := hO5.blk (kzy3) (by omega)
            have ory5 := own_only (ory3) hO5 (by omega)
            have gWy5 := (gWy3).trans (hO5.below (gWy3).size (Nat.le_refl _))
            have gBy5 := (gBy3).trans (hO5.below (by omega) (by omega))
            have hRy5 := (hR.below gWy5).more gWy5.size
            have ly5 : y5.cell? ⟨gm, 19, none⟩ = some (.slice D k cc) := by rw [kmy5.cell]; rfl
            refine hK.out _ _ (trivial) (fun hHeld => ?_)
            clear hK K
            (try simp only [Act.put, List.setIfInBounds_toArray, List.set_cons_zero, List.set_cons_succ])
            refine wpAnyH_take (i := 6) (v := ?_) rfl (by kernel_rfl) (by kernel_rfl) (by kernel_rfl) (fun _ _ _ h => h) (Or.inl ⟨by rfl, ?_⟩) (by assumption) ?_
            rotate_left
            · (intro w hSw; (try dsimp only at hSw); go_simp; (try with_reducible rfl))
            (try simp only [Act.put, List.setIfInBounds_toArray, List.set_cons_zero, List.set_cons_succ])
            refine wpAnyH_ready (rs := [1, 7]) (by kernel_rfl) (by simp) ?_
            refine AllReadyH.cons rfl (fun K hK => ?_) (AllReadyH.cons rfl (fun K hK => ?_) AllReadyH.nil)
            · go_simp
              refine hK.out _ _ (trivial) (fun hHeld => ?_)
              clear hK K
              (try simp only [Act.put, List.setIfInBounds_toArray, List.set_cons_zero, List.set_cons_succ])
              refine wpAnyH_ready (rs := [7]) (by kernel_rfl) (by simp) ?_
              refine AllReadyH.cons rfl (fun K hK => ?_) AllReadyH.nil
              go_simp
              have km7 := kmy5.alloc (.cells #[.int .i64 xa, .int .i64 xb] 73)
              have l7 : (y5.alloc (.cells #[.int .i64 xa, .int .i64 xb] 73)).cell? ⟨gm, 19, none⟩ = some (.slice D k cc) := by rw [km7.cell]; rfl
              have hb7 : Below y5.heap.size y5 (y5.alloc (.cells #[.int .i64 xa, .int .i64 xb] 73)) := (Below.refl _ _).alloc (Nat.le_refl _) _
              have or7 := own_below ory5 hb7
              refine hK.out _ _ (trivial) (fun hHeld => ?_)
              clear hK K
              (try simp only [Act.put, List.setIfInBounds_toArray, List.set_cons_zero, List.set_cons_succ])
              refine wpAnyH_ready (rs := [8]) (by kernel_rfl) (by simp) ?_
              refine AllReadyH.cons rfl (fun K hK => ?_) AllReadyH.nil
              refine step_append_any _ rfl (.tmp 89) (.tmp 95) 27 rfl (gm + 1) 73 i0 _ 2 16 Try.underlying27 hi0 hz0 hz1 hz2 rfl (by omega) (.slice D k cc) k _ rfl or7 (y5.heap.size + 1) (some ⟨y5.heap.size, 0, none⟩) 1 1 [.int .i64 xa, .int .i64 xb] rfl (reads_one y5 [.int .i64 xa, .int .i64 xb] 73 2 rfl) (by intro u hu; simp at hu; rcases hu with rfl | rfl <;> rfl) (by unfold maxLen; omega) (by omega) (by rw [World.size_alloc]; omega) ?_
              intro v8 y8 ho8 hg8 _
              have hbo : ∀ b, (Value.slice D k cc).ownBlock = some b → gm + 1 ≤ b := fun b hb => own_base or7 hb
              have km8 := km7.grown hg8 (by intro e; have := hbo gm e.symm; omega)
              have kz8 := (kzy5.alloc (.cells #[.int .i64 xa, .int .i64 xb] 73)).grown hg8 (by intro e; have := hbo w.heap.size e.symm; omega)
              have hb8 : Below y5.heap.size y5 y8 ∨ True := .inr trivial
              have rk8 : Rdb y8 w1.heap.size A n c sb := (hk5.below hb7).keep (hg8.block w1.heap.size (by rw [World.size_alloc]; omega) (by intro e; have := hbo w1.heap.size e.symm; omega))
              have gW8 : Below w1.heap.size w1 y8 := (gWy5.trans (hb7.mono gWy5.size)).grown hg8 (by rw [World.size_alloc]; have := gWy5.size; omega) (fun b hb => by have := hbo b hb; omega)
              have gB8 : Below w.heap.size w y8 := (gBy5.trans (hb7.mono (by omega))).grown hg8 (by rw [World.size_alloc]; omega) (fun b hb => by have := hbo b hb; omega)
              have sg8 : gm < y8.heap.size := km8.lt
              have l8 : y8.cell? ⟨gm, 19, none⟩ = some (.slice D k cc) := by rw [km8.cell]; rfl
              have f8 := km8.frozen 19
              obtain ⟨D2, c2, rfl, _, _⟩ := own_slice ho8
              refine hK.out _ _ (trivial) (fun hHeld => ?_)
              clear hK K
              (try simp only [Act.put, List.setIfInBounds_toArray, List.set_cons_zero, List.set_cons_succ])
              refine wpAnyH_take (i := 9) (v := ?_) rfl (by kernel_rfl) (by kernel_rfl) (by kernel_rfl) (fun _ _ _ h => h) (Or.inl ⟨by rfl, ?_⟩) (by assumption) ?_
              rotate_left
              · (intro w hSw; (try dsimp only at hSw); go_simp; (try with_reducible rfl))
              (try simp only [Act.put, List.setIfInBounds_toArray, List.set_cons_zero, List.set_cons_succ])
              refine wpAnyH_ready (rs := [10]) (by kernel_rfl) (by simp) ?_
              refine AllReadyH.cons rfl (fun K hK => ?_) AllReadyH.nil
              go_simp
              have km9 := km8.set_ 19 (.slice D2 (k + 1) c2)
              simp only [List.setIfInBounds_toArray, List.set_cons_zero, List.set_cons_succ] at km9
              have or9 := own_setT (own_mono ho8 (Nat.le_refl _)) (p := ⟨gm, 19, none⟩) (by show gm < gm + 1; omega) (.slice D2 (k + 1) c2)
              have kz9 := kz8.far (p := ⟨gm, 19, none⟩) (by show w.heap.size ≠ gm; omega) (.slice D2 (k + 1) c2)
              have rk9 := rk8.far (q := ⟨gm, 19, none⟩) (by show w1.heap.size ≠ gm; omega) (.slice D2 (k + 1) c2)
              have gW9 := gW8.setCell (p := ⟨gm, 19, none⟩) (by show w1.heap.size ≤ gm; omega) (.slice D2 (k + 1) c2)
              have gB9 := gB8.setCell (p := ⟨gm, 19, none⟩) (by show w.heap.size ≤ gm; omega) (.slice D2 (k + 1) c2)
              refine hK.out _ _ (trivial) (fun hHeld => ?_)
              clear hK K
              (try simp only [Act.put, List.setIfInBounds_toArray, List.set_cons_zero, List.set_cons_succ])
              refine wpAnyH_done (by kernel_rfl) ?_ _
              refine NoPanic.normal ?_
              have glp : Hid (lpD (cN.map Int.ofNat) N s6 [] = lpD (cN.map Int.ofNat) j sb (acc ++ [(xa, xb)])) := Lib.hid (hlp.out.trans hstep.out)
              have hl2 : (acc ++ [(xa, xb)]).length = k + 1 := by rw [List.length_append, hacc]; rfl
              have gor : Hid ((y8.setCell ⟨gm, 19, none⟩ (.slice D2 (k + 1) c2)).ownsRow (gm + 1) 73 2 (.slice D2 (k + 1) c2) (k + 1) (T2 (acc ++ [(xa, xb)]))) := Lib.hid (by rw [T2_app]; exact or9)
              have gkm := Lib.hid km9
              have grk := Lib.hid rk9
              have ggW := Lib.hid gW9
              have ggB := Lib.hid gB9
              have gkz := Lib.hid kz9
              have gst := Lib.hid hstb
              have wj : IntKind.i64.wrap ((j : Int) + 1 - 1) = (j : Int) := by rw [Int.add_sub_cancel]; exact IntWalk.i64_in _ (by omega)
              have hg2 : gm < (y8.setCell ⟨gm, 19, none⟩ (.slice D2 (k + 1) c2)).heap.size := by rw [World.size_setCell]; exact sg8
              clear km9 or9 rk9 gW9 gB9 kz9 hlp hstep hk km hrow gW gB kz hk0 hR0 kd0 l0 hst0 hst' or7 km7 l7 hb7 km8 kz8 rk8 gW8 gB8 l8 f8 hbo ho8 hg8 hb8 kmw kzw orw gWw gBw ea eb hk3 hk5 hO3 hO5 kmy3 kzy3 ory3 gWy3 gBy3 hRy3 ly3 kmy5 kzy5 ory5 gWy5 gBy5 hRy5 ly5
              go_wp2
              go_roundw
              case rel => exact ⟨j, D2, k + 1, c2, sb, acc ++ [(xa, xb)], by first | rfl | (simp; done) | (go_num), by omega, glp, gst, grk, gkm, gor, hl2, by omega, ggW, ggB, gkz, hg2⟩
              case measure => simp [intOf] <;> omega
            · go_simp
              have km7 := kmy5.alloc (.cells #[.int .i64 xa, .int .i64 xb] 73)
              have l7 : (y5.alloc (.cells #[.int .i64 xa, .int .i64 xb] 73)).cell? ⟨gm, 19, none⟩ = some (.slice D k cc) := by rw [km7.cell]; rfl
              have hb7 : Below y5.heap.size y5 (y5.alloc (.cells #[.int .i64 xa, .int .i64 xb] 73)) := (Below.refl _ _).alloc (Nat.le_refl _) _
              have or7 := own_below ory5 hb7
              refine hK.out _ _ (trivial) (fun hHeld => ?_)
              clear hK K
              (try simp only [Act.put, List.setIfInBounds_toArray, List.set_cons_zero, List.set_cons_succ])
              refine wpAnyH_ready (rs := [1]) (by kernel_rfl) (by simp) ?_
              refine AllReadyH.cons rfl (fun K hK => ?_) AllReadyH.nil
              go_simp
              refine hK.out _ _ (trivial) (fun hHeld => ?_)
              clear hK K
              (try simp only [Act.put, List.setIfInBounds_toArray, List.set_cons_zero, List.set_cons_succ])
              refine wpAnyH_ready (rs := [8]) (by kernel_rfl) (by simp) ?_
              refine AllReadyH.cons rfl (fun K hK => ?_) AllReadyH.nil
              refine step_append_any _ rfl (.tmp 89) (.tmp 95) 27 rfl (gm + 1) 73 i0 _ 2 16 Try.underlying27 hi0 hz0 hz1 hz2 rfl (by omega) (.slice D k cc) k _ rfl or7 (y5.heap.size + 1) (some ⟨y5.heap.size, 0, none⟩) 1 1 [.int .i64 xa, .int .i64 xb] rfl (reads_one y5 [.int .i64 xa, .int .i64 xb] 73 2 rfl) (by intro u hu; simp at hu; rcases hu with rfl | rfl <;> rfl) (by unfold maxLen; omega) (by omega) (by rw [World.size_alloc]; omega) ?_
              intro v8 y8 ho8 hg8 _
              have hbo : ∀ b, (Value.slice D k cc).ownBlock = some b → gm + 1 ≤ b := fun b hb => own_base or7 hb
              have km8 := km7.grown hg8 (by intro e; have := hbo gm e.symm; omega)
              have kz8 := (kzy5.alloc (.cells #[.int .i64 xa, .int .i64 xb] 73)).grown hg8 (by intro e; have := hbo w.heap.size e.symm; omega)
              have hb8 : Below y5.heap.size y5 y8 ∨ True := .inr trivial
              have rk8 : Rdb y8 w1.heap.size A n c sb := (hk5.below hb7).keep (hg8.block w1.heap.size (by rw [World.size_alloc]; omega) (by intro e; have := hbo w1.heap.size e.symm; omega))
              have gW8 : Below w1.heap.size w1 y8 := (gWy5.trans (hb7.mono gWy5.size)).grown hg8 (by rw [World.size_alloc]; have := gWy5.size; omega) (fun b hb => by have := hbo b hb; omega)
              have gB8 : Below w.heap.size w y8 := (gBy5.trans (hb7.mono (by omega))).grown hg8 (by rw [World.size_alloc]; omega) (fun b hb => by have := hbo b hb; omega)
              have sg8 : gm < y8.heap.size := km8.lt
              have l8 : y8.cell? ⟨gm, 19, none⟩ = some (.slice D k cc) := by rw [km8.cell]; rfl
              have f8 := km8.frozen 19
              obtain ⟨D2, c2, rfl, _, _⟩ := own_slice ho8
              refine hK.out _ _ (trivial) (fun hHeld => ?_)
              clear hK K
              (try simp only [Act.put, List.setIfInBounds_toArray, List.set_cons_zero, List.set_cons_succ])
              refine wpAnyH_take (i := 9) (v := ?_) rfl (by kernel_rfl) (by kernel_rfl) (by kernel_rfl) (fun _ _ _ h => h) (Or.inl ⟨by rfl, ?_⟩) (by assumption) ?_
              rotate_left
              · (intro w hSw; (try dsimp only at hSw); go_simp; (try with_reducible rfl))
              (try simp only [Act.put, List.setIfInBounds_toArray, List.set_cons_zero, List.set_cons_succ])
              refine wpAnyH_ready (rs := [10]) (by kernel_rfl) (by simp) ?_
              refine AllReadyH.cons rfl (fun K hK => ?_) AllReadyH.nil
              go_simp
              have km9 := km8.set_ 19 (.slice D2 (k + 1) c2)
              simp only [List.setIfInBounds_toArray, List.set_cons_zero, List.set_cons_succ] at km9
              have or9 := own_setT (own_mono ho8 (Nat.le_refl _)) (p := ⟨gm, 19, none⟩) (by show gm < gm + 1; omega) (.slice D2 (k + 1) c2)
              have kz9 := kz8.far (p := ⟨gm, 19, none⟩) (by show w.heap.size ≠ gm; omega) (.slice D2 (k + 1) c2)
              have rk9 := rk8.far (q := ⟨gm, 19, none⟩) (by show w1.heap.size ≠ gm; omega) (.slice D2 (k + 1) c2)
              have gW9 := gW8.setCell (p := ⟨gm, 19, none⟩) (by show w1.heap.size ≤ gm; omega) (.slice D2 (k + 1) c2)
              have gB9 := gB8.setCell (p := ⟨gm, 19, none⟩) (by show w.heap.size ≤ gm; omega) (.slice D2 (k + 1) c2)
              refine hK.out _ _ (trivial) (fun hHeld => ?_)
              clear hK K
              (try simp only [Act.put, List.setIfInBounds_toArray, List.set_cons_zero, List.set_cons_succ])
              refine wpAnyH_done (by kernel_rfl) ?_ _
              refine NoPanic.normal ?_
              have glp : Hid (lpD (cN.map Int.ofNat) N s6 [] = lpD (cN.map Int.ofNat) j sb (acc ++ [(xa, xb)])) := Lib.hid (hlp.out.trans hstep.out)
              have hl2 : (acc ++ [(xa, xb)]).length = k + 1 := by rw [List.length_append, hacc]; rfl
              have gor : Hid ((y8.setCell ⟨gm, 19, none⟩ (.slice D2 (k + 1) c2)).ownsRow (gm + 1) 73 2 (.slice D2 (k + 1) c2) (k + 1) (T2 (acc ++ [(xa, xb)]))) := Lib.hid (by rw [T2_app]; exact or9)
              have gkm := Lib.hid km9
              have grk := Lib.hid rk9
              have ggW := Lib.hid gW9
              have ggB := Lib.hid gB9
              have gkz := Lib.hid kz9
              have gst := Lib.hid hstb
              have wj : IntKind.i64.wrap ((j : Int) + 1 - 1) = (j : Int) := by rw [Int.add_sub_cancel]; exact IntWalk.i64_in _ (by omega)
              have hg2 : gm < (y8.setCell ⟨gm, 19, none⟩ (.slice D2 (k + 1) c2)).heap.size := by rw [World.size_setCell]; exact sg8
              clear km9 or9 rk9 gW9 gB9 kz9 hlp hstep hk km hrow gW gB kz hk0 hR0 kd0 l0 hst0 hst' or7 km7 l7 hb7 km8 kz8 rk8 gW8 gB8 l8 f8 hbo ho8 hg8 hb8 kmw kzw orw gWw gBw ea eb hk3 hk5 hO3 hO5 kmy3 kzy3 ory3 gWy3 gBy3 hRy3 ly3 kmy5 kzy5 ory5 gWy5 gBy5 hRy5 ly5
              go_wp2
              go_roundw
              case rel => exact ⟨j, D2, k + 1, c2, sb, acc ++ [(xa, xb)], by first | rfl | (simp; done) | (go_num), by omega, glp, gst, grk, gkm, gor, hl2, by omega, ggW, ggB, gkz, hg2⟩
              case measure => simp [intOf] <;> omega
      | false =>
        have hfin : lpD (cN.map Int.ofNat) N s6 [] = (st, acc) := hlp.out.trans (lpD_stop hq)
        replace hfin := Lib.hid hfin
        have hor := hrow
        obtain rfl := hacc
        clear hq hlp hrow hi0 hz0
        go_upto_region 28 with (fail)
        obtain ⟨om, hom⟩ : ∃ o : MO, o = ⟨⟨5, x1, x2, x3, x4, 0, zM, (x5 == 1), acc, false, 0, 0, []⟩, none, 0, none, 0, none, 0, none, 0, D, cc, none, 0⟩ := ⟨_, rfl⟩
        have hh : hdR (cN.map Int.ofNat) = ⟨s4, x1, x2, x3, x4⟩ := by unfold hdR; rw [g1.out]; dsimp only; rw [g2.out]; dsimp only; rw [g3.out]; dsimp only; rw [g4.out]
        have hdec : dec 5 (cN.map Int.ofNat) = (st, om.x) := by rw [hom]; unfold dec; rw [if_neg (by decide)]; rw [if_neg (by decide)]; rw [if_neg (by decide)]; rw [if_neg (by decide)]; rw [if_pos rfl]; rw [hh]; dsimp only; rw [g5.out]; dsimp only; rw [g6.out]; dsimp only; rw [Int.toNat_natCast, hfin.out]
        have hown : ownL wr w1.heap.size om := by rw [hom]; exact ⟨⟨⟨Nat.le_refl _, OwnR.none_⟩, ⟨Nat.le_refl _, OwnR.none_⟩, ⟨Nat.le_refl _, OwnR.none_⟩, ⟨Nat.le_refl _, OwnR.none_⟩⟩, own_mono hor.out (by omega), own_nil (c := 0)⟩
        have hagg : aggL om = .agg #[.int .u8 5, .int .i64 x1, .int .i64 x2, .int .i64 x3, .int .i64 x4, .int .i64 0, .bool false, .slice none 0 0, .int .i64 0, .bool false, .slice none 0 0, .int .i64 0, .bool false, .slice none 0 0, .int .i64 0, .bool false, .slice none 0 0, .int .i64 0, .bool (x5 == 1), .slice D acc.length cc, .bool false, .int .i64 0, .int .i64 0, .slice none 0 0] := by rw [hom]; simp [aggL, zM]
        have hsm : smL om.x ∧ ltL om.x := by rw [hom]; exact ⟨⟨⟨Nat.zero_le _, Nat.zero_le _, Nat.zero_le _, Nat.zero_le _⟩, by show acc.length ≤ 5000; omega, Nat.zero_le _⟩, ⟨⟨(fun x h => by cases h), (fun x h => by cases h), (fun x h => by cases h), (fun x h => by cases h)⟩, (fun x h => by cases h)⟩⟩
        clear hom
        have hz := kz.out
        have hkm := km.out
        have kr := hk.out.wrong
        rcases hwr : st with _ | pf
        · have hno : ∀ m, ¬ GoodM 5 (cN.map Int.ofNat) m := fun m h => by have h1 := h.1; rw [hdec] at h1; simp only at h1; rw [hwr] at h1; simp at h1
          replace hno := Lib.hid hno
          rw [hwr] at kr
          simp only [Option.isNone] at kr
          have fw : ∀ q : Bw wr.heap.size wr, q.w.cell? ⟨w1.heap.size, 2, none⟩ = some (.bool true) := fun q => (q.h.cell (p := ⟨w1.heap.size, 2, none⟩) (by show w1.heap.size < _; omega)).trans kr
          clear kr hkm hsm hown hagg hdec
          refine wp_region_wq wr.heap.size wr (Below.refl _ _) (by kernel_rfl) (by kernel_rfl) ?_
          repeat (first | (refine WQ.yes (by rfl) (fun K hK => ?_); go_simp; first | (refine hK _ ?_; clear hK K) | (apply Exists.intro; refine ⟨fun _ => ?_, hK _ ?_⟩; (fail); clear hK K)) | (refine WQ.no (by rfl) ?_; (try simp only [Act.put, List.setIfInBounds_toArray, List.set_cons_zero, List.set_cons_succ])))
          refine WQ.nil ?_
          intro pq
          have hz2 := hz.below pq.h hz.lt
          have hB2 := gB.out.trans (pq.h.mono gB.out.size)
          replace hno := hno.out
          clear fw hz gB kz km hk gW 
          have kf := hz2.setRow #[.int .u8 0, .int .i64 0, .int .i64 0, .int .i64 0, .int .i64 0, .int .i64 0, .bool false, .slice none 0 0, .int .i64 0, .bool false, .slice none 0 0, .int .i64 0, .bool false, .slice none 0 0, .int .i64 0, .bool false, .slice none 0 0, .int .i64 0, .bool false, .slice none 0 0, .bool false, .int .i64 0, .int .i64 0, .slice none 0 0]
          have hBf := below_setRow (g := w.heap.size) hB2 (Nat.le_refl _) #[.int .u8 0, .int .i64 0, .int .i64 0, .int .i64 0, .int .i64 0, .int .i64 0, .bool false, .slice none 0 0, .int .i64 0, .bool false, .slice none 0 0, .int .i64 0, .bool false, .slice none 0 0, .int .i64 0, .bool false, .slice none 0 0, .int .i64 0, .bool false, .slice none 0 0, .bool false, .int .i64 0, .int .i64 0, .slice none 0 0]
          go_wp2_with (refine wpList_store_row rfl 31 _ _ rfl w.heap.size #[.int .u8 0, .int .i64 0, .int .i64 0, .int .i64 0, .int .i64 0, .int .i64 0, .bool false, .slice none 0 0, .int .i64 0, .bool false, .slice none 0 0, .int .i64 0, .bool false, .slice none 0 0, .int .i64 0, .bool false, .slice none 0 0, .int .i64 0, .bool false, .slice none 0 0, .bool false, .int .i64 0, .int .i64 0, .slice none 0 0] rfl rfl 31 #[.int .u8 0, .int .i64 0, .int .i64 0, .int .i64 0, .int .i64 0, .int .i64 0, .bool false, .slice none 0 0, .int .i64 0, .bool false, .slice none 0 0, .int .i64 0, .bool false, .slice none 0 0, .int .i64 0, .bool false, .slice none 0 0, .int .i64 0, .bool false, .slice none 0 0, .bool false, .int .i64 0, .int .i64 0, .slice none 0 0] hz2.row info_mail rfl (by simp [Value.oneCell']) ?_)
          (try simp only [Exit.inBlock, Exit.then])
          refine bodyPost_ret (results_row_slot rfl _ _ w.heap.size 31 #[.int .u8 0, .int .i64 0, .int .i64 0, .int .i64 0, .int .i64 0, .int .i64 0, .bool false, .slice none 0 0, .int .i64 0, .bool false, .slice none 0 0, .int .i64 0, .bool false, .slice none 0 0, .int .i64 0, .bool false, .slice none 0 0, .int .i64 0, .bool false, .slice none 0 0, .bool false, .int .i64 0, .int .i64 0, .slice none 0 0] (0, 0) _ rfl kf.row Try.underlying31 rfl info_mail) rfl ?_
          exact ⟨hBf, zeroO, 41, rfl, ownL_zero _ _, .inr ⟨rfl, rfl, hno⟩⟩
        rw [hwr] at kr
        simp only [Option.isNone] at kr
        have hrd : ∀ w', Below wr.heap.size wr w' → rdL w' w'.heap.size om := fun w' hw => hown.rd.below hw hw.size
        have fw : ∀ q : Bw wr.heap.size wr, q.w.cell? ⟨w1.heap.size, 2, none⟩ = some (.bool false) := fun q => (q.h.cell (p := ⟨w1.heap.size, 2, none⟩) (by show w1.heap.size < _; omega)).trans kr
        by_cases hok : okL om.x
        rotate_left
        · have hno : ∀ m, ¬ GoodM 5 (cN.map Int.ofNat) m := fun m h => by have h1 : m = om.x := (by have h2 := h.2.1; rw [hdec] at h2; exact h2); exact hok (by rw [← h1]; exact h.2.2.1)
          replace hno := Lib.hid hno
          have fc : ∀ q : Bw wr.heap.size wr, Calls Try.prog 17 #[.agg #[.int .u8 5, .int .i64 x1, .int .i64 x2, .int .i64 x3, .int .i64 x4, .int .i64 0, .bool false, .slice none 0 0, .int .i64 0, .bool false, .slice none 0 0, .int .i64 0, .bool false, .slice none 0 0, .int .i64 0, .bool false, .slice none 0 0, .int .i64 0, .bool (x5 == 1), .slice D acc.length cc, .bool false, .int .i64 0, .int .i64 0, .slice none 0 0]] q.w fun en w' => en = .returned (.int .i64 100) ∧ ∃ q' : Bw wr.heap.size wr, w' = q'.w := fun q => by rw [← hagg]; exact Calls.bw ((check_any om hsm.1 q.w (hrd q.w q.h)).mono (fun en w'' hh => by obtain ⟨E, rfl, hE, hb⟩ := hh; rcases hE with ⟨h, _⟩ | ⟨_, rfl⟩; exact absurd h hok; exact ⟨rfl, hb⟩)) (Nat.le_refl _)
          have r2 : ∀ q : Bw wr.heap.size wr, q.w.rangeAt gm 0 [.int .u8 5, .int .i64 x1, .int .i64 x2, .int .i64 x3, .int .i64 x4, .int .i64 0, .bool false, .slice none 0 0, .int .i64 0, .bool false, .slice none 0 0, .int .i64 0, .bool false, .slice none 0 0, .int .i64 0, .bool false, .slice none 0 0, .int .i64 0, .bool (x5 == 1), .slice D acc.length cc, .bool false, .int .i64 0, .int .i64 0, .slice none 0 0] := fun q => (hkm.below q.h hkm.lt).range 0 _ rfl
          clear kr hkm hsm hown hagg hdec hrd hok
          refine wp_region_wq wr.heap.size wr (Below.refl _ _) (by kernel_rfl) (by kernel_rfl) ?_
          repeat (first | (refine WQ.yes (by rfl) (fun K hK => ?_); refine quiet_load_mid 31 _ rfl gm 0 rfl [.int .u8 5, .int .i64 x1, .int .i64 x2, .int .i64 x3, .int .i64 x4, .int .i64 0, .bool false, .slice none 0 0, .int .i64 0, .bool false, .slice none 0 0, .int .i64 0, .bool false, .slice none 0 0, .int .i64 0, .bool false, .slice none 0 0, .int .i64 0, .bool (x5 == 1), .slice D acc.length cc, .bool false, .int .i64 0, .int .i64 0, .slice none 0 0] _ r2 Try.underlying31 rfl (by kernel_rfl) (hK _ ?_); clear hK K; simp only [Act.put, List.setIfInBounds_toArray, List.set_cons_zero, List.set_cons_succ]) | (refine WQ.yes (by rfl) (fun K hK => ?_); go_simp; first | (refine hK _ ?_; clear hK K) | (apply Exists.intro; refine ⟨fun _ => ?_, hK _ ?_⟩; (exact fc _); clear hK K)) | (refine WQ.no (by rfl) ?_; (try simp only [Act.put, List.setIfInBounds_toArray, List.set_cons_zero, List.set_cons_succ])))
          refine WQ.nil ?_
          intro pq
          have hz2 := hz.below pq.h hz.lt
          have hB2 := gB.out.trans (pq.h.mono gB.out.size)
          replace hno := hno.out
          clear fw fc r2 hz gB kz km hk gW 
          have kf := hz2.setRow #[.int .u8 0, .int .i64 0, .int .i64 0, .int .i64 0, .int .i64 0, .int .i64 0, .bool false, .slice none 0 0, .int .i64 0, .bool false, .slice none 0 0, .int .i64 0, .bool false, .slice none 0 0, .int .i64 0, .bool false, .slice none 0 0, .int .i64 0, .bool false, .slice none 0 0, .bool false, .int .i64 0, .int .i64 0, .slice none 0 0]
          have hBf := below_setRow (g := w.heap.size) hB2 (Nat.le_refl _) #[.int .u8 0, .int .i64 0, .int .i64 0, .int .i64 0, .int .i64 0, .int .i64 0, .bool false, .slice none 0 0, .int .i64 0, .bool false, .slice none 0 0, .int .i64 0, .bool false, .slice none 0 0, .int .i64 0, .bool false, .slice none 0 0, .int .i64 0, .bool false, .slice none 0 0, .bool false, .int .i64 0, .int .i64 0, .slice none 0 0]
          go_wp2_with (refine wpList_store_row rfl 31 _ _ rfl w.heap.size #[.int .u8 0, .int .i64 0, .int .i64 0, .int .i64 0, .int .i64 0, .int .i64 0, .bool false, .slice none 0 0, .int .i64 0, .bool false, .slice none 0 0, .int .i64 0, .bool false, .slice none 0 0, .int .i64 0, .bool false, .slice none 0 0, .int .i64 0, .bool false, .slice none 0 0, .bool false, .int .i64 0, .int .i64 0, .slice none 0 0] rfl rfl 31 #[.int .u8 0, .int .i64 0, .int .i64 0, .int .i64 0, .int .i64 0, .int .i64 0, .bool false, .slice none 0 0, .int .i64 0, .bool false, .slice none 0 0, .int .i64 0, .bool false, .slice none 0 0, .int .i64 0, .bool false, .slice none 0 0, .int .i64 0, .bool false, .slice none 0 0, .bool false, .int .i64 0, .int .i64 0, .slice none 0 0] hz2.row info_mail rfl (by simp [Value.oneCell']) ?_)
          (try simp only [Exit.inBlock, Exit.then])
          refine bodyPost_ret (results_row_slot rfl _ _ w.heap.size 31 #[.int .u8 0, .int .i64 0, .int .i64 0, .int .i64 0, .int .i64 0, .int .i64 0, .bool false, .slice none 0 0, .int .i64 0, .bool false, .slice none 0 0, .int .i64 0, .bool false, .slice none 0 0, .int .i64 0, .bool false, .slice none 0 0, .int .i64 0, .bool false, .slice none 0 0, .bool false, .int .i64 0, .int .i64 0, .slice none 0 0] (0, 0) _ rfl kf.row Try.underlying31 rfl info_mail) rfl ?_
          exact ⟨hBf, zeroO, 41, rfl, ownL_zero _ _, .inr ⟨rfl, rfl, hno⟩⟩
        have fc : ∀ w', Below wr.heap.size wr w' → Calls Try.prog 17 #[.agg #[.int .u8 5, .int .i64 x1, .int .i64 x2, .int .i64 x3, .int .i64 x4, .int .i64 0, .bool false, .slice none 0 0, .int .i64 0, .bool false, .slice none 0 0, .int .i64 0, .bool false, .slice none 0 0, .int .i64 0, .bool false, .slice none 0 0, .int .i64 0, .bool (x5 == 1), .slice D acc.length cc, .bool false, .int .i64 0, .int .i64 0, .slice none 0 0]] w' fun en w'' => en = .returned (.int .i64 0) ∧ Below w'.heap.size w' w'' := fun w' hw => by rw [← hagg]; exact (check_any om hsm.1 w' (hrd w' hw)).mono (fun en w'' hh => by obtain ⟨E, rfl, hE, hb⟩ := hh; rcases hE with ⟨_, rfl⟩ | ⟨h, _⟩; exact ⟨rfl, hb⟩; exact absurd hok h)
        have fn : ∀ w', Below wr.heap.size wr w' → Calls Try.prog 26 #[.agg #[.int .u8 5, .int .i64 x1, .int .i64 x2, .int .i64 x3, .int .i64 x4, .int .i64 0, .bool false, .slice none 0 0, .int .i64 0, .bool false, .slice none 0 0, .int .i64 0, .bool false, .slice none 0 0, .int .i64 0, .bool false, .slice none 0 0, .int .i64 0, .bool (x5 == 1), .slice D acc.length cc, .bool false, .int .i64 0, .int .i64 0, .slice none 0 0]] w' fun en w'' => ∃ X c, en = .returned (.slice X (total (conP om.x)) c) ∧ w''.ownsRow w'.heap.size 5 1 (.slice X (total (conP om.x)) c) (total (conP om.x)) (u8s (flat (conP om.x))) ∧ Below w'.heap.size w' w'' := fun w' hw => by rw [← hagg]; exact content_any om hok hsm.2 w' (hrd w' hw)
        have hBd : Below wr.heap.size wr wr.drew := (Below.refl _ _).drew
        have hBz : wr.heap.size ≤ wr.drew.heap.size := Nat.le_refl _
        obtain ⟨Q, hQ⟩ : ∃ Q, decide (byP om.x = cN) = Q := ⟨_, rfl⟩
        have hsq : ((strOf (byP om.x)).toList == (strOf cN).toList) = Q := by rw [strOf_inj (byP_lt _) hcl]; exact hQ
        have hsn : ((strOf (byP om.x)).toList != (strOf cN).toList) = !Q := by rw [bne, hsq]
        skip
        refine wp_region_noPanic ?_
        refine wp_region_held_drew (S := fun w' => w'.cell? ⟨w1.heap.size, 2, none⟩ = some (.bool false) ∧ w'.rangeAt gm 0 [.int .u8 5, .int .i64 x1, .int .i64 x2, .int .i64 x3, .int .i64 x4, .int .i64 0, .bool false, .slice none 0 0, .int .i64 0, .bool false, .slice none 0 0, .int .i64 0, .bool false, .slice none 0 0, .int .i64 0, .bool false, .slice none 0 0, .int .i64 0, .bool (x5 == 1), .slice D acc.length cc, .bool false, .int .i64 0, .int .i64 0, .slice none 0 0] ∧ (convert 34 9 (.slice A n c)).run Try.prog w' = .ok (.string (strOf cN)) w') (by kernel_rfl) (⟨(Below.cell hBd (p := ⟨w1.heap.size, 2, none⟩) (by show w1.heap.size < _; omega)).trans kr, (hkm.below hBd hkm.lt).range 0 _ rfl, hcv _ (gW.out.trans (hBd.mono gW.out.size))⟩) (fun hHeld => ?_)
        refine wpAnyH_take (i := 0) (oi := ?o0) (v := ?v0) ?ho0 (by kernel_rfl) (by kernel_rfl) (by kernel_rfl) (fun _ _ _ h => h) (Or.inl ⟨?wn0, ?yn0⟩) (by assumption) ?rest0
        case ho0 => (simp only [List.getElem?_toArray, List.getElem?_cons_zero, List.getElem?_cons_succ]; rfl)
        case wn0 => rfl
        case yn0 => (intro w hSw; (try dsimp only at hSw); go_simp; (try with_reducible rfl))
        (try simp only [Act.put, List.setIfInBounds_toArray, List.set_cons_zero, List.set_cons_succ])
        refine wpAnyH_take (i := 1) (oi := ?o1) (v := ?v1) ?ho1 (by kernel_rfl) (by kernel_rfl) (by kernel_rfl) (fun _ _ _ h => h) (Or.inl ⟨?wn1, ?yn1⟩) (by assumption) ?rest1
        case ho1 => (simp only [List.getElem?_toArray, List.getElem?_cons_zero, List.getElem?_cons_succ]; rfl)
        case wn1 => rfl
        case yn1 => (intro w hSw; (try dsimp only at hSw); go_simp; (try with_reducible rfl))
        (try simp only [Act.put, List.setIfInBounds_toArray, List.set_cons_zero, List.set_cons_succ])
        refine wpAnyH_take (i := 2) (oi := ?o2) (v := ?v2) ?ho2 (by kernel_rfl) (by kernel_rfl) (by kernel_rfl) (fun _ _ _ h => h) (Or.inl ⟨?wn2, ?yn2⟩) (by assumption) ?rest2
        case ho2 => (simp only [List.getElem?_toArray, List.getElem?_cons_zero, List.getElem?_cons_succ]; rfl)
        case wn2 => rfl
        case yn2 => (intro w hSw; (try dsimp only at hSw); go_simp; (try with_reducible rfl))
        (try simp only [Act.put, List.setIfInBounds_toArray, List.set_cons_zero, List.set_cons_succ])
        refine wpAnyH_take (i := 3) (oi := ?o3) (v := ?v3) ?ho3 (by kernel_rfl) (by kernel_rfl) (by kernel_rfl) (fun _ _ _ h => h) (Or.inl ⟨?wn3, ?yn3⟩) (by assumption) ?rest3
        case ho3 => (simp only [List.getElem?_toArray, List.getElem?_cons_zero, List.getElem?_cons_succ]; rfl)
        case wn3 => rfl
        case yn3 => (intro w hSw; (try dsimp only at hSw); go_simp; (try with_reducible rfl))
        (try simp only [Act.put, List.setIfInBounds_toArray, List.set_cons_zero, List.set_cons_succ])
        refine wpAnyH_take (i := 4) (oi := ?o4) (v := ?v4) ?ho4 (by kernel_rfl) (by kernel_rfl) (by kernel_rfl) (fun _ _ _ h => h) (Or.inl ⟨?wn4, ?yn4⟩) (by assumption) ?rest4
        case ho4 => (simp only [List.getElem?_toArray, List.getElem?_cons_zero, List.getElem?_cons_succ]; rfl)
        case wn4 => rfl
        case yn4 => (intro w hSw; (try dsimp only at hSw); go_simp; (try with_reducible rfl))
        (try simp only [Act.put, List.setIfInBounds_toArray, List.set_cons_zero, List.set_cons_succ])
        refine wpAnyH_take (i := 5) (oi := ?o5) (v := .agg ([.int .u8 5, .int .i64 x1, .int .i64 x2, .int .i64 x3, .int .i64 x4, .int .i64 0, .bool false, .slice none 0 0, .int .i64 0, .bool false, .slice none 0 0, .int .i64 0, .bool false, .slice none 0 0, .int .i64 0, .bool false, .slice none 0 0, .int .i64 0, .bool (x5 == 1), .slice D acc.length cc, .bool false, .int .i64 0, .int .i64 0, .slice none 0 0] : List Value).toArray) ?ho5 (by kernel_rfl) (by kernel_rfl) (by kernel_rfl) (fun _ _ _ h => h) (yieldsIf_load_mid ?wn5 31 (.tmp 9) ?on5 gm 0 ?xn5 [.int .u8 5, .int .i64 x1, .int .i64 x2, .int .i64 x3, .int .i64 x4, .int .i64 0, .bool false, .slice none 0 0, .int .i64 0, .bool false, .slice none 0 0, .int .i64 0, .bool false, .slice none 0 0, .int .i64 0, .bool false, .slice none 0 0, .int .i64 0, .bool (x5 == 1), .slice D acc.length cc, .bool false, .int .i64 0, .int .i64 0, .slice none 0 0] _ (fun w h => h.2.1) Try.underlying31 rfl (by kernel_rfl)) (by assumption) ?rest5
        case ho5 => (simp only [List.getElem?_toArray, List.getElem?_cons_zero, List.getElem?_cons_succ]; rfl)
        case on5 => rfl
        case wn5 => rfl
        case xn5 => rfl
        (try simp only [Act.put, List.setIfInBounds_toArray, List.set_cons_zero, List.set_cons_succ])
        refine wpAnyH_ready (rs := [6]) (by kernel_rfl) (by simp) ?_
        refine AllReadyH.cons (o := ?o6) ?ho6 (fun K hK => ?rest6) AllReadyH.nil
        case ho6 => (simp only [List.getElem?_toArray, List.getElem?_cons_zero, List.getElem?_cons_succ]; rfl)
        go_simp
        with_reducible refine (fc _ (by assumption)).mono ?_
        rintro en y6 ⟨rfl, hb6⟩
        have hB6 : Below wr.heap.size wr y6 := Below.trans (by assumption) (hb6.mono (by assumption))
        have sz6 := hB6.size
        have u6 := hkm.below hB6 hkm.lt
        refine hK.out _ _ (⟨(Below.cell hB6 (p := ⟨w1.heap.size, 2, none⟩) (by show w1.heap.size < _; omega)).trans kr, (u6).range 0 _ rfl, hcv _ (gW.out.trans (hB6.mono gW.out.size))⟩) (fun hHeld => ?_)
        clear hK K
        (try simp only [Act.put, List.setIfInBounds_toArray, List.set_cons_zero, List.set_cons_succ])
        refine wpAnyH_take (i := 7) (oi := ?o7) (v := ?v7) ?ho7 (by kernel_rfl) (by kernel_rfl) (by kernel_rfl) (fun _ _ _ h => h) (Or.inl ⟨?wn7, ?yn7⟩) (by assumption) ?rest7
        case ho7 => (simp only [List.getElem?_toArray, List.getElem?_cons_zero, List.getElem?_cons_succ]; rfl)
        case wn7 => rfl
        case yn7 => (intro w hSw; (try dsimp only at hSw); go_simp; (try with_reducible rfl))
        (try simp only [Act.put, List.setIfInBounds_toArray, List.set_cons_zero, List.set_cons_succ])
        refine wpAnyH_take (i := 8) (oi := ?o8) (v := ?v8) ?ho8 (by kernel_rfl) (by kernel_rfl) (by kernel_rfl) (fun _ _ _ h => h) (Or.inl ⟨?wn8, ?yn8⟩) (by assumption) ?rest8
        case ho8 => (simp only [List.getElem?_toArray, List.getElem?_cons_zero, List.getElem?_cons_succ]; rfl)
        case wn8 => rfl
        case yn8 => (intro w hSw; (try dsimp only at hSw); go_simp; (try with_reducible rfl))
        (try simp only [Act.put, List.setIfInBounds_toArray, List.set_cons_zero, List.set_cons_succ])
        refine wpAnyH_take (i := 9) (oi := ?o9) (v := ?v9) ?ho9 (by kernel_rfl) (by kernel_rfl) (by kernel_rfl) (fun _ _ _ h => h) (Or.inl ⟨?wn9, ?yn9⟩) (by assumption) ?rest9
        case ho9 => (simp only [List.getElem?_toArray, List.getElem?_cons_zero, List.getElem?_cons_succ]; rfl)
        case wn9 => rfl
        case yn9 => (intro w hSw; (try dsimp only at hSw); go_simp; (try with_reducible rfl))
        (try simp only [Act.put, List.setIfInBounds_toArray, List.set_cons_zero, List.set_cons_succ])
        refine wpAnyH_take (i := 10) (oi := ?o10) (v := .agg ([.int .u8 5, .int .i64 x1, .int .i64 x2, .int .i64 x3, .int .i64 x4, .int .i64 0, .bool false, .slice none 0 0, .int .i64 0, .bool false, .slice none 0 0, .int .i64 0, .bool false, .slice none 0 0, .int .i64 0, .bool false, .slice none 0 0, .int .i64 0, .bool (x5 == 1), .slice D acc.length cc, .bool false, .int .i64 0, .int .i64 0, .slice none 0 0] : List Value).toArray) ?ho10 (by kernel_rfl) (by kernel_rfl) (by kernel_rfl) (fun _ _ _ h => h) (yieldsIf_load_mid ?wn10 31 (.tmp 9) ?on10 gm 0 ?xn10 [.int .u8 5, .int .i64 x1, .int .i64 x2, .int .i64 x3, .int .i64 x4, .int .i64 0, .bool false, .slice none 0 0, .int .i64 0, .bool false, .slice none 0 0, .int .i64 0, .bool false, .slice none 0 0, .int .i64 0, .bool false, .slice none 0 0, .int .i64 0, .bool (x5 == 1), .slice D acc.length cc, .bool false, .int .i64 0, .int .i64 0, .slice none 0 0] _ (fun w h => h.2.1) Try.underlying31 rfl (by kernel_rfl)) (by assumption) ?rest10
        case ho10 => (simp only [List.getElem?_toArray, List.getElem?_cons_zero, List.getElem?_cons_succ]; rfl)
        case on10 => rfl
        case wn10 => rfl
        case xn10 => rfl
        (try simp only [Act.put, List.setIfInBounds_toArray, List.set_cons_zero, List.set_cons_succ])
        refine wpAnyH_take (i := 13) (oi := ?o13) (v := ?v13) ?ho13 (by kernel_rfl) (by kernel_rfl) (by kernel_rfl) (fun _ _ _ h => h) (Or.inl ⟨?wn13, ?yn13⟩) (by assumption) ?rest13
        case ho13 => (simp only [List.getElem?_toArray, List.getElem?_cons_zero, List.getElem?_cons_succ]; rfl)
        case wn13 => rfl
        case yn13 => (intro w hSw; (try dsimp only at hSw); go_simp; (try with_reducible rfl))
        (try simp only [Act.put, List.setIfInBounds_toArray, List.set_cons_zero, List.set_cons_succ])
        refine wpAnyH_take (i := 14) (oi := ?o14) (v := ?v14) ?ho14 (by kernel_rfl) (by kernel_rfl) (by kernel_rfl) (fun _ _ _ h => h) (Or.inl ⟨?wn14, ?yn14⟩) (by assumption) ?rest14
        case ho14 => (simp only [List.getElem?_toArray, List.getElem?_cons_zero, List.getElem?_cons_succ]; rfl)
        case wn14 => rfl
        case yn14 => (intro w hSw; (try dsimp only at hSw); go_simp; (try with_reducible rfl))
        (try simp only [Act.put, List.setIfInBounds_toArray, List.set_cons_zero, List.set_cons_succ])
        refine wpAnyH_ready (rs := [11]) (by kernel_rfl) (by simp) ?_
        refine AllReadyH.cons (o := ?o11) ?ho11 (fun K hK => ?rest11) AllReadyH.nil
        case ho11 => (simp only [List.getElem?_toArray, List.getElem?_cons_zero, List.getElem?_cons_succ]; rfl)
        go_simp
        with_reducible refine (fn _ hB6).mono ?_
        rintro en y11 ⟨Xc, cx, rfl, ho11, hb11⟩
        have hB11 : Below wr.heap.size wr y11 := hB6.trans (hb11.mono sz6)
        have u11 := hkm.below hB11 hkm.lt
        have cv11 : (convert 34 9 (.slice Xc (total (conP om.x)) cx)).run Try.prog y11 = .ok (.string (strOf (byP om.x))) y11 := conv_str (byP_len _) (byP_lt _) (by rw [show bytes (byP om.x) = u8s (flat (conP om.x)) from (u8s_bytes (fun b hb => (flat_byte _ b hb).1)).symm]; exact Reads.of_own ho11)
        clear ho11
        refine hK.out _ _ (⟨(Below.cell hB11 (p := ⟨w1.heap.size, 2, none⟩) (by show w1.heap.size < _; omega)).trans kr, (u11).range 0 _ rfl, hcv _ (gW.out.trans (hB11.mono gW.out.size))⟩) (fun hHeld => ?_)
        clear hK K
        (try simp only [Act.put, List.setIfInBounds_toArray, List.set_cons_zero, List.set_cons_succ])
        refine wpAnyH_ready (rs := [12]) (by kernel_rfl) (by simp) ?_
        refine AllReadyH.cons (o := ?o12) ?ho12 (fun K hK => ?rest12) AllReadyH.nil
        case ho12 => (simp only [List.getElem?_toArray, List.getElem?_cons_zero, List.getElem?_cons_succ]; rfl)
        go_simp
        refine hK.out _ _ (⟨(Below.cell hB11 (p := ⟨w1.heap.size, 2, none⟩) (by show w1.heap.size < _; omega)).trans kr, (u11).range 0 _ rfl, hcv _ (gW.out.trans (hB11.mono gW.out.size))⟩) (fun hHeld => ?_)
        clear hK K
        (try simp only [Act.put, List.setIfInBounds_toArray, List.set_cons_zero, List.set_cons_succ])
        refine wpAnyH_take (i := 15) (oi := ?o15) (v := ?v15) ?ho15 (by kernel_rfl) (by kernel_rfl) (by kernel_rfl) (fun _ _ _ h => h) (Or.inl ⟨?wn15, ?yn15⟩) (by assumption) ?rest15
        case ho15 => (simp only [List.getElem?_toArray, List.getElem?_cons_zero, List.getElem?_cons_succ]; rfl)
        case wn15 => rfl
        case yn15 => (intro w hSw; (try dsimp only at hSw); go_simp; (try with_reducible rfl))
        (try simp only [Act.put, List.setIfInBounds_toArray, List.set_cons_zero, List.set_cons_succ])
        refine wpAnyH_take (i := 16) (oi := ?o16) (v := ?v16) ?ho16 (by kernel_rfl) (by kernel_rfl) (by kernel_rfl) (fun _ _ _ h => h) (Or.inl ⟨?wn16, ?yn16⟩) (by assumption) ?rest16
        case ho16 => (simp only [List.getElem?_toArray, List.getElem?_cons_zero, List.getElem?_cons_succ]; rfl)
        case wn16 => rfl
        case yn16 => (intro w hSw; (try dsimp only at hSw); go_simp; (try with_reducible rfl))
        (try simp only [Act.put, List.setIfInBounds_toArray, List.set_cons_zero, List.set_cons_succ])
        refine wpAnyH_done (by kernel_rfl) ?_ _
        refine NoPanic.normal ?_
        have hz2 := hz.below hB11 hz.lt
        have hB2 := gB.out.trans (hB11.mono gB.out.size)
        have gown := Lib.hid hown
        have ghB11 := Lib.hid hB11
        have gagg := Lib.hid hagg
        have u12 := u11
        replace hdec := Lib.hid hdec
        replace hQ := Lib.hid hQ
        have ghok := Lib.hid hok
        have glt := Lib.hid hsm.2
        clear hok
        clear fw fc fn hrd hcv hkm hz kr gB kz km hk gW hown hagg hsm hsq hsn u6 u11 hB6 hB11 cv11 hb6 hb11 
        cases Q
        · have hno : ∀ m, ¬ GoodM 5 (cN.map Int.ofNat) m := fun m h => by
            have h1 := h.2.1
            have h2 := h.2.2.2
            rw [hdec.out] at h1
            simp only at h1
            rw [h1] at h2
            refine of_decide_eq_false hQ.out ?_
            unfold byP
            rw [h2, List.map_map]
            conv => rhs; rw [← List.map_id cN]
            rfl
          have kf := hz2.setRow #[.int .u8 0, .int .i64 0, .int .i64 0, .int .i64 0, .int .i64 0, .int .i64 0, .bool false, .slice none 0 0, .int .i64 0, .bool false, .slice none 0 0, .int .i64 0, .bool false, .slice none 0 0, .int .i64 0, .bool false, .slice none 0 0, .int .i64 0, .bool false, .slice none 0 0, .bool false, .int .i64 0, .int .i64 0, .slice none 0 0]
          have hBf := below_setRow (g := w.heap.size) hB2 (Nat.le_refl _) #[.int .u8 0, .int .i64 0, .int .i64 0, .int .i64 0, .int .i64 0, .int .i64 0, .bool false, .slice none 0 0, .int .i64 0, .bool false, .slice none 0 0, .int .i64 0, .bool false, .slice none 0 0, .int .i64 0, .bool false, .slice none 0 0, .int .i64 0, .bool false, .slice none 0 0, .bool false, .int .i64 0, .int .i64 0, .slice none 0 0]
          go_wp2_with (refine wpList_store_row rfl 31 _ _ rfl w.heap.size #[.int .u8 0, .int .i64 0, .int .i64 0, .int .i64 0, .int .i64 0, .int .i64 0, .bool false, .slice none 0 0, .int .i64 0, .bool false, .slice none 0 0, .int .i64 0, .bool false, .slice none 0 0, .int .i64 0, .bool false, .slice none 0 0, .int .i64 0, .bool false, .slice none 0 0, .bool false, .int .i64 0, .int .i64 0, .slice none 0 0] rfl rfl 31 #[.int .u8 0, .int .i64 0, .int .i64 0, .int .i64 0, .int .i64 0, .int .i64 0, .bool false, .slice none 0 0, .int .i64 0, .bool false, .slice none 0 0, .int .i64 0, .bool false, .slice none 0 0, .int .i64 0, .bool false, .slice none 0 0, .int .i64 0, .bool false, .slice none 0 0, .bool false, .int .i64 0, .int .i64 0, .slice none 0 0] hz2.row info_mail rfl (by simp [Value.oneCell']) ?_)
          (try simp only [Exit.inBlock, Exit.then])
          refine bodyPost_ret (results_row_slot rfl _ _ w.heap.size 31 #[.int .u8 0, .int .i64 0, .int .i64 0, .int .i64 0, .int .i64 0, .int .i64 0, .bool false, .slice none 0 0, .int .i64 0, .bool false, .slice none 0 0, .int .i64 0, .bool false, .slice none 0 0, .int .i64 0, .bool false, .slice none 0 0, .int .i64 0, .bool false, .slice none 0 0, .bool false, .int .i64 0, .int .i64 0, .slice none 0 0] (0, 0) _ rfl kf.row Try.underlying31 rfl info_mail) rfl ?_
          exact ⟨hBf, zeroO, 41, rfl, ownL_zero _ _, .inr ⟨rfl, rfl, hno⟩⟩
        · have hgood : Hid (GoodM 5 (cN.map Int.ofNat) om.x) := Lib.hid (by
            refine ⟨by rw [hdec.out, hwr]; rfl, by rw [hdec.out], ghok.out, ?_⟩
            have h3 := of_decide_eq_true hQ.out
            rw [← h3]
            unfold byP
            rw [List.map_map]
            conv => lhs; rw [← List.map_id (flat (conP om.x))]
            apply List.map_congr_left
            intro b hb
            have := (flat_byte _ b hb).1
            simp [Int.toNat_of_nonneg this])
          have kf := hz2.setRow #[.int .u8 5, .int .i64 x1, .int .i64 x2, .int .i64 x3, .int .i64 x4, .int .i64 0, .bool false, .slice none 0 0, .int .i64 0, .bool false, .slice none 0 0, .int .i64 0, .bool false, .slice none 0 0, .int .i64 0, .bool false, .slice none 0 0, .int .i64 0, .bool (x5 == 1), .slice D acc.length cc, .bool false, .int .i64 0, .int .i64 0, .slice none 0 0]
          have hBf := below_setRow (g := w.heap.size) hB2 (Nat.le_refl _) #[.int .u8 5, .int .i64 x1, .int .i64 x2, .int .i64 x3, .int .i64 x4, .int .i64 0, .bool false, .slice none 0 0, .int .i64 0, .bool false, .slice none 0 0, .int .i64 0, .bool false, .slice none 0 0, .int .i64 0, .bool false, .slice none 0 0, .int .i64 0, .bool (x5 == 1), .slice D acc.length cc, .bool false, .int .i64 0, .int .i64 0, .slice none 0 0]
          have gof : Hid (ownL (y11.setRow w.heap.size #[.int .u8 5, .int .i64 x1, .int .i64 x2, .int .i64 x3, .int .i64 x4, .int .i64 0, .bool false, .slice none 0 0, .int .i64 0, .bool false, .slice none 0 0, .int .i64 0, .bool false, .slice none 0 0, .int .i64 0, .bool false, .slice none 0 0, .int .i64 0, .bool (x5 == 1), .slice D acc.length cc, .bool false, .int .i64 0, .int .i64 0, .slice none 0 0]) w.heap.size om) := Lib.hid (ownL.setRow (ownL.base (ownL.below gown.out ghB11.out) (by omega)) (by omega) (by omega) _)
          go_wp2_with (first | (refine wpList_load_row rfl 31 _ rfl gm rfl 31 #[.int .u8 5, .int .i64 x1, .int .i64 x2, .int .i64 x3, .int .i64 x4, .int .i64 0, .bool false, .slice none 0 0, .int .i64 0, .bool false, .slice none 0 0, .int .i64 0, .bool false, .slice none 0 0, .int .i64 0, .bool false, .slice none 0 0, .int .i64 0, .bool (x5 == 1), .slice D acc.length cc, .bool false, .int .i64 0, .int .i64 0, .slice none 0 0] (0, 0) _ u12.row Try.underlying31 rfl (by kernel_rfl) ?_) | (refine wpList_store_row rfl 31 _ _ rfl w.heap.size #[.int .u8 5, .int .i64 x1, .int .i64 x2, .int .i64 x3, .int .i64 x4, .int .i64 0, .bool false, .slice none 0 0, .int .i64 0, .bool false, .slice none 0 0, .int .i64 0, .bool false, .slice none 0 0, .int .i64 0, .bool false, .slice none 0 0, .int .i64 0, .bool (x5 == 1), .slice D acc.length cc, .bool false, .int .i64 0, .int .i64 0, .slice none 0 0] rfl rfl 31 #[.int .u8 0, .int .i64 0, .int .i64 0, .int .i64 0, .int .i64 0, .int .i64 0, .bool false, .slice none 0 0, .int .i64 0, .bool false, .slice none 0 0, .int .i64 0, .bool false, .slice none 0 0, .int .i64 0, .bool false, .slice none 0 0, .int .i64 0, .bool false, .slice none 0 0, .bool false, .int .i64 0, .int .i64 0, .slice none 0 0] hz2.row info_mail rfl (by simp [Value.oneCell']) ?_))
          (try simp only [Exit.inBlock, Exit.then])
          refine bodyPost_ret (results_row_slot rfl _ _ w.heap.size 31 #[.int .u8 5, .int .i64 x1, .int .i64 x2, .int .i64 x3, .int .i64 x4, .int .i64 0, .bool false, .slice none 0 0, .int .i64 0, .bool false, .slice none 0 0, .int .i64 0, .bool false, .slice none 0 0, .int .i64 0, .bool false, .slice none 0 0, .int .i64 0, .bool (x5 == 1), .slice D acc.length cc, .bool false, .int .i64 0, .int .i64 0, .slice none 0 0] (0, 0) _ rfl kf.row Try.underlying31 rfl info_mail) rfl ?_
          exact ⟨hBf, om, 0, by rw [gagg.out]; rfl, gof.out, .inl ⟨rfl, hgood.out⟩⟩
end Go.Proofs.Ytjmhefkmpfkpbaa
