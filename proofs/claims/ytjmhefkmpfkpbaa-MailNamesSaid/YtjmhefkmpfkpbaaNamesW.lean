/- Mail: MailNames' walk -/
import Derived.Test.YtjmhefkmpfkpbaaNM
import Derived.Test.YtjmhefkmpfkpbaaRAB
namespace Go.Proofs.Ytjmhefkmpfkpbaa
open Go.ChangeShapes Go.WideShapes Go.ChangeAt Go.RowKit
set_option linter.unusedSimpArgs false
set_option linter.unusedVariables false
set_option maxRecDepth 100000 in
set_option maxHeartbeats 32000000 in
theorem names_walk (w : World) : Calls Try.prog 5 #[] w fun en w' => en = .returned (.bool true) ∧ Below w.heap.size w w' := by
  go_enter Try.func5, Try.ntmps5
  have gB : Hid (Below w.heap.size w w) := Lib.hid (Below.refl _ _)
  have hp := push_lit w
  go_wp2_with fail
  refine hp.mono ?_
  rintro en w1 ⟨X0a, c0a, X1a, c1a, X2a, c2a, X3a, c3a, Da, dca, La, lca, rfl, gra, hb⟩
  replace gra := Lib.hid gra
  replace gB := Lib.hid (gB.out.trans (hb.mono gB.out.size))
  clear hp hb
  have hp := push_lit w1
  go_wp2_with fail
  refine hp.mono ?_
  rintro en w2 ⟨X0b, c0b, X1b, c1b, X2b, c2b, X3b, c3b, Db, dcb, Lb, lcb, rfl, grb, hb⟩
  replace grb := Lib.hid grb
  replace gB := Lib.hid (gB.out.trans (hb.mono gB.out.size))
  replace gra := Lib.hid (gra.out.below hb hb.size)
  clear hp hb
  have hp := push_lit w2
  go_wp2_with fail
  refine hp.mono ?_
  rintro en w3 ⟨X0c, c0c, X1c, c1c, X2c, c2c, X3c, c3c, Dc, dcc, Lc, lcc, rfl, grc, hb⟩
  replace grc := Lib.hid grc
  replace gB := Lib.hid (gB.out.trans (hb.mono gB.out.size))
  replace gra := Lib.hid (gra.out.below hb hb.size)
  replace grb := Lib.hid (grb.out.below hb hb.size)
  clear hp hb
  have hp := push_lit w3
  go_wp2_with fail
  refine hp.mono ?_
  rintro en w4 ⟨X0d, c0d, X1d, c1d, X2d, c2d, X3d, c3d, Dd, dcd, Ld, lcd, rfl, grd, hb⟩
  replace grd := Lib.hid grd
  replace gB := Lib.hid (gB.out.trans (hb.mono gB.out.size))
  replace gra := Lib.hid (gra.out.below hb hb.size)
  replace grb := Lib.hid (grb.out.below hb hb.size)
  replace grc := Lib.hid (grc.out.below hb hb.size)
  clear hp hb
  go_upto_region 2 with (first | (refine wpList_store_row rfl 31 _ _ rfl w4.heap.size #[.int .u8 1, .int .i64 1, .int .i64 2, .int .i64 3, .int .i64 4, .int .i64 0, .bool false, .slice X0a 1 c0a, .int .i64 0, .bool false, .slice X1a 1 c1a, .int .i64 0, .bool false, .slice X2a 0 c2a, .int .i64 0, .bool false, .slice X3a 0 c3a, .int .i64 0, .bool false, .slice Da 0 dca, .bool false, .int .i64 0, .int .i64 0, .slice La 0 lca] rfl rfl 31 #[.int .u8 0, .int .i64 0, .int .i64 0, .int .i64 0, .int .i64 0, .int .i64 0, .bool false, .slice none 0 0, .int .i64 0, .bool false, .slice none 0 0, .int .i64 0, .bool false, .slice none 0 0, .int .i64 0, .bool false, .slice none 0 0, .int .i64 0, .bool false, .slice none 0 0, .bool false, .int .i64 0, .int .i64 0, .slice none 0 0] ?_ info_mail rfl (by simp [Value.oneCell']) ?_; exact (four0 w4).1) | (refine wpList_store_row rfl 31 _ _ rfl (w4.heap.size + 1) #[.int .u8 1, .int .i64 1, .int .i64 2, .int .i64 3, .int .i64 4, .int .i64 0, .bool false, .slice X0b 1 c0b, .int .i64 0, .bool false, .slice X1b 1 c1b, .int .i64 0, .bool false, .slice X2b 0 c2b, .int .i64 0, .bool false, .slice X3b 0 c3b, .int .i64 0, .bool false, .slice Db 0 dcb, .bool false, .int .i64 0, .int .i64 0, .slice Lb 0 lcb] rfl rfl 31 #[.int .u8 0, .int .i64 0, .int .i64 0, .int .i64 0, .int .i64 0, .int .i64 0, .bool false, .slice none 0 0, .int .i64 0, .bool false, .slice none 0 0, .int .i64 0, .bool false, .slice none 0 0, .int .i64 0, .bool false, .slice none 0 0, .int .i64 0, .bool false, .slice none 0 0, .bool false, .int .i64 0, .int .i64 0, .slice none 0 0] ?_ info_mail rfl (by simp [Value.oneCell']) ?_; exact (four1 w4 #[.int .u8 1, .int .i64 1, .int .i64 2, .int .i64 3, .int .i64 4, .int .i64 0, .bool false, .slice X0a 1 c0a, .int .i64 0, .bool false, .slice X1a 1 c1a, .int .i64 0, .bool false, .slice X2a 0 c2a, .int .i64 0, .bool false, .slice X3a 0 c3a, .int .i64 0, .bool false, .slice Da 0 dca, .bool false, .int .i64 0, .int .i64 0, .slice La 0 lca])) | (refine wpList_store_row rfl 31 _ _ rfl (w4.heap.size + 1 + 1) #[.int .u8 1, .int .i64 1, .int .i64 2, .int .i64 3, .int .i64 4, .int .i64 0, .bool false, .slice X0c 1 c0c, .int .i64 0, .bool false, .slice X1c 1 c1c, .int .i64 0, .bool false, .slice X2c 0 c2c, .int .i64 0, .bool false, .slice X3c 0 c3c, .int .i64 0, .bool false, .slice Dc 0 dcc, .bool false, .int .i64 0, .int .i64 0, .slice Lc 0 lcc] rfl rfl 31 #[.int .u8 0, .int .i64 0, .int .i64 0, .int .i64 0, .int .i64 0, .int .i64 0, .bool false, .slice none 0 0, .int .i64 0, .bool false, .slice none 0 0, .int .i64 0, .bool false, .slice none 0 0, .int .i64 0, .bool false, .slice none 0 0, .int .i64 0, .bool false, .slice none 0 0, .bool false, .int .i64 0, .int .i64 0, .slice none 0 0] ?_ info_mail rfl (by simp [Value.oneCell']) ?_; exact (four2 w4 #[.int .u8 1, .int .i64 1, .int .i64 2, .int .i64 3, .int .i64 4, .int .i64 0, .bool false, .slice X0a 1 c0a, .int .i64 0, .bool false, .slice X1a 1 c1a, .int .i64 0, .bool false, .slice X2a 0 c2a, .int .i64 0, .bool false, .slice X3a 0 c3a, .int .i64 0, .bool false, .slice Da 0 dca, .bool false, .int .i64 0, .int .i64 0, .slice La 0 lca] #[.int .u8 1, .int .i64 1, .int .i64 2, .int .i64 3, .int .i64 4, .int .i64 0, .bool false, .slice X0b 1 c0b, .int .i64 0, .bool false, .slice X1b 1 c1b, .int .i64 0, .bool false, .slice X2b 0 c2b, .int .i64 0, .bool false, .slice X3b 0 c3b, .int .i64 0, .bool false, .slice Db 0 dcb, .bool false, .int .i64 0, .int .i64 0, .slice Lb 0 lcb])) | (refine wpList_store_row rfl 31 _ _ rfl (w4.heap.size + 1 + 1 + 1) #[.int .u8 1, .int .i64 1, .int .i64 2, .int .i64 3, .int .i64 4, .int .i64 0, .bool false, .slice X0d 1 c0d, .int .i64 0, .bool false, .slice X1d 1 c1d, .int .i64 0, .bool false, .slice X2d 0 c2d, .int .i64 0, .bool false, .slice X3d 0 c3d, .int .i64 0, .bool false, .slice Dd 0 dcd, .bool false, .int .i64 0, .int .i64 0, .slice Ld 0 lcd] rfl rfl 31 #[.int .u8 0, .int .i64 0, .int .i64 0, .int .i64 0, .int .i64 0, .int .i64 0, .bool false, .slice none 0 0, .int .i64 0, .bool false, .slice none 0 0, .int .i64 0, .bool false, .slice none 0 0, .int .i64 0, .bool false, .slice none 0 0, .int .i64 0, .bool false, .slice none 0 0, .bool false, .int .i64 0, .int .i64 0, .slice none 0 0] ?_ info_mail rfl (by simp [Value.oneCell']) ?_; exact (four3 w4 #[.int .u8 1, .int .i64 1, .int .i64 2, .int .i64 3, .int .i64 4, .int .i64 0, .bool false, .slice X0a 1 c0a, .int .i64 0, .bool false, .slice X1a 1 c1a, .int .i64 0, .bool false, .slice X2a 0 c2a, .int .i64 0, .bool false, .slice X3a 0 c3a, .int .i64 0, .bool false, .slice Da 0 dca, .bool false, .int .i64 0, .int .i64 0, .slice La 0 lca] #[.int .u8 1, .int .i64 1, .int .i64 2, .int .i64 3, .int .i64 4, .int .i64 0, .bool false, .slice X0b 1 c0b, .int .i64 0, .bool false, .slice X1b 1 c1b, .int .i64 0, .bool false, .slice X2b 0 c2b, .int .i64 0, .bool false, .slice X3b 0 c3b, .int .i64 0, .bool false, .slice Db 0 dcb, .bool false, .int .i64 0, .int .i64 0, .slice Lb 0 lcb] #[.int .u8 1, .int .i64 1, .int .i64 2, .int .i64 3, .int .i64 4, .int .i64 0, .bool false, .slice X0c 1 c0c, .int .i64 0, .bool false, .slice X1c 1 c1c, .int .i64 0, .bool false, .slice X2c 0 c2c, .int .i64 0, .bool false, .slice X3c 0 c3c, .int .i64 0, .bool false, .slice Dc 0 dcc, .bool false, .int .i64 0, .int .i64 0, .slice Lc 0 lcc])))
  obtain ⟨u1, hu1⟩ : ∃ W, W = fourW w4 #[.int .u8 1, .int .i64 1, .int .i64 2, .int .i64 3, .int .i64 4, .int .i64 0, .bool false, .slice X0a 1 c0a, .int .i64 0, .bool false, .slice X1a 1 c1a, .int .i64 0, .bool false, .slice X2a 0 c2a, .int .i64 0, .bool false, .slice X3a 0 c3a, .int .i64 0, .bool false, .slice Da 0 dca, .bool false, .int .i64 0, .int .i64 0, .slice La 0 lca] #[.int .u8 1, .int .i64 1, .int .i64 2, .int .i64 3, .int .i64 4, .int .i64 0, .bool false, .slice X0b 1 c0b, .int .i64 0, .bool false, .slice X1b 1 c1b, .int .i64 0, .bool false, .slice X2b 0 c2b, .int .i64 0, .bool false, .slice X3b 0 c3b, .int .i64 0, .bool false, .slice Db 0 dcb, .bool false, .int .i64 0, .int .i64 0, .slice Lb 0 lcb] #[.int .u8 1, .int .i64 1, .int .i64 2, .int .i64 3, .int .i64 4, .int .i64 0, .bool false, .slice X0c 1 c0c, .int .i64 0, .bool false, .slice X1c 1 c1c, .int .i64 0, .bool false, .slice X2c 0 c2c, .int .i64 0, .bool false, .slice X3c 0 c3c, .int .i64 0, .bool false, .slice Dc 0 dcc, .bool false, .int .i64 0, .int .i64 0, .slice Lc 0 lcc] #[.int .u8 1, .int .i64 1, .int .i64 2, .int .i64 3, .int .i64 4, .int .i64 0, .bool false, .slice X0d 1 c0d, .int .i64 0, .bool false, .slice X1d 1 c1d, .int .i64 0, .bool false, .slice X2d 0 c2d, .int .i64 0, .bool false, .slice X3d 0 c3d, .int .i64 0, .bool false, .slice Dd 0 dcd, .bool false, .int .i64 0, .int .i64 0, .slice Ld 0 lcd] := ⟨_, rfl⟩
  have h4 := four4 w4 #[.int .u8 1, .int .i64 1, .int .i64 2, .int .i64 3, .int .i64 4, .int .i64 0, .bool false, .slice X0a 1 c0a, .int .i64 0, .bool false, .slice X1a 1 c1a, .int .i64 0, .bool false, .slice X2a 0 c2a, .int .i64 0, .bool false, .slice X3a 0 c3a, .int .i64 0, .bool false, .slice Da 0 dca, .bool false, .int .i64 0, .int .i64 0, .slice La 0 lca] #[.int .u8 1, .int .i64 1, .int .i64 2, .int .i64 3, .int .i64 4, .int .i64 0, .bool false, .slice X0b 1 c0b, .int .i64 0, .bool false, .slice X1b 1 c1b, .int .i64 0, .bool false, .slice X2b 0 c2b, .int .i64 0, .bool false, .slice X3b 0 c3b, .int .i64 0, .bool false, .slice Db 0 dcb, .bool false, .int .i64 0, .int .i64 0, .slice Lb 0 lcb] #[.int .u8 1, .int .i64 1, .int .i64 2, .int .i64 3, .int .i64 4, .int .i64 0, .bool false, .slice X0c 1 c0c, .int .i64 0, .bool false, .slice X1c 1 c1c, .int .i64 0, .bool false, .slice X2c 0 c2c, .int .i64 0, .bool false, .slice X3c 0 c3c, .int .i64 0, .bool false, .slice Dc 0 dcc, .bool false, .int .i64 0, .int .i64 0, .slice Lc 0 lcc] #[.int .u8 1, .int .i64 1, .int .i64 2, .int .i64 3, .int .i64 4, .int .i64 0, .bool false, .slice X0d 1 c0d, .int .i64 0, .bool false, .slice X1d 1 c1d, .int .i64 0, .bool false, .slice X2d 0 c2d, .int .i64 0, .bool false, .slice X3d 0 c3d, .int .i64 0, .bool false, .slice Dd 0 dcd, .bool false, .int .i64 0, .int .i64 0, .slice Ld 0 lcd]
  rw [← hu1] at h4
  unfold fourW at hu1
  rw [← hu1]
  clear hu1
  obtain ⟨ka, kb, kc, kd, hb⟩ := h4
  have sw4 := gB.out.size
  replace gB := Lib.hid (gB.out.trans (hb.mono gB.out.size))
  have s1 := ka.lt
  have s2 := kb.lt
  have s3 := kc.lt
  have s4 := kd.lt
  have gC := Lib.hid hb
  clear hb
  have hd := dof 1 (.inr rfl) u1
  go_wp2_with fail
  refine hd.mono ?_
  rintro en w5 ⟨g, rfl, hog, hb⟩
  replace gB := Lib.hid (gB.out.trans (hb.mono gB.out.size))
  replace gC := Lib.hid (gC.out.trans (hb.mono gC.out.size))
  replace ka := ka.below hb s1
  replace kb := kb.below hb s2
  replace kc := kc.below hb s3
  replace kd := kd.below hb s4
  have hsz := hb.size
  clear hd hb
  have z0 : w5.cell? ⟨w4.heap.size, 0, none⟩ = some (.int .u8 1) := by rw [ka.cell]; rfl
  have z1 : w5.cell? ⟨(w4.heap.size + 1), 2, none⟩ = some (.int .i64 2) := by rw [kb.cell]; rfl
  have z2 : w5.cell? ⟨(w4.heap.size + 1 + 1), 3, none⟩ = some (.int .i64 3) := by rw [kc.cell]; rfl
  have z3 : w5.cell? ⟨(w4.heap.size + 1 + 1 + 1), 12, none⟩ = some (.bool false) := by rw [kd.cell]; rfl
  have z4 : w5.cell? ⟨(w4.heap.size + 1 + 1 + 1), 13, none⟩ = some (.slice X2d 0 c2d) := by rw [kd.cell]; rfl
  have z5 : w5.cell? ⟨(w4.heap.size + 1 + 1 + 1), 14, none⟩ = some (.int .i64 0) := by rw [kd.cell]; rfl
  have f0 := ka.frozen 0
  have f1 := kb.frozen 2
  have f2 := kc.frozen 3
  have f3 := kd.frozen 12
  have f4 := kd.frozen 13
  have f5 := kd.frozen 14
  have gka := Lib.hid ka
  have gkb := Lib.hid kb
  have gkc := Lib.hid kc
  have gkd := Lib.hid kd
  have gog := Lib.hid hog
  clear ka kb kc kd hog
  go_upto_region 3 with (fail)
  obtain ⟨u2, hu2⟩ : ∃ W, W = ((((((w5.setCell ⟨w4.heap.size, 0, none⟩ (.int .u8 0)).setCell ⟨(w4.heap.size + 1), 2, none⟩ (.int .i64 8)).setCell ⟨(w4.heap.size + 1 + 1), 3, none⟩ (.int .i64 65536)).setCell ⟨(w4.heap.size + 1 + 1 + 1), 12, none⟩ (.bool false)).setCell ⟨(w4.heap.size + 1 + 1 + 1), 13, none⟩ (.slice (some ⟨g, 0, none⟩) 1 1)).setCell ⟨(w4.heap.size + 1 + 1 + 1), 14, none⟩ (.int .i64 0)) := ⟨_, rfl⟩
  have ka : Blk u2 w4.heap.size 31 #[.int .u8 0, .int .i64 1, .int .i64 2, .int .i64 3, .int .i64 4, .int .i64 0, .bool false, .slice X0a 1 c0a, .int .i64 0, .bool false, .slice X1a 1 c1a, .int .i64 0, .bool false, .slice X2a 0 c2a, .int .i64 0, .bool false, .slice X3a 0 c3a, .int .i64 0, .bool false, .slice Da 0 dca, .bool false, .int .i64 0, .int .i64 0, .slice La 0 lca] := by rw [hu2]; exact ((((((gka.out.set_ 0 (.int .u8 0)).far (p := ⟨(w4.heap.size + 1), 2, none⟩) (by show w4.heap.size ≠ (w4.heap.size + 1); omega) (.int .i64 8)).far (p := ⟨(w4.heap.size + 1 + 1), 3, none⟩) (by show w4.heap.size ≠ (w4.heap.size + 1 + 1); omega) (.int .i64 65536)).far (p := ⟨(w4.heap.size + 1 + 1 + 1), 12, none⟩) (by show w4.heap.size ≠ (w4.heap.size + 1 + 1 + 1); omega) (.bool false)).far (p := ⟨(w4.heap.size + 1 + 1 + 1), 13, none⟩) (by show w4.heap.size ≠ (w4.heap.size + 1 + 1 + 1); omega) (.slice (some ⟨g, 0, none⟩) 1 1)).far (p := ⟨(w4.heap.size + 1 + 1 + 1), 14, none⟩) (by show w4.heap.size ≠ (w4.heap.size + 1 + 1 + 1); omega) (.int .i64 0))
  have kb : Blk u2 (w4.heap.size + 1) 31 #[.int .u8 1, .int .i64 1, .int .i64 8, .int .i64 3, .int .i64 4, .int .i64 0, .bool false, .slice X0b 1 c0b, .int .i64 0, .bool false, .slice X1b 1 c1b, .int .i64 0, .bool false, .slice X2b 0 c2b, .int .i64 0, .bool false, .slice X3b 0 c3b, .int .i64 0, .bool false, .slice Db 0 dcb, .bool false, .int .i64 0, .int .i64 0, .slice Lb 0 lcb] := by rw [hu2]; exact ((((((gkb.out.far (p := ⟨w4.heap.size, 0, none⟩) (by show (w4.heap.size + 1) ≠ w4.heap.size; omega) (.int .u8 0)).set_ 2 (.int .i64 8)).far (p := ⟨(w4.heap.size + 1 + 1), 3, none⟩) (by show (w4.heap.size + 1) ≠ (w4.heap.size + 1 + 1); omega) (.int .i64 65536)).far (p := ⟨(w4.heap.size + 1 + 1 + 1), 12, none⟩) (by show (w4.heap.size + 1) ≠ (w4.heap.size + 1 + 1 + 1); omega) (.bool false)).far (p := ⟨(w4.heap.size + 1 + 1 + 1), 13, none⟩) (by show (w4.heap.size + 1) ≠ (w4.heap.size + 1 + 1 + 1); omega) (.slice (some ⟨g, 0, none⟩) 1 1)).far (p := ⟨(w4.heap.size + 1 + 1 + 1), 14, none⟩) (by show (w4.heap.size + 1) ≠ (w4.heap.size + 1 + 1 + 1); omega) (.int .i64 0))
  have kc : Blk u2 (w4.heap.size + 1 + 1) 31 #[.int .u8 1, .int .i64 1, .int .i64 2, .int .i64 65536, .int .i64 4, .int .i64 0, .bool false, .slice X0c 1 c0c, .int .i64 0, .bool false, .slice X1c 1 c1c, .int .i64 0, .bool false, .slice X2c 0 c2c, .int .i64 0, .bool false, .slice X3c 0 c3c, .int .i64 0, .bool false, .slice Dc 0 dcc, .bool false, .int .i64 0, .int .i64 0, .slice Lc 0 lcc] := by rw [hu2]; exact ((((((gkc.out.far (p := ⟨w4.heap.size, 0, none⟩) (by show (w4.heap.size + 1 + 1) ≠ w4.heap.size; omega) (.int .u8 0)).far (p := ⟨(w4.heap.size + 1), 2, none⟩) (by show (w4.heap.size + 1 + 1) ≠ (w4.heap.size + 1); omega) (.int .i64 8)).set_ 3 (.int .i64 65536)).far (p := ⟨(w4.heap.size + 1 + 1 + 1), 12, none⟩) (by show (w4.heap.size + 1 + 1) ≠ (w4.heap.size + 1 + 1 + 1); omega) (.bool false)).far (p := ⟨(w4.heap.size + 1 + 1 + 1), 13, none⟩) (by show (w4.heap.size + 1 + 1) ≠ (w4.heap.size + 1 + 1 + 1); omega) (.slice (some ⟨g, 0, none⟩) 1 1)).far (p := ⟨(w4.heap.size + 1 + 1 + 1), 14, none⟩) (by show (w4.heap.size + 1 + 1) ≠ (w4.heap.size + 1 + 1 + 1); omega) (.int .i64 0))
  have kd : Blk u2 (w4.heap.size + 1 + 1 + 1) 31 #[.int .u8 1, .int .i64 1, .int .i64 2, .int .i64 3, .int .i64 4, .int .i64 0, .bool false, .slice X0d 1 c0d, .int .i64 0, .bool false, .slice X1d 1 c1d, .int .i64 0, .bool false, .slice (some ⟨g, 0, none⟩) 1 1, .int .i64 0, .bool false, .slice X3d 0 c3d, .int .i64 0, .bool false, .slice Dd 0 dcd, .bool false, .int .i64 0, .int .i64 0, .slice Ld 0 lcd] := by rw [hu2]; exact ((((((gkd.out.far (p := ⟨w4.heap.size, 0, none⟩) (by show (w4.heap.size + 1 + 1 + 1) ≠ w4.heap.size; omega) (.int .u8 0)).far (p := ⟨(w4.heap.size + 1), 2, none⟩) (by show (w4.heap.size + 1 + 1 + 1) ≠ (w4.heap.size + 1); omega) (.int .i64 8)).far (p := ⟨(w4.heap.size + 1 + 1), 3, none⟩) (by show (w4.heap.size + 1 + 1 + 1) ≠ (w4.heap.size + 1 + 1); omega) (.int .i64 65536)).set_ 12 (.bool false)).set_ 13 (.slice (some ⟨g, 0, none⟩) 1 1)).set_ 14 (.int .i64 0))
  replace gB : Hid (Below w.heap.size w u2) := Lib.hid (by rw [hu2]; exact ((((((gB.out.setCell (p := ⟨w4.heap.size, 0, none⟩) (by show w.heap.size ≤ w4.heap.size; omega) (.int .u8 0)).setCell (p := ⟨(w4.heap.size + 1), 2, none⟩) (by show w.heap.size ≤ (w4.heap.size + 1); omega) (.int .i64 8)).setCell (p := ⟨(w4.heap.size + 1 + 1), 3, none⟩) (by show w.heap.size ≤ (w4.heap.size + 1 + 1); omega) (.int .i64 65536)).setCell (p := ⟨(w4.heap.size + 1 + 1 + 1), 12, none⟩) (by show w.heap.size ≤ (w4.heap.size + 1 + 1 + 1); omega) (.bool false)).setCell (p := ⟨(w4.heap.size + 1 + 1 + 1), 13, none⟩) (by show w.heap.size ≤ (w4.heap.size + 1 + 1 + 1); omega) (.slice (some ⟨g, 0, none⟩) 1 1)).setCell (p := ⟨(w4.heap.size + 1 + 1 + 1), 14, none⟩) (by show w.heap.size ≤ (w4.heap.size + 1 + 1 + 1); omega) (.int .i64 0)))
  replace gC : Hid (Below w4.heap.size w4 u2) := Lib.hid (by rw [hu2]; exact ((((((gC.out.setCell (p := ⟨w4.heap.size, 0, none⟩) (by show w4.heap.size ≤ w4.heap.size; omega) (.int .u8 0)).setCell (p := ⟨(w4.heap.size + 1), 2, none⟩) (by show w4.heap.size ≤ (w4.heap.size + 1); omega) (.int .i64 8)).setCell (p := ⟨(w4.heap.size + 1 + 1), 3, none⟩) (by show w4.heap.size ≤ (w4.heap.size + 1 + 1); omega) (.int .i64 65536)).setCell (p := ⟨(w4.heap.size + 1 + 1 + 1), 12, none⟩) (by show w4.heap.size ≤ (w4.heap.size + 1 + 1 + 1); omega) (.bool false)).setCell (p := ⟨(w4.heap.size + 1 + 1 + 1), 13, none⟩) (by show w4.heap.size ≤ (w4.heap.size + 1 + 1 + 1); omega) (.slice (some ⟨g, 0, none⟩) 1 1)).setCell (p := ⟨(w4.heap.size + 1 + 1 + 1), 14, none⟩) (by show w4.heap.size ≤ (w4.heap.size + 1 + 1 + 1); omega) (.int .i64 0)))
  have hrd : Reads u2 u2.heap.size 1 (some ⟨g, 0, none⟩) 1 (ints .u32 [1]) := by rw [hu2]; exact ((((((gog.out.far (p := ⟨w4.heap.size, 0, none⟩) (by show w4.heap.size < u1.heap.size; omega) (.int .u8 0)).far (p := ⟨(w4.heap.size + 1), 2, none⟩) (by show (w4.heap.size + 1) < u1.heap.size; omega) (.int .i64 8)).far (p := ⟨(w4.heap.size + 1 + 1), 3, none⟩) (by show (w4.heap.size + 1 + 1) < u1.heap.size; omega) (.int .i64 65536)).far (p := ⟨(w4.heap.size + 1 + 1 + 1), 12, none⟩) (by show (w4.heap.size + 1 + 1 + 1) < u1.heap.size; omega) (.bool false)).far (p := ⟨(w4.heap.size + 1 + 1 + 1), 13, none⟩) (by show (w4.heap.size + 1 + 1 + 1) < u1.heap.size; omega) (.slice (some ⟨g, 0, none⟩) 1 1)).far (p := ⟨(w4.heap.size + 1 + 1 + 1), 14, none⟩) (by show (w4.heap.size + 1 + 1 + 1) < u1.heap.size; omega) (.int .i64 0)).reads
  rw [← hu2]
  clear hu2
  have ba := Lib.hid (badB ⟨nmA, X0a, c0a, X1a, c1a, X2a, c2a, X3a, c3a, Da, dca, La, lca⟩ ka rfl (rd_kd (gra.out.below gC.out gC.out.size)).1 nmA_bad)
  have bb := Lib.hid (badB ⟨nmB, X0b, c0b, X1b, c1b, X2b, c2b, X3b, c3b, Db, dcb, Lb, lcb⟩ kb rfl (rd_kd (grb.out.below gC.out gC.out.size)).2.1 nmB_bad)
  have bc := Lib.hid (badB ⟨nmC, X0c, c0c, X1c, c1c, X2c, c2c, X3c, c3c, Dc, dcc, Lc, lcc⟩ kc rfl (rd_kd (grc.out.below gC.out gC.out.size)).2.2 nmC_bad)
  have bd := Lib.hid (badB ⟨nmD, X0d, c0d, X1d, c1d, some ⟨g, 0, none⟩, 1, X3d, c3d, Dd, dcd, Ld, lcd⟩ kd rfl (rd_c (grd.out.below gC.out gC.out.size) hrd) nmD_bad)
  clear ka gka gra z0 kb gkb grb z1 kc gkc grc z2 kd gkd grd z3 z4 z5 f0 f1 f2 f3 f4 f5 gC gog hrd hsz s1 s2 s3 s4 sw4
  go_upto_region 4 with (refine wpList_store_row rfl 31 _ _ rfl (u2.heap.size + 1) #[.int .u8 6, .int .i64 0, .int .i64 0, .int .i64 0, .int .i64 0, .int .i64 0, .bool false, .slice none 0 0, .int .i64 0, .bool false, .slice none 0 0, .int .i64 0, .bool false, .slice none 0 0, .int .i64 0, .bool false, .slice none 0 0, .int .i64 0, .bool false, .slice none 0 0, .bool false, .int .i64 0, .int .i64 0, .slice (some ⟨u2.heap.size, 0, none⟩) 2 2] rfl rfl 31 #[.int .u8 0, .int .i64 0, .int .i64 0, .int .i64 0, .int .i64 0, .int .i64 0, .bool false, .slice none 0 0, .int .i64 0, .bool false, .slice none 0 0, .int .i64 0, .bool false, .slice none 0 0, .int .i64 0, .bool false, .slice none 0 0, .int .i64 0, .bool false, .slice none 0 0, .bool false, .int .i64 0, .int .i64 0, .slice none 0 0] ?_ info_mail rfl (by simp [Value.oneCell']) ?_; exact (by simpa using Blk.new (u2.alloc (.cells #[.int .u32 3, .int .u32 3] 52)) 31 #[.int .u8 0, .int .i64 0, .int .i64 0, .int .i64 0, .int .i64 0, .int .i64 0, .bool false, .slice none 0 0, .int .i64 0, .bool false, .slice none 0 0, .int .i64 0, .bool false, .slice none 0 0, .int .i64 0, .bool false, .slice none 0 0, .int .i64 0, .bool false, .slice none 0 0, .bool false, .int .i64 0, .int .i64 0, .slice none 0 0] : Blk ((u2.alloc (.cells #[.int .u32 3, .int .u32 3] 52)).alloc (.cells #[.int .u8 0, .int .i64 0, .int .i64 0, .int .i64 0, .int .i64 0, .int .i64 0, .bool false, .slice none 0 0, .int .i64 0, .bool false, .slice none 0 0, .int .i64 0, .bool false, .slice none 0 0, .int .i64 0, .bool false, .slice none 0 0, .int .i64 0, .bool false, .slice none 0 0, .bool false, .int .i64 0, .int .i64 0, .slice none 0 0] 31)) (u2.heap.size + 1) 31 #[.int .u8 0, .int .i64 0, .int .i64 0, .int .i64 0, .int .i64 0, .int .i64 0, .bool false, .slice none 0 0, .int .i64 0, .bool false, .slice none 0 0, .int .i64 0, .bool false, .slice none 0 0, .int .i64 0, .bool false, .slice none 0 0, .int .i64 0, .bool false, .slice none 0 0, .bool false, .int .i64 0, .int .i64 0, .slice none 0 0]))
  obtain ⟨u3, hu3⟩ : ∃ W, W = ((u2.alloc (.cells #[.int .u32 3, .int .u32 3] 52)).alloc (.cells #[.int .u8 0, .int .i64 0, .int .i64 0, .int .i64 0, .int .i64 0, .int .i64 0, .bool false, .slice none 0 0, .int .i64 0, .bool false, .slice none 0 0, .int .i64 0, .bool false, .slice none 0 0, .int .i64 0, .bool false, .slice none 0 0, .int .i64 0, .bool false, .slice none 0 0, .bool false, .int .i64 0, .int .i64 0, .slice none 0 0] 31)).setRow (u2.heap.size + 1) #[.int .u8 6, .int .i64 0, .int .i64 0, .int .i64 0, .int .i64 0, .int .i64 0, .bool false, .slice none 0 0, .int .i64 0, .bool false, .slice none 0 0, .int .i64 0, .bool false, .slice none 0 0, .int .i64 0, .bool false, .slice none 0 0, .int .i64 0, .bool false, .slice none 0 0, .bool false, .int .i64 0, .int .i64 0, .slice (some ⟨u2.heap.size, 0, none⟩) 2 2] := ⟨_, rfl⟩
  have ke : Blk u3 (u2.heap.size + 1) 31 #[.int .u8 6, .int .i64 0, .int .i64 0, .int .i64 0, .int .i64 0, .int .i64 0, .bool false, .slice none 0 0, .int .i64 0, .bool false, .slice none 0 0, .int .i64 0, .bool false, .slice none 0 0, .int .i64 0, .bool false, .slice none 0 0, .int .i64 0, .bool false, .slice none 0 0, .bool false, .int .i64 0, .int .i64 0, .slice (some ⟨u2.heap.size, 0, none⟩) 2 2] := by rw [hu3]; exact (by simpa using Blk.new (u2.alloc (.cells #[.int .u32 3, .int .u32 3] 52)) 31 #[.int .u8 0, .int .i64 0, .int .i64 0, .int .i64 0, .int .i64 0, .int .i64 0, .bool false, .slice none 0 0, .int .i64 0, .bool false, .slice none 0 0, .int .i64 0, .bool false, .slice none 0 0, .int .i64 0, .bool false, .slice none 0 0, .int .i64 0, .bool false, .slice none 0 0, .bool false, .int .i64 0, .int .i64 0, .slice none 0 0] : Blk ((u2.alloc (.cells #[.int .u32 3, .int .u32 3] 52)).alloc (.cells #[.int .u8 0, .int .i64 0, .int .i64 0, .int .i64 0, .int .i64 0, .int .i64 0, .bool false, .slice none 0 0, .int .i64 0, .bool false, .slice none 0 0, .int .i64 0, .bool false, .slice none 0 0, .int .i64 0, .bool false, .slice none 0 0, .int .i64 0, .bool false, .slice none 0 0, .bool false, .int .i64 0, .int .i64 0, .slice none 0 0] 31)) (u2.heap.size + 1) 31 #[.int .u8 0, .int .i64 0, .int .i64 0, .int .i64 0, .int .i64 0, .int .i64 0, .bool false, .slice none 0 0, .int .i64 0, .bool false, .slice none 0 0, .int .i64 0, .bool false, .slice none 0 0, .int .i64 0, .bool false, .slice none 0 0, .int .i64 0, .bool false, .slice none 0 0, .bool false, .int .i64 0, .int .i64 0, .slice none 0 0]).setRow _
  have hb : Below u2.heap.size u2 u3 := by rw [hu3]; exact below_setRow ((((Below.refl _ _).alloc (Nat.le_refl _) _)).alloc (by simp) _) (by omega) _
  have hrs : Reads u3 u3.heap.size 1 (some ⟨u2.heap.size, 0, none⟩) 2 (ints .u32 [3, 3]) := (nm_reads (size := 1) (n := 2) (t := 52) (cs := #[.int .u32 3, .int .u32 3]) (by rw [hu3]; exact ((Blk.new u2 _ _).alloc _).setRow_far (by omega) _) rfl).more (by have := ke.lt; omega)
  rw [← hu3]
  clear hu3
  replace gB := Lib.hid (gB.out.trans (hb.mono gB.out.size))
  replace ba := Lib.hid (ba.out.below hb)
  replace bb := Lib.hid (bb.out.below hb)
  replace bc := Lib.hid (bc.out.below hb)
  replace bd := Lib.hid (bd.out.below hb)
  have be := Lib.hid (badB ⟨nmE, none, 0, none, 0, none, 0, none, 0, none, 0, some ⟨u2.heap.size, 0, none⟩, 2⟩ ke rfl ⟨⟨rdD_zd _ _, rdD_zd _ _, rdD_zd _ _, rdD_zd _ _⟩, Tms.none_, hrs⟩ nmE_bad)
  clear hb ke hrs
  go_upto_region 5 with (refine wpList_store_row rfl 31 _ _ rfl u3.heap.size #[.int .u8 6, .int .i64 0, .int .i64 0, .int .i64 0, .int .i64 0, .int .i64 0, .bool false, .slice none 0 0, .int .i64 0, .bool false, .slice none 0 0, .int .i64 0, .bool false, .slice none 0 0, .int .i64 0, .bool false, .slice none 0 0, .int .i64 0, .bool false, .slice none 0 0, .bool false, .int .i64 1, .int .i64 0, .slice none 0 0] rfl rfl 31 #[.int .u8 0, .int .i64 0, .int .i64 0, .int .i64 0, .int .i64 0, .int .i64 0, .bool false, .slice none 0 0, .int .i64 0, .bool false, .slice none 0 0, .int .i64 0, .bool false, .slice none 0 0, .int .i64 0, .bool false, .slice none 0 0, .int .i64 0, .bool false, .slice none 0 0, .bool false, .int .i64 0, .int .i64 0, .slice none 0 0] ?_ info_mail rfl (by simp [Value.oneCell']) ?_; exact (by simpa using Blk.new u3 31 #[.int .u8 0, .int .i64 0, .int .i64 0, .int .i64 0, .int .i64 0, .int .i64 0, .bool false, .slice none 0 0, .int .i64 0, .bool false, .slice none 0 0, .int .i64 0, .bool false, .slice none 0 0, .int .i64 0, .bool false, .slice none 0 0, .int .i64 0, .bool false, .slice none 0 0, .bool false, .int .i64 0, .int .i64 0, .slice none 0 0] : Blk (u3.alloc (.cells #[.int .u8 0, .int .i64 0, .int .i64 0, .int .i64 0, .int .i64 0, .int .i64 0, .bool false, .slice none 0 0, .int .i64 0, .bool false, .slice none 0 0, .int .i64 0, .bool false, .slice none 0 0, .int .i64 0, .bool false, .slice none 0 0, .int .i64 0, .bool false, .slice none 0 0, .bool false, .int .i64 0, .int .i64 0, .slice none 0 0] 31)) u3.heap.size 31 #[.int .u8 0, .int .i64 0, .int .i64 0, .int .i64 0, .int .i64 0, .int .i64 0, .bool false, .slice none 0 0, .int .i64 0, .bool false, .slice none 0 0, .int .i64 0, .bool false, .slice none 0 0, .int .i64 0, .bool false, .slice none 0 0, .int .i64 0, .bool false, .slice none 0 0, .bool false, .int .i64 0, .int .i64 0, .slice none 0 0]))
  obtain ⟨u4, hu4⟩ : ∃ W, W = (u3.alloc (.cells #[.int .u8 0, .int .i64 0, .int .i64 0, .int .i64 0, .int .i64 0, .int .i64 0, .bool false, .slice none 0 0, .int .i64 0, .bool false, .slice none 0 0, .int .i64 0, .bool false, .slice none 0 0, .int .i64 0, .bool false, .slice none 0 0, .int .i64 0, .bool false, .slice none 0 0, .bool false, .int .i64 0, .int .i64 0, .slice none 0 0] 31)).setRow u3.heap.size #[.int .u8 6, .int .i64 0, .int .i64 0, .int .i64 0, .int .i64 0, .int .i64 0, .bool false, .slice none 0 0, .int .i64 0, .bool false, .slice none 0 0, .int .i64 0, .bool false, .slice none 0 0, .int .i64 0, .bool false, .slice none 0 0, .int .i64 0, .bool false, .slice none 0 0, .bool false, .int .i64 1, .int .i64 0, .slice none 0 0] := ⟨_, rfl⟩
  have kf : Blk u4 u3.heap.size 31 #[.int .u8 6, .int .i64 0, .int .i64 0, .int .i64 0, .int .i64 0, .int .i64 0, .bool false, .slice none 0 0, .int .i64 0, .bool false, .slice none 0 0, .int .i64 0, .bool false, .slice none 0 0, .int .i64 0, .bool false, .slice none 0 0, .int .i64 0, .bool false, .slice none 0 0, .bool false, .int .i64 1, .int .i64 0, .slice none 0 0] := by rw [hu4]; exact (by simpa using Blk.new u3 31 #[.int .u8 0, .int .i64 0, .int .i64 0, .int .i64 0, .int .i64 0, .int .i64 0, .bool false, .slice none 0 0, .int .i64 0, .bool false, .slice none 0 0, .int .i64 0, .bool false, .slice none 0 0, .int .i64 0, .bool false, .slice none 0 0, .int .i64 0, .bool false, .slice none 0 0, .bool false, .int .i64 0, .int .i64 0, .slice none 0 0] : Blk (u3.alloc (.cells #[.int .u8 0, .int .i64 0, .int .i64 0, .int .i64 0, .int .i64 0, .int .i64 0, .bool false, .slice none 0 0, .int .i64 0, .bool false, .slice none 0 0, .int .i64 0, .bool false, .slice none 0 0, .int .i64 0, .bool false, .slice none 0 0, .int .i64 0, .bool false, .slice none 0 0, .bool false, .int .i64 0, .int .i64 0, .slice none 0 0] 31)) u3.heap.size 31 #[.int .u8 0, .int .i64 0, .int .i64 0, .int .i64 0, .int .i64 0, .int .i64 0, .bool false, .slice none 0 0, .int .i64 0, .bool false, .slice none 0 0, .int .i64 0, .bool false, .slice none 0 0, .int .i64 0, .bool false, .slice none 0 0, .int .i64 0, .bool false, .slice none 0 0, .bool false, .int .i64 0, .int .i64 0, .slice none 0 0]).setRow _
  have hb : Below u3.heap.size u3 u4 := by rw [hu4]; exact below_setRow ((Below.refl _ _).alloc (by simp) _) (by omega) _
  rw [← hu4]
  clear hu4
  replace gB := Lib.hid (gB.out.trans (hb.mono gB.out.size))
  replace ba := Lib.hid (ba.out.below hb)
  replace bb := Lib.hid (bb.out.below hb)
  replace bc := Lib.hid (bc.out.below hb)
  replace bd := Lib.hid (bd.out.below hb)
  replace be := Lib.hid (be.out.below hb)
  have bf := Lib.hid (badB ⟨nmF, none, 0, none, 0, none, 0, none, 0, none, 0, none, 0⟩ kf rfl (zrd _ _ nmF rfl rfl rfl) nmF_bad)
  clear hb kf
  go_upto_region 6 with (refine wpList_store_row rfl 31 _ _ rfl u4.heap.size #[.int .u8 2, .int .i64 0, .int .i64 0, .int .i64 0, .int .i64 0, .int .i64 1, .bool false, .slice none 0 0, .int .i64 0, .bool false, .slice none 0 0, .int .i64 0, .bool false, .slice none 0 0, .int .i64 0, .bool false, .slice none 0 0, .int .i64 0, .bool false, .slice none 0 0, .bool false, .int .i64 0, .int .i64 0, .slice none 0 0] rfl rfl 31 #[.int .u8 0, .int .i64 0, .int .i64 0, .int .i64 0, .int .i64 0, .int .i64 0, .bool false, .slice none 0 0, .int .i64 0, .bool false, .slice none 0 0, .int .i64 0, .bool false, .slice none 0 0, .int .i64 0, .bool false, .slice none 0 0, .int .i64 0, .bool false, .slice none 0 0, .bool false, .int .i64 0, .int .i64 0, .slice none 0 0] ?_ info_mail rfl (by simp [Value.oneCell']) ?_; exact (by simpa using Blk.new u4 31 #[.int .u8 0, .int .i64 0, .int .i64 0, .int .i64 0, .int .i64 0, .int .i64 0, .bool false, .slice none 0 0, .int .i64 0, .bool false, .slice none 0 0, .int .i64 0, .bool false, .slice none 0 0, .int .i64 0, .bool false, .slice none 0 0, .int .i64 0, .bool false, .slice none 0 0, .bool false, .int .i64 0, .int .i64 0, .slice none 0 0] : Blk (u4.alloc (.cells #[.int .u8 0, .int .i64 0, .int .i64 0, .int .i64 0, .int .i64 0, .int .i64 0, .bool false, .slice none 0 0, .int .i64 0, .bool false, .slice none 0 0, .int .i64 0, .bool false, .slice none 0 0, .int .i64 0, .bool false, .slice none 0 0, .int .i64 0, .bool false, .slice none 0 0, .bool false, .int .i64 0, .int .i64 0, .slice none 0 0] 31)) u4.heap.size 31 #[.int .u8 0, .int .i64 0, .int .i64 0, .int .i64 0, .int .i64 0, .int .i64 0, .bool false, .slice none 0 0, .int .i64 0, .bool false, .slice none 0 0, .int .i64 0, .bool false, .slice none 0 0, .int .i64 0, .bool false, .slice none 0 0, .int .i64 0, .bool false, .slice none 0 0, .bool false, .int .i64 0, .int .i64 0, .slice none 0 0]))
  obtain ⟨u5, hu5⟩ : ∃ W, W = (u4.alloc (.cells #[.int .u8 0, .int .i64 0, .int .i64 0, .int .i64 0, .int .i64 0, .int .i64 0, .bool false, .slice none 0 0, .int .i64 0, .bool false, .slice none 0 0, .int .i64 0, .bool false, .slice none 0 0, .int .i64 0, .bool false, .slice none 0 0, .int .i64 0, .bool false, .slice none 0 0, .bool false, .int .i64 0, .int .i64 0, .slice none 0 0] 31)).setRow u4.heap.size #[.int .u8 2, .int .i64 0, .int .i64 0, .int .i64 0, .int .i64 0, .int .i64 1, .bool false, .slice none 0 0, .int .i64 0, .bool false, .slice none 0 0, .int .i64 0, .bool false, .slice none 0 0, .int .i64 0, .bool false, .slice none 0 0, .int .i64 0, .bool false, .slice none 0 0, .bool false, .int .i64 0, .int .i64 0, .slice none 0 0] := ⟨_, rfl⟩
  have kg : Blk u5 u4.heap.size 31 #[.int .u8 2, .int .i64 0, .int .i64 0, .int .i64 0, .int .i64 0, .int .i64 1, .bool false, .slice none 0 0, .int .i64 0, .bool false, .slice none 0 0, .int .i64 0, .bool false, .slice none 0 0, .int .i64 0, .bool false, .slice none 0 0, .int .i64 0, .bool false, .slice none 0 0, .bool false, .int .i64 0, .int .i64 0, .slice none 0 0] := by rw [hu5]; exact (by simpa using Blk.new u4 31 #[.int .u8 0, .int .i64 0, .int .i64 0, .int .i64 0, .int .i64 0, .int .i64 0, .bool false, .slice none 0 0, .int .i64 0, .bool false, .slice none 0 0, .int .i64 0, .bool false, .slice none 0 0, .int .i64 0, .bool false, .slice none 0 0, .int .i64 0, .bool false, .slice none 0 0, .bool false, .int .i64 0, .int .i64 0, .slice none 0 0] : Blk (u4.alloc (.cells #[.int .u8 0, .int .i64 0, .int .i64 0, .int .i64 0, .int .i64 0, .int .i64 0, .bool false, .slice none 0 0, .int .i64 0, .bool false, .slice none 0 0, .int .i64 0, .bool false, .slice none 0 0, .int .i64 0, .bool false, .slice none 0 0, .int .i64 0, .bool false, .slice none 0 0, .bool false, .int .i64 0, .int .i64 0, .slice none 0 0] 31)) u4.heap.size 31 #[.int .u8 0, .int .i64 0, .int .i64 0, .int .i64 0, .int .i64 0, .int .i64 0, .bool false, .slice none 0 0, .int .i64 0, .bool false, .slice none 0 0, .int .i64 0, .bool false, .slice none 0 0, .int .i64 0, .bool false, .slice none 0 0, .int .i64 0, .bool false, .slice none 0 0, .bool false, .int .i64 0, .int .i64 0, .slice none 0 0]).setRow _
  have hb : Below u4.heap.size u4 u5 := by rw [hu5]; exact below_setRow ((Below.refl _ _).alloc (by simp) _) (by omega) _
  rw [← hu5]
  clear hu5
  replace gB := Lib.hid (gB.out.trans (hb.mono gB.out.size))
  replace ba := Lib.hid (ba.out.below hb)
  replace bb := Lib.hid (bb.out.below hb)
  replace bc := Lib.hid (bc.out.below hb)
  replace bd := Lib.hid (bd.out.below hb)
  replace be := Lib.hid (be.out.below hb)
  replace bf := Lib.hid (bf.out.below hb)
  have bg := Lib.hid (badB ⟨nmG, none, 0, none, 0, none, 0, none, 0, none, 0, none, 0⟩ kg rfl (zrd _ _ nmG rfl rfl rfl) nmG_bad)
  clear hb kg
  have hq := ba.out.2 u5 (Below.refl _ _)
  have k1 := hq.1
  have hc := hq.2
  have rg := k1.range 0 [.int .u8 0, .int .i64 1, .int .i64 2, .int .i64 3, .int .i64 4, .int .i64 0, .bool false, .slice X0a 1 c0a, .int .i64 0, .bool false, .slice X1a 1 c1a, .int .i64 0, .bool false, .slice X2a 0 c2a, .int .i64 0, .bool false, .slice X3a 0 c3a, .int .i64 0, .bool false, .slice Da 0 dca, .bool false, .int .i64 0, .int .i64 0, .slice La 0 lca] rfl
  clear hq k1
  go_wp2_with (refine wpList_load_midG 31 _ rfl (by rfl) w4.heap.size 0 rfl [.int .u8 0, .int .i64 1, .int .i64 2, .int .i64 3, .int .i64 4, .int .i64 0, .bool false, .slice X0a 1 c0a, .int .i64 0, .bool false, .slice X1a 1 c1a, .int .i64 0, .bool false, .slice X2a 0 c2a, .int .i64 0, .bool false, .slice X3a 0 c3a, .int .i64 0, .bool false, .slice Da 0 dca, .bool false, .int .i64 0, .int .i64 0, .slice La 0 lca] _ rg Try.underlying31 rfl (by kernel_rfl) ?_)
  refine hc.mono ?_
  rintro en v0 ⟨rfl, hb⟩
  replace gB := Lib.hid (gB.out.trans (hb.mono gB.out.size))
  replace bb := Lib.hid (bb.out.below hb)
  replace bc := Lib.hid (bc.out.below hb)
  replace bd := Lib.hid (bd.out.below hb)
  replace be := Lib.hid (be.out.below hb)
  replace bf := Lib.hid (bf.out.below hb)
  replace bg := Lib.hid (bg.out.below hb)
  clear hb hc rg ba
  have hq := bb.out.2 v0 (Below.refl _ _)
  have k1 := hq.1
  have hc := hq.2
  have rg := k1.range 0 [.int .u8 1, .int .i64 1, .int .i64 8, .int .i64 3, .int .i64 4, .int .i64 0, .bool false, .slice X0b 1 c0b, .int .i64 0, .bool false, .slice X1b 1 c1b, .int .i64 0, .bool false, .slice X2b 0 c2b, .int .i64 0, .bool false, .slice X3b 0 c3b, .int .i64 0, .bool false, .slice Db 0 dcb, .bool false, .int .i64 0, .int .i64 0, .slice Lb 0 lcb] rfl
  clear hq k1
  go_wp2_with (refine wpList_load_midG 31 _ rfl (by rfl) (w4.heap.size + 1) 0 rfl [.int .u8 1, .int .i64 1, .int .i64 8, .int .i64 3, .int .i64 4, .int .i64 0, .bool false, .slice X0b 1 c0b, .int .i64 0, .bool false, .slice X1b 1 c1b, .int .i64 0, .bool false, .slice X2b 0 c2b, .int .i64 0, .bool false, .slice X3b 0 c3b, .int .i64 0, .bool false, .slice Db 0 dcb, .bool false, .int .i64 0, .int .i64 0, .slice Lb 0 lcb] _ rg Try.underlying31 rfl (by kernel_rfl) ?_)
  refine hc.mono ?_
  rintro en v1 ⟨rfl, hb⟩
  replace gB := Lib.hid (gB.out.trans (hb.mono gB.out.size))
  replace bc := Lib.hid (bc.out.below hb)
  replace bd := Lib.hid (bd.out.below hb)
  replace be := Lib.hid (be.out.below hb)
  replace bf := Lib.hid (bf.out.below hb)
  replace bg := Lib.hid (bg.out.below hb)
  clear hb hc rg bb
  have hq := bc.out.2 v1 (Below.refl _ _)
  have k1 := hq.1
  have hc := hq.2
  have rg := k1.range 0 [.int .u8 1, .int .i64 1, .int .i64 2, .int .i64 65536, .int .i64 4, .int .i64 0, .bool false, .slice X0c 1 c0c, .int .i64 0, .bool false, .slice X1c 1 c1c, .int .i64 0, .bool false, .slice X2c 0 c2c, .int .i64 0, .bool false, .slice X3c 0 c3c, .int .i64 0, .bool false, .slice Dc 0 dcc, .bool false, .int .i64 0, .int .i64 0, .slice Lc 0 lcc] rfl
  clear hq k1
  go_wp2_with (refine wpList_load_midG 31 _ rfl (by rfl) (w4.heap.size + 1 + 1) 0 rfl [.int .u8 1, .int .i64 1, .int .i64 2, .int .i64 65536, .int .i64 4, .int .i64 0, .bool false, .slice X0c 1 c0c, .int .i64 0, .bool false, .slice X1c 1 c1c, .int .i64 0, .bool false, .slice X2c 0 c2c, .int .i64 0, .bool false, .slice X3c 0 c3c, .int .i64 0, .bool false, .slice Dc 0 dcc, .bool false, .int .i64 0, .int .i64 0, .slice Lc 0 lcc] _ rg Try.underlying31 rfl (by kernel_rfl) ?_)
  refine hc.mono ?_
  rintro en v2 ⟨rfl, hb⟩
  replace gB := Lib.hid (gB.out.trans (hb.mono gB.out.size))
  replace bd := Lib.hid (bd.out.below hb)
  replace be := Lib.hid (be.out.below hb)
  replace bf := Lib.hid (bf.out.below hb)
  replace bg := Lib.hid (bg.out.below hb)
  clear hb hc rg bc
  have hq := bd.out.2 v2 (Below.refl _ _)
  have k1 := hq.1
  have hc := hq.2
  have rg := k1.range 0 [.int .u8 1, .int .i64 1, .int .i64 2, .int .i64 3, .int .i64 4, .int .i64 0, .bool false, .slice X0d 1 c0d, .int .i64 0, .bool false, .slice X1d 1 c1d, .int .i64 0, .bool false, .slice (some ⟨g, 0, none⟩) 1 1, .int .i64 0, .bool false, .slice X3d 0 c3d, .int .i64 0, .bool false, .slice Dd 0 dcd, .bool false, .int .i64 0, .int .i64 0, .slice Ld 0 lcd] rfl
  clear hq k1
  go_wp2_with (refine wpList_load_midG 31 _ rfl (by rfl) (w4.heap.size + 1 + 1 + 1) 0 rfl [.int .u8 1, .int .i64 1, .int .i64 2, .int .i64 3, .int .i64 4, .int .i64 0, .bool false, .slice X0d 1 c0d, .int .i64 0, .bool false, .slice X1d 1 c1d, .int .i64 0, .bool false, .slice (some ⟨g, 0, none⟩) 1 1, .int .i64 0, .bool false, .slice X3d 0 c3d, .int .i64 0, .bool false, .slice Dd 0 dcd, .bool false, .int .i64 0, .int .i64 0, .slice Ld 0 lcd] _ rg Try.underlying31 rfl (by kernel_rfl) ?_)
  refine hc.mono ?_
  rintro en v3 ⟨rfl, hb⟩
  replace gB := Lib.hid (gB.out.trans (hb.mono gB.out.size))
  replace be := Lib.hid (be.out.below hb)
  replace bf := Lib.hid (bf.out.below hb)
  replace bg := Lib.hid (bg.out.below hb)
  clear hb hc rg bd
  have hq := be.out.2 v3 (Below.refl _ _)
  have k1 := hq.1
  have hc := hq.2
  have rg := k1.range 0 [.int .u8 6, .int .i64 0, .int .i64 0, .int .i64 0, .int .i64 0, .int .i64 0, .bool false, .slice none 0 0, .int .i64 0, .bool false, .slice none 0 0, .int .i64 0, .bool false, .slice none 0 0, .int .i64 0, .bool false, .slice none 0 0, .int .i64 0, .bool false, .slice none 0 0, .bool false, .int .i64 0, .int .i64 0, .slice (some ⟨u2.heap.size, 0, none⟩) 2 2] rfl
  clear hq k1
  go_wp2_with (refine wpList_load_midG 31 _ rfl (by rfl) (u2.heap.size + 1) 0 rfl [.int .u8 6, .int .i64 0, .int .i64 0, .int .i64 0, .int .i64 0, .int .i64 0, .bool false, .slice none 0 0, .int .i64 0, .bool false, .slice none 0 0, .int .i64 0, .bool false, .slice none 0 0, .int .i64 0, .bool false, .slice none 0 0, .int .i64 0, .bool false, .slice none 0 0, .bool false, .int .i64 0, .int .i64 0, .slice (some ⟨u2.heap.size, 0, none⟩) 2 2] _ rg Try.underlying31 rfl (by kernel_rfl) ?_)
  refine hc.mono ?_
  rintro en v4 ⟨rfl, hb⟩
  replace gB := Lib.hid (gB.out.trans (hb.mono gB.out.size))
  replace bf := Lib.hid (bf.out.below hb)
  replace bg := Lib.hid (bg.out.below hb)
  clear hb hc rg be
  have hq := bf.out.2 v4 (Below.refl _ _)
  have k1 := hq.1
  have hc := hq.2
  have rg := k1.range 0 [.int .u8 6, .int .i64 0, .int .i64 0, .int .i64 0, .int .i64 0, .int .i64 0, .bool false, .slice none 0 0, .int .i64 0, .bool false, .slice none 0 0, .int .i64 0, .bool false, .slice none 0 0, .int .i64 0, .bool false, .slice none 0 0, .int .i64 0, .bool false, .slice none 0 0, .bool false, .int .i64 1, .int .i64 0, .slice none 0 0] rfl
  clear hq k1
  go_wp2_with (refine wpList_load_midG 31 _ rfl (by rfl) u3.heap.size 0 rfl [.int .u8 6, .int .i64 0, .int .i64 0, .int .i64 0, .int .i64 0, .int .i64 0, .bool false, .slice none 0 0, .int .i64 0, .bool false, .slice none 0 0, .int .i64 0, .bool false, .slice none 0 0, .int .i64 0, .bool false, .slice none 0 0, .int .i64 0, .bool false, .slice none 0 0, .bool false, .int .i64 1, .int .i64 0, .slice none 0 0] _ rg Try.underlying31 rfl (by kernel_rfl) ?_)
  refine hc.mono ?_
  rintro en v5 ⟨rfl, hb⟩
  replace gB := Lib.hid (gB.out.trans (hb.mono gB.out.size))
  replace bg := Lib.hid (bg.out.below hb)
  clear hb hc rg bf
  have hq := bg.out.2 v5 (Below.refl _ _)
  have k1 := hq.1
  have hc := hq.2
  have rg := k1.range 0 [.int .u8 2, .int .i64 0, .int .i64 0, .int .i64 0, .int .i64 0, .int .i64 1, .bool false, .slice none 0 0, .int .i64 0, .bool false, .slice none 0 0, .int .i64 0, .bool false, .slice none 0 0, .int .i64 0, .bool false, .slice none 0 0, .int .i64 0, .bool false, .slice none 0 0, .bool false, .int .i64 0, .int .i64 0, .slice none 0 0] rfl
  clear hq k1
  go_wp2_with (refine wpList_load_midG 31 _ rfl (by rfl) u4.heap.size 0 rfl [.int .u8 2, .int .i64 0, .int .i64 0, .int .i64 0, .int .i64 0, .int .i64 1, .bool false, .slice none 0 0, .int .i64 0, .bool false, .slice none 0 0, .int .i64 0, .bool false, .slice none 0 0, .int .i64 0, .bool false, .slice none 0 0, .int .i64 0, .bool false, .slice none 0 0, .bool false, .int .i64 0, .int .i64 0, .slice none 0 0] _ rg Try.underlying31 rfl (by kernel_rfl) ?_)
  refine hc.mono ?_
  rintro en v6 ⟨rfl, hb⟩
  replace gB := Lib.hid (gB.out.trans (hb.mono gB.out.size))
  clear hb hc rg bg
  have hrs : Reads (v6.alloc (.cells #[.int .u32 0, .int .u32 4294967295] 52)) (v6.alloc (.cells #[.int .u32 0, .int .u32 4294967295] 52)).heap.size 1 (some ⟨v6.heap.size, 0, none⟩) 2 (ints .u32 [0, 4294967295]) := (nm_reads (size := 1) (n := 2) (t := 52) (cs := #[.int .u32 0, .int .u32 4294967295]) (Blk.new v6 _ _) rfl).more (by simp)
  have hw : Calls Try.prog 10 #[.agg #[.int .u8 6, .int .i64 0, .int .i64 0, .int .i64 0, .int .i64 0, .int .i64 0, .bool false, .slice none 0 0, .int .i64 0, .bool false, .slice none 0 0, .int .i64 0, .bool false, .slice none 0 0, .int .i64 0, .bool false, .slice none 0 0, .int .i64 0, .bool false, .slice none 0 0, .bool true, .int .i64 (-2147483647), .int .i64 2147483647, .slice (some ⟨v6.heap.size, 0, none⟩) 2 2]] (v6.alloc (.cells #[.int .u32 0, .int .u32 4294967295] 52)) (WrP tellL (v6.alloc (.cells #[.int .u32 0, .int .u32 4294967295] 52))) := write_any ⟨tellL, none, 0, none, 0, none, 0, none, 0, none, 0, some ⟨v6.heap.size, 0, none⟩, 2⟩ tell_sm tell_lt ⟨(by decide : 0 ≤ tellL.kd), (by decide : tellL.kd < 256)⟩ (v6.alloc (.cells #[.int .u32 0, .int .u32 4294967295] 52)) ⟨⟨rdD_zd _ _, rdD_zd _ _, rdD_zd _ _, rdD_zd _ _⟩, Tms.none_, hrs⟩
  have hb0 : Below v6.heap.size v6 (v6.alloc (.cells #[.int .u32 0, .int .u32 4294967295] 52)) := (Below.refl _ _).alloc (Nat.le_refl _) _
  go_wp2_with fail
  refine hw.mono ?_
  rintro en u7 ⟨hb, ⟨hno, _⟩ | ⟨_, vt, rfl, hov⟩⟩
  · exact absurd tell_ok hno
  have hb1 := hb0.trans (hb.mono hb0.size)
  replace gB := Lib.hid (gB.out.trans (hb1.mono gB.out.size))
  have hlen : (byP tellL).length ≤ 4096 := by rw [tell_by]; omega
  have hfl := framed_lt (k := tellL.kd.toNat) (by decide) hlen (byP_lt tellL)
  clear hw hb hb0 hb1 hrs
  have ht := takeF (k := tellL.kd.toNat) (l := byP tellL) (by decide) (byP_lt tellL) hlen hov
  go_wp2_with fail
  refine ht.mono ?_
  rintro en u8 ⟨⟨At, nt, ct, rfl, hnt, hct, _⟩, hb⟩
  rw [tell_by] at hnt
  subst hnt
  have hov2 : Owns (v6.alloc (.cells #[.int .u32 0, .int .u32 4294967295] 52)) u8 vt (framed tellL.kd.toNat (byP tellL)) := own_below hov hb
  replace gB := Lib.hid (gB.out.trans (hb.mono gB.out.size))
  clear ht hb hov
  have hrd := read_v hfl (by rw [framed_len]; omega) hov2
  go_wp2_with fail
  refine hrd.mono ?_
  rintro en u9 ⟨hb, ot, E, rfl, hom, hcase⟩
  unfold aggL
  obtain ⟨rfl, hx⟩ := read_written tell_ok tell_lt hcase
  replace hx := Lib.hid hx
  replace gB := Lib.hid (gB.out.trans (hb.mono gB.out.size))
  clear hrd hb hom hcase hov2 hfl hlen hct
  go_upto_region 10 with (refine wpList_store_row rfl 31 _ _ rfl u9.heap.size #[.int .u8 ot.x.kd, .int .i64 ot.x.fr, .int .i64 ot.x.tt, .int .i64 ot.x.ep, .int .i64 ot.x.nu, .int .i64 ot.x.ab, .bool ot.x.give.s.neg, .slice ot.X0 ot.x.give.s.ls.length ot.c0, .int .i64 ot.x.give.s.ex, .bool ot.x.give.w.neg, .slice ot.X1 ot.x.give.w.ls.length ot.c1, .int .i64 ot.x.give.w.ex, .bool ot.x.give.c.neg, .slice ot.X2 ot.x.give.c.ls.length ot.c2, .int .i64 ot.x.give.c.ex, .bool ot.x.give.a.neg, .slice ot.X3 ot.x.give.a.ls.length ot.c3, .int .i64 ot.x.give.a.ex, .bool ot.x.wa, .slice ot.D ot.x.ds.length ot.dc, .bool ot.x.eh, .int .i64 ot.x.e1, .int .i64 ot.x.e2, .slice ot.L ot.x.ls.length ot.lc] rfl rfl 31 #[.int .u8 0, .int .i64 0, .int .i64 0, .int .i64 0, .int .i64 0, .int .i64 0, .bool false, .slice none 0 0, .int .i64 0, .bool false, .slice none 0 0, .int .i64 0, .bool false, .slice none 0 0, .int .i64 0, .bool false, .slice none 0 0, .int .i64 0, .bool false, .slice none 0 0, .bool false, .int .i64 0, .int .i64 0, .slice none 0 0] ?_ info_mail rfl (by simp [Value.oneCell']) ?_; exact (Blk.new u9 31 #[.int .u8 0, .int .i64 0, .int .i64 0, .int .i64 0, .int .i64 0, .int .i64 0, .bool false, .slice none 0 0, .int .i64 0, .bool false, .slice none 0 0, .int .i64 0, .bool false, .slice none 0 0, .int .i64 0, .bool false, .slice none 0 0, .int .i64 0, .bool false, .slice none 0 0, .bool false, .int .i64 0, .int .i64 0, .slice none 0 0]))
  obtain ⟨uu9, huu9⟩ : ∃ W, W = (u9.alloc (.cells #[.int .u8 0, .int .i64 0, .int .i64 0, .int .i64 0, .int .i64 0, .int .i64 0, .bool false, .slice none 0 0, .int .i64 0, .bool false, .slice none 0 0, .int .i64 0, .bool false, .slice none 0 0, .int .i64 0, .bool false, .slice none 0 0, .int .i64 0, .bool false, .slice none 0 0, .bool false, .int .i64 0, .int .i64 0, .slice none 0 0] 31)).setRow u9.heap.size #[.int .u8 ot.x.kd, .int .i64 ot.x.fr, .int .i64 ot.x.tt, .int .i64 ot.x.ep, .int .i64 ot.x.nu, .int .i64 ot.x.ab, .bool ot.x.give.s.neg, .slice ot.X0 ot.x.give.s.ls.length ot.c0, .int .i64 ot.x.give.s.ex, .bool ot.x.give.w.neg, .slice ot.X1 ot.x.give.w.ls.length ot.c1, .int .i64 ot.x.give.w.ex, .bool ot.x.give.c.neg, .slice ot.X2 ot.x.give.c.ls.length ot.c2, .int .i64 ot.x.give.c.ex, .bool ot.x.give.a.neg, .slice ot.X3 ot.x.give.a.ls.length ot.c3, .int .i64 ot.x.give.a.ex, .bool ot.x.wa, .slice ot.D ot.x.ds.length ot.dc, .bool ot.x.eh, .int .i64 ot.x.e1, .int .i64 ot.x.e2, .slice ot.L ot.x.ls.length ot.lc] := ⟨_, rfl⟩
  have hbb : Below u9.heap.size u9 uu9 := by rw [huu9]; exact below_setRow (g := u9.heap.size) ((Below.refl _ _).alloc (Nat.le_refl _) _) (Nat.le_refl _) _
  have kt : Hid (Blk uu9 u9.heap.size 31 #[.int .u8 ot.x.kd, .int .i64 ot.x.fr, .int .i64 ot.x.tt, .int .i64 ot.x.ep, .int .i64 ot.x.nu, .int .i64 ot.x.ab, .bool ot.x.give.s.neg, .slice ot.X0 ot.x.give.s.ls.length ot.c0, .int .i64 ot.x.give.s.ex, .bool ot.x.give.w.neg, .slice ot.X1 ot.x.give.w.ls.length ot.c1, .int .i64 ot.x.give.w.ex, .bool ot.x.give.c.neg, .slice ot.X2 ot.x.give.c.ls.length ot.c2, .int .i64 ot.x.give.c.ex, .bool ot.x.give.a.neg, .slice ot.X3 ot.x.give.a.ls.length ot.c3, .int .i64 ot.x.give.a.ex, .bool ot.x.wa, .slice ot.D ot.x.ds.length ot.dc, .bool ot.x.eh, .int .i64 ot.x.e1, .int .i64 ot.x.e2, .slice ot.L ot.x.ls.length ot.lc]) := Lib.hid (by rw [huu9]; exact (Blk.new u9 31 #[.int .u8 0, .int .i64 0, .int .i64 0, .int .i64 0, .int .i64 0, .int .i64 0, .bool false, .slice none 0 0, .int .i64 0, .bool false, .slice none 0 0, .int .i64 0, .bool false, .slice none 0 0, .int .i64 0, .bool false, .slice none 0 0, .int .i64 0, .bool false, .slice none 0 0, .bool false, .int .i64 0, .int .i64 0, .slice none 0 0]).setRow _)
  rw [← huu9]
  clear huu9
  replace gB := Lib.hid (gB.out.trans (hbb.mono gB.out.size))
  clear hbb
  have st := kt.out.lt
  have k7 := run_seven
  have hput := put_sev uu9
  have hb0 : Below uu9.heap.size uu9 (uu9.alloc sevO) := (Below.refl _ _).alloc (Nat.le_refl _) _
  go_wp2_with fail
  refine hput.mono ?_
  rintro en u10 ⟨vn, rfl, hon, hb⟩
  have hb1 := hb0.trans (hb.mono hb0.size)
  replace kt := Lib.hid (kt.out.below hb1 st)
  replace gB := Lib.hid (gB.out.trans (hb1.mono gB.out.size))
  replace st := Nat.lt_of_lt_of_le st hb1.size
  clear hput hb hb0 hb1 k7
  have hrd := read_v (framed_lt (k := 9) (by omega) (by decide) sev_lt) (by rw [framed_len]; decide) hon
  go_wp2_with fail
  refine hrd.mono ?_
  rintro en u11 ⟨hb, on, En, rfl, hom, hcase⟩
  unfold aggL
  obtain rfl : En = 41 := nine_41 hcase
  replace kt := Lib.hid (kt.out.below hb st)
  replace gB := Lib.hid (gB.out.trans (hb.mono gB.out.size))
  replace st := Nat.lt_of_lt_of_le st hb.size
  clear hrd hb hom hcase hon
  go_upto_region 12 with (refine wpList_store_row rfl 31 _ _ rfl u11.heap.size #[.int .u8 on.x.kd, .int .i64 on.x.fr, .int .i64 on.x.tt, .int .i64 on.x.ep, .int .i64 on.x.nu, .int .i64 on.x.ab, .bool on.x.give.s.neg, .slice on.X0 on.x.give.s.ls.length on.c0, .int .i64 on.x.give.s.ex, .bool on.x.give.w.neg, .slice on.X1 on.x.give.w.ls.length on.c1, .int .i64 on.x.give.w.ex, .bool on.x.give.c.neg, .slice on.X2 on.x.give.c.ls.length on.c2, .int .i64 on.x.give.c.ex, .bool on.x.give.a.neg, .slice on.X3 on.x.give.a.ls.length on.c3, .int .i64 on.x.give.a.ex, .bool on.x.wa, .slice on.D on.x.ds.length on.dc, .bool on.x.eh, .int .i64 on.x.e1, .int .i64 on.x.e2, .slice on.L on.x.ls.length on.lc] rfl rfl 31 #[.int .u8 0, .int .i64 0, .int .i64 0, .int .i64 0, .int .i64 0, .int .i64 0, .bool false, .slice none 0 0, .int .i64 0, .bool false, .slice none 0 0, .int .i64 0, .bool false, .slice none 0 0, .int .i64 0, .bool false, .slice none 0 0, .int .i64 0, .bool false, .slice none 0 0, .bool false, .int .i64 0, .int .i64 0, .slice none 0 0] ?_ info_mail rfl (by simp [Value.oneCell']) ?_; exact (Blk.new u11 31 #[.int .u8 0, .int .i64 0, .int .i64 0, .int .i64 0, .int .i64 0, .int .i64 0, .bool false, .slice none 0 0, .int .i64 0, .bool false, .slice none 0 0, .int .i64 0, .bool false, .slice none 0 0, .int .i64 0, .bool false, .slice none 0 0, .int .i64 0, .bool false, .slice none 0 0, .bool false, .int .i64 0, .int .i64 0, .slice none 0 0]))
  obtain ⟨uu11, huu11⟩ : ∃ W, W = (u11.alloc (.cells #[.int .u8 0, .int .i64 0, .int .i64 0, .int .i64 0, .int .i64 0, .int .i64 0, .bool false, .slice none 0 0, .int .i64 0, .bool false, .slice none 0 0, .int .i64 0, .bool false, .slice none 0 0, .int .i64 0, .bool false, .slice none 0 0, .int .i64 0, .bool false, .slice none 0 0, .bool false, .int .i64 0, .int .i64 0, .slice none 0 0] 31)).setRow u11.heap.size #[.int .u8 on.x.kd, .int .i64 on.x.fr, .int .i64 on.x.tt, .int .i64 on.x.ep, .int .i64 on.x.nu, .int .i64 on.x.ab, .bool on.x.give.s.neg, .slice on.X0 on.x.give.s.ls.length on.c0, .int .i64 on.x.give.s.ex, .bool on.x.give.w.neg, .slice on.X1 on.x.give.w.ls.length on.c1, .int .i64 on.x.give.w.ex, .bool on.x.give.c.neg, .slice on.X2 on.x.give.c.ls.length on.c2, .int .i64 on.x.give.c.ex, .bool on.x.give.a.neg, .slice on.X3 on.x.give.a.ls.length on.c3, .int .i64 on.x.give.a.ex, .bool on.x.wa, .slice on.D on.x.ds.length on.dc, .bool on.x.eh, .int .i64 on.x.e1, .int .i64 on.x.e2, .slice on.L on.x.ls.length on.lc] := ⟨_, rfl⟩
  have hbb : Below u11.heap.size u11 uu11 := by rw [huu11]; exact below_setRow (g := u11.heap.size) ((Below.refl _ _).alloc (Nat.le_refl _) _) (Nat.le_refl _) _
  have kn : Hid (Blk uu11 u11.heap.size 31 #[.int .u8 on.x.kd, .int .i64 on.x.fr, .int .i64 on.x.tt, .int .i64 on.x.ep, .int .i64 on.x.nu, .int .i64 on.x.ab, .bool on.x.give.s.neg, .slice on.X0 on.x.give.s.ls.length on.c0, .int .i64 on.x.give.s.ex, .bool on.x.give.w.neg, .slice on.X1 on.x.give.w.ls.length on.c1, .int .i64 on.x.give.w.ex, .bool on.x.give.c.neg, .slice on.X2 on.x.give.c.ls.length on.c2, .int .i64 on.x.give.c.ex, .bool on.x.give.a.neg, .slice on.X3 on.x.give.a.ls.length on.c3, .int .i64 on.x.give.a.ex, .bool on.x.wa, .slice on.D on.x.ds.length on.dc, .bool on.x.eh, .int .i64 on.x.e1, .int .i64 on.x.e2, .slice on.L on.x.ls.length on.lc]) := Lib.hid (by rw [huu11]; exact (Blk.new u11 31 #[.int .u8 0, .int .i64 0, .int .i64 0, .int .i64 0, .int .i64 0, .int .i64 0, .bool false, .slice none 0 0, .int .i64 0, .bool false, .slice none 0 0, .int .i64 0, .bool false, .slice none 0 0, .int .i64 0, .bool false, .slice none 0 0, .int .i64 0, .bool false, .slice none 0 0, .bool false, .int .i64 0, .int .i64 0, .slice none 0 0]).setRow _)
  rw [← huu11]
  clear huu11 kn
  replace kt := Lib.hid (kt.out.below hbb st)
  replace gB := Lib.hid (gB.out.trans (hbb.mono gB.out.size))
  replace st := Nat.lt_of_lt_of_le st hbb.size
  clear hbb
  have hrd := read_any none 0 0 [] rfl (by omega) (by omega) (fun x h => by cases h) uu11 Reads.none_
  go_wp2_with fail
  refine hrd.mono ?_
  rintro en u12 ⟨hb, oz, Ez, rfl, hom, hcase⟩
  unfold aggL
  obtain rfl : Ez = 40 := nil_40 hcase
  replace kt := Lib.hid (kt.out.below hb st)
  replace gB := Lib.hid (gB.out.trans (hb.mono gB.out.size))
  replace st := Nat.lt_of_lt_of_le st hb.size
  clear hrd hb hom hcase
  go_upto_region 13 with (refine wpList_store_row rfl 31 _ _ rfl u12.heap.size #[.int .u8 oz.x.kd, .int .i64 oz.x.fr, .int .i64 oz.x.tt, .int .i64 oz.x.ep, .int .i64 oz.x.nu, .int .i64 oz.x.ab, .bool oz.x.give.s.neg, .slice oz.X0 oz.x.give.s.ls.length oz.c0, .int .i64 oz.x.give.s.ex, .bool oz.x.give.w.neg, .slice oz.X1 oz.x.give.w.ls.length oz.c1, .int .i64 oz.x.give.w.ex, .bool oz.x.give.c.neg, .slice oz.X2 oz.x.give.c.ls.length oz.c2, .int .i64 oz.x.give.c.ex, .bool oz.x.give.a.neg, .slice oz.X3 oz.x.give.a.ls.length oz.c3, .int .i64 oz.x.give.a.ex, .bool oz.x.wa, .slice oz.D oz.x.ds.length oz.dc, .bool oz.x.eh, .int .i64 oz.x.e1, .int .i64 oz.x.e2, .slice oz.L oz.x.ls.length oz.lc] rfl rfl 31 #[.int .u8 0, .int .i64 0, .int .i64 0, .int .i64 0, .int .i64 0, .int .i64 0, .bool false, .slice none 0 0, .int .i64 0, .bool false, .slice none 0 0, .int .i64 0, .bool false, .slice none 0 0, .int .i64 0, .bool false, .slice none 0 0, .int .i64 0, .bool false, .slice none 0 0, .bool false, .int .i64 0, .int .i64 0, .slice none 0 0] ?_ info_mail rfl (by simp [Value.oneCell']) ?_; exact (Blk.new u12 31 #[.int .u8 0, .int .i64 0, .int .i64 0, .int .i64 0, .int .i64 0, .int .i64 0, .bool false, .slice none 0 0, .int .i64 0, .bool false, .slice none 0 0, .int .i64 0, .bool false, .slice none 0 0, .int .i64 0, .bool false, .slice none 0 0, .int .i64 0, .bool false, .slice none 0 0, .bool false, .int .i64 0, .int .i64 0, .slice none 0 0]))
  obtain ⟨uu12, huu12⟩ : ∃ W, W = (u12.alloc (.cells #[.int .u8 0, .int .i64 0, .int .i64 0, .int .i64 0, .int .i64 0, .int .i64 0, .bool false, .slice none 0 0, .int .i64 0, .bool false, .slice none 0 0, .int .i64 0, .bool false, .slice none 0 0, .int .i64 0, .bool false, .slice none 0 0, .int .i64 0, .bool false, .slice none 0 0, .bool false, .int .i64 0, .int .i64 0, .slice none 0 0] 31)).setRow u12.heap.size #[.int .u8 oz.x.kd, .int .i64 oz.x.fr, .int .i64 oz.x.tt, .int .i64 oz.x.ep, .int .i64 oz.x.nu, .int .i64 oz.x.ab, .bool oz.x.give.s.neg, .slice oz.X0 oz.x.give.s.ls.length oz.c0, .int .i64 oz.x.give.s.ex, .bool oz.x.give.w.neg, .slice oz.X1 oz.x.give.w.ls.length oz.c1, .int .i64 oz.x.give.w.ex, .bool oz.x.give.c.neg, .slice oz.X2 oz.x.give.c.ls.length oz.c2, .int .i64 oz.x.give.c.ex, .bool oz.x.give.a.neg, .slice oz.X3 oz.x.give.a.ls.length oz.c3, .int .i64 oz.x.give.a.ex, .bool oz.x.wa, .slice oz.D oz.x.ds.length oz.dc, .bool oz.x.eh, .int .i64 oz.x.e1, .int .i64 oz.x.e2, .slice oz.L oz.x.ls.length oz.lc] := ⟨_, rfl⟩
  have hbb : Below u12.heap.size u12 uu12 := by rw [huu12]; exact below_setRow (g := u12.heap.size) ((Below.refl _ _).alloc (Nat.le_refl _) _) (Nat.le_refl _) _
  have kz : Hid (Blk uu12 u12.heap.size 31 #[.int .u8 oz.x.kd, .int .i64 oz.x.fr, .int .i64 oz.x.tt, .int .i64 oz.x.ep, .int .i64 oz.x.nu, .int .i64 oz.x.ab, .bool oz.x.give.s.neg, .slice oz.X0 oz.x.give.s.ls.length oz.c0, .int .i64 oz.x.give.s.ex, .bool oz.x.give.w.neg, .slice oz.X1 oz.x.give.w.ls.length oz.c1, .int .i64 oz.x.give.w.ex, .bool oz.x.give.c.neg, .slice oz.X2 oz.x.give.c.ls.length oz.c2, .int .i64 oz.x.give.c.ex, .bool oz.x.give.a.neg, .slice oz.X3 oz.x.give.a.ls.length oz.c3, .int .i64 oz.x.give.a.ex, .bool oz.x.wa, .slice oz.D oz.x.ds.length oz.dc, .bool oz.x.eh, .int .i64 oz.x.e1, .int .i64 oz.x.e2, .slice oz.L oz.x.ls.length oz.lc]) := Lib.hid (by rw [huu12]; exact (Blk.new u12 31 #[.int .u8 0, .int .i64 0, .int .i64 0, .int .i64 0, .int .i64 0, .int .i64 0, .bool false, .slice none 0 0, .int .i64 0, .bool false, .slice none 0 0, .int .i64 0, .bool false, .slice none 0 0, .int .i64 0, .bool false, .slice none 0 0, .int .i64 0, .bool false, .slice none 0 0, .bool false, .int .i64 0, .int .i64 0, .slice none 0 0]).setRow _)
  rw [← huu12]
  clear huu12 kz
  replace kt := Lib.hid (kt.out.below hbb st)
  replace gB := Lib.hid (gB.out.trans (hbb.mono gB.out.size))
  replace st := Nat.lt_of_lt_of_le st hbb.size
  clear hbb
  have hal := malive_any uu12
  go_wp2_with fail
  refine hal.mono ?_
  rintro en u13 ⟨rfl, hb⟩
  replace kt := Lib.hid (kt.out.below hb st)
  replace gB := Lib.hid (gB.out.trans (hb.mono gB.out.size))
  have zE : u13.cell? ⟨u9.heap.size, 21, none⟩ = some (.int .i64 (-2147483647)) := by rw [kt.out.cell]; exact congrArg (fun m => some (Value.int .i64 m.e1)) hx.out
  have zL : u13.cell? ⟨u9.heap.size, 23, none⟩ = some (.slice ot.L 2 ot.lc) := by rw [kt.out.cell]; exact congrArg (fun m => some (Value.slice ot.L m.ls.length ot.lc)) hx.out
  clear hal hb kt st hx
  go_wp2
  go_ret
  exact ⟨rfl, gB.out⟩
end Go.Proofs.Ytjmhefkmpfkpbaa
