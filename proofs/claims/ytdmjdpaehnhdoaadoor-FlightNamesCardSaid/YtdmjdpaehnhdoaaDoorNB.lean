/- Flight: Land and Lose -/
import Derived.Test.YtdmjdpaehnhdoaaDoorNA
import Derived.Test.YtdmjdpaehnhdoaaDoorNA2
namespace Go.Proofs.YtdmjdpaehnhdoaaDoor
open Go.ChangeShapes Go.WideShapes Go.ChangeAt Go.RowKit
set_option linter.unusedSimpArgs false
set_option linter.unusedVariables false
set_option maxRecDepth 100000 in
set_option maxHeartbeats 16000000 in
theorem land_any (A : Option Addr) (n c : Nat) (l : List En) (hm : n ≤ 10000) (hs1 : ∀ x ∈ l, smM x.give) (w : World) (h : Ens w w.heap.size A n l) (N : Int) : Calls Tryd.prog 22 #[.slice A n c, .int .i64 N] w fun en w' => ∃ l' x ox v vx E, en = .returned (.tuple #[v, vx, .int .i64 E]) ∧ CmeF true l N l' x E ∧ vx = aggE ox ∧ PairE w v l' x ox w' := by
  obtain ⟨V, hV⟩ : ∃ V, V = w.alloc (.cells #[.int .i64 0, .int .i64 0, .int .i64 0, .bool false, .slice none 0 0, .int .i64 0, .bool false, .slice none 0 0, .int .i64 0, .bool false, .slice none 0 0, .int .i64 0, .bool false, .slice none 0 0, .int .i64 0] 48) := ⟨_, rfl⟩
  have hBV : Below w.heap.size w V := by rw [hV]; exact (Below.refl _ _).alloc (Nat.le_refl _) _
  have hVs : w.heap.size < V.heap.size := by rw [hV, World.size_alloc]; exact Nat.lt_succ_self _
  have kb : Blk V w.heap.size 48 #[.int .i64 0, .int .i64 0, .int .i64 0, .bool false, .slice none 0 0, .int .i64 0, .bool false, .slice none 0 0, .int .i64 0, .bool false, .slice none 0 0, .int .i64 0, .bool false, .slice none 0 0, .int .i64 0] := by rw [hV]; exact Blk.new w _ _
  have hf := down_land A n c l hm hs1 V (Recs.more (Recs.below h hBV) hBV.size) N
  clear h hs1
  go_enter Tryd.func22, Tryd.ntmps22
  go_wp2_with fail
  rw [← hV]
  clear hV
  refine hf.mono ?_
  rintro en w1 ⟨l', x, ox, v, vx, E, rfl, hC, rfl, hP⟩
  clear hf
  have gC := Lib.hid hC
  have hb1 : Below w.heap.size w w1 := hBV.trans (hP.2.mono hBV.size)
  have kb1 := kb.below hP.2 kb.lt
  have gP := Lib.hid hP.1
  have s1 := hP.2.size
  clear hC hP
  obtain ⟨⟨nu, ep, cp, ⟨⟨ag0, l0, ae0⟩, ⟨ag1, l1, ae1⟩, ⟨ag2, l2, ae2⟩, ⟨ag3, l3, ae3⟩⟩⟩, X0, c0, X1, c1, X2, c2, X3, c3⟩ := ox
  unfold aggE
  dsimp only
  have SB : ∀ w', Blk w' w.heap.size 48 #[.int .i64 0, .int .i64 0, .int .i64 0, .bool false, .slice none 0 0, .int .i64 0, .bool false, .slice none 0 0, .int .i64 0, .bool false, .slice none 0 0, .int .i64 0, .bool false, .slice none 0 0, .int .i64 0] → w'.cell? ⟨w.heap.size, 0, none⟩ = some (.int .i64 0) ∧ w'.cell? ⟨w.heap.size, 1, none⟩ = some (.int .i64 0) ∧ w'.cell? ⟨w.heap.size, 2, none⟩ = some (.int .i64 0) ∧ w'.cell? ⟨w.heap.size, 3, none⟩ = some (.bool false) ∧ w'.cell? ⟨w.heap.size, 4, none⟩ = some (.slice none 0 0) ∧ w'.cell? ⟨w.heap.size, 5, none⟩ = some (.int .i64 0) ∧ w'.cell? ⟨w.heap.size, 6, none⟩ = some (.bool false) ∧ w'.cell? ⟨w.heap.size, 7, none⟩ = some (.slice none 0 0) ∧ w'.cell? ⟨w.heap.size, 8, none⟩ = some (.int .i64 0) ∧ w'.cell? ⟨w.heap.size, 9, none⟩ = some (.bool false) ∧ w'.cell? ⟨w.heap.size, 10, none⟩ = some (.slice none 0 0) ∧ w'.cell? ⟨w.heap.size, 11, none⟩ = some (.int .i64 0) ∧ w'.cell? ⟨w.heap.size, 12, none⟩ = some (.bool false) ∧ w'.cell? ⟨w.heap.size, 13, none⟩ = some (.slice none 0 0) ∧ w'.cell? ⟨w.heap.size, 14, none⟩ = some (.int .i64 0) ∧ w'.frozen? ⟨w.heap.size, 0, none⟩ = false ∧ w'.frozen? ⟨w.heap.size, 1, none⟩ = false ∧ w'.frozen? ⟨w.heap.size, 2, none⟩ = false ∧ w'.frozen? ⟨w.heap.size, 3, none⟩ = false ∧ w'.frozen? ⟨w.heap.size, 4, none⟩ = false ∧ w'.frozen? ⟨w.heap.size, 5, none⟩ = false ∧ w'.frozen? ⟨w.heap.size, 6, none⟩ = false ∧ w'.frozen? ⟨w.heap.size, 7, none⟩ = false ∧ w'.frozen? ⟨w.heap.size, 8, none⟩ = false ∧ w'.frozen? ⟨w.heap.size, 9, none⟩ = false ∧ w'.frozen? ⟨w.heap.size, 10, none⟩ = false ∧ w'.frozen? ⟨w.heap.size, 11, none⟩ = false ∧ w'.frozen? ⟨w.heap.size, 12, none⟩ = false ∧ w'.frozen? ⟨w.heap.size, 13, none⟩ = false ∧ w'.frozen? ⟨w.heap.size, 14, none⟩ = false := by
    intro w' k5
    refine ⟨?_, ?_, ?_, ?_, ?_, ?_, ?_, ?_, ?_, ?_, ?_, ?_, ?_, ?_, ?_, ?_, ?_, ?_, ?_, ?_, ?_, ?_, ?_, ?_, ?_, ?_, ?_, ?_, ?_, ?_⟩ <;> first | exact k5.frozen _ | (rw [k5.cell]; rfl)
  have SS : ∀ w', Below w1.heap.size w1 w' → w'.cell? ⟨w.heap.size, 0, none⟩ = some (.int .i64 0) ∧ w'.cell? ⟨w.heap.size, 1, none⟩ = some (.int .i64 0) ∧ w'.cell? ⟨w.heap.size, 2, none⟩ = some (.int .i64 0) ∧ w'.cell? ⟨w.heap.size, 3, none⟩ = some (.bool false) ∧ w'.cell? ⟨w.heap.size, 4, none⟩ = some (.slice none 0 0) ∧ w'.cell? ⟨w.heap.size, 5, none⟩ = some (.int .i64 0) ∧ w'.cell? ⟨w.heap.size, 6, none⟩ = some (.bool false) ∧ w'.cell? ⟨w.heap.size, 7, none⟩ = some (.slice none 0 0) ∧ w'.cell? ⟨w.heap.size, 8, none⟩ = some (.int .i64 0) ∧ w'.cell? ⟨w.heap.size, 9, none⟩ = some (.bool false) ∧ w'.cell? ⟨w.heap.size, 10, none⟩ = some (.slice none 0 0) ∧ w'.cell? ⟨w.heap.size, 11, none⟩ = some (.int .i64 0) ∧ w'.cell? ⟨w.heap.size, 12, none⟩ = some (.bool false) ∧ w'.cell? ⟨w.heap.size, 13, none⟩ = some (.slice none 0 0) ∧ w'.cell? ⟨w.heap.size, 14, none⟩ = some (.int .i64 0) ∧ w'.frozen? ⟨w.heap.size, 0, none⟩ = false ∧ w'.frozen? ⟨w.heap.size, 1, none⟩ = false ∧ w'.frozen? ⟨w.heap.size, 2, none⟩ = false ∧ w'.frozen? ⟨w.heap.size, 3, none⟩ = false ∧ w'.frozen? ⟨w.heap.size, 4, none⟩ = false ∧ w'.frozen? ⟨w.heap.size, 5, none⟩ = false ∧ w'.frozen? ⟨w.heap.size, 6, none⟩ = false ∧ w'.frozen? ⟨w.heap.size, 7, none⟩ = false ∧ w'.frozen? ⟨w.heap.size, 8, none⟩ = false ∧ w'.frozen? ⟨w.heap.size, 9, none⟩ = false ∧ w'.frozen? ⟨w.heap.size, 10, none⟩ = false ∧ w'.frozen? ⟨w.heap.size, 11, none⟩ = false ∧ w'.frozen? ⟨w.heap.size, 12, none⟩ = false ∧ w'.frozen? ⟨w.heap.size, 13, none⟩ = false ∧ w'.frozen? ⟨w.heap.size, 14, none⟩ = false := fun w' hw => SB w' (kb1.below hw kb1.lt)
  obtain ⟨u0, u1, u2, u3, u4, u5, u6, u7, u8, u9, u10, u11, u12, u13, u14, uf0, uf1, uf2, uf3, uf4, uf5, uf6, uf7, uf8, uf9, uf10, uf11, uf12, uf13, uf14⟩ := SS w1 (Below.refl _ _)
  obtain ⟨W9, hW9⟩ : ∃ W9, W9 = (b15 w1 w.heap.size (.int .i64 nu) (.int .i64 ep) (.int .i64 cp) (.bool ag0) (.slice X0 l0.length c0) (.int .i64 ae0) (.bool ag1) (.slice X1 l1.length c1) (.int .i64 ae1) (.bool ag2) (.slice X2 l2.length c2) (.int .i64 ae2) (.bool ag3) (.slice X3 l3.length c3) (.int .i64 ae3)) := ⟨_, rfl⟩
  have k9 : Blk W9 w.heap.size 48 #[.int .i64 nu, .int .i64 ep, .int .i64 cp, .bool ag0, .slice X0 l0.length c0, .int .i64 ae0, .bool ag1, .slice X1 l1.length c1, .int .i64 ae1, .bool ag2, .slice X2 l2.length c2, .int .i64 ae2, .bool ag3, .slice X3 l3.length c3, .int .i64 ae3] := by rw [hW9]; exact (b15_blk kb1 rfl (.int .i64 nu) (.int .i64 ep) (.int .i64 cp) (.bool ag0) (.slice X0 l0.length c0) (.int .i64 ae0) (.bool ag1) (.slice X1 l1.length c1) (.int .i64 ae1) (.bool ag2) (.slice X2 l2.length c2) (.int .i64 ae2) (.bool ag3) (.slice X3 l3.length c3) (.int .i64 ae3))
  have g9 : Hid (PairE w (v) (l') (x) ((⟨⟨nu, ep, cp, ⟨⟨ag0, l0, ae0⟩, ⟨ag1, l1, ae1⟩, ⟨ag2, l2, ae2⟩, ⟨ag3, l3, ae3⟩⟩⟩, X0, c0, X1, c1, X2, c2, X3, c3⟩ : EO)) W9) := Lib.hid (by rw [hW9]; exact ⟨(gP.out.other (by omega) (b15_other w1 _ (.int .i64 nu) (.int .i64 ep) (.int .i64 cp) (.bool ag0) (.slice X0 l0.length c0) (.int .i64 ae0) (.bool ag1) (.slice X1 l1.length c1) (.int .i64 ae1) (.bool ag2) (.slice X2 l2.length c2) (.int .i64 ae2) (.bool ag3) (.slice X3 l3.length c3) (.int .i64 ae3))).base_le (by omega), b15_below hb1 (Nat.le_refl _) (.int .i64 nu) (.int .i64 ep) (.int .i64 cp) (.bool ag0) (.slice X0 l0.length c0) (.int .i64 ae0) (.bool ag1) (.slice X1 l1.length c1) (.int .i64 ae1) (.bool ag2) (.slice X2 l2.length c2) (.int .i64 ae2) (.bool ag3) (.slice X3 l3.length c3) (.int .i64 ae3)⟩)
  unfold b15 at hW9
  go_wp2
  clear u0 u1 u2 u3 u4 u5 u6 u7 u8 u9 u10 u11 u12 u13 u14 uf0 uf1 uf2 uf3 uf4 uf5 uf6 uf7 uf8 uf9 uf10 uf11 uf12 uf13 uf14
  clear SS SB
  rw [← hW9]
  clear hW9
  have pu0 : W9.cell? ⟨w.heap.size, 0, none⟩ = some (.int .i64 nu) := by rw [k9.cell]; rfl
  have pu1 : W9.cell? ⟨w.heap.size, 1, none⟩ = some (.int .i64 ep) := by rw [k9.cell]; rfl
  have pu2 : W9.cell? ⟨w.heap.size, 2, none⟩ = some (.int .i64 cp) := by rw [k9.cell]; rfl
  have pu3 : W9.cell? ⟨w.heap.size, 3, none⟩ = some (.bool ag0) := by rw [k9.cell]; rfl
  have pu4 : W9.cell? ⟨w.heap.size, 4, none⟩ = some (.slice X0 l0.length c0) := by rw [k9.cell]; rfl
  have pu5 : W9.cell? ⟨w.heap.size, 5, none⟩ = some (.int .i64 ae0) := by rw [k9.cell]; rfl
  have pu6 : W9.cell? ⟨w.heap.size, 6, none⟩ = some (.bool ag1) := by rw [k9.cell]; rfl
  have pu7 : W9.cell? ⟨w.heap.size, 7, none⟩ = some (.slice X1 l1.length c1) := by rw [k9.cell]; rfl
  have pu8 : W9.cell? ⟨w.heap.size, 8, none⟩ = some (.int .i64 ae1) := by rw [k9.cell]; rfl
  have pu9 : W9.cell? ⟨w.heap.size, 9, none⟩ = some (.bool ag2) := by rw [k9.cell]; rfl
  have pu10 : W9.cell? ⟨w.heap.size, 10, none⟩ = some (.slice X2 l2.length c2) := by rw [k9.cell]; rfl
  have pu11 : W9.cell? ⟨w.heap.size, 11, none⟩ = some (.int .i64 ae2) := by rw [k9.cell]; rfl
  have pu12 : W9.cell? ⟨w.heap.size, 12, none⟩ = some (.bool ag3) := by rw [k9.cell]; rfl
  have pu13 : W9.cell? ⟨w.heap.size, 13, none⟩ = some (.slice X3 l3.length c3) := by rw [k9.cell]; rfl
  have pu14 : W9.cell? ⟨w.heap.size, 14, none⟩ = some (.int .i64 ae3) := by rw [k9.cell]; rfl
  clear k9
  refine ⟨rfl, .tuple #[v, .agg #[.int .i64 nu, .int .i64 ep, .int .i64 cp, .bool ag0, .slice X0 l0.length c0, .int .i64 ae0, .bool ag1, .slice X1 l1.length c1, .int .i64 ae1, .bool ag2, .slice X2 l2.length c2, .int .i64 ae2, .bool ag3, .slice X3 l3.length c3, .int .i64 ae3], .int .i64 E], ?_, l', x, (⟨⟨nu, ep, cp, ⟨⟨ag0, l0, ae0⟩, ⟨ag1, l1, ae1⟩, ⟨ag2, l2, ae2⟩, ⟨ag3, l3, ae3⟩⟩⟩, X0, c0, X1, c1, X2, c2, X3, c3⟩ : EO), _, _, _, rfl, gC.out, rfl, g9.out⟩
  simp [results, Tryd.f22, go_sem, pu0, pu1, pu2, pu3, pu4, pu5, pu6, pu7, pu8, pu9, pu10, pu11, pu12, pu13, pu14]
set_option maxRecDepth 100000 in
set_option maxHeartbeats 16000000 in
theorem lose_any (A : Option Addr) (n c : Nat) (l : List En) (hm : n ≤ 10000) (hs1 : ∀ x ∈ l, smM x.give) (w : World) (h : Ens w w.heap.size A n l) (N : Int) : Calls Tryd.prog 21 #[.slice A n c, .int .i64 N] w fun en w' => ∃ l' x ox v vx E, en = .returned (.tuple #[v, vx, .int .i64 E]) ∧ CmeF false l N l' x E ∧ vx = aggE ox ∧ PairE w v l' x ox w' := by
  obtain ⟨V, hV⟩ : ∃ V, V = w.alloc (.cells #[.int .i64 0, .int .i64 0, .int .i64 0, .bool false, .slice none 0 0, .int .i64 0, .bool false, .slice none 0 0, .int .i64 0, .bool false, .slice none 0 0, .int .i64 0, .bool false, .slice none 0 0, .int .i64 0] 48) := ⟨_, rfl⟩
  have hBV : Below w.heap.size w V := by rw [hV]; exact (Below.refl _ _).alloc (Nat.le_refl _) _
  have hVs : w.heap.size < V.heap.size := by rw [hV, World.size_alloc]; exact Nat.lt_succ_self _
  have kb : Blk V w.heap.size 48 #[.int .i64 0, .int .i64 0, .int .i64 0, .bool false, .slice none 0 0, .int .i64 0, .bool false, .slice none 0 0, .int .i64 0, .bool false, .slice none 0 0, .int .i64 0, .bool false, .slice none 0 0, .int .i64 0] := by rw [hV]; exact Blk.new w _ _
  have hf := down_lose A n c l hm hs1 V (Recs.more (Recs.below h hBV) hBV.size) N
  clear h hs1
  go_enter Tryd.func21, Tryd.ntmps21
  go_wp2_with fail
  rw [← hV]
  clear hV
  refine hf.mono ?_
  rintro en w1 ⟨l', x, ox, v, vx, E, rfl, hC, rfl, hP⟩
  clear hf
  have gC := Lib.hid hC
  have hb1 : Below w.heap.size w w1 := hBV.trans (hP.2.mono hBV.size)
  have kb1 := kb.below hP.2 kb.lt
  have gP := Lib.hid hP.1
  have s1 := hP.2.size
  clear hC hP
  obtain ⟨⟨nu, ep, cp, ⟨⟨ag0, l0, ae0⟩, ⟨ag1, l1, ae1⟩, ⟨ag2, l2, ae2⟩, ⟨ag3, l3, ae3⟩⟩⟩, X0, c0, X1, c1, X2, c2, X3, c3⟩ := ox
  unfold aggE
  dsimp only
  have SB : ∀ w', Blk w' w.heap.size 48 #[.int .i64 0, .int .i64 0, .int .i64 0, .bool false, .slice none 0 0, .int .i64 0, .bool false, .slice none 0 0, .int .i64 0, .bool false, .slice none 0 0, .int .i64 0, .bool false, .slice none 0 0, .int .i64 0] → w'.cell? ⟨w.heap.size, 0, none⟩ = some (.int .i64 0) ∧ w'.cell? ⟨w.heap.size, 1, none⟩ = some (.int .i64 0) ∧ w'.cell? ⟨w.heap.size, 2, none⟩ = some (.int .i64 0) ∧ w'.cell? ⟨w.heap.size, 3, none⟩ = some (.bool false) ∧ w'.cell? ⟨w.heap.size, 4, none⟩ = some (.slice none 0 0) ∧ w'.cell? ⟨w.heap.size, 5, none⟩ = some (.int .i64 0) ∧ w'.cell? ⟨w.heap.size, 6, none⟩ = some (.bool false) ∧ w'.cell? ⟨w.heap.size, 7, none⟩ = some (.slice none 0 0) ∧ w'.cell? ⟨w.heap.size, 8, none⟩ = some (.int .i64 0) ∧ w'.cell? ⟨w.heap.size, 9, none⟩ = some (.bool false) ∧ w'.cell? ⟨w.heap.size, 10, none⟩ = some (.slice none 0 0) ∧ w'.cell? ⟨w.heap.size, 11, none⟩ = some (.int .i64 0) ∧ w'.cell? ⟨w.heap.size, 12, none⟩ = some (.bool false) ∧ w'.cell? ⟨w.heap.size, 13, none⟩ = some (.slice none 0 0) ∧ w'.cell? ⟨w.heap.size, 14, none⟩ = some (.int .i64 0) ∧ w'.frozen? ⟨w.heap.size, 0, none⟩ = false ∧ w'.frozen? ⟨w.heap.size, 1, none⟩ = false ∧ w'.frozen? ⟨w.heap.size, 2, none⟩ = false ∧ w'.frozen? ⟨w.heap.size, 3, none⟩ = false ∧ w'.frozen? ⟨w.heap.size, 4, none⟩ = false ∧ w'.frozen? ⟨w.heap.size, 5, none⟩ = false ∧ w'.frozen? ⟨w.heap.size, 6, none⟩ = false ∧ w'.frozen? ⟨w.heap.size, 7, none⟩ = false ∧ w'.frozen? ⟨w.heap.size, 8, none⟩ = false ∧ w'.frozen? ⟨w.heap.size, 9, none⟩ = false ∧ w'.frozen? ⟨w.heap.size, 10, none⟩ = false ∧ w'.frozen? ⟨w.heap.size, 11, none⟩ = false ∧ w'.frozen? ⟨w.heap.size, 12, none⟩ = false ∧ w'.frozen? ⟨w.heap.size, 13, none⟩ = false ∧ w'.frozen? ⟨w.heap.size, 14, none⟩ = false := by
    intro w' k5
    refine ⟨?_, ?_, ?_, ?_, ?_, ?_, ?_, ?_, ?_, ?_, ?_, ?_, ?_, ?_, ?_, ?_, ?_, ?_, ?_, ?_, ?_, ?_, ?_, ?_, ?_, ?_, ?_, ?_, ?_, ?_⟩ <;> first | exact k5.frozen _ | (rw [k5.cell]; rfl)
  have SS : ∀ w', Below w1.heap.size w1 w' → w'.cell? ⟨w.heap.size, 0, none⟩ = some (.int .i64 0) ∧ w'.cell? ⟨w.heap.size, 1, none⟩ = some (.int .i64 0) ∧ w'.cell? ⟨w.heap.size, 2, none⟩ = some (.int .i64 0) ∧ w'.cell? ⟨w.heap.size, 3, none⟩ = some (.bool false) ∧ w'.cell? ⟨w.heap.size, 4, none⟩ = some (.slice none 0 0) ∧ w'.cell? ⟨w.heap.size, 5, none⟩ = some (.int .i64 0) ∧ w'.cell? ⟨w.heap.size, 6, none⟩ = some (.bool false) ∧ w'.cell? ⟨w.heap.size, 7, none⟩ = some (.slice none 0 0) ∧ w'.cell? ⟨w.heap.size, 8, none⟩ = some (.int .i64 0) ∧ w'.cell? ⟨w.heap.size, 9, none⟩ = some (.bool false) ∧ w'.cell? ⟨w.heap.size, 10, none⟩ = some (.slice none 0 0) ∧ w'.cell? ⟨w.heap.size, 11, none⟩ = some (.int .i64 0) ∧ w'.cell? ⟨w.heap.size, 12, none⟩ = some (.bool false) ∧ w'.cell? ⟨w.heap.size, 13, none⟩ = some (.slice none 0 0) ∧ w'.cell? ⟨w.heap.size, 14, none⟩ = some (.int .i64 0) ∧ w'.frozen? ⟨w.heap.size, 0, none⟩ = false ∧ w'.frozen? ⟨w.heap.size, 1, none⟩ = false ∧ w'.frozen? ⟨w.heap.size, 2, none⟩ = false ∧ w'.frozen? ⟨w.heap.size, 3, none⟩ = false ∧ w'.frozen? ⟨w.heap.size, 4, none⟩ = false ∧ w'.frozen? ⟨w.heap.size, 5, none⟩ = false ∧ w'.frozen? ⟨w.heap.size, 6, none⟩ = false ∧ w'.frozen? ⟨w.heap.size, 7, none⟩ = false ∧ w'.frozen? ⟨w.heap.size, 8, none⟩ = false ∧ w'.frozen? ⟨w.heap.size, 9, none⟩ = false ∧ w'.frozen? ⟨w.heap.size, 10, none⟩ = false ∧ w'.frozen? ⟨w.heap.size, 11, none⟩ = false ∧ w'.frozen? ⟨w.heap.size, 12, none⟩ = false ∧ w'.frozen? ⟨w.heap.size, 13, none⟩ = false ∧ w'.frozen? ⟨w.heap.size, 14, none⟩ = false := fun w' hw => SB w' (kb1.below hw kb1.lt)
  obtain ⟨u0, u1, u2, u3, u4, u5, u6, u7, u8, u9, u10, u11, u12, u13, u14, uf0, uf1, uf2, uf3, uf4, uf5, uf6, uf7, uf8, uf9, uf10, uf11, uf12, uf13, uf14⟩ := SS w1 (Below.refl _ _)
  obtain ⟨W9, hW9⟩ : ∃ W9, W9 = (b15 w1 w.heap.size (.int .i64 nu) (.int .i64 ep) (.int .i64 cp) (.bool ag0) (.slice X0 l0.length c0) (.int .i64 ae0) (.bool ag1) (.slice X1 l1.length c1) (.int .i64 ae1) (.bool ag2) (.slice X2 l2.length c2) (.int .i64 ae2) (.bool ag3) (.slice X3 l3.length c3) (.int .i64 ae3)) := ⟨_, rfl⟩
  have k9 : Blk W9 w.heap.size 48 #[.int .i64 nu, .int .i64 ep, .int .i64 cp, .bool ag0, .slice X0 l0.length c0, .int .i64 ae0, .bool ag1, .slice X1 l1.length c1, .int .i64 ae1, .bool ag2, .slice X2 l2.length c2, .int .i64 ae2, .bool ag3, .slice X3 l3.length c3, .int .i64 ae3] := by rw [hW9]; exact (b15_blk kb1 rfl (.int .i64 nu) (.int .i64 ep) (.int .i64 cp) (.bool ag0) (.slice X0 l0.length c0) (.int .i64 ae0) (.bool ag1) (.slice X1 l1.length c1) (.int .i64 ae1) (.bool ag2) (.slice X2 l2.length c2) (.int .i64 ae2) (.bool ag3) (.slice X3 l3.length c3) (.int .i64 ae3))
  have g9 : Hid (PairE w (v) (l') (x) ((⟨⟨nu, ep, cp, ⟨⟨ag0, l0, ae0⟩, ⟨ag1, l1, ae1⟩, ⟨ag2, l2, ae2⟩, ⟨ag3, l3, ae3⟩⟩⟩, X0, c0, X1, c1, X2, c2, X3, c3⟩ : EO)) W9) := Lib.hid (by rw [hW9]; exact ⟨(gP.out.other (by omega) (b15_other w1 _ (.int .i64 nu) (.int .i64 ep) (.int .i64 cp) (.bool ag0) (.slice X0 l0.length c0) (.int .i64 ae0) (.bool ag1) (.slice X1 l1.length c1) (.int .i64 ae1) (.bool ag2) (.slice X2 l2.length c2) (.int .i64 ae2) (.bool ag3) (.slice X3 l3.length c3) (.int .i64 ae3))).base_le (by omega), b15_below hb1 (Nat.le_refl _) (.int .i64 nu) (.int .i64 ep) (.int .i64 cp) (.bool ag0) (.slice X0 l0.length c0) (.int .i64 ae0) (.bool ag1) (.slice X1 l1.length c1) (.int .i64 ae1) (.bool ag2) (.slice X2 l2.length c2) (.int .i64 ae2) (.bool ag3) (.slice X3 l3.length c3) (.int .i64 ae3)⟩)
  unfold b15 at hW9
  go_wp2
  clear u0 u1 u2 u3 u4 u5 u6 u7 u8 u9 u10 u11 u12 u13 u14 uf0 uf1 uf2 uf3 uf4 uf5 uf6 uf7 uf8 uf9 uf10 uf11 uf12 uf13 uf14
  clear SS SB
  rw [← hW9]
  clear hW9
  have pu0 : W9.cell? ⟨w.heap.size, 0, none⟩ = some (.int .i64 nu) := by rw [k9.cell]; rfl
  have pu1 : W9.cell? ⟨w.heap.size, 1, none⟩ = some (.int .i64 ep) := by rw [k9.cell]; rfl
  have pu2 : W9.cell? ⟨w.heap.size, 2, none⟩ = some (.int .i64 cp) := by rw [k9.cell]; rfl
  have pu3 : W9.cell? ⟨w.heap.size, 3, none⟩ = some (.bool ag0) := by rw [k9.cell]; rfl
  have pu4 : W9.cell? ⟨w.heap.size, 4, none⟩ = some (.slice X0 l0.length c0) := by rw [k9.cell]; rfl
  have pu5 : W9.cell? ⟨w.heap.size, 5, none⟩ = some (.int .i64 ae0) := by rw [k9.cell]; rfl
  have pu6 : W9.cell? ⟨w.heap.size, 6, none⟩ = some (.bool ag1) := by rw [k9.cell]; rfl
  have pu7 : W9.cell? ⟨w.heap.size, 7, none⟩ = some (.slice X1 l1.length c1) := by rw [k9.cell]; rfl
  have pu8 : W9.cell? ⟨w.heap.size, 8, none⟩ = some (.int .i64 ae1) := by rw [k9.cell]; rfl
  have pu9 : W9.cell? ⟨w.heap.size, 9, none⟩ = some (.bool ag2) := by rw [k9.cell]; rfl
  have pu10 : W9.cell? ⟨w.heap.size, 10, none⟩ = some (.slice X2 l2.length c2) := by rw [k9.cell]; rfl
  have pu11 : W9.cell? ⟨w.heap.size, 11, none⟩ = some (.int .i64 ae2) := by rw [k9.cell]; rfl
  have pu12 : W9.cell? ⟨w.heap.size, 12, none⟩ = some (.bool ag3) := by rw [k9.cell]; rfl
  have pu13 : W9.cell? ⟨w.heap.size, 13, none⟩ = some (.slice X3 l3.length c3) := by rw [k9.cell]; rfl
  have pu14 : W9.cell? ⟨w.heap.size, 14, none⟩ = some (.int .i64 ae3) := by rw [k9.cell]; rfl
  clear k9
  refine ⟨rfl, .tuple #[v, .agg #[.int .i64 nu, .int .i64 ep, .int .i64 cp, .bool ag0, .slice X0 l0.length c0, .int .i64 ae0, .bool ag1, .slice X1 l1.length c1, .int .i64 ae1, .bool ag2, .slice X2 l2.length c2, .int .i64 ae2, .bool ag3, .slice X3 l3.length c3, .int .i64 ae3], .int .i64 E], ?_, l', x, (⟨⟨nu, ep, cp, ⟨⟨ag0, l0, ae0⟩, ⟨ag1, l1, ae1⟩, ⟨ag2, l2, ae2⟩, ⟨ag3, l3, ae3⟩⟩⟩, X0, c0, X1, c1, X2, c2, X3, c3⟩ : EO), _, _, _, rfl, gC.out, rfl, g9.out⟩
  simp [results, Tryd.f21, go_sem, pu0, pu1, pu2, pu3, pu4, pu5, pu6, pu7, pu8, pu9, pu10, pu11, pu12, pu13, pu14]
end Go.Proofs.YtdmjdpaehnhdoaaDoor
