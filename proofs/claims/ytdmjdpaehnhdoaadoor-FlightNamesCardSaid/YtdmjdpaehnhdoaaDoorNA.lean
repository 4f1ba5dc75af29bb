/- Flight: down, at Land's closure -/
import Derived.Test.YtdmjdpaehnhdoaaDoorLZ
import Derived.Test.YtdmjdpaehnhdoaaDoorKA
namespace Go.Proofs.YtdmjdpaehnhdoaaDoor
open Go.ChangeShapes Go.WideShapes Go.ChangeAt Go.RowKit
set_option linter.unusedSimpArgs false
set_option linter.unusedVariables false
set_option maxRecDepth 100000 in
set_option maxHeartbeats 16000000 in
theorem down_land_err (A : Option Addr) (n c : Nat) (l : List En) (hm : n ≤ 10000) (hs1 : ∀ x ∈ l, smM x.give) (w : World) (h : Ens w w.heap.size A n l) (N : Int) (hX : ¬ (ChkF l 0 ∧ (0 ≤ N ∧ N ≤ 1048575))) : Calls Tryd.prog 47 #[.slice A n c, .int .i64 N, .func (.func 49) #[] #[]] w fun en w' => ∃ l' x ox v vx E, en = .returned (.tuple #[v, vx, .int .i64 E]) ∧ CmeF true l N l' x E ∧ vx = aggE ox ∧ PairE w v l' x ox w' := by
  obtain ⟨V, hV⟩ : ∃ V, V = w.alloc (.cells #[.int .i64 0, .int .i64 0, .int .i64 0, .bool false, .slice none 0 0, .int .i64 0, .bool false, .slice none 0 0, .int .i64 0, .bool false, .slice none 0 0, .int .i64 0, .bool false, .slice none 0 0, .int .i64 0] 48) := ⟨_, rfl⟩
  have hBV : Below w.heap.size w V := by rw [hV]; exact (Below.refl _ _).alloc (Nat.le_refl _) _
  have hVs : w.heap.size < V.heap.size := by rw [hV, World.size_alloc]; exact Nat.lt_succ_self _
  have kb : Blk V w.heap.size 48 #[.int .i64 0, .int .i64 0, .int .i64 0, .bool false, .slice none 0 0, .int .i64 0, .bool false, .slice none 0 0, .int .i64 0, .bool false, .slice none 0 0, .int .i64 0, .bool false, .slice none 0 0, .int .i64 0] := by rw [hV]; exact Blk.new w _ _
  have hf := found_any A n c l (by unfold maxLen; omega) V (Recs.more (Recs.below h hBV) hBV.size) N
  have gln := Lib.hid (ens_len h)
  have gh := Lib.hid h
  have gs := Lib.hid hs1
  have gX := Lib.hid hX
  clear h hs1 hX
  go_enter Tryd.func47, Tryd.ntmps47
  go_wp2_with fail
  rw [← hV]
  clear hV
  refine hf.mono ?_
  rintro en w1 ⟨a, i, E, rfl, hF, hb1'⟩
  clear hf
  have hb1 : Below w.heap.size w w1 := hBV.trans (hb1'.mono hBV.size)
  have kb1 := kb.below hb1' kb.lt
  have s1 : V.heap.size ≤ w1.heap.size := hb1'.size
  have kl1 := kb1.lt
  rcases hF with ⟨hE, hne, rfl, rfl⟩ | ⟨hE, hne, rfl, rfl, rfl⟩ | ⟨hE, hne, ⟨k, rfl, hk, rfl⟩, rfl⟩
  · rcases hE.has with ⟨rfl, _⟩ | ⟨rfl, _, _⟩ | ⟨rfl, _, _⟩
    · have gd : Hid (CmeF true l N [] zE 4) := Lib.hid (.inl ⟨hE, hne, rfl, rfl⟩)
      clear hE hne
      have SB : ∀ w', Blk w' w.heap.size 48 #[.int .i64 0, .int .i64 0, .int .i64 0, .bool false, .slice none 0 0, .int .i64 0, .bool false, .slice none 0 0, .int .i64 0, .bool false, .slice none 0 0, .int .i64 0, .bool false, .slice none 0 0, .int .i64 0] → w'.cell? ⟨w.heap.size, 0, none⟩ = some (.int .i64 0) ∧ w'.cell? ⟨w.heap.size, 1, none⟩ = some (.int .i64 0) ∧ w'.cell? ⟨w.heap.size, 2, none⟩ = some (.int .i64 0) ∧ w'.cell? ⟨w.heap.size, 3, none⟩ = some (.bool false) ∧ w'.cell? ⟨w.heap.size, 4, none⟩ = some (.slice none 0 0) ∧ w'.cell? ⟨w.heap.size, 5, none⟩ = some (.int .i64 0) ∧ w'.cell? ⟨w.heap.size, 6, none⟩ = some (.bool false) ∧ w'.cell? ⟨w.heap.size, 7, none⟩ = some (.slice none 0 0) ∧ w'.cell? ⟨w.heap.size, 8, none⟩ = some (.int .i64 0) ∧ w'.cell? ⟨w.heap.size, 9, none⟩ = some (.bool false) ∧ w'.cell? ⟨w.heap.size, 10, none⟩ = some (.slice none 0 0) ∧ w'.cell? ⟨w.heap.size, 11, none⟩ = some (.int .i64 0) ∧ w'.cell? ⟨w.heap.size, 12, none⟩ = some (.bool false) ∧ w'.cell? ⟨w.heap.size, 13, none⟩ = some (.slice none 0 0) ∧ w'.cell? ⟨w.heap.size, 14, none⟩ = some (.int .i64 0) ∧ w'.frozen? ⟨w.heap.size, 0, none⟩ = false ∧ w'.frozen? ⟨w.heap.size, 1, none⟩ = false ∧ w'.frozen? ⟨w.heap.size, 2, none⟩ = false ∧ w'.frozen? ⟨w.heap.size, 3, none⟩ = false ∧ w'.frozen? ⟨w.heap.size, 4, none⟩ = false ∧ w'.frozen? ⟨w.heap.size, 5, none⟩ = false ∧ w'.frozen? ⟨w.heap.size, 6, none⟩ = false ∧ w'.frozen? ⟨w.heap.size, 7, none⟩ = false ∧ w'.frozen? ⟨w.heap.size, 8, none⟩ = false ∧ w'.frozen? ⟨w.heap.size, 9, none⟩ = false ∧ w'.frozen? ⟨w.heap.size, 10, none⟩ = false ∧ w'.frozen? ⟨w.heap.size, 11, none⟩ = false ∧ w'.frozen? ⟨w.heap.size, 12, none⟩ = false ∧ w'.frozen? ⟨w.heap.size, 13, none⟩ = false ∧ w'.frozen? ⟨w.heap.size, 14, none⟩ = false := by
        intro w' k5
        refine ⟨?_, ?_, ?_, ?_, ?_, ?_, ?_, ?_, ?_, ?_, ?_, ?_, ?_, ?_, ?_, ?_, ?_, ?_, ?_, ?_, ?_, ?_, ?_, ?_, ?_, ?_, ?_, ?_, ?_, ?_⟩ <;> first | exact k5.frozen _ | (rw [k5.cell]; rfl)
      have SS : ∀ w', Below w1.heap.size w1 w' → w'.cell? ⟨w.heap.size, 0, none⟩ = some (.int .i64 0) ∧ w'.cell? ⟨w.heap.size, 1, none⟩ = some (.int .i64 0) ∧ w'.cell? ⟨w.heap.size, 2, none⟩ = some (.int .i64 0) ∧ w'.cell? ⟨w.heap.size, 3, none⟩ = some (.bool false) ∧ w'.cell? ⟨w.heap.size, 4, none⟩ = some (.slice none 0 0) ∧ w'.cell? ⟨w.heap.size, 5, none⟩ = some (.int .i64 0) ∧ w'.cell? ⟨w.heap.size, 6, none⟩ = some (.bool false) ∧ w'.cell? ⟨w.heap.size, 7, none⟩ = some (.slice none 0 0) ∧ w'.cell? ⟨w.heap.size, 8, none⟩ = some (.int .i64 0) ∧ w'.cell? ⟨w.heap.size, 9, none⟩ = some (.bool false) ∧ w'.cell? ⟨w.heap.size, 10, none⟩ = some (.slice none 0 0) ∧ w'.cell? ⟨w.heap.size, 11, none⟩ = some (.int .i64 0) ∧ w'.cell? ⟨w.heap.size, 12, none⟩ = some (.bool false) ∧ w'.cell? ⟨w.heap.size, 13, none⟩ = some (.slice none 0 0) ∧ w'.cell? ⟨w.heap.size, 14, none⟩ = some (.int .i64 0) ∧ w'.frozen? ⟨w.heap.size, 0, none⟩ = false ∧ w'.frozen? ⟨w.heap.size, 1, none⟩ = false ∧ w'.frozen? ⟨w.heap.size, 2, none⟩ = false ∧ w'.frozen? ⟨w.heap.size, 3, none⟩ = false ∧ w'.frozen? ⟨w.heap.size, 4, none⟩ = false ∧ w'.frozen? ⟨w.heap.size, 5, none⟩ = false ∧ w'.frozen? ⟨w.heap.size, 6, none⟩ = false ∧ w'.frozen? ⟨w.heap.size, 7, none⟩ = false ∧ w'.frozen? ⟨w.heap.size, 8, none⟩ = false ∧ w'.frozen? ⟨w.heap.size, 9, none⟩ = false ∧ w'.frozen? ⟨w.heap.size, 10, none⟩ = false ∧ w'.frozen? ⟨w.heap.size, 11, none⟩ = false ∧ w'.frozen? ⟨w.heap.size, 12, none⟩ = false ∧ w'.frozen? ⟨w.heap.size, 13, none⟩ = false ∧ w'.frozen? ⟨w.heap.size, 14, none⟩ = false := fun w' hw => SB w' (kb1.below hw kb1.lt)
      obtain ⟨u0, u1, u2, u3, u4, u5, u6, u7, u8, u9, u10, u11, u12, u13, u14, uf0, uf1, uf2, uf3, uf4, uf5, uf6, uf7, uf8, uf9, uf10, uf11, uf12, uf13, uf14⟩ := SS w1 (Below.refl _ _)
      obtain ⟨W9, hW9⟩ : ∃ W9, W9 = (b15 w1 w.heap.size (.int .i64 0) (.int .i64 0) (.int .i64 0) (.bool false) (.slice none 0 0) (.int .i64 0) (.bool false) (.slice none 0 0) (.int .i64 0) (.bool false) (.slice none 0 0) (.int .i64 0) (.bool false) (.slice none 0 0) (.int .i64 0)) := ⟨_, rfl⟩
      have k9 : Blk W9 w.heap.size 48 #[.int .i64 0, .int .i64 0, .int .i64 0, .bool false, .slice none 0 0, .int .i64 0, .bool false, .slice none 0 0, .int .i64 0, .bool false, .slice none 0 0, .int .i64 0, .bool false, .slice none 0 0, .int .i64 0] := by rw [hW9]; exact (b15_blk kb1 rfl (.int .i64 0) (.int .i64 0) (.int .i64 0) (.bool false) (.slice none 0 0) (.int .i64 0) (.bool false) (.slice none 0 0) (.int .i64 0) (.bool false) (.slice none 0 0) (.int .i64 0) (.bool false) (.slice none 0 0) (.int .i64 0))
      have g9 : Hid (PairE w (.slice none 0 0) ([]) (zE) (zO) W9) := Lib.hid (by rw [hW9]; exact ⟨((pairC_nil w1 V.heap.size).other (by omega) (b15_other w1 _ (.int .i64 0) (.int .i64 0) (.int .i64 0) (.bool false) (.slice none 0 0) (.int .i64 0) (.bool false) (.slice none 0 0) (.int .i64 0) (.bool false) (.slice none 0 0) (.int .i64 0) (.bool false) (.slice none 0 0) (.int .i64 0))).base_le (by omega), b15_below hb1 (Nat.le_refl _) (.int .i64 0) (.int .i64 0) (.int .i64 0) (.bool false) (.slice none 0 0) (.int .i64 0) (.bool false) (.slice none 0 0) (.int .i64 0) (.bool false) (.slice none 0 0) (.int .i64 0) (.bool false) (.slice none 0 0) (.int .i64 0)⟩)
      unfold b15 at hW9
      go_wp2
      clear u0 u1 u2 u3 u4 u5 u6 u7 u8 u9 u10 u11 u12 u13 u14 uf0 uf1 uf2 uf3 uf4 uf5 uf6 uf7 uf8 uf9 uf10 uf11 uf12 uf13 uf14
      clear SS SB
      rw [← hW9]
      clear hW9
      have pu0 : W9.cell? ⟨w.heap.size, 0, none⟩ = some (.int .i64 0) := by rw [k9.cell]; rfl
      have pu1 : W9.cell? ⟨w.heap.size, 1, none⟩ = some (.int .i64 0) := by rw [k9.cell]; rfl
      have pu2 : W9.cell? ⟨w.heap.size, 2, none⟩ = some (.int .i64 0) := by rw [k9.cell]; rfl
      have pu3 : W9.cell? ⟨w.heap.size, 3, none⟩ = some (.bool false) := by rw [k9.cell]; rfl
      have pu4 : W9.cell? ⟨w.heap.size, 4, none⟩ = some (.slice none 0 0) := by rw [k9.cell]; rfl
      have pu5 : W9.cell? ⟨w.heap.size, 5, none⟩ = some (.int .i64 0) := by rw [k9.cell]; rfl
      have pu6 : W9.cell? ⟨w.heap.size, 6, none⟩ = some (.bool false) := by rw [k9.cell]; rfl
      have pu7 : W9.cell? ⟨w.heap.size, 7, none⟩ = some (.slice none 0 0) := by rw [k9.cell]; rfl
      have pu8 : W9.cell? ⟨w.heap.size, 8, none⟩ = some (.int .i64 0) := by rw [k9.cell]; rfl
      have pu9 : W9.cell? ⟨w.heap.size, 9, none⟩ = some (.bool false) := by rw [k9.cell]; rfl
      have pu10 : W9.cell? ⟨w.heap.size, 10, none⟩ = some (.slice none 0 0) := by rw [k9.cell]; rfl
      have pu11 : W9.cell? ⟨w.heap.size, 11, none⟩ = some (.int .i64 0) := by rw [k9.cell]; rfl
      have pu12 : W9.cell? ⟨w.heap.size, 12, none⟩ = some (.bool false) := by rw [k9.cell]; rfl
      have pu13 : W9.cell? ⟨w.heap.size, 13, none⟩ = some (.slice none 0 0) := by rw [k9.cell]; rfl
      have pu14 : W9.cell? ⟨w.heap.size, 14, none⟩ = some (.int .i64 0) := by rw [k9.cell]; rfl
      clear k9
      refine ⟨rfl, .tuple #[.slice none 0 0, .agg #[.int .i64 0, .int .i64 0, .int .i64 0, .bool false, .slice none 0 0, .int .i64 0, .bool false, .slice none 0 0, .int .i64 0, .bool false, .slice none 0 0, .int .i64 0, .bool false, .slice none 0 0, .int .i64 0], .int .i64 4], ?_, [], zE, zO, _, _, _, rfl, gd.out, rfl, g9.out⟩
      simp [results, Tryd.f47, go_sem, pu0, pu1, pu2, pu3, pu4, pu5, pu6, pu7, pu8, pu9, pu10, pu11, pu12, pu13, pu14]
    · exact absurd rfl hne
    · have gd : Hid (CmeF true l N [] zE 8) := Lib.hid (.inl ⟨hE, hne, rfl, rfl⟩)
      clear hE hne
      have SB : ∀ w', Blk w' w.heap.size 48 #[.int .i64 0, .int .i64 0, .int .i64 0, .bool false, .slice none 0 0, .int .i64 0, .bool false, .slice none 0 0, .int .i64 0, .bool false, .slice none 0 0, .int .i64 0, .bool false, .slice none 0 0, .int .i64 0] → w'.cell? ⟨w.heap.size, 0, none⟩ = some (.int .i64 0) ∧ w'.cell? ⟨w.heap.size, 1, none⟩ = some (.int .i64 0) ∧ w'.cell? ⟨w.heap.size, 2, none⟩ = some (.int .i64 0) ∧ w'.cell? ⟨w.heap.size, 3, none⟩ = some (.bool false) ∧ w'.cell? ⟨w.heap.size, 4, none⟩ = some (.slice none 0 0) ∧ w'.cell? ⟨w.heap.size, 5, none⟩ = some (.int .i64 0) ∧ w'.cell? ⟨w.heap.size, 6, none⟩ = some (.bool false) ∧ w'.cell? ⟨w.heap.size, 7, none⟩ = some (.slice none 0 0) ∧ w'.cell? ⟨w.heap.size, 8, none⟩ = some (.int .i64 0) ∧ w'.cell? ⟨w.heap.size, 9, none⟩ = some (.bool false) ∧ w'.cell? ⟨w.heap.size, 10, none⟩ = some (.slice none 0 0) ∧ w'.cell? ⟨w.heap.size, 11, none⟩ = some (.int .i64 0) ∧ w'.cell? ⟨w.heap.size, 12, none⟩ = some (.bool false) ∧ w'.cell? ⟨w.heap.size, 13, none⟩ = some (.slice none 0 0) ∧ w'.cell? ⟨w.heap.size, 14, none⟩ = some (.int .i64 0) ∧ w'.frozen? ⟨w.heap.size, 0, none⟩ = false ∧ w'.frozen? ⟨w.heap.size, 1, none⟩ = false ∧ w'.frozen? ⟨w.heap.size, 2, none⟩ = false ∧ w'.frozen? ⟨w.heap.size, 3, none⟩ = false ∧ w'.frozen? ⟨w.heap.size, 4, none⟩ = false ∧ w'.frozen? ⟨w.heap.size, 5, none⟩ = false ∧ w'.frozen? ⟨w.heap.size, 6, none⟩ = false ∧ w'.frozen? ⟨w.heap.size, 7, none⟩ = false ∧ w'.frozen? ⟨w.heap.size, 8, none⟩ = false ∧ w'.frozen? ⟨w.heap.size, 9, none⟩ = false ∧ w'.frozen? ⟨w.heap.size, 10, none⟩ = false ∧ w'.frozen? ⟨w.heap.size, 11, none⟩ = false ∧ w'.frozen? ⟨w.heap.size, 12, none⟩ = false ∧ w'.frozen? ⟨w.heap.size, 13, none⟩ = false ∧ w'.frozen? ⟨w.heap.size, 14, none⟩ = false := by
        intro w' k5
        refine ⟨?_, ?_, ?_, ?_, ?_, ?_, ?_, ?_, ?_, ?_, ?_, ?_, ?_, ?_, ?_, ?_, ?_, ?_, ?_, ?_, ?_, ?_, ?_, ?_, ?_, ?_, ?_, ?_, ?_, ?_⟩ <;> first | exact k5.frozen _ | (rw [k5.cell]; rfl)
      have SS : ∀ w', Below w1.heap.size w1 w' → w'.cell? ⟨w.heap.size, 0, none⟩ = some (.int .i64 0) ∧ w'.cell? ⟨w.heap.size, 1, none⟩ = some (.int .i64 0) ∧ w'.cell? ⟨w.heap.size, 2, none⟩ = some (.int .i64 0) ∧ w'.cell? ⟨w.heap.size, 3, none⟩ = some (.bool false) ∧ w'.cell? ⟨w.heap.size, 4, none⟩ = some (.slice none 0 0) ∧ w'.cell? ⟨w.heap.size, 5, none⟩ = some (.int .i64 0) ∧ w'.cell? ⟨w.heap.size, 6, none⟩ = some (.bool false) ∧ w'.cell? ⟨w.heap.size, 7, none⟩ = some (.slice none 0 0) ∧ w'.cell? ⟨w.heap.size, 8, none⟩ = some (.int .i64 0) ∧ w'.cell? ⟨w.heap.size, 9, none⟩ = some (.bool false) ∧ w'.cell? ⟨w.heap.size, 10, none⟩ = some (.slice none 0 0) ∧ w'.cell? ⟨w.heap.size, 11, none⟩ = some (.int .i64 0) ∧ w'.cell? ⟨w.heap.size, 12, none⟩ = some (.bool false) ∧ w'.cell? ⟨w.heap.size, 13, none⟩ = some (.slice none 0 0) ∧ w'.cell? ⟨w.heap.size, 14, none⟩ = some (.int .i64 0) ∧ w'.frozen? ⟨w.heap.size, 0, none⟩ = false ∧ w'.frozen? ⟨w.heap.size, 1, none⟩ = false ∧ w'.frozen? ⟨w.heap.size, 2, none⟩ = false ∧ w'.frozen? ⟨w.heap.size, 3, none⟩ = false ∧ w'.frozen? ⟨w.heap.size, 4, none⟩ = false ∧ w'.frozen? ⟨w.heap.size, 5, none⟩ = false ∧ w'.frozen? ⟨w.heap.size, 6, none⟩ = false ∧ w'.frozen? ⟨w.heap.size, 7, none⟩ = false ∧ w'.frozen? ⟨w.heap.size, 8, none⟩ = false ∧ w'.frozen? ⟨w.heap.size, 9, none⟩ = false ∧ w'.frozen? ⟨w.heap.size, 10, none⟩ = false ∧ w'.frozen? ⟨w.heap.size, 11, none⟩ = false ∧ w'.frozen? ⟨w.heap.size, 12, none⟩ = false ∧ w'.frozen? ⟨w.heap.size, 13, none⟩ = false ∧ w'.frozen? ⟨w.heap.size, 14, none⟩ = false := fun w' hw => SB w' (kb1.below hw kb1.lt)
      obtain ⟨u0, u1, u2, u3, u4, u5, u6, u7, u8, u9, u10, u11, u12, u13, u14, uf0, uf1, uf2, uf3, uf4, uf5, uf6, uf7, uf8, uf9, uf10, uf11, uf12, uf13, uf14⟩ := SS w1 (Below.refl _ _)
      obtain ⟨W9, hW9⟩ : ∃ W9, W9 = (b15 w1 w.heap.size (.int .i64 0) (.int .i64 0) (.int .i64 0) (.bool false) (.slice none 0 0) (.int .i64 0) (.bool false) (.slice none 0 0) (.int .i64 0) (.bool false) (.slice none 0 0) (.int .i64 0) (.bool false) (.slice none 0 0) (.int .i64 0)) := ⟨_, rfl⟩
      have k9 : Blk W9 w.heap.size 48 #[.int .i64 0, .int .i64 0, .int .i64 0, .bool false, .slice none 0 0, .int .i64 0, .bool false, .slice none 0 0, .int .i64 0, .bool false, .slice none 0 0, .int .i64 0, .bool false, .slice none 0 0, .int .i64 0] := by rw [hW9]; exact (b15_blk kb1 rfl (.int .i64 0) (.int .i64 0) (.int .i64 0) (.bool false) (.slice none 0 0) (.int .i64 0) (.bool false) (.slice none 0 0) (.int .i64 0) (.bool false) (.slice none 0 0) (.int .i64 0) (.bool false) (.slice none 0 0) (.int .i64 0))
      have g9 : Hid (PairE w (.slice none 0 0) ([]) (zE) (zO) W9) := Lib.hid (by rw [hW9]; exact ⟨((pairC_nil w1 V.heap.size).other (by omega) (b15_other w1 _ (.int .i64 0) (.int .i64 0) (.int .i64 0) (.bool false) (.slice none 0 0) (.int .i64 0) (.bool false) (.slice none 0 0) (.int .i64 0) (.bool false) (.slice none 0 0) (.int .i64 0) (.bool false) (.slice none 0 0) (.int .i64 0))).base_le (by omega), b15_below hb1 (Nat.le_refl _) (.int .i64 0) (.int .i64 0) (.int .i64 0) (.bool false) (.slice none 0 0) (.int .i64 0) (.bool false) (.slice none 0 0) (.int .i64 0) (.bool false) (.slice none 0 0) (.int .i64 0) (.bool false) (.slice none 0 0) (.int .i64 0)⟩)
      unfold b15 at hW9
      go_wp2
      clear u0 u1 u2 u3 u4 u5 u6 u7 u8 u9 u10 u11 u12 u13 u14 uf0 uf1 uf2 uf3 uf4 uf5 uf6 uf7 uf8 uf9 uf10 uf11 uf12 uf13 uf14
      clear SS SB
      rw [← hW9]
      clear hW9
      have pu0 : W9.cell? ⟨w.heap.size, 0, none⟩ = some (.int .i64 0) := by rw [k9.cell]; rfl
      have pu1 : W9.cell? ⟨w.heap.size, 1, none⟩ = some (.int .i64 0) := by rw [k9.cell]; rfl
      have pu2 : W9.cell? ⟨w.heap.size, 2, none⟩ = some (.int .i64 0) := by rw [k9.cell]; rfl
      have pu3 : W9.cell? ⟨w.heap.size, 3, none⟩ = some (.bool false) := by rw [k9.cell]; rfl
      have pu4 : W9.cell? ⟨w.heap.size, 4, none⟩ = some (.slice none 0 0) := by rw [k9.cell]; rfl
      have pu5 : W9.cell? ⟨w.heap.size, 5, none⟩ = some (.int .i64 0) := by rw [k9.cell]; rfl
      have pu6 : W9.cell? ⟨w.heap.size, 6, none⟩ = some (.bool false) := by rw [k9.cell]; rfl
      have pu7 : W9.cell? ⟨w.heap.size, 7, none⟩ = some (.slice none 0 0) := by rw [k9.cell]; rfl
      have pu8 : W9.cell? ⟨w.heap.size, 8, none⟩ = some (.int .i64 0) := by rw [k9.cell]; rfl
      have pu9 : W9.cell? ⟨w.heap.size, 9, none⟩ = some (.bool false) := by rw [k9.cell]; rfl
      have pu10 : W9.cell? ⟨w.heap.size, 10, none⟩ = some (.slice none 0 0) := by rw [k9.cell]; rfl
      have pu11 : W9.cell? ⟨w.heap.size, 11, none⟩ = some (.int .i64 0) := by rw [k9.cell]; rfl
      have pu12 : W9.cell? ⟨w.heap.size, 12, none⟩ = some (.bool false) := by rw [k9.cell]; rfl
      have pu13 : W9.cell? ⟨w.heap.size, 13, none⟩ = some (.slice none 0 0) := by rw [k9.cell]; rfl
      have pu14 : W9.cell? ⟨w.heap.size, 14, none⟩ = some (.int .i64 0) := by rw [k9.cell]; rfl
      clear k9
      refine ⟨rfl, .tuple #[.slice none 0 0, .agg #[.int .i64 0, .int .i64 0, .int .i64 0, .bool false, .slice none 0 0, .int .i64 0, .bool false, .slice none 0 0, .int .i64 0, .bool false, .slice none 0 0, .int .i64 0, .bool false, .slice none 0 0, .int .i64 0], .int .i64 8], ?_, [], zE, zO, _, _, _, rfl, gd.out, rfl, g9.out⟩
      simp [results, Tryd.f47, go_sem, pu0, pu1, pu2, pu3, pu4, pu5, pu6, pu7, pu8, pu9, pu10, pu11, pu12, pu13, pu14]
  · have gd : Hid (CmeF true l N [] zE 2) := Lib.hid (.inr (.inl ⟨hE, hne, rfl, rfl, rfl⟩))
    clear hE hne
    have SB : ∀ w', Blk w' w.heap.size 48 #[.int .i64 0, .int .i64 0, .int .i64 0, .bool false, .slice none 0 0, .int .i64 0, .bool false, .slice none 0 0, .int .i64 0, .bool false, .slice none 0 0, .int .i64 0, .bool false, .slice none 0 0, .int .i64 0] → w'.cell? ⟨w.heap.size, 0, none⟩ = some (.int .i64 0) ∧ w'.cell? ⟨w.heap.size, 1, none⟩ = some (.int .i64 0) ∧ w'.cell? ⟨w.heap.size, 2, none⟩ = some (.int .i64 0) ∧ w'.cell? ⟨w.heap.size, 3, none⟩ = some (.bool false) ∧ w'.cell? ⟨w.heap.size, 4, none⟩ = some (.slice none 0 0) ∧ w'.cell? ⟨w.heap.size, 5, none⟩ = some (.int .i64 0) ∧ w'.cell? ⟨w.heap.size, 6, none⟩ = some (.bool false) ∧ w'.cell? ⟨w.heap.size, 7, none⟩ = some (.slice none 0 0) ∧ w'.cell? ⟨w.heap.size, 8, none⟩ = some (.int .i64 0) ∧ w'.cell? ⟨w.heap.size, 9, none⟩ = some (.bool false) ∧ w'.cell? ⟨w.heap.size, 10, none⟩ = some (.slice none 0 0) ∧ w'.cell? ⟨w.heap.size, 11, none⟩ = some (.int .i64 0) ∧ w'.cell? ⟨w.heap.size, 12, none⟩ = some (.bool false) ∧ w'.cell? ⟨w.heap.size, 13, none⟩ = some (.slice none 0 0) ∧ w'.cell? ⟨w.heap.size, 14, none⟩ = some (.int .i64 0) ∧ w'.frozen? ⟨w.heap.size, 0, none⟩ = false ∧ w'.frozen? ⟨w.heap.size, 1, none⟩ = false ∧ w'.frozen? ⟨w.heap.size, 2, none⟩ = false ∧ w'.frozen? ⟨w.heap.size, 3, none⟩ = false ∧ w'.frozen? ⟨w.heap.size, 4, none⟩ = false ∧ w'.frozen? ⟨w.heap.size, 5, none⟩ = false ∧ w'.frozen? ⟨w.heap.size, 6, none⟩ = false ∧ w'.frozen? ⟨w.heap.size, 7, none⟩ = false ∧ w'.frozen? ⟨w.heap.size, 8, none⟩ = false ∧ w'.frozen? ⟨w.heap.size, 9, none⟩ = false ∧ w'.frozen? ⟨w.heap.size, 10, none⟩ = false ∧ w'.frozen? ⟨w.heap.size, 11, none⟩ = false ∧ w'.frozen? ⟨w.heap.size, 12, none⟩ = false ∧ w'.frozen? ⟨w.heap.size, 13, none⟩ = false ∧ w'.frozen? ⟨w.heap.size, 14, none⟩ = false := by
      intro w' k5
      refine ⟨?_, ?_, ?_, ?_, ?_, ?_, ?_, ?_, ?_, ?_, ?_, ?_, ?_, ?_, ?_, ?_, ?_, ?_, ?_, ?_, ?_, ?_, ?_, ?_, ?_, ?_, ?_, ?_, ?_, ?_⟩ <;> first | exact k5.frozen _ | (rw [k5.cell]; rfl)
    have SS : ∀ w', Below w1.heap.size w1 w' → w'.cell? ⟨w.heap.size, 0, none⟩ = some (.int .i64 0) ∧ w'.cell? ⟨w.heap.size, 1, none⟩ = some (.int .i64 0) ∧ w'.cell? ⟨w.heap.size, 2, none⟩ = some (.int .i64 0) ∧ w'.cell? ⟨w.heap.size, 3, none⟩ = some (.bool false) ∧ w'.cell? ⟨w.heap.size, 4, none⟩ = some (.slice none 0 0) ∧ w'.cell? ⟨w.heap.size, 5, none⟩ = some (.int .i64 0) ∧ w'.cell? ⟨w.heap.size, 6, none⟩ = some (.bool false) ∧ w'.cell? ⟨w.heap.size, 7, none⟩ = some (.slice none 0 0) ∧ w'.cell? ⟨w.heap.size, 8, none⟩ = some (.int .i64 0) ∧ w'.cell? ⟨w.heap.size, 9, none⟩ = some (.bool false) ∧ w'.cell? ⟨w.heap.size, 10, none⟩ = some (.slice none 0 0) ∧ w'.cell? ⟨w.heap.size, 11, none⟩ = some (.int .i64 0) ∧ w'.cell? ⟨w.heap.size, 12, none⟩ = some (.bool false) ∧ w'.cell? ⟨w.heap.size, 13, none⟩ = some (.slice none 0 0) ∧ w'.cell? ⟨w.heap.size, 14, none⟩ = some (.int .i64 0) ∧ w'.frozen? ⟨w.heap.size, 0, none⟩ = false ∧ w'.frozen? ⟨w.heap.size, 1, none⟩ = false ∧ w'.frozen? ⟨w.heap.size, 2, none⟩ = false ∧ w'.frozen? ⟨w.heap.size, 3, none⟩ = false ∧ w'.frozen? ⟨w.heap.size, 4, none⟩ = false ∧ w'.frozen? ⟨w.heap.size, 5, none⟩ = false ∧ w'.frozen? ⟨w.heap.size, 6, none⟩ = false ∧ w'.frozen? ⟨w.heap.size, 7, none⟩ = false ∧ w'.frozen? ⟨w.heap.size, 8, none⟩ = false ∧ w'.frozen? ⟨w.heap.size, 9, none⟩ = false ∧ w'.frozen? ⟨w.heap.size, 10, none⟩ = false ∧ w'.frozen? ⟨w.heap.size, 11, none⟩ = false ∧ w'.frozen? ⟨w.heap.size, 12, none⟩ = false ∧ w'.frozen? ⟨w.heap.size, 13, none⟩ = false ∧ w'.frozen? ⟨w.heap.size, 14, none⟩ = false := fun w' hw => SB w' (kb1.below hw kb1.lt)
    obtain ⟨u0, u1, u2, u3, u4, u5, u6, u7, u8, u9, u10, u11, u12, u13, u14, uf0, uf1, uf2, uf3, uf4, uf5, uf6, uf7, uf8, uf9, uf10, uf11, uf12, uf13, uf14⟩ := SS w1 (Below.refl _ _)
    obtain ⟨W9, hW9⟩ : ∃ W9, W9 = (b15 w1 w.heap.size (.int .i64 0) (.int .i64 0) (.int .i64 0) (.bool false) (.slice none 0 0) (.int .i64 0) (.bool false) (.slice none 0 0) (.int .i64 0) (.bool false) (.slice none 0 0) (.int .i64 0) (.bool false) (.slice none 0 0) (.int .i64 0)) := ⟨_, rfl⟩
    have k9 : Blk W9 w.heap.size 48 #[.int .i64 0, .int .i64 0, .int .i64 0, .bool false, .slice none 0 0, .int .i64 0, .bool false, .slice none 0 0, .int .i64 0, .bool false, .slice none 0 0, .int .i64 0, .bool false, .slice none 0 0, .int .i64 0] := by rw [hW9]; exact (b15_blk kb1 rfl (.int .i64 0) (.int .i64 0) (.int .i64 0) (.bool false) (.slice none 0 0) (.int .i64 0) (.bool false) (.slice none 0 0) (.int .i64 0) (.bool false) (.slice none 0 0) (.int .i64 0) (.bool false) (.slice none 0 0) (.int .i64 0))
    have g9 : Hid (PairE w (.slice none 0 0) ([]) (zE) (zO) W9) := Lib.hid (by rw [hW9]; exact ⟨((pairC_nil w1 V.heap.size).other (by omega) (b15_other w1 _ (.int .i64 0) (.int .i64 0) (.int .i64 0) (.bool false) (.slice none 0 0) (.int .i64 0) (.bool false) (.slice none 0 0) (.int .i64 0) (.bool false) (.slice none 0 0) (.int .i64 0) (.bool false) (.slice none 0 0) (.int .i64 0))).base_le (by omega), b15_below hb1 (Nat.le_refl _) (.int .i64 0) (.int .i64 0) (.int .i64 0) (.bool false) (.slice none 0 0) (.int .i64 0) (.bool false) (.slice none 0 0) (.int .i64 0) (.bool false) (.slice none 0 0) (.int .i64 0) (.bool false) (.slice none 0 0) (.int .i64 0)⟩)
    unfold b15 at hW9
    go_wp2
    clear u0 u1 u2 u3 u4 u5 u6 u7 u8 u9 u10 u11 u12 u13 u14 uf0 uf1 uf2 uf3 uf4 uf5 uf6 uf7 uf8 uf9 uf10 uf11 uf12 uf13 uf14
    clear SS SB
    rw [← hW9]
    clear hW9
    have pu0 : W9.cell? ⟨w.heap.size, 0, none⟩ = some (.int .i64 0) := by rw [k9.cell]; rfl
    have pu1 : W9.cell? ⟨w.heap.size, 1, none⟩ = some (.int .i64 0) := by rw [k9.cell]; rfl
    have pu2 : W9.cell? ⟨w.heap.size, 2, none⟩ = some (.int .i64 0) := by rw [k9.cell]; rfl
    have pu3 : W9.cell? ⟨w.heap.size, 3, none⟩ = some (.bool false) := by rw [k9.cell]; rfl
    have pu4 : W9.cell? ⟨w.heap.size, 4, none⟩ = some (.slice none 0 0) := by rw [k9.cell]; rfl
    have pu5 : W9.cell? ⟨w.heap.size, 5, none⟩ = some (.int .i64 0) := by rw [k9.cell]; rfl
    have pu6 : W9.cell? ⟨w.heap.size, 6, none⟩ = some (.bool false) := by rw [k9.cell]; rfl
    have pu7 : W9.cell? ⟨w.heap.size, 7, none⟩ = some (.slice none 0 0) := by rw [k9.cell]; rfl
    have pu8 : W9.cell? ⟨w.heap.size, 8, none⟩ = some (.int .i64 0) := by rw [k9.cell]; rfl
    have pu9 : W9.cell? ⟨w.heap.size, 9, none⟩ = some (.bool false) := by rw [k9.cell]; rfl
    have pu10 : W9.cell? ⟨w.heap.size, 10, none⟩ = some (.slice none 0 0) := by rw [k9.cell]; rfl
    have pu11 : W9.cell? ⟨w.heap.size, 11, none⟩ = some (.int .i64 0) := by rw [k9.cell]; rfl
    have pu12 : W9.cell? ⟨w.heap.size, 12, none⟩ = some (.bool false) := by rw [k9.cell]; rfl
    have pu13 : W9.cell? ⟨w.heap.size, 13, none⟩ = some (.slice none 0 0) := by rw [k9.cell]; rfl
    have pu14 : W9.cell? ⟨w.heap.size, 14, none⟩ = some (.int .i64 0) := by rw [k9.cell]; rfl
    clear k9
    refine ⟨rfl, .tuple #[.slice none 0 0, .agg #[.int .i64 0, .int .i64 0, .int .i64 0, .bool false, .slice none 0 0, .int .i64 0, .bool false, .slice none 0 0, .int .i64 0, .bool false, .slice none 0 0, .int .i64 0, .bool false, .slice none 0 0, .int .i64 0], .int .i64 2], ?_, [], zE, zO, _, _, _, rfl, gd.out, rfl, g9.out⟩
    simp [results, Tryd.f47, go_sem, pu0, pu1, pu2, pu3, pu4, pu5, pu6, pu7, pu8, pu9, pu10, pu11, pu12, pu13, pu14]
  · exact absurd ⟨hE, hne⟩ gX.out
set_option maxRecDepth 100000 in
set_option maxHeartbeats 16000000 in
theorem down_land_none (A : Option Addr) (n c : Nat) (l : List En) (hm : n ≤ 10000) (hs1 : ∀ x ∈ l, smM x.give) (w : World) (h : Ens w w.heap.size A n l) (N : Int) (hX : ChkF l 0 ∧ (0 ≤ N ∧ N ≤ 1048575)) (hno : ∀ (j : Nat) (x : En), l[j]? = some x → x.nu ≠ N) : Calls Tryd.prog 47 #[.slice A n c, .int .i64 N, .func (.func 49) #[] #[]] w fun en w' => ∃ l' x ox v vx E, en = .returned (.tuple #[v, vx, .int .i64 E]) ∧ CmeF true l N l' x E ∧ vx = aggE ox ∧ PairE w v l' x ox w' := by
  obtain ⟨V, hV⟩ : ∃ V, V = w.alloc (.cells #[.int .i64 0, .int .i64 0, .int .i64 0, .bool false, .slice none 0 0, .int .i64 0, .bool false, .slice none 0 0, .int .i64 0, .bool false, .slice none 0 0, .int .i64 0, .bool false, .slice none 0 0, .int .i64 0] 48) := ⟨_, rfl⟩
  have hBV : Below w.heap.size w V := by rw [hV]; exact (Below.refl _ _).alloc (Nat.le_refl _) _
  have hVs : w.heap.size < V.heap.size := by rw [hV, World.size_alloc]; exact Nat.lt_succ_self _
  have kb : Blk V w.heap.size 48 #[.int .i64 0, .int .i64 0, .int .i64 0, .bool false, .slice none 0 0, .int .i64 0, .bool false, .slice none 0 0, .int .i64 0, .bool false, .slice none 0 0, .int .i64 0, .bool false, .slice none 0 0, .int .i64 0] := by rw [hV]; exact Blk.new w _ _
  have hf := found_any A n c l (by unfold maxLen; omega) V (Recs.more (Recs.below h hBV) hBV.size) N
  have gln := Lib.hid (ens_len h)
  have gh := Lib.hid h
  have gs := Lib.hid hs1
  have gX := Lib.hid hX
  have gY := Lib.hid hno
  clear hno
  clear h hs1 hX
  go_enter Tryd.func47, Tryd.ntmps47
  go_wp2_with fail
  rw [← hV]
  clear hV
  refine hf.mono ?_
  rintro en w1 ⟨a, i, E, rfl, hF, hb1'⟩
  clear hf
  have hb1 : Below w.heap.size w w1 := hBV.trans (hb1'.mono hBV.size)
  have kb1 := kb.below hb1' kb.lt
  have s1 : V.heap.size ≤ w1.heap.size := hb1'.size
  have kl1 := kb1.lt
  rcases hF with ⟨hE, hne, rfl, rfl⟩ | ⟨hE, hne, rfl, rfl, rfl⟩ | ⟨hE, hne, ⟨k, rfl, hk, rfl⟩, rfl⟩
  · exact absurd (chk_one hE gX.out.1) hne
  · exact absurd gX.out.2 hne
  · have h1 : Ens w1 w1.heap.size A n l := Recs.more (Recs.below gh.out hb1) hb1.size
    have ht := etwinS_any A n c l hm gs.out w1 h1
    have gE := Lib.hid hE
    have gn : Hid (∀ {l' x}, _ → CmeF true l N l' x 0) := Lib.hid (fun hh => .inr (.inr ⟨hE, hne, rfl, hh⟩))
    have gk := Lib.hid hk
    obtain ⟨Q, hQ⟩ : ∃ Q, isAt l N k = Q := ⟨_, rfl⟩
    rw [hQ]
    have gQ := Lib.hid hQ
    clear hE hne hk hQ h1
    go_wp2_with fail
    refine ht.mono ?_
    rintro en w2 ⟨Ao, co, rfl, hTw, hS⟩
    have hb2' := hTw.2.2.2.1
    have hb2 : Below w.heap.size w w2 := hb1.trans (hb2'.mono hb1.size)
    have s2 : w1.heap.size ≤ w2.heap.size := hb2'.size
    have kb2 := kb1.below hb2' kb1.lt
    clear ht
    cases Q with
    | false =>
      have gd : Hid (CmeF true l N l zE 0) := Lib.hid (gn.out (.inr ⟨at_none gE.out.good gk.out gQ.out, rfl, rfl⟩))
      have gP := Lib.hid (pairC_zero hTw.2.2.2.2)
      clear hTw hS
      have SB : ∀ w', Blk w' w.heap.size 48 #[.int .i64 0, .int .i64 0, .int .i64 0, .bool false, .slice none 0 0, .int .i64 0, .bool false, .slice none 0 0, .int .i64 0, .bool false, .slice none 0 0, .int .i64 0, .bool false, .slice none 0 0, .int .i64 0] → w'.cell? ⟨w.heap.size, 0, none⟩ = some (.int .i64 0) ∧ w'.cell? ⟨w.heap.size, 1, none⟩ = some (.int .i64 0) ∧ w'.cell? ⟨w.heap.size, 2, none⟩ = some (.int .i64 0) ∧ w'.cell? ⟨w.heap.size, 3, none⟩ = some (.bool false) ∧ w'.cell? ⟨w.heap.size, 4, none⟩ = some (.slice none 0 0) ∧ w'.cell? ⟨w.heap.size, 5, none⟩ = some (.int .i64 0) ∧ w'.cell? ⟨w.heap.size, 6, none⟩ = some (.bool false) ∧ w'.cell? ⟨w.heap.size, 7, none⟩ = some (.slice none 0 0) ∧ w'.cell? ⟨w.heap.size, 8, none⟩ = some (.int .i64 0) ∧ w'.cell? ⟨w.heap.size, 9, none⟩ = some (.bool false) ∧ w'.cell? ⟨w.heap.size, 10, none⟩ = some (.slice none 0 0) ∧ w'.cell? ⟨w.heap.size, 11, none⟩ = some (.int .i64 0) ∧ w'.cell? ⟨w.heap.size, 12, none⟩ = some (.bool false) ∧ w'.cell? ⟨w.heap.size, 13, none⟩ = some (.slice none 0 0) ∧ w'.cell? ⟨w.heap.size, 14, none⟩ = some (.int .i64 0) ∧ w'.frozen? ⟨w.heap.size, 0, none⟩ = false ∧ w'.frozen? ⟨w.heap.size, 1, none⟩ = false ∧ w'.frozen? ⟨w.heap.size, 2, none⟩ = false ∧ w'.frozen? ⟨w.heap.size, 3, none⟩ = false ∧ w'.frozen? ⟨w.heap.size, 4, none⟩ = false ∧ w'.frozen? ⟨w.heap.size, 5, none⟩ = false ∧ w'.frozen? ⟨w.heap.size, 6, none⟩ = false ∧ w'.frozen? ⟨w.heap.size, 7, none⟩ = false ∧ w'.frozen? ⟨w.heap.size, 8, none⟩ = false ∧ w'.frozen? ⟨w.heap.size, 9, none⟩ = false ∧ w'.frozen? ⟨w.heap.size, 10, none⟩ = false ∧ w'.frozen? ⟨w.heap.size, 11, none⟩ = false ∧ w'.frozen? ⟨w.heap.size, 12, none⟩ = false ∧ w'.frozen? ⟨w.heap.size, 13, none⟩ = false ∧ w'.frozen? ⟨w.heap.size, 14, none⟩ = false := by
        intro w' k5
        refine ⟨?_, ?_, ?_, ?_, ?_, ?_, ?_, ?_, ?_, ?_, ?_, ?_, ?_, ?_, ?_, ?_, ?_, ?_, ?_, ?_, ?_, ?_, ?_, ?_, ?_, ?_, ?_, ?_, ?_, ?_⟩ <;> first | exact k5.frozen _ | (rw [k5.cell]; rfl)
      have SS : ∀ w', Below w2.heap.size w2 w' → w'.cell? ⟨w.heap.size, 0, none⟩ = some (.int .i64 0) ∧ w'.cell? ⟨w.heap.size, 1, none⟩ = some (.int .i64 0) ∧ w'.cell? ⟨w.heap.size, 2, none⟩ = some (.int .i64 0) ∧ w'.cell? ⟨w.heap.size, 3, none⟩ = some (.bool false) ∧ w'.cell? ⟨w.heap.size, 4, none⟩ = some (.slice none 0 0) ∧ w'.cell? ⟨w.heap.size, 5, none⟩ = some (.int .i64 0) ∧ w'.cell? ⟨w.heap.size, 6, none⟩ = some (.bool false) ∧ w'.cell? ⟨w.heap.size, 7, none⟩ = some (.slice none 0 0) ∧ w'.cell? ⟨w.heap.size, 8, none⟩ = some (.int .i64 0) ∧ w'.cell? ⟨w.heap.size, 9, none⟩ = some (.bool false) ∧ w'.cell? ⟨w.heap.size, 10, none⟩ = some (.slice none 0 0) ∧ w'.cell? ⟨w.heap.size, 11, none⟩ = some (.int .i64 0) ∧ w'.cell? ⟨w.heap.size, 12, none⟩ = some (.bool false) ∧ w'.cell? ⟨w.heap.size, 13, none⟩ = some (.slice none 0 0) ∧ w'.cell? ⟨w.heap.size, 14, none⟩ = some (.int .i64 0) ∧ w'.frozen? ⟨w.heap.size, 0, none⟩ = false ∧ w'.frozen? ⟨w.heap.size, 1, none⟩ = false ∧ w'.frozen? ⟨w.heap.size, 2, none⟩ = false ∧ w'.frozen? ⟨w.heap.size, 3, none⟩ = false ∧ w'.frozen? ⟨w.heap.size, 4, none⟩ = false ∧ w'.frozen? ⟨w.heap.size, 5, none⟩ = false ∧ w'.frozen? ⟨w.heap.size, 6, none⟩ = false ∧ w'.frozen? ⟨w.heap.size, 7, none⟩ = false ∧ w'.frozen? ⟨w.heap.size, 8, none⟩ = false ∧ w'.frozen? ⟨w.heap.size, 9, none⟩ = false ∧ w'.frozen? ⟨w.heap.size, 10, none⟩ = false ∧ w'.frozen? ⟨w.heap.size, 11, none⟩ = false ∧ w'.frozen? ⟨w.heap.size, 12, none⟩ = false ∧ w'.frozen? ⟨w.heap.size, 13, none⟩ = false ∧ w'.frozen? ⟨w.heap.size, 14, none⟩ = false := fun w' hw => SB w' (kb2.below hw kb2.lt)
      obtain ⟨u0, u1, u2, u3, u4, u5, u6, u7, u8, u9, u10, u11, u12, u13, u14, uf0, uf1, uf2, uf3, uf4, uf5, uf6, uf7, uf8, uf9, uf10, uf11, uf12, uf13, uf14⟩ := SS w2 (Below.refl _ _)
      obtain ⟨W9, hW9⟩ : ∃ W9, W9 = (b15 w2 w.heap.size (.int .i64 0) (.int .i64 0) (.int .i64 0) (.bool false) (.slice none 0 0) (.int .i64 0) (.bool false) (.slice none 0 0) (.int .i64 0) (.bool false) (.slice none 0 0) (.int .i64 0) (.bool false) (.slice none 0 0) (.int .i64 0)).drew := ⟨_, rfl⟩
      have k9 : Blk W9 w.heap.size 48 #[.int .i64 0, .int .i64 0, .int .i64 0, .bool false, .slice none 0 0, .int .i64 0, .bool false, .slice none 0 0, .int .i64 0, .bool false, .slice none 0 0, .int .i64 0, .bool false, .slice none 0 0, .int .i64 0] := by rw [hW9]; exact (b15_blk kb2 rfl (.int .i64 0) (.int .i64 0) (.int .i64 0) (.bool false) (.slice none 0 0) (.int .i64 0) (.bool false) (.slice none 0 0) (.int .i64 0) (.bool false) (.slice none 0 0) (.int .i64 0) (.bool false) (.slice none 0 0) (.int .i64 0)).drew
      have g9 : Hid (PairE w (.slice Ao n co) (l) (zE) (zO) W9) := Lib.hid (by rw [hW9]; exact ⟨((gP.out.other (by omega) (b15_other w2 _ (.int .i64 0) (.int .i64 0) (.int .i64 0) (.bool false) (.slice none 0 0) (.int .i64 0) (.bool false) (.slice none 0 0) (.int .i64 0) (.bool false) (.slice none 0 0) (.int .i64 0) (.bool false) (.slice none 0 0) (.int .i64 0))).base_le (by omega)).below (Below.refl _ _).drew, (b15_below hb2 (Nat.le_refl _) (.int .i64 0) (.int .i64 0) (.int .i64 0) (.bool false) (.slice none 0 0) (.int .i64 0) (.bool false) (.slice none 0 0) (.int .i64 0) (.bool false) (.slice none 0 0) (.int .i64 0) (.bool false) (.slice none 0 0) (.int .i64 0)).drew⟩)
      unfold b15 at hW9
      go_wp2_with fail
      have S0 : (fun w' => w'.cell? ⟨w.heap.size, 0, none⟩ = some (.int .i64 0) ∧ w'.cell? ⟨w.heap.size, 1, none⟩ = some (.int .i64 0) ∧ w'.cell? ⟨w.heap.size, 2, none⟩ = some (.int .i64 0) ∧ w'.cell? ⟨w.heap.size, 3, none⟩ = some (.bool false) ∧ w'.cell? ⟨w.heap.size, 4, none⟩ = some (.slice none 0 0) ∧ w'.cell? ⟨w.heap.size, 5, none⟩ = some (.int .i64 0) ∧ w'.cell? ⟨w.heap.size, 6, none⟩ = some (.bool false) ∧ w'.cell? ⟨w.heap.size, 7, none⟩ = some (.slice none 0 0) ∧ w'.cell? ⟨w.heap.size, 8, none⟩ = some (.int .i64 0) ∧ w'.cell? ⟨w.heap.size, 9, none⟩ = some (.bool false) ∧ w'.cell? ⟨w.heap.size, 10, none⟩ = some (.slice none 0 0) ∧ w'.cell? ⟨w.heap.size, 11, none⟩ = some (.int .i64 0) ∧ w'.cell? ⟨w.heap.size, 12, none⟩ = some (.bool false) ∧ w'.cell? ⟨w.heap.size, 13, none⟩ = some (.slice none 0 0) ∧ w'.cell? ⟨w.heap.size, 14, none⟩ = some (.int .i64 0)) w2.drew := ⟨u0, u1, u2, u3, u4, u5, u6, u7, u8, u9, u10, u11, u12, u13, u14⟩
      have S9 : (fun w' => w'.cell? ⟨w.heap.size, 0, none⟩ = some (.int .i64 0) ∧ w'.cell? ⟨w.heap.size, 1, none⟩ = some (.int .i64 0) ∧ w'.cell? ⟨w.heap.size, 2, none⟩ = some (.int .i64 0) ∧ w'.cell? ⟨w.heap.size, 3, none⟩ = some (.bool false) ∧ w'.cell? ⟨w.heap.size, 4, none⟩ = some (.slice none 0 0) ∧ w'.cell? ⟨w.heap.size, 5, none⟩ = some (.int .i64 0) ∧ w'.cell? ⟨w.heap.size, 6, none⟩ = some (.bool false) ∧ w'.cell? ⟨w.heap.size, 7, none⟩ = some (.slice none 0 0) ∧ w'.cell? ⟨w.heap.size, 8, none⟩ = some (.int .i64 0) ∧ w'.cell? ⟨w.heap.size, 9, none⟩ = some (.bool false) ∧ w'.cell? ⟨w.heap.size, 10, none⟩ = some (.slice none 0 0) ∧ w'.cell? ⟨w.heap.size, 11, none⟩ = some (.int .i64 0) ∧ w'.cell? ⟨w.heap.size, 12, none⟩ = some (.bool false) ∧ w'.cell? ⟨w.heap.size, 13, none⟩ = some (.slice none 0 0) ∧ w'.cell? ⟨w.heap.size, 14, none⟩ = some (.int .i64 0)) W9 := ⟨by rw [k9.cell]; rfl, by rw [k9.cell]; rfl, by rw [k9.cell]; rfl, by rw [k9.cell]; rfl, by rw [k9.cell]; rfl, by rw [k9.cell]; rfl, by rw [k9.cell]; rfl, by rw [k9.cell]; rfl, by rw [k9.cell]; rfl, by rw [k9.cell]; rfl, by rw [k9.cell]; rfl, by rw [k9.cell]; rfl, by rw [k9.cell]; rfl, by rw [k9.cell]; rfl, by rw [k9.cell]; rfl⟩
      refine wp_region_noPanic ?_
      refine wp_region_held_drew (S := fun w' => w'.cell? ⟨w.heap.size, 0, none⟩ = some (.int .i64 0) ∧ w'.cell? ⟨w.heap.size, 1, none⟩ = some (.int .i64 0) ∧ w'.cell? ⟨w.heap.size, 2, none⟩ = some (.int .i64 0) ∧ w'.cell? ⟨w.heap.size, 3, none⟩ = some (.bool false) ∧ w'.cell? ⟨w.heap.size, 4, none⟩ = some (.slice none 0 0) ∧ w'.cell? ⟨w.heap.size, 5, none⟩ = some (.int .i64 0) ∧ w'.cell? ⟨w.heap.size, 6, none⟩ = some (.bool false) ∧ w'.cell? ⟨w.heap.size, 7, none⟩ = some (.slice none 0 0) ∧ w'.cell? ⟨w.heap.size, 8, none⟩ = some (.int .i64 0) ∧ w'.cell? ⟨w.heap.size, 9, none⟩ = some (.bool false) ∧ w'.cell? ⟨w.heap.size, 10, none⟩ = some (.slice none 0 0) ∧ w'.cell? ⟨w.heap.size, 11, none⟩ = some (.int .i64 0) ∧ w'.cell? ⟨w.heap.size, 12, none⟩ = some (.bool false) ∧ w'.cell? ⟨w.heap.size, 13, none⟩ = some (.slice none 0 0) ∧ w'.cell? ⟨w.heap.size, 14, none⟩ = some (.int .i64 0)) (by kernel_rfl) (S0) (fun hHeld => ?_)
      refine wpAnyH_take (i := 1) (oi := ?o1x2) (v := ?v1x2) ?ho1x2 (by kernel_rfl) (by kernel_rfl) (by kernel_rfl) (fun _ _ _ h => h) (Or.inl ⟨?wn1x2, ?yn1x2⟩) (by assumption) ?rest1x2
      case ho1x2 => (simp only [List.getElem?_toArray, List.getElem?_cons_zero, List.getElem?_cons_succ]; rfl)
      case wn1x2 => rfl
      case yn1x2 => (intro w hSw; (try dsimp only at hSw); go_simp; (try with_reducible rfl))
      (try simp only [Act.put, List.setIfInBounds_toArray, List.set_cons_zero, List.set_cons_succ])
      refine wpAnyH_take (i := 0) (oi := ?o0x2) (v := ?v0x2) ?ho0x2 (by kernel_rfl) (by kernel_rfl) (by kernel_rfl) (fun _ _ _ h => h) (Or.inl ⟨?wn0x2, ?yn0x2⟩) (by assumption) ?rest0x2
      case ho0x2 => (simp only [List.getElem?_toArray, List.getElem?_cons_zero, List.getElem?_cons_succ]; rfl)
      case wn0x2 => rfl
      case yn0x2 => (intro w hSw; (try dsimp only at hSw); go_simp; (try with_reducible rfl))
      (try simp only [Act.put, List.setIfInBounds_toArray, List.set_cons_zero, List.set_cons_succ])
      refine wpAnyH_take (i := 2) (oi := ?o2x2) (v := ?v2x2) ?ho2x2 (by kernel_rfl) (by kernel_rfl) (by kernel_rfl) (fun _ _ _ h => h) (Or.inl ⟨?wn2x2, ?yn2x2⟩) (by assumption) ?rest2x2
      case ho2x2 => (simp only [List.getElem?_toArray, List.getElem?_cons_zero, List.getElem?_cons_succ]; rfl)
      case wn2x2 => rfl
      case yn2x2 => (intro w hSw; (try dsimp only at hSw); go_simp; (try with_reducible rfl))
      (try simp only [Act.put, List.setIfInBounds_toArray, List.set_cons_zero, List.set_cons_succ])
      refine wpAnyH_ready (rs := [3]) (by kernel_rfl) (by simp) ?_
      refine AllReadyH.cons (o := ?o3x2) ?ho3x2 (fun K hK => ?rest3x2) AllReadyH.nil
      case ho3x2 => (simp only [List.getElem?_toArray, List.getElem?_cons_zero, List.getElem?_cons_succ]; rfl)
      go_simp
      refine hK.out _ _ (by rw [← hW9]; exact S9) (fun hHeld => ?_)
      clear hK K
      (try simp only [Act.put, List.setIfInBounds_toArray, List.set_cons_zero, List.set_cons_succ])
      refine wpAnyH_take (i := 4) (oi := ?o4x2) (v := ?v4x2) ?ho4x2 (by kernel_rfl) (by kernel_rfl) (by kernel_rfl) (fun _ _ _ h => h) (Or.inl ⟨?wn4x2, ?yn4x2⟩) (by assumption) ?rest4x2
      case ho4x2 => (simp only [List.getElem?_toArray, List.getElem?_cons_zero, List.getElem?_cons_succ]; rfl)
      case wn4x2 => rfl
      case yn4x2 => (intro w hSw; (try dsimp only at hSw); go_simp; (try with_reducible rfl))
      (try simp only [Act.put, List.setIfInBounds_toArray, List.set_cons_zero, List.set_cons_succ])
      refine wpAnyH_done (by kernel_rfl) ?_ _
      refine NoPanic.normal ?_
      clear u0 u1 u2 u3 u4 u5 u6 u7 u8 u9 u10 u11 u12 u13 u14 uf0 uf1 uf2 uf3 uf4 uf5 uf6 uf7 uf8 uf9 uf10 uf11 uf12 uf13 uf14
      clear SS SB S0 S9
      rw [← hW9]
      clear hW9
      go_wp2
      have pu0 : W9.cell? ⟨w.heap.size, 0, none⟩ = some (.int .i64 0) := by rw [k9.cell]; rfl
      have pu1 : W9.cell? ⟨w.heap.size, 1, none⟩ = some (.int .i64 0) := by rw [k9.cell]; rfl
      have pu2 : W9.cell? ⟨w.heap.size, 2, none⟩ = some (.int .i64 0) := by rw [k9.cell]; rfl
      have pu3 : W9.cell? ⟨w.heap.size, 3, none⟩ = some (.bool false) := by rw [k9.cell]; rfl
      have pu4 : W9.cell? ⟨w.heap.size, 4, none⟩ = some (.slice none 0 0) := by rw [k9.cell]; rfl
      have pu5 : W9.cell? ⟨w.heap.size, 5, none⟩ = some (.int .i64 0) := by rw [k9.cell]; rfl
      have pu6 : W9.cell? ⟨w.heap.size, 6, none⟩ = some (.bool false) := by rw [k9.cell]; rfl
      have pu7 : W9.cell? ⟨w.heap.size, 7, none⟩ = some (.slice none 0 0) := by rw [k9.cell]; rfl
      have pu8 : W9.cell? ⟨w.heap.size, 8, none⟩ = some (.int .i64 0) := by rw [k9.cell]; rfl
      have pu9 : W9.cell? ⟨w.heap.size, 9, none⟩ = some (.bool false) := by rw [k9.cell]; rfl
      have pu10 : W9.cell? ⟨w.heap.size, 10, none⟩ = some (.slice none 0 0) := by rw [k9.cell]; rfl
      have pu11 : W9.cell? ⟨w.heap.size, 11, none⟩ = some (.int .i64 0) := by rw [k9.cell]; rfl
      have pu12 : W9.cell? ⟨w.heap.size, 12, none⟩ = some (.bool false) := by rw [k9.cell]; rfl
      have pu13 : W9.cell? ⟨w.heap.size, 13, none⟩ = some (.slice none 0 0) := by rw [k9.cell]; rfl
      have pu14 : W9.cell? ⟨w.heap.size, 14, none⟩ = some (.int .i64 0) := by rw [k9.cell]; rfl
      clear k9
      refine ⟨rfl, .tuple #[.slice Ao n co, .agg #[.int .i64 0, .int .i64 0, .int .i64 0, .bool false, .slice none 0 0, .int .i64 0, .bool false, .slice none 0 0, .int .i64 0, .bool false, .slice none 0 0, .int .i64 0, .bool false, .slice none 0 0, .int .i64 0], .int .i64 0], ?_, l, zE, zO, _, _, _, rfl, gd.out, rfl, g9.out⟩
      simp [results, Tryd.f47, go_sem, pu0, pu1, pu2, pu3, pu4, pu5, pu6, pu7, pu8, pu9, pu10, pu11, pu12, pu13, pu14]
    | true =>
      obtain ⟨x, hx, hxn⟩ := at_some gQ.out
      exact absurd hxn (gY.out _ _ hx)
set_option maxRecDepth 100000 in
set_option maxHeartbeats 16000000 in
theorem down_land_some (A : Option Addr) (n c : Nat) (l : List En) (hm : n ≤ 10000) (hs1 : ∀ x ∈ l, smM x.give) (w : World) (h : Ens w w.heap.size A n l) (N : Int) (hX : ChkF l 0 ∧ (0 ≤ N ∧ N ≤ 1048575)) (hyes : ∃ (j : Nat) (x : En), l[j]? = some x ∧ x.nu = N) : Calls Tryd.prog 47 #[.slice A n c, .int .i64 N, .func (.func 49) #[] #[]] w fun en w' => ∃ l' x ox v vx E, en = .returned (.tuple #[v, vx, .int .i64 E]) ∧ CmeF true l N l' x E ∧ vx = aggE ox ∧ PairE w v l' x ox w' := by
  obtain ⟨V, hV⟩ : ∃ V, V = w.alloc (.cells #[.int .i64 0, .int .i64 0, .int .i64 0, .bool false, .slice none 0 0, .int .i64 0, .bool false, .slice none 0 0, .int .i64 0, .bool false, .slice none 0 0, .int .i64 0, .bool false, .slice none 0 0, .int .i64 0] 48) := ⟨_, rfl⟩
  have hBV : Below w.heap.size w V := by rw [hV]; exact (Below.refl _ _).alloc (Nat.le_refl _) _
  have hVs : w.heap.size < V.heap.size := by rw [hV, World.size_alloc]; exact Nat.lt_succ_self _
  have kb : Blk V w.heap.size 48 #[.int .i64 0, .int .i64 0, .int .i64 0, .bool false, .slice none 0 0, .int .i64 0, .bool false, .slice none 0 0, .int .i64 0, .bool false, .slice none 0 0, .int .i64 0, .bool false, .slice none 0 0, .int .i64 0] := by rw [hV]; exact Blk.new w _ _
  have hf := found_any A n c l (by unfold maxLen; omega) V (Recs.more (Recs.below h hBV) hBV.size) N
  have gln := Lib.hid (ens_len h)
  have gh := Lib.hid h
  have gs := Lib.hid hs1
  have gX := Lib.hid hX
  have gY := Lib.hid hyes
  clear hyes
  clear h hs1 hX
  go_enter Tryd.func47, Tryd.ntmps47
  go_wp2_with fail
  rw [← hV]
  clear hV
  refine hf.mono ?_
  rintro en w1 ⟨a, i, E, rfl, hF, hb1'⟩
  clear hf
  have hb1 : Below w.heap.size w w1 := hBV.trans (hb1'.mono hBV.size)
  have kb1 := kb.below hb1' kb.lt
  have s1 : V.heap.size ≤ w1.heap.size := hb1'.size
  have kl1 := kb1.lt
  rcases hF with ⟨hE, hne, rfl, rfl⟩ | ⟨hE, hne, rfl, rfl, rfl⟩ | ⟨hE, hne, ⟨k, rfl, hk, rfl⟩, rfl⟩
  · exact absurd (chk_one hE gX.out.1) hne
  · exact absurd gX.out.2 hne
  · have h1 : Ens w1 w1.heap.size A n l := Recs.more (Recs.below gh.out hb1) hb1.size
    have ht := etwinS_any A n c l hm gs.out w1 h1
    have gE := Lib.hid hE
    have gn : Hid (∀ {l' x}, _ → CmeF true l N l' x 0) := Lib.hid (fun hh => .inr (.inr ⟨hE, hne, rfl, hh⟩))
    have gk := Lib.hid hk
    obtain ⟨Q, hQ⟩ : ∃ Q, isAt l N k = Q := ⟨_, rfl⟩
    rw [hQ]
    have gQ := Lib.hid hQ
    clear hE hne hk hQ h1
    go_wp2_with fail
    refine ht.mono ?_
    rintro en w2 ⟨Ao, co, rfl, hTw, hS⟩
    have hb2' := hTw.2.2.2.1
    have hb2 : Below w.heap.size w w2 := hb1.trans (hb2'.mono hb1.size)
    have s2 : w1.heap.size ≤ w2.heap.size := hb2'.size
    have kb2 := kb1.below hb2' kb1.lt
    clear ht
    cases Q with
    | false =>
      obtain ⟨j, x, hx, hxn⟩ := gY.out
      exact absurd hxn (at_none gE.out.good gk.out gQ.out _ _ hx)
    | true =>
      obtain ⟨x, hx, hxn⟩ := at_some gQ.out
      have hlt : k < n := by rw [← gln.out]; exact (List.getElem?_eq_some_iff.1 hx).1
      obtain ⟨os, hos, hown, hoE, hsep⟩ := hS
      have hol : os.length = n := by rw [← gln.out, ← hos, List.length_map]
      obtain ⟨o, hok⟩ : ∃ o, os[k]? = some o := ⟨_, List.getElem?_eq_getElem (by omega)⟩
      have hox : o.x = x := by rw [← hos, List.getElem?_map, hok] at hx; injection hx
      obtain ⟨g, cap, cur, hv, hbg, hh, hnc, hcm, hcs, htk⟩ : ∃ g cap cur, (Value.slice Ao n co) = .slice (some ⟨g, 0, none⟩) n cap ∧ w1.heap.size ≤ g ∧ Blk w2 g 48 cur ∧ n ≤ cap ∧ cap ≤ maxLen ∧ cur.size = cap * 15 ∧ cur.toList.take (n * 15) = os.flatMap row15 := by
        rcases hown.2 with ⟨_, h⟩ | ⟨g, cap, cur, h1, h2, h3, h4, h5, h6, h7⟩
        · omega
        · exact ⟨g, cap, cur, h1, h2, h3, h4, h5, h6, h7⟩
      injection hv with hA _ hcc
      subst hA hcc
      have hcell : ∀ j v, (row15 o)[j]? = some v → j < 15 → w2.cell? ⟨g, k * 15 + j, none⟩ = some v := by
        intro j v hv hj
        have h5 := flat15_at os k j o v hok hv hj
        rw [← htk, List.getElem?_take] at h5
        rw [hh.cell]
        split at h5
        · simpa using h5
        · cases h5
      obtain ⟨⟨nu, ep, cp, ⟨⟨ag0, l0, ae0⟩, ⟨ag1, l1, ae1⟩, ⟨ag2, l2, ae2⟩, ⟨ag3, l3, ae3⟩⟩⟩, X0, c0, X1, c1, X2, c2, X3, c3⟩ := o
      subst hox
      have hcp := gE.out.good k _ hx
      have d1 : 1 ≤ cp := hcp.2.2.2.2.1
      have d2 : cp ≤ 16 := hcp.2.2.2.2.2.1
      have gx := Lib.hid hx
      have gxn := Lib.hid hxn
      have gho := Lib.hid (And.intro hok (And.intro hos (And.intro hown (And.intro hoE (And.intro hsep hTw.2.2.2.2)))))
      have hp : (⟨g, 0, none⟩ : Addr).add (k * 15) = ⟨g, k * 15, none⟩ := by unfold Addr.add; split <;> simp_all
      have i1 : (0 : Int) ≤ k := by omega
      have i2 : (k : Int) < n := by omega
      have a0 : w2.cell? ⟨g, k * 15, none⟩ = some (.int .i64 nu) := hcell 0 _ rfl (by omega)
      have a1 : w2.cell? ⟨g, k * 15 + 1, none⟩ = some (.int .i64 ep) := hcell 1 _ rfl (by omega)
      have a2 : w2.cell? ⟨g, k * 15 + 2, none⟩ = some (.int .i64 cp) := hcell 2 _ rfl (by omega)
      have a3 : w2.cell? ⟨g, k * 15 + 3, none⟩ = some (.bool ag0) := hcell 3 _ rfl (by omega)
      have a4 : w2.cell? ⟨g, k * 15 + 4, none⟩ = some (.slice X0 l0.length c0) := hcell 4 _ rfl (by omega)
      have a5 : w2.cell? ⟨g, k * 15 + 5, none⟩ = some (.int .i64 ae0) := hcell 5 _ rfl (by omega)
      have a6 : w2.cell? ⟨g, k * 15 + 6, none⟩ = some (.bool ag1) := hcell 6 _ rfl (by omega)
      have a7 : w2.cell? ⟨g, k * 15 + 7, none⟩ = some (.slice X1 l1.length c1) := hcell 7 _ rfl (by omega)
      have a8 : w2.cell? ⟨g, k * 15 + 8, none⟩ = some (.int .i64 ae1) := hcell 8 _ rfl (by omega)
      have a9 : w2.cell? ⟨g, k * 15 + 9, none⟩ = some (.bool ag2) := hcell 9 _ rfl (by omega)
      have a10 : w2.cell? ⟨g, k * 15 + 10, none⟩ = some (.slice X2 l2.length c2) := hcell 10 _ rfl (by omega)
      have a11 : w2.cell? ⟨g, k * 15 + 11, none⟩ = some (.int .i64 ae2) := hcell 11 _ rfl (by omega)
      have a12 : w2.cell? ⟨g, k * 15 + 12, none⟩ = some (.bool ag3) := hcell 12 _ rfl (by omega)
      have a13 : w2.cell? ⟨g, k * 15 + 13, none⟩ = some (.slice X3 l3.length c3) := hcell 13 _ rfl (by omega)
      have a14 : w2.cell? ⟨g, k * 15 + 14, none⟩ = some (.int .i64 ae3) := hcell 14 _ rfl (by omega)
      have hgl := hh.lt
      clear hTw hos hown hoE hsep hol hok hx hxn htk hcs hcm hcp hcell
      have hn10 : n ≤ 1000 := by
        rcases gE.out.has with ⟨h, _⟩ | ⟨_, h, _⟩ | ⟨h, _⟩
        · cases h
        · have := gln.out; omega
        · cases h
      have gq : Hid (true = true ∨ cp = 1) := Lib.hid (.inl rfl)
      have hcl := land1 nu ep cp ag0 X0 l0.length c0 ae0 ag1 X1 l1.length c1 ae1 ag2 X2 l2.length c2 ae2 ag3 X3 l3.length c3 ae3 w2
      go_wp2_with fail
      refine hcl.mono ?_
      rintro en w3 ⟨rfl, hb3'⟩
      clear hcl
      have hb3 : Below w.heap.size w w3 := hb2.trans (hb3'.mono hb2.size)
      have s3 : w2.heap.size ≤ w3.heap.size := hb3'.size
      have kb3 := kb2.below hb3' kb2.lt
      have hh3 := hh.below hb3' hgl
      replace a0 := (hb3'.cell (p := ⟨g, k * 15, none⟩) hgl).trans a0
      replace a1 := (hb3'.cell (p := ⟨g, k * 15 + 1, none⟩) hgl).trans a1
      replace a2 := (hb3'.cell (p := ⟨g, k * 15 + 2, none⟩) hgl).trans a2
      replace a3 := (hb3'.cell (p := ⟨g, k * 15 + 3, none⟩) hgl).trans a3
      replace a4 := (hb3'.cell (p := ⟨g, k * 15 + 4, none⟩) hgl).trans a4
      replace a5 := (hb3'.cell (p := ⟨g, k * 15 + 5, none⟩) hgl).trans a5
      replace a6 := (hb3'.cell (p := ⟨g, k * 15 + 6, none⟩) hgl).trans a6
      replace a7 := (hb3'.cell (p := ⟨g, k * 15 + 7, none⟩) hgl).trans a7
      replace a8 := (hb3'.cell (p := ⟨g, k * 15 + 8, none⟩) hgl).trans a8
      replace a9 := (hb3'.cell (p := ⟨g, k * 15 + 9, none⟩) hgl).trans a9
      replace a10 := (hb3'.cell (p := ⟨g, k * 15 + 10, none⟩) hgl).trans a10
      replace a11 := (hb3'.cell (p := ⟨g, k * 15 + 11, none⟩) hgl).trans a11
      replace a12 := (hb3'.cell (p := ⟨g, k * 15 + 12, none⟩) hgl).trans a12
      replace a13 := (hb3'.cell (p := ⟨g, k * 15 + 13, none⟩) hgl).trans a13
      replace a14 := (hb3'.cell (p := ⟨g, k * 15 + 14, none⟩) hgl).trans a14
      have SB : ∀ w', Blk w' w.heap.size 48 #[.int .i64 0, .int .i64 0, .int .i64 0, .bool false, .slice none 0 0, .int .i64 0, .bool false, .slice none 0 0, .int .i64 0, .bool false, .slice none 0 0, .int .i64 0, .bool false, .slice none 0 0, .int .i64 0] → w'.cell? ⟨w.heap.size, 0, none⟩ = some (.int .i64 0) ∧ w'.cell? ⟨w.heap.size, 1, none⟩ = some (.int .i64 0) ∧ w'.cell? ⟨w.heap.size, 2, none⟩ = some (.int .i64 0) ∧ w'.cell? ⟨w.heap.size, 3, none⟩ = some (.bool false) ∧ w'.cell? ⟨w.heap.size, 4, none⟩ = some (.slice none 0 0) ∧ w'.cell? ⟨w.heap.size, 5, none⟩ = some (.int .i64 0) ∧ w'.cell? ⟨w.heap.size, 6, none⟩ = some (.bool false) ∧ w'.cell? ⟨w.heap.size, 7, none⟩ = some (.slice none 0 0) ∧ w'.cell? ⟨w.heap.size, 8, none⟩ = some (.int .i64 0) ∧ w'.cell? ⟨w.heap.size, 9, none⟩ = some (.bool false) ∧ w'.cell? ⟨w.heap.size, 10, none⟩ = some (.slice none 0 0) ∧ w'.cell? ⟨w.heap.size, 11, none⟩ = some (.int .i64 0) ∧ w'.cell? ⟨w.heap.size, 12, none⟩ = some (.bool false) ∧ w'.cell? ⟨w.heap.size, 13, none⟩ = some (.slice none 0 0) ∧ w'.cell? ⟨w.heap.size, 14, none⟩ = some (.int .i64 0) ∧ w'.frozen? ⟨w.heap.size, 0, none⟩ = false ∧ w'.frozen? ⟨w.heap.size, 1, none⟩ = false ∧ w'.frozen? ⟨w.heap.size, 2, none⟩ = false ∧ w'.frozen? ⟨w.heap.size, 3, none⟩ = false ∧ w'.frozen? ⟨w.heap.size, 4, none⟩ = false ∧ w'.frozen? ⟨w.heap.size, 5, none⟩ = false ∧ w'.frozen? ⟨w.heap.size, 6, none⟩ = false ∧ w'.frozen? ⟨w.heap.size, 7, none⟩ = false ∧ w'.frozen? ⟨w.heap.size, 8, none⟩ = false ∧ w'.frozen? ⟨w.heap.size, 9, none⟩ = false ∧ w'.frozen? ⟨w.heap.size, 10, none⟩ = false ∧ w'.frozen? ⟨w.heap.size, 11, none⟩ = false ∧ w'.frozen? ⟨w.heap.size, 12, none⟩ = false ∧ w'.frozen? ⟨w.heap.size, 13, none⟩ = false ∧ w'.frozen? ⟨w.heap.size, 14, none⟩ = false := by
        intro w' k5
        refine ⟨?_, ?_, ?_, ?_, ?_, ?_, ?_, ?_, ?_, ?_, ?_, ?_, ?_, ?_, ?_, ?_, ?_, ?_, ?_, ?_, ?_, ?_, ?_, ?_, ?_, ?_, ?_, ?_, ?_, ?_⟩ <;> first | exact k5.frozen _ | (rw [k5.cell]; rfl)
      have SS : ∀ w', Below w3.heap.size w3 w' → w'.cell? ⟨w.heap.size, 0, none⟩ = some (.int .i64 0) ∧ w'.cell? ⟨w.heap.size, 1, none⟩ = some (.int .i64 0) ∧ w'.cell? ⟨w.heap.size, 2, none⟩ = some (.int .i64 0) ∧ w'.cell? ⟨w.heap.size, 3, none⟩ = some (.bool false) ∧ w'.cell? ⟨w.heap.size, 4, none⟩ = some (.slice none 0 0) ∧ w'.cell? ⟨w.heap.size, 5, none⟩ = some (.int .i64 0) ∧ w'.cell? ⟨w.heap.size, 6, none⟩ = some (.bool false) ∧ w'.cell? ⟨w.heap.size, 7, none⟩ = some (.slice none 0 0) ∧ w'.cell? ⟨w.heap.size, 8, none⟩ = some (.int .i64 0) ∧ w'.cell? ⟨w.heap.size, 9, none⟩ = some (.bool false) ∧ w'.cell? ⟨w.heap.size, 10, none⟩ = some (.slice none 0 0) ∧ w'.cell? ⟨w.heap.size, 11, none⟩ = some (.int .i64 0) ∧ w'.cell? ⟨w.heap.size, 12, none⟩ = some (.bool false) ∧ w'.cell? ⟨w.heap.size, 13, none⟩ = some (.slice none 0 0) ∧ w'.cell? ⟨w.heap.size, 14, none⟩ = some (.int .i64 0) ∧ w'.frozen? ⟨w.heap.size, 0, none⟩ = false ∧ w'.frozen? ⟨w.heap.size, 1, none⟩ = false ∧ w'.frozen? ⟨w.heap.size, 2, none⟩ = false ∧ w'.frozen? ⟨w.heap.size, 3, none⟩ = false ∧ w'.frozen? ⟨w.heap.size, 4, none⟩ = false ∧ w'.frozen? ⟨w.heap.size, 5, none⟩ = false ∧ w'.frozen? ⟨w.heap.size, 6, none⟩ = false ∧ w'.frozen? ⟨w.heap.size, 7, none⟩ = false ∧ w'.frozen? ⟨w.heap.size, 8, none⟩ = false ∧ w'.frozen? ⟨w.heap.size, 9, none⟩ = false ∧ w'.frozen? ⟨w.heap.size, 10, none⟩ = false ∧ w'.frozen? ⟨w.heap.size, 11, none⟩ = false ∧ w'.frozen? ⟨w.heap.size, 12, none⟩ = false ∧ w'.frozen? ⟨w.heap.size, 13, none⟩ = false ∧ w'.frozen? ⟨w.heap.size, 14, none⟩ = false := fun w' hw => SB w' (kb3.below hw kb3.lt)
      obtain ⟨u0, u1, u2, u3, u4, u5, u6, u7, u8, u9, u10, u11, u12, u13, u14, uf0, uf1, uf2, uf3, uf4, uf5, uf6, uf7, uf8, uf9, uf10, uf11, uf12, uf13, uf14⟩ := SS w3 (Below.refl _ _)
      clear SS SB
      have gd : Hid (CmeF true l N (l.take k ++ l.drop (k + 1)) (⟨nu, ep, cp, ⟨⟨ag0, l0, ae0⟩, ⟨ag1, l1, ae1⟩, ⟨ag2, l2, ae2⟩, ⟨ag3, l3, ae3⟩⟩⟩ : En) 0) := Lib.hid (gn.out (.inl ⟨k, _, gx.out, gxn.out, .inl ⟨gq.out, rfl, rfl⟩⟩))
      obtain ⟨V4, hV4⟩ : ∃ V4, V4 = b15 w3 w.heap.size (.int .i64 nu) (.int .i64 ep) (.int .i64 cp) (.bool ag0) (.slice X0 l0.length c0) (.int .i64 ae0) (.bool ag1) (.slice X1 l1.length c1) (.int .i64 ae1) (.bool ag2) (.slice X2 l2.length c2) (.int .i64 ae2) (.bool ag3) (.slice X3 l3.length c3) (.int .i64 ae3) := ⟨_, rfl⟩
      have kb4 : Blk V4 w.heap.size 48 #[.int .i64 nu, .int .i64 ep, .int .i64 cp, .bool ag0, .slice X0 l0.length c0, .int .i64 ae0, .bool ag1, .slice X1 l1.length c1, .int .i64 ae1, .bool ag2, .slice X2 l2.length c2, .int .i64 ae2, .bool ag3, .slice X3 l3.length c3, .int .i64 ae3] := by rw [hV4]; exact b15_blk kb3 rfl (.int .i64 nu) (.int .i64 ep) (.int .i64 cp) (.bool ag0) (.slice X0 l0.length c0) (.int .i64 ae0) (.bool ag1) (.slice X1 l1.length c1) (.int .i64 ae1) (.bool ag2) (.slice X2 l2.length c2) (.int .i64 ae2) (.bool ag3) (.slice X3 l3.length c3) (.int .i64 ae3)
      have hb4 : Below w.heap.size w V4 := by rw [hV4]; exact b15_below hb3 (Nat.le_refl _) (.int .i64 nu) (.int .i64 ep) (.int .i64 cp) (.bool ag0) (.slice X0 l0.length c0) (.int .i64 ae0) (.bool ag1) (.slice X1 l1.length c1) (.int .i64 ae1) (.bool ag2) (.slice X2 l2.length c2) (.int .i64 ae2) (.bool ag3) (.slice X3 l3.length c3) (.int .i64 ae3)
      have s4 : V4.heap.size = w3.heap.size := by rw [hV4]; exact b15_size w3 w.heap.size (.int .i64 nu) (.int .i64 ep) (.int .i64 cp) (.bool ag0) (.slice X0 l0.length c0) (.int .i64 ae0) (.bool ag1) (.slice X1 l1.length c1) (.int .i64 ae1) (.bool ag2) (.slice X2 l2.length c2) (.int .i64 ae2) (.bool ag3) (.slice X3 l3.length c3) (.int .i64 ae3)
      have ho4 : ∀ k, k ≠ w.heap.size → V4.heap[k]? = w3.heap[k]? := by rw [hV4]; exact b15_other w3 w.heap.size (.int .i64 nu) (.int .i64 ep) (.int .i64 cp) (.bool ag0) (.slice X0 l0.length c0) (.int .i64 ae0) (.bool ag1) (.slice X1 l1.length c1) (.int .i64 ae1) (.bool ag2) (.slice X2 l2.length c2) (.int .i64 ae2) (.bool ag3) (.slice X3 l3.length c3) (.int .i64 ae3)
      have hown4 := own_other (own_below gho.out.2.2.1 hb3') (by omega) ho4
      have hdl := edelete_any w1.heap.size n co k g _ hn10 hlt V4 hown4
      have w9 : IntKind.i64.wrap ((k : Int) + 1) = (k : Int) + 1 := IntWalk.i64_in _ (by omega)
      unfold b15 at hV4
      clear hown4
      go_wp2_with fail
      rw [← hV4]
      clear hV4
      refine hdl.mono ?_
      rintro en w5 ⟨rfl, hown5, hb5', hO5⟩
      have hb5 : Below w.heap.size w w5 := hb4.trans (hb5'.mono (by omega))
      have s5 : V4.heap.size ≤ w5.heap.size := hb5'.size
      have kb5 : Blk w5 w.heap.size 48 #[.int .i64 nu, .int .i64 ep, .int .i64 cp, .bool ag0, .slice X0 l0.length c0, .int .i64 ae0, .bool ag1, .slice X1 l1.length c1, .int .i64 ae1, .bool ag2, .slice X2 l2.length c2, .int .i64 ae2, .bool ag3, .slice X3 l3.length c3, .int .i64 ae3] := kb4.below hb5' (by omega)
      have gP : Hid (PairC w1.heap.size (.slice (some ⟨g, 0, none⟩) (n - 1) co) (l.take k ++ l.drop (k + 1)) (⟨nu, ep, cp, ⟨⟨ag0, l0, ae0⟩, ⟨ag1, l1, ae1⟩, ⟨ag2, l2, ae2⟩, ⟨ag3, l3, ae3⟩⟩⟩ : En) (⟨⟨nu, ep, cp, ⟨⟨ag0, l0, ae0⟩, ⟨ag1, l1, ae1⟩, ⟨ag2, l2, ae2⟩, ⟨ag3, l3, ae3⟩⟩⟩, X0, c0, X1, c1, X2, c2, X3, c3⟩ : EO) w5) := Lib.hid (by
        obtain ⟨q1, q2, q3, q4, q5, _⟩ := gho.out
        refine ⟨_, _, _, _, rfl, by rw [List.map_append, List.map_take, List.map_drop, q2], rfl, hown5, fun o ho => ?_, ?_, sep_apart q5 q1⟩
        · refine (((q4 o ?_).map (fun h => h.below hb3')).other (by omega) ho4).oth hO5
          rcases List.mem_append.1 ho with h | h
          · exact List.mem_of_mem_take h
          · exact List.mem_of_mem_drop h
        · exact (((q4 _ (List.mem_of_getElem? q1)).map (fun h => h.below hb3')).other (by omega) ho4).oth hO5)
      clear u0 u1 u2 u3 u4 u5 u6 u7 u8 u9 u10 u11 u12 u13 u14 uf0 uf1 uf2 uf3 uf4 uf5 uf6 uf7 uf8 uf9 uf10 uf11 uf12 uf13 uf14
      clear hdl hown5 hO5 hb5' hh3 ho4 hb4 kb4 kb3 kb2 kb1 hh a0 a1 a2 a3 a4 a5 a6 a7 a8 a9 a10 a11 a12 a13 a14
      have SB : ∀ w', Blk w' w.heap.size 48 #[.int .i64 nu, .int .i64 ep, .int .i64 cp, .bool ag0, .slice X0 l0.length c0, .int .i64 ae0, .bool ag1, .slice X1 l1.length c1, .int .i64 ae1, .bool ag2, .slice X2 l2.length c2, .int .i64 ae2, .bool ag3, .slice X3 l3.length c3, .int .i64 ae3] → w'.cell? ⟨w.heap.size, 0, none⟩ = some (.int .i64 nu) ∧ w'.cell? ⟨w.heap.size, 1, none⟩ = some (.int .i64 ep) ∧ w'.cell? ⟨w.heap.size, 2, none⟩ = some (.int .i64 cp) ∧ w'.cell? ⟨w.heap.size, 3, none⟩ = some (.bool ag0) ∧ w'.cell? ⟨w.heap.size, 4, none⟩ = some (.slice X0 l0.length c0) ∧ w'.cell? ⟨w.heap.size, 5, none⟩ = some (.int .i64 ae0) ∧ w'.cell? ⟨w.heap.size, 6, none⟩ = some (.bool ag1) ∧ w'.cell? ⟨w.heap.size, 7, none⟩ = some (.slice X1 l1.length c1) ∧ w'.cell? ⟨w.heap.size, 8, none⟩ = some (.int .i64 ae1) ∧ w'.cell? ⟨w.heap.size, 9, none⟩ = some (.bool ag2) ∧ w'.cell? ⟨w.heap.size, 10, none⟩ = some (.slice X2 l2.length c2) ∧ w'.cell? ⟨w.heap.size, 11, none⟩ = some (.int .i64 ae2) ∧ w'.cell? ⟨w.heap.size, 12, none⟩ = some (.bool ag3) ∧ w'.cell? ⟨w.heap.size, 13, none⟩ = some (.slice X3 l3.length c3) ∧ w'.cell? ⟨w.heap.size, 14, none⟩ = some (.int .i64 ae3) ∧ w'.frozen? ⟨w.heap.size, 0, none⟩ = false ∧ w'.frozen? ⟨w.heap.size, 1, none⟩ = false ∧ w'.frozen? ⟨w.heap.size, 2, none⟩ = false ∧ w'.frozen? ⟨w.heap.size, 3, none⟩ = false ∧ w'.frozen? ⟨w.heap.size, 4, none⟩ = false ∧ w'.frozen? ⟨w.heap.size, 5, none⟩ = false ∧ w'.frozen? ⟨w.heap.size, 6, none⟩ = false ∧ w'.frozen? ⟨w.heap.size, 7, none⟩ = false ∧ w'.frozen? ⟨w.heap.size, 8, none⟩ = false ∧ w'.frozen? ⟨w.heap.size, 9, none⟩ = false ∧ w'.frozen? ⟨w.heap.size, 10, none⟩ = false ∧ w'.frozen? ⟨w.heap.size, 11, none⟩ = false ∧ w'.frozen? ⟨w.heap.size, 12, none⟩ = false ∧ w'.frozen? ⟨w.heap.size, 13, none⟩ = false ∧ w'.frozen? ⟨w.heap.size, 14, none⟩ = false := by
        intro w' k5
        refine ⟨?_, ?_, ?_, ?_, ?_, ?_, ?_, ?_, ?_, ?_, ?_, ?_, ?_, ?_, ?_, ?_, ?_, ?_, ?_, ?_, ?_, ?_, ?_, ?_, ?_, ?_, ?_, ?_, ?_, ?_⟩ <;> first | exact k5.frozen _ | (rw [k5.cell]; rfl)
      have SS : ∀ w', Below w5.heap.size w5 w' → w'.cell? ⟨w.heap.size, 0, none⟩ = some (.int .i64 nu) ∧ w'.cell? ⟨w.heap.size, 1, none⟩ = some (.int .i64 ep) ∧ w'.cell? ⟨w.heap.size, 2, none⟩ = some (.int .i64 cp) ∧ w'.cell? ⟨w.heap.size, 3, none⟩ = some (.bool ag0) ∧ w'.cell? ⟨w.heap.size, 4, none⟩ = some (.slice X0 l0.length c0) ∧ w'.cell? ⟨w.heap.size, 5, none⟩ = some (.int .i64 ae0) ∧ w'.cell? ⟨w.heap.size, 6, none⟩ = some (.bool ag1) ∧ w'.cell? ⟨w.heap.size, 7, none⟩ = some (.slice X1 l1.length c1) ∧ w'.cell? ⟨w.heap.size, 8, none⟩ = some (.int .i64 ae1) ∧ w'.cell? ⟨w.heap.size, 9, none⟩ = some (.bool ag2) ∧ w'.cell? ⟨w.heap.size, 10, none⟩ = some (.slice X2 l2.length c2) ∧ w'.cell? ⟨w.heap.size, 11, none⟩ = some (.int .i64 ae2) ∧ w'.cell? ⟨w.heap.size, 12, none⟩ = some (.bool ag3) ∧ w'.cell? ⟨w.heap.size, 13, none⟩ = some (.slice X3 l3.length c3) ∧ w'.cell? ⟨w.heap.size, 14, none⟩ = some (.int .i64 ae3) ∧ w'.frozen? ⟨w.heap.size, 0, none⟩ = false ∧ w'.frozen? ⟨w.heap.size, 1, none⟩ = false ∧ w'.frozen? ⟨w.heap.size, 2, none⟩ = false ∧ w'.frozen? ⟨w.heap.size, 3, none⟩ = false ∧ w'.frozen? ⟨w.heap.size, 4, none⟩ = false ∧ w'.frozen? ⟨w.heap.size, 5, none⟩ = false ∧ w'.frozen? ⟨w.heap.size, 6, none⟩ = false ∧ w'.frozen? ⟨w.heap.size, 7, none⟩ = false ∧ w'.frozen? ⟨w.heap.size, 8, none⟩ = false ∧ w'.frozen? ⟨w.heap.size, 9, none⟩ = false ∧ w'.frozen? ⟨w.heap.size, 10, none⟩ = false ∧ w'.frozen? ⟨w.heap.size, 11, none⟩ = false ∧ w'.frozen? ⟨w.heap.size, 12, none⟩ = false ∧ w'.frozen? ⟨w.heap.size, 13, none⟩ = false ∧ w'.frozen? ⟨w.heap.size, 14, none⟩ = false := fun w' hw => SB w' (kb5.below hw kb5.lt)
      obtain ⟨u0, u1, u2, u3, u4, u5, u6, u7, u8, u9, u10, u11, u12, u13, u14, uf0, uf1, uf2, uf3, uf4, uf5, uf6, uf7, uf8, uf9, uf10, uf11, uf12, uf13, uf14⟩ := SS w5 (Below.refl _ _)
      obtain ⟨W9, hW9⟩ : ∃ W9, W9 = (b15 w5 w.heap.size (.int .i64 nu) (.int .i64 ep) (.int .i64 cp) (.bool ag0) (.slice X0 l0.length c0) (.int .i64 ae0) (.bool ag1) (.slice X1 l1.length c1) (.int .i64 ae1) (.bool ag2) (.slice X2 l2.length c2) (.int .i64 ae2) (.bool ag3) (.slice X3 l3.length c3) (.int .i64 ae3)).drew := ⟨_, rfl⟩
      have k9 : Blk W9 w.heap.size 48 #[.int .i64 nu, .int .i64 ep, .int .i64 cp, .bool ag0, .slice X0 l0.length c0, .int .i64 ae0, .bool ag1, .slice X1 l1.length c1, .int .i64 ae1, .bool ag2, .slice X2 l2.length c2, .int .i64 ae2, .bool ag3, .slice X3 l3.length c3, .int .i64 ae3] := by rw [hW9]; exact (b15_blk kb5 rfl (.int .i64 nu) (.int .i64 ep) (.int .i64 cp) (.bool ag0) (.slice X0 l0.length c0) (.int .i64 ae0) (.bool ag1) (.slice X1 l1.length c1) (.int .i64 ae1) (.bool ag2) (.slice X2 l2.length c2) (.int .i64 ae2) (.bool ag3) (.slice X3 l3.length c3) (.int .i64 ae3)).drew
      have g9 : Hid (PairE w (.slice (some ⟨g, 0, none⟩) (n - 1) co) ((l.take k ++ l.drop (k + 1))) ((⟨nu, ep, cp, ⟨⟨ag0, l0, ae0⟩, ⟨ag1, l1, ae1⟩, ⟨ag2, l2, ae2⟩, ⟨ag3, l3, ae3⟩⟩⟩ : En)) ((⟨⟨nu, ep, cp, ⟨⟨ag0, l0, ae0⟩, ⟨ag1, l1, ae1⟩, ⟨ag2, l2, ae2⟩, ⟨ag3, l3, ae3⟩⟩⟩, X0, c0, X1, c1, X2, c2, X3, c3⟩ : EO)) W9) := Lib.hid (by rw [hW9]; exact ⟨((gP.out.other (by omega) (b15_other w5 _ (.int .i64 nu) (.int .i64 ep) (.int .i64 cp) (.bool ag0) (.slice X0 l0.length c0) (.int .i64 ae0) (.bool ag1) (.slice X1 l1.length c1) (.int .i64 ae1) (.bool ag2) (.slice X2 l2.length c2) (.int .i64 ae2) (.bool ag3) (.slice X3 l3.length c3) (.int .i64 ae3))).base_le (by omega)).below (Below.refl _ _).drew, (b15_below hb5 (Nat.le_refl _) (.int .i64 nu) (.int .i64 ep) (.int .i64 cp) (.bool ag0) (.slice X0 l0.length c0) (.int .i64 ae0) (.bool ag1) (.slice X1 l1.length c1) (.int .i64 ae1) (.bool ag2) (.slice X2 l2.length c2) (.int .i64 ae2) (.bool ag3) (.slice X3 l3.length c3) (.int .i64 ae3)).drew⟩)
      unfold b15 at hW9
      go_wp2_with fail
      have S0 : (fun w' => w'.cell? ⟨w.heap.size, 0, none⟩ = some (.int .i64 nu) ∧ w'.cell? ⟨w.heap.size, 1, none⟩ = some (.int .i64 ep) ∧ w'.cell? ⟨w.heap.size, 2, none⟩ = some (.int .i64 cp) ∧ w'.cell? ⟨w.heap.size, 3, none⟩ = some (.bool ag0) ∧ w'.cell? ⟨w.heap.size, 4, none⟩ = some (.slice X0 l0.length c0) ∧ w'.cell? ⟨w.heap.size, 5, none⟩ = some (.int .i64 ae0) ∧ w'.cell? ⟨w.heap.size, 6, none⟩ = some (.bool ag1) ∧ w'.cell? ⟨w.heap.size, 7, none⟩ = some (.slice X1 l1.length c1) ∧ w'.cell? ⟨w.heap.size, 8, none⟩ = some (.int .i64 ae1) ∧ w'.cell? ⟨w.heap.size, 9, none⟩ = some (.bool ag2) ∧ w'.cell? ⟨w.heap.size, 10, none⟩ = some (.slice X2 l2.length c2) ∧ w'.cell? ⟨w.heap.size, 11, none⟩ = some (.int .i64 ae2) ∧ w'.cell? ⟨w.heap.size, 12, none⟩ = some (.bool ag3) ∧ w'.cell? ⟨w.heap.size, 13, none⟩ = some (.slice X3 l3.length c3) ∧ w'.cell? ⟨w.heap.size, 14, none⟩ = some (.int .i64 ae3)) w5.drew := ⟨u0, u1, u2, u3, u4, u5, u6, u7, u8, u9, u10, u11, u12, u13, u14⟩
      have S9 : (fun w' => w'.cell? ⟨w.heap.size, 0, none⟩ = some (.int .i64 nu) ∧ w'.cell? ⟨w.heap.size, 1, none⟩ = some (.int .i64 ep) ∧ w'.cell? ⟨w.heap.size, 2, none⟩ = some (.int .i64 cp) ∧ w'.cell? ⟨w.heap.size, 3, none⟩ = some (.bool ag0) ∧ w'.cell? ⟨w.heap.size, 4, none⟩ = some (.slice X0 l0.length c0) ∧ w'.cell? ⟨w.heap.size, 5, none⟩ = some (.int .i64 ae0) ∧ w'.cell? ⟨w.heap.size, 6, none⟩ = some (.bool ag1) ∧ w'.cell? ⟨w.heap.size, 7, none⟩ = some (.slice X1 l1.length c1) ∧ w'.cell? ⟨w.heap.size, 8, none⟩ = some (.int .i64 ae1) ∧ w'.cell? ⟨w.heap.size, 9, none⟩ = some (.bool ag2) ∧ w'.cell? ⟨w.heap.size, 10, none⟩ = some (.slice X2 l2.length c2) ∧ w'.cell? ⟨w.heap.size, 11, none⟩ = some (.int .i64 ae2) ∧ w'.cell? ⟨w.heap.size, 12, none⟩ = some (.bool ag3) ∧ w'.cell? ⟨w.heap.size, 13, none⟩ = some (.slice X3 l3.length c3) ∧ w'.cell? ⟨w.heap.size, 14, none⟩ = some (.int .i64 ae3)) W9 := ⟨by rw [k9.cell]; rfl, by rw [k9.cell]; rfl, by rw [k9.cell]; rfl, by rw [k9.cell]; rfl, by rw [k9.cell]; rfl, by rw [k9.cell]; rfl, by rw [k9.cell]; rfl, by rw [k9.cell]; rfl, by rw [k9.cell]; rfl, by rw [k9.cell]; rfl, by rw [k9.cell]; rfl, by rw [k9.cell]; rfl, by rw [k9.cell]; rfl, by rw [k9.cell]; rfl, by rw [k9.cell]; rfl⟩
      refine wp_region_noPanic ?_
      refine wp_region_held_drew (S := fun w' => w'.cell? ⟨w.heap.size, 0, none⟩ = some (.int .i64 nu) ∧ w'.cell? ⟨w.heap.size, 1, none⟩ = some (.int .i64 ep) ∧ w'.cell? ⟨w.heap.size, 2, none⟩ = some (.int .i64 cp) ∧ w'.cell? ⟨w.heap.size, 3, none⟩ = some (.bool ag0) ∧ w'.cell? ⟨w.heap.size, 4, none⟩ = some (.slice X0 l0.length c0) ∧ w'.cell? ⟨w.heap.size, 5, none⟩ = some (.int .i64 ae0) ∧ w'.cell? ⟨w.heap.size, 6, none⟩ = some (.bool ag1) ∧ w'.cell? ⟨w.heap.size, 7, none⟩ = some (.slice X1 l1.length c1) ∧ w'.cell? ⟨w.heap.size, 8, none⟩ = some (.int .i64 ae1) ∧ w'.cell? ⟨w.heap.size, 9, none⟩ = some (.bool ag2) ∧ w'.cell? ⟨w.heap.size, 10, none⟩ = some (.slice X2 l2.length c2) ∧ w'.cell? ⟨w.heap.size, 11, none⟩ = some (.int .i64 ae2) ∧ w'.cell? ⟨w.heap.size, 12, none⟩ = some (.bool ag3) ∧ w'.cell? ⟨w.heap.size, 13, none⟩ = some (.slice X3 l3.length c3) ∧ w'.cell? ⟨w.heap.size, 14, none⟩ = some (.int .i64 ae3)) (by kernel_rfl) (S0) (fun hHeld => ?_)
      refine wpAnyH_take (i := 1) (oi := ?o1x4) (v := ?v1x4) ?ho1x4 (by kernel_rfl) (by kernel_rfl) (by kernel_rfl) (fun _ _ _ h => h) (Or.inl ⟨?wn1x4, ?yn1x4⟩) (by assumption) ?rest1x4
      case ho1x4 => (simp only [List.getElem?_toArray, List.getElem?_cons_zero, List.getElem?_cons_succ]; rfl)
      case wn1x4 => rfl
      case yn1x4 => (intro w hSw; (try dsimp only at hSw); go_simp; (try with_reducible rfl))
      (try simp only [Act.put, List.setIfInBounds_toArray, List.set_cons_zero, List.set_cons_succ])
      refine wpAnyH_take (i := 0) (oi := ?o0x4) (v := ?v0x4) ?ho0x4 (by kernel_rfl) (by kernel_rfl) (by kernel_rfl) (fun _ _ _ h => h) (Or.inl ⟨?wn0x4, ?yn0x4⟩) (by assumption) ?rest0x4
      case ho0x4 => (simp only [List.getElem?_toArray, List.getElem?_cons_zero, List.getElem?_cons_succ]; rfl)
      case wn0x4 => rfl
      case yn0x4 => (intro w hSw; (try dsimp only at hSw); go_simp; (try with_reducible rfl))
      (try simp only [Act.put, List.setIfInBounds_toArray, List.set_cons_zero, List.set_cons_succ])
      refine wpAnyH_take (i := 2) (oi := ?o2x4) (v := ?v2x4) ?ho2x4 (by kernel_rfl) (by kernel_rfl) (by kernel_rfl) (fun _ _ _ h => h) (Or.inl ⟨?wn2x4, ?yn2x4⟩) (by assumption) ?rest2x4
      case ho2x4 => (simp only [List.getElem?_toArray, List.getElem?_cons_zero, List.getElem?_cons_succ]; rfl)
      case wn2x4 => rfl
      case yn2x4 => (intro w hSw; (try dsimp only at hSw); go_simp; (try with_reducible rfl))
      (try simp only [Act.put, List.setIfInBounds_toArray, List.set_cons_zero, List.set_cons_succ])
      refine wpAnyH_ready (rs := [3]) (by kernel_rfl) (by simp) ?_
      refine AllReadyH.cons (o := ?o3x4) ?ho3x4 (fun K hK => ?rest3x4) AllReadyH.nil
      case ho3x4 => (simp only [List.getElem?_toArray, List.getElem?_cons_zero, List.getElem?_cons_succ]; rfl)
      go_simp
      refine hK.out _ _ (by rw [← hW9]; exact S9) (fun hHeld => ?_)
      clear hK K
      (try simp only [Act.put, List.setIfInBounds_toArray, List.set_cons_zero, List.set_cons_succ])
      refine wpAnyH_take (i := 4) (oi := ?o4x4) (v := ?v4x4) ?ho4x4 (by kernel_rfl) (by kernel_rfl) (by kernel_rfl) (fun _ _ _ h => h) (Or.inl ⟨?wn4x4, ?yn4x4⟩) (by assumption) ?rest4x4
      case ho4x4 => (simp only [List.getElem?_toArray, List.getElem?_cons_zero, List.getElem?_cons_succ]; rfl)
      case wn4x4 => rfl
      case yn4x4 => (intro w hSw; (try dsimp only at hSw); go_simp; (try with_reducible rfl))
      (try simp only [Act.put, List.setIfInBounds_toArray, List.set_cons_zero, List.set_cons_succ])
      refine wpAnyH_done (by kernel_rfl) ?_ _
      refine NoPanic.normal ?_
      clear u0 u1 u2 u3 u4 u5 u6 u7 u8 u9 u10 u11 u12 u13 u14 uf0 uf1 uf2 uf3 uf4 uf5 uf6 uf7 uf8 uf9 uf10 uf11 uf12 uf13 uf14
      clear SS SB S0 S9
      rw [← hW9]
      clear hW9
      go_wp2
      have pu0 : W9.cell? ⟨w.heap.size, 0, none⟩ = some (.int .i64 nu) := by rw [k9.cell]; rfl
      have pu1 : W9.cell? ⟨w.heap.size, 1, none⟩ = some (.int .i64 ep) := by rw [k9.cell]; rfl
      have pu2 : W9.cell? ⟨w.heap.size, 2, none⟩ = some (.int .i64 cp) := by rw [k9.cell]; rfl
      have pu3 : W9.cell? ⟨w.heap.size, 3, none⟩ = some (.bool ag0) := by rw [k9.cell]; rfl
      have pu4 : W9.cell? ⟨w.heap.size, 4, none⟩ = some (.slice X0 l0.length c0) := by rw [k9.cell]; rfl
      have pu5 : W9.cell? ⟨w.heap.size, 5, none⟩ = some (.int .i64 ae0) := by rw [k9.cell]; rfl
      have pu6 : W9.cell? ⟨w.heap.size, 6, none⟩ = some (.bool ag1) := by rw [k9.cell]; rfl
      have pu7 : W9.cell? ⟨w.heap.size, 7, none⟩ = some (.slice X1 l1.length c1) := by rw [k9.cell]; rfl
      have pu8 : W9.cell? ⟨w.heap.size, 8, none⟩ = some (.int .i64 ae1) := by rw [k9.cell]; rfl
      have pu9 : W9.cell? ⟨w.heap.size, 9, none⟩ = some (.bool ag2) := by rw [k9.cell]; rfl
      have pu10 : W9.cell? ⟨w.heap.size, 10, none⟩ = some (.slice X2 l2.length c2) := by rw [k9.cell]; rfl
      have pu11 : W9.cell? ⟨w.heap.size, 11, none⟩ = some (.int .i64 ae2) := by rw [k9.cell]; rfl
      have pu12 : W9.cell? ⟨w.heap.size, 12, none⟩ = some (.bool ag3) := by rw [k9.cell]; rfl
      have pu13 : W9.cell? ⟨w.heap.size, 13, none⟩ = some (.slice X3 l3.length c3) := by rw [k9.cell]; rfl
      have pu14 : W9.cell? ⟨w.heap.size, 14, none⟩ = some (.int .i64 ae3) := by rw [k9.cell]; rfl
      clear k9
      refine ⟨rfl, .tuple #[.slice (some ⟨g, 0, none⟩) (n - 1) co, .agg #[.int .i64 nu, .int .i64 ep, .int .i64 cp, .bool ag0, .slice X0 l0.length c0, .int .i64 ae0, .bool ag1, .slice X1 l1.length c1, .int .i64 ae1, .bool ag2, .slice X2 l2.length c2, .int .i64 ae2, .bool ag3, .slice X3 l3.length c3, .int .i64 ae3], .int .i64 0], ?_, (l.take k ++ l.drop (k + 1)), (⟨nu, ep, cp, ⟨⟨ag0, l0, ae0⟩, ⟨ag1, l1, ae1⟩, ⟨ag2, l2, ae2⟩, ⟨ag3, l3, ae3⟩⟩⟩ : En), (⟨⟨nu, ep, cp, ⟨⟨ag0, l0, ae0⟩, ⟨ag1, l1, ae1⟩, ⟨ag2, l2, ae2⟩, ⟨ag3, l3, ae3⟩⟩⟩, X0, c0, X1, c1, X2, c2, X3, c3⟩ : EO), _, _, _, rfl, gd.out, rfl, g9.out⟩
      simp [results, Tryd.f47, go_sem, pu0, pu1, pu2, pu3, pu4, pu5, pu6, pu7, pu8, pu9, pu10, pu11, pu12, pu13, pu14]
theorem down_land (A : Option Addr) (n c : Nat) (l : List En) (hm : n ≤ 10000) (hs1 : ∀ x ∈ l, smM x.give) (w : World) (h : Ens w w.heap.size A n l) (N : Int) : Calls Tryd.prog 47 #[.slice A n c, .int .i64 N, .func (.func 49) #[] #[]] w fun en w' => ∃ l' x ox v vx E, en = .returned (.tuple #[v, vx, .int .i64 E]) ∧ CmeF true l N l' x E ∧ vx = aggE ox ∧ PairE w v l' x ox w' := by
  by_cases hX : ChkF l 0 ∧ (0 ≤ N ∧ N ≤ 1048575)
  · by_cases hy : ∃ (j : Nat) (x : En), l[j]? = some x ∧ x.nu = N
    · exact down_land_some A n c l hm hs1 w h N hX hy
    · exact down_land_none A n c l hm hs1 w h N hX (fun j x h1 h2 => hy ⟨j, x, h1, h2⟩)
  · exact down_land_err A n c l hm hs1 w h N hX
end Go.Proofs.YtdmjdpaehnhdoaaDoor
