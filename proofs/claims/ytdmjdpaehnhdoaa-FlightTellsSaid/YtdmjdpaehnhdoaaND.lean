/- Flight: the reference's Lose -/
import Derived.Test.YtdmjdpaehnhdoaaNC
namespace Go.Proofs.Ytdmjdpaehnhdoaa
open Go.ChangeShapes Go.WideShapes Go.ChangeAt Go.RowKit
set_option linter.unusedSimpArgs false
set_option linter.unusedVariables false
set_option maxRecDepth 100000 in
set_option maxHeartbeats 16000000 in
theorem rlose_any_err (A : Option Addr) (n c : Nat) (l : List En) (hm : n ≤ 10000) (hnc : n ≤ c) (hs1 : ∀ x ∈ l, smM x.give) (w : World) (h : Ens w w.heap.size A n l) (N : Int) (hX : ¬ (ChkF l 0 ∧ (0 ≤ N ∧ N ≤ 1048575))) : Calls Try.prog 17 #[.slice A n c, .int .i64 N] w fun en w' => ∃ l' x ox v vx E, en = .returned (.tuple #[v, vx, .int .i64 E]) ∧ CmeF false l N l' x E ∧ vx = aggE ox ∧ PairE w v l' x ox w' := by
  obtain ⟨V, hV⟩ : ∃ V, V = w.alloc (.cells #[.int .i64 0, .int .i64 0, .int .i64 0, .bool false, .slice none 0 0, .int .i64 0, .bool false, .slice none 0 0, .int .i64 0, .bool false, .slice none 0 0, .int .i64 0, .bool false, .slice none 0 0, .int .i64 0] 40) := ⟨_, rfl⟩
  have hBV : Below w.heap.size w V := by rw [hV]; exact (Below.refl _ _).alloc (Nat.le_refl _) _
  have hVs : w.heap.size < V.heap.size := by rw [hV, World.size_alloc]; exact Nat.lt_succ_self _
  have kb : Blk V w.heap.size 40 #[.int .i64 0, .int .i64 0, .int .i64 0, .bool false, .slice none 0 0, .int .i64 0, .bool false, .slice none 0 0, .int .i64 0, .bool false, .slice none 0 0, .int .i64 0, .bool false, .slice none 0 0, .int .i64 0] := by rw [hV]; exact Blk.new w _ _
  have hf := rasked_any A n c l (by unfold maxLen; omega) V (Recs.more (Recs.below h hBV) hBV.size) N
  have gln := Lib.hid (ens_len h)
  have gh := Lib.hid h
  have gs := Lib.hid hs1
  have gX := Lib.hid hX
  clear h hs1 hX
  go_enter Try.func17, Try.ntmps17
  go_wp2_with fail
  rw [← hV]
  clear hV
  refine hf.mono ?_
  rintro en w1 ⟨E, rfl, hF, hb1'⟩
  clear hf
  have hb1 : Below w.heap.size w w1 := hBV.trans (hb1'.mono hBV.size)
  have kb1 := kb.below hb1' kb.lt
  have s1 : V.heap.size ≤ w1.heap.size := hb1'.size
  have kl1 := kb1.lt
  rcases hF with ⟨hE, hne⟩ | ⟨hE, hne, rfl⟩ | ⟨hE, hne, rfl⟩
  · rcases hE.has with ⟨rfl, _⟩ | ⟨rfl, _, _⟩ | ⟨rfl, _, _⟩
    · have gd : Hid (CmeF false l N [] zE 4) := Lib.hid (.inl ⟨hE, hne, rfl, rfl⟩)
      clear hE hne
      have SB : ∀ w', Blk w' w.heap.size 40 #[.int .i64 0, .int .i64 0, .int .i64 0, .bool false, .slice none 0 0, .int .i64 0, .bool false, .slice none 0 0, .int .i64 0, .bool false, .slice none 0 0, .int .i64 0, .bool false, .slice none 0 0, .int .i64 0] → w'.cell? ⟨w.heap.size, 0, none⟩ = some (.int .i64 0) ∧ w'.cell? ⟨w.heap.size, 1, none⟩ = some (.int .i64 0) ∧ w'.cell? ⟨w.heap.size, 2, none⟩ = some (.int .i64 0) ∧ w'.cell? ⟨w.heap.size, 3, none⟩ = some (.bool false) ∧ w'.cell? ⟨w.heap.size, 4, none⟩ = some (.slice none 0 0) ∧ w'.cell? ⟨w.heap.size, 5, none⟩ = some (.int .i64 0) ∧ w'.cell? ⟨w.heap.size, 6, none⟩ = some (.bool false) ∧ w'.cell? ⟨w.heap.size, 7, none⟩ = some (.slice none 0 0) ∧ w'.cell? ⟨w.heap.size, 8, none⟩ = some (.int .i64 0) ∧ w'.cell? ⟨w.heap.size, 9, none⟩ = some (.bool false) ∧ w'.cell? ⟨w.heap.size, 10, none⟩ = some (.slice none 0 0) ∧ w'.cell? ⟨w.heap.size, 11, none⟩ = some (.int .i64 0) ∧ w'.cell? ⟨w.heap.size, 12, none⟩ = some (.bool false) ∧ w'.cell? ⟨w.heap.size, 13, none⟩ = some (.slice none 0 0) ∧ w'.cell? ⟨w.heap.size, 14, none⟩ = some (.int .i64 0) ∧ w'.frozen? ⟨w.heap.size, 0, none⟩ = false ∧ w'.frozen? ⟨w.heap.size, 1, none⟩ = false ∧ w'.frozen? ⟨w.heap.size, 2, none⟩ = false ∧ w'.frozen? ⟨w.heap.size, 3, none⟩ = false ∧ w'.frozen? ⟨w.heap.size, 4, none⟩ = false ∧ w'.frozen? ⟨w.heap.size, 5, none⟩ = false ∧ w'.frozen? ⟨w.heap.size, 6, none⟩ = false ∧ w'.frozen? ⟨w.heap.size, 7, none⟩ = false ∧ w'.frozen? ⟨w.heap.size, 8, none⟩ = false ∧ w'.frozen? ⟨w.heap.size, 9, none⟩ = false ∧ w'.frozen? ⟨w.heap.size, 10, none⟩ = false ∧ w'.frozen? ⟨w.heap.size, 11, none⟩ = false ∧ w'.frozen? ⟨w.heap.size, 12, none⟩ = false ∧ w'.frozen? ⟨w.heap.size, 13, none⟩ = false ∧ w'.frozen? ⟨w.heap.size, 14, none⟩ = false := by
        intro w' k5
        refine ⟨?_, ?_, ?_, ?_, ?_, ?_, ?_, ?_, ?_, ?_, ?_, ?_, ?_, ?_, ?_, ?_, ?_, ?_, ?_, ?_, ?_, ?_, ?_, ?_, ?_, ?_, ?_, ?_, ?_, ?_⟩ <;> first | exact k5.frozen _ | (rw [k5.cell]; rfl)
      have SS : ∀ w', Below w1.heap.size w1 w' → w'.cell? ⟨w.heap.size, 0, none⟩ = some (.int .i64 0) ∧ w'.cell? ⟨w.heap.size, 1, none⟩ = some (.int .i64 0) ∧ w'.cell? ⟨w.heap.size, 2, none⟩ = some (.int .i64 0) ∧ w'.cell? ⟨w.heap.size, 3, none⟩ = some (.bool false) ∧ w'.cell? ⟨w.heap.size, 4, none⟩ = some (.slice none 0 0) ∧ w'.cell? ⟨w.heap.size, 5, none⟩ = some (.int .i64 0) ∧ w'.cell? ⟨w.heap.size, 6, none⟩ = some (.bool false) ∧ w'.cell? ⟨w.heap.size, 7, none⟩ = some (.slice none 0 0) ∧ w'.cell? ⟨w.heap.size, 8, none⟩ = some (.int .i64 0) ∧ w'.cell? ⟨w.heap.size, 9, none⟩ = some (.bool false) ∧ w'.cell? ⟨w.heap.size, 10, none⟩ = some (.slice none 0 0) ∧ w'.cell? ⟨w.heap.size, 11, none⟩ = some (.int .i64 0) ∧ w'.cell? ⟨w.heap.size, 12, none⟩ = some (.bool false) ∧ w'.cell? ⟨w.heap.size, 13, none⟩ = some (.slice none 0 0) ∧ w'.cell? ⟨w.heap.size, 14, none⟩ = some (.int .i64 0) ∧ w'.frozen? ⟨w.heap.size, 0, none⟩ = false ∧ w'.frozen? ⟨w.heap.size, 1, none⟩ = false ∧ w'.frozen? ⟨w.heap.size, 2, none⟩ = false ∧ w'.frozen? ⟨w.heap.size, 3, none⟩ = false ∧ w'.frozen? ⟨w.heap.size, 4, none⟩ = false ∧ w'.frozen? ⟨w.heap.size, 5, none⟩ = false ∧ w'.frozen? ⟨w.heap.size, 6, none⟩ = false ∧ w'.frozen? ⟨w.heap.size, 7, none⟩ = false ∧ w'.frozen? ⟨w.heap.size, 8, none⟩ = false ∧ w'.frozen? ⟨w.heap.size, 9, none⟩ = false ∧ w'.frozen? ⟨w.heap.size, 10, none⟩ = false ∧ w'.frozen? ⟨w.heap.size, 11, none⟩ = false ∧ w'.frozen? ⟨w.heap.size, 12, none⟩ = false ∧ w'.frozen? ⟨w.heap.size, 13, none⟩ = false ∧ w'.frozen? ⟨w.heap.size, 14, none⟩ = false := fun w' hw => SB w' (kb1.below hw kb1.lt)
      obtain ⟨u0, u1, u2, u3, u4, u5, u6, u7, u8, u9, u10, u11, u12, u13, u14, uf0, uf1, uf2, uf3, uf4, uf5, uf6, uf7, uf8, uf9, uf10, uf11, uf12, uf13, uf14⟩ := SS w1 (Below.refl _ _)
      obtain ⟨W9, hW9⟩ : ∃ W9, W9 = (b15 w1 w.heap.size (.int .i64 0) (.int .i64 0) (.int .i64 0) (.bool false) (.slice none 0 0) (.int .i64 0) (.bool false) (.slice none 0 0) (.int .i64 0) (.bool false) (.slice none 0 0) (.int .i64 0) (.bool false) (.slice none 0 0) (.int .i64 0)) := ⟨_, rfl⟩
      have k9 : Blk W9 w.heap.size 40 #[.int .i64 0, .int .i64 0, .int .i64 0, .bool false, .slice none 0 0, .int .i64 0, .bool false, .slice none 0 0, .int .i64 0, .bool false, .slice none 0 0, .int .i64 0, .bool false, .slice none 0 0, .int .i64 0] := by rw [hW9]; exact (b15_blk kb1 rfl (.int .i64 0) (.int .i64 0) (.int .i64 0) (.bool false) (.slice none 0 0) (.int .i64 0) (.bool false) (.slice none 0 0) (.int .i64 0) (.bool false) (.slice none 0 0) (.int .i64 0) (.bool false) (.slice none 0 0) (.int .i64 0))
      have g9 : Hid (PairE w (.slice none 0 0) ([]) (zE) (zO) W9) := Lib.hid (by rw [hW9]; exact ⟨((pairC_nil w1 V.heap.size).other (by omega) (b15_other w1 _ (.int .i64 0) (.int .i64 0) (.int .i64 0) (.bool false) (.slice none 0 0) (.int .i64 0) (.bool false) (.slice none 0 0) (.int .i64 0) (.bool false) (.slice none 0 0) (.int .i64 0) (.bool false) (.slice none 0 0) (.int .i64 0))).base_le (by omega), b15_below hb1 (Nat.le_refl _) (.int .i64 0) (.int .i64 0) (.int .i64 0) (.bool false) (.slice none 0 0) (.int .i64 0) (.bool false) (.slice none 0 0) (.int .i64 0) (.bool false) (.slice none 0 0) (.int .i64 0) (.bool false) (.slice none 0 0) (.int .i64 0)⟩)
      unfold b15 at hW9
      go_wp2
      clear u0 u1 u2 u3 u4 u5 u6 u7 u8 u9 u10 u11 u12 u13 u14 uf0 uf1 uf2 uf3 uf4 uf5 uf6 uf7 uf8 uf9 uf10 uf11 uf12 uf13 uf14
      clear SS SB
      rw [← hW9]
      clear hW9
      have pu0 : W9.cell? ⟨w.heap.size, 0, none⟩ = some (.int .i64 0) := by rw [k9.cell]; rfl
      have pu1 : W9.cell? ⟨w.heap.size, 1, none⟩ = some (.int .i64 0) := by rw [k9.cell]; rfl
      have pu2 : W9.cell? ⟨w.heap.size, 2, none⟩ = some (.int .i64 0) := by rw [k9.cell]; rfl
      have pu3 : W9.cell? ⟨w.heap.size, 3, none⟩ = some (.bool false) := by rw [k9.cell]; rfl
      have pu4 : W9.cell? ⟨w.heap.size, 4, none⟩ = some (.slice none 0 0) := by rw [k9.cell]; rfl
      have pu5 : W9.cell? ⟨w.heap.size, 5, none⟩ = some (.int .i64 0) := by rw [k9.cell]; rfl
      have pu6 : W9.cell? ⟨w.heap.size, 6, none⟩ = some (.bool false) := by rw [k9.cell]; rfl
      have pu7 : W9.cell? ⟨w.heap.size, 7, none⟩ = some (.slice none 0 0) := by rw [k9.cell]; rfl
      have pu8 : W9.cell? ⟨w.heap.size, 8, none⟩ = some (.int .i64 0) := by rw [k9.cell]; rfl
      have pu9 : W9.cell? ⟨w.heap.size, 9, none⟩ = some (.bool false) := by rw [k9.cell]; rfl
      have pu10 : W9.cell? ⟨w.heap.size, 10, none⟩ = some (.slice none 0 0) := by rw [k9.cell]; rfl
      have pu11 : W9.cell? ⟨w.heap.size, 11, none⟩ = some (.int .i64 0) := by rw [k9.cell]; rfl
      have pu12 : W9.cell? ⟨w.heap.size, 12, none⟩ = some (.bool false) := by rw [k9.cell]; rfl
      have pu13 : W9.cell? ⟨w.heap.size, 13, none⟩ = some (.slice none 0 0) := by rw [k9.cell]; rfl
      have pu14 : W9.cell? ⟨w.heap.size, 14, none⟩ = some (.int .i64 0) := by rw [k9.cell]; rfl
      clear k9
      refine ⟨rfl, .tuple #[.slice none 0 0, .agg #[.int .i64 0, .int .i64 0, .int .i64 0, .bool false, .slice none 0 0, .int .i64 0, .bool false, .slice none 0 0, .int .i64 0, .bool false, .slice none 0 0, .int .i64 0, .bool false, .slice none 0 0, .int .i64 0], .int .i64 4], ?_, [], zE, zO, _, _, _, rfl, gd.out, rfl, g9.out⟩
      simp [results, Try.f17, go_sem, pu0, pu1, pu2, pu3, pu4, pu5, pu6, pu7, pu8, pu9, pu10, pu11, pu12, pu13, pu14]
    · exact absurd rfl hne
    · have gd : Hid (CmeF false l N [] zE 8) := Lib.hid (.inl ⟨hE, hne, rfl, rfl⟩)
      clear hE hne
      have SB : ∀ w', Blk w' w.heap.size 40 #[.int .i64 0, .int .i64 0, .int .i64 0, .bool false, .slice none 0 0, .int .i64 0, .bool false, .slice none 0 0, .int .i64 0, .bool false, .slice none 0 0, .int .i64 0, .bool false, .slice none 0 0, .int .i64 0] → w'.cell? ⟨w.heap.size, 0, none⟩ = some (.int .i64 0) ∧ w'.cell? ⟨w.heap.size, 1, none⟩ = some (.int .i64 0) ∧ w'.cell? ⟨w.heap.size, 2, none⟩ = some (.int .i64 0) ∧ w'.cell? ⟨w.heap.size, 3, none⟩ = some (.bool false) ∧ w'.cell? ⟨w.heap.size, 4, none⟩ = some (.slice none 0 0) ∧ w'.cell? ⟨w.heap.size, 5, none⟩ = some (.int .i64 0) ∧ w'.cell? ⟨w.heap.size, 6, none⟩ = some (.bool false) ∧ w'.cell? ⟨w.heap.size, 7, none⟩ = some (.slice none 0 0) ∧ w'.cell? ⟨w.heap.size, 8, none⟩ = some (.int .i64 0) ∧ w'.cell? ⟨w.heap.size, 9, none⟩ = some (.bool false) ∧ w'.cell? ⟨w.heap.size, 10, none⟩ = some (.slice none 0 0) ∧ w'.cell? ⟨w.heap.size, 11, none⟩ = some (.int .i64 0) ∧ w'.cell? ⟨w.heap.size, 12, none⟩ = some (.bool false) ∧ w'.cell? ⟨w.heap.size, 13, none⟩ = some (.slice none 0 0) ∧ w'.cell? ⟨w.heap.size, 14, none⟩ = some (.int .i64 0) ∧ w'.frozen? ⟨w.heap.size, 0, none⟩ = false ∧ w'.frozen? ⟨w.heap.size, 1, none⟩ = false ∧ w'.frozen? ⟨w.heap.size, 2, none⟩ = false ∧ w'.frozen? ⟨w.heap.size, 3, none⟩ = false ∧ w'.frozen? ⟨w.heap.size, 4, none⟩ = false ∧ w'.frozen? ⟨w.heap.size, 5, none⟩ = false ∧ w'.frozen? ⟨w.heap.size, 6, none⟩ = false ∧ w'.frozen? ⟨w.heap.size, 7, none⟩ = false ∧ w'.frozen? ⟨w.heap.size, 8, none⟩ = false ∧ w'.frozen? ⟨w.heap.size, 9, none⟩ = false ∧ w'.frozen? ⟨w.heap.size, 10, none⟩ = false ∧ w'.frozen? ⟨w.heap.size, 11, none⟩ = false ∧ w'.frozen? ⟨w.heap.size, 12, none⟩ = false ∧ w'.frozen? ⟨w.heap.size, 13, none⟩ = false ∧ w'.frozen? ⟨w.heap.size, 14, none⟩ = false := by
        intro w' k5
        refine ⟨?_, ?_, ?_, ?_, ?_, ?_, ?_, ?_, ?_, ?_, ?_, ?_, ?_, ?_, ?_, ?_, ?_, ?_, ?_, ?_, ?_, ?_, ?_, ?_, ?_, ?_, ?_, ?_, ?_, ?_⟩ <;> first | exact k5.frozen _ | (rw [k5.cell]; rfl)
      have SS : ∀ w', Below w1.heap.size w1 w' → w'.cell? ⟨w.heap.size, 0, none⟩ = some (.int .i64 0) ∧ w'.cell? ⟨w.heap.size, 1, none⟩ = some (.int .i64 0) ∧ w'.cell? ⟨w.heap.size, 2, none⟩ = some (.int .i64 0) ∧ w'.cell? ⟨w.heap.size, 3, none⟩ = some (.bool false) ∧ w'.cell? ⟨w.heap.size, 4, none⟩ = some (.slice none 0 0) ∧ w'.cell? ⟨w.heap.size, 5, none⟩ = some (.int .i64 0) ∧ w'.cell? ⟨w.heap.size, 6, none⟩ = some (.bool false) ∧ w'.cell? ⟨w.heap.size, 7, none⟩ = some (.slice none 0 0) ∧ w'.cell? ⟨w.heap.size, 8, none⟩ = some (.int .i64 0) ∧ w'.cell? ⟨w.heap.size, 9, none⟩ = some (.bool false) ∧ w'.cell? ⟨w.heap.size, 10, none⟩ = some (.slice none 0 0) ∧ w'.cell? ⟨w.heap.size, 11, none⟩ = some (.int .i64 0) ∧ w'.cell? ⟨w.heap.size, 12, none⟩ = some (.bool false) ∧ w'.cell? ⟨w.heap.size, 13, none⟩ = some (.slice none 0 0) ∧ w'.cell? ⟨w.heap.size, 14, none⟩ = some (.int .i64 0) ∧ w'.frozen? ⟨w.heap.size, 0, none⟩ = false ∧ w'.frozen? ⟨w.heap.size, 1, none⟩ = false ∧ w'.frozen? ⟨w.heap.size, 2, none⟩ = false ∧ w'.frozen? ⟨w.heap.size, 3, none⟩ = false ∧ w'.frozen? ⟨w.heap.size, 4, none⟩ = false ∧ w'.frozen? ⟨w.heap.size, 5, none⟩ = false ∧ w'.frozen? ⟨w.heap.size, 6, none⟩ = false ∧ w'.frozen? ⟨w.heap.size, 7, none⟩ = false ∧ w'.frozen? ⟨w.heap.size, 8, none⟩ = false ∧ w'.frozen? ⟨w.heap.size, 9, none⟩ = false ∧ w'.frozen? ⟨w.heap.size, 10, none⟩ = false ∧ w'.frozen? ⟨w.heap.size, 11, none⟩ = false ∧ w'.frozen? ⟨w.heap.size, 12, none⟩ = false ∧ w'.frozen? ⟨w.heap.size, 13, none⟩ = false ∧ w'.frozen? ⟨w.heap.size, 14, none⟩ = false := fun w' hw => SB w' (kb1.below hw kb1.lt)
      obtain ⟨u0, u1, u2, u3, u4, u5, u6, u7, u8, u9, u10, u11, u12, u13, u14, uf0, uf1, uf2, uf3, uf4, uf5, uf6, uf7, uf8, uf9, uf10, uf11, uf12, uf13, uf14⟩ := SS w1 (Below.refl _ _)
      obtain ⟨W9, hW9⟩ : ∃ W9, W9 = (b15 w1 w.heap.size (.int .i64 0) (.int .i64 0) (.int .i64 0) (.bool false) (.slice none 0 0) (.int .i64 0) (.bool false) (.slice none 0 0) (.int .i64 0) (.bool false) (.slice none 0 0) (.int .i64 0) (.bool false) (.slice none 0 0) (.int .i64 0)) := ⟨_, rfl⟩
      have k9 : Blk W9 w.heap.size 40 #[.int .i64 0, .int .i64 0, .int .i64 0, .bool false, .slice none 0 0, .int .i64 0, .bool false, .slice none 0 0, .int .i64 0, .bool false, .slice none 0 0, .int .i64 0, .bool false, .slice none 0 0, .int .i64 0] := by rw [hW9]; exact (b15_blk kb1 rfl (.int .i64 0) (.int .i64 0) (.int .i64 0) (.bool false) (.slice none 0 0) (.int .i64 0) (.bool false) (.slice none 0 0) (.int .i64 0) (.bool false) (.slice none 0 0) (.int .i64 0) (.bool false) (.slice none 0 0) (.int .i64 0))
      have g9 : Hid (PairE w (.slice none 0 0) ([]) (zE) (zO) W9) := Lib.hid (by rw [hW9]; exact ⟨((pairC_nil w1 V.heap.size).other (by omega) (b15_other w1 _ (.int .i64 0) (.int .i64 0) (.int .i64 0) (.bool false) (.slice none 0 0) (.int .i64 0) (.bool false) (.slice none 0 0) (.int .i64 0) (.bool false) (.slice none 0 0) (.int .i64 0) (.bool false) (.slice none 0 0) (.int .i64 0))).base_le (by omega), b15_below hb1 (Nat.le_refl _) (.int .i64 0) (.int .i64 0) (.int .i64 0) (.bool false) (.slice none 0 0) (.int .i64 0) (.bool false) (.slice none 0 0) (.int .i64 0) (.bool false) (.slice none 0 0) (.int .i64 0) (.bool false) (.slice none 0 0) (.int .i64 0)⟩)
      unfold b15 at hW9
      go_wp2
      clear u0 u1 u2 u3 u4 u5 u6 u7 u8 u9 u10 u11 u12 u13 u14 uf0 uf1 uf2 uf3 uf4 uf5 uf6 uf7 uf8 uf9 uf10 uf11 uf12 uf13 uf14
      clear SS SB
      rw [← hW9]
      clear hW9
      have pu0 : W9.cell? ⟨w.heap.size, 0, none⟩ = some (.int .i64 0) := by rw [k9.cell]; rfl
      have pu1 : W9.cell? ⟨w.heap.size, 1, none⟩ = some (.int .i64 0) := by rw [k9.cell]; rfl
      have pu2 : W9.cell? ⟨w.heap.size, 2, none⟩ = some (.int .i64 0) := by rw [k9.cell]; rfl
      have pu3 : W9.cell? ⟨w.heap.size, 3, none⟩ = some (.bool false) := by rw [k9.cell]; rfl
      have pu4 : W9.cell? ⟨w.heap.size, 4, none⟩ = some (.slice none 0 0) := by rw [k9.cell]; rfl
      have pu5 : W9.cell? ⟨w.heap.size, 5, none⟩ = some (.int .i64 0) := by rw [k9.cell]; rfl
      have pu6 : W9.cell? ⟨w.heap.size, 6, none⟩ = some (.bool false) := by rw [k9.cell]; rfl
      have pu7 : W9.cell? ⟨w.heap.size, 7, none⟩ = some (.slice none 0 0) := by rw [k9.cell]; rfl
      have pu8 : W9.cell? ⟨w.heap.size, 8, none⟩ = some (.int .i64 0) := by rw [k9.cell]; rfl
      have pu9 : W9.cell? ⟨w.heap.size, 9, none⟩ = some (.bool false) := by rw [k9.cell]; rfl
      have pu10 : W9.cell? ⟨w.heap.size, 10, none⟩ = some (.slice none 0 0) := by rw [k9.cell]; rfl
      have pu11 : W9.cell? ⟨w.heap.size, 11, none⟩ = some (.int .i64 0) := by rw [k9.cell]; rfl
      have pu12 : W9.cell? ⟨w.heap.size, 12, none⟩ = some (.bool false) := by rw [k9.cell]; rfl
      have pu13 : W9.cell? ⟨w.heap.size, 13, none⟩ = some (.slice none 0 0) := by rw [k9.cell]; rfl
      have pu14 : W9.cell? ⟨w.heap.size, 14, none⟩ = some (.int .i64 0) := by rw [k9.cell]; rfl
      clear k9
      refine ⟨rfl, .tuple #[.slice none 0 0, .agg #[.int .i64 0, .int .i64 0, .int .i64 0, .bool false, .slice none 0 0, .int .i64 0, .bool false, .slice none 0 0, .int .i64 0, .bool false, .slice none 0 0, .int .i64 0, .bool false, .slice none 0 0, .int .i64 0], .int .i64 8], ?_, [], zE, zO, _, _, _, rfl, gd.out, rfl, g9.out⟩
      simp [results, Try.f17, go_sem, pu0, pu1, pu2, pu3, pu4, pu5, pu6, pu7, pu8, pu9, pu10, pu11, pu12, pu13, pu14]
  · have gd : Hid (CmeF false l N [] zE 2) := Lib.hid (.inr (.inl ⟨hE, hne, rfl, rfl, rfl⟩))
    clear hE hne
    have SB : ∀ w', Blk w' w.heap.size 40 #[.int .i64 0, .int .i64 0, .int .i64 0, .bool false, .slice none 0 0, .int .i64 0, .bool false, .slice none 0 0, .int .i64 0, .bool false, .slice none 0 0, .int .i64 0, .bool false, .slice none 0 0, .int .i64 0] → w'.cell? ⟨w.heap.size, 0, none⟩ = some (.int .i64 0) ∧ w'.cell? ⟨w.heap.size, 1, none⟩ = some (.int .i64 0) ∧ w'.cell? ⟨w.heap.size, 2, none⟩ = some (.int .i64 0) ∧ w'.cell? ⟨w.heap.size, 3, none⟩ = some (.bool false) ∧ w'.cell? ⟨w.heap.size, 4, none⟩ = some (.slice none 0 0) ∧ w'.cell? ⟨w.heap.size, 5, none⟩ = some (.int .i64 0) ∧ w'.cell? ⟨w.heap.size, 6, none⟩ = some (.bool false) ∧ w'.cell? ⟨w.heap.size, 7, none⟩ = some (.slice none 0 0) ∧ w'.cell? ⟨w.heap.size, 8, none⟩ = some (.int .i64 0) ∧ w'.cell? ⟨w.heap.size, 9, none⟩ = some (.bool false) ∧ w'.cell? ⟨w.heap.size, 10, none⟩ = some (.slice none 0 0) ∧ w'.cell? ⟨w.heap.size, 11, none⟩ = some (.int .i64 0) ∧ w'.cell? ⟨w.heap.size, 12, none⟩ = some (.bool false) ∧ w'.cell? ⟨w.heap.size, 13, none⟩ = some (.slice none 0 0) ∧ w'.cell? ⟨w.heap.size, 14, none⟩ = some (.int .i64 0) ∧ w'.frozen? ⟨w.heap.size, 0, none⟩ = false ∧ w'.frozen? ⟨w.heap.size, 1, none⟩ = false ∧ w'.frozen? ⟨w.heap.size, 2, none⟩ = false ∧ w'.frozen? ⟨w.heap.size, 3, none⟩ = false ∧ w'.frozen? ⟨w.heap.size, 4, none⟩ = false ∧ w'.frozen? ⟨w.heap.size, 5, none⟩ = false ∧ w'.frozen? ⟨w.heap.size, 6, none⟩ = false ∧ w'.frozen? ⟨w.heap.size, 7, none⟩ = false ∧ w'.frozen? ⟨w.heap.size, 8, none⟩ = false ∧ w'.frozen? ⟨w.heap.size, 9, none⟩ = false ∧ w'.frozen? ⟨w.heap.size, 10, none⟩ = false ∧ w'.frozen? ⟨w.heap.size, 11, none⟩ = false ∧ w'.frozen? ⟨w.heap.size, 12, none⟩ = false ∧ w'.frozen? ⟨w.heap.size, 13, none⟩ = false ∧ w'.frozen? ⟨w.heap.size, 14, none⟩ = false := by
      intro w' k5
      refine ⟨?_, ?_, ?_, ?_, ?_, ?_, ?_, ?_, ?_, ?_, ?_, ?_, ?_, ?_, ?_, ?_, ?_, ?_, ?_, ?_, ?_, ?_, ?_, ?_, ?_, ?_, ?_, ?_, ?_, ?_⟩ <;> first | exact k5.frozen _ | (rw [k5.cell]; rfl)
    have SS : ∀ w', Below w1.heap.size w1 w' → w'.cell? ⟨w.heap.size, 0, none⟩ = some (.int .i64 0) ∧ w'.cell? ⟨w.heap.size, 1, none⟩ = some (.int .i64 0) ∧ w'.cell? ⟨w.heap.size, 2, none⟩ = some (.int .i64 0) ∧ w'.cell? ⟨w.heap.size, 3, none⟩ = some (.bool false) ∧ w'.cell? ⟨w.heap.size, 4, none⟩ = some (.slice none 0 0) ∧ w'.cell? ⟨w.heap.size, 5, none⟩ = some (.int .i64 0) ∧ w'.cell? ⟨w.heap.size, 6, none⟩ = some (.bool false) ∧ w'.cell? ⟨w.heap.size, 7, none⟩ = some (.slice none 0 0) ∧ w'.cell? ⟨w.heap.size, 8, none⟩ = some (.int .i64 0) ∧ w'.cell? ⟨w.heap.size, 9, none⟩ = some (.bool false) ∧ w'.cell? ⟨w.heap.size, 10, none⟩ = some (.slice none 0 0) ∧ w'.cell? ⟨w.heap.size, 11, none⟩ = some (.int .i64 0) ∧ w'.cell? ⟨w.heap.size, 12, none⟩ = some (.bool false) ∧ w'.cell? ⟨w.heap.size, 13, none⟩ = some (.slice none 0 0) ∧ w'.cell? ⟨w.heap.size, 14, none⟩ = some (.int .i64 0) ∧ w'.frozen? ⟨w.heap.size, 0, none⟩ = false ∧ w'.frozen? ⟨w.heap.size, 1, none⟩ = false ∧ w'.frozen? ⟨w.heap.size, 2, none⟩ = false ∧ w'.frozen? ⟨w.heap.size, 3, none⟩ = false ∧ w'.frozen? ⟨w.heap.size, 4, none⟩ = false ∧ w'.frozen? ⟨w.heap.size, 5, none⟩ = false ∧ w'.frozen? ⟨w.heap.size, 6, none⟩ = false ∧ w'.frozen? ⟨w.heap.size, 7, none⟩ = false ∧ w'.frozen? ⟨w.heap.size, 8, none⟩ = false ∧ w'.frozen? ⟨w.heap.size, 9, none⟩ = false ∧ w'.frozen? ⟨w.heap.size, 10, none⟩ = false ∧ w'.frozen? ⟨w.heap.size, 11, none⟩ = false ∧ w'.frozen? ⟨w.heap.size, 12, none⟩ = false ∧ w'.frozen? ⟨w.heap.size, 13, none⟩ = false ∧ w'.frozen? ⟨w.heap.size, 14, none⟩ = false := fun w' hw => SB w' (kb1.below hw kb1.lt)
    obtain ⟨u0, u1, u2, u3, u4, u5, u6, u7, u8, u9, u10, u11, u12, u13, u14, uf0, uf1, uf2, uf3, uf4, uf5, uf6, uf7, uf8, uf9, uf10, uf11, uf12, uf13, uf14⟩ := SS w1 (Below.refl _ _)
    obtain ⟨W9, hW9⟩ : ∃ W9, W9 = (b15 w1 w.heap.size (.int .i64 0) (.int .i64 0) (.int .i64 0) (.bool false) (.slice none 0 0) (.int .i64 0) (.bool false) (.slice none 0 0) (.int .i64 0) (.bool false) (.slice none 0 0) (.int .i64 0) (.bool false) (.slice none 0 0) (.int .i64 0)) := ⟨_, rfl⟩
    have k9 : Blk W9 w.heap.size 40 #[.int .i64 0, .int .i64 0, .int .i64 0, .bool false, .slice none 0 0, .int .i64 0, .bool false, .slice none 0 0, .int .i64 0, .bool false, .slice none 0 0, .int .i64 0, .bool false, .slice none 0 0, .int .i64 0] := by rw [hW9]; exact (b15_blk kb1 rfl (.int .i64 0) (.int .i64 0) (.int .i64 0) (.bool false) (.slice none 0 0) (.int .i64 0) (.bool false) (.slice none 0 0) (.int .i64 0) (.bool false) (.slice none 0 0) (.int .i64 0) (.bool false) (.slice none 0 0) (.int .i64 0))
    have g9 : Hid (PairE w (.slice none 0 0) ([]) (zE) (zO) W9) := Lib.hid (by rw [hW9]; exact ⟨((pairC_nil w1 V.heap.size).other (by omega) (b15_other w1 _ (.int .i64 0) (.int .i64 0) (.int .i64 0) (.bool false) (.slice none 0 0) (.int .i64 0) (.bool false) (.slice none 0 0) (.int .i64 0) (.bool false) (.slice none 0 0) (.int .i64 0) (.bool false) (.slice none 0 0) (.int .i64 0))).base_le (by omega), b15_below hb1 (Nat.le_refl _) (.int .i64 0) (.int .i64 0) (.int .i64 0) (.bool false) (.slice none 0 0) (.int .i64 0) (.bool false) (.slice none 0 0) (.int .i64 0) (.bool false) (.slice none 0 0) (.int .i64 0) (.bool false) (.slice none 0 0) (.int .i64 0)⟩)
    unfold b15 at hW9
    go_wp2
    clear u0 u1 u2 u3 u4 u5 u6 u7 u8 u9 u10 u11 u12 u13 u14 uf0 uf1 uf2 uf3 uf4 uf5 uf6 uf7 uf8 uf9 uf10 uf11 uf12 uf13 uf14
    clear SS SB
    rw [← hW9]
    clear hW9
    have pu0 : W9.cell? ⟨w.heap.size, 0, none⟩ = some (.int .i64 0) := by rw [k9.cell]; rfl
    have pu1 : W9.cell? ⟨w.heap.size, 1, none⟩ = some (.int .i64 0) := by rw [k9.cell]; rfl
    have pu2 : W9.cell? ⟨w.heap.size, 2, none⟩ = some (.int .i64 0) := by rw [k9.cell]; rfl
    have pu3 : W9.cell? ⟨w.heap.size, 3, none⟩ = some (.bool false) := by rw [k9.cell]; rfl
    have pu4 : W9.cell? ⟨w.heap.size, 4, none⟩ = some (.slice none 0 0) := by rw [k9.cell]; rfl
    have pu5 : W9.cell? ⟨w.heap.size, 5, none⟩ = some (.int .i64 0) := by rw [k9.cell]; rfl
    have pu6 : W9.cell? ⟨w.heap.size, 6, none⟩ = some (.bool false) := by rw [k9.cell]; rfl
    have pu7 : W9.cell? ⟨w.heap.size, 7, none⟩ = some (.slice none 0 0) := by rw [k9.cell]; rfl
    have pu8 : W9.cell? ⟨w.heap.size, 8, none⟩ = some (.int .i64 0) := by rw [k9.cell]; rfl
    have pu9 : W9.cell? ⟨w.heap.size, 9, none⟩ = some (.bool false) := by rw [k9.cell]; rfl
    have pu10 : W9.cell? ⟨w.heap.size, 10, none⟩ = some (.slice none 0 0) := by rw [k9.cell]; rfl
    have pu11 : W9.cell? ⟨w.heap.size, 11, none⟩ = some (.int .i64 0) := by rw [k9.cell]; rfl
    have pu12 : W9.cell? ⟨w.heap.size, 12, none⟩ = some (.bool false) := by rw [k9.cell]; rfl
    have pu13 : W9.cell? ⟨w.heap.size, 13, none⟩ = some (.slice none 0 0) := by rw [k9.cell]; rfl
    have pu14 : W9.cell? ⟨w.heap.size, 14, none⟩ = some (.int .i64 0) := by rw [k9.cell]; rfl
    clear k9
    refine ⟨rfl, .tuple #[.slice none 0 0, .agg #[.int .i64 0, .int .i64 0, .int .i64 0, .bool false, .slice none 0 0, .int .i64 0, .bool false, .slice none 0 0, .int .i64 0, .bool false, .slice none 0 0, .int .i64 0, .bool false, .slice none 0 0, .int .i64 0], .int .i64 2], ?_, [], zE, zO, _, _, _, rfl, gd.out, rfl, g9.out⟩
    simp [results, Try.f17, go_sem, pu0, pu1, pu2, pu3, pu4, pu5, pu6, pu7, pu8, pu9, pu10, pu11, pu12, pu13, pu14]
  · exact absurd ⟨hE, hne⟩ gX.out
set_option maxRecDepth 100000 in
set_option maxHeartbeats 16000000 in
theorem rlose_any_none (A : Option Addr) (n c : Nat) (l : List En) (hm : n ≤ 10000) (hnc : n ≤ c) (hs1 : ∀ x ∈ l, smM x.give) (w : World) (h : Ens w w.heap.size A n l) (N : Int) (hX : ChkF l 0 ∧ (0 ≤ N ∧ N ≤ 1048575)) (hno : ∀ (j : Nat) (x : En), l[j]? = some x → x.nu ≠ N) : Calls Try.prog 17 #[.slice A n c, .int .i64 N] w fun en w' => ∃ l' x ox v vx E, en = .returned (.tuple #[v, vx, .int .i64 E]) ∧ CmeF false l N l' x E ∧ vx = aggE ox ∧ PairE w v l' x ox w' := by
  obtain ⟨V, hV⟩ : ∃ V, V = w.alloc (.cells #[.int .i64 0, .int .i64 0, .int .i64 0, .bool false, .slice none 0 0, .int .i64 0, .bool false, .slice none 0 0, .int .i64 0, .bool false, .slice none 0 0, .int .i64 0, .bool false, .slice none 0 0, .int .i64 0] 40) := ⟨_, rfl⟩
  have hBV : Below w.heap.size w V := by rw [hV]; exact (Below.refl _ _).alloc (Nat.le_refl _) _
  have hVs : w.heap.size < V.heap.size := by rw [hV, World.size_alloc]; exact Nat.lt_succ_self _
  have kb : Blk V w.heap.size 40 #[.int .i64 0, .int .i64 0, .int .i64 0, .bool false, .slice none 0 0, .int .i64 0, .bool false, .slice none 0 0, .int .i64 0, .bool false, .slice none 0 0, .int .i64 0, .bool false, .slice none 0 0, .int .i64 0] := by rw [hV]; exact Blk.new w _ _
  have hf := rasked_any A n c l (by unfold maxLen; omega) V (Recs.more (Recs.below h hBV) hBV.size) N
  have gln := Lib.hid (ens_len h)
  have gh := Lib.hid h
  have gs := Lib.hid hs1
  have gX := Lib.hid hX
  have gY := Lib.hid hno
  clear hno
  clear h hs1 hX
  go_enter Try.func17, Try.ntmps17
  go_wp2_with fail
  rw [← hV]
  clear hV
  refine hf.mono ?_
  rintro en w1 ⟨E, rfl, hF, hb1'⟩
  clear hf
  have hb1 : Below w.heap.size w w1 := hBV.trans (hb1'.mono hBV.size)
  have kb1 := kb.below hb1' kb.lt
  have s1 : V.heap.size ≤ w1.heap.size := hb1'.size
  have kl1 := kb1.lt
  rcases hF with ⟨hE, hne⟩ | ⟨hE, hne, rfl⟩ | ⟨hE, hne, rfl⟩
  · exact absurd (chk_one hE gX.out.1) hne
  · exact absurd gX.out.2 hne
  · have gE := Lib.hid hE
    have gn : Hid (∀ {l' x}, _ → CmeF false l N l' x 0) := Lib.hid (fun hh => .inr (.inr ⟨hE, hne, rfl, hh⟩))
    have hn16 : n ≤ 16 := by
      rcases hE.has with ⟨h, _⟩ | ⟨_, h, _⟩ | ⟨h, _⟩
      · cases h
      · rw [← gln.out]; exact h
      · cases h
    have hp2 := rplace_any A n c l hn16 w1 (Recs.more (Recs.below gh.out hb1) hb1.size) N
    clear hE hne
    go_wp2_with fail
    refine hp2.mono ?_
    rintro en w2 ⟨a, rfl, hP, hb2'⟩
    clear hp2
    have hb2 : Below w.heap.size w w2 := hb1.trans (hb2'.mono hb1.size)
    have s2 : w1.heap.size ≤ w2.heap.size := hb2'.size
    have kb2 := kb1.below hb2' kb1.lt
    have h2 : Ens w2 w2.heap.size A n l := Recs.more (Recs.below gh.out hb2) hb2.size
    rcases hP with ⟨k, rfl, hk, hkx, hkj⟩ | ⟨rfl, hno⟩
    · exact absurd (hkx _ (List.getElem?_eq_getElem hk)) (gY.out _ _ (List.getElem?_eq_getElem hk))
    · have ht := retwin_any A n c l hm gs.out w2 h2
      have gd : Hid (CmeF false l N l zE 0) := Lib.hid (gn.out (.inr ⟨hno, rfl, rfl⟩))
      clear h2 hno
      go_wp2_with fail
      refine ht.mono ?_
      rintro en w3 ⟨Ao, co, rfl, hTw⟩
      have hb3' := hTw.2.2.2.1
      have hb3 : Below w.heap.size w w3 := hb2.trans (hb3'.mono hb2.size)
      have s3 : w2.heap.size ≤ w3.heap.size := hb3'.size
      have kb3 := kb2.below hb3' kb2.lt
      have gP := Lib.hid (pairC_zero hTw.2.2.2.2)
      clear ht hTw
      have SB : ∀ w', Blk w' w.heap.size 40 #[.int .i64 0, .int .i64 0, .int .i64 0, .bool false, .slice none 0 0, .int .i64 0, .bool false, .slice none 0 0, .int .i64 0, .bool false, .slice none 0 0, .int .i64 0, .bool false, .slice none 0 0, .int .i64 0] → w'.cell? ⟨w.heap.size, 0, none⟩ = some (.int .i64 0) ∧ w'.cell? ⟨w.heap.size, 1, none⟩ = some (.int .i64 0) ∧ w'.cell? ⟨w.heap.size, 2, none⟩ = some (.int .i64 0) ∧ w'.cell? ⟨w.heap.size, 3, none⟩ = some (.bool false) ∧ w'.cell? ⟨w.heap.size, 4, none⟩ = some (.slice none 0 0) ∧ w'.cell? ⟨w.heap.size, 5, none⟩ = some (.int .i64 0) ∧ w'.cell? ⟨w.heap.size, 6, none⟩ = some (.bool false) ∧ w'.cell? ⟨w.heap.size, 7, none⟩ = some (.slice none 0 0) ∧ w'.cell? ⟨w.heap.size, 8, none⟩ = some (.int .i64 0) ∧ w'.cell? ⟨w.heap.size, 9, none⟩ = some (.bool false) ∧ w'.cell? ⟨w.heap.size, 10, none⟩ = some (.slice none 0 0) ∧ w'.cell? ⟨w.heap.size, 11, none⟩ = some (.int .i64 0) ∧ w'.cell? ⟨w.heap.size, 12, none⟩ = some (.bool false) ∧ w'.cell? ⟨w.heap.size, 13, none⟩ = some (.slice none 0 0) ∧ w'.cell? ⟨w.heap.size, 14, none⟩ = some (.int .i64 0) ∧ w'.frozen? ⟨w.heap.size, 0, none⟩ = false ∧ w'.frozen? ⟨w.heap.size, 1, none⟩ = false ∧ w'.frozen? ⟨w.heap.size, 2, none⟩ = false ∧ w'.frozen? ⟨w.heap.size, 3, none⟩ = false ∧ w'.frozen? ⟨w.heap.size, 4, none⟩ = false ∧ w'.frozen? ⟨w.heap.size, 5, none⟩ = false ∧ w'.frozen? ⟨w.heap.size, 6, none⟩ = false ∧ w'.frozen? ⟨w.heap.size, 7, none⟩ = false ∧ w'.frozen? ⟨w.heap.size, 8, none⟩ = false ∧ w'.frozen? ⟨w.heap.size, 9, none⟩ = false ∧ w'.frozen? ⟨w.heap.size, 10, none⟩ = false ∧ w'.frozen? ⟨w.heap.size, 11, none⟩ = false ∧ w'.frozen? ⟨w.heap.size, 12, none⟩ = false ∧ w'.frozen? ⟨w.heap.size, 13, none⟩ = false ∧ w'.frozen? ⟨w.heap.size, 14, none⟩ = false := by
        intro w' k5
        refine ⟨?_, ?_, ?_, ?_, ?_, ?_, ?_, ?_, ?_, ?_, ?_, ?_, ?_, ?_, ?_, ?_, ?_, ?_, ?_, ?_, ?_, ?_, ?_, ?_, ?_, ?_, ?_, ?_, ?_, ?_⟩ <;> first | exact k5.frozen _ | (rw [k5.cell]; rfl)
      have SS : ∀ w', Below w3.heap.size w3 w' → w'.cell? ⟨w.heap.size, 0, none⟩ = some (.int .i64 0) ∧ w'.cell? ⟨w.heap.size, 1, none⟩ = some (.int .i64 0) ∧ w'.cell? ⟨w.heap.size, 2, none⟩ = some (.int .i64 0) ∧ w'.cell? ⟨w.heap.size, 3, none⟩ = some (.bool false) ∧ w'.cell? ⟨w.heap.size, 4, none⟩ = some (.slice none 0 0) ∧ w'.cell? ⟨w.heap.size, 5, none⟩ = some (.int .i64 0) ∧ w'.cell? ⟨w.heap.size, 6, none⟩ = some (.bool false) ∧ w'.cell? ⟨w.heap.size, 7, none⟩ = some (.slice none 0 0) ∧ w'.cell? ⟨w.heap.size, 8, none⟩ = some (.int .i64 0) ∧ w'.cell? ⟨w.heap.size, 9, none⟩ = some (.bool false) ∧ w'.cell? ⟨w.heap.size, 10, none⟩ = some (.slice none 0 0) ∧ w'.cell? ⟨w.heap.size, 11, none⟩ = some (.int .i64 0) ∧ w'.cell? ⟨w.heap.size, 12, none⟩ = some (.bool false) ∧ w'.cell? ⟨w.heap.size, 13, none⟩ = some (.slice none 0 0) ∧ w'.cell? ⟨w.heap.size, 14, none⟩ = some (.int .i64 0) ∧ w'.frozen? ⟨w.heap.size, 0, none⟩ = false ∧ w'.frozen? ⟨w.heap.size, 1, none⟩ = false ∧ w'.frozen? ⟨w.heap.size, 2, none⟩ = false ∧ w'.frozen? ⟨w.heap.size, 3, none⟩ = false ∧ w'.frozen? ⟨w.heap.size, 4, none⟩ = false ∧ w'.frozen? ⟨w.heap.size, 5, none⟩ = false ∧ w'.frozen? ⟨w.heap.size, 6, none⟩ = false ∧ w'.frozen? ⟨w.heap.size, 7, none⟩ = false ∧ w'.frozen? ⟨w.heap.size, 8, none⟩ = false ∧ w'.frozen? ⟨w.heap.size, 9, none⟩ = false ∧ w'.frozen? ⟨w.heap.size, 10, none⟩ = false ∧ w'.frozen? ⟨w.heap.size, 11, none⟩ = false ∧ w'.frozen? ⟨w.heap.size, 12, none⟩ = false ∧ w'.frozen? ⟨w.heap.size, 13, none⟩ = false ∧ w'.frozen? ⟨w.heap.size, 14, none⟩ = false := fun w' hw => SB w' (kb3.below hw kb3.lt)
      obtain ⟨u0, u1, u2, u3, u4, u5, u6, u7, u8, u9, u10, u11, u12, u13, u14, uf0, uf1, uf2, uf3, uf4, uf5, uf6, uf7, uf8, uf9, uf10, uf11, uf12, uf13, uf14⟩ := SS w3 (Below.refl _ _)
      obtain ⟨W9, hW9⟩ : ∃ W9, W9 = (b15 w3 w.heap.size (.int .i64 0) (.int .i64 0) (.int .i64 0) (.bool false) (.slice none 0 0) (.int .i64 0) (.bool false) (.slice none 0 0) (.int .i64 0) (.bool false) (.slice none 0 0) (.int .i64 0) (.bool false) (.slice none 0 0) (.int .i64 0)) := ⟨_, rfl⟩
      have k9 : Blk W9 w.heap.size 40 #[.int .i64 0, .int .i64 0, .int .i64 0, .bool false, .slice none 0 0, .int .i64 0, .bool false, .slice none 0 0, .int .i64 0, .bool false, .slice none 0 0, .int .i64 0, .bool false, .slice none 0 0, .int .i64 0] := by rw [hW9]; exact (b15_blk kb3 rfl (.int .i64 0) (.int .i64 0) (.int .i64 0) (.bool false) (.slice none 0 0) (.int .i64 0) (.bool false) (.slice none 0 0) (.int .i64 0) (.bool false) (.slice none 0 0) (.int .i64 0) (.bool false) (.slice none 0 0) (.int .i64 0))
      have g9 : Hid (PairE w (.slice Ao n co) (l) (zE) (zO) W9) := Lib.hid (by rw [hW9]; exact ⟨(gP.out.other (by omega) (b15_other w3 _ (.int .i64 0) (.int .i64 0) (.int .i64 0) (.bool false) (.slice none 0 0) (.int .i64 0) (.bool false) (.slice none 0 0) (.int .i64 0) (.bool false) (.slice none 0 0) (.int .i64 0) (.bool false) (.slice none 0 0) (.int .i64 0))).base_le (by omega), b15_below hb3 (Nat.le_refl _) (.int .i64 0) (.int .i64 0) (.int .i64 0) (.bool false) (.slice none 0 0) (.int .i64 0) (.bool false) (.slice none 0 0) (.int .i64 0) (.bool false) (.slice none 0 0) (.int .i64 0) (.bool false) (.slice none 0 0) (.int .i64 0)⟩)
      unfold b15 at hW9
      go_wp2
      clear u0 u1 u2 u3 u4 u5 u6 u7 u8 u9 u10 u11 u12 u13 u14 uf0 uf1 uf2 uf3 uf4 uf5 uf6 uf7 uf8 uf9 uf10 uf11 uf12 uf13 uf14
      clear SS SB
      rw [← hW9]
      clear hW9
      have pu0 : W9.cell? ⟨w.heap.size, 0, none⟩ = some (.int .i64 0) := by rw [k9.cell]; rfl
      have pu1 : W9.cell? ⟨w.heap.size, 1, none⟩ = some (.int .i64 0) := by rw [k9.cell]; rfl
      have pu2 : W9.cell? ⟨w.heap.size, 2, none⟩ = some (.int .i64 0) := by rw [k9.cell]; rfl
      have pu3 : W9.cell? ⟨w.heap.size, 3, none⟩ = some (.bool false) := by rw [k9.cell]; rfl
      have pu4 : W9.cell? ⟨w.heap.size, 4, none⟩ = some (.slice none 0 0) := by rw [k9.cell]; rfl
      have pu5 : W9.cell? ⟨w.heap.size, 5, none⟩ = some (.int .i64 0) := by rw [k9.cell]; rfl
      have pu6 : W9.cell? ⟨w.heap.size, 6, none⟩ = some (.bool false) := by rw [k9.cell]; rfl
      have pu7 : W9.cell? ⟨w.heap.size, 7, none⟩ = some (.slice none 0 0) := by rw [k9.cell]; rfl
      have pu8 : W9.cell? ⟨w.heap.size, 8, none⟩ = some (.int .i64 0) := by rw [k9.cell]; rfl
      have pu9 : W9.cell? ⟨w.heap.size, 9, none⟩ = some (.bool false) := by rw [k9.cell]; rfl
      have pu10 : W9.cell? ⟨w.heap.size, 10, none⟩ = some (.slice none 0 0) := by rw [k9.cell]; rfl
      have pu11 : W9.cell? ⟨w.heap.size, 11, none⟩ = some (.int .i64 0) := by rw [k9.cell]; rfl
      have pu12 : W9.cell? ⟨w.heap.size, 12, none⟩ = some (.bool false) := by rw [k9.cell]; rfl
      have pu13 : W9.cell? ⟨w.heap.size, 13, none⟩ = some (.slice none 0 0) := by rw [k9.cell]; rfl
      have pu14 : W9.cell? ⟨w.heap.size, 14, none⟩ = some (.int .i64 0) := by rw [k9.cell]; rfl
      clear k9
      refine ⟨rfl, .tuple #[.slice Ao n co, .agg #[.int .i64 0, .int .i64 0, .int .i64 0, .bool false, .slice none 0 0, .int .i64 0, .bool false, .slice none 0 0, .int .i64 0, .bool false, .slice none 0 0, .int .i64 0, .bool false, .slice none 0 0, .int .i64 0], .int .i64 0], ?_, l, zE, zO, _, _, _, rfl, gd.out, rfl, g9.out⟩
      simp [results, Try.f17, go_sem, pu0, pu1, pu2, pu3, pu4, pu5, pu6, pu7, pu8, pu9, pu10, pu11, pu12, pu13, pu14]
set_option maxRecDepth 100000 in
set_option maxHeartbeats 16000000 in
theorem rlose_any_someY (A : Option Addr) (n c : Nat) (l : List En) (hm : n ≤ 10000) (hnc : n ≤ c) (hs1 : ∀ x ∈ l, smM x.give) (w : World) (h : Ens w w.heap.size A n l) (N : Int) (hX : ChkF l 0 ∧ (0 ≤ N ∧ N ≤ 1048575)) (hyes : ∃ (j : Nat) (x : En), l[j]? = some x ∧ x.nu = N) (hcc : ∀ (j : Nat) (x : En), l[j]? = some x → x.nu = N → x.cp = 1) : Calls Try.prog 17 #[.slice A n c, .int .i64 N] w fun en w' => ∃ l' x ox v vx E, en = .returned (.tuple #[v, vx, .int .i64 E]) ∧ CmeF false l N l' x E ∧ vx = aggE ox ∧ PairE w v l' x ox w' := by
  obtain ⟨V, hV⟩ : ∃ V, V = w.alloc (.cells #[.int .i64 0, .int .i64 0, .int .i64 0, .bool false, .slice none 0 0, .int .i64 0, .bool false, .slice none 0 0, .int .i64 0, .bool false, .slice none 0 0, .int .i64 0, .bool false, .slice none 0 0, .int .i64 0] 40) := ⟨_, rfl⟩
  have hBV : Below w.heap.size w V := by rw [hV]; exact (Below.refl _ _).alloc (Nat.le_refl _) _
  have hVs : w.heap.size < V.heap.size := by rw [hV, World.size_alloc]; exact Nat.lt_succ_self _
  have kb : Blk V w.heap.size 40 #[.int .i64 0, .int .i64 0, .int .i64 0, .bool false, .slice none 0 0, .int .i64 0, .bool false, .slice none 0 0, .int .i64 0, .bool false, .slice none 0 0, .int .i64 0, .bool false, .slice none 0 0, .int .i64 0] := by rw [hV]; exact Blk.new w _ _
  have hf := rasked_any A n c l (by unfold maxLen; omega) V (Recs.more (Recs.below h hBV) hBV.size) N
  have gln := Lib.hid (ens_len h)
  have gh := Lib.hid h
  have gs := Lib.hid hs1
  have gX := Lib.hid hX
  have gY := Lib.hid hyes
  clear hyes
  have gC := Lib.hid hcc
  clear hcc
  clear h hs1 hX
  go_enter Try.func17, Try.ntmps17
  go_wp2_with fail
  rw [← hV]
  clear hV
  refine hf.mono ?_
  rintro en w1 ⟨E, rfl, hF, hb1'⟩
  clear hf
  have hb1 : Below w.heap.size w w1 := hBV.trans (hb1'.mono hBV.size)
  have kb1 := kb.below hb1' kb.lt
  have s1 : V.heap.size ≤ w1.heap.size := hb1'.size
  have kl1 := kb1.lt
  rcases hF with ⟨hE, hne⟩ | ⟨hE, hne, rfl⟩ | ⟨hE, hne, rfl⟩
  · exact absurd (chk_one hE gX.out.1) hne
  · exact absurd gX.out.2 hne
  · have gE := Lib.hid hE
    have gn : Hid (∀ {l' x}, _ → CmeF false l N l' x 0) := Lib.hid (fun hh => .inr (.inr ⟨hE, hne, rfl, hh⟩))
    have hn16 : n ≤ 16 := by
      rcases hE.has with ⟨h, _⟩ | ⟨_, h, _⟩ | ⟨h, _⟩
      · cases h
      · rw [← gln.out]; exact h
      · cases h
    have hp2 := rplace_any A n c l hn16 w1 (Recs.more (Recs.below gh.out hb1) hb1.size) N
    clear hE hne
    go_wp2_with fail
    refine hp2.mono ?_
    rintro en w2 ⟨a, rfl, hP, hb2'⟩
    clear hp2
    have hb2 : Below w.heap.size w w2 := hb1.trans (hb2'.mono hb1.size)
    have s2 : w1.heap.size ≤ w2.heap.size := hb2'.size
    have kb2 := kb1.below hb2' kb1.lt
    have h2 : Ens w2 w2.heap.size A n l := Recs.more (Recs.below gh.out hb2) hb2.size
    rcases hP with ⟨k, rfl, hk, hkx, hkj⟩ | ⟨rfl, hno⟩
    rotate_left
    · obtain ⟨j, x, hx, hxn⟩ := gY.out
      exact absurd hxn (hno _ _ hx)
    · obtain ⟨x, hx⟩ : ∃ x, l[k]? = some x := ⟨_, List.getElem?_eq_getElem hk⟩
      have hxn := hkx x hx
      have hlt : k < n := by rw [← gln.out]; exact hk
      have gx := Lib.hid hx
      have gxn := Lib.hid hxn
      have gh2 := Lib.hid h2
      obtain ⟨ad, nu, ep, cp, ag0, aX0, an0, ac0, ae0, ag1, aX1, an1, ac1, ae1, ag2, aX2, an2, ac2, ae2, ag3, aX3, an3, ac3, ae3, m, rfl, _, hl1, _, hrel1⟩ := ens_rel h2 hlt
      obtain ⟨_, _, ac, _⟩ := (hrel1 w2 (Below.refl _ _)).2
      clear hrel1
      have hcp : cp = x.cp := by rw [hx] at hl1; injection hl1 with hl1; rw [hl1]
      have d1 : 1 ≤ x.cp := (gE.out.good k _ hx).2.2.2.2.1
      have d2 : x.cp ≤ 16 := (gE.out.good k _ hx).2.2.2.2.2.1
      subst hcp
      clear hl1
      have i0 : decide ((k : Int) < 0) = false := decide_eq_false (by omega)
      have i1 : (0 : Int) ≤ k := by omega
      have i2 : (k : Int) < n := by omega
      clear h2 hkx hkj hk hxn
      have gd : Hid (CmeF false l N (l.take k ++ l.drop (k + 1)) x 0) := Lib.hid (gn.out (.inl ⟨k, x, gx.out, gxn.out, .inl ⟨.inr (gC.out _ _ gx.out gxn.out), rfl, rfl⟩⟩))
      rw [gC.out _ _ gx.out gxn.out] at ac
      clear hx d1 d2
      have hwo : ∀ w', Below w2.heap.size w2 w' → Calls Try.prog 42 #[.slice (some ad) n c, .int .i64 (k : Int)] w' fun en w'' => ∃ Ao co, en = .returned (.slice Ao (n - 1) co) ∧ AccE w'' w'.heap.size (.slice Ao (n - 1) co) (n - 1) (l.take k ++ l.drop (k + 1)) ∧ Below w'.heap.size w' w'' :=
        fun w' hw => (rwithout_any (some ad) n c l k hlt (by omega) hnc gs.out w' ((gh2.out.below hw).more hw.size)).mono (by rintro en w'' ⟨Ao, co, rfl, hT⟩; exact ⟨Ao, co, rfl, hT.2.2.2.2, hT.2.2.2.1⟩)
      have htw : ∀ w', Below w2.heap.size w2 w' → Calls Try.prog 8 #[.slice (some (ad.add (k * 15))) 1 (c - k)] w' fun en w'' => ∃ (g co : Nat) (o : EO), en = .returned (.slice (some ⟨g, 0, none⟩) 1 co) ∧ o.x = x ∧ ownE w'' w'.heap.size o ∧ (w''.cell? ⟨g, 0, none⟩ = some (.int .i64 o.x.nu) ∧ w''.cell? ⟨g, 1, none⟩ = some (.int .i64 o.x.ep) ∧ w''.cell? ⟨g, 2, none⟩ = some (.int .i64 o.x.cp) ∧ w''.cell? ⟨g, 3, none⟩ = some (.bool o.x.give.s.neg) ∧ w''.cell? ⟨g, 4, none⟩ = some (.slice o.X0 o.x.give.s.ls.length o.c0) ∧ w''.cell? ⟨g, 5, none⟩ = some (.int .i64 o.x.give.s.ex) ∧ w''.cell? ⟨g, 6, none⟩ = some (.bool o.x.give.w.neg) ∧ w''.cell? ⟨g, 7, none⟩ = some (.slice o.X1 o.x.give.w.ls.length o.c1) ∧ w''.cell? ⟨g, 8, none⟩ = some (.int .i64 o.x.give.w.ex) ∧ w''.cell? ⟨g, 9, none⟩ = some (.bool o.x.give.c.neg) ∧ w''.cell? ⟨g, 10, none⟩ = some (.slice o.X2 o.x.give.c.ls.length o.c2) ∧ w''.cell? ⟨g, 11, none⟩ = some (.int .i64 o.x.give.c.ex) ∧ w''.cell? ⟨g, 12, none⟩ = some (.bool o.x.give.a.neg) ∧ w''.cell? ⟨g, 13, none⟩ = some (.slice o.X3 o.x.give.a.ls.length o.c3) ∧ w''.cell? ⟨g, 14, none⟩ = some (.int .i64 o.x.give.a.ex)) ∧ Below w'.heap.size w' w'' := by
        intro w' hw
        have d2 := ((gh2.out.below hw).more hw.size).cut (show k ≤ n by omega) hnc
        rw [if_neg (by omega), Option.map_some, ← List.map_drop] at d2
        have d3 := d2.take (show 1 ≤ n - k by omega)
        rw [← List.map_take, takeE_one gx.out] at d3
        refine (retwin_any _ 1 (c - k) _ (by omega) (fun y hy => ?_) w' d3).mono ?_
        · rw [List.mem_singleton.1 hy]; exact gs.out _ (List.mem_of_getElem? gx.out)
        · rintro en w'' ⟨Ao, co, rfl, hT⟩
          obtain ⟨g, o, rfl, ho, hw9, hce⟩ := accE_one hT.2.2.2.2
          exact ⟨g, co, o, rfl, ho, hw9, hce, hT.2.2.2.1⟩
      have i3 : (k : Int) ≤ (k : Int) + 1 := by omega
      have i5 : (k : Int) + 1 ≤ n := by omega
      have i7 : (k : Int) ≤ c := by omega
      have i8 : (0 : Int) ≤ (k : Int) + 1 := by omega
      have i9 : ((k : Int) + 1).toNat = k + 1 := by omega
      have i10 : ¬ c = k := by omega
      have i11 : ¬ c = 0 := by omega
      have i13 : (k : Int) + 1 ≤ c := by omega
      have w9 : IntKind.i64.wrap ((k : Int) + 1) = (k : Int) + 1 := IntWalk.i64_in _ (by omega)
      have hs0 : Below w2.heap.size w2 w2 := Below.refl _ _
      go_wp2_with fail
      refine wp_region_noPanic ?_
      refine wp_region_held_drew (S := fun _ => True) (by kernel_rfl) (trivial) (fun hHeld => ?_)
      refine wpAnyH_take (i := 0) (oi := ?o0x2) (v := ?v0x2) ?ho0x2 (by kernel_rfl) (by kernel_rfl) (by kernel_rfl) (fun _ _ _ h => h) (Or.inl ⟨?wn0x2, ?yn0x2⟩) (by assumption) ?rest0x2
      case ho0x2 => (simp only [List.getElem?_toArray, List.getElem?_cons_zero, List.getElem?_cons_succ]; rfl)
      case wn0x2 => rfl
      case yn0x2 => (intro w hSw; (try dsimp only at hSw); go_simp; (try with_reducible rfl))
      (try simp only [Act.put, List.setIfInBounds_toArray, List.set_cons_zero, List.set_cons_succ])
      refine wpAnyH_take (i := 1) (oi := ?o1x2) (v := ?v1x2) ?ho1x2 (by kernel_rfl) (by kernel_rfl) (by kernel_rfl) (fun _ _ _ h => h) (Or.inl ⟨?wn1x2, ?yn1x2⟩) (by assumption) ?rest1x2
      case ho1x2 => (simp only [List.getElem?_toArray, List.getElem?_cons_zero, List.getElem?_cons_succ]; rfl)
      case wn1x2 => rfl
      case yn1x2 => (intro w hSw; (try dsimp only at hSw); go_simp; (try with_reducible rfl))
      (try simp only [Act.put, List.setIfInBounds_toArray, List.set_cons_zero, List.set_cons_succ])
      refine wpAnyH_take (i := 3) (oi := ?o3x2) (v := ?v3x2) ?ho3x2 (by kernel_rfl) (by kernel_rfl) (by kernel_rfl) (fun _ _ _ h => h) (Or.inl ⟨?wn3x2, ?yn3x2⟩) (by assumption) ?rest3x2
      case ho3x2 => (simp only [List.getElem?_toArray, List.getElem?_cons_zero, List.getElem?_cons_succ]; rfl)
      case wn3x2 => rfl
      case yn3x2 => (intro w hSw; (try dsimp only at hSw); go_simp; (try with_reducible rfl))
      (try simp only [Act.put, List.setIfInBounds_toArray, List.set_cons_zero, List.set_cons_succ])
      refine wpAnyH_take (i := 4) (oi := ?o4x2) (v := ?v4x2) ?ho4x2 (by kernel_rfl) (by kernel_rfl) (by kernel_rfl) (fun _ _ _ h => h) (Or.inl ⟨?wn4x2, ?yn4x2⟩) (by assumption) ?rest4x2
      case ho4x2 => (simp only [List.getElem?_toArray, List.getElem?_cons_zero, List.getElem?_cons_succ]; rfl)
      case wn4x2 => rfl
      case yn4x2 => (intro w hSw; (try dsimp only at hSw); go_simp; (try with_reducible rfl))
      (try simp only [Act.put, List.setIfInBounds_toArray, List.set_cons_zero, List.set_cons_succ])
      refine wpAnyH_take (i := 5) (oi := ?o5x2) (v := ?v5x2) ?ho5x2 (by kernel_rfl) (by kernel_rfl) (by kernel_rfl) (fun _ _ _ h => h) (Or.inl ⟨?wn5x2, ?yn5x2⟩) (by assumption) ?rest5x2
      case ho5x2 => (simp only [List.getElem?_toArray, List.getElem?_cons_zero, List.getElem?_cons_succ]; rfl)
      case wn5x2 => rfl
      case yn5x2 => (intro w hSw; (try dsimp only at hSw); go_simp; (try with_reducible rfl))
      (try simp only [Act.put, List.setIfInBounds_toArray, List.set_cons_zero, List.set_cons_succ])
      refine wpAnyH_take (i := 6) (oi := ?o6x2) (v := ?v6x2) ?ho6x2 (by kernel_rfl) (by kernel_rfl) (by kernel_rfl) (fun _ _ _ h => h) (Or.inl ⟨?wn6x2, ?yn6x2⟩) (by assumption) ?rest6x2
      case ho6x2 => (simp only [List.getElem?_toArray, List.getElem?_cons_zero, List.getElem?_cons_succ]; rfl)
      case wn6x2 => rfl
      case yn6x2 => (intro w hSw; (try dsimp only at hSw); go_simp; (try with_reducible rfl))
      (try simp only [Act.put, List.setIfInBounds_toArray, List.set_cons_zero, List.set_cons_succ])
      refine wpAnyH_take (i := 7) (oi := ?o7x2) (v := ?v7x2) ?ho7x2 (by kernel_rfl) (by kernel_rfl) (by kernel_rfl) (fun _ _ _ h => h) (Or.inl ⟨?wn7x2, ?yn7x2⟩) (by assumption) ?rest7x2
      case ho7x2 => (simp only [List.getElem?_toArray, List.getElem?_cons_zero, List.getElem?_cons_succ]; rfl)
      case wn7x2 => rfl
      case yn7x2 => (intro w hSw; (try dsimp only at hSw); go_simp; (try with_reducible rfl))
      (try simp only [Act.put, List.setIfInBounds_toArray, List.set_cons_zero, List.set_cons_succ])
      refine wpAnyH_ready (rs := [2]) (by kernel_rfl) (by simp) ?_
      refine AllReadyH.cons (o := ?o2x2) ?ho2x2 (fun K hK => ?rest2x2) AllReadyH.nil
      case ho2x2 => (simp only [List.getElem?_toArray, List.getElem?_cons_zero, List.getElem?_cons_succ]; rfl)
      go_simp
      with_reducible refine (hwo _ (by (repeat first | with_reducible assumption | with_reducible exact Below.refl _ _ | with_reducible refine Below.drew ?_ | (with_reducible refine Below.setCell ?_ (by first | exact Nat.le_refl _ | (simp only [World.size_alloc, World.size_drew, World.size_setCell]; omega) | omega) _) | (with_reducible refine Below.alloc ?_ (by first | exact Nat.le_refl _ | (simp only [World.size_alloc, World.size_drew, World.size_setCell]; omega) | omega) _)))).mono ?_
      rintro en w8 ⟨Ao, co, rfl, ho8, hb8⟩
      have hb9 : Below w2.heap.size w2 w8 := Below.trans (by (repeat first | with_reducible assumption | with_reducible exact Below.refl _ _ | with_reducible refine Below.drew ?_ | (with_reducible refine Below.setCell ?_ (by first | exact Nat.le_refl _ | (simp only [World.size_alloc, World.size_drew, World.size_setCell]; omega) | omega) _) | (with_reducible refine Below.alloc ?_ (by first | exact Nat.le_refl _ | (simp only [World.size_alloc, World.size_drew, World.size_setCell]; omega) | omega) _))) (hb8.mono (by first | exact Nat.le_refl _ | (simp only [World.size_alloc, World.size_drew, World.size_setCell]; omega) | omega))
      clear hwo ac
      refine hK.out _ _ (trivial) (fun hHeld => ?_)
      clear hK K
      (try simp only [Act.put, List.setIfInBounds_toArray, List.set_cons_zero, List.set_cons_succ])
      refine wpAnyH_ready (rs := [8]) (by kernel_rfl) (by simp) ?_
      refine AllReadyH.cons (o := ?o8x2) ?ho8x2 (fun K hK => ?rest8x2) AllReadyH.nil
      case ho8x2 => (simp only [List.getElem?_toArray, List.getElem?_cons_zero, List.getElem?_cons_succ]; rfl)
      go_simp
      with_reducible refine (htw _ (by (repeat first | with_reducible assumption | with_reducible exact Below.refl _ _ | with_reducible refine Below.drew ?_ | (with_reducible refine Below.setCell ?_ (by first | exact Nat.le_refl _ | (simp only [World.size_alloc, World.size_drew, World.size_setCell]; omega) | omega) _) | (with_reducible refine Below.alloc ?_ (by first | exact Nat.le_refl _ | (simp only [World.size_alloc, World.size_drew, World.size_setCell]; omega) | omega) _)))).mono ?_
      rintro en wB ⟨g, c9, o, rfl, hox, how, ⟨a0, a1, a2, a3, a4, a5, a6, a7, a8, a9, a10, a11, a12, a13, a14⟩, hb10⟩
      have hb11 : Below w2.heap.size w2 wB := hb9.trans (hb10.mono hb9.size)
      clear htw
      have kb9 := kb2.below hb11 kb2.lt
      have hb12 : Below w.heap.size w wB := hb2.trans (hb11.mono hb2.size)
      have gP : Hid (PairC V.heap.size (.slice Ao (n - 1) co) (l.take k ++ l.drop (k + 1)) o.x o wB) := Lib.hid ((pair_of ho8 hb10 (by have := hb8.size; omega) how).base_le (by simp only [World.size_drew]; omega))
      rw [← hox] at gd
      clear ho8 how hb8 hb9 hb10 hb11
      obtain ⟨⟨nu, ep, cp, ⟨⟨ag0, l0, ae0⟩, ⟨ag1, l1, ae1⟩, ⟨ag2, l2, ae2⟩, ⟨ag3, l3, ae3⟩⟩⟩, X0, c0, X1, c1, X2, c2, X3, c3⟩ := o
      dsimp only at a0 a1 a2 a3 a4 a5 a6 a7 a8 a9 a10 a11 a12 a13 a14 gP gd hox
      have uf0 : wB.frozen? ⟨w.heap.size, 0, none⟩ = false := kb9.frozen 0
      have uf1 : wB.frozen? ⟨w.heap.size, 1, none⟩ = false := kb9.frozen 1
      have uf2 : wB.frozen? ⟨w.heap.size, 2, none⟩ = false := kb9.frozen 2
      have uf3 : wB.frozen? ⟨w.heap.size, 3, none⟩ = false := kb9.frozen 3
      have uf4 : wB.frozen? ⟨w.heap.size, 4, none⟩ = false := kb9.frozen 4
      have uf5 : wB.frozen? ⟨w.heap.size, 5, none⟩ = false := kb9.frozen 5
      have uf6 : wB.frozen? ⟨w.heap.size, 6, none⟩ = false := kb9.frozen 6
      have uf7 : wB.frozen? ⟨w.heap.size, 7, none⟩ = false := kb9.frozen 7
      have uf8 : wB.frozen? ⟨w.heap.size, 8, none⟩ = false := kb9.frozen 8
      have uf9 : wB.frozen? ⟨w.heap.size, 9, none⟩ = false := kb9.frozen 9
      have uf10 : wB.frozen? ⟨w.heap.size, 10, none⟩ = false := kb9.frozen 10
      have uf11 : wB.frozen? ⟨w.heap.size, 11, none⟩ = false := kb9.frozen 11
      have uf12 : wB.frozen? ⟨w.heap.size, 12, none⟩ = false := kb9.frozen 12
      have uf13 : wB.frozen? ⟨w.heap.size, 13, none⟩ = false := kb9.frozen 13
      have uf14 : wB.frozen? ⟨w.heap.size, 14, none⟩ = false := kb9.frozen 14
      have u0 : wB.cell? ⟨w.heap.size, 0, none⟩ = some (.int .i64 0) := by rw [kb9.cell]; rfl
      have u1 : wB.cell? ⟨w.heap.size, 1, none⟩ = some (.int .i64 0) := by rw [kb9.cell]; rfl
      have u2 : wB.cell? ⟨w.heap.size, 2, none⟩ = some (.int .i64 0) := by rw [kb9.cell]; rfl
      have u3 : wB.cell? ⟨w.heap.size, 3, none⟩ = some (.bool false) := by rw [kb9.cell]; rfl
      have u4 : wB.cell? ⟨w.heap.size, 4, none⟩ = some (.slice none 0 0) := by rw [kb9.cell]; rfl
      have u5 : wB.cell? ⟨w.heap.size, 5, none⟩ = some (.int .i64 0) := by rw [kb9.cell]; rfl
      have u6 : wB.cell? ⟨w.heap.size, 6, none⟩ = some (.bool false) := by rw [kb9.cell]; rfl
      have u7 : wB.cell? ⟨w.heap.size, 7, none⟩ = some (.slice none 0 0) := by rw [kb9.cell]; rfl
      have u8 : wB.cell? ⟨w.heap.size, 8, none⟩ = some (.int .i64 0) := by rw [kb9.cell]; rfl
      have u9 : wB.cell? ⟨w.heap.size, 9, none⟩ = some (.bool false) := by rw [kb9.cell]; rfl
      have u10 : wB.cell? ⟨w.heap.size, 10, none⟩ = some (.slice none 0 0) := by rw [kb9.cell]; rfl
      have u11 : wB.cell? ⟨w.heap.size, 11, none⟩ = some (.int .i64 0) := by rw [kb9.cell]; rfl
      have u12 : wB.cell? ⟨w.heap.size, 12, none⟩ = some (.bool false) := by rw [kb9.cell]; rfl
      have u13 : wB.cell? ⟨w.heap.size, 13, none⟩ = some (.slice none 0 0) := by rw [kb9.cell]; rfl
      have u14 : wB.cell? ⟨w.heap.size, 14, none⟩ = some (.int .i64 0) := by rw [kb9.cell]; rfl
      refine hK.out _ _ (trivial) (fun hHeld => ?_)
      clear hK K
      (try simp only [Act.put, List.setIfInBounds_toArray, List.set_cons_zero, List.set_cons_succ])
      refine wpAnyH_take (i := 9) (oi := ?o9x2) (v := ?v9x2) ?ho9x2 (by kernel_rfl) (by kernel_rfl) (by kernel_rfl) (fun _ _ _ h => h) (Or.inl ⟨?wn9x2, ?yn9x2⟩) (by assumption) ?rest9x2
      case ho9x2 => (simp only [List.getElem?_toArray, List.getElem?_cons_zero, List.getElem?_cons_succ]; rfl)
      case wn9x2 => rfl
      case yn9x2 => (intro w hSw; (try dsimp only at hSw); go_simp; (try with_reducible rfl))
      (try simp only [Act.put, List.setIfInBounds_toArray, List.set_cons_zero, List.set_cons_succ])
      refine wpAnyH_take (i := 11) (oi := ?o11x2) (v := ?v11x2) ?ho11x2 (by kernel_rfl) (by kernel_rfl) (by kernel_rfl) (fun _ _ _ h => h) (Or.inl ⟨?wn11x2, ?yn11x2⟩) (by assumption) ?rest11x2
      case ho11x2 => (simp only [List.getElem?_toArray, List.getElem?_cons_zero, List.getElem?_cons_succ]; rfl)
      case wn11x2 => rfl
      case yn11x2 => (intro w hSw; (try dsimp only at hSw); go_simp; (try with_reducible rfl))
      (try simp only [Act.put, List.setIfInBounds_toArray, List.set_cons_zero, List.set_cons_succ])
      refine wpAnyH_ready (rs := [10]) (by kernel_rfl) (by simp) ?_
      refine AllReadyH.cons (o := ?o10x2) ?ho10x2 (fun K hK => ?rest10x2) AllReadyH.nil
      case ho10x2 => (simp only [List.getElem?_toArray, List.getElem?_cons_zero, List.getElem?_cons_succ]; rfl)
      go_simp
      refine hK.out _ _ (trivial) (fun hHeld => ?_)
      clear hK K
      (try simp only [Act.put, List.setIfInBounds_toArray, List.set_cons_zero, List.set_cons_succ])
      refine wpAnyH_ready (rs := [12]) (by kernel_rfl) (by simp) ?_
      refine AllReadyH.cons (o := ?o12x2) ?ho12x2 (fun K hK => ?rest12x2) AllReadyH.nil
      case ho12x2 => (simp only [List.getElem?_toArray, List.getElem?_cons_zero, List.getElem?_cons_succ]; rfl)
      go_simp
      refine hK.out _ _ (trivial) (fun hHeld => ?_)
      clear hK K
      (try simp only [Act.put, List.setIfInBounds_toArray, List.set_cons_zero, List.set_cons_succ])
      refine wpAnyH_take (i := 13) (oi := ?o13x2) (v := ?v13x2) ?ho13x2 (by kernel_rfl) (by kernel_rfl) (by kernel_rfl) (fun _ _ _ h => h) (Or.inl ⟨?wn13x2, ?yn13x2⟩) (by assumption) ?rest13x2
      case ho13x2 => (simp only [List.getElem?_toArray, List.getElem?_cons_zero, List.getElem?_cons_succ]; rfl)
      case wn13x2 => rfl
      case yn13x2 => (intro w hSw; (try dsimp only at hSw); go_simp; (try with_reducible rfl))
      (try simp only [Act.put, List.setIfInBounds_toArray, List.set_cons_zero, List.set_cons_succ])
      refine wpAnyH_done (by kernel_rfl) ?_ _
      refine NoPanic.normal ?_
      clear u0 u1 u2 u3 u4 u5 u6 u7 u8 u9 u10 u11 u12 u13 u14 uf0 uf1 uf2 uf3 uf4 uf5 uf6 uf7 uf8 uf9 uf10 uf11 uf12 uf13 uf14 a0 a1 a2 a3 a4 a5 a6 a7 a8 a9 a10 a11 a12 a13 a14
      obtain ⟨W9, hW9⟩ : ∃ W9, W9 = (b15 wB w.heap.size (.int .i64 nu) (.int .i64 ep) (.int .i64 cp) (.bool ag0) (.slice X0 l0.length c0) (.int .i64 ae0) (.bool ag1) (.slice X1 l1.length c1) (.int .i64 ae1) (.bool ag2) (.slice X2 l2.length c2) (.int .i64 ae2) (.bool ag3) (.slice X3 l3.length c3) (.int .i64 ae3)) := ⟨_, rfl⟩
      have k9 : Blk W9 w.heap.size 40 #[.int .i64 nu, .int .i64 ep, .int .i64 cp, .bool ag0, .slice X0 l0.length c0, .int .i64 ae0, .bool ag1, .slice X1 l1.length c1, .int .i64 ae1, .bool ag2, .slice X2 l2.length c2, .int .i64 ae2, .bool ag3, .slice X3 l3.length c3, .int .i64 ae3] := by rw [hW9]; exact (b15_blk kb9 rfl (.int .i64 nu) (.int .i64 ep) (.int .i64 cp) (.bool ag0) (.slice X0 l0.length c0) (.int .i64 ae0) (.bool ag1) (.slice X1 l1.length c1) (.int .i64 ae1) (.bool ag2) (.slice X2 l2.length c2) (.int .i64 ae2) (.bool ag3) (.slice X3 l3.length c3) (.int .i64 ae3))
      have g9 : Hid (PairE w (.slice Ao (n - 1) co) ((l.take k ++ l.drop (k + 1))) ((⟨nu, ep, cp, ⟨⟨ag0, l0, ae0⟩, ⟨ag1, l1, ae1⟩, ⟨ag2, l2, ae2⟩, ⟨ag3, l3, ae3⟩⟩⟩ : En)) ((⟨⟨nu, ep, cp, ⟨⟨ag0, l0, ae0⟩, ⟨ag1, l1, ae1⟩, ⟨ag2, l2, ae2⟩, ⟨ag3, l3, ae3⟩⟩⟩, X0, c0, X1, c1, X2, c2, X3, c3⟩ : EO)) W9) := Lib.hid (by rw [hW9]; exact ⟨(gP.out.other (by omega) (b15_other wB _ (.int .i64 nu) (.int .i64 ep) (.int .i64 cp) (.bool ag0) (.slice X0 l0.length c0) (.int .i64 ae0) (.bool ag1) (.slice X1 l1.length c1) (.int .i64 ae1) (.bool ag2) (.slice X2 l2.length c2) (.int .i64 ae2) (.bool ag3) (.slice X3 l3.length c3) (.int .i64 ae3))).base_le (by omega), b15_below hb12 (Nat.le_refl _) (.int .i64 nu) (.int .i64 ep) (.int .i64 cp) (.bool ag0) (.slice X0 l0.length c0) (.int .i64 ae0) (.bool ag1) (.slice X1 l1.length c1) (.int .i64 ae1) (.bool ag2) (.slice X2 l2.length c2) (.int .i64 ae2) (.bool ag3) (.slice X3 l3.length c3) (.int .i64 ae3)⟩)
      unfold b15 at hW9
      go_wp2
      rw [← hW9]
      clear hW9
      have pu0 : W9.cell? ⟨w.heap.size, 0, none⟩ = some (.int .i64 nu) := by rw [k9.cell]; rfl
      have pu1 : W9.cell? ⟨w.heap.size, 1, none⟩ = some (.int .i64 ep) := by rw [k9.cell]; rfl
      have pu2 : W9.cell? ⟨w.heap.size, 2, none⟩ = some (.int .i64 cp) := by rw [k9.cell]; rfl
      have pu3 : W9.cell? ⟨w.heap.size, 3, none⟩ = some (.bool ag0) := by rw [k9.cell]; rfl
      have pu4 : W9.cell? ⟨w.heap.size, 4, none⟩ = some (.slice X0 l0.length c0) := by rw [k9.cell]; rfl
      have pu5 : W9.cell? ⟨w.heap.size, 5, none⟩ = some (.int .i64 ae0) := by rw [k9.cell]; rfl
      have pu6 : W9.cell? ⟨w.heap.size, 6, none⟩ = some (.bool ag1) := by rw [k9.cell]; rfl
      have pu7 : W9.cell? ⟨w.heap.size, 7, none⟩ = some (.slice X1 l1.length c1) := by rw [k9.cell]; rfl
      have pu8 : W9.cell? ⟨w.heap.size, 8, none⟩ = some (.int .i64 ae1) := by rw [k9.cell]; rfl
      have pu9 : W9.cell? ⟨w.heap.size, 9, none⟩ = some (.bool ag2) := by rw [k9.cell]; rfl
      have pu10 : W9.cell? ⟨w.heap.size, 10, none⟩ = some (.slice X2 l2.length c2) := by rw [k9.cell]; rfl
      have pu11 : W9.cell? ⟨w.heap.size, 11, none⟩ = some (.int .i64 ae2) := by rw [k9.cell]; rfl
      have pu12 : W9.cell? ⟨w.heap.size, 12, none⟩ = some (.bool ag3) := by rw [k9.cell]; rfl
      have pu13 : W9.cell? ⟨w.heap.size, 13, none⟩ = some (.slice X3 l3.length c3) := by rw [k9.cell]; rfl
      have pu14 : W9.cell? ⟨w.heap.size, 14, none⟩ = some (.int .i64 ae3) := by rw [k9.cell]; rfl
      clear k9
      refine ⟨rfl, .tuple #[.slice Ao (n - 1) co, .agg #[.int .i64 nu, .int .i64 ep, .int .i64 cp, .bool ag0, .slice X0 l0.length c0, .int .i64 ae0, .bool ag1, .slice X1 l1.length c1, .int .i64 ae1, .bool ag2, .slice X2 l2.length c2, .int .i64 ae2, .bool ag3, .slice X3 l3.length c3, .int .i64 ae3], .int .i64 0], ?_, (l.take k ++ l.drop (k + 1)), (⟨nu, ep, cp, ⟨⟨ag0, l0, ae0⟩, ⟨ag1, l1, ae1⟩, ⟨ag2, l2, ae2⟩, ⟨ag3, l3, ae3⟩⟩⟩ : En), (⟨⟨nu, ep, cp, ⟨⟨ag0, l0, ae0⟩, ⟨ag1, l1, ae1⟩, ⟨ag2, l2, ae2⟩, ⟨ag3, l3, ae3⟩⟩⟩, X0, c0, X1, c1, X2, c2, X3, c3⟩ : EO), _, _, _, rfl, gd.out, rfl, g9.out⟩
      simp [results, Try.f17, go_sem, pu0, pu1, pu2, pu3, pu4, pu5, pu6, pu7, pu8, pu9, pu10, pu11, pu12, pu13, pu14]
set_option maxRecDepth 100000 in
set_option maxHeartbeats 16000000 in
theorem rlose_any_someN (A : Option Addr) (n c : Nat) (l : List En) (hm : n ≤ 10000) (hnc : n ≤ c) (hs1 : ∀ x ∈ l, smM x.give) (w : World) (h : Ens w w.heap.size A n l) (N : Int) (hX : ChkF l 0 ∧ (0 ≤ N ∧ N ≤ 1048575)) (hyes : ∃ (j : Nat) (x : En), l[j]? = some x ∧ x.nu = N) (hcc : ∀ (j : Nat) (x : En), l[j]? = some x → x.nu = N → ¬ x.cp = 1) : Calls Try.prog 17 #[.slice A n c, .int .i64 N] w fun en w' => ∃ l' x ox v vx E, en = .returned (.tuple #[v, vx, .int .i64 E]) ∧ CmeF false l N l' x E ∧ vx = aggE ox ∧ PairE w v l' x ox w' := by
  obtain ⟨V, hV⟩ : ∃ V, V = w.alloc (.cells #[.int .i64 0, .int .i64 0, .int .i64 0, .bool false, .slice none 0 0, .int .i64 0, .bool false, .slice none 0 0, .int .i64 0, .bool false, .slice none 0 0, .int .i64 0, .bool false, .slice none 0 0, .int .i64 0] 40) := ⟨_, rfl⟩
  have hBV : Below w.heap.size w V := by rw [hV]; exact (Below.refl _ _).alloc (Nat.le_refl _) _
  have hVs : w.heap.size < V.heap.size := by rw [hV, World.size_alloc]; exact Nat.lt_succ_self _
  have kb : Blk V w.heap.size 40 #[.int .i64 0, .int .i64 0, .int .i64 0, .bool false, .slice none 0 0, .int .i64 0, .bool false, .slice none 0 0, .int .i64 0, .bool false, .slice none 0 0, .int .i64 0, .bool false, .slice none 0 0, .int .i64 0] := by rw [hV]; exact Blk.new w _ _
  have hf := rasked_any A n c l (by unfold maxLen; omega) V (Recs.more (Recs.below h hBV) hBV.size) N
  have gln := Lib.hid (ens_len h)
  have gh := Lib.hid h
  have gs := Lib.hid hs1
  have gX := Lib.hid hX
  have gY := Lib.hid hyes
  clear hyes
  have gC := Lib.hid hcc
  clear hcc
  clear h hs1 hX
  go_enter Try.func17, Try.ntmps17
  go_wp2_with fail
  rw [← hV]
  clear hV
  refine hf.mono ?_
  rintro en w1 ⟨E, rfl, hF, hb1'⟩
  clear hf
  have hb1 : Below w.heap.size w w1 := hBV.trans (hb1'.mono hBV.size)
  have kb1 := kb.below hb1' kb.lt
  have s1 : V.heap.size ≤ w1.heap.size := hb1'.size
  have kl1 := kb1.lt
  rcases hF with ⟨hE, hne⟩ | ⟨hE, hne, rfl⟩ | ⟨hE, hne, rfl⟩
  · exact absurd (chk_one hE gX.out.1) hne
  · exact absurd gX.out.2 hne
  · have gE := Lib.hid hE
    have gn : Hid (∀ {l' x}, _ → CmeF false l N l' x 0) := Lib.hid (fun hh => .inr (.inr ⟨hE, hne, rfl, hh⟩))
    have hn16 : n ≤ 16 := by
      rcases hE.has with ⟨h, _⟩ | ⟨_, h, _⟩ | ⟨h, _⟩
      · cases h
      · rw [← gln.out]; exact h
      · cases h
    have hp2 := rplace_any A n c l hn16 w1 (Recs.more (Recs.below gh.out hb1) hb1.size) N
    clear hE hne
    go_wp2_with fail
    refine hp2.mono ?_
    rintro en w2 ⟨a, rfl, hP, hb2'⟩
    clear hp2
    have hb2 : Below w.heap.size w w2 := hb1.trans (hb2'.mono hb1.size)
    have s2 : w1.heap.size ≤ w2.heap.size := hb2'.size
    have kb2 := kb1.below hb2' kb1.lt
    have h2 : Ens w2 w2.heap.size A n l := Recs.more (Recs.below gh.out hb2) hb2.size
    rcases hP with ⟨k, rfl, hk, hkx, hkj⟩ | ⟨rfl, hno⟩
    rotate_left
    · obtain ⟨j, x, hx, hxn⟩ := gY.out
      exact absurd hxn (hno _ _ hx)
    · obtain ⟨x, hx⟩ : ∃ x, l[k]? = some x := ⟨_, List.getElem?_eq_getElem hk⟩
      have hxn := hkx x hx
      have hlt : k < n := by rw [← gln.out]; exact hk
      have gx := Lib.hid hx
      have gxn := Lib.hid hxn
      have gh2 := Lib.hid h2
      obtain ⟨ad, nu, ep, cp, ag0, aX0, an0, ac0, ae0, ag1, aX1, an1, ac1, ae1, ag2, aX2, an2, ac2, ae2, ag3, aX3, an3, ac3, ae3, m, rfl, _, hl1, _, hrel1⟩ := ens_rel h2 hlt
      obtain ⟨_, _, ac, _⟩ := (hrel1 w2 (Below.refl _ _)).2
      clear hrel1
      have hcp : cp = x.cp := by rw [hx] at hl1; injection hl1 with hl1; rw [hl1]
      have d1 : 1 ≤ x.cp := (gE.out.good k _ hx).2.2.2.2.1
      have d2 : x.cp ≤ 16 := (gE.out.good k _ hx).2.2.2.2.2.1
      subst hcp
      clear hl1
      have i0 : decide ((k : Int) < 0) = false := decide_eq_false (by omega)
      have i1 : (0 : Int) ≤ k := by omega
      have i2 : (k : Int) < n := by omega
      clear h2 hkx hkj hk hxn
      have f1 : (x.cp == 1) = false := by have := gC.out _ _ gx.out gxn.out; simpa using this
      have ht := retwin_any (some ad) n c l hm gs.out w2 gh2.out
      have gd : Hid (CmeF false l N (l.set k { x with cp := x.cp - 1 }) zE 0) := Lib.hid (gn.out (.inl ⟨k, x, gx.out, gxn.out, .inr ⟨by rintro (h | h); exact Bool.noConfusion h; exact gC.out _ _ gx.out gxn.out h, rfl, rfl⟩⟩))
      have f2 : IntKind.i64.wrap (x.cp - 1) = x.cp - 1 := by simp [IntKind.wrap, IntKind.bits, IntKind.signed]; omega
      clear hx d1 d2
      go_wp2_with fail
      refine ht.mono ?_
      rintro en w3 ⟨Ao, co, rfl, hTw⟩
      have hb3' := hTw.2.2.2.1
      have hb3 : Below w.heap.size w w3 := hb2.trans (hb3'.mono hb2.size)
      have s3 : w2.heap.size ≤ w3.heap.size := hb3'.size
      have kb3 := kb2.below hb3' kb2.lt
      have g3 := Lib.hid hTw.2.2.2.2
      clear ht hTw ac f1
      obtain ⟨g, cur, rfl, hbg, hgl, hcl⟩ := accE_head g3.out (by omega)
      have q0 := hcl k _ gx.out
      have qf := hgl.frozen (k * 15 + 2)
      have hp : (⟨g, 0, none⟩ : Addr).add (k * 15) = ⟨g, k * 15, none⟩ := by unfold Addr.add; split <;> simp_all
      clear hcl
      obtain ⟨V4, hV4⟩ : ∃ V4, V4 = w3.setCell ⟨g, k * 15 + 2, none⟩ (.int .i64 (x.cp - 1)) := ⟨_, rfl⟩
      have kb4 : Blk V4 w.heap.size 40 #[.int .i64 0, .int .i64 0, .int .i64 0, .bool false, .slice none 0 0, .int .i64 0, .bool false, .slice none 0 0, .int .i64 0, .bool false, .slice none 0 0, .int .i64 0, .bool false, .slice none 0 0, .int .i64 0] := by rw [hV4]; exact kb3.far (p := ⟨g, k * 15 + 2, none⟩) (by show w.heap.size ≠ g; omega) _
      have hb4 : Below w.heap.size w V4 := by rw [hV4]; exact hb3.setCell (p := ⟨g, k * 15 + 2, none⟩) (by show w.heap.size ≤ g; omega) _
      have s4 : V4.heap.size = w3.heap.size := by rw [hV4, World.size_setCell]
      have gP := Lib.hid (pairC_zero (show AccE V4 w2.heap.size (.slice (some ⟨g, 0, none⟩) n co) n (l.set k { x with cp := x.cp - 1 }) by rw [hV4]; exact accE_copies g3.out gx.out (x.cp - 1)))
      go_upto_region 11 with (fail)
      rw [← hV4]
      clear hV4 q0 qf hp hgl
      have SB : ∀ w', Blk w' w.heap.size 40 #[.int .i64 0, .int .i64 0, .int .i64 0, .bool false, .slice none 0 0, .int .i64 0, .bool false, .slice none 0 0, .int .i64 0, .bool false, .slice none 0 0, .int .i64 0, .bool false, .slice none 0 0, .int .i64 0] → w'.cell? ⟨w.heap.size, 0, none⟩ = some (.int .i64 0) ∧ w'.cell? ⟨w.heap.size, 1, none⟩ = some (.int .i64 0) ∧ w'.cell? ⟨w.heap.size, 2, none⟩ = some (.int .i64 0) ∧ w'.cell? ⟨w.heap.size, 3, none⟩ = some (.bool false) ∧ w'.cell? ⟨w.heap.size, 4, none⟩ = some (.slice none 0 0) ∧ w'.cell? ⟨w.heap.size, 5, none⟩ = some (.int .i64 0) ∧ w'.cell? ⟨w.heap.size, 6, none⟩ = some (.bool false) ∧ w'.cell? ⟨w.heap.size, 7, none⟩ = some (.slice none 0 0) ∧ w'.cell? ⟨w.heap.size, 8, none⟩ = some (.int .i64 0) ∧ w'.cell? ⟨w.heap.size, 9, none⟩ = some (.bool false) ∧ w'.cell? ⟨w.heap.size, 10, none⟩ = some (.slice none 0 0) ∧ w'.cell? ⟨w.heap.size, 11, none⟩ = some (.int .i64 0) ∧ w'.cell? ⟨w.heap.size, 12, none⟩ = some (.bool false) ∧ w'.cell? ⟨w.heap.size, 13, none⟩ = some (.slice none 0 0) ∧ w'.cell? ⟨w.heap.size, 14, none⟩ = some (.int .i64 0) ∧ w'.frozen? ⟨w.heap.size, 0, none⟩ = false ∧ w'.frozen? ⟨w.heap.size, 1, none⟩ = false ∧ w'.frozen? ⟨w.heap.size, 2, none⟩ = false ∧ w'.frozen? ⟨w.heap.size, 3, none⟩ = false ∧ w'.frozen? ⟨w.heap.size, 4, none⟩ = false ∧ w'.frozen? ⟨w.heap.size, 5, none⟩ = false ∧ w'.frozen? ⟨w.heap.size, 6, none⟩ = false ∧ w'.frozen? ⟨w.heap.size, 7, none⟩ = false ∧ w'.frozen? ⟨w.heap.size, 8, none⟩ = false ∧ w'.frozen? ⟨w.heap.size, 9, none⟩ = false ∧ w'.frozen? ⟨w.heap.size, 10, none⟩ = false ∧ w'.frozen? ⟨w.heap.size, 11, none⟩ = false ∧ w'.frozen? ⟨w.heap.size, 12, none⟩ = false ∧ w'.frozen? ⟨w.heap.size, 13, none⟩ = false ∧ w'.frozen? ⟨w.heap.size, 14, none⟩ = false := by
        intro w' k5
        refine ⟨?_, ?_, ?_, ?_, ?_, ?_, ?_, ?_, ?_, ?_, ?_, ?_, ?_, ?_, ?_, ?_, ?_, ?_, ?_, ?_, ?_, ?_, ?_, ?_, ?_, ?_, ?_, ?_, ?_, ?_⟩ <;> first | exact k5.frozen _ | (rw [k5.cell]; rfl)
      have SS : ∀ w', Below V4.heap.size V4 w' → w'.cell? ⟨w.heap.size, 0, none⟩ = some (.int .i64 0) ∧ w'.cell? ⟨w.heap.size, 1, none⟩ = some (.int .i64 0) ∧ w'.cell? ⟨w.heap.size, 2, none⟩ = some (.int .i64 0) ∧ w'.cell? ⟨w.heap.size, 3, none⟩ = some (.bool false) ∧ w'.cell? ⟨w.heap.size, 4, none⟩ = some (.slice none 0 0) ∧ w'.cell? ⟨w.heap.size, 5, none⟩ = some (.int .i64 0) ∧ w'.cell? ⟨w.heap.size, 6, none⟩ = some (.bool false) ∧ w'.cell? ⟨w.heap.size, 7, none⟩ = some (.slice none 0 0) ∧ w'.cell? ⟨w.heap.size, 8, none⟩ = some (.int .i64 0) ∧ w'.cell? ⟨w.heap.size, 9, none⟩ = some (.bool false) ∧ w'.cell? ⟨w.heap.size, 10, none⟩ = some (.slice none 0 0) ∧ w'.cell? ⟨w.heap.size, 11, none⟩ = some (.int .i64 0) ∧ w'.cell? ⟨w.heap.size, 12, none⟩ = some (.bool false) ∧ w'.cell? ⟨w.heap.size, 13, none⟩ = some (.slice none 0 0) ∧ w'.cell? ⟨w.heap.size, 14, none⟩ = some (.int .i64 0) ∧ w'.frozen? ⟨w.heap.size, 0, none⟩ = false ∧ w'.frozen? ⟨w.heap.size, 1, none⟩ = false ∧ w'.frozen? ⟨w.heap.size, 2, none⟩ = false ∧ w'.frozen? ⟨w.heap.size, 3, none⟩ = false ∧ w'.frozen? ⟨w.heap.size, 4, none⟩ = false ∧ w'.frozen? ⟨w.heap.size, 5, none⟩ = false ∧ w'.frozen? ⟨w.heap.size, 6, none⟩ = false ∧ w'.frozen? ⟨w.heap.size, 7, none⟩ = false ∧ w'.frozen? ⟨w.heap.size, 8, none⟩ = false ∧ w'.frozen? ⟨w.heap.size, 9, none⟩ = false ∧ w'.frozen? ⟨w.heap.size, 10, none⟩ = false ∧ w'.frozen? ⟨w.heap.size, 11, none⟩ = false ∧ w'.frozen? ⟨w.heap.size, 12, none⟩ = false ∧ w'.frozen? ⟨w.heap.size, 13, none⟩ = false ∧ w'.frozen? ⟨w.heap.size, 14, none⟩ = false := fun w' hw => SB w' (kb4.below hw kb4.lt)
      obtain ⟨u0, u1, u2, u3, u4, u5, u6, u7, u8, u9, u10, u11, u12, u13, u14, uf0, uf1, uf2, uf3, uf4, uf5, uf6, uf7, uf8, uf9, uf10, uf11, uf12, uf13, uf14⟩ := SS V4 (Below.refl _ _)
      obtain ⟨W9, hW9⟩ : ∃ W9, W9 = (b15 V4 w.heap.size (.int .i64 0) (.int .i64 0) (.int .i64 0) (.bool false) (.slice none 0 0) (.int .i64 0) (.bool false) (.slice none 0 0) (.int .i64 0) (.bool false) (.slice none 0 0) (.int .i64 0) (.bool false) (.slice none 0 0) (.int .i64 0)) := ⟨_, rfl⟩
      have k9 : Blk W9 w.heap.size 40 #[.int .i64 0, .int .i64 0, .int .i64 0, .bool false, .slice none 0 0, .int .i64 0, .bool false, .slice none 0 0, .int .i64 0, .bool false, .slice none 0 0, .int .i64 0, .bool false, .slice none 0 0, .int .i64 0] := by rw [hW9]; exact (b15_blk kb4 rfl (.int .i64 0) (.int .i64 0) (.int .i64 0) (.bool false) (.slice none 0 0) (.int .i64 0) (.bool false) (.slice none 0 0) (.int .i64 0) (.bool false) (.slice none 0 0) (.int .i64 0) (.bool false) (.slice none 0 0) (.int .i64 0))
      have g9 : Hid (PairE w (.slice (some ⟨g, 0, none⟩) n co) ((l.set k { x with cp := x.cp - 1 })) (zE) (zO) W9) := Lib.hid (by rw [hW9]; exact ⟨(gP.out.other (by omega) (b15_other V4 _ (.int .i64 0) (.int .i64 0) (.int .i64 0) (.bool false) (.slice none 0 0) (.int .i64 0) (.bool false) (.slice none 0 0) (.int .i64 0) (.bool false) (.slice none 0 0) (.int .i64 0) (.bool false) (.slice none 0 0) (.int .i64 0))).base_le (by omega), b15_below hb4 (Nat.le_refl _) (.int .i64 0) (.int .i64 0) (.int .i64 0) (.bool false) (.slice none 0 0) (.int .i64 0) (.bool false) (.slice none 0 0) (.int .i64 0) (.bool false) (.slice none 0 0) (.int .i64 0) (.bool false) (.slice none 0 0) (.int .i64 0)⟩)
      unfold b15 at hW9
      go_wp2
      clear u0 u1 u2 u3 u4 u5 u6 u7 u8 u9 u10 u11 u12 u13 u14 uf0 uf1 uf2 uf3 uf4 uf5 uf6 uf7 uf8 uf9 uf10 uf11 uf12 uf13 uf14
      clear SS SB
      rw [← hW9]
      clear hW9
      have pu0 : W9.cell? ⟨w.heap.size, 0, none⟩ = some (.int .i64 0) := by rw [k9.cell]; rfl
      have pu1 : W9.cell? ⟨w.heap.size, 1, none⟩ = some (.int .i64 0) := by rw [k9.cell]; rfl
      have pu2 : W9.cell? ⟨w.heap.size, 2, none⟩ = some (.int .i64 0) := by rw [k9.cell]; rfl
      have pu3 : W9.cell? ⟨w.heap.size, 3, none⟩ = some (.bool false) := by rw [k9.cell]; rfl
      have pu4 : W9.cell? ⟨w.heap.size, 4, none⟩ = some (.slice none 0 0) := by rw [k9.cell]; rfl
      have pu5 : W9.cell? ⟨w.heap.size, 5, none⟩ = some (.int .i64 0) := by rw [k9.cell]; rfl
      have pu6 : W9.cell? ⟨w.heap.size, 6, none⟩ = some (.bool false) := by rw [k9.cell]; rfl
      have pu7 : W9.cell? ⟨w.heap.size, 7, none⟩ = some (.slice none 0 0) := by rw [k9.cell]; rfl
      have pu8 : W9.cell? ⟨w.heap.size, 8, none⟩ = some (.int .i64 0) := by rw [k9.cell]; rfl
      have pu9 : W9.cell? ⟨w.heap.size, 9, none⟩ = some (.bool false) := by rw [k9.cell]; rfl
      have pu10 : W9.cell? ⟨w.heap.size, 10, none⟩ = some (.slice none 0 0) := by rw [k9.cell]; rfl
      have pu11 : W9.cell? ⟨w.heap.size, 11, none⟩ = some (.int .i64 0) := by rw [k9.cell]; rfl
      have pu12 : W9.cell? ⟨w.heap.size, 12, none⟩ = some (.bool false) := by rw [k9.cell]; rfl
      have pu13 : W9.cell? ⟨w.heap.size, 13, none⟩ = some (.slice none 0 0) := by rw [k9.cell]; rfl
      have pu14 : W9.cell? ⟨w.heap.size, 14, none⟩ = some (.int .i64 0) := by rw [k9.cell]; rfl
      clear k9
      refine ⟨rfl, .tuple #[.slice (some ⟨g, 0, none⟩) n co, .agg #[.int .i64 0, .int .i64 0, .int .i64 0, .bool false, .slice none 0 0, .int .i64 0, .bool false, .slice none 0 0, .int .i64 0, .bool false, .slice none 0 0, .int .i64 0, .bool false, .slice none 0 0, .int .i64 0], .int .i64 0], ?_, (l.set k { x with cp := x.cp - 1 }), zE, zO, _, _, _, rfl, gd.out, rfl, g9.out⟩
      simp [results, Try.f17, go_sem, pu0, pu1, pu2, pu3, pu4, pu5, pu6, pu7, pu8, pu9, pu10, pu11, pu12, pu13, pu14]
theorem rlose_any (A : Option Addr) (n c : Nat) (l : List En) (hm : n ≤ 10000) (hnc : n ≤ c) (hs1 : ∀ x ∈ l, smM x.give) (w : World) (h : Ens w w.heap.size A n l) (N : Int) : Calls Try.prog 17 #[.slice A n c, .int .i64 N] w fun en w' => ∃ l' x ox v vx E, en = .returned (.tuple #[v, vx, .int .i64 E]) ∧ CmeF false l N l' x E ∧ vx = aggE ox ∧ PairE w v l' x ox w' := by
  by_cases hX : ChkF l 0 ∧ (0 ≤ N ∧ N ≤ 1048575)
  · by_cases hy : ∃ (j : Nat) (x : En), l[j]? = some x ∧ x.nu = N
    · obtain ⟨j, x, hx, hxn⟩ := hy
      have hone : ∀ (j' : Nat) (x' : En), l[j']? = some x' → x'.nu = N → x' = x := fun j' x' hx' hn' => by
        obtain rfl := num_one hX.1.good hx' hx (by rw [hn', hxn])
        rw [hx'] at hx
        injection hx
      by_cases hc : x.cp = 1
      · exact rlose_any_someY A n c l hm hnc hs1 w h N hX ⟨j, x, hx, hxn⟩ (fun j' x' h1 h2 => by rw [hone j' x' h1 h2]; exact hc)
      · exact rlose_any_someN A n c l hm hnc hs1 w h N hX ⟨j, x, hx, hxn⟩ (fun j' x' h1 h2 => by rw [hone j' x' h1 h2]; exact hc)
    · exact rlose_any_none A n c l hm hnc hs1 w h N hX (fun j x h1 h2 => hy ⟨j, x, h1, h2⟩)
  · exact rlose_any_err A n c l hm hnc hs1 w h N hX
end Go.Proofs.Ytdmjdpaehnhdoaa
