/- Flight: six and none -/
import Derived.Test.YtdmjdpaehnhdoaaDoorNE
import Derived.Test.YtdmjdpaehnhdoaaDoorKA
namespace Go.Proofs.YtdmjdpaehnhdoaaDoor
open Go.ChangeShapes Go.WideShapes Go.ChangeAt Go.RowKit
set_option linter.unusedSimpArgs false
set_option linter.unusedVariables false
theorem cut2 (g : Nat) (x : Int) (hx : (x == 0) = false) (w : World) (h0 : w.cell? ⟨g, 0, none⟩ = some (.int .u32 x)) (h1 : w.cell? ⟨g, 1, none⟩ = some (.int .u32 0)) : Calls Tryd.prog 85 #[.slice (some ⟨g, 0, none⟩) 2 2] w fun en w' => en = .returned (.slice (some ⟨g, 0, none⟩) 1 1) ∧ w = w' := by
  go_enter Tryd.func85, Tryd.ntmps85
  go_wp2
  go_loop [3] (fun t => t = .int .i64 2 ∨ t = .int .i64 1) (fun t => (intOf t).toNat)
  case atStart => exact .inl rfl
  case round =>
    rcases hrel with rfl | rfl
    · go_wp2
      go_round
      case rel => exact .inr rfl
      case measure => simp [intOf]
    · go_wp2
      go_ret
      exact ⟨rfl, rfl⟩
theorem lof (x : Int) (hx : x = 6 ∨ x = 1 ∨ x = 96) (w : World) : Calls Tryd.prog 56 #[.int .u64 x] w fun en w' => ∃ g, en = .returned (.slice (some ⟨g, 0, none⟩) 1 1) ∧ OwnR w' w.heap.size 71 (some ⟨g, 0, none⟩) 1 (ints .u32 [x.toNat]) ∧ Below w.heap.size w w' := by
  obtain ⟨V, hV⟩ : ∃ V, V = w.alloc (.cells #[.int .u32 x, .int .u32 0] 71) := ⟨_, rfl⟩
  have hB : Below w.heap.size w V := by rw [hV]; exact (Below.refl _ _).alloc (Nat.le_refl _) _
  have kb : Blk V w.heap.size 71 #[.int .u32 x, .int .u32 0] := by rw [hV]; exact Blk.new _ _ _
  have hx0 : (x == 0) = false := by rcases hx with rfl | rfl | rfl <;> rfl
  have hc := cut2 w.heap.size x hx0 V (by rw [kb.cell]; rfl) (by rw [kb.cell]; rfl)
  have ho : OwnR V w.heap.size 71 (some ⟨w.heap.size, 0, none⟩) 1 (ints .u32 [x.toNat]) := ⟨rfl, fun _ => ⟨w.heap.size, _, rfl, Nat.le_refl _, kb, by rcases hx with rfl | rfl | rfl <;> rfl⟩⟩
  rcases hx with rfl | rfl | rfl
  all_goals
    go_enter Tryd.func56, Tryd.ntmps56
    go_wp2_with fail
    rw [← hV]
    clear hV
    refine hc.mono ?_
    rintro en w1 ⟨rfl, rfl⟩
    go_wp2
    go_ret
    exact ⟨_, rfl, ho, hB⟩
theorem dof (x : Int) (hx : x = 6 ∨ x = 1 ∨ x = 96) (w : World) : Calls Tryd.prog 28 #[.int .i64 x] w fun en w' => ∃ g, en = .returned (.agg #[.bool false, .slice (some ⟨g, 0, none⟩) 1 1, .int .i64 0]) ∧ OwnR w' w.heap.size 71 (some ⟨g, 0, none⟩) 1 (ints .u32 [x.toNat]) ∧ Below w.heap.size w w' := by
  obtain ⟨V, hV⟩ : ∃ V, V = w.alloc (.cells #[.bool false, .slice none 0 0, .int .i64 0] 25) := ⟨_, rfl⟩
  have hB : Below w.heap.size w V := by rw [hV]; exact (Below.refl _ _).alloc (Nat.le_refl _) _
  have kb : Blk V w.heap.size 25 #[.bool false, .slice none 0 0, .int .i64 0] := by rw [hV]; exact Blk.new _ _ _
  have hc := lof x hx V
  have hx0 : decide (x < 0) = false := by rcases hx with rfl | rfl | rfl <;> rfl
  rcases hx with rfl | rfl | rfl
  all_goals
    go_enter Tryd.func28, Tryd.ntmps28
    go_wp2_with fail
    rw [← hV]
    clear hV
    refine hc.mono ?_
    rintro en w1 ⟨g, rfl, ho, hb1⟩
    have k1 := kb.below hb1 kb.lt
    have z0 : w1.cell? ⟨w.heap.size, 0, none⟩ = some (.bool false) := by rw [k1.cell]; rfl
    have z1 : w1.cell? ⟨w.heap.size, 1, none⟩ = some (.slice none 0 0) := by rw [k1.cell]; rfl
    have z2 : w1.cell? ⟨w.heap.size, 2, none⟩ = some (.int .i64 0) := by rw [k1.cell]; rfl
    have f0 := k1.frozen 0
    have f1 := k1.frozen 1
    have f2 := k1.frozen 2
    have l1 := k1.lt
    have ho' := Lib.hid ho
    go_wp2
    obtain ⟨W9, hW9⟩ : ∃ W9, W9 = (((w1.setCell ⟨w.heap.size, 0, none⟩ (.bool false)).setCell ⟨w.heap.size, 1, none⟩ (.slice (some ⟨g, 0, none⟩) 1 1)).setCell ⟨w.heap.size, 2, none⟩ (.int .i64 0)).alloc (.cells #[.bool false, .slice (some ⟨g, 0, none⟩) 1 1, .int .i64 0] 25) := ⟨_, rfl⟩
    have k9 : Blk W9 w.heap.size 25 #[.bool false, .slice (some ⟨g, 0, none⟩) 1 1, .int .i64 0] := by rw [hW9]; exact (blk3 (i := 0) k1 (.bool false) (.slice (some ⟨g, 0, none⟩) 1 1) (.int .i64 0) rfl).alloc _
    have hb9 : Below w.heap.size w W9 := by rw [hW9]; exact ((((hB.trans (hb1.mono hB.size)).setCell (p := ⟨w.heap.size, 0, none⟩) (Nat.le_refl _) _).setCell (p := ⟨w.heap.size, 1, none⟩) (Nat.le_refl _) _).setCell (p := ⟨w.heap.size, 2, none⟩) (Nat.le_refl _) _).alloc (by simp only [World.size_setCell]; omega) _
    have hlt : w.heap.size < V.heap.size := kb.lt
    have ho9 : ∀ xs, OwnR w1 V.heap.size 71 (some ⟨g, 0, none⟩) 1 xs → OwnR W9 w.heap.size 71 (some ⟨g, 0, none⟩) 1 xs := fun xs ho => by rw [hW9]; exact ((((ho.far (p := ⟨w.heap.size, 0, none⟩) hlt _).far (p := ⟨w.heap.size, 1, none⟩) hlt _).far (p := ⟨w.heap.size, 2, none⟩) hlt _).below ((Below.refl _ _).alloc (Nat.le_refl _) _)).base_le (Nat.le_of_lt hlt)
    rw [← hW9]
    clear hW9
    have q0 : W9.cell? ⟨w.heap.size, 0, none⟩ = some (.bool false) := by rw [k9.cell]; rfl
    have q1 : W9.cell? ⟨w.heap.size, 1, none⟩ = some (.slice (some ⟨g, 0, none⟩) 1 1) := by rw [k9.cell]; rfl
    have q2 : W9.cell? ⟨w.heap.size, 2, none⟩ = some (.int .i64 0) := by rw [k9.cell]; rfl
    refine ⟨rfl, .agg #[.bool false, .slice (some ⟨g, 0, none⟩) 1 1, .int .i64 0], ?_, g, rfl, ho9 _ ho'.out, hb9⟩
    simp [results, Tryd.f28, go_sem, q0, q1, q2]
/-- A mass is stored into a box. -/
def c12 (w : World) (g : Nat) (u0 u1 u2 u3 u4 u5 u6 u7 u8 u9 u10 u11 : Value) : World := (((((((((((w.setCell ⟨g, 0, none⟩ u0).setCell ⟨g, 1, none⟩ u1).setCell ⟨g, 2, none⟩ u2).setCell ⟨g, 3, none⟩ u3).setCell ⟨g, 4, none⟩ u4).setCell ⟨g, 5, none⟩ u5).setCell ⟨g, 6, none⟩ u6).setCell ⟨g, 7, none⟩ u7).setCell ⟨g, 8, none⟩ u8).setCell ⟨g, 9, none⟩ u9).setCell ⟨g, 10, none⟩ u10).setCell ⟨g, 11, none⟩ u11
theorem c12_fr (w : World) (g : Nat) (u0 u1 u2 u3 u4 u5 u6 u7 u8 u9 u10 u11 : Value) : Fr (fun b => b = g) w (c12 w g u0 u1 u2 u3 u4 u5 u6 u7 u8 u9 u10 u11) := by
  unfold c12
  exact (((((((((((Fr.set_ (S := fun b => b = g) w (p := ⟨g, 0, none⟩) rfl u0).trans (Fr.set_ (S := fun b => b = g) _ (p := ⟨g, 1, none⟩) rfl u1)).trans (Fr.set_ (S := fun b => b = g) _ (p := ⟨g, 2, none⟩) rfl u2)).trans (Fr.set_ (S := fun b => b = g) _ (p := ⟨g, 3, none⟩) rfl u3)).trans (Fr.set_ (S := fun b => b = g) _ (p := ⟨g, 4, none⟩) rfl u4)).trans (Fr.set_ (S := fun b => b = g) _ (p := ⟨g, 5, none⟩) rfl u5)).trans (Fr.set_ (S := fun b => b = g) _ (p := ⟨g, 6, none⟩) rfl u6)).trans (Fr.set_ (S := fun b => b = g) _ (p := ⟨g, 7, none⟩) rfl u7)).trans (Fr.set_ (S := fun b => b = g) _ (p := ⟨g, 8, none⟩) rfl u8)).trans (Fr.set_ (S := fun b => b = g) _ (p := ⟨g, 9, none⟩) rfl u9)).trans (Fr.set_ (S := fun b => b = g) _ (p := ⟨g, 10, none⟩) rfl u10)).trans (Fr.set_ (S := fun b => b = g) _ (p := ⟨g, 11, none⟩) rfl u11)
theorem c12_blk {w : World} {g : Nat} (h : Blk w g 27 #[.bool false, .slice none 0 0, .int .i64 0, .bool false, .slice none 0 0, .int .i64 0, .bool false, .slice none 0 0, .int .i64 0, .bool false, .slice none 0 0, .int .i64 0]) (u0 u1 u2 u3 u4 u5 u6 u7 u8 u9 u10 u11 : Value) : Blk (c12 w g u0 u1 u2 u3 u4 u5 u6 u7 u8 u9 u10 u11) g 27 #[u0, u1, u2, u3, u4, u5, u6, u7, u8, u9, u10, u11] := blk12 h u0 u1 u2 u3 u4 u5 u6 u7 u8 u9 u10 u11
def sixM : Ms := ⟨⟨false, [6], 0⟩, ⟨false, [1], 0⟩, ⟨false, [], 0⟩, ⟨false, [], 0⟩⟩
theorem six_any (w : World) : Calls Tryd.prog 27 #[] w fun en w' => ∃ om : EO, en = .returned (.agg #[.bool om.x.give.s.neg, .slice om.X0 om.x.give.s.ls.length om.c0, .int .i64 om.x.give.s.ex, .bool om.x.give.w.neg, .slice om.X1 om.x.give.w.ls.length om.c1, .int .i64 om.x.give.w.ex, .bool om.x.give.c.neg, .slice om.X2 om.x.give.c.ls.length om.c2, .int .i64 om.x.give.c.ex, .bool om.x.give.a.neg, .slice om.X3 om.x.give.a.ls.length om.c3, .int .i64 om.x.give.a.ex]) ∧ om.x.give = sixM ∧ ownE w' w.heap.size om ∧ Below w.heap.size w w' := by
  obtain ⟨V, hV⟩ : ∃ V, V = w.alloc (.cells #[.bool false, .slice none 0 0, .int .i64 0, .bool false, .slice none 0 0, .int .i64 0, .bool false, .slice none 0 0, .int .i64 0, .bool false, .slice none 0 0, .int .i64 0] 27) := ⟨_, rfl⟩
  have hB : Below w.heap.size w V := by rw [hV]; exact (Below.refl _ _).alloc (Nat.le_refl _) _
  have kb : Blk V w.heap.size 27 #[.bool false, .slice none 0 0, .int .i64 0, .bool false, .slice none 0 0, .int .i64 0, .bool false, .slice none 0 0, .int .i64 0, .bool false, .slice none 0 0, .int .i64 0] := by rw [hV]; exact Blk.new _ _ _
  have hc := dof 6 (.inl rfl) V
  go_enter Tryd.func27, Tryd.ntmps27
  go_wp2_with fail
  rw [← hV]
  clear hV
  refine hc.mono ?_
  rintro en w1 ⟨g0, rfl, ho0, hb1⟩
  have hc1 := dof 1 (.inr (.inl rfl)) w1
  clear hc
  go_wp2_with fail
  refine hc1.mono ?_
  rintro en w2 ⟨g1, rfl, ho1, hb2⟩
  clear hc1
  have hlt : w.heap.size < V.heap.size := kb.lt
  have s1 := hb1.size
  have s2 := hb2.size
  have kb2 := (kb.below hb1 kb.lt).below hb2 (Nat.lt_of_lt_of_le kb.lt hb1.size)
  have hB2 := (hB.trans (hb1.mono hB.size)).trans (hb2.mono (by omega))
  have z0 : w2.cell? ⟨w.heap.size, 0, none⟩ = some (.bool false) := by rw [kb2.cell]; rfl
  have z1 : w2.cell? ⟨w.heap.size, 1, none⟩ = some (.slice none 0 0) := by rw [kb2.cell]; rfl
  have z2 : w2.cell? ⟨w.heap.size, 2, none⟩ = some (.int .i64 0) := by rw [kb2.cell]; rfl
  have z3 : w2.cell? ⟨w.heap.size, 3, none⟩ = some (.bool false) := by rw [kb2.cell]; rfl
  have z4 : w2.cell? ⟨w.heap.size, 4, none⟩ = some (.slice none 0 0) := by rw [kb2.cell]; rfl
  have z5 : w2.cell? ⟨w.heap.size, 5, none⟩ = some (.int .i64 0) := by rw [kb2.cell]; rfl
  have z6 : w2.cell? ⟨w.heap.size, 6, none⟩ = some (.bool false) := by rw [kb2.cell]; rfl
  have z7 : w2.cell? ⟨w.heap.size, 7, none⟩ = some (.slice none 0 0) := by rw [kb2.cell]; rfl
  have z8 : w2.cell? ⟨w.heap.size, 8, none⟩ = some (.int .i64 0) := by rw [kb2.cell]; rfl
  have z9 : w2.cell? ⟨w.heap.size, 9, none⟩ = some (.bool false) := by rw [kb2.cell]; rfl
  have z10 : w2.cell? ⟨w.heap.size, 10, none⟩ = some (.slice none 0 0) := by rw [kb2.cell]; rfl
  have z11 : w2.cell? ⟨w.heap.size, 11, none⟩ = some (.int .i64 0) := by rw [kb2.cell]; rfl
  have f0 := kb2.frozen 0
  have f1 := kb2.frozen 1
  have f2 := kb2.frozen 2
  have f3 := kb2.frozen 3
  have f4 := kb2.frozen 4
  have f5 := kb2.frozen 5
  have f6 := kb2.frozen 6
  have f7 := kb2.frozen 7
  have f8 := kb2.frozen 8
  have f9 := kb2.frozen 9
  have f10 := kb2.frozen 10
  have f11 := kb2.frozen 11
  obtain ⟨W9, hW9⟩ : ∃ W9, W9 = c12 w2 w.heap.size (.bool false) (.slice (some ⟨g0, 0, none⟩) 1 1) (.int .i64 0) (.bool false) (.slice (some ⟨g1, 0, none⟩) 1 1) (.int .i64 0) (.bool false) (.slice none 0 0) (.int .i64 0) (.bool false) (.slice none 0 0) (.int .i64 0) := ⟨_, rfl⟩
  have k9 : Blk W9 w.heap.size 27 #[.bool false, .slice (some ⟨g0, 0, none⟩) 1 1, .int .i64 0, .bool false, .slice (some ⟨g1, 0, none⟩) 1 1, .int .i64 0, .bool false, .slice none 0 0, .int .i64 0, .bool false, .slice none 0 0, .int .i64 0] := by rw [hW9]; exact c12_blk kb2 (.bool false) (.slice (some ⟨g0, 0, none⟩) 1 1) (.int .i64 0) (.bool false) (.slice (some ⟨g1, 0, none⟩) 1 1) (.int .i64 0) (.bool false) (.slice none 0 0) (.int .i64 0) (.bool false) (.slice none 0 0) (.int .i64 0)
  have hF : Fr (fun b => b = w.heap.size) w2 W9 := by rw [hW9]; exact c12_fr w2 _ (.bool false) (.slice (some ⟨g0, 0, none⟩) 1 1) (.int .i64 0) (.bool false) (.slice (some ⟨g1, 0, none⟩) 1 1) (.int .i64 0) (.bool false) (.slice none 0 0) (.int .i64 0) (.bool false) (.slice none 0 0) (.int .i64 0)
  have hb9 : Below w.heap.size w W9 := hB2.trans (hF.below (fun b hb => by rw [hb]; exact Nat.le_refl _))
  have p0 : OwnR W9 w.heap.size 71 (some ⟨g0, 0, none⟩) 1 (ints .u32 [6]) := ((ho0.below hb2).base_le (Nat.le_of_lt hlt)).fr' hF (fun b hb e => by
    obtain ⟨g', cur, hA, hg, _⟩ := ho0.2 (by omega)
    have h1 := hb.2
    rw [hA] at h1
    injection h1 with h1
    injection h1 with h1
    omega)
  have p1 : OwnR W9 w.heap.size 71 (some ⟨g1, 0, none⟩) 1 (ints .u32 [1]) := (ho1.base_le (by omega)).fr' hF (fun b hb e => by
    obtain ⟨g', cur, hA, hg, _⟩ := ho1.2 (by omega)
    have h1 := hb.2
    rw [hA] at h1
    injection h1 with h1
    injection h1 with h1
    omega)
  have gown := Lib.hid (show ownE W9 w.heap.size (⟨⟨0, 0, 0, sixM⟩, some ⟨g0, 0, none⟩, 1, some ⟨g1, 0, none⟩, 1, none, 0, none, 0⟩ : EO) from ⟨⟨Nat.le_refl _, p0⟩, ⟨Nat.le_refl _, p1⟩, ⟨Nat.le_refl _, OwnR.none_⟩, ⟨Nat.le_refl _, OwnR.none_⟩⟩)
  unfold c12 at hW9
  clear p0 p1 ho0 ho1 hF kb kb2
  go_wp2
  rw [← hW9]
  clear hW9
  have q0 : W9.cell? ⟨w.heap.size, 0, none⟩ = some (.bool false) := by rw [k9.cell]; rfl
  have q1 : W9.cell? ⟨w.heap.size, 1, none⟩ = some (.slice (some ⟨g0, 0, none⟩) 1 1) := by rw [k9.cell]; rfl
  have q2 : W9.cell? ⟨w.heap.size, 2, none⟩ = some (.int .i64 0) := by rw [k9.cell]; rfl
  have q3 : W9.cell? ⟨w.heap.size, 3, none⟩ = some (.bool false) := by rw [k9.cell]; rfl
  have q4 : W9.cell? ⟨w.heap.size, 4, none⟩ = some (.slice (some ⟨g1, 0, none⟩) 1 1) := by rw [k9.cell]; rfl
  have q5 : W9.cell? ⟨w.heap.size, 5, none⟩ = some (.int .i64 0) := by rw [k9.cell]; rfl
  have q6 : W9.cell? ⟨w.heap.size, 6, none⟩ = some (.bool false) := by rw [k9.cell]; rfl
  have q7 : W9.cell? ⟨w.heap.size, 7, none⟩ = some (.slice none 0 0) := by rw [k9.cell]; rfl
  have q8 : W9.cell? ⟨w.heap.size, 8, none⟩ = some (.int .i64 0) := by rw [k9.cell]; rfl
  have q9 : W9.cell? ⟨w.heap.size, 9, none⟩ = some (.bool false) := by rw [k9.cell]; rfl
  have q10 : W9.cell? ⟨w.heap.size, 10, none⟩ = some (.slice none 0 0) := by rw [k9.cell]; rfl
  have q11 : W9.cell? ⟨w.heap.size, 11, none⟩ = some (.int .i64 0) := by rw [k9.cell]; rfl
  refine ⟨rfl, .agg #[.bool false, .slice (some ⟨g0, 0, none⟩) 1 1, .int .i64 0, .bool false, .slice (some ⟨g1, 0, none⟩) 1 1, .int .i64 0, .bool false, .slice none 0 0, .int .i64 0, .bool false, .slice none 0 0, .int .i64 0], ?_, _, rfl, rfl, gown.out, hb9⟩
  simp [results, Tryd.f27, go_sem, q0, q1, q2, q3, q4, q5, q6, q7, q8, q9, q10, q11]
/-- A load is none, or it has a copy. -/
theorem none_any (o : EO) (hsm : smM o.x.give) (w : World) (b : Nat) (h : ownE w b o) (R : Bool) (hc : (R = false ∧ 1 ≤ o.x.cp) ∨ (R = true ∧ o.x = zE)) : Calls Tryd.prog 23 #[aggE o] w fun en w' => en = .returned (.bool R) ∧ Below w.heap.size w w' := by
  obtain ⟨V, hV⟩ : ∃ V, V = w.alloc (.cells #[.int .i64 o.x.nu, .int .i64 o.x.ep, .int .i64 o.x.cp, .bool o.x.give.s.neg, .slice o.X0 o.x.give.s.ls.length o.c0, .int .i64 o.x.give.s.ex, .bool o.x.give.w.neg, .slice o.X1 o.x.give.w.ls.length o.c1, .int .i64 o.x.give.w.ex, .bool o.x.give.c.neg, .slice o.X2 o.x.give.c.ls.length o.c2, .int .i64 o.x.give.c.ex, .bool o.x.give.a.neg, .slice o.X3 o.x.give.a.ls.length o.c3, .int .i64 o.x.give.a.ex] 48) := ⟨_, rfl⟩
  have hB : Below w.heap.size w V := by rw [hV]; exact (Below.refl _ _).alloc (Nat.le_refl _) _
  have kb : Blk V w.heap.size 48 #[.int .i64 o.x.nu, .int .i64 o.x.ep, .int .i64 o.x.cp, .bool o.x.give.s.neg, .slice o.X0 o.x.give.s.ls.length o.c0, .int .i64 o.x.give.s.ex, .bool o.x.give.w.neg, .slice o.X1 o.x.give.w.ls.length o.c1, .int .i64 o.x.give.w.ex, .bool o.x.give.c.neg, .slice o.X2 o.x.give.c.ls.length o.c2, .int .i64 o.x.give.c.ex, .bool o.x.give.a.neg, .slice o.X3 o.x.give.a.ls.length o.c3, .int .i64 o.x.give.a.ex] := by rw [hV]; exact Blk.new _ _ _
  have hm := msame_any o.x.give.s.neg o.X0 o.x.give.s.ls.length o.c0 o.x.give.s.ex o.x.give.w.neg o.X1 o.x.give.w.ls.length o.c1 o.x.give.w.ex o.x.give.c.neg o.X2 o.x.give.c.ls.length o.c2 o.x.give.c.ex o.x.give.a.neg o.X3 o.x.give.a.ls.length o.c3 o.x.give.a.ex false none 0 0 0 false none 0 0 0 false none 0 0 0 false none 0 0 0 o.x.give zE.give hsm zE_sm V (h.map (fun h => h.below hB)).rdM ⟨⟨rfl, rfl, rfl, Nat.le_refl _, Reads.none_⟩, ⟨rfl, rfl, rfl, Nat.le_refl _, Reads.none_⟩, ⟨rfl, rfl, rfl, Nat.le_refl _, Reads.none_⟩, ⟨rfl, rfl, rfl, Nat.le_refl _, Reads.none_⟩⟩ true
  have q0 : V.cell? ⟨w.heap.size, 0, none⟩ = some (.int .i64 o.x.nu) := by rw [kb.cell]; rfl
  have q1 : V.cell? ⟨w.heap.size, 1, none⟩ = some (.int .i64 o.x.ep) := by rw [kb.cell]; rfl
  have q2 : V.cell? ⟨w.heap.size, 2, none⟩ = some (.int .i64 o.x.cp) := by rw [kb.cell]; rfl
  have q3 : V.cell? ⟨w.heap.size, 3, none⟩ = some (.bool o.x.give.s.neg) := by rw [kb.cell]; rfl
  have q4 : V.cell? ⟨w.heap.size, 4, none⟩ = some (.slice o.X0 o.x.give.s.ls.length o.c0) := by rw [kb.cell]; rfl
  have q5 : V.cell? ⟨w.heap.size, 5, none⟩ = some (.int .i64 o.x.give.s.ex) := by rw [kb.cell]; rfl
  have q6 : V.cell? ⟨w.heap.size, 6, none⟩ = some (.bool o.x.give.w.neg) := by rw [kb.cell]; rfl
  have q7 : V.cell? ⟨w.heap.size, 7, none⟩ = some (.slice o.X1 o.x.give.w.ls.length o.c1) := by rw [kb.cell]; rfl
  have q8 : V.cell? ⟨w.heap.size, 8, none⟩ = some (.int .i64 o.x.give.w.ex) := by rw [kb.cell]; rfl
  have q9 : V.cell? ⟨w.heap.size, 9, none⟩ = some (.bool o.x.give.c.neg) := by rw [kb.cell]; rfl
  have q10 : V.cell? ⟨w.heap.size, 10, none⟩ = some (.slice o.X2 o.x.give.c.ls.length o.c2) := by rw [kb.cell]; rfl
  have q11 : V.cell? ⟨w.heap.size, 11, none⟩ = some (.int .i64 o.x.give.c.ex) := by rw [kb.cell]; rfl
  have q12 : V.cell? ⟨w.heap.size, 12, none⟩ = some (.bool o.x.give.a.neg) := by rw [kb.cell]; rfl
  have q13 : V.cell? ⟨w.heap.size, 13, none⟩ = some (.slice o.X3 o.x.give.a.ls.length o.c3) := by rw [kb.cell]; rfl
  have q14 : V.cell? ⟨w.heap.size, 14, none⟩ = some (.int .i64 o.x.give.a.ex) := by rw [kb.cell]; rfl
  unfold aggE
  rcases hc with ⟨rfl, hc⟩ | ⟨rfl, hc⟩
  · have d2 : (o.x.cp == 0) = false := beq_eq_false_iff_ne.2 (by omega)
    clear hm hc hsm h kb
    obtain ⟨b0, d0⟩ : ∃ b, (o.x.nu == 0) = b := ⟨_, rfl⟩
    obtain ⟨b1, d1⟩ : ∃ b, (o.x.ep == 0) = b := ⟨_, rfl⟩
    cases b0 <;> cases b1
    all_goals
      go_enter Tryd.func23, Tryd.ntmps23
      go_wp2_with fail
      rw [← hV]
      clear hV
      go_wp2
      go_ret
      exact ⟨rfl, hB⟩
  · have d0 : (o.x.nu == 0) = true := by rw [hc]; rfl
    have d1 : (o.x.ep == 0) = true := by rw [hc]; rfl
    have d2 : (o.x.cp == 0) = true := by rw [hc]; rfl
    have hm2 := hm (decide_eq_true (by rw [hc]))
    clear hm hc hsm h kb
    go_enter Tryd.func23, Tryd.ntmps23
    go_wp2_with fail
    rw [← hV]
    clear hV
    refine hm2.mono ?_
    rintro en w1 ⟨rfl, hb1⟩
    clear hm2
    go_wp2
    go_ret
    exact ⟨rfl, hB.trans (hb1.mono hB.size)⟩
end Go.Proofs.YtdmjdpaehnhdoaaDoor
