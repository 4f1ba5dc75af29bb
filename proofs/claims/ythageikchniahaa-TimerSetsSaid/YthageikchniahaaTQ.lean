/- Timer: the first timer: the program's and the reference's Next -/
import Derived.Test.YthageikchniahaaTN
import Derived.Handy
namespace Go.Proofs.Ythageikchniahaa
open Go.ChangeShapes Go.WideShapes Go.ChangeAt Go.RowKit
set_option linter.unusedSimpArgs false
set_option linter.unusedVariables false

def nxE (l : List Tm) : Int := if chkE l ≠ 0 then chkE l else if l.length = 0 then 6 else 0
def nxT (l : List Tm) : Tm := if nxE l = 0 then tz l 0 else (0, 0)
theorem nx_chk {l : List Tm} {E : Int} (h0 : E ≠ 0) (h : chkE l = E) : nxE l = E ∧ nxT l = (0, 0) := by
  have e : nxE l = E := by unfold nxE; rw [if_pos (by rw [h]; exact h0), h]
  exact ⟨e, by unfold nxT; rw [e, if_neg h0]⟩
theorem nx_none {l : List Tm} (h : chkE l = 0) (h1 : l.length = 0) : nxE l = 6 ∧ nxT l = (0, 0) := by
  have e : nxE l = 6 := by unfold nxE; rw [if_neg (by simp [h]), if_pos h1]
  exact ⟨e, by unfold nxT; rw [e]; rfl⟩
theorem nx_some {l : List Tm} (h : chkE l = 0) (h1 : 0 < l.length) : nxE l = 0 ∧ nxT l = tz l 0 := by
  have e : nxE l = 0 := by unfold nxE; rw [if_neg (by simp [h]), if_neg (by omega)]
  exact ⟨e, by unfold nxT; rw [e]; rfl⟩
set_option maxRecDepth 100000 in
set_option maxHeartbeats 8000000 in
theorem next_of (A : Option Addr) (n c : Nat) (l : List Tm) (hm : n ≤ 5000) (w : World) (h : Tms w w.heap.size A n l) : Calls Try.prog 17 #[.slice A n c] w fun en w' => en = .returned (.tuple #[.agg #[.int .i64 (nxT l).1, .int .i64 (nxT l).2], .int .i64 (nxE l)]) ∧ Below w.heap.size w w' := by
  have gl := Lib.hid h.1
  obtain ⟨V, hV⟩ : ∃ V, V = w.alloc (.cells #[.int .i64 0, .int .i64 0] 35) := ⟨_, rfl⟩
  have hB0 : Below w.heap.size w V := by rw [hV]; exact (Below.refl _ _).alloc (Nat.le_refl _) _
  have kb : Blk V w.heap.size 35 #[.int .i64 0, .int .i64 0] := by rw [hV]; exact Blk.new w _ _
  have hTV := h.go hB0 hB0.size
  have gkb : Hid (∀ v', Below V.heap.size V v' → Blk v' w.heap.size 35 #[.int .i64 0, .int .i64 0]) := Lib.hid (fun v' hb => kb.below hb kb.lt)
  have gat : Hid (∀ v', Below V.heap.size V v' → 0 < n → ∃ ad, A = some ad ∧ v'.cell? ad = some (.int .i64 (tz l 0).1) ∧ v'.cell? ⟨ad.block, ad.off + 1, none⟩ = some (.int .i64 (tz l 0).2) ∧ ad.block < w.heap.size) := Lib.hid (fun v' hb h0 => by
    obtain ⟨ad, e, hab, hc⟩ := h.at_ h0
    obtain ⟨c0, c1⟩ := hc v' (hB0.trans (hb.mono hB0.size))
    rw [Nat.zero_mul, Addr.add_zero'] at c0 c1
    exact ⟨ad, e, c0, c1, hab⟩)
  rcases chk_vals l with hE | hE | hE
  rotate_left
  · have gE : Hid (nxE l = 4 ∧ nxT l = (0, 0)) := Lib.hid (nx_chk (by decide) hE)
    have hck := check_any A n c l V hTV (by unfold maxLen; omega) 4 hE
    clear hTV h kb hE
    go_enter Try.func17, Try.ntmps17
    go_wp2_with fail
    rw [← hV]
    refine hck.mono ?_
    rintro en w1 ⟨rfl, hb1⟩
    have k1 := gkb.out w1 hb1
    have c0 : w1.cell? ⟨w.heap.size, 0, none⟩ = some (.int .i64 0) := by rw [k1.cell]; rfl
    have c1 : w1.cell? ⟨w.heap.size, 1, none⟩ = some (.int .i64 0) := by rw [k1.cell]; rfl
    have z0 := k1.frozen 0
    have z1 := k1.frozen 1
    have gb1 := Lib.hid hb1
    clear hV hck hb1
    go_wp2
    have kW := (k1.set_ 0 (.int .i64 0)).set_ 1 (.int .i64 0)
    have d0 : (((w1.setCell ⟨w.heap.size, 0, none⟩ (.int .i64 0)).setCell ⟨w.heap.size, 1, none⟩ (.int .i64 0)).cell? ⟨w.heap.size, 0, none⟩) = some (.int .i64 0) := by rw [kW.cell]; rfl
    have d1 : (((w1.setCell ⟨w.heap.size, 0, none⟩ (.int .i64 0)).setCell ⟨w.heap.size, 1, none⟩ (.int .i64 0)).cell? ⟨w.heap.size, 1, none⟩) = some (.int .i64 0) := by rw [kW.cell]; rfl
    refine bodyPost_ret (v := .tuple #[.agg #[.int .i64 0, .int .i64 0], .int .i64 4]) (by simp [results, Try.results17, go_sem, d0, d1]) rfl ?_
    exact ⟨by rw [gE.out.1, gE.out.2], (((hB0.trans (gb1.out.mono hB0.size)).setCell (p := ⟨w.heap.size, 0, none⟩) (Nat.le_refl _) _).setCell (p := ⟨w.heap.size, 1, none⟩) (Nat.le_refl _) _)⟩
  · have gE : Hid (nxE l = 8 ∧ nxT l = (0, 0)) := Lib.hid (nx_chk (by decide) hE)
    have hck := check_any A n c l V hTV (by unfold maxLen; omega) 8 hE
    clear hTV h kb hE
    go_enter Try.func17, Try.ntmps17
    go_wp2_with fail
    rw [← hV]
    refine hck.mono ?_
    rintro en w1 ⟨rfl, hb1⟩
    have k1 := gkb.out w1 hb1
    have c0 : w1.cell? ⟨w.heap.size, 0, none⟩ = some (.int .i64 0) := by rw [k1.cell]; rfl
    have c1 : w1.cell? ⟨w.heap.size, 1, none⟩ = some (.int .i64 0) := by rw [k1.cell]; rfl
    have z0 := k1.frozen 0
    have z1 := k1.frozen 1
    have gb1 := Lib.hid hb1
    clear hV hck hb1
    go_wp2
    have kW := (k1.set_ 0 (.int .i64 0)).set_ 1 (.int .i64 0)
    have d0 : (((w1.setCell ⟨w.heap.size, 0, none⟩ (.int .i64 0)).setCell ⟨w.heap.size, 1, none⟩ (.int .i64 0)).cell? ⟨w.heap.size, 0, none⟩) = some (.int .i64 0) := by rw [kW.cell]; rfl
    have d1 : (((w1.setCell ⟨w.heap.size, 0, none⟩ (.int .i64 0)).setCell ⟨w.heap.size, 1, none⟩ (.int .i64 0)).cell? ⟨w.heap.size, 1, none⟩) = some (.int .i64 0) := by rw [kW.cell]; rfl
    refine bodyPost_ret (v := .tuple #[.agg #[.int .i64 0, .int .i64 0], .int .i64 8]) (by simp [results, Try.results17, go_sem, d0, d1]) rfl ?_
    exact ⟨by rw [gE.out.1, gE.out.2], (((hB0.trans (gb1.out.mono hB0.size)).setCell (p := ⟨w.heap.size, 0, none⟩) (Nat.le_refl _) _).setCell (p := ⟨w.heap.size, 1, none⟩) (Nat.le_refl _) _)⟩
  rcases Nat.eq_zero_or_pos n with h0 | h0
  · have gE : Hid (nxE l = 6 ∧ nxT l = (0, 0)) := Lib.hid (nx_none hE (by rw [gl.out]; exact h0))
    have hck := check_any A n c l V hTV (by unfold maxLen; omega) 0 hE
    have dn : ((n : Int) == 0) = true := by simp; omega
    clear h0
    clear hTV h kb hE
    go_enter Try.func17, Try.ntmps17
    go_wp2_with fail
    rw [← hV]
    refine hck.mono ?_
    rintro en w1 ⟨rfl, hb1⟩
    have k1 := gkb.out w1 hb1
    have c0 : w1.cell? ⟨w.heap.size, 0, none⟩ = some (.int .i64 0) := by rw [k1.cell]; rfl
    have c1 : w1.cell? ⟨w.heap.size, 1, none⟩ = some (.int .i64 0) := by rw [k1.cell]; rfl
    have z0 := k1.frozen 0
    have z1 := k1.frozen 1
    have gb1 := Lib.hid hb1
    clear hV hck hb1
    go_wp2
    have kW := (k1.set_ 0 (.int .i64 0)).set_ 1 (.int .i64 0)
    have d0 : (((w1.setCell ⟨w.heap.size, 0, none⟩ (.int .i64 0)).setCell ⟨w.heap.size, 1, none⟩ (.int .i64 0)).cell? ⟨w.heap.size, 0, none⟩) = some (.int .i64 0) := by rw [kW.cell]; rfl
    have d1 : (((w1.setCell ⟨w.heap.size, 0, none⟩ (.int .i64 0)).setCell ⟨w.heap.size, 1, none⟩ (.int .i64 0)).cell? ⟨w.heap.size, 1, none⟩) = some (.int .i64 0) := by rw [kW.cell]; rfl
    refine bodyPost_ret (v := .tuple #[.agg #[.int .i64 0, .int .i64 0], .int .i64 6]) (by simp [results, Try.results17, go_sem, d0, d1]) rfl ?_
    exact ⟨by rw [gE.out.1, gE.out.2], (((hB0.trans (gb1.out.mono hB0.size)).setCell (p := ⟨w.heap.size, 0, none⟩) (Nat.le_refl _) _).setCell (p := ⟨w.heap.size, 1, none⟩) (Nat.le_refl _) _)⟩
  · have gE : Hid (nxE l = 0 ∧ nxT l = tz l 0) := Lib.hid (nx_some hE (by rw [gl.out]; exact h0))
    have hck := check_any A n c l V hTV (by unfold maxLen; omega) 0 hE
    have dn : ((n : Int) == 0) = false := by simp; omega
    have i2 : (0 : Int) < n := by omega
    have g0 := Lib.hid h0
    obtain ⟨x, y, hxy⟩ : ∃ x y, tz l 0 = (x, y) := ⟨_, _, rfl⟩
    have gxy := Lib.hid hxy
    clear h0 hxy
    clear hTV h kb hE
    go_enter Try.func17, Try.ntmps17
    go_wp2_with fail
    rw [← hV]
    refine hck.mono ?_
    rintro en w1 ⟨rfl, hb1⟩
    have k1 := gkb.out w1 hb1
    have c0 : w1.cell? ⟨w.heap.size, 0, none⟩ = some (.int .i64 0) := by rw [k1.cell]; rfl
    have c1 : w1.cell? ⟨w.heap.size, 1, none⟩ = some (.int .i64 0) := by rw [k1.cell]; rfl
    have z0 := k1.frozen 0
    have z1 := k1.frozen 1
    have gb1 := Lib.hid hb1
    clear hV hck hb1
    obtain ⟨ad, rfl, e0, e1, hab⟩ := gat.out w1 gb1.out g0.out
    rw [gxy.out] at e0 e1
    simp only at e0 e1
    clear gat
    go_wp2
    have kW := (k1.set_ 0 (.int .i64 x)).set_ 1 (.int .i64 y)
    have d0 : (((w1.setCell ⟨w.heap.size, 0, none⟩ (.int .i64 x)).setCell ⟨w.heap.size, 1, none⟩ (.int .i64 y)).cell? ⟨w.heap.size, 0, none⟩) = some (.int .i64 x) := by rw [kW.cell]; rfl
    have d1 : (((w1.setCell ⟨w.heap.size, 0, none⟩ (.int .i64 x)).setCell ⟨w.heap.size, 1, none⟩ (.int .i64 y)).cell? ⟨w.heap.size, 1, none⟩) = some (.int .i64 y) := by rw [kW.cell]; rfl
    refine bodyPost_ret (v := .tuple #[.agg #[.int .i64 x, .int .i64 y], .int .i64 0]) (by simp [results, Try.results17, go_sem, d0, d1]) rfl ?_
    exact ⟨by rw [gE.out.1, gE.out.2, gxy.out], (((hB0.trans (gb1.out.mono hB0.size)).setCell (p := ⟨w.heap.size, 0, none⟩) (Nat.le_refl _) _).setCell (p := ⟨w.heap.size, 1, none⟩) (Nat.le_refl _) _)⟩
set_option maxRecDepth 100000 in
set_option maxHeartbeats 8000000 in
theorem rnext_of (A : Option Addr) (n c : Nat) (l : List Tm) (hm : n ≤ 5000) (w : World) (h : Tms w w.heap.size A n l) : Calls Try.prog 21 #[.slice A n c] w fun en w' => en = .returned (.tuple #[.agg #[.int .i64 (nxT l).1, .int .i64 (nxT l).2], .int .i64 (nxE l)]) ∧ Below w.heap.size w w' := by
  have gl := Lib.hid h.1
  obtain ⟨V, hV⟩ : ∃ V, V = w.alloc (.cells #[.int .i64 0, .int .i64 0] 35) := ⟨_, rfl⟩
  have hB0 : Below w.heap.size w V := by rw [hV]; exact (Below.refl _ _).alloc (Nat.le_refl _) _
  have kb : Blk V w.heap.size 35 #[.int .i64 0, .int .i64 0] := by rw [hV]; exact Blk.new w _ _
  have hTV := h.go hB0 hB0.size
  have gkb : Hid (∀ v', Below V.heap.size V v' → Blk v' w.heap.size 35 #[.int .i64 0, .int .i64 0]) := Lib.hid (fun v' hb => kb.below hb kb.lt)
  have gat : Hid (∀ v', Below V.heap.size V v' → 0 < n → ∃ ad, A = some ad ∧ v'.cell? ad = some (.int .i64 (tz l 0).1) ∧ v'.cell? ⟨ad.block, ad.off + 1, none⟩ = some (.int .i64 (tz l 0).2) ∧ ad.block < w.heap.size) := Lib.hid (fun v' hb h0 => by
    obtain ⟨ad, e, hab, hc⟩ := h.at_ h0
    obtain ⟨c0, c1⟩ := hc v' (hB0.trans (hb.mono hB0.size))
    rw [Nat.zero_mul, Addr.add_zero'] at c0 c1
    exact ⟨ad, e, c0, c1, hab⟩)
  rcases chk_vals l with hE | hE | hE
  rotate_left
  · have gE : Hid (nxE l = 4 ∧ nxT l = (0, 0)) := Lib.hid (nx_chk (by decide) hE)
    have hck := rcheck_any A n c l V hTV (by unfold maxLen; omega) 4 hE
    clear hTV h kb hE
    go_enter Try.func21, Try.ntmps21
    go_wp2_with fail
    rw [← hV]
    refine hck.mono ?_
    rintro en w1 ⟨rfl, hb1⟩
    have k1 := gkb.out w1 hb1
    have c0 : w1.cell? ⟨w.heap.size, 0, none⟩ = some (.int .i64 0) := by rw [k1.cell]; rfl
    have c1 : w1.cell? ⟨w.heap.size, 1, none⟩ = some (.int .i64 0) := by rw [k1.cell]; rfl
    have z0 := k1.frozen 0
    have z1 := k1.frozen 1
    have gb1 := Lib.hid hb1
    clear hV hck hb1
    go_wp2
    have kW := (k1.set_ 0 (.int .i64 0)).set_ 1 (.int .i64 0)
    have d0 : (((w1.setCell ⟨w.heap.size, 0, none⟩ (.int .i64 0)).setCell ⟨w.heap.size, 1, none⟩ (.int .i64 0)).cell? ⟨w.heap.size, 0, none⟩) = some (.int .i64 0) := by rw [kW.cell]; rfl
    have d1 : (((w1.setCell ⟨w.heap.size, 0, none⟩ (.int .i64 0)).setCell ⟨w.heap.size, 1, none⟩ (.int .i64 0)).cell? ⟨w.heap.size, 1, none⟩) = some (.int .i64 0) := by rw [kW.cell]; rfl
    refine bodyPost_ret (v := .tuple #[.agg #[.int .i64 0, .int .i64 0], .int .i64 4]) (by simp [results, Try.results21, go_sem, d0, d1]) rfl ?_
    exact ⟨by rw [gE.out.1, gE.out.2], (((hB0.trans (gb1.out.mono hB0.size)).setCell (p := ⟨w.heap.size, 0, none⟩) (Nat.le_refl _) _).setCell (p := ⟨w.heap.size, 1, none⟩) (Nat.le_refl _) _)⟩
  · have gE : Hid (nxE l = 8 ∧ nxT l = (0, 0)) := Lib.hid (nx_chk (by decide) hE)
    have hck := rcheck_any A n c l V hTV (by unfold maxLen; omega) 8 hE
    clear hTV h kb hE
    go_enter Try.func21, Try.ntmps21
    go_wp2_with fail
    rw [← hV]
    refine hck.mono ?_
    rintro en w1 ⟨rfl, hb1⟩
    have k1 := gkb.out w1 hb1
    have c0 : w1.cell? ⟨w.heap.size, 0, none⟩ = some (.int .i64 0) := by rw [k1.cell]; rfl
    have c1 : w1.cell? ⟨w.heap.size, 1, none⟩ = some (.int .i64 0) := by rw [k1.cell]; rfl
    have z0 := k1.frozen 0
    have z1 := k1.frozen 1
    have gb1 := Lib.hid hb1
    clear hV hck hb1
    go_wp2
    have kW := (k1.set_ 0 (.int .i64 0)).set_ 1 (.int .i64 0)
    have d0 : (((w1.setCell ⟨w.heap.size, 0, none⟩ (.int .i64 0)).setCell ⟨w.heap.size, 1, none⟩ (.int .i64 0)).cell? ⟨w.heap.size, 0, none⟩) = some (.int .i64 0) := by rw [kW.cell]; rfl
    have d1 : (((w1.setCell ⟨w.heap.size, 0, none⟩ (.int .i64 0)).setCell ⟨w.heap.size, 1, none⟩ (.int .i64 0)).cell? ⟨w.heap.size, 1, none⟩) = some (.int .i64 0) := by rw [kW.cell]; rfl
    refine bodyPost_ret (v := .tuple #[.agg #[.int .i64 0, .int .i64 0], .int .i64 8]) (by simp [results, Try.results21, go_sem, d0, d1]) rfl ?_
    exact ⟨by rw [gE.out.1, gE.out.2], (((hB0.trans (gb1.out.mono hB0.size)).setCell (p := ⟨w.heap.size, 0, none⟩) (Nat.le_refl _) _).setCell (p := ⟨w.heap.size, 1, none⟩) (Nat.le_refl _) _)⟩
  rcases Nat.eq_zero_or_pos n with h0 | h0
  · have gE : Hid (nxE l = 6 ∧ nxT l = (0, 0)) := Lib.hid (nx_none hE (by rw [gl.out]; exact h0))
    have hck := rcheck_any A n c l V hTV (by unfold maxLen; omega) 0 hE
    have dn : ((n : Int) == 0) = true := by simp; omega
    clear h0
    clear hTV h kb hE
    go_enter Try.func21, Try.ntmps21
    go_wp2_with fail
    rw [← hV]
    refine hck.mono ?_
    rintro en w1 ⟨rfl, hb1⟩
    have k1 := gkb.out w1 hb1
    have c0 : w1.cell? ⟨w.heap.size, 0, none⟩ = some (.int .i64 0) := by rw [k1.cell]; rfl
    have c1 : w1.cell? ⟨w.heap.size, 1, none⟩ = some (.int .i64 0) := by rw [k1.cell]; rfl
    have z0 := k1.frozen 0
    have z1 := k1.frozen 1
    have gb1 := Lib.hid hb1
    clear hV hck hb1
    go_wp2
    have kW := (k1.set_ 0 (.int .i64 0)).set_ 1 (.int .i64 0)
    have d0 : (((w1.setCell ⟨w.heap.size, 0, none⟩ (.int .i64 0)).setCell ⟨w.heap.size, 1, none⟩ (.int .i64 0)).cell? ⟨w.heap.size, 0, none⟩) = some (.int .i64 0) := by rw [kW.cell]; rfl
    have d1 : (((w1.setCell ⟨w.heap.size, 0, none⟩ (.int .i64 0)).setCell ⟨w.heap.size, 1, none⟩ (.int .i64 0)).cell? ⟨w.heap.size, 1, none⟩) = some (.int .i64 0) := by rw [kW.cell]; rfl
    refine bodyPost_ret (v := .tuple #[.agg #[.int .i64 0, .int .i64 0], .int .i64 6]) (by simp [results, Try.results21, go_sem, d0, d1]) rfl ?_
    exact ⟨by rw [gE.out.1, gE.out.2], (((hB0.trans (gb1.out.mono hB0.size)).setCell (p := ⟨w.heap.size, 0, none⟩) (Nat.le_refl _) _).setCell (p := ⟨w.heap.size, 1, none⟩) (Nat.le_refl _) _)⟩
  · have gE : Hid (nxE l = 0 ∧ nxT l = tz l 0) := Lib.hid (nx_some hE (by rw [gl.out]; exact h0))
    have hck := rcheck_any A n c l V hTV (by unfold maxLen; omega) 0 hE
    have dn : ((n : Int) == 0) = false := by simp; omega
    have i2 : (0 : Int) < n := by omega
    have g0 := Lib.hid h0
    obtain ⟨x, y, hxy⟩ : ∃ x y, tz l 0 = (x, y) := ⟨_, _, rfl⟩
    have gxy := Lib.hid hxy
    clear h0 hxy
    clear hTV h kb hE
    go_enter Try.func21, Try.ntmps21
    go_wp2_with fail
    rw [← hV]
    refine hck.mono ?_
    rintro en w1 ⟨rfl, hb1⟩
    have k1 := gkb.out w1 hb1
    have c0 : w1.cell? ⟨w.heap.size, 0, none⟩ = some (.int .i64 0) := by rw [k1.cell]; rfl
    have c1 : w1.cell? ⟨w.heap.size, 1, none⟩ = some (.int .i64 0) := by rw [k1.cell]; rfl
    have z0 := k1.frozen 0
    have z1 := k1.frozen 1
    have gb1 := Lib.hid hb1
    clear hV hck hb1
    obtain ⟨ad, rfl, e0, e1, hab⟩ := gat.out w1 gb1.out g0.out
    rw [gxy.out] at e0 e1
    simp only at e0 e1
    clear gat
    go_wp2
    have kW := (k1.set_ 0 (.int .i64 x)).set_ 1 (.int .i64 y)
    have d0 : (((w1.setCell ⟨w.heap.size, 0, none⟩ (.int .i64 x)).setCell ⟨w.heap.size, 1, none⟩ (.int .i64 y)).cell? ⟨w.heap.size, 0, none⟩) = some (.int .i64 x) := by rw [kW.cell]; rfl
    have d1 : (((w1.setCell ⟨w.heap.size, 0, none⟩ (.int .i64 x)).setCell ⟨w.heap.size, 1, none⟩ (.int .i64 y)).cell? ⟨w.heap.size, 1, none⟩) = some (.int .i64 y) := by rw [kW.cell]; rfl
    refine bodyPost_ret (v := .tuple #[.agg #[.int .i64 x, .int .i64 y], .int .i64 0]) (by simp [results, Try.results21, go_sem, d0, d1]) rfl ?_
    exact ⟨by rw [gE.out.1, gE.out.2, gxy.out], (((hB0.trans (gb1.out.mono hB0.size)).setCell (p := ⟨w.heap.size, 0, none⟩) (Nat.le_refl _) _).setCell (p := ⟨w.heap.size, 1, none⟩) (Nat.le_refl _) _)⟩
end Go.Proofs.Ythageikchniahaa
