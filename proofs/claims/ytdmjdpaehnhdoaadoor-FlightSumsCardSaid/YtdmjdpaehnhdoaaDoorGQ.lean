/- Flight's Door: the reference's Sum of loads -/
import Derived.Test.YtdmjdpaehnhdoaaDoorFB
import Derived.Test.YtdmjdpaehnhdoaaDoorRE
import Derived.Test.YtdmjdpaehnhdoaaDoorLKM
namespace Go.Proofs.YtdmjdpaehnhdoaaDoor
open Go.ChangeShapes Go.WideShapes Go.ChangeAt Go.RowKit
set_option linter.unusedSimpArgs false
set_option linter.unusedVariables false
open Go.Shelf
set_option maxRecDepth 100000
theorem c12_rdo {w : World} {g : Nat} {o : MB} (h : RdO w o) (hk : Blk w g 27 #[.bool false, .slice none 0 0, .int .i64 0, .bool false, .slice none 0 0, .int .i64 0, .bool false, .slice none 0 0, .int .i64 0, .bool false, .slice none 0 0, .int .i64 0]) (u0 u1 u2 u3 u4 u5 u6 u7 u8 u9 u10 u11 : Value) : RdO (c12 w g u0 u1 u2 u3 u4 u5 u6 u7 u8 u9 u10 u11) o := ⟨c12_rdd h.1 hk u0 u1 u2 u3 u4 u5 u6 u7 u8 u9 u10 u11, c12_rdd h.2.1 hk u0 u1 u2 u3 u4 u5 u6 u7 u8 u9 u10 u11, c12_rdd h.2.2.1 hk u0 u1 u2 u3 u4 u5 u6 u7 u8 u9 u10 u11, c12_rdd h.2.2.2 hk u0 u1 u2 u3 u4 u5 u6 u7 u8 u9 u10 u11⟩
theorem mb_cells (s : MB) {i : Nat} {z : Int} : (#[.bool s.m.s.neg, .slice s.X0 s.m.s.ls.length s.c0, .int .i64 s.m.s.ex, .bool s.m.w.neg, .slice s.X1 s.m.w.ls.length s.c1, .int .i64 s.m.w.ex, .bool s.m.c.neg, .slice s.X2 s.m.c.ls.length s.c2, .int .i64 s.m.c.ex, .bool s.m.a.neg, .slice s.X3 s.m.a.ls.length s.c3, .int .i64 s.m.a.ex] : Array Value)[i]? ≠ some (.int .u32 z) := by
  match i with
  | 0 => simp
  | 1 => simp
  | 2 => simp
  | 3 => simp
  | 4 => simp
  | 5 => simp
  | 6 => simp
  | 7 => simp
  | 8 => simp
  | 9 => simp
  | 10 => simp
  | 11 => simp
  | i + 12 => simp
theorem c12_rdd2 {w : World} {g c : Nat} {X : Option Addr} {d : Dy} {s : MB} (h : RdD w w.heap.size d.neg X d.ls.length c d.ex d) (hk : Blk w g 27 #[.bool s.m.s.neg, .slice s.X0 s.m.s.ls.length s.c0, .int .i64 s.m.s.ex, .bool s.m.w.neg, .slice s.X1 s.m.w.ls.length s.c1, .int .i64 s.m.w.ex, .bool s.m.c.neg, .slice s.X2 s.m.c.ls.length s.c2, .int .i64 s.m.c.ex, .bool s.m.a.neg, .slice s.X3 s.m.a.ls.length s.c3, .int .i64 s.m.a.ex]) (u0 u1 u2 u3 u4 u5 u6 u7 u8 u9 u10 u11 : Value) : RdD (c12 w g u0 u1 u2 u3 u4 u5 u6 u7 u8 u9 u10 u11) (c12 w g u0 u1 u2 u3 u4 u5 u6 u7 u8 u9 u10 u11).heap.size d.neg X d.ls.length c d.ex d :=
  ⟨rfl, rfl, rfl, h.2.2.2.1, (c12_far (g := g) ⟨h.2.2.2.2, reads_ne32 h.2.2.2.2 hk (fun i z => mb_cells s)⟩ u0 u1 u2 u3 u4 u5 u6 u7 u8 u9 u10 u11).1⟩
theorem c12_rdo2 {w : World} {g : Nat} {o s : MB} (h : RdO w o) (hk : Blk w g 27 #[.bool s.m.s.neg, .slice s.X0 s.m.s.ls.length s.c0, .int .i64 s.m.s.ex, .bool s.m.w.neg, .slice s.X1 s.m.w.ls.length s.c1, .int .i64 s.m.w.ex, .bool s.m.c.neg, .slice s.X2 s.m.c.ls.length s.c2, .int .i64 s.m.c.ex, .bool s.m.a.neg, .slice s.X3 s.m.a.ls.length s.c3, .int .i64 s.m.a.ex]) (u0 u1 u2 u3 u4 u5 u6 u7 u8 u9 u10 u11 : Value) : RdO (c12 w g u0 u1 u2 u3 u4 u5 u6 u7 u8 u9 u10 u11) o := ⟨c12_rdd2 h.1 hk u0 u1 u2 u3 u4 u5 u6 u7 u8 u9 u10 u11, c12_rdd2 h.2.1 hk u0 u1 u2 u3 u4 u5 u6 u7 u8 u9 u10 u11, c12_rdd2 h.2.2.1 hk u0 u1 u2 u3 u4 u5 u6 u7 u8 u9 u10 u11, c12_rdd2 h.2.2.2 hk u0 u1 u2 u3 u4 u5 u6 u7 u8 u9 u10 u11⟩
theorem c12_other {w : World} {g g2 : Nat} {t : TypeId} {cs : Array Value} (h : Blk w g2 t cs) (hne : g2 ≠ g) (u0 u1 u2 u3 u4 u5 u6 u7 u8 u9 u10 u11 : Value) : Blk (c12 w g u0 u1 u2 u3 u4 u5 u6 u7 u8 u9 u10 u11) g2 t cs := by
  unfold c12
  exact (((((((((((h.far (p := ⟨g, 0, none⟩) hne u0).far (p := ⟨g, 1, none⟩) hne u1).far (p := ⟨g, 2, none⟩) hne u2).far (p := ⟨g, 3, none⟩) hne u3).far (p := ⟨g, 4, none⟩) hne u4).far (p := ⟨g, 5, none⟩) hne u5).far (p := ⟨g, 6, none⟩) hne u6).far (p := ⟨g, 7, none⟩) hne u7).far (p := ⟨g, 8, none⟩) hne u8).far (p := ⟨g, 9, none⟩) hne u9).far (p := ⟨g, 10, none⟩) hne u10).far (p := ⟨g, 11, none⟩) hne u11
def RSumP (l : List En) (N : Int) (w : World) (en : Ending) (w' : World) : Prop := ∃ E0, ChkF l E0 ∧ ∃ o : MB, o.m = lsM (fsA E0 N) (sumFl l N) ∧ en = .returned (.tuple #[.agg #[.bool o.m.s.neg, .slice o.X0 o.m.s.ls.length o.c0, .int .i64 o.m.s.ex, .bool o.m.w.neg, .slice o.X1 o.m.w.ls.length o.c1, .int .i64 o.m.w.ex, .bool o.m.c.neg, .slice o.X2 o.m.c.ls.length o.c2, .int .i64 o.m.c.ex, .bool o.m.a.neg, .slice o.X3 o.m.a.ls.length o.c3, .int .i64 o.m.a.ex], .int .i64 (lsE (fsA E0 N) (sumFl l N))]) ∧ RdO w' o ∧ Below w.heap.size w w'
theorem rsum_err {l : List En} {N E0 E : Int} {w w' : World} (hc : ChkF l E0) (hE : fsA E0 N = E) (h0 : E ≠ 0) (hb : Below w.heap.size w w') : RSumP l N w (.returned (.tuple #[.agg #[.bool false, .slice none 0 0, .int .i64 0, .bool false, .slice none 0 0, .int .i64 0, .bool false, .slice none 0 0, .int .i64 0, .bool false, .slice none 0 0, .int .i64 0], .int .i64 E])) w' := by
  refine ⟨E0, hc, (⟨zM, none, 0, none, 0, none, 0, none, 0⟩ : MB), ?_, ?_, rdo_z _, hb⟩
  · rw [hE]; unfold lsM; rw [if_pos h0]
  · rw [hE]; unfold lsE; rw [if_pos h0]; rfl
set_option maxHeartbeats 32000000 in
theorem rsum13_any (A : Option Addr) (n c : Nat) (l : List En) (hm : n ≤ 8300) (w : World) (h1 : Ens w w.heap.size A n l) (hl : ∀ x ∈ l, ltM4 x.give) (N : Int) : Calls Tryd.prog 11 #[.slice A n c, .int .i64 N] w (RSumP l N w) := by
  have gln := Lib.hid (ens_len h1)
  obtain ⟨V, hV⟩ : ∃ V, V = w.alloc (.cells #[.bool false, .slice none 0 0, .int .i64 0, .bool false, .slice none 0 0, .int .i64 0, .bool false, .slice none 0 0, .int .i64 0, .bool false, .slice none 0 0, .int .i64 0] 27) := ⟨_, rfl⟩
  have hB : Below w.heap.size w V := by rw [hV]; exact (Below.refl _ w).alloc (Nat.le_refl _) _
  have kr : Blk V w.heap.size 27 #[.bool false, .slice none 0 0, .int .i64 0, .bool false, .slice none 0 0, .int .i64 0, .bool false, .slice none 0 0, .int .i64 0, .bool false, .slice none 0 0, .int .i64 0] := by rw [hV]; exact Blk.new w _ _
  have hc := rfcheck_any A n c l (by unfold maxLen; omega) V (Recs.more (Recs.below h1 hB) hB.size)
  have gh1 := Lib.hid h1
  have ghl := Lib.hid hl
  have gB := Lib.hid hB
  have gkr := Lib.hid kr
  clear h1 hl hB kr
  go_enter Tryd.func11, Tryd.ntmps11
  go_wp2_with fail
  rw [← hV]
  clear hV
  refine hc.mono ?_
  rintro en w1 ⟨E, rfl, hchk0, hb1⟩
  clear hc
  have hchk := Lib.hid hchk0
  have kr1 := gkr.out.below hb1 gkr.out.lt
  have gB1 := Lib.hid (gB.out.trans (hb1.mono gB.out.size))
  clear hchk0
  by_cases h0 : E = 0
  rotate_left
  · have t0 : (E != 0) = true := bne_iff_ne.2 h0
    have hne := h0
    have gfs : Hid (fsA E N = E) := Lib.hid (by unfold fsA; rw [if_pos h0])
    clear h0
    have kz : Blk ((((((((((((w1.setCell ⟨w.heap.size, 0, none⟩ (.bool false)).setCell ⟨w.heap.size, 1, none⟩ (.slice none 0 0)).setCell ⟨w.heap.size, 2, none⟩ (.int .i64 0)).setCell ⟨w.heap.size, 3, none⟩ (.bool false)).setCell ⟨w.heap.size, 4, none⟩ (.slice none 0 0)).setCell ⟨w.heap.size, 5, none⟩ (.int .i64 0)).setCell ⟨w.heap.size, 6, none⟩ (.bool false)).setCell ⟨w.heap.size, 7, none⟩ (.slice none 0 0)).setCell ⟨w.heap.size, 8, none⟩ (.int .i64 0)).setCell ⟨w.heap.size, 9, none⟩ (.bool false)).setCell ⟨w.heap.size, 10, none⟩ (.slice none 0 0)).setCell ⟨w.heap.size, 11, none⟩ (.int .i64 0)) w.heap.size 27 #[.bool false, .slice none 0 0, .int .i64 0, .bool false, .slice none 0 0, .int .i64 0, .bool false, .slice none 0 0, .int .i64 0, .bool false, .slice none 0 0, .int .i64 0] := c12_blk kr1 (.bool false) (.slice none 0 0) (.int .i64 0) (.bool false) (.slice none 0 0) (.int .i64 0) (.bool false) (.slice none 0 0) (.int .i64 0) (.bool false) (.slice none 0 0) (.int .i64 0)
    have hBz : Below w.heap.size w ((((((((((((w1.setCell ⟨w.heap.size, 0, none⟩ (.bool false)).setCell ⟨w.heap.size, 1, none⟩ (.slice none 0 0)).setCell ⟨w.heap.size, 2, none⟩ (.int .i64 0)).setCell ⟨w.heap.size, 3, none⟩ (.bool false)).setCell ⟨w.heap.size, 4, none⟩ (.slice none 0 0)).setCell ⟨w.heap.size, 5, none⟩ (.int .i64 0)).setCell ⟨w.heap.size, 6, none⟩ (.bool false)).setCell ⟨w.heap.size, 7, none⟩ (.slice none 0 0)).setCell ⟨w.heap.size, 8, none⟩ (.int .i64 0)).setCell ⟨w.heap.size, 9, none⟩ (.bool false)).setCell ⟨w.heap.size, 10, none⟩ (.slice none 0 0)).setCell ⟨w.heap.size, 11, none⟩ (.int .i64 0)) := c12_below gB1.out (Nat.le_refl _) (.bool false) (.slice none 0 0) (.int .i64 0) (.bool false) (.slice none 0 0) (.int .i64 0) (.bool false) (.slice none 0 0) (.int .i64 0) (.bool false) (.slice none 0 0) (.int .i64 0)
    have gf := Lib.hid (rsum_err (E := E) hchk.out gfs.out hne hBz)
    have r0 : w1.cell? ⟨w.heap.size, 0, none⟩ = some (.bool false) := by rw [kr1.cell]; rfl
    have r1 : w1.cell? ⟨w.heap.size, 1, none⟩ = some (.slice none 0 0) := by rw [kr1.cell]; rfl
    have r2 : w1.cell? ⟨w.heap.size, 2, none⟩ = some (.int .i64 0) := by rw [kr1.cell]; rfl
    have r3 : w1.cell? ⟨w.heap.size, 3, none⟩ = some (.bool false) := by rw [kr1.cell]; rfl
    have r4 : w1.cell? ⟨w.heap.size, 4, none⟩ = some (.slice none 0 0) := by rw [kr1.cell]; rfl
    have r5 : w1.cell? ⟨w.heap.size, 5, none⟩ = some (.int .i64 0) := by rw [kr1.cell]; rfl
    have r6 : w1.cell? ⟨w.heap.size, 6, none⟩ = some (.bool false) := by rw [kr1.cell]; rfl
    have r7 : w1.cell? ⟨w.heap.size, 7, none⟩ = some (.slice none 0 0) := by rw [kr1.cell]; rfl
    have r8 : w1.cell? ⟨w.heap.size, 8, none⟩ = some (.int .i64 0) := by rw [kr1.cell]; rfl
    have r9 : w1.cell? ⟨w.heap.size, 9, none⟩ = some (.bool false) := by rw [kr1.cell]; rfl
    have r10 : w1.cell? ⟨w.heap.size, 10, none⟩ = some (.slice none 0 0) := by rw [kr1.cell]; rfl
    have r11 : w1.cell? ⟨w.heap.size, 11, none⟩ = some (.int .i64 0) := by rw [kr1.cell]; rfl
    have f0 := kr1.frozen 0
    have f1 := kr1.frozen 1
    have f2 := kr1.frozen 2
    have f3 := kr1.frozen 3
    have f4 := kr1.frozen 4
    have f5 := kr1.frozen 5
    have f6 := kr1.frozen 6
    have f7 := kr1.frozen 7
    have f8 := kr1.frozen 8
    have f9 := kr1.frozen 9
    have f10 := kr1.frozen 10
    have f11 := kr1.frozen 11
    clear hne hBz
    go_wp2
    refine bodyPost_ret (ret_mass rfl _ _ w.heap.size #[.bool false, .slice none 0 0, .int .i64 0, .bool false, .slice none 0 0, .int .i64 0, .bool false, .slice none 0 0, .int .i64 0, .bool false, .slice none 0 0, .int .i64 0] (.int .i64 E) rfl kz info_mass rfl) rfl ?_
    exact gf.out
  subst h0
  by_cases hN : 0 ≤ N ∧ N ≤ 65535
  rotate_left
  · have gfs : Hid (fsA 0 N = 2) := Lib.hid (by unfold fsA; rw [if_neg (by decide), if_neg hN])
    have hne : (2 : Int) ≠ 0 := by decide
    by_cases hn : N < 0
    · have d1 : decide (N < 0) = true := decide_eq_true hn
      clear hN
      have kz : Blk ((((((((((((w1.setCell ⟨w.heap.size, 0, none⟩ (.bool false)).setCell ⟨w.heap.size, 1, none⟩ (.slice none 0 0)).setCell ⟨w.heap.size, 2, none⟩ (.int .i64 0)).setCell ⟨w.heap.size, 3, none⟩ (.bool false)).setCell ⟨w.heap.size, 4, none⟩ (.slice none 0 0)).setCell ⟨w.heap.size, 5, none⟩ (.int .i64 0)).setCell ⟨w.heap.size, 6, none⟩ (.bool false)).setCell ⟨w.heap.size, 7, none⟩ (.slice none 0 0)).setCell ⟨w.heap.size, 8, none⟩ (.int .i64 0)).setCell ⟨w.heap.size, 9, none⟩ (.bool false)).setCell ⟨w.heap.size, 10, none⟩ (.slice none 0 0)).setCell ⟨w.heap.size, 11, none⟩ (.int .i64 0)) w.heap.size 27 #[.bool false, .slice none 0 0, .int .i64 0, .bool false, .slice none 0 0, .int .i64 0, .bool false, .slice none 0 0, .int .i64 0, .bool false, .slice none 0 0, .int .i64 0] := c12_blk kr1 (.bool false) (.slice none 0 0) (.int .i64 0) (.bool false) (.slice none 0 0) (.int .i64 0) (.bool false) (.slice none 0 0) (.int .i64 0) (.bool false) (.slice none 0 0) (.int .i64 0)
      have hBz : Below w.heap.size w ((((((((((((w1.setCell ⟨w.heap.size, 0, none⟩ (.bool false)).setCell ⟨w.heap.size, 1, none⟩ (.slice none 0 0)).setCell ⟨w.heap.size, 2, none⟩ (.int .i64 0)).setCell ⟨w.heap.size, 3, none⟩ (.bool false)).setCell ⟨w.heap.size, 4, none⟩ (.slice none 0 0)).setCell ⟨w.heap.size, 5, none⟩ (.int .i64 0)).setCell ⟨w.heap.size, 6, none⟩ (.bool false)).setCell ⟨w.heap.size, 7, none⟩ (.slice none 0 0)).setCell ⟨w.heap.size, 8, none⟩ (.int .i64 0)).setCell ⟨w.heap.size, 9, none⟩ (.bool false)).setCell ⟨w.heap.size, 10, none⟩ (.slice none 0 0)).setCell ⟨w.heap.size, 11, none⟩ (.int .i64 0)) := c12_below gB1.out (Nat.le_refl _) (.bool false) (.slice none 0 0) (.int .i64 0) (.bool false) (.slice none 0 0) (.int .i64 0) (.bool false) (.slice none 0 0) (.int .i64 0) (.bool false) (.slice none 0 0) (.int .i64 0)
      have gf := Lib.hid (rsum_err (E := 2) hchk.out gfs.out hne hBz)
      have r0 : w1.cell? ⟨w.heap.size, 0, none⟩ = some (.bool false) := by rw [kr1.cell]; rfl
      have r1 : w1.cell? ⟨w.heap.size, 1, none⟩ = some (.slice none 0 0) := by rw [kr1.cell]; rfl
      have r2 : w1.cell? ⟨w.heap.size, 2, none⟩ = some (.int .i64 0) := by rw [kr1.cell]; rfl
      have r3 : w1.cell? ⟨w.heap.size, 3, none⟩ = some (.bool false) := by rw [kr1.cell]; rfl
      have r4 : w1.cell? ⟨w.heap.size, 4, none⟩ = some (.slice none 0 0) := by rw [kr1.cell]; rfl
      have r5 : w1.cell? ⟨w.heap.size, 5, none⟩ = some (.int .i64 0) := by rw [kr1.cell]; rfl
      have r6 : w1.cell? ⟨w.heap.size, 6, none⟩ = some (.bool false) := by rw [kr1.cell]; rfl
      have r7 : w1.cell? ⟨w.heap.size, 7, none⟩ = some (.slice none 0 0) := by rw [kr1.cell]; rfl
      have r8 : w1.cell? ⟨w.heap.size, 8, none⟩ = some (.int .i64 0) := by rw [kr1.cell]; rfl
      have r9 : w1.cell? ⟨w.heap.size, 9, none⟩ = some (.bool false) := by rw [kr1.cell]; rfl
      have r10 : w1.cell? ⟨w.heap.size, 10, none⟩ = some (.slice none 0 0) := by rw [kr1.cell]; rfl
      have r11 : w1.cell? ⟨w.heap.size, 11, none⟩ = some (.int .i64 0) := by rw [kr1.cell]; rfl
      have f0 := kr1.frozen 0
      have f1 := kr1.frozen 1
      have f2 := kr1.frozen 2
      have f3 := kr1.frozen 3
      have f4 := kr1.frozen 4
      have f5 := kr1.frozen 5
      have f6 := kr1.frozen 6
      have f7 := kr1.frozen 7
      have f8 := kr1.frozen 8
      have f9 := kr1.frozen 9
      have f10 := kr1.frozen 10
      have f11 := kr1.frozen 11
      clear hne hBz
      go_wp2
      refine bodyPost_ret (ret_mass rfl _ _ w.heap.size #[.bool false, .slice none 0 0, .int .i64 0, .bool false, .slice none 0 0, .int .i64 0, .bool false, .slice none 0 0, .int .i64 0, .bool false, .slice none 0 0, .int .i64 0] (.int .i64 2) rfl kz info_mass rfl) rfl ?_
      exact gf.out
    · have d1 : decide (N < 0) = false := decide_eq_false hn
      have hn2 : 65535 < N := by omega
      have d2 : decide (65535 < N) = true := decide_eq_true hn2
      clear hN
      have kz : Blk ((((((((((((w1.setCell ⟨w.heap.size, 0, none⟩ (.bool false)).setCell ⟨w.heap.size, 1, none⟩ (.slice none 0 0)).setCell ⟨w.heap.size, 2, none⟩ (.int .i64 0)).setCell ⟨w.heap.size, 3, none⟩ (.bool false)).setCell ⟨w.heap.size, 4, none⟩ (.slice none 0 0)).setCell ⟨w.heap.size, 5, none⟩ (.int .i64 0)).setCell ⟨w.heap.size, 6, none⟩ (.bool false)).setCell ⟨w.heap.size, 7, none⟩ (.slice none 0 0)).setCell ⟨w.heap.size, 8, none⟩ (.int .i64 0)).setCell ⟨w.heap.size, 9, none⟩ (.bool false)).setCell ⟨w.heap.size, 10, none⟩ (.slice none 0 0)).setCell ⟨w.heap.size, 11, none⟩ (.int .i64 0)) w.heap.size 27 #[.bool false, .slice none 0 0, .int .i64 0, .bool false, .slice none 0 0, .int .i64 0, .bool false, .slice none 0 0, .int .i64 0, .bool false, .slice none 0 0, .int .i64 0] := c12_blk kr1 (.bool false) (.slice none 0 0) (.int .i64 0) (.bool false) (.slice none 0 0) (.int .i64 0) (.bool false) (.slice none 0 0) (.int .i64 0) (.bool false) (.slice none 0 0) (.int .i64 0)
      have hBz : Below w.heap.size w ((((((((((((w1.setCell ⟨w.heap.size, 0, none⟩ (.bool false)).setCell ⟨w.heap.size, 1, none⟩ (.slice none 0 0)).setCell ⟨w.heap.size, 2, none⟩ (.int .i64 0)).setCell ⟨w.heap.size, 3, none⟩ (.bool false)).setCell ⟨w.heap.size, 4, none⟩ (.slice none 0 0)).setCell ⟨w.heap.size, 5, none⟩ (.int .i64 0)).setCell ⟨w.heap.size, 6, none⟩ (.bool false)).setCell ⟨w.heap.size, 7, none⟩ (.slice none 0 0)).setCell ⟨w.heap.size, 8, none⟩ (.int .i64 0)).setCell ⟨w.heap.size, 9, none⟩ (.bool false)).setCell ⟨w.heap.size, 10, none⟩ (.slice none 0 0)).setCell ⟨w.heap.size, 11, none⟩ (.int .i64 0)) := c12_below gB1.out (Nat.le_refl _) (.bool false) (.slice none 0 0) (.int .i64 0) (.bool false) (.slice none 0 0) (.int .i64 0) (.bool false) (.slice none 0 0) (.int .i64 0) (.bool false) (.slice none 0 0) (.int .i64 0)
      have gf := Lib.hid (rsum_err (E := 2) hchk.out gfs.out hne hBz)
      have r0 : w1.cell? ⟨w.heap.size, 0, none⟩ = some (.bool false) := by rw [kr1.cell]; rfl
      have r1 : w1.cell? ⟨w.heap.size, 1, none⟩ = some (.slice none 0 0) := by rw [kr1.cell]; rfl
      have r2 : w1.cell? ⟨w.heap.size, 2, none⟩ = some (.int .i64 0) := by rw [kr1.cell]; rfl
      have r3 : w1.cell? ⟨w.heap.size, 3, none⟩ = some (.bool false) := by rw [kr1.cell]; rfl
      have r4 : w1.cell? ⟨w.heap.size, 4, none⟩ = some (.slice none 0 0) := by rw [kr1.cell]; rfl
      have r5 : w1.cell? ⟨w.heap.size, 5, none⟩ = some (.int .i64 0) := by rw [kr1.cell]; rfl
      have r6 : w1.cell? ⟨w.heap.size, 6, none⟩ = some (.bool false) := by rw [kr1.cell]; rfl
      have r7 : w1.cell? ⟨w.heap.size, 7, none⟩ = some (.slice none 0 0) := by rw [kr1.cell]; rfl
      have r8 : w1.cell? ⟨w.heap.size, 8, none⟩ = some (.int .i64 0) := by rw [kr1.cell]; rfl
      have r9 : w1.cell? ⟨w.heap.size, 9, none⟩ = some (.bool false) := by rw [kr1.cell]; rfl
      have r10 : w1.cell? ⟨w.heap.size, 10, none⟩ = some (.slice none 0 0) := by rw [kr1.cell]; rfl
      have r11 : w1.cell? ⟨w.heap.size, 11, none⟩ = some (.int .i64 0) := by rw [kr1.cell]; rfl
      have f0 := kr1.frozen 0
      have f1 := kr1.frozen 1
      have f2 := kr1.frozen 2
      have f3 := kr1.frozen 3
      have f4 := kr1.frozen 4
      have f5 := kr1.frozen 5
      have f6 := kr1.frozen 6
      have f7 := kr1.frozen 7
      have f8 := kr1.frozen 8
      have f9 := kr1.frozen 9
      have f10 := kr1.frozen 10
      have f11 := kr1.frozen 11
      clear hne hBz
      go_wp2
      refine bodyPost_ret (ret_mass rfl _ _ w.heap.size #[.bool false, .slice none 0 0, .int .i64 0, .bool false, .slice none 0 0, .int .i64 0, .bool false, .slice none 0 0, .int .i64 0, .bool false, .slice none 0 0, .int .i64 0] (.int .i64 2) rfl kz info_mass rfl) rfl ?_
      exact gf.out
  have d1 : decide (N < 0) = false := decide_eq_false (by omega)
  have d2 : decide (65535 < N) = false := decide_eq_false (by omega)
  have y1 : ¬ N < 0 := by omega
  have y2 : ¬ 65535 < N := by omega
  have gfs : Hid (fsA 0 N = 0) := Lib.hid (by unfold fsA; rw [if_neg (by decide), if_pos hN])
  obtain ⟨W1, hW1⟩ : ∃ W, W = w1.alloc (.cells #[.bool false, .slice none 0 0, .int .i64 0, .bool false, .slice none 0 0, .int .i64 0, .bool false, .slice none 0 0, .int .i64 0, .bool false, .slice none 0 0, .int .i64 0] 27) := ⟨_, rfl⟩
  obtain ⟨g, hg⟩ : ∃ g, w1.heap.size = g := ⟨_, rfl⟩
  have hgw : w.heap.size < g := by rw [← hg]; exact kr1.lt
  have g0 : Hid (Blk W1 g 27 #[.bool (⟨zM, none, 0, none, 0, none, 0, none, 0⟩ : MB).m.s.neg, .slice (⟨zM, none, 0, none, 0, none, 0, none, 0⟩ : MB).X0 (⟨zM, none, 0, none, 0, none, 0, none, 0⟩ : MB).m.s.ls.length (⟨zM, none, 0, none, 0, none, 0, none, 0⟩ : MB).c0, .int .i64 (⟨zM, none, 0, none, 0, none, 0, none, 0⟩ : MB).m.s.ex, .bool (⟨zM, none, 0, none, 0, none, 0, none, 0⟩ : MB).m.w.neg, .slice (⟨zM, none, 0, none, 0, none, 0, none, 0⟩ : MB).X1 (⟨zM, none, 0, none, 0, none, 0, none, 0⟩ : MB).m.w.ls.length (⟨zM, none, 0, none, 0, none, 0, none, 0⟩ : MB).c1, .int .i64 (⟨zM, none, 0, none, 0, none, 0, none, 0⟩ : MB).m.w.ex, .bool (⟨zM, none, 0, none, 0, none, 0, none, 0⟩ : MB).m.c.neg, .slice (⟨zM, none, 0, none, 0, none, 0, none, 0⟩ : MB).X2 (⟨zM, none, 0, none, 0, none, 0, none, 0⟩ : MB).m.c.ls.length (⟨zM, none, 0, none, 0, none, 0, none, 0⟩ : MB).c2, .int .i64 (⟨zM, none, 0, none, 0, none, 0, none, 0⟩ : MB).m.c.ex, .bool (⟨zM, none, 0, none, 0, none, 0, none, 0⟩ : MB).m.a.neg, .slice (⟨zM, none, 0, none, 0, none, 0, none, 0⟩ : MB).X3 (⟨zM, none, 0, none, 0, none, 0, none, 0⟩ : MB).m.a.ls.length (⟨zM, none, 0, none, 0, none, 0, none, 0⟩ : MB).c3, .int .i64 (⟨zM, none, 0, none, 0, none, 0, none, 0⟩ : MB).m.a.ex] ∧ RdO W1 (⟨zM, none, 0, none, 0, none, 0, none, 0⟩ : MB) ∧ Blk W1 w.heap.size 27 #[.bool false, .slice none 0 0, .int .i64 0, .bool false, .slice none 0 0, .int .i64 0, .bool false, .slice none 0 0, .int .i64 0, .bool false, .slice none 0 0, .int .i64 0] ∧ Below w.heap.size w W1) := Lib.hid ⟨by rw [hW1, ← hg]; exact Blk.new _ _ _, rdo_z _, by rw [hW1]; exact kr1.alloc _, by rw [hW1]; exact gB1.out.alloc gB1.out.size _⟩
  clear hN kr1 gB1
  go_upto_region 7 with (fail)
  rw [← hW1]
  clear hW1 hg
  go_wp2
  go_loopw [8] (fun t wr => ∃ (k : Nat) (s : MB), k ≤ n ∧ t = .int .i64 (k : Int) ∧ Hid (sumL (((l.take k).filter (fun x => x.ep == N)).map (·.give)) = some s.m) ∧ Hid (RdO wr s) ∧ Hid (Blk wr g 27 #[.bool s.m.s.neg, .slice s.X0 s.m.s.ls.length s.c0, .int .i64 s.m.s.ex, .bool s.m.w.neg, .slice s.X1 s.m.w.ls.length s.c1, .int .i64 s.m.w.ex, .bool s.m.c.neg, .slice s.X2 s.m.c.ls.length s.c2, .int .i64 s.m.c.ex, .bool s.m.a.neg, .slice s.X3 s.m.a.ls.length s.c3, .int .i64 s.m.a.ex]) ∧ Hid (Blk wr w.heap.size 27 #[.bool false, .slice none 0 0, .int .i64 0, .bool false, .slice none 0 0, .int .i64 0, .bool false, .slice none 0 0, .int .i64 0, .bool false, .slice none 0 0, .int .i64 0]) ∧ Hid (Below w.heap.size w wr)) (fun t _ => n - (intOf t).toNat)
  case atStart => exact ⟨0, (⟨zM, none, 0, none, 0, none, 0, none, 0⟩ : MB), Nat.zero_le _, rfl, Lib.hid rfl, Lib.hid g0.out.2.1, Lib.hid g0.out.1, Lib.hid g0.out.2.2.1, Lib.hid g0.out.2.2.2⟩
  case round =>
    clear g0 d1 d2 y1 y2
    obtain ⟨k, s, hk, rfl, gS, us, k8, k6r, gB8⟩ := hrel
    by_cases hlt : k < n
    · obtain ⟨ad, nu, ep, cp, ag0, aX0, an0, ac0, ae0, ag1, aX1, an1, ac1, ae1, ag2, aX2, an2, ac2, ae2, ag3, aX3, an3, ac3, ae3, m, rfl, hb1', hl1, hx1, hrel1⟩ := ens_rel gh1.out hlt
      obtain ⟨a0, a1, a2, a3, a4, a5, a6, a7, a8, a9, a10, a11, a12, a13, a14⟩ := (hrel1 wr gB8.out).2
      have i1 : (0 : Int) ≤ k := by omega
      have i2 : (k : Int) < n := by omega
      have gl1 := Lib.hid hl1
      have gm := Lib.hid (And.intro (chk_may hchk.out _ (List.mem_of_getElem? hl1)) (ghl.out _ (List.mem_of_getElem? hl1)))
      have gx := Lib.hid hrel1
      have gtk : Hid (∀ b, (ep == N) = b → ((l.take (k + 1)).filter (fun x => x.ep == N)).map (·.give) = ((l.take k).filter (fun x => x.ep == N)).map (·.give) ++ (if b = true then [m] else [])) := Lib.hid (fun b hb => by
        have e : l.take (k + 1) = l.take k ++ [⟨nu, ep, cp, m⟩] := by rw [List.take_add_one, gl1.out]; rfl
        rw [e, List.filter_append, List.map_append]
        congr 1
        rw [List.filter_cons, List.filter_nil]
        simp only [hb]
        cases b <;> rfl)
      clear hx1 hl1 hrel1 hb1'
      obtain ⟨b1, d1⟩ : ∃ b, (ep == N) = b := ⟨_, rfl⟩
      have gtk1 := Lib.hid (gtk.out b1 d1)
      clear gtk
      go_upto_region 10 with (fail)
      cases b1 with
      | false =>
        have gS' : Hid (sumL (((l.take (k + 1)).filter (fun x => x.ep == N)).map (·.give)) = some s.m) := Lib.hid (by rw [gtk1.out, if_neg (by decide), List.append_nil]; exact gS.out)
        go_wp2
        go_roundw
        case rel => exact ⟨k + 1, s, by omega, by go_num, gS', us, k8, k6r, gB8⟩
        case measure => simp [intOf]; omega
      | true =>
        have hms := sumF_may' _ zM s.m okM_zM.may gS.out
        have hlts := sumF_lt' _ zM s.m zM_lt gS.out
        obtain ⟨E, hE⟩ : ∃ E, maE s.m m = E := ⟨_, rfl⟩
        have gE := Lib.hid hE
        have hadd : ∀ w', Below wr.heap.size wr w' → Calls Tryd.prog 34 #[.agg #[.bool s.m.s.neg, .slice s.X0 s.m.s.ls.length s.c0, .int .i64 s.m.s.ex, .bool s.m.w.neg, .slice s.X1 s.m.w.ls.length s.c1, .int .i64 s.m.w.ex, .bool s.m.c.neg, .slice s.X2 s.m.c.ls.length s.c2, .int .i64 s.m.c.ex, .bool s.m.a.neg, .slice s.X3 s.m.a.ls.length s.c3, .int .i64 s.m.a.ex], .agg #[.bool ag0, .slice aX0 an0 ac0, .int .i64 ae0, .bool ag1, .slice aX1 an1 ac1, .int .i64 ae1, .bool ag2, .slice aX2 an2 ac2, .int .i64 ae2, .bool ag3, .slice aX3 an3 ac3, .int .i64 ae3]] w' (fun en w'' => ∃ o : MB, o.m = maM s.m m ∧ en = .returned (.tuple #[.agg #[.bool o.m.s.neg, .slice o.X0 o.m.s.ls.length o.c0, .int .i64 o.m.s.ex, .bool o.m.w.neg, .slice o.X1 o.m.w.ls.length o.c1, .int .i64 o.m.w.ex, .bool o.m.c.neg, .slice o.X2 o.m.c.ls.length o.c2, .int .i64 o.m.c.ex, .bool o.m.a.neg, .slice o.X3 o.m.a.ls.length o.c3, .int .i64 o.m.a.ex], .int .i64 (maE s.m m)]) ∧ RdO w'' o ∧ Below w'.heap.size w' w'') := fun w' hb => by
          obtain ⟨⟨e0a, e0b, e0c, e0d, e0e⟩, ⟨e1a, e1b, e1c, e1d, e1e⟩, ⟨e2a, e2b, e2c, e2d, e2e⟩, ⟨e3a, e3b, e3c, e3d, e3e⟩⟩ := (gx.out w' (gB8.out.trans (hb.mono gB8.out.size))).1
          subst e0a e0b e0c e1a e1b e1c e2a e2b e2c e3a e3b e3c
          exact rmadd_any s.m m hlts gm.out.2 s.X0 s.c0 s.X1 s.c1 s.X2 s.c2 s.X3 s.c3 aX0 ac0 aX1 ac1 aX2 ac2 aX3 ac3 w' (RdM.below us.out hb hb.size) ⟨⟨rfl, rfl, rfl, e0d, e0e⟩, ⟨rfl, rfl, rfl, e1d, e1e⟩, ⟨rfl, rfl, rfl, e2d, e2e⟩, ⟨rfl, rfl, rfl, e3d, e3e⟩⟩
        have SS : ∀ w', Below wr.heap.size wr w' → (w'.cell? ⟨g, 0, none⟩ = some (.bool s.m.s.neg) ∧ w'.cell? ⟨g, 1, none⟩ = some (.slice s.X0 s.m.s.ls.length s.c0) ∧ w'.cell? ⟨g, 2, none⟩ = some (.int .i64 s.m.s.ex) ∧ w'.cell? ⟨g, 3, none⟩ = some (.bool s.m.w.neg) ∧ w'.cell? ⟨g, 4, none⟩ = some (.slice s.X1 s.m.w.ls.length s.c1) ∧ w'.cell? ⟨g, 5, none⟩ = some (.int .i64 s.m.w.ex) ∧ w'.cell? ⟨g, 6, none⟩ = some (.bool s.m.c.neg) ∧ w'.cell? ⟨g, 7, none⟩ = some (.slice s.X2 s.m.c.ls.length s.c2) ∧ w'.cell? ⟨g, 8, none⟩ = some (.int .i64 s.m.c.ex) ∧ w'.cell? ⟨g, 9, none⟩ = some (.bool s.m.a.neg) ∧ w'.cell? ⟨g, 10, none⟩ = some (.slice s.X3 s.m.a.ls.length s.c3) ∧ w'.cell? ⟨g, 11, none⟩ = some (.int .i64 s.m.a.ex) ∧ w'.cell? ⟨(ad.add (k * 15)).block, (ad.add (k * 15)).off + 3, none⟩ = some (.bool ag0) ∧ w'.cell? ⟨(ad.add (k * 15)).block, (ad.add (k * 15)).off + 3 + 1, none⟩ = some (.slice aX0 an0 ac0) ∧ w'.cell? ⟨(ad.add (k * 15)).block, (ad.add (k * 15)).off + 3 + 2, none⟩ = some (.int .i64 ae0) ∧ w'.cell? ⟨(ad.add (k * 15)).block, (ad.add (k * 15)).off + 3 + 3, none⟩ = some (.bool ag1) ∧ w'.cell? ⟨(ad.add (k * 15)).block, (ad.add (k * 15)).off + 3 + 4, none⟩ = some (.slice aX1 an1 ac1) ∧ w'.cell? ⟨(ad.add (k * 15)).block, (ad.add (k * 15)).off + 3 + 5, none⟩ = some (.int .i64 ae1) ∧ w'.cell? ⟨(ad.add (k * 15)).block, (ad.add (k * 15)).off + 3 + 6, none⟩ = some (.bool ag2) ∧ w'.cell? ⟨(ad.add (k * 15)).block, (ad.add (k * 15)).off + 3 + 7, none⟩ = some (.slice aX2 an2 ac2) ∧ w'.cell? ⟨(ad.add (k * 15)).block, (ad.add (k * 15)).off + 3 + 8, none⟩ = some (.int .i64 ae2) ∧ w'.cell? ⟨(ad.add (k * 15)).block, (ad.add (k * 15)).off + 3 + 9, none⟩ = some (.bool ag3) ∧ w'.cell? ⟨(ad.add (k * 15)).block, (ad.add (k * 15)).off + 3 + 10, none⟩ = some (.slice aX3 an3 ac3) ∧ w'.cell? ⟨(ad.add (k * 15)).block, (ad.add (k * 15)).off + 3 + 11, none⟩ = some (.int .i64 ae3)) := by
          intro w' hw
          have k8' := k8.out.below hw k8.out.lt
          obtain ⟨x0, x1, x2, x3, x4, x5, x6, x7, x8, x9, x10, x11, x12, x13, x14⟩ := (gx.out w' (gB8.out.trans (hw.mono gB8.out.size))).2
          exact ⟨by rw [k8'.cell]; rfl, by rw [k8'.cell]; rfl, by rw [k8'.cell]; rfl, by rw [k8'.cell]; rfl, by rw [k8'.cell]; rfl, by rw [k8'.cell]; rfl, by rw [k8'.cell]; rfl, by rw [k8'.cell]; rfl, by rw [k8'.cell]; rfl, by rw [k8'.cell]; rfl, by rw [k8'.cell]; rfl, by rw [k8'.cell]; rfl, x3, x4, x5, x6, x7, x8, x9, x10, x11, x12, x13, x14⟩
        have sgr := k8.out.lt
        clear hE
        go_upto_region 11 with (fail)
        clear a0 a1 a2 a3 a4 a5 a6 a7 a8 a9 a10 a11 a12 a13 a14
        go_cut [9, 10] from 24 to 51 (fun s10 s11 W3 => ∃ (G : Nat) (o : MB), o.m = maM s.m m ∧ s10 = .pointer (some ⟨G, 0, none⟩) ∧ s11 = .int .i64 E ∧ Blk W3 G 27 #[.bool o.m.s.neg, .slice o.X0 o.m.s.ls.length o.c0, .int .i64 o.m.s.ex, .bool o.m.w.neg, .slice o.X1 o.m.w.ls.length o.c1, .int .i64 o.m.w.ex, .bool o.m.c.neg, .slice o.X2 o.m.c.ls.length o.c2, .int .i64 o.m.c.ex, .bool o.m.a.neg, .slice o.X3 o.m.a.ls.length o.c3, .int .i64 o.m.a.ex] ∧ RdO W3 o ∧ Below wr.heap.size wr W3)
        case first =>
          obtain ⟨y0, y1, y2, y3, y4, y5, y6, y7, y8, y9, y10, y11, y12, y13, y14, y15, y16, y17, y18, y19, y20, y21, y22, y23⟩ := SS wr (Below.refl _ _)
          clear y0 y1 y2 y3 y4 y5 y6 y7 y8 y9 y10 y11 y12 y13 y14 y15 y16 y17 y18 y19 y20 y21 y22 y23
          refine wp_region_noPanic ?_
          refine wp_region_held_drew (S := fun w' => w'.cell? ⟨g, 0, none⟩ = some (.bool s.m.s.neg) ∧ w'.cell? ⟨g, 1, none⟩ = some (.slice s.X0 s.m.s.ls.length s.c0) ∧ w'.cell? ⟨g, 2, none⟩ = some (.int .i64 s.m.s.ex) ∧ w'.cell? ⟨g, 3, none⟩ = some (.bool s.m.w.neg) ∧ w'.cell? ⟨g, 4, none⟩ = some (.slice s.X1 s.m.w.ls.length s.c1) ∧ w'.cell? ⟨g, 5, none⟩ = some (.int .i64 s.m.w.ex) ∧ w'.cell? ⟨g, 6, none⟩ = some (.bool s.m.c.neg) ∧ w'.cell? ⟨g, 7, none⟩ = some (.slice s.X2 s.m.c.ls.length s.c2) ∧ w'.cell? ⟨g, 8, none⟩ = some (.int .i64 s.m.c.ex) ∧ w'.cell? ⟨g, 9, none⟩ = some (.bool s.m.a.neg) ∧ w'.cell? ⟨g, 10, none⟩ = some (.slice s.X3 s.m.a.ls.length s.c3) ∧ w'.cell? ⟨g, 11, none⟩ = some (.int .i64 s.m.a.ex) ∧ w'.cell? ⟨(ad.add (k * 15)).block, (ad.add (k * 15)).off + 3, none⟩ = some (.bool ag0) ∧ w'.cell? ⟨(ad.add (k * 15)).block, (ad.add (k * 15)).off + 3 + 1, none⟩ = some (.slice aX0 an0 ac0) ∧ w'.cell? ⟨(ad.add (k * 15)).block, (ad.add (k * 15)).off + 3 + 2, none⟩ = some (.int .i64 ae0) ∧ w'.cell? ⟨(ad.add (k * 15)).block, (ad.add (k * 15)).off + 3 + 3, none⟩ = some (.bool ag1) ∧ w'.cell? ⟨(ad.add (k * 15)).block, (ad.add (k * 15)).off + 3 + 4, none⟩ = some (.slice aX1 an1 ac1) ∧ w'.cell? ⟨(ad.add (k * 15)).block, (ad.add (k * 15)).off + 3 + 5, none⟩ = some (.int .i64 ae1) ∧ w'.cell? ⟨(ad.add (k * 15)).block, (ad.add (k * 15)).off + 3 + 6, none⟩ = some (.bool ag2) ∧ w'.cell? ⟨(ad.add (k * 15)).block, (ad.add (k * 15)).off + 3 + 7, none⟩ = some (.slice aX2 an2 ac2) ∧ w'.cell? ⟨(ad.add (k * 15)).block, (ad.add (k * 15)).off + 3 + 8, none⟩ = some (.int .i64 ae2) ∧ w'.cell? ⟨(ad.add (k * 15)).block, (ad.add (k * 15)).off + 3 + 9, none⟩ = some (.bool ag3) ∧ w'.cell? ⟨(ad.add (k * 15)).block, (ad.add (k * 15)).off + 3 + 10, none⟩ = some (.slice aX3 an3 ac3) ∧ w'.cell? ⟨(ad.add (k * 15)).block, (ad.add (k * 15)).off + 3 + 11, none⟩ = some (.int .i64 ae3)) (by kernel_rfl) (SS _ bls) (fun hHeld => ?_)
          refine tkY 0 (h := ?_)
          (try simp only [Act.put, lsA, lsZ, lsS])
          refine tkY 1 (h := ?_)
          (try simp only [Act.put, lsA, lsZ, lsS])
          refine tkY 2 (h := ?_)
          (try simp only [Act.put, lsA, lsZ, lsS])
          refine tkY 3 (h := ?_)
          (try simp only [Act.put, lsA, lsZ, lsS])
          refine tkY 4 (h := ?_)
          (try simp only [Act.put, lsA, lsZ, lsS])
          refine tkY 5 (h := ?_)
          (try simp only [Act.put, lsA, lsZ, lsS])
          refine wpAnyH_ready (rs := [6, 10]) (by kernel_rfl) (by simp) ?_
          refine AllReadyH.cons rfl (fun K hK => ?_) (AllReadyH.cons rfl (fun K hK => ?_) AllReadyH.nil)
          · go_simp
            with_reducible refine (hadd _ bls).mono ?_
            rintro en v6 ⟨o, ho, he, hr, hv6⟩
            have hv62 : Below wr.heap.size wr v6 := Below.trans bls (hv6.mono (by first | exact Nat.le_refl _ | (simp only [World.size_alloc, World.size_drew, World.size_setCell]; omega) | omega))
            have sv6 : wr.heap.size ≤ v6.heap.size := hv62.size
            rw [gE.out] at he
            subst he
            have go := Lib.hid ho
            have gr := Lib.hid hr
            clear ho hr
            refine hK.out _ _ (SS _ bls) (fun hHeld => ?_)
            clear hK K
            (try simp only [Act.put, lsA, lsZ, lsS])
            refine tkY 7 (h := ?_)
            (try simp only [Act.put, lsA, lsZ, lsS])
            refine tkY 8 (h := ?_)
            (try simp only [Act.put, lsA, lsZ, lsS])
            refine tkY 9 (h := ?_)
            (try simp only [Act.put, lsA, lsZ, lsS])
            refine tkR 10 (h := fun K hK => ?_)
            go_simp
            refine hK.out _ _ (SS _ bls) (fun hHeld => ?_)
            clear hK K
            (try simp only [Act.put, lsA, lsZ, lsS])
            refine tkR 11 (h := fun K hK => ?_)
            go_simp
            refine hK.out _ _ (SS _ bls) (fun hHeld => ?_)
            clear hK K
            (try simp only [Act.put, lsA, lsZ, lsS])
            refine tkY 12 (h := ?_)
            (try simp only [Act.put, lsA, lsZ, lsS])
            refine wpAnyH_done (by kernel_rfl) ?_ _
            refine NoPanic.normal ?_
            (try go_wp2_with fail)
            go_meet
            exact ⟨v6.heap.size, o, go.out, rfl, rfl, Blk.new _ _ _, RdO.below gr.out ((Below.refl _ _).alloc (Nat.le_refl _) _), bls⟩
          · go_simp
            refine hK.out _ _ (SS _ bls) (fun hHeld => ?_)
            clear hK K
            (try simp only [Act.put, lsA, lsZ, lsS])
            refine tkR 6 (h := fun K hK => ?_)
            go_simp
            with_reducible refine (hadd _ bls).mono ?_
            rintro en v6 ⟨o, ho, he, hr, hv6⟩
            have hv62 : Below wr.heap.size wr v6 := Below.trans bls (hv6.mono (by first | exact Nat.le_refl _ | (simp only [World.size_alloc, World.size_drew, World.size_setCell]; omega) | omega))
            have sv6 : wr.heap.size ≤ v6.heap.size := hv62.size
            rw [gE.out] at he
            subst he
            have go := Lib.hid ho
            have gr := Lib.hid hr
            clear ho hr
            first | have k6 := new_keep hv6 | have k6 := new_keep2 hv6
            have z0 := k6.cell 0
            have z1 := k6.cell 1
            have z2 := k6.cell 2
            have z3 := k6.cell 3
            have z4 := k6.cell 4
            have z5 := k6.cell 5
            have z6 := k6.cell 6
            have z7 := k6.cell 7
            have z8 := k6.cell 8
            have z9 := k6.cell 9
            have z10 := k6.cell 10
            have z11 := k6.cell 11
            simp only [lgA, lgZ, lgS] at z0 z1 z2 z3 z4 z5 z6 z7 z8 z9 z10 z11
            have f0 := k6.frozen 0
            have f1 := k6.frozen 1
            have f2 := k6.frozen 2
            have f3 := k6.frozen 3
            have f4 := k6.frozen 4
            have f5 := k6.frozen 5
            have f6 := k6.frozen 6
            have f7 := k6.frozen 7
            have f8 := k6.frozen 8
            have f9 := k6.frozen 9
            have f10 := k6.frozen 10
            have f11 := k6.frozen 11
            have gk6 := Lib.hid k6
            clear k6
            refine hK.out _ _ (SS _ bls) (fun hHeld => ?_)
            clear hK K
            (try simp only [Act.put, lsA, lsZ, lsS])
            refine tkY 7 (h := ?_)
            (try simp only [Act.put, lsA, lsZ, lsS])
            refine tkY 8 (h := ?_)
            (try simp only [Act.put, lsA, lsZ, lsS])
            refine tkY 9 (h := ?_)
            (try simp only [Act.put, lsA, lsZ, lsS])
            refine tkR 11 (h := fun K hK => ?_)
            go_simp
            refine hK.out _ _ (SS _ bls) (fun hHeld => ?_)
            clear hK K
            (try simp only [Act.put, lsA, lsZ, lsS])
            refine tkY 12 (h := ?_)
            (try simp only [Act.put, lsA, lsZ, lsS])
            refine wpAnyH_done (by kernel_rfl) ?_ _
            refine NoPanic.normal ?_
            (try go_wp2_with fail)
            go_meet
            exact ⟨wr.heap.size, o, go.out, rfl, rfl, c12_blk gk6.out (.bool o.m.s.neg) (.slice o.X0 o.m.s.ls.length o.c0) (.int .i64 o.m.s.ex) (.bool o.m.w.neg) (.slice o.X1 o.m.w.ls.length o.c1) (.int .i64 o.m.w.ex) (.bool o.m.c.neg) (.slice o.X2 o.m.c.ls.length o.c2) (.int .i64 o.m.c.ex) (.bool o.m.a.neg) (.slice o.X3 o.m.a.ls.length o.c3) (.int .i64 o.m.a.ex), c12_rdo gr.out gk6.out (.bool o.m.s.neg) (.slice o.X0 o.m.s.ls.length o.c0) (.int .i64 o.m.s.ex) (.bool o.m.w.neg) (.slice o.X1 o.m.w.ls.length o.c1) (.int .i64 o.m.w.ex) (.bool o.m.c.neg) (.slice o.X2 o.m.c.ls.length o.c2) (.int .i64 o.m.c.ex) (.bool o.m.a.neg) (.slice o.X3 o.m.a.ls.length o.c3) (.int .i64 o.m.a.ex), c12_below hv62 (Nat.le_refl _) (.bool o.m.s.neg) (.slice o.X0 o.m.s.ls.length o.c0) (.int .i64 o.m.s.ex) (.bool o.m.w.neg) (.slice o.X1 o.m.w.ls.length o.c1) (.int .i64 o.m.w.ex) (.bool o.m.c.neg) (.slice o.X2 o.m.c.ls.length o.c2) (.int .i64 o.m.c.ex) (.bool o.m.a.neg) (.slice o.X3 o.m.a.ls.length o.c3) (.int .i64 o.m.a.ex)⟩
        case rest =>
        obtain ⟨G, o, ho, rfl, rfl, k9, hr9, hb9⟩ := hcut
        have go := Lib.hid ho
        have gr9 := Lib.hid hr9
        have gB9 := Lib.hid (gB8.out.trans (hb9.mono gB8.out.size))
        have k8c := k8.out.below hb9 k8.out.lt
        have k6c := k6r.out.below hb9 k6r.out.lt
        clear SS hadd hb9 ho hr9
        by_cases hE0 : E = 0
        · subst hE0
          obtain ⟨d, hd1, hd2⟩ := maE_zero gE.out
          have gS' : Hid (sumL (((l.take (k + 1)).filter (fun x => x.ep == N)).map (·.give)) = some o.m) := Lib.hid (by
            rw [gtk1.out, if_pos rfl]
            show sumF zM _ = _
            rw [sumF_snoc, show sumF zM _ = some s.m from gS.out]
            show addM s.m m = _
            rw [hd1, go.out, hd2])
          have gk8 : Hid (Blk ((((((((((((wc.setCell ⟨g, 0, none⟩ (.bool o.m.s.neg)).setCell ⟨g, 1, none⟩ (.slice o.X0 o.m.s.ls.length o.c0)).setCell ⟨g, 2, none⟩ (.int .i64 o.m.s.ex)).setCell ⟨g, 3, none⟩ (.bool o.m.w.neg)).setCell ⟨g, 4, none⟩ (.slice o.X1 o.m.w.ls.length o.c1)).setCell ⟨g, 5, none⟩ (.int .i64 o.m.w.ex)).setCell ⟨g, 6, none⟩ (.bool o.m.c.neg)).setCell ⟨g, 7, none⟩ (.slice o.X2 o.m.c.ls.length o.c2)).setCell ⟨g, 8, none⟩ (.int .i64 o.m.c.ex)).setCell ⟨g, 9, none⟩ (.bool o.m.a.neg)).setCell ⟨g, 10, none⟩ (.slice o.X3 o.m.a.ls.length o.c3)).setCell ⟨g, 11, none⟩ (.int .i64 o.m.a.ex)) g 27 #[.bool o.m.s.neg, .slice o.X0 o.m.s.ls.length o.c0, .int .i64 o.m.s.ex, .bool o.m.w.neg, .slice o.X1 o.m.w.ls.length o.c1, .int .i64 o.m.w.ex, .bool o.m.c.neg, .slice o.X2 o.m.c.ls.length o.c2, .int .i64 o.m.c.ex, .bool o.m.a.neg, .slice o.X3 o.m.a.ls.length o.c3, .int .i64 o.m.a.ex]) := Lib.hid (c12_blk k8c (.bool o.m.s.neg) (.slice o.X0 o.m.s.ls.length o.c0) (.int .i64 o.m.s.ex) (.bool o.m.w.neg) (.slice o.X1 o.m.w.ls.length o.c1) (.int .i64 o.m.w.ex) (.bool o.m.c.neg) (.slice o.X2 o.m.c.ls.length o.c2) (.int .i64 o.m.c.ex) (.bool o.m.a.neg) (.slice o.X3 o.m.a.ls.length o.c3) (.int .i64 o.m.a.ex))
          have gu8 : Hid (RdO ((((((((((((wc.setCell ⟨g, 0, none⟩ (.bool o.m.s.neg)).setCell ⟨g, 1, none⟩ (.slice o.X0 o.m.s.ls.length o.c0)).setCell ⟨g, 2, none⟩ (.int .i64 o.m.s.ex)).setCell ⟨g, 3, none⟩ (.bool o.m.w.neg)).setCell ⟨g, 4, none⟩ (.slice o.X1 o.m.w.ls.length o.c1)).setCell ⟨g, 5, none⟩ (.int .i64 o.m.w.ex)).setCell ⟨g, 6, none⟩ (.bool o.m.c.neg)).setCell ⟨g, 7, none⟩ (.slice o.X2 o.m.c.ls.length o.c2)).setCell ⟨g, 8, none⟩ (.int .i64 o.m.c.ex)).setCell ⟨g, 9, none⟩ (.bool o.m.a.neg)).setCell ⟨g, 10, none⟩ (.slice o.X3 o.m.a.ls.length o.c3)).setCell ⟨g, 11, none⟩ (.int .i64 o.m.a.ex)) o) := Lib.hid (c12_rdo2 gr9.out k8c (.bool o.m.s.neg) (.slice o.X0 o.m.s.ls.length o.c0) (.int .i64 o.m.s.ex) (.bool o.m.w.neg) (.slice o.X1 o.m.w.ls.length o.c1) (.int .i64 o.m.w.ex) (.bool o.m.c.neg) (.slice o.X2 o.m.c.ls.length o.c2) (.int .i64 o.m.c.ex) (.bool o.m.a.neg) (.slice o.X3 o.m.a.ls.length o.c3) (.int .i64 o.m.a.ex))
          have gk6 : Hid (Blk ((((((((((((wc.setCell ⟨g, 0, none⟩ (.bool o.m.s.neg)).setCell ⟨g, 1, none⟩ (.slice o.X0 o.m.s.ls.length o.c0)).setCell ⟨g, 2, none⟩ (.int .i64 o.m.s.ex)).setCell ⟨g, 3, none⟩ (.bool o.m.w.neg)).setCell ⟨g, 4, none⟩ (.slice o.X1 o.m.w.ls.length o.c1)).setCell ⟨g, 5, none⟩ (.int .i64 o.m.w.ex)).setCell ⟨g, 6, none⟩ (.bool o.m.c.neg)).setCell ⟨g, 7, none⟩ (.slice o.X2 o.m.c.ls.length o.c2)).setCell ⟨g, 8, none⟩ (.int .i64 o.m.c.ex)).setCell ⟨g, 9, none⟩ (.bool o.m.a.neg)).setCell ⟨g, 10, none⟩ (.slice o.X3 o.m.a.ls.length o.c3)).setCell ⟨g, 11, none⟩ (.int .i64 o.m.a.ex)) w.heap.size 27 #[.bool false, .slice none 0 0, .int .i64 0, .bool false, .slice none 0 0, .int .i64 0, .bool false, .slice none 0 0, .int .i64 0, .bool false, .slice none 0 0, .int .i64 0]) := Lib.hid (c12_other k6c (by omega) (.bool o.m.s.neg) (.slice o.X0 o.m.s.ls.length o.c0) (.int .i64 o.m.s.ex) (.bool o.m.w.neg) (.slice o.X1 o.m.w.ls.length o.c1) (.int .i64 o.m.w.ex) (.bool o.m.c.neg) (.slice o.X2 o.m.c.ls.length o.c2) (.int .i64 o.m.c.ex) (.bool o.m.a.neg) (.slice o.X3 o.m.a.ls.length o.c3) (.int .i64 o.m.a.ex))
          have gb8 : Hid (Below w.heap.size w ((((((((((((wc.setCell ⟨g, 0, none⟩ (.bool o.m.s.neg)).setCell ⟨g, 1, none⟩ (.slice o.X0 o.m.s.ls.length o.c0)).setCell ⟨g, 2, none⟩ (.int .i64 o.m.s.ex)).setCell ⟨g, 3, none⟩ (.bool o.m.w.neg)).setCell ⟨g, 4, none⟩ (.slice o.X1 o.m.w.ls.length o.c1)).setCell ⟨g, 5, none⟩ (.int .i64 o.m.w.ex)).setCell ⟨g, 6, none⟩ (.bool o.m.c.neg)).setCell ⟨g, 7, none⟩ (.slice o.X2 o.m.c.ls.length o.c2)).setCell ⟨g, 8, none⟩ (.int .i64 o.m.c.ex)).setCell ⟨g, 9, none⟩ (.bool o.m.a.neg)).setCell ⟨g, 10, none⟩ (.slice o.X3 o.m.a.ls.length o.c3)).setCell ⟨g, 11, none⟩ (.int .i64 o.m.a.ex))) := Lib.hid (c12_below gB9.out (by omega) (.bool o.m.s.neg) (.slice o.X0 o.m.s.ls.length o.c0) (.int .i64 o.m.s.ex) (.bool o.m.w.neg) (.slice o.X1 o.m.w.ls.length o.c1) (.int .i64 o.m.w.ex) (.bool o.m.c.neg) (.slice o.X2 o.m.c.ls.length o.c2) (.int .i64 o.m.c.ex) (.bool o.m.a.neg) (.slice o.X3 o.m.a.ls.length o.c3) (.int .i64 o.m.a.ex))
          have z0 : wc.cell? ⟨G, 0, none⟩ = some (.bool o.m.s.neg) := by rw [k9.cell]; rfl
          have z1 : wc.cell? ⟨G, 1, none⟩ = some (.slice o.X0 o.m.s.ls.length o.c0) := by rw [k9.cell]; rfl
          have z2 : wc.cell? ⟨G, 2, none⟩ = some (.int .i64 o.m.s.ex) := by rw [k9.cell]; rfl
          have z3 : wc.cell? ⟨G, 3, none⟩ = some (.bool o.m.w.neg) := by rw [k9.cell]; rfl
          have z4 : wc.cell? ⟨G, 4, none⟩ = some (.slice o.X1 o.m.w.ls.length o.c1) := by rw [k9.cell]; rfl
          have z5 : wc.cell? ⟨G, 5, none⟩ = some (.int .i64 o.m.w.ex) := by rw [k9.cell]; rfl
          have z6 : wc.cell? ⟨G, 6, none⟩ = some (.bool o.m.c.neg) := by rw [k9.cell]; rfl
          have z7 : wc.cell? ⟨G, 7, none⟩ = some (.slice o.X2 o.m.c.ls.length o.c2) := by rw [k9.cell]; rfl
          have z8 : wc.cell? ⟨G, 8, none⟩ = some (.int .i64 o.m.c.ex) := by rw [k9.cell]; rfl
          have z9 : wc.cell? ⟨G, 9, none⟩ = some (.bool o.m.a.neg) := by rw [k9.cell]; rfl
          have z10 : wc.cell? ⟨G, 10, none⟩ = some (.slice o.X3 o.m.a.ls.length o.c3) := by rw [k9.cell]; rfl
          have z11 : wc.cell? ⟨G, 11, none⟩ = some (.int .i64 o.m.a.ex) := by rw [k9.cell]; rfl
          have r0 : wc.cell? ⟨g, 0, none⟩ = some (.bool s.m.s.neg) := by rw [k8c.cell]; rfl
          have r1 : wc.cell? ⟨g, 1, none⟩ = some (.slice s.X0 s.m.s.ls.length s.c0) := by rw [k8c.cell]; rfl
          have r2 : wc.cell? ⟨g, 2, none⟩ = some (.int .i64 s.m.s.ex) := by rw [k8c.cell]; rfl
          have r3 : wc.cell? ⟨g, 3, none⟩ = some (.bool s.m.w.neg) := by rw [k8c.cell]; rfl
          have r4 : wc.cell? ⟨g, 4, none⟩ = some (.slice s.X1 s.m.w.ls.length s.c1) := by rw [k8c.cell]; rfl
          have r5 : wc.cell? ⟨g, 5, none⟩ = some (.int .i64 s.m.w.ex) := by rw [k8c.cell]; rfl
          have r6 : wc.cell? ⟨g, 6, none⟩ = some (.bool s.m.c.neg) := by rw [k8c.cell]; rfl
          have r7 : wc.cell? ⟨g, 7, none⟩ = some (.slice s.X2 s.m.c.ls.length s.c2) := by rw [k8c.cell]; rfl
          have r8 : wc.cell? ⟨g, 8, none⟩ = some (.int .i64 s.m.c.ex) := by rw [k8c.cell]; rfl
          have r9 : wc.cell? ⟨g, 9, none⟩ = some (.bool s.m.a.neg) := by rw [k8c.cell]; rfl
          have r10 : wc.cell? ⟨g, 10, none⟩ = some (.slice s.X3 s.m.a.ls.length s.c3) := by rw [k8c.cell]; rfl
          have r11 : wc.cell? ⟨g, 11, none⟩ = some (.int .i64 s.m.a.ex) := by rw [k8c.cell]; rfl
          have f0 := k8c.frozen 0
          have f1 := k8c.frozen 1
          have f2 := k8c.frozen 2
          have f3 := k8c.frozen 3
          have f4 := k8c.frozen 4
          have f5 := k8c.frozen 5
          have f6 := k8c.frozen 6
          have f7 := k8c.frozen 7
          have f8 := k8c.frozen 8
          have f9 := k8c.frozen 9
          have f10 := k8c.frozen 10
          have f11 := k8c.frozen 11
          clear k9 k8c k6c hd1 hd2 hms hlts
          go_wp2
          go_roundw
          case rel => exact ⟨k + 1, o, by omega, by go_num, gS', gu8, gk8, gk6, gb8⟩
          case measure => simp [intOf]; omega
        · have t1 : (E != 0) = true := bne_iff_ne.2 hE0
          have hno := maE_ten gE.out hE0 hms gm.out.1
          have hsum : Hid (sumFl l N = none) := Lib.hid (by
            unfold sumFl
            have e : l.filter (fun x => x.ep == N) = (l.take (k + 1)).filter (fun x => x.ep == N) ++ (l.drop (k + 1)).filter (fun x => x.ep == N) := by rw [← List.filter_append, List.take_append_drop]
            rw [e, List.map_append]
            refine sumF_no _ _ _ ?_
            rw [gtk1.out, if_pos rfl, sumF_snoc, show sumF zM _ = some s.m from gS.out]
            exact hno.1)
          have gE10 := Lib.hid hno.2
          have kz : Blk ((((((((((((wc.setCell ⟨w.heap.size, 0, none⟩ (.bool false)).setCell ⟨w.heap.size, 1, none⟩ (.slice none 0 0)).setCell ⟨w.heap.size, 2, none⟩ (.int .i64 0)).setCell ⟨w.heap.size, 3, none⟩ (.bool false)).setCell ⟨w.heap.size, 4, none⟩ (.slice none 0 0)).setCell ⟨w.heap.size, 5, none⟩ (.int .i64 0)).setCell ⟨w.heap.size, 6, none⟩ (.bool false)).setCell ⟨w.heap.size, 7, none⟩ (.slice none 0 0)).setCell ⟨w.heap.size, 8, none⟩ (.int .i64 0)).setCell ⟨w.heap.size, 9, none⟩ (.bool false)).setCell ⟨w.heap.size, 10, none⟩ (.slice none 0 0)).setCell ⟨w.heap.size, 11, none⟩ (.int .i64 0)) w.heap.size 27 #[.bool false, .slice none 0 0, .int .i64 0, .bool false, .slice none 0 0, .int .i64 0, .bool false, .slice none 0 0, .int .i64 0, .bool false, .slice none 0 0, .int .i64 0] := c12_blk k6c (.bool false) (.slice none 0 0) (.int .i64 0) (.bool false) (.slice none 0 0) (.int .i64 0) (.bool false) (.slice none 0 0) (.int .i64 0) (.bool false) (.slice none 0 0) (.int .i64 0)
          have hBz : Below w.heap.size w ((((((((((((wc.setCell ⟨w.heap.size, 0, none⟩ (.bool false)).setCell ⟨w.heap.size, 1, none⟩ (.slice none 0 0)).setCell ⟨w.heap.size, 2, none⟩ (.int .i64 0)).setCell ⟨w.heap.size, 3, none⟩ (.bool false)).setCell ⟨w.heap.size, 4, none⟩ (.slice none 0 0)).setCell ⟨w.heap.size, 5, none⟩ (.int .i64 0)).setCell ⟨w.heap.size, 6, none⟩ (.bool false)).setCell ⟨w.heap.size, 7, none⟩ (.slice none 0 0)).setCell ⟨w.heap.size, 8, none⟩ (.int .i64 0)).setCell ⟨w.heap.size, 9, none⟩ (.bool false)).setCell ⟨w.heap.size, 10, none⟩ (.slice none 0 0)).setCell ⟨w.heap.size, 11, none⟩ (.int .i64 0)) := c12_below gB9.out (Nat.le_refl _) (.bool false) (.slice none 0 0) (.int .i64 0) (.bool false) (.slice none 0 0) (.int .i64 0) (.bool false) (.slice none 0 0) (.int .i64 0) (.bool false) (.slice none 0 0) (.int .i64 0)
          have r0 : wc.cell? ⟨w.heap.size, 0, none⟩ = some (.bool false) := by rw [k6c.cell]; rfl
          have r1 : wc.cell? ⟨w.heap.size, 1, none⟩ = some (.slice none 0 0) := by rw [k6c.cell]; rfl
          have r2 : wc.cell? ⟨w.heap.size, 2, none⟩ = some (.int .i64 0) := by rw [k6c.cell]; rfl
          have r3 : wc.cell? ⟨w.heap.size, 3, none⟩ = some (.bool false) := by rw [k6c.cell]; rfl
          have r4 : wc.cell? ⟨w.heap.size, 4, none⟩ = some (.slice none 0 0) := by rw [k6c.cell]; rfl
          have r5 : wc.cell? ⟨w.heap.size, 5, none⟩ = some (.int .i64 0) := by rw [k6c.cell]; rfl
          have r6 : wc.cell? ⟨w.heap.size, 6, none⟩ = some (.bool false) := by rw [k6c.cell]; rfl
          have r7 : wc.cell? ⟨w.heap.size, 7, none⟩ = some (.slice none 0 0) := by rw [k6c.cell]; rfl
          have r8 : wc.cell? ⟨w.heap.size, 8, none⟩ = some (.int .i64 0) := by rw [k6c.cell]; rfl
          have r9 : wc.cell? ⟨w.heap.size, 9, none⟩ = some (.bool false) := by rw [k6c.cell]; rfl
          have r10 : wc.cell? ⟨w.heap.size, 10, none⟩ = some (.slice none 0 0) := by rw [k6c.cell]; rfl
          have r11 : wc.cell? ⟨w.heap.size, 11, none⟩ = some (.int .i64 0) := by rw [k6c.cell]; rfl
          have f0 := k6c.frozen 0
          have f1 := k6c.frozen 1
          have f2 := k6c.frozen 2
          have f3 := k6c.frozen 3
          have f4 := k6c.frozen 4
          have f5 := k6c.frozen 5
          have f6 := k6c.frozen 6
          have f7 := k6c.frozen 7
          have f8 := k6c.frozen 8
          have f9 := k6c.frozen 9
          have f10 := k6c.frozen 10
          have f11 := k6c.frozen 11
          clear k9 k8c k6c hms hlts hno hE0
          go_wp2
          refine bodyPost_ret (ret_mass rfl _ _ w.heap.size #[.bool false, .slice none 0 0, .int .i64 0, .bool false, .slice none 0 0, .int .i64 0, .bool false, .slice none 0 0, .int .i64 0, .bool false, .slice none 0 0, .int .i64 0] (.int .i64 E) rfl kz info_mass rfl) rfl ?_
          exact ⟨0, hchk.out, (⟨zM, none, 0, none, 0, none, 0, none, 0⟩ : MB), by rw [gfs.out, hsum.out]; rfl, by rw [gfs.out, hsum.out, gE10.out]; rfl, rdo_z _, hBz⟩
    · obtain rfl : k = n := by omega
      have gS' : Hid (sumFl l N = some s.m) := Lib.hid (by
        have h := gS.out
        rw [List.take_of_length_le (by rw [gln.out]; omega)] at h
        exact h)
      have kz : Blk ((((((((((((wr.setCell ⟨w.heap.size, 0, none⟩ (.bool s.m.s.neg)).setCell ⟨w.heap.size, 1, none⟩ (.slice s.X0 s.m.s.ls.length s.c0)).setCell ⟨w.heap.size, 2, none⟩ (.int .i64 s.m.s.ex)).setCell ⟨w.heap.size, 3, none⟩ (.bool s.m.w.neg)).setCell ⟨w.heap.size, 4, none⟩ (.slice s.X1 s.m.w.ls.length s.c1)).setCell ⟨w.heap.size, 5, none⟩ (.int .i64 s.m.w.ex)).setCell ⟨w.heap.size, 6, none⟩ (.bool s.m.c.neg)).setCell ⟨w.heap.size, 7, none⟩ (.slice s.X2 s.m.c.ls.length s.c2)).setCell ⟨w.heap.size, 8, none⟩ (.int .i64 s.m.c.ex)).setCell ⟨w.heap.size, 9, none⟩ (.bool s.m.a.neg)).setCell ⟨w.heap.size, 10, none⟩ (.slice s.X3 s.m.a.ls.length s.c3)).setCell ⟨w.heap.size, 11, none⟩ (.int .i64 s.m.a.ex)) w.heap.size 27 #[.bool s.m.s.neg, .slice s.X0 s.m.s.ls.length s.c0, .int .i64 s.m.s.ex, .bool s.m.w.neg, .slice s.X1 s.m.w.ls.length s.c1, .int .i64 s.m.w.ex, .bool s.m.c.neg, .slice s.X2 s.m.c.ls.length s.c2, .int .i64 s.m.c.ex, .bool s.m.a.neg, .slice s.X3 s.m.a.ls.length s.c3, .int .i64 s.m.a.ex] := c12_blk k6r.out (.bool s.m.s.neg) (.slice s.X0 s.m.s.ls.length s.c0) (.int .i64 s.m.s.ex) (.bool s.m.w.neg) (.slice s.X1 s.m.w.ls.length s.c1) (.int .i64 s.m.w.ex) (.bool s.m.c.neg) (.slice s.X2 s.m.c.ls.length s.c2) (.int .i64 s.m.c.ex) (.bool s.m.a.neg) (.slice s.X3 s.m.a.ls.length s.c3) (.int .i64 s.m.a.ex)
      have hBz : Below w.heap.size w ((((((((((((wr.setCell ⟨w.heap.size, 0, none⟩ (.bool s.m.s.neg)).setCell ⟨w.heap.size, 1, none⟩ (.slice s.X0 s.m.s.ls.length s.c0)).setCell ⟨w.heap.size, 2, none⟩ (.int .i64 s.m.s.ex)).setCell ⟨w.heap.size, 3, none⟩ (.bool s.m.w.neg)).setCell ⟨w.heap.size, 4, none⟩ (.slice s.X1 s.m.w.ls.length s.c1)).setCell ⟨w.heap.size, 5, none⟩ (.int .i64 s.m.w.ex)).setCell ⟨w.heap.size, 6, none⟩ (.bool s.m.c.neg)).setCell ⟨w.heap.size, 7, none⟩ (.slice s.X2 s.m.c.ls.length s.c2)).setCell ⟨w.heap.size, 8, none⟩ (.int .i64 s.m.c.ex)).setCell ⟨w.heap.size, 9, none⟩ (.bool s.m.a.neg)).setCell ⟨w.heap.size, 10, none⟩ (.slice s.X3 s.m.a.ls.length s.c3)).setCell ⟨w.heap.size, 11, none⟩ (.int .i64 s.m.a.ex)) := c12_below gB8.out (Nat.le_refl _) (.bool s.m.s.neg) (.slice s.X0 s.m.s.ls.length s.c0) (.int .i64 s.m.s.ex) (.bool s.m.w.neg) (.slice s.X1 s.m.w.ls.length s.c1) (.int .i64 s.m.w.ex) (.bool s.m.c.neg) (.slice s.X2 s.m.c.ls.length s.c2) (.int .i64 s.m.c.ex) (.bool s.m.a.neg) (.slice s.X3 s.m.a.ls.length s.c3) (.int .i64 s.m.a.ex)
      have gu := Lib.hid (c12_rdo us.out k6r.out (.bool s.m.s.neg) (.slice s.X0 s.m.s.ls.length s.c0) (.int .i64 s.m.s.ex) (.bool s.m.w.neg) (.slice s.X1 s.m.w.ls.length s.c1) (.int .i64 s.m.w.ex) (.bool s.m.c.neg) (.slice s.X2 s.m.c.ls.length s.c2) (.int .i64 s.m.c.ex) (.bool s.m.a.neg) (.slice s.X3 s.m.a.ls.length s.c3) (.int .i64 s.m.a.ex))
      have z0 : wr.cell? ⟨g, 0, none⟩ = some (.bool s.m.s.neg) := by rw [k8.out.cell]; rfl
      have z1 : wr.cell? ⟨g, 1, none⟩ = some (.slice s.X0 s.m.s.ls.length s.c0) := by rw [k8.out.cell]; rfl
      have z2 : wr.cell? ⟨g, 2, none⟩ = some (.int .i64 s.m.s.ex) := by rw [k8.out.cell]; rfl
      have z3 : wr.cell? ⟨g, 3, none⟩ = some (.bool s.m.w.neg) := by rw [k8.out.cell]; rfl
      have z4 : wr.cell? ⟨g, 4, none⟩ = some (.slice s.X1 s.m.w.ls.length s.c1) := by rw [k8.out.cell]; rfl
      have z5 : wr.cell? ⟨g, 5, none⟩ = some (.int .i64 s.m.w.ex) := by rw [k8.out.cell]; rfl
      have z6 : wr.cell? ⟨g, 6, none⟩ = some (.bool s.m.c.neg) := by rw [k8.out.cell]; rfl
      have z7 : wr.cell? ⟨g, 7, none⟩ = some (.slice s.X2 s.m.c.ls.length s.c2) := by rw [k8.out.cell]; rfl
      have z8 : wr.cell? ⟨g, 8, none⟩ = some (.int .i64 s.m.c.ex) := by rw [k8.out.cell]; rfl
      have z9 : wr.cell? ⟨g, 9, none⟩ = some (.bool s.m.a.neg) := by rw [k8.out.cell]; rfl
      have z10 : wr.cell? ⟨g, 10, none⟩ = some (.slice s.X3 s.m.a.ls.length s.c3) := by rw [k8.out.cell]; rfl
      have z11 : wr.cell? ⟨g, 11, none⟩ = some (.int .i64 s.m.a.ex) := by rw [k8.out.cell]; rfl
      have r0 : wr.cell? ⟨w.heap.size, 0, none⟩ = some (.bool false) := by rw [k6r.out.cell]; rfl
      have r1 : wr.cell? ⟨w.heap.size, 1, none⟩ = some (.slice none 0 0) := by rw [k6r.out.cell]; rfl
      have r2 : wr.cell? ⟨w.heap.size, 2, none⟩ = some (.int .i64 0) := by rw [k6r.out.cell]; rfl
      have r3 : wr.cell? ⟨w.heap.size, 3, none⟩ = some (.bool false) := by rw [k6r.out.cell]; rfl
      have r4 : wr.cell? ⟨w.heap.size, 4, none⟩ = some (.slice none 0 0) := by rw [k6r.out.cell]; rfl
      have r5 : wr.cell? ⟨w.heap.size, 5, none⟩ = some (.int .i64 0) := by rw [k6r.out.cell]; rfl
      have r6 : wr.cell? ⟨w.heap.size, 6, none⟩ = some (.bool false) := by rw [k6r.out.cell]; rfl
      have r7 : wr.cell? ⟨w.heap.size, 7, none⟩ = some (.slice none 0 0) := by rw [k6r.out.cell]; rfl
      have r8 : wr.cell? ⟨w.heap.size, 8, none⟩ = some (.int .i64 0) := by rw [k6r.out.cell]; rfl
      have r9 : wr.cell? ⟨w.heap.size, 9, none⟩ = some (.bool false) := by rw [k6r.out.cell]; rfl
      have r10 : wr.cell? ⟨w.heap.size, 10, none⟩ = some (.slice none 0 0) := by rw [k6r.out.cell]; rfl
      have r11 : wr.cell? ⟨w.heap.size, 11, none⟩ = some (.int .i64 0) := by rw [k6r.out.cell]; rfl
      have f0 := k6r.out.frozen 0
      have f1 := k6r.out.frozen 1
      have f2 := k6r.out.frozen 2
      have f3 := k6r.out.frozen 3
      have f4 := k6r.out.frozen 4
      have f5 := k6r.out.frozen 5
      have f6 := k6r.out.frozen 6
      have f7 := k6r.out.frozen 7
      have f8 := k6r.out.frozen 8
      have f9 := k6r.out.frozen 9
      have f10 := k6r.out.frozen 10
      have f11 := k6r.out.frozen 11
      go_wp2
      refine bodyPost_ret (ret_mass rfl _ _ w.heap.size #[.bool s.m.s.neg, .slice s.X0 s.m.s.ls.length s.c0, .int .i64 s.m.s.ex, .bool s.m.w.neg, .slice s.X1 s.m.w.ls.length s.c1, .int .i64 s.m.w.ex, .bool s.m.c.neg, .slice s.X2 s.m.c.ls.length s.c2, .int .i64 s.m.c.ex, .bool s.m.a.neg, .slice s.X3 s.m.a.ls.length s.c3, .int .i64 s.m.a.ex] (.int .i64 0) rfl kz info_mass rfl) rfl ?_
      exact ⟨0, hchk.out, s, by rw [gfs.out, gS'.out]; rfl, by rw [gfs.out, gS'.out]; rfl, gu.out, hBz⟩
end Go.Proofs.YtdmjdpaehnhdoaaDoor
