/- Flight's Door: flight.Sum -/
import Derived.Test.YtdmjdpaehnhdoaaDoorFAO
import Derived.Test.YtdmjdpaehnhdoaaDoorLKM
import Derived.Test.YtdmjdpaehnhdoaaDoorLF
namespace Go.Proofs.YtdmjdpaehnhdoaaDoor
open Go.ChangeShapes Go.WideShapes Go.ChangeAt Go.RowKit
set_option linter.unusedSimpArgs false
set_option linter.unusedVariables false
open Go.Shelf
set_option maxRecDepth 100000
def m12 (w : World) (g : Nat) (u0 u1 u2 u3 u4 u5 u6 u7 u8 u9 u10 u11 : Value) : World := (((((((((((w.setCell ⟨g, 0, none⟩ u0).setCell ⟨g, 1, none⟩ u1).setCell ⟨g, 2, none⟩ u2).setCell ⟨g, 3, none⟩ u3).setCell ⟨g, 4, none⟩ u4).setCell ⟨g, 5, none⟩ u5).setCell ⟨g, 6, none⟩ u6).setCell ⟨g, 7, none⟩ u7).setCell ⟨g, 8, none⟩ u8).setCell ⟨g, 9, none⟩ u9).setCell ⟨g, 10, none⟩ u10).setCell ⟨g, 11, none⟩ u11
theorem m12_blk {w : World} {g : Nat} {z0 z1 z2 z3 z4 z5 z6 z7 z8 z9 z10 z11 : Value} (h : Blk w g 27 #[z0, z1, z2, z3, z4, z5, z6, z7, z8, z9, z10, z11]) (u0 u1 u2 u3 u4 u5 u6 u7 u8 u9 u10 u11 : Value) : Blk (m12 w g u0 u1 u2 u3 u4 u5 u6 u7 u8 u9 u10 u11) g 27 #[u0, u1, u2, u3, u4, u5, u6, u7, u8, u9, u10, u11] := blk12 h u0 u1 u2 u3 u4 u5 u6 u7 u8 u9 u10 u11
theorem m12_below {w w0 : World} {B g : Nat} (h : Below B w0 w) (hg : B ≤ g) (u0 u1 u2 u3 u4 u5 u6 u7 u8 u9 u10 u11 : Value) : Below B w0 (m12 w g u0 u1 u2 u3 u4 u5 u6 u7 u8 u9 u10 u11) := by
  unfold m12
  exact (((((((((((h.setCell (p := ⟨g, 0, none⟩) hg u0).setCell (p := ⟨g, 1, none⟩) hg u1).setCell (p := ⟨g, 2, none⟩) hg u2).setCell (p := ⟨g, 3, none⟩) hg u3).setCell (p := ⟨g, 4, none⟩) hg u4).setCell (p := ⟨g, 5, none⟩) hg u5).setCell (p := ⟨g, 6, none⟩) hg u6).setCell (p := ⟨g, 7, none⟩) hg u7).setCell (p := ⟨g, 8, none⟩) hg u8).setCell (p := ⟨g, 9, none⟩) hg u9).setCell (p := ⟨g, 10, none⟩) hg u10).setCell (p := ⟨g, 11, none⟩) hg u11
theorem OwD.far {w : World} {B c : Nat} {X : Option Addr} {d : Dy} (h : OwD w B X c d) {p : Addr} (hp : p.block < B) (u : Value) : OwD (w.setCell p u) B X c d := ⟨h.1, h.2.far hp u⟩
theorem OwM.far {w : World} {B : Nat} {o : MB} (h : OwM w B o) {p : Addr} (hp : p.block < B) (u : Value) : OwM (w.setCell p u) B o := ⟨h.1.far hp u, h.2.1.far hp u, h.2.2.1.far hp u, h.2.2.2.far hp u⟩
theorem m12_own {w : World} {B g : Nat} {o : MB} (h : OwM w B o) (hg : g < B) (u0 u1 u2 u3 u4 u5 u6 u7 u8 u9 u10 u11 : Value) : OwM (m12 w g u0 u1 u2 u3 u4 u5 u6 u7 u8 u9 u10 u11) B o := by
  unfold m12
  exact (((((((((((h.far (p := ⟨g, 0, none⟩) hg u0).far (p := ⟨g, 1, none⟩) hg u1).far (p := ⟨g, 2, none⟩) hg u2).far (p := ⟨g, 3, none⟩) hg u3).far (p := ⟨g, 4, none⟩) hg u4).far (p := ⟨g, 5, none⟩) hg u5).far (p := ⟨g, 6, none⟩) hg u6).far (p := ⟨g, 7, none⟩) hg u7).far (p := ⟨g, 8, none⟩) hg u8).far (p := ⟨g, 9, none⟩) hg u9).far (p := ⟨g, 10, none⟩) hg u10).far (p := ⟨g, 11, none⟩) hg u11
theorem owM_zero (w : World) (B : Nat) : OwM w B (⟨zM, none, 0, none, 0, none, 0, none, 0⟩ : MB) := ⟨owD_zero w B, owD_zero w B, owD_zero w B, owD_zero w B⟩
theorem maE_zero {m k : Ms} (h : maE m k = 0) : ∃ d, addM m k = some d ∧ maM m k = d := by
  unfold maE at h
  by_cases h0 : (mayM m && mayM k) = false
  · rw [if_pos h0] at h; cases h
  · rw [if_neg h0] at h
    cases h1 : addM m k with
    | none => rw [h1] at h; cases h
    | some d => exact ⟨d, rfl, by unfold maM; rw [if_neg h0, h1]; rfl⟩
/-- What an epoch's loads carry. -/
def sumFl (l : List En) (N : Int) : Option Ms := sumL ((l.filter (fun x => x.ep == N)).map (·.give))
def fsA (E N : Int) : Int := if E ≠ 0 then E else if 0 ≤ N ∧ N ≤ 65535 then 0 else 2
def FSumP (l : List En) (N : Int) (w : World) (en : Ending) (w' : World) : Prop := ∃ E0, ChkF l E0 ∧ ∃ o : MB, o.m = lsM (fsA E0 N) (sumFl l N) ∧ en = .returned (.tuple #[.agg #[.bool o.m.s.neg, .slice o.X0 o.m.s.ls.length o.c0, .int .i64 o.m.s.ex, .bool o.m.w.neg, .slice o.X1 o.m.w.ls.length o.c1, .int .i64 o.m.w.ex, .bool o.m.c.neg, .slice o.X2 o.m.c.ls.length o.c2, .int .i64 o.m.c.ex, .bool o.m.a.neg, .slice o.X3 o.m.a.ls.length o.c3, .int .i64 o.m.a.ex], .int .i64 (lsE (fsA E0 N) (sumFl l N))]) ∧ OwM w' w.heap.size o ∧ Below w.heap.size w w'
theorem chk_may {l : List En} (h : ChkF l 0) : ∀ x ∈ l, mayM x.give = true := by
  rcases h with ⟨_, h⟩ | ⟨_, h, _⟩ | ⟨_, _, h⟩
  · cases h
  · intro x hx
    obtain ⟨j, hj⟩ := List.mem_iff_getElem?.1 hx
    exact (h j x hj).2.2.2.2.2.2
  · cases h
theorem fsum_err {l : List En} {N E0 E : Int} {w w' : World} (hc : ChkF l E0) (hE : fsA E0 N = E) (h0 : E ≠ 0) (hb : Below w.heap.size w w') : FSumP l N w (.returned (.tuple #[.agg #[.bool false, .slice none 0 0, .int .i64 0, .bool false, .slice none 0 0, .int .i64 0, .bool false, .slice none 0 0, .int .i64 0, .bool false, .slice none 0 0, .int .i64 0], .int .i64 E])) w' := by
  refine ⟨E0, hc, (⟨zM, none, 0, none, 0, none, 0, none, 0⟩ : MB), ?_, ?_, owM_zero _ _, hb⟩
  · rw [hE]; unfold lsM; rw [if_pos h0]
  · rw [hE]; unfold lsE; rw [if_pos h0]; rfl
theorem sumF_may' : ∀ (l : List Ms) (a d : Ms), mayM a = true → sumF a l = some d → mayM d = true
  | [], a, d, ha, h => by injection h with h; subst h; exact ha
  | x :: r, a, d, ha, h => by
    have h' : (match addM a x with | none => none | some d => sumF d r) = some d := h
    cases h2 : addM a x with
    | none => rw [h2] at h'; cases h'
    | some b => rw [h2] at h'; exact sumF_may' r b d (addM_ok h2).1 h'
theorem sumF_lt' : ∀ (l : List Ms) (a d : Ms), ltM4 a → sumF a l = some d → ltM4 d
  | [], a, d, ha, h => by injection h with h; subst h; exact ha
  | x :: r, a, d, ha, h => by
    have h' : (match addM a x with | none => none | some d => sumF d r) = some d := h
    cases h2 : addM a x with
    | none => rw [h2] at h'; cases h'
    | some b => rw [h2] at h'; exact sumF_lt' r b d (addM_ok h2).2 h'
set_option maxHeartbeats 32000000 in
theorem fsum_any (A : Option Addr) (n c : Nat) (l : List En) (hm : n ≤ 10000) (w : World) (h1 : Ens w w.heap.size A n l) (hl : ∀ x ∈ l, ltM4 x.give) (N : Int) (hT : Tab w) : Calls Tryd.prog 10 #[.slice A n c, .int .i64 N] w (FSumP l N w) := by
  have gln := Lib.hid (ens_len h1)
  obtain ⟨V, hV⟩ : ∃ V, V = w.alloc (.cells #[.bool false, .slice none 0 0, .int .i64 0, .bool false, .slice none 0 0, .int .i64 0, .bool false, .slice none 0 0, .int .i64 0, .bool false, .slice none 0 0, .int .i64 0] 27) := ⟨_, rfl⟩
  have hB : Below w.heap.size w V := by rw [hV]; exact (Below.refl _ w).alloc (Nat.le_refl _) _
  have kr : Blk V w.heap.size 27 #[.bool false, .slice none 0 0, .int .i64 0, .bool false, .slice none 0 0, .int .i64 0, .bool false, .slice none 0 0, .int .i64 0, .bool false, .slice none 0 0, .int .i64 0] := by rw [hV]; exact Blk.new w _ _
  have hc := fcheck_any A n c l (by unfold maxLen; omega) V (Recs.more (Recs.below h1 hB) hB.size)
  have gh1 := Lib.hid h1
  have ghl := Lib.hid hl
  have gT := Lib.hid hT
  have gB := Lib.hid hB
  have gkr := Lib.hid kr
  clear h1 hl hT hB kr
  go_enter Tryd.func10, Tryd.ntmps10
  go_wp2_with fail
  rw [← hV]
  clear hV
  refine hc.mono ?_
  rintro en w1 ⟨E, rfl, hchk0, hb1⟩
  clear hc
  have hchk := Lib.hid hchk0
  have kr1 := gkr.out.below hb1 gkr.out.lt
  have gB1 := Lib.hid (gB.out.trans (hb1.mono gB.out.size))
  clear hchk0
  by_cases h0 : E = 0
  rotate_left
  · have t0 : (E != 0) = true := bne_iff_ne.2 h0
    have hne := h0
    have gfs : Hid (fsA E N = E) := Lib.hid (by unfold fsA; rw [if_pos h0])
    clear h0
    have kz : Blk ((((((((((((w1.setCell ⟨w.heap.size, 0, none⟩ (.bool false)).setCell ⟨w.heap.size, 1, none⟩ (.slice none 0 0)).setCell ⟨w.heap.size, 2, none⟩ (.int .i64 0)).setCell ⟨w.heap.size, 3, none⟩ (.bool false)).setCell ⟨w.heap.size, 4, none⟩ (.slice none 0 0)).setCell ⟨w.heap.size, 5, none⟩ (.int .i64 0)).setCell ⟨w.heap.size, 6, none⟩ (.bool false)).setCell ⟨w.heap.size, 7, none⟩ (.slice none 0 0)).setCell ⟨w.heap.size, 8, none⟩ (.int .i64 0)).setCell ⟨w.heap.size, 9, none⟩ (.bool false)).setCell ⟨w.heap.size, 10, none⟩ (.slice none 0 0)).setCell ⟨w.heap.size, 11, none⟩ (.int .i64 0)) w.heap.size 27 #[.bool false, .slice none 0 0, .int .i64 0, .bool false, .slice none 0 0, .int .i64 0, .bool false, .slice none 0 0, .int .i64 0, .bool false, .slice none 0 0, .int .i64 0] := m12_blk kr1 (.bool false) (.slice none 0 0) (.int .i64 0) (.bool false) (.slice none 0 0) (.int .i64 0) (.bool false) (.slice none 0 0) (.int .i64 0) (.bool false) (.slice none 0 0) (.int .i64 0)
    have hBz : Below w.heap.size w ((((((((((((w1.setCell ⟨w.heap.size, 0, none⟩ (.bool false)).setCell ⟨w.heap.size, 1, none⟩ (.slice none 0 0)).setCell ⟨w.heap.size, 2, none⟩ (.int .i64 0)).setCell ⟨w.heap.size, 3, none⟩ (.bool false)).setCell ⟨w.heap.size, 4, none⟩ (.slice none 0 0)).setCell ⟨w.heap.size, 5, none⟩ (.int .i64 0)).setCell ⟨w.heap.size, 6, none⟩ (.bool false)).setCell ⟨w.heap.size, 7, none⟩ (.slice none 0 0)).setCell ⟨w.heap.size, 8, none⟩ (.int .i64 0)).setCell ⟨w.heap.size, 9, none⟩ (.bool false)).setCell ⟨w.heap.size, 10, none⟩ (.slice none 0 0)).setCell ⟨w.heap.size, 11, none⟩ (.int .i64 0)) := m12_below gB1.out (Nat.le_refl _) (.bool false) (.slice none 0 0) (.int .i64 0) (.bool false) (.slice none 0 0) (.int .i64 0) (.bool false) (.slice none 0 0) (.int .i64 0) (.bool false) (.slice none 0 0) (.int .i64 0)
    have gf := Lib.hid (fsum_err (E := E) hchk.out gfs.out hne hBz)
    have r0 : w1.cell? ⟨w.heap.size, 0, none⟩ = some (.bool false) := by rw [kr1.cell]; rfl
    have r1 : w1.cell? ⟨w.heap.size, 1, none⟩ = some (.slice none 0 0) := by rw [kr1.cell]; rfl
    have r2 : w1.cell? ⟨w.heap.size, 2, none⟩ = some (.int .i64 0) := by rw [kr1.cell]; rfl
    have r3 : w1.cell? ⟨w.heap.size, 3, none⟩ = some (.bool false) := by rw [kr1.cell]; rfl
    have r4 : w1.cell? ⟨w.heap.size, 4, none⟩ = some (.slice none 0 0) := by rw [kr1.cell]; rfl
    have r5 : w1.cell? ⟨w.heap.size, 5, none⟩ = some (.int .i64 0) := by rw [kr1.cell]; rfl
    have r6 : w1.cell? ⟨w.heap.size, 6, none⟩ = some (.bool false) := by rw [kr1.cell]; rfl
    have r7 : w1.cell? ⟨w.heap.size, 7, none⟩ = some (.slice none 0 0) := by rw [kr1.cell]; rfl
    have r8 : w1.cell? ⟨w.heap.size, 8, none⟩ = some (.int .i64 0) := by rw [kr1.cell]; rfl
    have r9 : w1.cell? ⟨w.heap.size, 9, none⟩ = some (.bool false) := by rw [kr1.cell]; rfl
    have r10 : w1.cell? ⟨w.heap.size, 10, none⟩ = some (.slice none 0 0) := by rw [kr1.cell]; rfl
    have r11 : w1.cell? ⟨w.heap.size, 11, none⟩ = some (.int .i64 0) := by rw [kr1.cell]; rfl
    have f0 := kr1.frozen 0
    have f1 := kr1.frozen 1
    have f2 := kr1.frozen 2
    have f3 := kr1.frozen 3
    have f4 := kr1.frozen 4
    have f5 := kr1.frozen 5
    have f6 := kr1.frozen 6
    have f7 := kr1.frozen 7
    have f8 := kr1.frozen 8
    have f9 := kr1.frozen 9
    have f10 := kr1.frozen 10
    have f11 := kr1.frozen 11
    clear hne hBz
    go_wp2
    refine bodyPost_ret (ret_mass rfl _ _ w.heap.size #[.bool false, .slice none 0 0, .int .i64 0, .bool false, .slice none 0 0, .int .i64 0, .bool false, .slice none 0 0, .int .i64 0, .bool false, .slice none 0 0, .int .i64 0] (.int .i64 E) rfl kz info_mass rfl) rfl ?_
    exact gf.out
  subst h0
  by_cases hN : 0 ≤ N ∧ N ≤ 65535
  rotate_left
  · have gfs : Hid (fsA 0 N = 2) := Lib.hid (by unfold fsA; rw [if_neg (by decide), if_neg hN])
    have hne : (2 : Int) ≠ 0 := by decide
    by_cases hn : N < 0
    · have d1 : decide (N < 0) = true := decide_eq_true hn
      clear hN
      have kz : Blk ((((((((((((w1.setCell ⟨w.heap.size, 0, none⟩ (.bool false)).setCell ⟨w.heap.size, 1, none⟩ (.slice none 0 0)).setCell ⟨w.heap.size, 2, none⟩ (.int .i64 0)).setCell ⟨w.heap.size, 3, none⟩ (.bool false)).setCell ⟨w.heap.size, 4, none⟩ (.slice none 0 0)).setCell ⟨w.heap.size, 5, none⟩ (.int .i64 0)).setCell ⟨w.heap.size, 6, none⟩ (.bool false)).setCell ⟨w.heap.size, 7, none⟩ (.slice none 0 0)).setCell ⟨w.heap.size, 8, none⟩ (.int .i64 0)).setCell ⟨w.heap.size, 9, none⟩ (.bool false)).setCell ⟨w.heap.size, 10, none⟩ (.slice none 0 0)).setCell ⟨w.heap.size, 11, none⟩ (.int .i64 0)) w.heap.size 27 #[.bool false, .slice none 0 0, .int .i64 0, .bool false, .slice none 0 0, .int .i64 0, .bool false, .slice none 0 0, .int .i64 0, .bool false, .slice none 0 0, .int .i64 0] := m12_blk kr1 (.bool false) (.slice none 0 0) (.int .i64 0) (.bool false) (.slice none 0 0) (.int .i64 0) (.bool false) (.slice none 0 0) (.int .i64 0) (.bool false) (.slice none 0 0) (.int .i64 0)
      have hBz : Below w.heap.size w ((((((((((((w1.setCell ⟨w.heap.size, 0, none⟩ (.bool false)).setCell ⟨w.heap.size, 1, none⟩ (.slice none 0 0)).setCell ⟨w.heap.size, 2, none⟩ (.int .i64 0)).setCell ⟨w.heap.size, 3, none⟩ (.bool false)).setCell ⟨w.heap.size, 4, none⟩ (.slice none 0 0)).setCell ⟨w.heap.size, 5, none⟩ (.int .i64 0)).setCell ⟨w.heap.size, 6, none⟩ (.bool false)).setCell ⟨w.heap.size, 7, none⟩ (.slice none 0 0)).setCell ⟨w.heap.size, 8, none⟩ (.int .i64 0)).setCell ⟨w.heap.size, 9, none⟩ (.bool false)).setCell ⟨w.heap.size, 10, none⟩ (.slice none 0 0)).setCell ⟨w.heap.size, 11, none⟩ (.int .i64 0)) := m12_below gB1.out (Nat.le_refl _) (.bool false) (.slice none 0 0) (.int .i64 0) (.bool false) (.slice none 0 0) (.int .i64 0) (.bool false) (.slice none 0 0) (.int .i64 0) (.bool false) (.slice none 0 0) (.int .i64 0)
      have gf := Lib.hid (fsum_err (E := 2) hchk.out gfs.out hne hBz)
      have r0 : w1.cell? ⟨w.heap.size, 0, none⟩ = some (.bool false) := by rw [kr1.cell]; rfl
      have r1 : w1.cell? ⟨w.heap.size, 1, none⟩ = some (.slice none 0 0) := by rw [kr1.cell]; rfl
      have r2 : w1.cell? ⟨w.heap.size, 2, none⟩ = some (.int .i64 0) := by rw [kr1.cell]; rfl
      have r3 : w1.cell? ⟨w.heap.size, 3, none⟩ = some (.bool false) := by rw [kr1.cell]; rfl
      have r4 : w1.cell? ⟨w.heap.size, 4, none⟩ = some (.slice none 0 0) := by rw [kr1.cell]; rfl
      have r5 : w1.cell? ⟨w.heap.size, 5, none⟩ = some (.int .i64 0) := by rw [kr1.cell]; rfl
      have r6 : w1.cell? ⟨w.heap.size, 6, none⟩ = some (.bool false) := by rw [kr1.cell]; rfl
      have r7 : w1.cell? ⟨w.heap.size, 7, none⟩ = some (.slice none 0 0) := by rw [kr1.cell]; rfl
      have r8 : w1.cell? ⟨w.heap.size, 8, none⟩ = some (.int .i64 0) := by rw [kr1.cell]; rfl
      have r9 : w1.cell? ⟨w.heap.size, 9, none⟩ = some (.bool false) := by rw [kr1.cell]; rfl
      have r10 : w1.cell? ⟨w.heap.size, 10, none⟩ = some (.slice none 0 0) := by rw [kr1.cell]; rfl
      have r11 : w1.cell? ⟨w.heap.size, 11, none⟩ = some (.int .i64 0) := by rw [kr1.cell]; rfl
      have f0 := kr1.frozen 0
      have f1 := kr1.frozen 1
      have f2 := kr1.frozen 2
      have f3 := kr1.frozen 3
      have f4 := kr1.frozen 4
      have f5 := kr1.frozen 5
      have f6 := kr1.frozen 6
      have f7 := kr1.frozen 7
      have f8 := kr1.frozen 8
      have f9 := kr1.frozen 9
      have f10 := kr1.frozen 10
      have f11 := kr1.frozen 11
      clear hne hBz
      go_wp2
      refine bodyPost_ret (ret_mass rfl _ _ w.heap.size #[.bool false, .slice none 0 0, .int .i64 0, .bool false, .slice none 0 0, .int .i64 0, .bool false, .slice none 0 0, .int .i64 0, .bool false, .slice none 0 0, .int .i64 0] (.int .i64 2) rfl kz info_mass rfl) rfl ?_
      exact gf.out
    · have d1 : decide (N < 0) = false := decide_eq_false hn
      have hn2 : 65535 < N := by omega
      have d2 : decide (65535 < N) = true := decide_eq_true hn2
      clear hN
      have kz : Blk ((((((((((((w1.setCell ⟨w.heap.size, 0, none⟩ (.bool false)).setCell ⟨w.heap.size, 1, none⟩ (.slice none 0 0)).setCell ⟨w.heap.size, 2, none⟩ (.int .i64 0)).setCell ⟨w.heap.size, 3, none⟩ (.bool false)).setCell ⟨w.heap.size, 4, none⟩ (.slice none 0 0)).setCell ⟨w.heap.size, 5, none⟩ (.int .i64 0)).setCell ⟨w.heap.size, 6, none⟩ (.bool false)).setCell ⟨w.heap.size, 7, none⟩ (.slice none 0 0)).setCell ⟨w.heap.size, 8, none⟩ (.int .i64 0)).setCell ⟨w.heap.size, 9, none⟩ (.bool false)).setCell ⟨w.heap.size, 10, none⟩ (.slice none 0 0)).setCell ⟨w.heap.size, 11, none⟩ (.int .i64 0)) w.heap.size 27 #[.bool false, .slice none 0 0, .int .i64 0, .bool false, .slice none 0 0, .int .i64 0, .bool false, .slice none 0 0, .int .i64 0, .bool false, .slice none 0 0, .int .i64 0] := m12_blk kr1 (.bool false) (.slice none 0 0) (.int .i64 0) (.bool false) (.slice none 0 0) (.int .i64 0) (.bool false) (.slice none 0 0) (.int .i64 0) (.bool false) (.slice none 0 0) (.int .i64 0)
      have hBz : Below w.heap.size w ((((((((((((w1.setCell ⟨w.heap.size, 0, none⟩ (.bool false)).setCell ⟨w.heap.size, 1, none⟩ (.slice none 0 0)).setCell ⟨w.heap.size, 2, none⟩ (.int .i64 0)).setCell ⟨w.heap.size, 3, none⟩ (.bool false)).setCell ⟨w.heap.size, 4, none⟩ (.slice none 0 0)).setCell ⟨w.heap.size, 5, none⟩ (.int .i64 0)).setCell ⟨w.heap.size, 6, none⟩ (.bool false)).setCell ⟨w.heap.size, 7, none⟩ (.slice none 0 0)).setCell ⟨w.heap.size, 8, none⟩ (.int .i64 0)).setCell ⟨w.heap.size, 9, none⟩ (.bool false)).setCell ⟨w.heap.size, 10, none⟩ (.slice none 0 0)).setCell ⟨w.heap.size, 11, none⟩ (.int .i64 0)) := m12_below gB1.out (Nat.le_refl _) (.bool false) (.slice none 0 0) (.int .i64 0) (.bool false) (.slice none 0 0) (.int .i64 0) (.bool false) (.slice none 0 0) (.int .i64 0) (.bool false) (.slice none 0 0) (.int .i64 0)
      have gf := Lib.hid (fsum_err (E := 2) hchk.out gfs.out hne hBz)
      have r0 : w1.cell? ⟨w.heap.size, 0, none⟩ = some (.bool false) := by rw [kr1.cell]; rfl
      have r1 : w1.cell? ⟨w.heap.size, 1, none⟩ = some (.slice none 0 0) := by rw [kr1.cell]; rfl
      have r2 : w1.cell? ⟨w.heap.size, 2, none⟩ = some (.int .i64 0) := by rw [kr1.cell]; rfl
      have r3 : w1.cell? ⟨w.heap.size, 3, none⟩ = some (.bool false) := by rw [kr1.cell]; rfl
      have r4 : w1.cell? ⟨w.heap.size, 4, none⟩ = some (.slice none 0 0) := by rw [kr1.cell]; rfl
      have r5 : w1.cell? ⟨w.heap.size, 5, none⟩ = some (.int .i64 0) := by rw [kr1.cell]; rfl
      have r6 : w1.cell? ⟨w.heap.size, 6, none⟩ = some (.bool false) := by rw [kr1.cell]; rfl
      have r7 : w1.cell? ⟨w.heap.size, 7, none⟩ = some (.slice none 0 0) := by rw [kr1.cell]; rfl
      have r8 : w1.cell? ⟨w.heap.size, 8, none⟩ = some (.int .i64 0) := by rw [kr1.cell]; rfl
      have r9 : w1.cell? ⟨w.heap.size, 9, none⟩ = some (.bool false) := by rw [kr1.cell]; rfl
      have r10 : w1.cell? ⟨w.heap.size, 10, none⟩ = some (.slice none 0 0) := by rw [kr1.cell]; rfl
      have r11 : w1.cell? ⟨w.heap.size, 11, none⟩ = some (.int .i64 0) := by rw [kr1.cell]; rfl
      have f0 := kr1.frozen 0
      have f1 := kr1.frozen 1
      have f2 := kr1.frozen 2
      have f3 := kr1.frozen 3
      have f4 := kr1.frozen 4
      have f5 := kr1.frozen 5
      have f6 := kr1.frozen 6
      have f7 := kr1.frozen 7
      have f8 := kr1.frozen 8
      have f9 := kr1.frozen 9
      have f10 := kr1.frozen 10
      have f11 := kr1.frozen 11
      clear hne hBz
      go_wp2
      refine bodyPost_ret (ret_mass rfl _ _ w.heap.size #[.bool false, .slice none 0 0, .int .i64 0, .bool false, .slice none 0 0, .int .i64 0, .bool false, .slice none 0 0, .int .i64 0, .bool false, .slice none 0 0, .int .i64 0] (.int .i64 2) rfl kz info_mass rfl) rfl ?_
      exact gf.out
  have d1 : decide (N < 0) = false := decide_eq_false (by omega)
  have d2 : decide (65535 < N) = false := decide_eq_false (by omega)
  have y1 : ¬ N < 0 := by omega
  have y2 : ¬ 65535 < N := by omega
  have gfs : Hid (fsA 0 N = 0) := Lib.hid (by unfold fsA; rw [if_neg (by decide), if_pos hN])
  have g0 : Hid (Blk w1 w.heap.size 27 #[.bool (⟨zM, none, 0, none, 0, none, 0, none, 0⟩ : MB).m.s.neg, .slice (⟨zM, none, 0, none, 0, none, 0, none, 0⟩ : MB).X0 (⟨zM, none, 0, none, 0, none, 0, none, 0⟩ : MB).m.s.ls.length (⟨zM, none, 0, none, 0, none, 0, none, 0⟩ : MB).c0, .int .i64 (⟨zM, none, 0, none, 0, none, 0, none, 0⟩ : MB).m.s.ex, .bool (⟨zM, none, 0, none, 0, none, 0, none, 0⟩ : MB).m.w.neg, .slice (⟨zM, none, 0, none, 0, none, 0, none, 0⟩ : MB).X1 (⟨zM, none, 0, none, 0, none, 0, none, 0⟩ : MB).m.w.ls.length (⟨zM, none, 0, none, 0, none, 0, none, 0⟩ : MB).c1, .int .i64 (⟨zM, none, 0, none, 0, none, 0, none, 0⟩ : MB).m.w.ex, .bool (⟨zM, none, 0, none, 0, none, 0, none, 0⟩ : MB).m.c.neg, .slice (⟨zM, none, 0, none, 0, none, 0, none, 0⟩ : MB).X2 (⟨zM, none, 0, none, 0, none, 0, none, 0⟩ : MB).m.c.ls.length (⟨zM, none, 0, none, 0, none, 0, none, 0⟩ : MB).c2, .int .i64 (⟨zM, none, 0, none, 0, none, 0, none, 0⟩ : MB).m.c.ex, .bool (⟨zM, none, 0, none, 0, none, 0, none, 0⟩ : MB).m.a.neg, .slice (⟨zM, none, 0, none, 0, none, 0, none, 0⟩ : MB).X3 (⟨zM, none, 0, none, 0, none, 0, none, 0⟩ : MB).m.a.ls.length (⟨zM, none, 0, none, 0, none, 0, none, 0⟩ : MB).c3, .int .i64 (⟨zM, none, 0, none, 0, none, 0, none, 0⟩ : MB).m.a.ex] ∧ Below w.heap.size w w1) := Lib.hid ⟨kr1, gB1.out⟩
  clear hN kr1 gB1
  go_wp2
  go_loopw [24] (fun t wr => ∃ (k : Nat) (s : MB), k ≤ n ∧ t = .int .i64 (k : Int) ∧ Hid (sumL (((l.take k).filter (fun x => x.ep == N)).map (·.give)) = some s.m) ∧ Hid (OwM wr (w.heap.size + 1) s) ∧ Hid (Blk wr w.heap.size 27 #[.bool s.m.s.neg, .slice s.X0 s.m.s.ls.length s.c0, .int .i64 s.m.s.ex, .bool s.m.w.neg, .slice s.X1 s.m.w.ls.length s.c1, .int .i64 s.m.w.ex, .bool s.m.c.neg, .slice s.X2 s.m.c.ls.length s.c2, .int .i64 s.m.c.ex, .bool s.m.a.neg, .slice s.X3 s.m.a.ls.length s.c3, .int .i64 s.m.a.ex]) ∧ Hid (Below w.heap.size w wr)) (fun t _ => n - (intOf t).toNat)
  case atStart => exact ⟨0, (⟨zM, none, 0, none, 0, none, 0, none, 0⟩ : MB), Nat.zero_le _, rfl, Lib.hid rfl, Lib.hid (owM_zero _ _), Lib.hid g0.out.1, Lib.hid g0.out.2⟩
  case round =>
    clear g0 d1 d2 y1 y2
    obtain ⟨k, s, hk, rfl, gS, us, k8, gB8⟩ := hrel
    by_cases hlt : k < n
    · obtain ⟨ad, nu, ep, cp, ag0, aX0, an0, ac0, ae0, ag1, aX1, an1, ac1, ae1, ag2, aX2, an2, ac2, ae2, ag3, aX3, an3, ac3, ae3, m, rfl, hb1', hl1, hx1, hrel1⟩ := ens_rel gh1.out hlt
      obtain ⟨a0, a1, a2, a3, a4, a5, a6, a7, a8, a9, a10, a11, a12, a13, a14⟩ := (hrel1 wr gB8.out).2
      have i1 : (0 : Int) ≤ k := by omega
      have i2 : (k : Int) < n := by omega
      obtain ⟨W1, hW1⟩ : ∃ W, W = wr.alloc (.cells #[.int .i64 nu, .int .i64 ep, .int .i64 cp, .bool ag0, .slice aX0 an0 ac0, .int .i64 ae0, .bool ag1, .slice aX1 an1 ac1, .int .i64 ae1, .bool ag2, .slice aX2 an2 ac2, .int .i64 ae2, .bool ag3, .slice aX3 an3 ac3, .int .i64 ae3] 48) := ⟨_, rfl⟩
      have hb2 : Below wr.heap.size wr W1 := by rw [hW1]; exact (Below.refl _ _).alloc (Nat.le_refl _) _
      have kl : Blk W1 wr.heap.size 48 #[.int .i64 nu, .int .i64 ep, .int .i64 cp, .bool ag0, .slice aX0 an0 ac0, .int .i64 ae0, .bool ag1, .slice aX1 an1 ac1, .int .i64 ae1, .bool ag2, .slice aX2 an2 ac2, .int .i64 ae2, .bool ag3, .slice aX3 an3 ac3, .int .i64 ae3] := by rw [hW1]; exact Blk.new _ _ _
      have gl1 := Lib.hid hl1
      have gm := Lib.hid (And.intro (chk_may hchk.out _ (List.mem_of_getElem? hl1)) (ghl.out _ (List.mem_of_getElem? hl1)))
      have us1 := Lib.hid (us.out.below hb2)
      have k81 := Lib.hid (k8.out.below hb2 k8.out.lt)
      have gB81 := Lib.hid (gB8.out.trans (hb2.mono gB8.out.size))
      have gx := Lib.hid (hrel1 W1 gB81.out).1
      have gkl := Lib.hid kl
      have gtk : Hid (∀ b, (ep == N) = b → ((l.take (k + 1)).filter (fun x => x.ep == N)).map (·.give) = ((l.take k).filter (fun x => x.ep == N)).map (·.give) ++ (if b = true then [m] else [])) := Lib.hid (fun b hb => by
        have e : l.take (k + 1) = l.take k ++ [⟨nu, ep, cp, m⟩] := by rw [List.take_add_one, gl1.out]; rfl
        rw [e, List.filter_append, List.map_append]
        congr 1
        rw [List.filter_cons, List.filter_nil]
        simp only [hb]
        cases b <;> rfl)
      clear hx1 hl1 hrel1 hb1' kl hb2
      go_upto_region 9 with (fail)
      rw [← hW1]
      clear hW1 a0 a1 a2 a3 a4 a5 a6 a7 a8 a9 a10 a11 a12 a13 a14
      have q1 : W1.cell? ⟨wr.heap.size, 1, none⟩ = some (.int .i64 ep) := by rw [gkl.out.cell]; rfl
      by_cases he : ep = N
      · have t1 : (ep != N) = false := bne_eq_false_iff_eq.2 he
        have gtk1 := Lib.hid (gtk.out true (beq_iff_eq.2 he))
        clear gtk he
        have hms := sumF_may' _ zM s.m okM_zM.may gS.out
        have hlts := sumF_lt' _ zM s.m zM_lt gS.out
        obtain ⟨Ea, hEa⟩ : ∃ E, maE s.m m = E := ⟨_, rfl⟩
        have gE := Lib.hid hEa
        have hadd : Calls Tryd.prog 25 #[.agg #[.bool s.m.s.neg, .slice s.X0 s.m.s.ls.length s.c0, .int .i64 s.m.s.ex, .bool s.m.w.neg, .slice s.X1 s.m.w.ls.length s.c1, .int .i64 s.m.w.ex, .bool s.m.c.neg, .slice s.X2 s.m.c.ls.length s.c2, .int .i64 s.m.c.ex, .bool s.m.a.neg, .slice s.X3 s.m.a.ls.length s.c3, .int .i64 s.m.a.ex], .agg #[.bool ag0, .slice aX0 an0 ac0, .int .i64 ae0, .bool ag1, .slice aX1 an1 ac1, .int .i64 ae1, .bool ag2, .slice aX2 an2 ac2, .int .i64 ae2, .bool ag3, .slice aX3 an3 ac3, .int .i64 ae3]] W1 (fun en w'' => ∃ o : MB, o.m = maM s.m m ∧ en = .returned (.tuple #[.agg #[.bool o.m.s.neg, .slice o.X0 o.m.s.ls.length o.c0, .int .i64 o.m.s.ex, .bool o.m.w.neg, .slice o.X1 o.m.w.ls.length o.c1, .int .i64 o.m.w.ex, .bool o.m.c.neg, .slice o.X2 o.m.c.ls.length o.c2, .int .i64 o.m.c.ex, .bool o.m.a.neg, .slice o.X3 o.m.a.ls.length o.c3, .int .i64 o.m.a.ex], .int .i64 (maE s.m m)]) ∧ OwM w'' W1.heap.size o ∧ Below W1.heap.size W1 w'') := by
          obtain ⟨⟨e0a, e0b, e0c, e0d, e0e⟩, ⟨e1a, e1b, e1c, e1d, e1e⟩, ⟨e2a, e2b, e2c, e2d, e2e⟩, ⟨e3a, e3b, e3c, e3d, e3e⟩⟩ := gx.out
          subst e0a e0b e0c e1a e1b e1c e2a e2b e2c e3a e3b e3c
          exact (madd_any s.m m hlts gm.out.2 s.X0 s.c0 s.X1 s.c1 s.X2 s.c2 s.X3 s.c3 aX0 ac0 aX1 ac1 aX2 ac2 aX3 ac3 W1 us1.out.rd ⟨⟨rfl, rfl, rfl, e0d, e0e⟩, ⟨rfl, rfl, rfl, e1d, e1e⟩, ⟨rfl, rfl, rfl, e2d, e2e⟩, ⟨rfl, rfl, rfl, e3d, e3e⟩⟩ (gT.out.below gB81.out gT.out.2)).mono fun en w' h => madd_one h
        have z0 : W1.cell? ⟨wr.heap.size, 3, none⟩ = some (.bool ag0) := by rw [gkl.out.cell]; rfl
        have z1 : W1.cell? ⟨wr.heap.size, 3 + 1, none⟩ = some (.slice aX0 an0 ac0) := by rw [gkl.out.cell]; rfl
        have z2 : W1.cell? ⟨wr.heap.size, 3 + 2, none⟩ = some (.int .i64 ae0) := by rw [gkl.out.cell]; rfl
        have z3 : W1.cell? ⟨wr.heap.size, 3 + 3, none⟩ = some (.bool ag1) := by rw [gkl.out.cell]; rfl
        have z4 : W1.cell? ⟨wr.heap.size, 3 + 4, none⟩ = some (.slice aX1 an1 ac1) := by rw [gkl.out.cell]; rfl
        have z5 : W1.cell? ⟨wr.heap.size, 3 + 5, none⟩ = some (.int .i64 ae1) := by rw [gkl.out.cell]; rfl
        have z6 : W1.cell? ⟨wr.heap.size, 3 + 6, none⟩ = some (.bool ag2) := by rw [gkl.out.cell]; rfl
        have z7 : W1.cell? ⟨wr.heap.size, 3 + 7, none⟩ = some (.slice aX2 an2 ac2) := by rw [gkl.out.cell]; rfl
        have z8 : W1.cell? ⟨wr.heap.size, 3 + 8, none⟩ = some (.int .i64 ae2) := by rw [gkl.out.cell]; rfl
        have z9 : W1.cell? ⟨wr.heap.size, 3 + 9, none⟩ = some (.bool ag3) := by rw [gkl.out.cell]; rfl
        have z10 : W1.cell? ⟨wr.heap.size, 3 + 10, none⟩ = some (.slice aX3 an3 ac3) := by rw [gkl.out.cell]; rfl
        have z11 : W1.cell? ⟨wr.heap.size, 3 + 11, none⟩ = some (.int .i64 ae3) := by rw [gkl.out.cell]; rfl
        have r0 : W1.cell? ⟨w.heap.size, 0, none⟩ = some (.bool s.m.s.neg) := by rw [k81.out.cell]; rfl
        have r1 : W1.cell? ⟨w.heap.size, 1, none⟩ = some (.slice s.X0 s.m.s.ls.length s.c0) := by rw [k81.out.cell]; rfl
        have r2 : W1.cell? ⟨w.heap.size, 2, none⟩ = some (.int .i64 s.m.s.ex) := by rw [k81.out.cell]; rfl
        have r3 : W1.cell? ⟨w.heap.size, 3, none⟩ = some (.bool s.m.w.neg) := by rw [k81.out.cell]; rfl
        have r4 : W1.cell? ⟨w.heap.size, 4, none⟩ = some (.slice s.X1 s.m.w.ls.length s.c1) := by rw [k81.out.cell]; rfl
        have r5 : W1.cell? ⟨w.heap.size, 5, none⟩ = some (.int .i64 s.m.w.ex) := by rw [k81.out.cell]; rfl
        have r6 : W1.cell? ⟨w.heap.size, 6, none⟩ = some (.bool s.m.c.neg) := by rw [k81.out.cell]; rfl
        have r7 : W1.cell? ⟨w.heap.size, 7, none⟩ = some (.slice s.X2 s.m.c.ls.length s.c2) := by rw [k81.out.cell]; rfl
        have r8 : W1.cell? ⟨w.heap.size, 8, none⟩ = some (.int .i64 s.m.c.ex) := by rw [k81.out.cell]; rfl
        have r9 : W1.cell? ⟨w.heap.size, 9, none⟩ = some (.bool s.m.a.neg) := by rw [k81.out.cell]; rfl
        have r10 : W1.cell? ⟨w.heap.size, 10, none⟩ = some (.slice s.X3 s.m.a.ls.length s.c3) := by rw [k81.out.cell]; rfl
        have r11 : W1.cell? ⟨w.heap.size, 11, none⟩ = some (.int .i64 s.m.a.ex) := by rw [k81.out.cell]; rfl
        clear hEa
        go_wp2_with fail
        refine hadd.mono ?_
        rintro en w5 ⟨o, ho, he, hr, hb5⟩
        rw [gE.out] at he
        subst he
        have go := Lib.hid ho
        have hlt1 : w.heap.size + 1 ≤ W1.heap.size := k81.out.lt
        have gr := Lib.hid (hr.base_le hlt1)
        have k85 := k81.out.below hb5 k81.out.lt
        have gB5 := Lib.hid (gB81.out.trans (hb5.mono gB81.out.size))
        clear hadd ho hr hb5 q1 z0 r0 z1 r1 z2 r2 z3 r3 z4 r4 z5 r5 z6 r6 z7 r7 z8 r8 z9 r9 z10 r10 z11 r11
        by_cases hE0 : Ea = 0
        · subst hE0
          obtain ⟨d, hd1, hd2⟩ := maE_zero gE.out
          have gS' : Hid (sumL (((l.take (k + 1)).filter (fun x => x.ep == N)).map (·.give)) = some o.m) := Lib.hid (by
            rw [gtk1.out]
            first | rw [if_pos rfl] | rw [if_pos trivial]
            show sumF zM _ = _
            rw [sumF_snoc, show sumF zM _ = some s.m from gS.out]
            show addM s.m m = _
            rw [hd1, go.out, hd2])
          have gk8 : Hid (Blk ((((((((((((w5.setCell ⟨w.heap.size, 0, none⟩ (.bool o.m.s.neg)).setCell ⟨w.heap.size, 1, none⟩ (.slice o.X0 o.m.s.ls.length o.c0)).setCell ⟨w.heap.size, 2, none⟩ (.int .i64 o.m.s.ex)).setCell ⟨w.heap.size, 3, none⟩ (.bool o.m.w.neg)).setCell ⟨w.heap.size, 4, none⟩ (.slice o.X1 o.m.w.ls.length o.c1)).setCell ⟨w.heap.size, 5, none⟩ (.int .i64 o.m.w.ex)).setCell ⟨w.heap.size, 6, none⟩ (.bool o.m.c.neg)).setCell ⟨w.heap.size, 7, none⟩ (.slice o.X2 o.m.c.ls.length o.c2)).setCell ⟨w.heap.size, 8, none⟩ (.int .i64 o.m.c.ex)).setCell ⟨w.heap.size, 9, none⟩ (.bool o.m.a.neg)).setCell ⟨w.heap.size, 10, none⟩ (.slice o.X3 o.m.a.ls.length o.c3)).setCell ⟨w.heap.size, 11, none⟩ (.int .i64 o.m.a.ex)) w.heap.size 27 #[.bool o.m.s.neg, .slice o.X0 o.m.s.ls.length o.c0, .int .i64 o.m.s.ex, .bool o.m.w.neg, .slice o.X1 o.m.w.ls.length o.c1, .int .i64 o.m.w.ex, .bool o.m.c.neg, .slice o.X2 o.m.c.ls.length o.c2, .int .i64 o.m.c.ex, .bool o.m.a.neg, .slice o.X3 o.m.a.ls.length o.c3, .int .i64 o.m.a.ex]) := Lib.hid (m12_blk k85 (.bool o.m.s.neg) (.slice o.X0 o.m.s.ls.length o.c0) (.int .i64 o.m.s.ex) (.bool o.m.w.neg) (.slice o.X1 o.m.w.ls.length o.c1) (.int .i64 o.m.w.ex) (.bool o.m.c.neg) (.slice o.X2 o.m.c.ls.length o.c2) (.int .i64 o.m.c.ex) (.bool o.m.a.neg) (.slice o.X3 o.m.a.ls.length o.c3) (.int .i64 o.m.a.ex))
          have gu8 : Hid (OwM ((((((((((((w5.setCell ⟨w.heap.size, 0, none⟩ (.bool o.m.s.neg)).setCell ⟨w.heap.size, 1, none⟩ (.slice o.X0 o.m.s.ls.length o.c0)).setCell ⟨w.heap.size, 2, none⟩ (.int .i64 o.m.s.ex)).setCell ⟨w.heap.size, 3, none⟩ (.bool o.m.w.neg)).setCell ⟨w.heap.size, 4, none⟩ (.slice o.X1 o.m.w.ls.length o.c1)).setCell ⟨w.heap.size, 5, none⟩ (.int .i64 o.m.w.ex)).setCell ⟨w.heap.size, 6, none⟩ (.bool o.m.c.neg)).setCell ⟨w.heap.size, 7, none⟩ (.slice o.X2 o.m.c.ls.length o.c2)).setCell ⟨w.heap.size, 8, none⟩ (.int .i64 o.m.c.ex)).setCell ⟨w.heap.size, 9, none⟩ (.bool o.m.a.neg)).setCell ⟨w.heap.size, 10, none⟩ (.slice o.X3 o.m.a.ls.length o.c3)).setCell ⟨w.heap.size, 11, none⟩ (.int .i64 o.m.a.ex)) (w.heap.size + 1) o) := Lib.hid (m12_own gr.out (Nat.lt_succ_self _) (.bool o.m.s.neg) (.slice o.X0 o.m.s.ls.length o.c0) (.int .i64 o.m.s.ex) (.bool o.m.w.neg) (.slice o.X1 o.m.w.ls.length o.c1) (.int .i64 o.m.w.ex) (.bool o.m.c.neg) (.slice o.X2 o.m.c.ls.length o.c2) (.int .i64 o.m.c.ex) (.bool o.m.a.neg) (.slice o.X3 o.m.a.ls.length o.c3) (.int .i64 o.m.a.ex))
          have gb8 : Hid (Below w.heap.size w ((((((((((((w5.setCell ⟨w.heap.size, 0, none⟩ (.bool o.m.s.neg)).setCell ⟨w.heap.size, 1, none⟩ (.slice o.X0 o.m.s.ls.length o.c0)).setCell ⟨w.heap.size, 2, none⟩ (.int .i64 o.m.s.ex)).setCell ⟨w.heap.size, 3, none⟩ (.bool o.m.w.neg)).setCell ⟨w.heap.size, 4, none⟩ (.slice o.X1 o.m.w.ls.length o.c1)).setCell ⟨w.heap.size, 5, none⟩ (.int .i64 o.m.w.ex)).setCell ⟨w.heap.size, 6, none⟩ (.bool o.m.c.neg)).setCell ⟨w.heap.size, 7, none⟩ (.slice o.X2 o.m.c.ls.length o.c2)).setCell ⟨w.heap.size, 8, none⟩ (.int .i64 o.m.c.ex)).setCell ⟨w.heap.size, 9, none⟩ (.bool o.m.a.neg)).setCell ⟨w.heap.size, 10, none⟩ (.slice o.X3 o.m.a.ls.length o.c3)).setCell ⟨w.heap.size, 11, none⟩ (.int .i64 o.m.a.ex))) := Lib.hid (m12_below gB5.out (Nat.le_refl _) (.bool o.m.s.neg) (.slice o.X0 o.m.s.ls.length o.c0) (.int .i64 o.m.s.ex) (.bool o.m.w.neg) (.slice o.X1 o.m.w.ls.length o.c1) (.int .i64 o.m.w.ex) (.bool o.m.c.neg) (.slice o.X2 o.m.c.ls.length o.c2) (.int .i64 o.m.c.ex) (.bool o.m.a.neg) (.slice o.X3 o.m.a.ls.length o.c3) (.int .i64 o.m.a.ex))
          have r0 : w5.cell? ⟨w.heap.size, 0, none⟩ = some (.bool s.m.s.neg) := by rw [k85.cell]; rfl
          have r1 : w5.cell? ⟨w.heap.size, 1, none⟩ = some (.slice s.X0 s.m.s.ls.length s.c0) := by rw [k85.cell]; rfl
          have r2 : w5.cell? ⟨w.heap.size, 2, none⟩ = some (.int .i64 s.m.s.ex) := by rw [k85.cell]; rfl
          have r3 : w5.cell? ⟨w.heap.size, 3, none⟩ = some (.bool s.m.w.neg) := by rw [k85.cell]; rfl
          have r4 : w5.cell? ⟨w.heap.size, 4, none⟩ = some (.slice s.X1 s.m.w.ls.length s.c1) := by rw [k85.cell]; rfl
          have r5 : w5.cell? ⟨w.heap.size, 5, none⟩ = some (.int .i64 s.m.w.ex) := by rw [k85.cell]; rfl
          have r6 : w5.cell? ⟨w.heap.size, 6, none⟩ = some (.bool s.m.c.neg) := by rw [k85.cell]; rfl
          have r7 : w5.cell? ⟨w.heap.size, 7, none⟩ = some (.slice s.X2 s.m.c.ls.length s.c2) := by rw [k85.cell]; rfl
          have r8 : w5.cell? ⟨w.heap.size, 8, none⟩ = some (.int .i64 s.m.c.ex) := by rw [k85.cell]; rfl
          have r9 : w5.cell? ⟨w.heap.size, 9, none⟩ = some (.bool s.m.a.neg) := by rw [k85.cell]; rfl
          have r10 : w5.cell? ⟨w.heap.size, 10, none⟩ = some (.slice s.X3 s.m.a.ls.length s.c3) := by rw [k85.cell]; rfl
          have r11 : w5.cell? ⟨w.heap.size, 11, none⟩ = some (.int .i64 s.m.a.ex) := by rw [k85.cell]; rfl
          have f0 := k85.frozen 0
          have f1 := k85.frozen 1
          have f2 := k85.frozen 2
          have f3 := k85.frozen 3
          have f4 := k85.frozen 4
          have f5 := k85.frozen 5
          have f6 := k85.frozen 6
          have f7 := k85.frozen 7
          have f8 := k85.frozen 8
          have f9 := k85.frozen 9
          have f10 := k85.frozen 10
          have f11 := k85.frozen 11
          clear k85 hd1 hd2 hms hlts
          go_wp2
          go_roundw
          case rel => exact ⟨k + 1, o, by omega, by go_num, gS', gu8, gk8, gb8⟩
          case measure => simp [intOf]; omega
        · have t2 : (Ea != 0) = true := bne_iff_ne.2 hE0
          have hno := maE_ten gE.out hE0 hms gm.out.1
          have hsum : Hid (sumFl l N = none) := Lib.hid (by
            unfold sumFl
            have e : l.filter (fun x => x.ep == N) = (l.take (k + 1)).filter (fun x => x.ep == N) ++ (l.drop (k + 1)).filter (fun x => x.ep == N) := by rw [← List.filter_append, List.take_append_drop]
            rw [e, List.map_append]
            refine sumF_no _ _ _ ?_
            rw [gtk1.out]
            first | rw [if_pos rfl] | rw [if_pos trivial]
            rw [sumF_snoc, show sumF zM _ = some s.m from gS.out]
            exact hno.1)
          have gE10 := Lib.hid hno.2
          have kz1 : Blk ((((((((((((w5.setCell ⟨w.heap.size, 0, none⟩ (.bool o.m.s.neg)).setCell ⟨w.heap.size, 1, none⟩ (.slice o.X0 o.m.s.ls.length o.c0)).setCell ⟨w.heap.size, 2, none⟩ (.int .i64 o.m.s.ex)).setCell ⟨w.heap.size, 3, none⟩ (.bool o.m.w.neg)).setCell ⟨w.heap.size, 4, none⟩ (.slice o.X1 o.m.w.ls.length o.c1)).setCell ⟨w.heap.size, 5, none⟩ (.int .i64 o.m.w.ex)).setCell ⟨w.heap.size, 6, none⟩ (.bool o.m.c.neg)).setCell ⟨w.heap.size, 7, none⟩ (.slice o.X2 o.m.c.ls.length o.c2)).setCell ⟨w.heap.size, 8, none⟩ (.int .i64 o.m.c.ex)).setCell ⟨w.heap.size, 9, none⟩ (.bool o.m.a.neg)).setCell ⟨w.heap.size, 10, none⟩ (.slice o.X3 o.m.a.ls.length o.c3)).setCell ⟨w.heap.size, 11, none⟩ (.int .i64 o.m.a.ex)) w.heap.size 27 #[.bool o.m.s.neg, .slice o.X0 o.m.s.ls.length o.c0, .int .i64 o.m.s.ex, .bool o.m.w.neg, .slice o.X1 o.m.w.ls.length o.c1, .int .i64 o.m.w.ex, .bool o.m.c.neg, .slice o.X2 o.m.c.ls.length o.c2, .int .i64 o.m.c.ex, .bool o.m.a.neg, .slice o.X3 o.m.a.ls.length o.c3, .int .i64 o.m.a.ex] := m12_blk k85 (.bool o.m.s.neg) (.slice o.X0 o.m.s.ls.length o.c0) (.int .i64 o.m.s.ex) (.bool o.m.w.neg) (.slice o.X1 o.m.w.ls.length o.c1) (.int .i64 o.m.w.ex) (.bool o.m.c.neg) (.slice o.X2 o.m.c.ls.length o.c2) (.int .i64 o.m.c.ex) (.bool o.m.a.neg) (.slice o.X3 o.m.a.ls.length o.c3) (.int .i64 o.m.a.ex)
          obtain ⟨W6, hW6⟩ : ∃ W, W = (((((((((((w5.setCell ⟨w.heap.size, 0, none⟩ (.bool o.m.s.neg)).setCell ⟨w.heap.size, 1, none⟩ (.slice o.X0 o.m.s.ls.length o.c0)).setCell ⟨w.heap.size, 2, none⟩ (.int .i64 o.m.s.ex)).setCell ⟨w.heap.size, 3, none⟩ (.bool o.m.w.neg)).setCell ⟨w.heap.size, 4, none⟩ (.slice o.X1 o.m.w.ls.length o.c1)).setCell ⟨w.heap.size, 5, none⟩ (.int .i64 o.m.w.ex)).setCell ⟨w.heap.size, 6, none⟩ (.bool o.m.c.neg)).setCell ⟨w.heap.size, 7, none⟩ (.slice o.X2 o.m.c.ls.length o.c2)).setCell ⟨w.heap.size, 8, none⟩ (.int .i64 o.m.c.ex)).setCell ⟨w.heap.size, 9, none⟩ (.bool o.m.a.neg)).setCell ⟨w.heap.size, 10, none⟩ (.slice o.X3 o.m.a.ls.length o.c3)).setCell ⟨w.heap.size, 11, none⟩ (.int .i64 o.m.a.ex) := ⟨_, rfl⟩
          have hB6 : Below w.heap.size w W6 := by rw [hW6]; exact m12_below gB5.out (Nat.le_refl _) (.bool o.m.s.neg) (.slice o.X0 o.m.s.ls.length o.c0) (.int .i64 o.m.s.ex) (.bool o.m.w.neg) (.slice o.X1 o.m.w.ls.length o.c1) (.int .i64 o.m.w.ex) (.bool o.m.c.neg) (.slice o.X2 o.m.c.ls.length o.c2) (.int .i64 o.m.c.ex) (.bool o.m.a.neg) (.slice o.X3 o.m.a.ls.length o.c3) (.int .i64 o.m.a.ex)
          rw [← hW6] at kz1
          have gkz1 := Lib.hid kz1
          have gB6 := Lib.hid hB6
          have r0 : w5.cell? ⟨w.heap.size, 0, none⟩ = some (.bool s.m.s.neg) := by rw [k85.cell]; rfl
          have r1 : w5.cell? ⟨w.heap.size, 1, none⟩ = some (.slice s.X0 s.m.s.ls.length s.c0) := by rw [k85.cell]; rfl
          have r2 : w5.cell? ⟨w.heap.size, 2, none⟩ = some (.int .i64 s.m.s.ex) := by rw [k85.cell]; rfl
          have r3 : w5.cell? ⟨w.heap.size, 3, none⟩ = some (.bool s.m.w.neg) := by rw [k85.cell]; rfl
          have r4 : w5.cell? ⟨w.heap.size, 4, none⟩ = some (.slice s.X1 s.m.w.ls.length s.c1) := by rw [k85.cell]; rfl
          have r5 : w5.cell? ⟨w.heap.size, 5, none⟩ = some (.int .i64 s.m.w.ex) := by rw [k85.cell]; rfl
          have r6 : w5.cell? ⟨w.heap.size, 6, none⟩ = some (.bool s.m.c.neg) := by rw [k85.cell]; rfl
          have r7 : w5.cell? ⟨w.heap.size, 7, none⟩ = some (.slice s.X2 s.m.c.ls.length s.c2) := by rw [k85.cell]; rfl
          have r8 : w5.cell? ⟨w.heap.size, 8, none⟩ = some (.int .i64 s.m.c.ex) := by rw [k85.cell]; rfl
          have r9 : w5.cell? ⟨w.heap.size, 9, none⟩ = some (.bool s.m.a.neg) := by rw [k85.cell]; rfl
          have r10 : w5.cell? ⟨w.heap.size, 10, none⟩ = some (.slice s.X3 s.m.a.ls.length s.c3) := by rw [k85.cell]; rfl
          have r11 : w5.cell? ⟨w.heap.size, 11, none⟩ = some (.int .i64 s.m.a.ex) := by rw [k85.cell]; rfl
          have f0 := k85.frozen 0
          have f1 := k85.frozen 1
          have f2 := k85.frozen 2
          have f3 := k85.frozen 3
          have f4 := k85.frozen 4
          have f5 := k85.frozen 5
          have f6 := k85.frozen 6
          have f7 := k85.frozen 7
          have f8 := k85.frozen 8
          have f9 := k85.frozen 9
          have f10 := k85.frozen 10
          have f11 := k85.frozen 11
          clear k85 hms hlts hno hE0 kz1 hB6
          go_upto_region 12 with (fail)
          rw [← hW6]
          clear hW6 r0 f0 r1 f1 r2 f2 r3 f3 r4 f4 r5 f5 r6 f6 r7 f7 r8 f8 r9 f9 r10 f10 r11 f11
          have kz1 := gkz1.out
          have kz : Blk ((((((((((((W6.setCell ⟨w.heap.size, 0, none⟩ (.bool false)).setCell ⟨w.heap.size, 1, none⟩ (.slice none 0 0)).setCell ⟨w.heap.size, 2, none⟩ (.int .i64 0)).setCell ⟨w.heap.size, 3, none⟩ (.bool false)).setCell ⟨w.heap.size, 4, none⟩ (.slice none 0 0)).setCell ⟨w.heap.size, 5, none⟩ (.int .i64 0)).setCell ⟨w.heap.size, 6, none⟩ (.bool false)).setCell ⟨w.heap.size, 7, none⟩ (.slice none 0 0)).setCell ⟨w.heap.size, 8, none⟩ (.int .i64 0)).setCell ⟨w.heap.size, 9, none⟩ (.bool false)).setCell ⟨w.heap.size, 10, none⟩ (.slice none 0 0)).setCell ⟨w.heap.size, 11, none⟩ (.int .i64 0)) w.heap.size 27 #[.bool false, .slice none 0 0, .int .i64 0, .bool false, .slice none 0 0, .int .i64 0, .bool false, .slice none 0 0, .int .i64 0, .bool false, .slice none 0 0, .int .i64 0] := m12_blk kz1 (.bool false) (.slice none 0 0) (.int .i64 0) (.bool false) (.slice none 0 0) (.int .i64 0) (.bool false) (.slice none 0 0) (.int .i64 0) (.bool false) (.slice none 0 0) (.int .i64 0)
          have hBz : Below w.heap.size w ((((((((((((W6.setCell ⟨w.heap.size, 0, none⟩ (.bool false)).setCell ⟨w.heap.size, 1, none⟩ (.slice none 0 0)).setCell ⟨w.heap.size, 2, none⟩ (.int .i64 0)).setCell ⟨w.heap.size, 3, none⟩ (.bool false)).setCell ⟨w.heap.size, 4, none⟩ (.slice none 0 0)).setCell ⟨w.heap.size, 5, none⟩ (.int .i64 0)).setCell ⟨w.heap.size, 6, none⟩ (.bool false)).setCell ⟨w.heap.size, 7, none⟩ (.slice none 0 0)).setCell ⟨w.heap.size, 8, none⟩ (.int .i64 0)).setCell ⟨w.heap.size, 9, none⟩ (.bool false)).setCell ⟨w.heap.size, 10, none⟩ (.slice none 0 0)).setCell ⟨w.heap.size, 11, none⟩ (.int .i64 0)) := m12_below gB6.out (Nat.le_refl _) (.bool false) (.slice none 0 0) (.int .i64 0) (.bool false) (.slice none 0 0) (.int .i64 0) (.bool false) (.slice none 0 0) (.int .i64 0) (.bool false) (.slice none 0 0) (.int .i64 0)
          have r0 : W6.cell? ⟨w.heap.size, 0, none⟩ = some (.bool o.m.s.neg) := by rw [kz1.cell]; rfl
          have r1 : W6.cell? ⟨w.heap.size, 1, none⟩ = some (.slice o.X0 o.m.s.ls.length o.c0) := by rw [kz1.cell]; rfl
          have r2 : W6.cell? ⟨w.heap.size, 2, none⟩ = some (.int .i64 o.m.s.ex) := by rw [kz1.cell]; rfl
          have r3 : W6.cell? ⟨w.heap.size, 3, none⟩ = some (.bool o.m.w.neg) := by rw [kz1.cell]; rfl
          have r4 : W6.cell? ⟨w.heap.size, 4, none⟩ = some (.slice o.X1 o.m.w.ls.length o.c1) := by rw [kz1.cell]; rfl
          have r5 : W6.cell? ⟨w.heap.size, 5, none⟩ = some (.int .i64 o.m.w.ex) := by rw [kz1.cell]; rfl
          have r6 : W6.cell? ⟨w.heap.size, 6, none⟩ = some (.bool o.m.c.neg) := by rw [kz1.cell]; rfl
          have r7 : W6.cell? ⟨w.heap.size, 7, none⟩ = some (.slice o.X2 o.m.c.ls.length o.c2) := by rw [kz1.cell]; rfl
          have r8 : W6.cell? ⟨w.heap.size, 8, none⟩ = some (.int .i64 o.m.c.ex) := by rw [kz1.cell]; rfl
          have r9 : W6.cell? ⟨w.heap.size, 9, none⟩ = some (.bool o.m.a.neg) := by rw [kz1.cell]; rfl
          have r10 : W6.cell? ⟨w.heap.size, 10, none⟩ = some (.slice o.X3 o.m.a.ls.length o.c3) := by rw [kz1.cell]; rfl
          have r11 : W6.cell? ⟨w.heap.size, 11, none⟩ = some (.int .i64 o.m.a.ex) := by rw [kz1.cell]; rfl
          have f0 := kz1.frozen 0
          have f1 := kz1.frozen 1
          have f2 := kz1.frozen 2
          have f3 := kz1.frozen 3
          have f4 := kz1.frozen 4
          have f5 := kz1.frozen 5
          have f6 := kz1.frozen 6
          have f7 := kz1.frozen 7
          have f8 := kz1.frozen 8
          have f9 := kz1.frozen 9
          have f10 := kz1.frozen 10
          have f11 := kz1.frozen 11
          go_wp2
          refine bodyPost_ret (ret_mass rfl _ _ w.heap.size #[.bool false, .slice none 0 0, .int .i64 0, .bool false, .slice none 0 0, .int .i64 0, .bool false, .slice none 0 0, .int .i64 0, .bool false, .slice none 0 0, .int .i64 0] (.int .i64 Ea) rfl kz info_mass rfl) rfl ?_
          exact ⟨0, hchk.out, (⟨zM, none, 0, none, 0, none, 0, none, 0⟩ : MB), by rw [gfs.out, hsum.out]; rfl, by rw [gfs.out, hsum.out, gE10.out]; rfl, owM_zero _ _, hBz⟩
      · have t1 : (ep != N) = true := bne_iff_ne.2 he
        have gS' : Hid (sumL (((l.take (k + 1)).filter (fun x => x.ep == N)).map (·.give)) = some s.m) := Lib.hid (by rw [gtk.out false (beq_eq_false_iff_ne.2 he), show (if (false : Bool) = true then [m] else []) = ([] : List Ms) from rfl, List.append_nil]; exact gS.out)
        clear gtk he
        go_wp2
        go_roundw
        case rel => exact ⟨k + 1, s, by omega, by go_num, gS', us1, k81, gB81⟩
        case measure => simp [intOf]; omega
    · obtain rfl : k = n := by omega
      have gS' : Hid (sumFl l N = some s.m) := Lib.hid (by
        have h := gS.out
        rw [List.take_of_length_le (by rw [gln.out]; omega)] at h
        exact h)
      have kz : Blk ((((((((((((wr.setCell ⟨w.heap.size, 0, none⟩ (.bool s.m.s.neg)).setCell ⟨w.heap.size, 1, none⟩ (.slice s.X0 s.m.s.ls.length s.c0)).setCell ⟨w.heap.size, 2, none⟩ (.int .i64 s.m.s.ex)).setCell ⟨w.heap.size, 3, none⟩ (.bool s.m.w.neg)).setCell ⟨w.heap.size, 4, none⟩ (.slice s.X1 s.m.w.ls.length s.c1)).setCell ⟨w.heap.size, 5, none⟩ (.int .i64 s.m.w.ex)).setCell ⟨w.heap.size, 6, none⟩ (.bool s.m.c.neg)).setCell ⟨w.heap.size, 7, none⟩ (.slice s.X2 s.m.c.ls.length s.c2)).setCell ⟨w.heap.size, 8, none⟩ (.int .i64 s.m.c.ex)).setCell ⟨w.heap.size, 9, none⟩ (.bool s.m.a.neg)).setCell ⟨w.heap.size, 10, none⟩ (.slice s.X3 s.m.a.ls.length s.c3)).setCell ⟨w.heap.size, 11, none⟩ (.int .i64 s.m.a.ex)) w.heap.size 27 #[.bool s.m.s.neg, .slice s.X0 s.m.s.ls.length s.c0, .int .i64 s.m.s.ex, .bool s.m.w.neg, .slice s.X1 s.m.w.ls.length s.c1, .int .i64 s.m.w.ex, .bool s.m.c.neg, .slice s.X2 s.m.c.ls.length s.c2, .int .i64 s.m.c.ex, .bool s.m.a.neg, .slice s.X3 s.m.a.ls.length s.c3, .int .i64 s.m.a.ex] := m12_blk k8.out (.bool s.m.s.neg) (.slice s.X0 s.m.s.ls.length s.c0) (.int .i64 s.m.s.ex) (.bool s.m.w.neg) (.slice s.X1 s.m.w.ls.length s.c1) (.int .i64 s.m.w.ex) (.bool s.m.c.neg) (.slice s.X2 s.m.c.ls.length s.c2) (.int .i64 s.m.c.ex) (.bool s.m.a.neg) (.slice s.X3 s.m.a.ls.length s.c3) (.int .i64 s.m.a.ex)
      have hBz : Below w.heap.size w ((((((((((((wr.setCell ⟨w.heap.size, 0, none⟩ (.bool s.m.s.neg)).setCell ⟨w.heap.size, 1, none⟩ (.slice s.X0 s.m.s.ls.length s.c0)).setCell ⟨w.heap.size, 2, none⟩ (.int .i64 s.m.s.ex)).setCell ⟨w.heap.size, 3, none⟩ (.bool s.m.w.neg)).setCell ⟨w.heap.size, 4, none⟩ (.slice s.X1 s.m.w.ls.length s.c1)).setCell ⟨w.heap.size, 5, none⟩ (.int .i64 s.m.w.ex)).setCell ⟨w.heap.size, 6, none⟩ (.bool s.m.c.neg)).setCell ⟨w.heap.size, 7, none⟩ (.slice s.X2 s.m.c.ls.length s.c2)).setCell ⟨w.heap.size, 8, none⟩ (.int .i64 s.m.c.ex)).setCell ⟨w.heap.size, 9, none⟩ (.bool s.m.a.neg)).setCell ⟨w.heap.size, 10, none⟩ (.slice s.X3 s.m.a.ls.length s.c3)).setCell ⟨w.heap.size, 11, none⟩ (.int .i64 s.m.a.ex)) := m12_below gB8.out (Nat.le_refl _) (.bool s.m.s.neg) (.slice s.X0 s.m.s.ls.length s.c0) (.int .i64 s.m.s.ex) (.bool s.m.w.neg) (.slice s.X1 s.m.w.ls.length s.c1) (.int .i64 s.m.w.ex) (.bool s.m.c.neg) (.slice s.X2 s.m.c.ls.length s.c2) (.int .i64 s.m.c.ex) (.bool s.m.a.neg) (.slice s.X3 s.m.a.ls.length s.c3) (.int .i64 s.m.a.ex)
      have gu := Lib.hid ((m12_own us.out (Nat.lt_succ_self _) (.bool s.m.s.neg) (.slice s.X0 s.m.s.ls.length s.c0) (.int .i64 s.m.s.ex) (.bool s.m.w.neg) (.slice s.X1 s.m.w.ls.length s.c1) (.int .i64 s.m.w.ex) (.bool s.m.c.neg) (.slice s.X2 s.m.c.ls.length s.c2) (.int .i64 s.m.c.ex) (.bool s.m.a.neg) (.slice s.X3 s.m.a.ls.length s.c3) (.int .i64 s.m.a.ex)).base_le (Nat.le_succ _))
      have r0 : wr.cell? ⟨w.heap.size, 0, none⟩ = some (.bool s.m.s.neg) := by rw [k8.out.cell]; rfl
      have r1 : wr.cell? ⟨w.heap.size, 1, none⟩ = some (.slice s.X0 s.m.s.ls.length s.c0) := by rw [k8.out.cell]; rfl
      have r2 : wr.cell? ⟨w.heap.size, 2, none⟩ = some (.int .i64 s.m.s.ex) := by rw [k8.out.cell]; rfl
      have r3 : wr.cell? ⟨w.heap.size, 3, none⟩ = some (.bool s.m.w.neg) := by rw [k8.out.cell]; rfl
      have r4 : wr.cell? ⟨w.heap.size, 4, none⟩ = some (.slice s.X1 s.m.w.ls.length s.c1) := by rw [k8.out.cell]; rfl
      have r5 : wr.cell? ⟨w.heap.size, 5, none⟩ = some (.int .i64 s.m.w.ex) := by rw [k8.out.cell]; rfl
      have r6 : wr.cell? ⟨w.heap.size, 6, none⟩ = some (.bool s.m.c.neg) := by rw [k8.out.cell]; rfl
      have r7 : wr.cell? ⟨w.heap.size, 7, none⟩ = some (.slice s.X2 s.m.c.ls.length s.c2) := by rw [k8.out.cell]; rfl
      have r8 : wr.cell? ⟨w.heap.size, 8, none⟩ = some (.int .i64 s.m.c.ex) := by rw [k8.out.cell]; rfl
      have r9 : wr.cell? ⟨w.heap.size, 9, none⟩ = some (.bool s.m.a.neg) := by rw [k8.out.cell]; rfl
      have r10 : wr.cell? ⟨w.heap.size, 10, none⟩ = some (.slice s.X3 s.m.a.ls.length s.c3) := by rw [k8.out.cell]; rfl
      have r11 : wr.cell? ⟨w.heap.size, 11, none⟩ = some (.int .i64 s.m.a.ex) := by rw [k8.out.cell]; rfl
      have f0 := k8.out.frozen 0
      have f1 := k8.out.frozen 1
      have f2 := k8.out.frozen 2
      have f3 := k8.out.frozen 3
      have f4 := k8.out.frozen 4
      have f5 := k8.out.frozen 5
      have f6 := k8.out.frozen 6
      have f7 := k8.out.frozen 7
      have f8 := k8.out.frozen 8
      have f9 := k8.out.frozen 9
      have f10 := k8.out.frozen 10
      have f11 := k8.out.frozen 11
      go_wp2
      refine bodyPost_ret (ret_mass rfl _ _ w.heap.size #[.bool s.m.s.neg, .slice s.X0 s.m.s.ls.length s.c0, .int .i64 s.m.s.ex, .bool s.m.w.neg, .slice s.X1 s.m.w.ls.length s.c1, .int .i64 s.m.w.ex, .bool s.m.c.neg, .slice s.X2 s.m.c.ls.length s.c2, .int .i64 s.m.c.ex, .bool s.m.a.neg, .slice s.X3 s.m.a.ls.length s.c3, .int .i64 s.m.a.ex] (.int .i64 0) rfl kz info_mass rfl) rfl ?_
      exact ⟨0, hchk.out, s, by rw [gfs.out, gS'.out]; rfl, by rw [gfs.out, gS'.out]; rfl, gu.out, hBz⟩
end Go.Proofs.YtdmjdpaehnhdoaaDoor
