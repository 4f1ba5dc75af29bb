/- Door: the reference's Add of masses -/
import Derived.Test.YtdmjdpaehnhdoaaDoorRD
import Derived.Test.YtdmjdpaehnhdoaaDoorFAO
import Derived.Test.YtdmjdpaehnhdoaaDoorDN
namespace Go.Proofs.YtdmjdpaehnhdoaaDoor
open Go.ChangeShapes Go.WideShapes Go.ChangeAt Go.RowKit
set_option linter.unusedSimpArgs false
set_option linter.unusedVariables false
open Go.Shelf
set_option maxRecDepth 100000
/-- A mass is stored into a box. -/
def c12 (w : World) (g : Nat) (u0 u1 u2 u3 u4 u5 u6 u7 u8 u9 u10 u11 : Value) : World := (((((((((((w.setCell ⟨g, 0, none⟩ u0).setCell ⟨g, 1, none⟩ u1).setCell ⟨g, 2, none⟩ u2).setCell ⟨g, 3, none⟩ u3).setCell ⟨g, 4, none⟩ u4).setCell ⟨g, 5, none⟩ u5).setCell ⟨g, 6, none⟩ u6).setCell ⟨g, 7, none⟩ u7).setCell ⟨g, 8, none⟩ u8).setCell ⟨g, 9, none⟩ u9).setCell ⟨g, 10, none⟩ u10).setCell ⟨g, 11, none⟩ u11
theorem c12_blk {w : World} {g : Nat} {z0 z1 z2 z3 z4 z5 z6 z7 z8 z9 z10 z11 : Value} (h : Blk w g 27 #[z0, z1, z2, z3, z4, z5, z6, z7, z8, z9, z10, z11]) (u0 u1 u2 u3 u4 u5 u6 u7 u8 u9 u10 u11 : Value) : Blk (c12 w g u0 u1 u2 u3 u4 u5 u6 u7 u8 u9 u10 u11) g 27 #[u0, u1, u2, u3, u4, u5, u6, u7, u8, u9, u10, u11] := blk12 h u0 u1 u2 u3 u4 u5 u6 u7 u8 u9 u10 u11
theorem c12_below {w w0 : World} {B g : Nat} (h : Below B w0 w) (hg : B ≤ g) (u0 u1 u2 u3 u4 u5 u6 u7 u8 u9 u10 u11 : Value) : Below B w0 (c12 w g u0 u1 u2 u3 u4 u5 u6 u7 u8 u9 u10 u11) := by
  unfold c12
  exact (((((((((((h.setCell (p := ⟨g, 0, none⟩) hg u0).setCell (p := ⟨g, 1, none⟩) hg u1).setCell (p := ⟨g, 2, none⟩) hg u2).setCell (p := ⟨g, 3, none⟩) hg u3).setCell (p := ⟨g, 4, none⟩) hg u4).setCell (p := ⟨g, 5, none⟩) hg u5).setCell (p := ⟨g, 6, none⟩) hg u6).setCell (p := ⟨g, 7, none⟩) hg u7).setCell (p := ⟨g, 8, none⟩) hg u8).setCell (p := ⟨g, 9, none⟩) hg u9).setCell (p := ⟨g, 10, none⟩) hg u10).setCell (p := ⟨g, 11, none⟩) hg u11
theorem zm_cells {i : Nat} {z : Int} : (#[.bool false, .slice none 0 0, .int .i64 0, .bool false, .slice none 0 0, .int .i64 0, .bool false, .slice none 0 0, .int .i64 0, .bool false, .slice none 0 0, .int .i64 0] : Array Value)[i]? ≠ some (.int .u32 z) := by
  match i with
  | 0 => simp
  | 1 => simp
  | 2 => simp
  | 3 => simp
  | 4 => simp
  | 5 => simp
  | 6 => simp
  | 7 => simp
  | 8 => simp
  | 9 => simp
  | 10 => simp
  | 11 => simp
  | i + 12 => simp
/-- Rows of limbs that lie apart from a box. -/
def farX (w : World) (g : Nat) (X : Option Addr) (n : Nat) (xs : List Value) : Prop := Reads w w.heap.size 1 X n xs ∧ (n = 0 ∨ ∃ ad, X = some ad ∧ ad.block ≠ g)
theorem farX.set_ {w : World} {g q n : Nat} {X : Option Addr} {xs : List Value} (h : farX w g X n xs) (u : Value) : farX (w.setCell ⟨g, q, none⟩ u) g X n xs := ⟨far1 h.1 h.2, h.2⟩
theorem c12_far {w : World} {g n : Nat} {X : Option Addr} {xs : List Value} (h : farX w g X n xs) (u0 u1 u2 u3 u4 u5 u6 u7 u8 u9 u10 u11 : Value) : farX (c12 w g u0 u1 u2 u3 u4 u5 u6 u7 u8 u9 u10 u11) g X n xs := by
  unfold c12
  exact (((((((((((h.set_ (q := 0) u0).set_ (q := 1) u1).set_ (q := 2) u2).set_ (q := 3) u3).set_ (q := 4) u4).set_ (q := 5) u5).set_ (q := 6) u6).set_ (q := 7) u7).set_ (q := 8) u8).set_ (q := 9) u9).set_ (q := 10) u10).set_ (q := 11) u11
theorem c12_rdd {w : World} {g c : Nat} {X : Option Addr} {d : Dy} (h : RdD w w.heap.size d.neg X d.ls.length c d.ex d) (hk : Blk w g 27 #[.bool false, .slice none 0 0, .int .i64 0, .bool false, .slice none 0 0, .int .i64 0, .bool false, .slice none 0 0, .int .i64 0, .bool false, .slice none 0 0, .int .i64 0]) (u0 u1 u2 u3 u4 u5 u6 u7 u8 u9 u10 u11 : Value) : RdD (c12 w g u0 u1 u2 u3 u4 u5 u6 u7 u8 u9 u10 u11) (c12 w g u0 u1 u2 u3 u4 u5 u6 u7 u8 u9 u10 u11).heap.size d.neg X d.ls.length c d.ex d :=
  ⟨rfl, rfl, rfl, h.2.2.2.1, (c12_far (g := g) ⟨h.2.2.2.2, reads_ne32 h.2.2.2.2 hk (fun i z => zm_cells)⟩ u0 u1 u2 u3 u4 u5 u6 u7 u8 u9 u10 u11).1⟩
/-- What the sum of two masses answers, in one way, to be read. -/
def MaddR (m k : Ms) (w : World) (en : Ending) (w' : World) : Prop := ∃ o : MB, o.m = maM m k ∧ en = .returned (.tuple #[.agg #[.bool o.m.s.neg, .slice o.X0 o.m.s.ls.length o.c0, .int .i64 o.m.s.ex, .bool o.m.w.neg, .slice o.X1 o.m.w.ls.length o.c1, .int .i64 o.m.w.ex, .bool o.m.c.neg, .slice o.X2 o.m.c.ls.length o.c2, .int .i64 o.m.c.ex, .bool o.m.a.neg, .slice o.X3 o.m.a.ls.length o.c3, .int .i64 o.m.a.ex], .int .i64 (maE m k)]) ∧ RdO w' o ∧ Below w.heap.size w w'
theorem rdo_z (w : World) : RdO w ⟨zM, none, 0, none, 0, none, 0, none, 0⟩ := rdM_zero w _
theorem rfE_cases (R : Option Dy) : (rfE R = 0 ∧ R = some (rfM R)) ∨ (rfE R = 10 ∧ R = none) := by
  cases R with
  | none => exact .inr ⟨rfl, rfl⟩
  | some d => exact .inl ⟨rfl, rfl⟩
theorem ra_may {a b : Dy} (h1 : mayd a = true) (h2 : mayd b = true) : raE a b = rfE (addD a b) ∧ raD a b = rfM (addD a b) := by
  have e : ¬ (mayd a && mayd b) = false := by rw [h1, h2]; decide
  unfold raE raD
  rw [if_neg e, if_neg e]
  exact ⟨rfl, rfl⟩
def mx4 (x y z v : Int) : Int := if v > (if z > (if y > x then y else x) then z else (if y > x then y else x)) then v else (if z > (if y > x then y else x) then z else (if y > x then y else x))
theorem run_max_int4 {P : Program} {w : World} (ts : Array TypeId) (t : TypeId) (k k' k'' k3 : IntKind) (x y z v : Int) : (Builtin.max_ ts t #[.int k x, .int k' y, .int k'' z, .int k3 v]).run P w = .ok (.int k (mx4 x y z v)) w := by
  simp [Builtin.max_, Builtin.max2, mx4]
attribute [local go_sem] run_max_int4
theorem mx4_ten {x y z v : Int} (hx : x = 0 ∨ x = 10) (hy : y = 0 ∨ y = 10) (hz : z = 0 ∨ z = 10) (hv : v = 0 ∨ v = 10) (h : ¬ (x = 0 ∧ y = 0 ∧ z = 0 ∧ v = 0)) : mx4 x y z v = 10 := by
  rcases hx with rfl | rfl <;> rcases hy with rfl | rfl <;> rcases hz with rfl | rfl <;> rcases hv with rfl | rfl <;> first | rfl | (exact absurd ⟨rfl, rfl, rfl, rfl⟩ h)
set_option maxHeartbeats 32000000 in
theorem rmadd_any (m k : Ms) (lm : ltM4 m) (lk : ltM4 k) (aX0 : Option Addr) (ac0 : Nat) (aX1 : Option Addr) (ac1 : Nat) (aX2 : Option Addr) (ac2 : Nat) (aX3 : Option Addr) (ac3 : Nat) (bX0 : Option Addr) (bc0 : Nat) (bX1 : Option Addr) (bc1 : Nat) (bX2 : Option Addr) (bc2 : Nat) (bX3 : Option Addr) (bc3 : Nat) (w : World) (r1 : RdM w w.heap.size m.s.neg aX0 m.s.ls.length ac0 m.s.ex m.w.neg aX1 m.w.ls.length ac1 m.w.ex m.c.neg aX2 m.c.ls.length ac2 m.c.ex m.a.neg aX3 m.a.ls.length ac3 m.a.ex m) (r2 : RdM w w.heap.size k.s.neg bX0 k.s.ls.length bc0 k.s.ex k.w.neg bX1 k.w.ls.length bc1 k.w.ex k.c.neg bX2 k.c.ls.length bc2 k.c.ex k.a.neg bX3 k.a.ls.length bc3 k.a.ex k) : Calls Tryd.prog 34 #[.agg #[.bool m.s.neg, .slice aX0 m.s.ls.length ac0, .int .i64 m.s.ex, .bool m.w.neg, .slice aX1 m.w.ls.length ac1, .int .i64 m.w.ex, .bool m.c.neg, .slice aX2 m.c.ls.length ac2, .int .i64 m.c.ex, .bool m.a.neg, .slice aX3 m.a.ls.length ac3, .int .i64 m.a.ex], .agg #[.bool k.s.neg, .slice bX0 k.s.ls.length bc0, .int .i64 k.s.ex, .bool k.w.neg, .slice bX1 k.w.ls.length bc1, .int .i64 k.w.ex, .bool k.c.neg, .slice bX2 k.c.ls.length bc2, .int .i64 k.c.ex, .bool k.a.neg, .slice bX3 k.a.ls.length bc3, .int .i64 k.a.ex]] w (MaddR m k w) := by
  obtain ⟨V, hV⟩ : ∃ V, V = ((w.alloc (.cells #[.bool m.s.neg, .slice aX0 m.s.ls.length ac0, .int .i64 m.s.ex, .bool m.w.neg, .slice aX1 m.w.ls.length ac1, .int .i64 m.w.ex, .bool m.c.neg, .slice aX2 m.c.ls.length ac2, .int .i64 m.c.ex, .bool m.a.neg, .slice aX3 m.a.ls.length ac3, .int .i64 m.a.ex] 27)).alloc (.cells #[.bool k.s.neg, .slice bX0 k.s.ls.length bc0, .int .i64 k.s.ex, .bool k.w.neg, .slice bX1 k.w.ls.length bc1, .int .i64 k.w.ex, .bool k.c.neg, .slice bX2 k.c.ls.length bc2, .int .i64 k.c.ex, .bool k.a.neg, .slice bX3 k.a.ls.length bc3, .int .i64 k.a.ex] 27)).alloc (.cells #[.bool false, .slice none 0 0, .int .i64 0, .bool false, .slice none 0 0, .int .i64 0, .bool false, .slice none 0 0, .int .i64 0, .bool false, .slice none 0 0, .int .i64 0] 27) := ⟨_, rfl⟩
  have ka : Hid (Blk V w.heap.size 27 #[.bool m.s.neg, .slice aX0 m.s.ls.length ac0, .int .i64 m.s.ex, .bool m.w.neg, .slice aX1 m.w.ls.length ac1, .int .i64 m.w.ex, .bool m.c.neg, .slice aX2 m.c.ls.length ac2, .int .i64 m.c.ex, .bool m.a.neg, .slice aX3 m.a.ls.length ac3, .int .i64 m.a.ex]) := Lib.hid (by rw [hV]; exact ((Blk.new w _ _).alloc _).alloc _)
  have kb : Hid (Blk V (w.heap.size + 1) 27 #[.bool k.s.neg, .slice bX0 k.s.ls.length bc0, .int .i64 k.s.ex, .bool k.w.neg, .slice bX1 k.w.ls.length bc1, .int .i64 k.w.ex, .bool k.c.neg, .slice bX2 k.c.ls.length bc2, .int .i64 k.c.ex, .bool k.a.neg, .slice bX3 k.a.ls.length bc3, .int .i64 k.a.ex]) := Lib.hid (by
    have h := (Blk.new (w.alloc (.cells #[.bool m.s.neg, .slice aX0 m.s.ls.length ac0, .int .i64 m.s.ex, .bool m.w.neg, .slice aX1 m.w.ls.length ac1, .int .i64 m.w.ex, .bool m.c.neg, .slice aX2 m.c.ls.length ac2, .int .i64 m.c.ex, .bool m.a.neg, .slice aX3 m.a.ls.length ac3, .int .i64 m.a.ex] 27)) 27 #[.bool k.s.neg, .slice bX0 k.s.ls.length bc0, .int .i64 k.s.ex, .bool k.w.neg, .slice bX1 k.w.ls.length bc1, .int .i64 k.w.ex, .bool k.c.neg, .slice bX2 k.c.ls.length bc2, .int .i64 k.c.ex, .bool k.a.neg, .slice bX3 k.a.ls.length bc3, .int .i64 k.a.ex]).alloc (.cells #[.bool false, .slice none 0 0, .int .i64 0, .bool false, .slice none 0 0, .int .i64 0, .bool false, .slice none 0 0, .int .i64 0, .bool false, .slice none 0 0, .int .i64 0] 27)
    rw [World.size_alloc] at h
    rw [hV]; exact h)
  have kr : Hid (Blk V (w.heap.size + 1 + 1) 27 #[.bool false, .slice none 0 0, .int .i64 0, .bool false, .slice none 0 0, .int .i64 0, .bool false, .slice none 0 0, .int .i64 0, .bool false, .slice none 0 0, .int .i64 0]) := Lib.hid (by
    have h := Blk.new ((w.alloc (.cells #[.bool m.s.neg, .slice aX0 m.s.ls.length ac0, .int .i64 m.s.ex, .bool m.w.neg, .slice aX1 m.w.ls.length ac1, .int .i64 m.w.ex, .bool m.c.neg, .slice aX2 m.c.ls.length ac2, .int .i64 m.c.ex, .bool m.a.neg, .slice aX3 m.a.ls.length ac3, .int .i64 m.a.ex] 27)).alloc (.cells #[.bool k.s.neg, .slice bX0 k.s.ls.length bc0, .int .i64 k.s.ex, .bool k.w.neg, .slice bX1 k.w.ls.length bc1, .int .i64 k.w.ex, .bool k.c.neg, .slice bX2 k.c.ls.length bc2, .int .i64 k.c.ex, .bool k.a.neg, .slice bX3 k.a.ls.length bc3, .int .i64 k.a.ex] 27)) 27 #[.bool false, .slice none 0 0, .int .i64 0, .bool false, .slice none 0 0, .int .i64 0, .bool false, .slice none 0 0, .int .i64 0, .bool false, .slice none 0 0, .int .i64 0]
    rw [World.size_alloc, World.size_alloc] at h
    rw [hV]; exact h)
  have hB : Below w.heap.size w V := by rw [hV]; exact (((Below.refl _ w).alloc (Nat.le_refl _) _).alloc (by simp) _).alloc (by simp only [World.size_alloc]; omega) _
  have ra := Lib.hid (RdM.below r1 hB hB.size)
  have rb := Lib.hid (RdM.below r2 hB hB.size)
  have gB := Lib.hid hB
  obtain ⟨Qa, hQa⟩ : ∃ Q, mayM m = Q := ⟨_, rfl⟩
  obtain ⟨Qb, hQb⟩ : ∃ Q, mayM k = Q := ⟨_, rfl⟩
  have gQa := Lib.hid hQa
  have gQb := Lib.hid hQb
  clear hB r1 r2 hQa hQb
  go_enter Tryd.func34, Tryd.ntmps34
  go_upto_region 1 with (fail)
  rw [← hV]
  clear hV
  have z0 : V.cell? ⟨w.heap.size, 0, none⟩ = some (.bool m.s.neg) := by rw [ka.out.cell]; rfl
  have z1 : V.cell? ⟨w.heap.size, 1, none⟩ = some (.slice aX0 m.s.ls.length ac0) := by rw [ka.out.cell]; rfl
  have z2 : V.cell? ⟨w.heap.size, 2, none⟩ = some (.int .i64 m.s.ex) := by rw [ka.out.cell]; rfl
  have z3 : V.cell? ⟨w.heap.size, 3, none⟩ = some (.bool m.w.neg) := by rw [ka.out.cell]; rfl
  have z4 : V.cell? ⟨w.heap.size, 4, none⟩ = some (.slice aX1 m.w.ls.length ac1) := by rw [ka.out.cell]; rfl
  have z5 : V.cell? ⟨w.heap.size, 5, none⟩ = some (.int .i64 m.w.ex) := by rw [ka.out.cell]; rfl
  have z6 : V.cell? ⟨w.heap.size, 6, none⟩ = some (.bool m.c.neg) := by rw [ka.out.cell]; rfl
  have z7 : V.cell? ⟨w.heap.size, 7, none⟩ = some (.slice aX2 m.c.ls.length ac2) := by rw [ka.out.cell]; rfl
  have z8 : V.cell? ⟨w.heap.size, 8, none⟩ = some (.int .i64 m.c.ex) := by rw [ka.out.cell]; rfl
  have z9 : V.cell? ⟨w.heap.size, 9, none⟩ = some (.bool m.a.neg) := by rw [ka.out.cell]; rfl
  have z10 : V.cell? ⟨w.heap.size, 10, none⟩ = some (.slice aX3 m.a.ls.length ac3) := by rw [ka.out.cell]; rfl
  have z11 : V.cell? ⟨w.heap.size, 11, none⟩ = some (.int .i64 m.a.ex) := by rw [ka.out.cell]; rfl
  go_wp2_with fail
  refine (rmmay_any m.s.neg aX0 m.s.ls.length ac0 m.s.ex m.w.neg aX1 m.w.ls.length ac1 m.w.ex m.c.neg aX2 m.c.ls.length ac2 m.c.ex m.a.neg aX3 m.a.ls.length ac3 m.a.ex m Qa gQa.out V ra.out).mono ?_
  rintro en x1 ⟨rfl, hb⟩
  have sx1 : V.heap.size ≤ x1.heap.size := hb.size
  replace ka := Lib.hid (ka.out.below hb ka.out.lt)
  replace kb := Lib.hid (kb.out.below hb kb.out.lt)
  replace kr := Lib.hid (kr.out.below hb kr.out.lt)
  replace ra := Lib.hid (RdM.below ra.out hb hb.size)
  replace rb := Lib.hid (RdM.below rb.out hb hb.size)
  replace gB := Lib.hid (gB.out.trans (hb.mono gB.out.size))
  clear hb
  clear z0 z1 z2 z3 z4 z5 z6 z7 z8 z9 z10 z11
  cases Qa with
  | false =>
    have e8 : Hid ((mayM m && mayM k) = false) := Lib.hid (by rw [gQa.out]; rfl)
    have kz : Blk ((((((((((((x1.setCell ⟨w.heap.size + 1 + 1, 0, none⟩ (.bool false)).setCell ⟨w.heap.size + 1 + 1, 1, none⟩ (.slice none 0 0)).setCell ⟨w.heap.size + 1 + 1, 2, none⟩ (.int .i64 0)).setCell ⟨w.heap.size + 1 + 1, 3, none⟩ (.bool false)).setCell ⟨w.heap.size + 1 + 1, 4, none⟩ (.slice none 0 0)).setCell ⟨w.heap.size + 1 + 1, 5, none⟩ (.int .i64 0)).setCell ⟨w.heap.size + 1 + 1, 6, none⟩ (.bool false)).setCell ⟨w.heap.size + 1 + 1, 7, none⟩ (.slice none 0 0)).setCell ⟨w.heap.size + 1 + 1, 8, none⟩ (.int .i64 0)).setCell ⟨w.heap.size + 1 + 1, 9, none⟩ (.bool false)).setCell ⟨w.heap.size + 1 + 1, 10, none⟩ (.slice none 0 0)).setCell ⟨w.heap.size + 1 + 1, 11, none⟩ (.int .i64 0)) (w.heap.size + 1 + 1) 27 #[.bool false, .slice none 0 0, .int .i64 0, .bool false, .slice none 0 0, .int .i64 0, .bool false, .slice none 0 0, .int .i64 0, .bool false, .slice none 0 0, .int .i64 0] := c12_blk kr.out (.bool false) (.slice none 0 0) (.int .i64 0) (.bool false) (.slice none 0 0) (.int .i64 0) (.bool false) (.slice none 0 0) (.int .i64 0) (.bool false) (.slice none 0 0) (.int .i64 0)
    have hBz : Below w.heap.size w ((((((((((((x1.setCell ⟨w.heap.size + 1 + 1, 0, none⟩ (.bool false)).setCell ⟨w.heap.size + 1 + 1, 1, none⟩ (.slice none 0 0)).setCell ⟨w.heap.size + 1 + 1, 2, none⟩ (.int .i64 0)).setCell ⟨w.heap.size + 1 + 1, 3, none⟩ (.bool false)).setCell ⟨w.heap.size + 1 + 1, 4, none⟩ (.slice none 0 0)).setCell ⟨w.heap.size + 1 + 1, 5, none⟩ (.int .i64 0)).setCell ⟨w.heap.size + 1 + 1, 6, none⟩ (.bool false)).setCell ⟨w.heap.size + 1 + 1, 7, none⟩ (.slice none 0 0)).setCell ⟨w.heap.size + 1 + 1, 8, none⟩ (.int .i64 0)).setCell ⟨w.heap.size + 1 + 1, 9, none⟩ (.bool false)).setCell ⟨w.heap.size + 1 + 1, 10, none⟩ (.slice none 0 0)).setCell ⟨w.heap.size + 1 + 1, 11, none⟩ (.int .i64 0)) := c12_below gB.out (by omega) (.bool false) (.slice none 0 0) (.int .i64 0) (.bool false) (.slice none 0 0) (.int .i64 0) (.bool false) (.slice none 0 0) (.int .i64 0) (.bool false) (.slice none 0 0) (.int .i64 0)
    have r0 : x1.cell? ⟨w.heap.size + 1 + 1, 0, none⟩ = some (.bool false) := by rw [kr.out.cell]; rfl
    have r1 : x1.cell? ⟨w.heap.size + 1 + 1, 1, none⟩ = some (.slice none 0 0) := by rw [kr.out.cell]; rfl
    have r2 : x1.cell? ⟨w.heap.size + 1 + 1, 2, none⟩ = some (.int .i64 0) := by rw [kr.out.cell]; rfl
    have r3 : x1.cell? ⟨w.heap.size + 1 + 1, 3, none⟩ = some (.bool false) := by rw [kr.out.cell]; rfl
    have r4 : x1.cell? ⟨w.heap.size + 1 + 1, 4, none⟩ = some (.slice none 0 0) := by rw [kr.out.cell]; rfl
    have r5 : x1.cell? ⟨w.heap.size + 1 + 1, 5, none⟩ = some (.int .i64 0) := by rw [kr.out.cell]; rfl
    have r6 : x1.cell? ⟨w.heap.size + 1 + 1, 6, none⟩ = some (.bool false) := by rw [kr.out.cell]; rfl
    have r7 : x1.cell? ⟨w.heap.size + 1 + 1, 7, none⟩ = some (.slice none 0 0) := by rw [kr.out.cell]; rfl
    have r8 : x1.cell? ⟨w.heap.size + 1 + 1, 8, none⟩ = some (.int .i64 0) := by rw [kr.out.cell]; rfl
    have r9 : x1.cell? ⟨w.heap.size + 1 + 1, 9, none⟩ = some (.bool false) := by rw [kr.out.cell]; rfl
    have r10 : x1.cell? ⟨w.heap.size + 1 + 1, 10, none⟩ = some (.slice none 0 0) := by rw [kr.out.cell]; rfl
    have r11 : x1.cell? ⟨w.heap.size + 1 + 1, 11, none⟩ = some (.int .i64 0) := by rw [kr.out.cell]; rfl
    have f0 := kr.out.frozen 0
    have f1 := kr.out.frozen 1
    have f2 := kr.out.frozen 2
    have f3 := kr.out.frozen 3
    have f4 := kr.out.frozen 4
    have f5 := kr.out.frozen 5
    have f6 := kr.out.frozen 6
    have f7 := kr.out.frozen 7
    have f8 := kr.out.frozen 8
    have f9 := kr.out.frozen 9
    have f10 := kr.out.frozen 10
    have f11 := kr.out.frozen 11
    go_wp2
    refine bodyPost_ret (ret_mass rfl _ _ (w.heap.size + 1 + 1) #[.bool false, .slice none 0 0, .int .i64 0, .bool false, .slice none 0 0, .int .i64 0, .bool false, .slice none 0 0, .int .i64 0, .bool false, .slice none 0 0, .int .i64 0] (.int .i64 8) rfl kz info_mass rfl) rfl ?_
    exact ⟨⟨zM, none, 0, none, 0, none, 0, none, 0⟩, by unfold maM; rw [if_pos e8.out], by unfold maE; rw [if_pos e8.out]; rfl, rdo_z _, hBz⟩
  | true =>
  have z0 : x1.cell? ⟨w.heap.size + 1, 0, none⟩ = some (.bool k.s.neg) := by rw [kb.out.cell]; rfl
  have z1 : x1.cell? ⟨w.heap.size + 1, 1, none⟩ = some (.slice bX0 k.s.ls.length bc0) := by rw [kb.out.cell]; rfl
  have z2 : x1.cell? ⟨w.heap.size + 1, 2, none⟩ = some (.int .i64 k.s.ex) := by rw [kb.out.cell]; rfl
  have z3 : x1.cell? ⟨w.heap.size + 1, 3, none⟩ = some (.bool k.w.neg) := by rw [kb.out.cell]; rfl
  have z4 : x1.cell? ⟨w.heap.size + 1, 4, none⟩ = some (.slice bX1 k.w.ls.length bc1) := by rw [kb.out.cell]; rfl
  have z5 : x1.cell? ⟨w.heap.size + 1, 5, none⟩ = some (.int .i64 k.w.ex) := by rw [kb.out.cell]; rfl
  have z6 : x1.cell? ⟨w.heap.size + 1, 6, none⟩ = some (.bool k.c.neg) := by rw [kb.out.cell]; rfl
  have z7 : x1.cell? ⟨w.heap.size + 1, 7, none⟩ = some (.slice bX2 k.c.ls.length bc2) := by rw [kb.out.cell]; rfl
  have z8 : x1.cell? ⟨w.heap.size + 1, 8, none⟩ = some (.int .i64 k.c.ex) := by rw [kb.out.cell]; rfl
  have z9 : x1.cell? ⟨w.heap.size + 1, 9, none⟩ = some (.bool k.a.neg) := by rw [kb.out.cell]; rfl
  have z10 : x1.cell? ⟨w.heap.size + 1, 10, none⟩ = some (.slice bX3 k.a.ls.length bc3) := by rw [kb.out.cell]; rfl
  have z11 : x1.cell? ⟨w.heap.size + 1, 11, none⟩ = some (.int .i64 k.a.ex) := by rw [kb.out.cell]; rfl
  go_wp2_with fail
  refine (rmmay_any k.s.neg bX0 k.s.ls.length bc0 k.s.ex k.w.neg bX1 k.w.ls.length bc1 k.w.ex k.c.neg bX2 k.c.ls.length bc2 k.c.ex k.a.neg bX3 k.a.ls.length bc3 k.a.ex k Qb gQb.out x1 rb.out).mono ?_
  rintro en x2 ⟨rfl, hb⟩
  have sx2 : x1.heap.size ≤ x2.heap.size := hb.size
  replace ka := Lib.hid (ka.out.below hb ka.out.lt)
  replace kb := Lib.hid (kb.out.below hb kb.out.lt)
  replace kr := Lib.hid (kr.out.below hb kr.out.lt)
  replace ra := Lib.hid (RdM.below ra.out hb hb.size)
  replace rb := Lib.hid (RdM.below rb.out hb hb.size)
  replace gB := Lib.hid (gB.out.trans (hb.mono gB.out.size))
  clear hb
  clear z0 z1 z2 z3 z4 z5 z6 z7 z8 z9 z10 z11
  cases Qb with
  | false =>
    have e8 : Hid ((mayM m && mayM k) = false) := Lib.hid (by rw [gQa.out, gQb.out]; rfl)
    have kz : Blk ((((((((((((x2.setCell ⟨w.heap.size + 1 + 1, 0, none⟩ (.bool false)).setCell ⟨w.heap.size + 1 + 1, 1, none⟩ (.slice none 0 0)).setCell ⟨w.heap.size + 1 + 1, 2, none⟩ (.int .i64 0)).setCell ⟨w.heap.size + 1 + 1, 3, none⟩ (.bool false)).setCell ⟨w.heap.size + 1 + 1, 4, none⟩ (.slice none 0 0)).setCell ⟨w.heap.size + 1 + 1, 5, none⟩ (.int .i64 0)).setCell ⟨w.heap.size + 1 + 1, 6, none⟩ (.bool false)).setCell ⟨w.heap.size + 1 + 1, 7, none⟩ (.slice none 0 0)).setCell ⟨w.heap.size + 1 + 1, 8, none⟩ (.int .i64 0)).setCell ⟨w.heap.size + 1 + 1, 9, none⟩ (.bool false)).setCell ⟨w.heap.size + 1 + 1, 10, none⟩ (.slice none 0 0)).setCell ⟨w.heap.size + 1 + 1, 11, none⟩ (.int .i64 0)) (w.heap.size + 1 + 1) 27 #[.bool false, .slice none 0 0, .int .i64 0, .bool false, .slice none 0 0, .int .i64 0, .bool false, .slice none 0 0, .int .i64 0, .bool false, .slice none 0 0, .int .i64 0] := c12_blk kr.out (.bool false) (.slice none 0 0) (.int .i64 0) (.bool false) (.slice none 0 0) (.int .i64 0) (.bool false) (.slice none 0 0) (.int .i64 0) (.bool false) (.slice none 0 0) (.int .i64 0)
    have hBz : Below w.heap.size w ((((((((((((x2.setCell ⟨w.heap.size + 1 + 1, 0, none⟩ (.bool false)).setCell ⟨w.heap.size + 1 + 1, 1, none⟩ (.slice none 0 0)).setCell ⟨w.heap.size + 1 + 1, 2, none⟩ (.int .i64 0)).setCell ⟨w.heap.size + 1 + 1, 3, none⟩ (.bool false)).setCell ⟨w.heap.size + 1 + 1, 4, none⟩ (.slice none 0 0)).setCell ⟨w.heap.size + 1 + 1, 5, none⟩ (.int .i64 0)).setCell ⟨w.heap.size + 1 + 1, 6, none⟩ (.bool false)).setCell ⟨w.heap.size + 1 + 1, 7, none⟩ (.slice none 0 0)).setCell ⟨w.heap.size + 1 + 1, 8, none⟩ (.int .i64 0)).setCell ⟨w.heap.size + 1 + 1, 9, none⟩ (.bool false)).setCell ⟨w.heap.size + 1 + 1, 10, none⟩ (.slice none 0 0)).setCell ⟨w.heap.size + 1 + 1, 11, none⟩ (.int .i64 0)) := c12_below gB.out (by omega) (.bool false) (.slice none 0 0) (.int .i64 0) (.bool false) (.slice none 0 0) (.int .i64 0) (.bool false) (.slice none 0 0) (.int .i64 0) (.bool false) (.slice none 0 0) (.int .i64 0)
    have r0 : x2.cell? ⟨w.heap.size + 1 + 1, 0, none⟩ = some (.bool false) := by rw [kr.out.cell]; rfl
    have r1 : x2.cell? ⟨w.heap.size + 1 + 1, 1, none⟩ = some (.slice none 0 0) := by rw [kr.out.cell]; rfl
    have r2 : x2.cell? ⟨w.heap.size + 1 + 1, 2, none⟩ = some (.int .i64 0) := by rw [kr.out.cell]; rfl
    have r3 : x2.cell? ⟨w.heap.size + 1 + 1, 3, none⟩ = some (.bool false) := by rw [kr.out.cell]; rfl
    have r4 : x2.cell? ⟨w.heap.size + 1 + 1, 4, none⟩ = some (.slice none 0 0) := by rw [kr.out.cell]; rfl
    have r5 : x2.cell? ⟨w.heap.size + 1 + 1, 5, none⟩ = some (.int .i64 0) := by rw [kr.out.cell]; rfl
    have r6 : x2.cell? ⟨w.heap.size + 1 + 1, 6, none⟩ = some (.bool false) := by rw [kr.out.cell]; rfl
    have r7 : x2.cell? ⟨w.heap.size + 1 + 1, 7, none⟩ = some (.slice none 0 0) := by rw [kr.out.cell]; rfl
    have r8 : x2.cell? ⟨w.heap.size + 1 + 1, 8, none⟩ = some (.int .i64 0) := by rw [kr.out.cell]; rfl
    have r9 : x2.cell? ⟨w.heap.size + 1 + 1, 9, none⟩ = some (.bool false) := by rw [kr.out.cell]; rfl
    have r10 : x2.cell? ⟨w.heap.size + 1 + 1, 10, none⟩ = some (.slice none 0 0) := by rw [kr.out.cell]; rfl
    have r11 : x2.cell? ⟨w.heap.size + 1 + 1, 11, none⟩ = some (.int .i64 0) := by rw [kr.out.cell]; rfl
    have f0 := kr.out.frozen 0
    have f1 := kr.out.frozen 1
    have f2 := kr.out.frozen 2
    have f3 := kr.out.frozen 3
    have f4 := kr.out.frozen 4
    have f5 := kr.out.frozen 5
    have f6 := kr.out.frozen 6
    have f7 := kr.out.frozen 7
    have f8 := kr.out.frozen 8
    have f9 := kr.out.frozen 9
    have f10 := kr.out.frozen 10
    have f11 := kr.out.frozen 11
    go_wp2
    refine bodyPost_ret (ret_mass rfl _ _ (w.heap.size + 1 + 1) #[.bool false, .slice none 0 0, .int .i64 0, .bool false, .slice none 0 0, .int .i64 0, .bool false, .slice none 0 0, .int .i64 0, .bool false, .slice none 0 0, .int .i64 0] (.int .i64 8) rfl kz info_mass rfl) rfl ?_
    exact ⟨⟨zM, none, 0, none, 0, none, 0, none, 0⟩, by unfold maM; rw [if_pos e8.out], by unfold maE; rw [if_pos e8.out]; rfl, rdo_z _, hBz⟩
  | true =>
  have e8 : Hid (¬ (mayM m && mayM k) = false) := Lib.hid (by rw [gQa.out, gQb.out]; decide)
  have gma := Lib.hid (mayM_each gQa.out)
  have gmb := Lib.hid (mayM_each gQb.out)
  obtain ⟨E0, hE⟩ : ∃ E, raE m.s k.s = E := ⟨_, rfl⟩
  have gE0 := Lib.hid hE
  clear hE
  have z0 : x2.cell? ⟨w.heap.size, 0, none⟩ = some (.bool m.s.neg) := by rw [ka.out.cell]; rfl
  have z1 : x2.cell? ⟨w.heap.size, 1, none⟩ = some (.slice aX0 m.s.ls.length ac0) := by rw [ka.out.cell]; rfl
  have z2 : x2.cell? ⟨w.heap.size, 2, none⟩ = some (.int .i64 m.s.ex) := by rw [ka.out.cell]; rfl
  have z3 : x2.cell? ⟨w.heap.size, 3, none⟩ = some (.bool m.w.neg) := by rw [ka.out.cell]; rfl
  have z4 : x2.cell? ⟨w.heap.size, 4, none⟩ = some (.slice aX1 m.w.ls.length ac1) := by rw [ka.out.cell]; rfl
  have z5 : x2.cell? ⟨w.heap.size, 5, none⟩ = some (.int .i64 m.w.ex) := by rw [ka.out.cell]; rfl
  have z6 : x2.cell? ⟨w.heap.size, 6, none⟩ = some (.bool m.c.neg) := by rw [ka.out.cell]; rfl
  have z7 : x2.cell? ⟨w.heap.size, 7, none⟩ = some (.slice aX2 m.c.ls.length ac2) := by rw [ka.out.cell]; rfl
  have z8 : x2.cell? ⟨w.heap.size, 8, none⟩ = some (.int .i64 m.c.ex) := by rw [ka.out.cell]; rfl
  have z9 : x2.cell? ⟨w.heap.size, 9, none⟩ = some (.bool m.a.neg) := by rw [ka.out.cell]; rfl
  have z10 : x2.cell? ⟨w.heap.size, 10, none⟩ = some (.slice aX3 m.a.ls.length ac3) := by rw [ka.out.cell]; rfl
  have z11 : x2.cell? ⟨w.heap.size, 11, none⟩ = some (.int .i64 m.a.ex) := by rw [ka.out.cell]; rfl
  have a0 : x2.cell? ⟨w.heap.size + 1, 0, none⟩ = some (.bool k.s.neg) := by rw [kb.out.cell]; rfl
  have a1 : x2.cell? ⟨w.heap.size + 1, 1, none⟩ = some (.slice bX0 k.s.ls.length bc0) := by rw [kb.out.cell]; rfl
  have a2 : x2.cell? ⟨w.heap.size + 1, 2, none⟩ = some (.int .i64 k.s.ex) := by rw [kb.out.cell]; rfl
  have a3 : x2.cell? ⟨w.heap.size + 1, 3, none⟩ = some (.bool k.w.neg) := by rw [kb.out.cell]; rfl
  have a4 : x2.cell? ⟨w.heap.size + 1, 4, none⟩ = some (.slice bX1 k.w.ls.length bc1) := by rw [kb.out.cell]; rfl
  have a5 : x2.cell? ⟨w.heap.size + 1, 5, none⟩ = some (.int .i64 k.w.ex) := by rw [kb.out.cell]; rfl
  have a6 : x2.cell? ⟨w.heap.size + 1, 6, none⟩ = some (.bool k.c.neg) := by rw [kb.out.cell]; rfl
  have a7 : x2.cell? ⟨w.heap.size + 1, 7, none⟩ = some (.slice bX2 k.c.ls.length bc2) := by rw [kb.out.cell]; rfl
  have a8 : x2.cell? ⟨w.heap.size + 1, 8, none⟩ = some (.int .i64 k.c.ex) := by rw [kb.out.cell]; rfl
  have a9 : x2.cell? ⟨w.heap.size + 1, 9, none⟩ = some (.bool k.a.neg) := by rw [kb.out.cell]; rfl
  have a10 : x2.cell? ⟨w.heap.size + 1, 10, none⟩ = some (.slice bX3 k.a.ls.length bc3) := by rw [kb.out.cell]; rfl
  have a11 : x2.cell? ⟨w.heap.size + 1, 11, none⟩ = some (.int .i64 k.a.ex) := by rw [kb.out.cell]; rfl
  go_wp2_with fail
  refine (rdadd_any m.s k.s lm.1 lk.1 aX0 bX0 ac0 bc0 x2 ra.out.1 rb.out.1).mono ?_
  rintro en x3 hP
  obtain ⟨d0, X0, c0, hd, he, hr, hb⟩ := hP
  rw [gE0.out] at he
  subst he
  have gd0 := Lib.hid hd
  have u0 := Lib.hid hr
  clear hd hr
  have sx3 : x2.heap.size ≤ x3.heap.size := hb.size
  replace ka := Lib.hid (ka.out.below hb ka.out.lt)
  replace kb := Lib.hid (kb.out.below hb kb.out.lt)
  replace kr := Lib.hid (kr.out.below hb kr.out.lt)
  replace ra := Lib.hid (RdM.below ra.out hb hb.size)
  replace rb := Lib.hid (RdM.below rb.out hb hb.size)
  replace gB := Lib.hid (gB.out.trans (hb.mono gB.out.size))
  clear hb
  clear z0 z1 z2 z3 z4 z5 z6 z7 z8 z9 z10 z11 a0 a1 a2 a3 a4 a5 a6 a7 a8 a9 a10 a11
  obtain ⟨td0, ht⟩ : ∃ t, t = x3.heap.size := ⟨_, rfl⟩
  obtain ⟨y3d0, hy3d0⟩ : ∃ W, W = x3.alloc (.cells #[.bool d0.neg, .slice X0 d0.ls.length c0, .int .i64 d0.ex] 25) := ⟨_, rfl⟩
  have hb : Below x3.heap.size x3 y3d0 := by rw [hy3d0]; exact (Below.refl _ _).alloc (Nat.le_refl _) _
  have kd0 : Blk y3d0 x3.heap.size 25 #[.bool d0.neg, .slice X0 d0.ls.length c0, .int .i64 d0.ex] := by rw [hy3d0]; exact Blk.new _ _ _
  rw [← ht] at kd0
  replace kd0 := Lib.hid kd0
  replace u0 := Lib.hid (RdD.below u0.out hb hb.size)
  have sy3d0 : x3.heap.size ≤ y3d0.heap.size := hb.size
  replace ka := Lib.hid (ka.out.below hb ka.out.lt)
  replace kb := Lib.hid (kb.out.below hb kb.out.lt)
  replace kr := Lib.hid (kr.out.below hb kr.out.lt)
  replace ra := Lib.hid (RdM.below ra.out hb hb.size)
  replace rb := Lib.hid (RdM.below rb.out hb hb.size)
  replace gB := Lib.hid (gB.out.trans (hb.mono gB.out.size))
  clear hb
  go_upto_region 4 with fail
  rw [← hy3d0]
  clear hy3d0
  rw [← ht]
  clear ht
  obtain ⟨E1, hE⟩ : ∃ E, raE m.w k.w = E := ⟨_, rfl⟩
  have gE1 := Lib.hid hE
  clear hE
  have z0 : y3d0.cell? ⟨w.heap.size, 0, none⟩ = some (.bool m.s.neg) := by rw [ka.out.cell]; rfl
  have z1 : y3d0.cell? ⟨w.heap.size, 1, none⟩ = some (.slice aX0 m.s.ls.length ac0) := by rw [ka.out.cell]; rfl
  have z2 : y3d0.cell? ⟨w.heap.size, 2, none⟩ = some (.int .i64 m.s.ex) := by rw [ka.out.cell]; rfl
  have z3 : y3d0.cell? ⟨w.heap.size, 3, none⟩ = some (.bool m.w.neg) := by rw [ka.out.cell]; rfl
  have z4 : y3d0.cell? ⟨w.heap.size, 4, none⟩ = some (.slice aX1 m.w.ls.length ac1) := by rw [ka.out.cell]; rfl
  have z5 : y3d0.cell? ⟨w.heap.size, 5, none⟩ = some (.int .i64 m.w.ex) := by rw [ka.out.cell]; rfl
  have z6 : y3d0.cell? ⟨w.heap.size, 6, none⟩ = some (.bool m.c.neg) := by rw [ka.out.cell]; rfl
  have z7 : y3d0.cell? ⟨w.heap.size, 7, none⟩ = some (.slice aX2 m.c.ls.length ac2) := by rw [ka.out.cell]; rfl
  have z8 : y3d0.cell? ⟨w.heap.size, 8, none⟩ = some (.int .i64 m.c.ex) := by rw [ka.out.cell]; rfl
  have z9 : y3d0.cell? ⟨w.heap.size, 9, none⟩ = some (.bool m.a.neg) := by rw [ka.out.cell]; rfl
  have z10 : y3d0.cell? ⟨w.heap.size, 10, none⟩ = some (.slice aX3 m.a.ls.length ac3) := by rw [ka.out.cell]; rfl
  have z11 : y3d0.cell? ⟨w.heap.size, 11, none⟩ = some (.int .i64 m.a.ex) := by rw [ka.out.cell]; rfl
  have a0 : y3d0.cell? ⟨w.heap.size + 1, 0, none⟩ = some (.bool k.s.neg) := by rw [kb.out.cell]; rfl
  have a1 : y3d0.cell? ⟨w.heap.size + 1, 1, none⟩ = some (.slice bX0 k.s.ls.length bc0) := by rw [kb.out.cell]; rfl
  have a2 : y3d0.cell? ⟨w.heap.size + 1, 2, none⟩ = some (.int .i64 k.s.ex) := by rw [kb.out.cell]; rfl
  have a3 : y3d0.cell? ⟨w.heap.size + 1, 3, none⟩ = some (.bool k.w.neg) := by rw [kb.out.cell]; rfl
  have a4 : y3d0.cell? ⟨w.heap.size + 1, 4, none⟩ = some (.slice bX1 k.w.ls.length bc1) := by rw [kb.out.cell]; rfl
  have a5 : y3d0.cell? ⟨w.heap.size + 1, 5, none⟩ = some (.int .i64 k.w.ex) := by rw [kb.out.cell]; rfl
  have a6 : y3d0.cell? ⟨w.heap.size + 1, 6, none⟩ = some (.bool k.c.neg) := by rw [kb.out.cell]; rfl
  have a7 : y3d0.cell? ⟨w.heap.size + 1, 7, none⟩ = some (.slice bX2 k.c.ls.length bc2) := by rw [kb.out.cell]; rfl
  have a8 : y3d0.cell? ⟨w.heap.size + 1, 8, none⟩ = some (.int .i64 k.c.ex) := by rw [kb.out.cell]; rfl
  have a9 : y3d0.cell? ⟨w.heap.size + 1, 9, none⟩ = some (.bool k.a.neg) := by rw [kb.out.cell]; rfl
  have a10 : y3d0.cell? ⟨w.heap.size + 1, 10, none⟩ = some (.slice bX3 k.a.ls.length bc3) := by rw [kb.out.cell]; rfl
  have a11 : y3d0.cell? ⟨w.heap.size + 1, 11, none⟩ = some (.int .i64 k.a.ex) := by rw [kb.out.cell]; rfl
  go_wp2_with fail
  refine (rdadd_any m.w k.w lm.2.1 lk.2.1 aX1 bX1 ac1 bc1 y3d0 ra.out.2.1 rb.out.2.1).mono ?_
  rintro en x4 hP
  obtain ⟨d1, X1, c1, hd, he, hr, hb⟩ := hP
  rw [gE1.out] at he
  subst he
  have gd1 := Lib.hid hd
  have u1 := Lib.hid hr
  clear hd hr
  replace u0 := Lib.hid (RdD.below u0.out hb hb.size)
  have sx4 : y3d0.heap.size ≤ x4.heap.size := hb.size
  replace ka := Lib.hid (ka.out.below hb ka.out.lt)
  replace kb := Lib.hid (kb.out.below hb kb.out.lt)
  replace kr := Lib.hid (kr.out.below hb kr.out.lt)
  replace ra := Lib.hid (RdM.below ra.out hb hb.size)
  replace rb := Lib.hid (RdM.below rb.out hb hb.size)
  replace kd0 := Lib.hid (kd0.out.below hb kd0.out.lt)
  replace gB := Lib.hid (gB.out.trans (hb.mono gB.out.size))
  clear hb
  clear z0 z1 z2 z3 z4 z5 z6 z7 z8 z9 z10 z11 a0 a1 a2 a3 a4 a5 a6 a7 a8 a9 a10 a11
  obtain ⟨td1, ht⟩ : ∃ t, t = x4.heap.size := ⟨_, rfl⟩
  obtain ⟨y4d1, hy4d1⟩ : ∃ W, W = x4.alloc (.cells #[.bool d1.neg, .slice X1 d1.ls.length c1, .int .i64 d1.ex] 25) := ⟨_, rfl⟩
  have hb : Below x4.heap.size x4 y4d1 := by rw [hy4d1]; exact (Below.refl _ _).alloc (Nat.le_refl _) _
  have kd1 : Blk y4d1 x4.heap.size 25 #[.bool d1.neg, .slice X1 d1.ls.length c1, .int .i64 d1.ex] := by rw [hy4d1]; exact Blk.new _ _ _
  rw [← ht] at kd1
  replace kd1 := Lib.hid kd1
  replace u0 := Lib.hid (RdD.below u0.out hb hb.size)
  replace u1 := Lib.hid (RdD.below u1.out hb hb.size)
  have sy4d1 : x4.heap.size ≤ y4d1.heap.size := hb.size
  replace ka := Lib.hid (ka.out.below hb ka.out.lt)
  replace kb := Lib.hid (kb.out.below hb kb.out.lt)
  replace kr := Lib.hid (kr.out.below hb kr.out.lt)
  replace ra := Lib.hid (RdM.below ra.out hb hb.size)
  replace rb := Lib.hid (RdM.below rb.out hb hb.size)
  replace kd0 := Lib.hid (kd0.out.below hb kd0.out.lt)
  replace gB := Lib.hid (gB.out.trans (hb.mono gB.out.size))
  clear hb
  go_upto_region 5 with fail
  rw [← hy4d1]
  clear hy4d1
  rw [← ht]
  clear ht
  obtain ⟨E2, hE⟩ : ∃ E, raE m.c k.c = E := ⟨_, rfl⟩
  have gE2 := Lib.hid hE
  clear hE
  have z0 : y4d1.cell? ⟨w.heap.size, 0, none⟩ = some (.bool m.s.neg) := by rw [ka.out.cell]; rfl
  have z1 : y4d1.cell? ⟨w.heap.size, 1, none⟩ = some (.slice aX0 m.s.ls.length ac0) := by rw [ka.out.cell]; rfl
  have z2 : y4d1.cell? ⟨w.heap.size, 2, none⟩ = some (.int .i64 m.s.ex) := by rw [ka.out.cell]; rfl
  have z3 : y4d1.cell? ⟨w.heap.size, 3, none⟩ = some (.bool m.w.neg) := by rw [ka.out.cell]; rfl
  have z4 : y4d1.cell? ⟨w.heap.size, 4, none⟩ = some (.slice aX1 m.w.ls.length ac1) := by rw [ka.out.cell]; rfl
  have z5 : y4d1.cell? ⟨w.heap.size, 5, none⟩ = some (.int .i64 m.w.ex) := by rw [ka.out.cell]; rfl
  have z6 : y4d1.cell? ⟨w.heap.size, 6, none⟩ = some (.bool m.c.neg) := by rw [ka.out.cell]; rfl
  have z7 : y4d1.cell? ⟨w.heap.size, 7, none⟩ = some (.slice aX2 m.c.ls.length ac2) := by rw [ka.out.cell]; rfl
  have z8 : y4d1.cell? ⟨w.heap.size, 8, none⟩ = some (.int .i64 m.c.ex) := by rw [ka.out.cell]; rfl
  have z9 : y4d1.cell? ⟨w.heap.size, 9, none⟩ = some (.bool m.a.neg) := by rw [ka.out.cell]; rfl
  have z10 : y4d1.cell? ⟨w.heap.size, 10, none⟩ = some (.slice aX3 m.a.ls.length ac3) := by rw [ka.out.cell]; rfl
  have z11 : y4d1.cell? ⟨w.heap.size, 11, none⟩ = some (.int .i64 m.a.ex) := by rw [ka.out.cell]; rfl
  have a0 : y4d1.cell? ⟨w.heap.size + 1, 0, none⟩ = some (.bool k.s.neg) := by rw [kb.out.cell]; rfl
  have a1 : y4d1.cell? ⟨w.heap.size + 1, 1, none⟩ = some (.slice bX0 k.s.ls.length bc0) := by rw [kb.out.cell]; rfl
  have a2 : y4d1.cell? ⟨w.heap.size + 1, 2, none⟩ = some (.int .i64 k.s.ex) := by rw [kb.out.cell]; rfl
  have a3 : y4d1.cell? ⟨w.heap.size + 1, 3, none⟩ = some (.bool k.w.neg) := by rw [kb.out.cell]; rfl
  have a4 : y4d1.cell? ⟨w.heap.size + 1, 4, none⟩ = some (.slice bX1 k.w.ls.length bc1) := by rw [kb.out.cell]; rfl
  have a5 : y4d1.cell? ⟨w.heap.size + 1, 5, none⟩ = some (.int .i64 k.w.ex) := by rw [kb.out.cell]; rfl
  have a6 : y4d1.cell? ⟨w.heap.size + 1, 6, none⟩ = some (.bool k.c.neg) := by rw [kb.out.cell]; rfl
  have a7 : y4d1.cell? ⟨w.heap.size + 1, 7, none⟩ = some (.slice bX2 k.c.ls.length bc2) := by rw [kb.out.cell]; rfl
  have a8 : y4d1.cell? ⟨w.heap.size + 1, 8, none⟩ = some (.int .i64 k.c.ex) := by rw [kb.out.cell]; rfl
  have a9 : y4d1.cell? ⟨w.heap.size + 1, 9, none⟩ = some (.bool k.a.neg) := by rw [kb.out.cell]; rfl
  have a10 : y4d1.cell? ⟨w.heap.size + 1, 10, none⟩ = some (.slice bX3 k.a.ls.length bc3) := by rw [kb.out.cell]; rfl
  have a11 : y4d1.cell? ⟨w.heap.size + 1, 11, none⟩ = some (.int .i64 k.a.ex) := by rw [kb.out.cell]; rfl
  go_wp2_with fail
  refine (rdadd_any m.c k.c lm.2.2.1 lk.2.2.1 aX2 bX2 ac2 bc2 y4d1 ra.out.2.2.1 rb.out.2.2.1).mono ?_
  rintro en x5 hP
  obtain ⟨d2, X2, c2, hd, he, hr, hb⟩ := hP
  rw [gE2.out] at he
  subst he
  have gd2 := Lib.hid hd
  have u2 := Lib.hid hr
  clear hd hr
  replace u0 := Lib.hid (RdD.below u0.out hb hb.size)
  replace u1 := Lib.hid (RdD.below u1.out hb hb.size)
  have sx5 : y4d1.heap.size ≤ x5.heap.size := hb.size
  replace ka := Lib.hid (ka.out.below hb ka.out.lt)
  replace kb := Lib.hid (kb.out.below hb kb.out.lt)
  replace kr := Lib.hid (kr.out.below hb kr.out.lt)
  replace ra := Lib.hid (RdM.below ra.out hb hb.size)
  replace rb := Lib.hid (RdM.below rb.out hb hb.size)
  replace kd0 := Lib.hid (kd0.out.below hb kd0.out.lt)
  replace kd1 := Lib.hid (kd1.out.below hb kd1.out.lt)
  replace gB := Lib.hid (gB.out.trans (hb.mono gB.out.size))
  clear hb
  clear z0 z1 z2 z3 z4 z5 z6 z7 z8 z9 z10 z11 a0 a1 a2 a3 a4 a5 a6 a7 a8 a9 a10 a11
  obtain ⟨td2, ht⟩ : ∃ t, t = x5.heap.size := ⟨_, rfl⟩
  obtain ⟨y5d2, hy5d2⟩ : ∃ W, W = x5.alloc (.cells #[.bool d2.neg, .slice X2 d2.ls.length c2, .int .i64 d2.ex] 25) := ⟨_, rfl⟩
  have hb : Below x5.heap.size x5 y5d2 := by rw [hy5d2]; exact (Below.refl _ _).alloc (Nat.le_refl _) _
  have kd2 : Blk y5d2 x5.heap.size 25 #[.bool d2.neg, .slice X2 d2.ls.length c2, .int .i64 d2.ex] := by rw [hy5d2]; exact Blk.new _ _ _
  rw [← ht] at kd2
  replace kd2 := Lib.hid kd2
  replace u0 := Lib.hid (RdD.below u0.out hb hb.size)
  replace u1 := Lib.hid (RdD.below u1.out hb hb.size)
  replace u2 := Lib.hid (RdD.below u2.out hb hb.size)
  have sy5d2 : x5.heap.size ≤ y5d2.heap.size := hb.size
  replace ka := Lib.hid (ka.out.below hb ka.out.lt)
  replace kb := Lib.hid (kb.out.below hb kb.out.lt)
  replace kr := Lib.hid (kr.out.below hb kr.out.lt)
  replace ra := Lib.hid (RdM.below ra.out hb hb.size)
  replace rb := Lib.hid (RdM.below rb.out hb hb.size)
  replace kd0 := Lib.hid (kd0.out.below hb kd0.out.lt)
  replace kd1 := Lib.hid (kd1.out.below hb kd1.out.lt)
  replace gB := Lib.hid (gB.out.trans (hb.mono gB.out.size))
  clear hb
  go_upto_region 6 with fail
  rw [← hy5d2]
  clear hy5d2
  rw [← ht]
  clear ht
  obtain ⟨E3, hE⟩ : ∃ E, raE m.a k.a = E := ⟨_, rfl⟩
  have gE3 := Lib.hid hE
  clear hE
  have z0 : y5d2.cell? ⟨w.heap.size, 0, none⟩ = some (.bool m.s.neg) := by rw [ka.out.cell]; rfl
  have z1 : y5d2.cell? ⟨w.heap.size, 1, none⟩ = some (.slice aX0 m.s.ls.length ac0) := by rw [ka.out.cell]; rfl
  have z2 : y5d2.cell? ⟨w.heap.size, 2, none⟩ = some (.int .i64 m.s.ex) := by rw [ka.out.cell]; rfl
  have z3 : y5d2.cell? ⟨w.heap.size, 3, none⟩ = some (.bool m.w.neg) := by rw [ka.out.cell]; rfl
  have z4 : y5d2.cell? ⟨w.heap.size, 4, none⟩ = some (.slice aX1 m.w.ls.length ac1) := by rw [ka.out.cell]; rfl
  have z5 : y5d2.cell? ⟨w.heap.size, 5, none⟩ = some (.int .i64 m.w.ex) := by rw [ka.out.cell]; rfl
  have z6 : y5d2.cell? ⟨w.heap.size, 6, none⟩ = some (.bool m.c.neg) := by rw [ka.out.cell]; rfl
  have z7 : y5d2.cell? ⟨w.heap.size, 7, none⟩ = some (.slice aX2 m.c.ls.length ac2) := by rw [ka.out.cell]; rfl
  have z8 : y5d2.cell? ⟨w.heap.size, 8, none⟩ = some (.int .i64 m.c.ex) := by rw [ka.out.cell]; rfl
  have z9 : y5d2.cell? ⟨w.heap.size, 9, none⟩ = some (.bool m.a.neg) := by rw [ka.out.cell]; rfl
  have z10 : y5d2.cell? ⟨w.heap.size, 10, none⟩ = some (.slice aX3 m.a.ls.length ac3) := by rw [ka.out.cell]; rfl
  have z11 : y5d2.cell? ⟨w.heap.size, 11, none⟩ = some (.int .i64 m.a.ex) := by rw [ka.out.cell]; rfl
  have a0 : y5d2.cell? ⟨w.heap.size + 1, 0, none⟩ = some (.bool k.s.neg) := by rw [kb.out.cell]; rfl
  have a1 : y5d2.cell? ⟨w.heap.size + 1, 1, none⟩ = some (.slice bX0 k.s.ls.length bc0) := by rw [kb.out.cell]; rfl
  have a2 : y5d2.cell? ⟨w.heap.size + 1, 2, none⟩ = some (.int .i64 k.s.ex) := by rw [kb.out.cell]; rfl
  have a3 : y5d2.cell? ⟨w.heap.size + 1, 3, none⟩ = some (.bool k.w.neg) := by rw [kb.out.cell]; rfl
  have a4 : y5d2.cell? ⟨w.heap.size + 1, 4, none⟩ = some (.slice bX1 k.w.ls.length bc1) := by rw [kb.out.cell]; rfl
  have a5 : y5d2.cell? ⟨w.heap.size + 1, 5, none⟩ = some (.int .i64 k.w.ex) := by rw [kb.out.cell]; rfl
  have a6 : y5d2.cell? ⟨w.heap.size + 1, 6, none⟩ = some (.bool k.c.neg) := by rw [kb.out.cell]; rfl
  have a7 : y5d2.cell? ⟨w.heap.size + 1, 7, none⟩ = some (.slice bX2 k.c.ls.length bc2) := by rw [kb.out.cell]; rfl
  have a8 : y5d2.cell? ⟨w.heap.size + 1, 8, none⟩ = some (.int .i64 k.c.ex) := by rw [kb.out.cell]; rfl
  have a9 : y5d2.cell? ⟨w.heap.size + 1, 9, none⟩ = some (.bool k.a.neg) := by rw [kb.out.cell]; rfl
  have a10 : y5d2.cell? ⟨w.heap.size + 1, 10, none⟩ = some (.slice bX3 k.a.ls.length bc3) := by rw [kb.out.cell]; rfl
  have a11 : y5d2.cell? ⟨w.heap.size + 1, 11, none⟩ = some (.int .i64 k.a.ex) := by rw [kb.out.cell]; rfl
  go_wp2_with fail
  refine (rdadd_any m.a k.a lm.2.2.2 lk.2.2.2 aX3 bX3 ac3 bc3 y5d2 ra.out.2.2.2 rb.out.2.2.2).mono ?_
  rintro en x6 hP
  obtain ⟨d3, X3, c3, hd, he, hr, hb⟩ := hP
  rw [gE3.out] at he
  subst he
  have gd3 := Lib.hid hd
  have u3 := Lib.hid hr
  clear hd hr
  replace u0 := Lib.hid (RdD.below u0.out hb hb.size)
  replace u1 := Lib.hid (RdD.below u1.out hb hb.size)
  replace u2 := Lib.hid (RdD.below u2.out hb hb.size)
  have sx6 : y5d2.heap.size ≤ x6.heap.size := hb.size
  replace ka := Lib.hid (ka.out.below hb ka.out.lt)
  replace kb := Lib.hid (kb.out.below hb kb.out.lt)
  replace kr := Lib.hid (kr.out.below hb kr.out.lt)
  replace ra := Lib.hid (RdM.below ra.out hb hb.size)
  replace rb := Lib.hid (RdM.below rb.out hb hb.size)
  replace kd0 := Lib.hid (kd0.out.below hb kd0.out.lt)
  replace kd1 := Lib.hid (kd1.out.below hb kd1.out.lt)
  replace kd2 := Lib.hid (kd2.out.below hb kd2.out.lt)
  replace gB := Lib.hid (gB.out.trans (hb.mono gB.out.size))
  clear hb
  clear z0 z1 z2 z3 z4 z5 z6 z7 z8 z9 z10 z11 a0 a1 a2 a3 a4 a5 a6 a7 a8 a9 a10 a11
  obtain ⟨td3, ht⟩ : ∃ t, t = x6.heap.size := ⟨_, rfl⟩
  obtain ⟨y6d3, hy6d3⟩ : ∃ W, W = x6.alloc (.cells #[.bool d3.neg, .slice X3 d3.ls.length c3, .int .i64 d3.ex] 25) := ⟨_, rfl⟩
  have hb : Below x6.heap.size x6 y6d3 := by rw [hy6d3]; exact (Below.refl _ _).alloc (Nat.le_refl _) _
  have kd3 : Blk y6d3 x6.heap.size 25 #[.bool d3.neg, .slice X3 d3.ls.length c3, .int .i64 d3.ex] := by rw [hy6d3]; exact Blk.new _ _ _
  rw [← ht] at kd3
  replace kd3 := Lib.hid kd3
  replace u0 := Lib.hid (RdD.below u0.out hb hb.size)
  replace u1 := Lib.hid (RdD.below u1.out hb hb.size)
  replace u2 := Lib.hid (RdD.below u2.out hb hb.size)
  replace u3 := Lib.hid (RdD.below u3.out hb hb.size)
  have sy6d3 : x6.heap.size ≤ y6d3.heap.size := hb.size
  replace ka := Lib.hid (ka.out.below hb ka.out.lt)
  replace kb := Lib.hid (kb.out.below hb kb.out.lt)
  replace kr := Lib.hid (kr.out.below hb kr.out.lt)
  replace ra := Lib.hid (RdM.below ra.out hb hb.size)
  replace rb := Lib.hid (RdM.below rb.out hb hb.size)
  replace kd0 := Lib.hid (kd0.out.below hb kd0.out.lt)
  replace kd1 := Lib.hid (kd1.out.below hb kd1.out.lt)
  replace kd2 := Lib.hid (kd2.out.below hb kd2.out.lt)
  replace gB := Lib.hid (gB.out.trans (hb.mono gB.out.size))
  clear hb
  go_upto_region 7 with fail
  rw [← hy6d3]
  clear hy6d3
  rw [← ht]
  clear ht
  have hc0 := rfE_cases (addD m.s k.s)
  rw [← (ra_may gma.out.1 gmb.out.1).1, gE0.out] at hc0
  have hc1 := rfE_cases (addD m.w k.w)
  rw [← (ra_may gma.out.2.1 gmb.out.2.1).1, gE1.out] at hc1
  have hc2 := rfE_cases (addD m.c k.c)
  rw [← (ra_may gma.out.2.2.1 gmb.out.2.2.1).1, gE2.out] at hc2
  have hc3 := rfE_cases (addD m.a k.a)
  rw [← (ra_may gma.out.2.2.2 gmb.out.2.2.2).1, gE3.out] at hc3
  by_cases h0 : E0 = 0 ∧ E1 = 0 ∧ E2 = 0 ∧ E3 = 0
  rotate_left
  · have hno : Hid (addM m k = none) := Lib.hid (addM_no (by
      rcases hc0 with ⟨p0, _⟩ | ⟨_, p⟩
      rotate_left
      · exact .inl p
      rcases hc1 with ⟨p1, _⟩ | ⟨_, p⟩
      rotate_left
      · exact .inr (.inl p)
      rcases hc2 with ⟨p2, _⟩ | ⟨_, p⟩
      rotate_left
      · exact .inr (.inr (.inl p))
      rcases hc3 with ⟨p3, _⟩ | ⟨_, p⟩
      rotate_left
      · exact .inr (.inr (.inr p))
      exact absurd ⟨p0, p1, p2, p3⟩ h0))
    replace hc0 := hc0.imp And.left And.left
    replace hc1 := hc1.imp And.left And.left
    replace hc2 := hc2.imp And.left And.left
    replace hc3 := hc3.imp And.left And.left
    have hm := mx4_ten hc0 hc1 hc2 hc3 h0
    have hme : Hid (maE m k = 10 ∧ maM m k = zM) := Lib.hid (by unfold maE maM; rw [if_neg e8.out, if_neg e8.out, hno.out]; exact ⟨rfl, rfl⟩)
    clear hc0 hc1 hc2 hc3 h0
    have kz : Blk ((((((((((((y6d3.setCell ⟨w.heap.size + 1 + 1, 0, none⟩ (.bool false)).setCell ⟨w.heap.size + 1 + 1, 1, none⟩ (.slice none 0 0)).setCell ⟨w.heap.size + 1 + 1, 2, none⟩ (.int .i64 0)).setCell ⟨w.heap.size + 1 + 1, 3, none⟩ (.bool false)).setCell ⟨w.heap.size + 1 + 1, 4, none⟩ (.slice none 0 0)).setCell ⟨w.heap.size + 1 + 1, 5, none⟩ (.int .i64 0)).setCell ⟨w.heap.size + 1 + 1, 6, none⟩ (.bool false)).setCell ⟨w.heap.size + 1 + 1, 7, none⟩ (.slice none 0 0)).setCell ⟨w.heap.size + 1 + 1, 8, none⟩ (.int .i64 0)).setCell ⟨w.heap.size + 1 + 1, 9, none⟩ (.bool false)).setCell ⟨w.heap.size + 1 + 1, 10, none⟩ (.slice none 0 0)).setCell ⟨w.heap.size + 1 + 1, 11, none⟩ (.int .i64 0)) (w.heap.size + 1 + 1) 27 #[.bool false, .slice none 0 0, .int .i64 0, .bool false, .slice none 0 0, .int .i64 0, .bool false, .slice none 0 0, .int .i64 0, .bool false, .slice none 0 0, .int .i64 0] := c12_blk kr.out (.bool false) (.slice none 0 0) (.int .i64 0) (.bool false) (.slice none 0 0) (.int .i64 0) (.bool false) (.slice none 0 0) (.int .i64 0) (.bool false) (.slice none 0 0) (.int .i64 0)
    have hBz : Below w.heap.size w ((((((((((((y6d3.setCell ⟨w.heap.size + 1 + 1, 0, none⟩ (.bool false)).setCell ⟨w.heap.size + 1 + 1, 1, none⟩ (.slice none 0 0)).setCell ⟨w.heap.size + 1 + 1, 2, none⟩ (.int .i64 0)).setCell ⟨w.heap.size + 1 + 1, 3, none⟩ (.bool false)).setCell ⟨w.heap.size + 1 + 1, 4, none⟩ (.slice none 0 0)).setCell ⟨w.heap.size + 1 + 1, 5, none⟩ (.int .i64 0)).setCell ⟨w.heap.size + 1 + 1, 6, none⟩ (.bool false)).setCell ⟨w.heap.size + 1 + 1, 7, none⟩ (.slice none 0 0)).setCell ⟨w.heap.size + 1 + 1, 8, none⟩ (.int .i64 0)).setCell ⟨w.heap.size + 1 + 1, 9, none⟩ (.bool false)).setCell ⟨w.heap.size + 1 + 1, 10, none⟩ (.slice none 0 0)).setCell ⟨w.heap.size + 1 + 1, 11, none⟩ (.int .i64 0)) := c12_below gB.out (by omega) (.bool false) (.slice none 0 0) (.int .i64 0) (.bool false) (.slice none 0 0) (.int .i64 0) (.bool false) (.slice none 0 0) (.int .i64 0) (.bool false) (.slice none 0 0) (.int .i64 0)
    have r0 : y6d3.cell? ⟨w.heap.size + 1 + 1, 0, none⟩ = some (.bool false) := by rw [kr.out.cell]; rfl
    have r1 : y6d3.cell? ⟨w.heap.size + 1 + 1, 1, none⟩ = some (.slice none 0 0) := by rw [kr.out.cell]; rfl
    have r2 : y6d3.cell? ⟨w.heap.size + 1 + 1, 2, none⟩ = some (.int .i64 0) := by rw [kr.out.cell]; rfl
    have r3 : y6d3.cell? ⟨w.heap.size + 1 + 1, 3, none⟩ = some (.bool false) := by rw [kr.out.cell]; rfl
    have r4 : y6d3.cell? ⟨w.heap.size + 1 + 1, 4, none⟩ = some (.slice none 0 0) := by rw [kr.out.cell]; rfl
    have r5 : y6d3.cell? ⟨w.heap.size + 1 + 1, 5, none⟩ = some (.int .i64 0) := by rw [kr.out.cell]; rfl
    have r6 : y6d3.cell? ⟨w.heap.size + 1 + 1, 6, none⟩ = some (.bool false) := by rw [kr.out.cell]; rfl
    have r7 : y6d3.cell? ⟨w.heap.size + 1 + 1, 7, none⟩ = some (.slice none 0 0) := by rw [kr.out.cell]; rfl
    have r8 : y6d3.cell? ⟨w.heap.size + 1 + 1, 8, none⟩ = some (.int .i64 0) := by rw [kr.out.cell]; rfl
    have r9 : y6d3.cell? ⟨w.heap.size + 1 + 1, 9, none⟩ = some (.bool false) := by rw [kr.out.cell]; rfl
    have r10 : y6d3.cell? ⟨w.heap.size + 1 + 1, 10, none⟩ = some (.slice none 0 0) := by rw [kr.out.cell]; rfl
    have r11 : y6d3.cell? ⟨w.heap.size + 1 + 1, 11, none⟩ = some (.int .i64 0) := by rw [kr.out.cell]; rfl
    have f0 := kr.out.frozen 0
    have f1 := kr.out.frozen 1
    have f2 := kr.out.frozen 2
    have f3 := kr.out.frozen 3
    have f4 := kr.out.frozen 4
    have f5 := kr.out.frozen 5
    have f6 := kr.out.frozen 6
    have f7 := kr.out.frozen 7
    have f8 := kr.out.frozen 8
    have f9 := kr.out.frozen 9
    have f10 := kr.out.frozen 10
    have f11 := kr.out.frozen 11
    go_wp2
    refine bodyPost_ret (ret_mass rfl _ _ (w.heap.size + 1 + 1) #[.bool false, .slice none 0 0, .int .i64 0, .bool false, .slice none 0 0, .int .i64 0, .bool false, .slice none 0 0, .int .i64 0, .bool false, .slice none 0 0, .int .i64 0] (.int .i64 10) rfl kz info_mass rfl) rfl ?_
    exact ⟨⟨zM, none, 0, none, 0, none, 0, none, 0⟩, hme.out.2.symm, by rw [hme.out.1]; rfl, rdo_z _, hBz⟩
  obtain ⟨rfl, rfl, rfl, rfl⟩ := h0
  have gM : Hid (addM m k = some ⟨d0, d1, d2, d3⟩) := Lib.hid (by
    have h0 : addD m.s k.s = some d0 := by rcases hc0 with ⟨_, p⟩ | ⟨p, _⟩; exact p.trans (by rw [gd0.out, (ra_may gma.out.1 gmb.out.1).2]); cases p
    have h1 : addD m.w k.w = some d1 := by rcases hc1 with ⟨_, p⟩ | ⟨p, _⟩; exact p.trans (by rw [gd1.out, (ra_may gma.out.2.1 gmb.out.2.1).2]); cases p
    have h2 : addD m.c k.c = some d2 := by rcases hc2 with ⟨_, p⟩ | ⟨p, _⟩; exact p.trans (by rw [gd2.out, (ra_may gma.out.2.2.1 gmb.out.2.2.1).2]); cases p
    have h3 : addD m.a k.a = some d3 := by rcases hc3 with ⟨_, p⟩ | ⟨p, _⟩; exact p.trans (by rw [gd3.out, (ra_may gma.out.2.2.2 gmb.out.2.2.2).2]); cases p
    unfold addM
    rw [h0, h1, h2, h3])
  clear hc0 hc1 hc2 hc3
  have hm : mx4 0 0 0 0 = 0 := rfl
  have pa0 : y6d3.cell? ⟨td0, 0, none⟩ = some (.bool d0.neg) := by rw [kd0.out.cell]; rfl
  have pa1 : y6d3.cell? ⟨td0, 1, none⟩ = some (.slice X0 d0.ls.length c0) := by rw [kd0.out.cell]; rfl
  have pa2 : y6d3.cell? ⟨td0, 2, none⟩ = some (.int .i64 d0.ex) := by rw [kd0.out.cell]; rfl
  have pb0 : y6d3.cell? ⟨td1, 0, none⟩ = some (.bool d1.neg) := by rw [kd1.out.cell]; rfl
  have pb1 : y6d3.cell? ⟨td1, 1, none⟩ = some (.slice X1 d1.ls.length c1) := by rw [kd1.out.cell]; rfl
  have pb2 : y6d3.cell? ⟨td1, 2, none⟩ = some (.int .i64 d1.ex) := by rw [kd1.out.cell]; rfl
  have pc0 : y6d3.cell? ⟨td2, 0, none⟩ = some (.bool d2.neg) := by rw [kd2.out.cell]; rfl
  have pc1 : y6d3.cell? ⟨td2, 1, none⟩ = some (.slice X2 d2.ls.length c2) := by rw [kd2.out.cell]; rfl
  have pc2 : y6d3.cell? ⟨td2, 2, none⟩ = some (.int .i64 d2.ex) := by rw [kd2.out.cell]; rfl
  have pd0 : y6d3.cell? ⟨td3, 0, none⟩ = some (.bool d3.neg) := by rw [kd3.out.cell]; rfl
  have pd1 : y6d3.cell? ⟨td3, 1, none⟩ = some (.slice X3 d3.ls.length c3) := by rw [kd3.out.cell]; rfl
  have pd2 : y6d3.cell? ⟨td3, 2, none⟩ = some (.int .i64 d3.ex) := by rw [kd3.out.cell]; rfl
  have kz : Blk ((((((((((((y6d3.setCell ⟨w.heap.size + 1 + 1, 0, none⟩ (.bool d0.neg)).setCell ⟨w.heap.size + 1 + 1, 1, none⟩ (.slice X0 d0.ls.length c0)).setCell ⟨w.heap.size + 1 + 1, 2, none⟩ (.int .i64 d0.ex)).setCell ⟨w.heap.size + 1 + 1, 3, none⟩ (.bool d1.neg)).setCell ⟨w.heap.size + 1 + 1, 4, none⟩ (.slice X1 d1.ls.length c1)).setCell ⟨w.heap.size + 1 + 1, 5, none⟩ (.int .i64 d1.ex)).setCell ⟨w.heap.size + 1 + 1, 6, none⟩ (.bool d2.neg)).setCell ⟨w.heap.size + 1 + 1, 7, none⟩ (.slice X2 d2.ls.length c2)).setCell ⟨w.heap.size + 1 + 1, 8, none⟩ (.int .i64 d2.ex)).setCell ⟨w.heap.size + 1 + 1, 9, none⟩ (.bool d3.neg)).setCell ⟨w.heap.size + 1 + 1, 10, none⟩ (.slice X3 d3.ls.length c3)).setCell ⟨w.heap.size + 1 + 1, 11, none⟩ (.int .i64 d3.ex)) (w.heap.size + 1 + 1) 27 #[.bool d0.neg, .slice X0 d0.ls.length c0, .int .i64 d0.ex, .bool d1.neg, .slice X1 d1.ls.length c1, .int .i64 d1.ex, .bool d2.neg, .slice X2 d2.ls.length c2, .int .i64 d2.ex, .bool d3.neg, .slice X3 d3.ls.length c3, .int .i64 d3.ex] := c12_blk kr.out (.bool d0.neg) (.slice X0 d0.ls.length c0) (.int .i64 d0.ex) (.bool d1.neg) (.slice X1 d1.ls.length c1) (.int .i64 d1.ex) (.bool d2.neg) (.slice X2 d2.ls.length c2) (.int .i64 d2.ex) (.bool d3.neg) (.slice X3 d3.ls.length c3) (.int .i64 d3.ex)
  have hBz : Below w.heap.size w ((((((((((((y6d3.setCell ⟨w.heap.size + 1 + 1, 0, none⟩ (.bool d0.neg)).setCell ⟨w.heap.size + 1 + 1, 1, none⟩ (.slice X0 d0.ls.length c0)).setCell ⟨w.heap.size + 1 + 1, 2, none⟩ (.int .i64 d0.ex)).setCell ⟨w.heap.size + 1 + 1, 3, none⟩ (.bool d1.neg)).setCell ⟨w.heap.size + 1 + 1, 4, none⟩ (.slice X1 d1.ls.length c1)).setCell ⟨w.heap.size + 1 + 1, 5, none⟩ (.int .i64 d1.ex)).setCell ⟨w.heap.size + 1 + 1, 6, none⟩ (.bool d2.neg)).setCell ⟨w.heap.size + 1 + 1, 7, none⟩ (.slice X2 d2.ls.length c2)).setCell ⟨w.heap.size + 1 + 1, 8, none⟩ (.int .i64 d2.ex)).setCell ⟨w.heap.size + 1 + 1, 9, none⟩ (.bool d3.neg)).setCell ⟨w.heap.size + 1 + 1, 10, none⟩ (.slice X3 d3.ls.length c3)).setCell ⟨w.heap.size + 1 + 1, 11, none⟩ (.int .i64 d3.ex)) := c12_below gB.out (by omega) (.bool d0.neg) (.slice X0 d0.ls.length c0) (.int .i64 d0.ex) (.bool d1.neg) (.slice X1 d1.ls.length c1) (.int .i64 d1.ex) (.bool d2.neg) (.slice X2 d2.ls.length c2) (.int .i64 d2.ex) (.bool d3.neg) (.slice X3 d3.ls.length c3) (.int .i64 d3.ex)
  have r0 : y6d3.cell? ⟨w.heap.size + 1 + 1, 0, none⟩ = some (.bool false) := by rw [kr.out.cell]; rfl
  have r1 : y6d3.cell? ⟨w.heap.size + 1 + 1, 1, none⟩ = some (.slice none 0 0) := by rw [kr.out.cell]; rfl
  have r2 : y6d3.cell? ⟨w.heap.size + 1 + 1, 2, none⟩ = some (.int .i64 0) := by rw [kr.out.cell]; rfl
  have r3 : y6d3.cell? ⟨w.heap.size + 1 + 1, 3, none⟩ = some (.bool false) := by rw [kr.out.cell]; rfl
  have r4 : y6d3.cell? ⟨w.heap.size + 1 + 1, 4, none⟩ = some (.slice none 0 0) := by rw [kr.out.cell]; rfl
  have r5 : y6d3.cell? ⟨w.heap.size + 1 + 1, 5, none⟩ = some (.int .i64 0) := by rw [kr.out.cell]; rfl
  have r6 : y6d3.cell? ⟨w.heap.size + 1 + 1, 6, none⟩ = some (.bool false) := by rw [kr.out.cell]; rfl
  have r7 : y6d3.cell? ⟨w.heap.size + 1 + 1, 7, none⟩ = some (.slice none 0 0) := by rw [kr.out.cell]; rfl
  have r8 : y6d3.cell? ⟨w.heap.size + 1 + 1, 8, none⟩ = some (.int .i64 0) := by rw [kr.out.cell]; rfl
  have r9 : y6d3.cell? ⟨w.heap.size + 1 + 1, 9, none⟩ = some (.bool false) := by rw [kr.out.cell]; rfl
  have r10 : y6d3.cell? ⟨w.heap.size + 1 + 1, 10, none⟩ = some (.slice none 0 0) := by rw [kr.out.cell]; rfl
  have r11 : y6d3.cell? ⟨w.heap.size + 1 + 1, 11, none⟩ = some (.int .i64 0) := by rw [kr.out.cell]; rfl
  have f0 := kr.out.frozen 0
  have f1 := kr.out.frozen 1
  have f2 := kr.out.frozen 2
  have f3 := kr.out.frozen 3
  have f4 := kr.out.frozen 4
  have f5 := kr.out.frozen 5
  have f6 := kr.out.frozen 6
  have f7 := kr.out.frozen 7
  have f8 := kr.out.frozen 8
  have f9 := kr.out.frozen 9
  have f10 := kr.out.frozen 10
  have f11 := kr.out.frozen 11
  go_wp2
  refine bodyPost_ret (ret_mass rfl _ _ (w.heap.size + 1 + 1) #[.bool d0.neg, .slice X0 d0.ls.length c0, .int .i64 d0.ex, .bool d1.neg, .slice X1 d1.ls.length c1, .int .i64 d1.ex, .bool d2.neg, .slice X2 d2.ls.length c2, .int .i64 d2.ex, .bool d3.neg, .slice X3 d3.ls.length c3, .int .i64 d3.ex] (.int .i64 0) rfl kz info_mass rfl) rfl ?_
  exact ⟨⟨⟨d0, d1, d2, d3⟩, X0, c0, X1, c1, X2, c2, X3, c3⟩, by unfold maM; rw [if_neg e8.out, gM.out]; rfl, by unfold maE; rw [if_neg e8.out, gM.out], ⟨c12_rdd u0.out kr.out (.bool d0.neg) (.slice X0 d0.ls.length c0) (.int .i64 d0.ex) (.bool d1.neg) (.slice X1 d1.ls.length c1) (.int .i64 d1.ex) (.bool d2.neg) (.slice X2 d2.ls.length c2) (.int .i64 d2.ex) (.bool d3.neg) (.slice X3 d3.ls.length c3) (.int .i64 d3.ex), c12_rdd u1.out kr.out (.bool d0.neg) (.slice X0 d0.ls.length c0) (.int .i64 d0.ex) (.bool d1.neg) (.slice X1 d1.ls.length c1) (.int .i64 d1.ex) (.bool d2.neg) (.slice X2 d2.ls.length c2) (.int .i64 d2.ex) (.bool d3.neg) (.slice X3 d3.ls.length c3) (.int .i64 d3.ex), c12_rdd u2.out kr.out (.bool d0.neg) (.slice X0 d0.ls.length c0) (.int .i64 d0.ex) (.bool d1.neg) (.slice X1 d1.ls.length c1) (.int .i64 d1.ex) (.bool d2.neg) (.slice X2 d2.ls.length c2) (.int .i64 d2.ex) (.bool d3.neg) (.slice X3 d3.ls.length c3) (.int .i64 d3.ex), c12_rdd u3.out kr.out (.bool d0.neg) (.slice X0 d0.ls.length c0) (.int .i64 d0.ex) (.bool d1.neg) (.slice X1 d1.ls.length c1) (.int .i64 d1.ex) (.bool d2.neg) (.slice X2 d2.ls.length c2) (.int .i64 d2.ex) (.bool d3.neg) (.slice X3 d3.ls.length c3) (.int .i64 d3.ex)⟩, hBz⟩
end Go.Proofs.YtdmjdpaehnhdoaaDoor
