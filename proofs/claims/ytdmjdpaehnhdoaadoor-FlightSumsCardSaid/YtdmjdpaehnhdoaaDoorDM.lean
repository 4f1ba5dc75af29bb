/- Door: mass.each with dyad.Add -/
import Derived.Test.YtdmjdpaehnhdoaaDoorDK
import Derived.Test.YtdmjdpaehnhdoaaDoorLKM
import Derived.Test.YtdmjdpaehnhdoaaDoorKA
import Derived.Shelf.Abstract
namespace Go.Proofs.YtdmjdpaehnhdoaaDoor
open Go.Shelf Go.ChangeShapes Go.WideShapes Go.ChangeAt Go.RowKit
set_option linter.unusedSimpArgs false
set_option linter.unusedVariables false
/-- The sum of two masses, if it may be. -/
def addM (m k : Ms) : Option Ms := match addD m.s k.s, addD m.w k.w, addD m.c k.c, addD m.a k.a with
  | some s, some w, some c, some a => some ⟨s, w, c, a⟩
  | _, _, _, _ => none
def ltM4 (m : Ms) : Prop := (∀ x ∈ m.s.ls, x < LB) ∧ (∀ x ∈ m.w.ls, x < LB) ∧ (∀ x ∈ m.c.ls, x < LB) ∧ (∀ x ∈ m.a.ls, x < LB)
/-- A dyad that is of the call's own. -/
def OwD (w : World) (B : Nat) (X : Option Addr) (c : Nat) (d : Dy) : Prop := d.ls.length ≤ c ∧ OwnR w B 71 X d.ls.length (ints .u32 d.ls)
/-- What the sum of two masses answers. -/
def MaddP (m k : Ms) (w : World) (en : Ending) (w' : World) : Prop := Below w.heap.size w w' ∧ (((mayM m && mayM k) = false ∧ en = .returned (.tuple #[.agg #[.bool false, .slice none 0 0, .int .i64 0, .bool false, .slice none 0 0, .int .i64 0, .bool false, .slice none 0 0, .int .i64 0, .bool false, .slice none 0 0, .int .i64 0], .int .i64 8])) ∨ ((mayM m && mayM k) = true ∧ ((addM m k = none ∧ en = .returned (.tuple #[.agg #[.bool false, .slice none 0 0, .int .i64 0, .bool false, .slice none 0 0, .int .i64 0, .bool false, .slice none 0 0, .int .i64 0, .bool false, .slice none 0 0, .int .i64 0], .int .i64 10])) ∨
  (∃ d, addM m k = some d ∧ ∃ (X0 : Option Addr) (c0 : Nat) (X1 : Option Addr) (c1 : Nat) (X2 : Option Addr) (c2 : Nat) (X3 : Option Addr) (c3 : Nat), en = .returned (.tuple #[.agg #[.bool d.s.neg, .slice X0 d.s.ls.length c0, .int .i64 d.s.ex, .bool d.w.neg, .slice X1 d.w.ls.length c1, .int .i64 d.w.ex, .bool d.c.neg, .slice X2 d.c.ls.length c2, .int .i64 d.c.ex, .bool d.a.neg, .slice X3 d.a.ls.length c3, .int .i64 d.a.ex], .int .i64 0]) ∧ OwD w' w.heap.size X0 c0 d.s ∧ OwD w' w.heap.size X1 c1 d.w ∧ OwD w' w.heap.size X2 c2 d.c ∧ OwD w' w.heap.size X3 c3 d.a))))
theorem ret_mass {fn : Func} {p u : Tmp} (h : fn.results = #[.cell p 27, .tmp u]) (tmps : Array Value) (w : World) (r : Nat) (cs : Array Value) (v : Value) (hp : tmps.getD p undef = .pointer (some ⟨r, 0, none⟩)) (hk : Blk w r 27 cs) (hs : (Tryd.prog.info? 27).map (·.size) = some cs.size) (hv : tmps.getD u undef = v) : (results fn tmps).run Tryd.prog w = .ok (.tuple #[.agg cs, v]) w := by
  rw [results_cell_tmp h, hp, hv]
  have := run_loadVar_row (P := Tryd.prog) w r 27 27 cs (0, 0) _ hk Tryd.underlying27 rfl hs
  simp [asAddr, Result.andThen, this]
theorem wpIn_held_round {P : Program} {id : Nat} {Q : Exit → Act → World → Prop} {S : World → Prop} {a : Act} {w : World} {l : List Oper} {l0 n0 : Nat} (hm : P.follows .mixedOrders = true) (hd : (l.all fun o => notDefer o.op) = true) (hq : ¬ LetsOut Q) (hS : S w.drew)
    (h : S w.drew → wpAnyH P .any l.toArray (NoPanic Q) S l.toArray.size (Array.replicate l.toArray.size false) a w.drew) : (Code.region id l.toArray true).wpIn (Fence.wide.inRound l0) n0 P Q a w := by
  refine Code.wpIn_mono NoPanic.imp (wpIn_region_any hm (any_in l0 n0 ?_ ?_ _ _ _ _ (wpAny_of_held _ _ _ _ (h hS))))
  · intro i o ho c e
    have h1 := List.all_eq_true.1 hd o (List.mem_of_getElem? (by simpa using ho))
    rw [e] at h1
    cases h1
  · rintro ⟨a, w, h⟩
    exact hq ⟨a, w, h⟩
/-- What an addition answers, in one way. -/
def AddR (a b : Dy) (w : World) (en : Ending) (w' : World) : Prop := ∃ (d : Dy) (X : Option Addr) (c : Nat) (E : Int), en = .returned (.tuple #[.agg #[.bool d.neg, .slice X d.ls.length c, .int .i64 d.ex], .int .i64 E]) ∧ Below w.heap.size w w' ∧ ((E = 8 ∧ (mayd a && mayd b) = false) ∨ (E = 10 ∧ addD a b = none) ∨ (E = 0 ∧ addD a b = some d ∧ OwD w' w.heap.size X c d))
theorem addR_any (a b : Dy) (la : ∀ x ∈ a.ls, x < LB) (lb : ∀ x ∈ b.ls, x < LB) (X X2 : Option Addr) (c c2 : Nat) (w : World) (ra : RdD w w.heap.size a.neg X a.ls.length c a.ex a) (rb : RdD w w.heap.size b.neg X2 b.ls.length c2 b.ex b) (hT : Tab w) :
    Calls Tryd.prog 52 #[.agg #[.bool a.neg, .slice X a.ls.length c, .int .i64 a.ex], .agg #[.bool b.neg, .slice X2 b.ls.length c2, .int .i64 b.ex]] w (AddR a b w) := (dadd_any a b la lb X X2 c c2 w ra rb hT).mono fun en w' ⟨hb, h⟩ => by
  rcases h with ⟨h1, h2⟩ | ⟨h1, _, ⟨h2, h3⟩ | ⟨d, h2, Xo, co, h3, h4, h5⟩⟩
  · exact ⟨zdy, none, 0, 8, h2, hb, .inl ⟨rfl, h1⟩⟩
  · exact ⟨zdy, none, 0, 10, h3, hb, .inr (.inl ⟨rfl, h2⟩)⟩
  · exact ⟨d, Xo, co, 0, h3, hb, .inr (.inr ⟨rfl, h2, h4, h5⟩)⟩
theorem addM_no {m k : Ms} (h : addD m.s k.s = none ∨ addD m.w k.w = none ∨ addD m.c k.c = none ∨ addD m.a k.a = none) : addM m k = none := by
  unfold addM
  rcases h with h | h | h | h <;> rw [h] <;> cases addD m.s k.s <;> cases addD m.w k.w <;> cases addD m.c k.c <;> cases addD m.a k.a <;> rfl
theorem mayM_each {m : Ms} (h : mayM m = true) : mayd m.s = true ∧ mayd m.w = true ∧ mayd m.c = true ∧ mayd m.a = true := by
  unfold mayM at h
  simpa [Bool.and_eq_true] using h
theorem cnt1 : ∀ i : P4, [p0, p1, p2, p3].count i ≤ 1 := by
  rintro ⟨i, hi⟩
  have h4 : i = 0 ∨ i = 1 ∨ i = 2 ∨ i = 3 := by omega
  rcases h4 with rfl | rfl | rfl | rfl <;> exact Nat.le_refl _
/-- A part under way: as it came, or a sum. -/
def StS (W : World) (B : Nat) (a b : Dy) (X0 : Option Addr) (c0 cnt : Nat) (d : Dy) (X : Option Addr) (c : Nat) : Prop := (∀ x ∈ d.ls, x < LB) ∧ d.ls.length ≤ c ∧ ((cnt = 0 ∧ d = a ∧ X = X0 ∧ c = c0) ∨ (0 < cnt ∧ OwnR W B 71 X d.ls.length (ints .u32 d.ls) ∧ (cnt = 1 → addD a b = some d)))
section
variable {W W' : World} {B c c0 cnt : Nat} {a b d : Dy} {X0 X : Option Addr}
theorem StS.map (h : StS W B a b X0 c0 cnt d X c) (h1 : OwnR W B 71 X d.ls.length (ints .u32 d.ls) → OwnR W' B 71 X d.ls.length (ints .u32 d.ls)) : StS W' B a b X0 c0 cnt d X c := ⟨h.1, h.2.1, h.2.2.imp id fun ⟨x, y, z⟩ => ⟨x, h1 y, z⟩⟩
theorem StS.reads {w : World} (h : StS W B a b X0 c0 cnt d X c) (hr : Reads w w.heap.size 1 X0 a.ls.length (ints .u32 a.ls)) (hb : Below w.heap.size w W) : Reads W W.heap.size 1 X d.ls.length (ints .u32 d.ls) := by
  rcases h.2.2 with ⟨_, rfl, rfl, _⟩ | ⟨_, h, _⟩
  · exact (hr.below hb).more hb.size
  · exact h.reads
end
attribute [local go_sem] Oper.semAt_some
set_option maxRecDepth 100000 in
set_option maxHeartbeats 8000000 in
theorem meach_any (m k : Ms) (lm : ltM4 m) (lk : ltM4 k) (aX0 : Option Addr) (ac0 : Nat) (aX1 : Option Addr) (ac1 : Nat) (aX2 : Option Addr) (ac2 : Nat) (aX3 : Option Addr) (ac3 : Nat) (bX0 : Option Addr) (bc0 : Nat) (bX1 : Option Addr) (bc1 : Nat) (bX2 : Option Addr) (bc2 : Nat) (bX3 : Option Addr) (bc3 : Nat) (w : World) (ra : RdM w w.heap.size m.s.neg aX0 m.s.ls.length ac0 m.s.ex m.w.neg aX1 m.w.ls.length ac1 m.w.ex m.c.neg aX2 m.c.ls.length ac2 m.c.ex m.a.neg aX3 m.a.ls.length ac3 m.a.ex m) (rb : RdM w w.heap.size k.s.neg bX0 k.s.ls.length bc0 k.s.ex k.w.neg bX1 k.w.ls.length bc1 k.w.ex k.c.neg bX2 k.c.ls.length bc2 k.c.ex k.a.neg bX3 k.a.ls.length bc3 k.a.ex k) (hT : Tab w) :
    Calls Tryd.prog 51 #[.agg #[.bool m.s.neg, .slice aX0 m.s.ls.length ac0, .int .i64 m.s.ex, .bool m.w.neg, .slice aX1 m.w.ls.length ac1, .int .i64 m.w.ex, .bool m.c.neg, .slice aX2 m.c.ls.length ac2, .int .i64 m.c.ex, .bool m.a.neg, .slice aX3 m.a.ls.length ac3, .int .i64 m.a.ex], .agg #[.bool k.s.neg, .slice bX0 k.s.ls.length bc0, .int .i64 k.s.ex, .bool k.w.neg, .slice bX1 k.w.ls.length bc1, .int .i64 k.w.ex, .bool k.c.neg, .slice bX2 k.c.ls.length bc2, .int .i64 k.c.ex, .bool k.a.neg, .slice bX3 k.a.ls.length bc3, .int .i64 k.a.ex], .func (.func 52) #[] #[]] w (MaddP m k w) := by
  refine (callsIn_wide (n := 6)).1 ?_
  refine callsIn_of_wp_marks Tryd.func51 rfl trivial ?_ rfl
  simp only [Tryd.ntmps51, List.size_toArray, List.length_cons, List.length_nil, Nat.reduceAdd, Nat.reduceSub, Array.replicate_succ, Array.replicate_zero, List.push_toArray, List.append_toArray, List.nil_append, List.cons_append]
  obtain ⟨V, hV⟩ : ∃ V, V = ((((w.alloc (.cells #[.bool m.s.neg, .slice aX0 m.s.ls.length ac0, .int .i64 m.s.ex, .bool m.w.neg, .slice aX1 m.w.ls.length ac1, .int .i64 m.w.ex, .bool m.c.neg, .slice aX2 m.c.ls.length ac2, .int .i64 m.c.ex, .bool m.a.neg, .slice aX3 m.a.ls.length ac3, .int .i64 m.a.ex] 27)).alloc (.cells #[.bool k.s.neg, .slice bX0 k.s.ls.length bc0, .int .i64 k.s.ex, .bool k.w.neg, .slice bX1 k.w.ls.length bc1, .int .i64 k.w.ex, .bool k.c.neg, .slice bX2 k.c.ls.length bc2, .int .i64 k.c.ex, .bool k.a.neg, .slice bX3 k.a.ls.length bc3, .int .i64 k.a.ex] 27)).alloc (.cells #[.func (.func 52) #[] #[]] 82)).alloc (.cells #[.bool false, .slice none 0 0, .int .i64 0, .bool false, .slice none 0 0, .int .i64 0, .bool false, .slice none 0 0, .int .i64 0, .bool false, .slice none 0 0, .int .i64 0] 27)) := ⟨_, rfl⟩
  have ka : Blk V w.heap.size 27 #[.bool m.s.neg, .slice aX0 m.s.ls.length ac0, .int .i64 m.s.ex, .bool m.w.neg, .slice aX1 m.w.ls.length ac1, .int .i64 m.w.ex, .bool m.c.neg, .slice aX2 m.c.ls.length ac2, .int .i64 m.c.ex, .bool m.a.neg, .slice aX3 m.a.ls.length ac3, .int .i64 m.a.ex] := by rw [hV]; exact (((Blk.new w _ _).alloc _).alloc _).alloc _
  have kb : Blk V (w.heap.size + 1) 27 #[.bool k.s.neg, .slice bX0 k.s.ls.length bc0, .int .i64 k.s.ex, .bool k.w.neg, .slice bX1 k.w.ls.length bc1, .int .i64 k.w.ex, .bool k.c.neg, .slice bX2 k.c.ls.length bc2, .int .i64 k.c.ex, .bool k.a.neg, .slice bX3 k.a.ls.length bc3, .int .i64 k.a.ex] := by
    have h := ((Blk.new (w.alloc (.cells #[.bool m.s.neg, .slice aX0 m.s.ls.length ac0, .int .i64 m.s.ex, .bool m.w.neg, .slice aX1 m.w.ls.length ac1, .int .i64 m.w.ex, .bool m.c.neg, .slice aX2 m.c.ls.length ac2, .int .i64 m.c.ex, .bool m.a.neg, .slice aX3 m.a.ls.length ac3, .int .i64 m.a.ex] 27)) 27 #[.bool k.s.neg, .slice bX0 k.s.ls.length bc0, .int .i64 k.s.ex, .bool k.w.neg, .slice bX1 k.w.ls.length bc1, .int .i64 k.w.ex, .bool k.c.neg, .slice bX2 k.c.ls.length bc2, .int .i64 k.c.ex, .bool k.a.neg, .slice bX3 k.a.ls.length bc3, .int .i64 k.a.ex]).alloc (.cells #[.func (.func 52) #[] #[]] 82)).alloc (.cells #[.bool false, .slice none 0 0, .int .i64 0, .bool false, .slice none 0 0, .int .i64 0, .bool false, .slice none 0 0, .int .i64 0, .bool false, .slice none 0 0, .int .i64 0] 27)
    simp only [World.size_alloc] at h
    rw [hV]; exact h
  have kf : Blk V (w.heap.size + 2) 82 #[.func (.func 52) #[] #[]] := by
    have h := (Blk.new ((w.alloc (.cells #[.bool m.s.neg, .slice aX0 m.s.ls.length ac0, .int .i64 m.s.ex, .bool m.w.neg, .slice aX1 m.w.ls.length ac1, .int .i64 m.w.ex, .bool m.c.neg, .slice aX2 m.c.ls.length ac2, .int .i64 m.c.ex, .bool m.a.neg, .slice aX3 m.a.ls.length ac3, .int .i64 m.a.ex] 27)).alloc (.cells #[.bool k.s.neg, .slice bX0 k.s.ls.length bc0, .int .i64 k.s.ex, .bool k.w.neg, .slice bX1 k.w.ls.length bc1, .int .i64 k.w.ex, .bool k.c.neg, .slice bX2 k.c.ls.length bc2, .int .i64 k.c.ex, .bool k.a.neg, .slice bX3 k.a.ls.length bc3, .int .i64 k.a.ex] 27)) 82 #[.func (.func 52) #[] #[]]).alloc (.cells #[.bool false, .slice none 0 0, .int .i64 0, .bool false, .slice none 0 0, .int .i64 0, .bool false, .slice none 0 0, .int .i64 0, .bool false, .slice none 0 0, .int .i64 0] 27)
    simp only [World.size_alloc] at h
    rw [hV]; exact h
  have kr : Blk V (w.heap.size + 3) 27 #[.bool false, .slice none 0 0, .int .i64 0, .bool false, .slice none 0 0, .int .i64 0, .bool false, .slice none 0 0, .int .i64 0, .bool false, .slice none 0 0, .int .i64 0] := by
    have h := Blk.new (((w.alloc (.cells #[.bool m.s.neg, .slice aX0 m.s.ls.length ac0, .int .i64 m.s.ex, .bool m.w.neg, .slice aX1 m.w.ls.length ac1, .int .i64 m.w.ex, .bool m.c.neg, .slice aX2 m.c.ls.length ac2, .int .i64 m.c.ex, .bool m.a.neg, .slice aX3 m.a.ls.length ac3, .int .i64 m.a.ex] 27)).alloc (.cells #[.bool k.s.neg, .slice bX0 k.s.ls.length bc0, .int .i64 k.s.ex, .bool k.w.neg, .slice bX1 k.w.ls.length bc1, .int .i64 k.w.ex, .bool k.c.neg, .slice bX2 k.c.ls.length bc2, .int .i64 k.c.ex, .bool k.a.neg, .slice bX3 k.a.ls.length bc3, .int .i64 k.a.ex] 27)).alloc (.cells #[.func (.func 52) #[] #[]] 82)) 27 #[.bool false, .slice none 0 0, .int .i64 0, .bool false, .slice none 0 0, .int .i64 0, .bool false, .slice none 0 0, .int .i64 0, .bool false, .slice none 0 0, .int .i64 0]
    simp only [World.size_alloc] at h
    rw [hV]; exact h
  have hB : Below w.heap.size w V := by rw [hV]; exact ((((Below.refl _ w).alloc (Nat.le_refl _) _).alloc (by simp) _).alloc (by simp; omega) _).alloc (by simp; omega) _
  have sz : V.heap.size = w.heap.size + 4 := by rw [hV]; simp
  have raV : RdM V V.heap.size m.s.neg aX0 m.s.ls.length ac0 m.s.ex m.w.neg aX1 m.w.ls.length ac1 m.w.ex m.c.neg aX2 m.c.ls.length ac2 m.c.ex m.a.neg aX3 m.a.ls.length ac3 m.a.ex m := ra.below hB hB.size
  have rbV : RdM V V.heap.size k.s.neg bX0 k.s.ls.length bc0 k.s.ex k.w.neg bX1 k.w.ls.length bc1 k.w.ex k.c.neg bX2 k.c.ls.length bc2 k.c.ex k.a.neg bX3 k.a.ls.length bc3 k.a.ex k := rb.below hB hB.size
  obtain ⟨Qa, hQa⟩ : ∃ Q, mayM m = Q := ⟨_, rfl⟩
  obtain ⟨Qb, hQb⟩ : ∃ Q, mayM k = Q := ⟨_, rfl⟩
  have hca := fun V' h => mcheck_any _ _ _ _ _ _ _ _ _ _ _ _ _ _ _ _ _ _ _ _ m V' (raV.below h h.size) Qa hQa
  have hcb := fun V' h => mcheck_any _ _ _ _ _ _ _ _ _ _ _ _ _ _ _ _ _ _ _ _ k V' (rbV.below h h.size) Qb hQb
  have gT := Lib.hid hT
  have gra := Lib.hid ra
  have grb := Lib.hid rb
  have g0 := Lib.hid ka
  have g1 := Lib.hid kb
  have g2 := Lib.hid kf
  have g3 := Lib.hid kr
  have gB := Lib.hid hB
  have gsz := Lib.hid sz
  clear hT ra rb ka kb kf kr hB sz
  gi_wp2_with fail
  rw [← hV]
  clear hV
  refine ⟨trivial, ?_⟩
  refine (callsIn_wide.2 (hca V (Below.refl _ _))).mono ?_
  rintro en w1 ⟨rfl, hb1⟩
  cases Qa with
  | false =>
    have k3 := g3.out.below hb1 g3.out.lt
    have hB1 := gB.out.trans (hb1.mono gB.out.size)
    have y0 := k3.cell 0
    have y1 := k3.cell 1
    have y2 := k3.cell 2
    have y3 := k3.cell 3
    have y4 := k3.cell 4
    have y5 := k3.cell 5
    have y6 := k3.cell 6
    have y7 := k3.cell 7
    have y8 := k3.cell 8
    have y9 := k3.cell 9
    have y10 := k3.cell 10
    have y11 := k3.cell 11
    simp only [lgA, lgZ, lgS] at y0 y1 y2 y3 y4 y5 y6 y7 y8 y9 y10 y11
    have f0 := k3.frozen 0
    have f1 := k3.frozen 1
    have f2 := k3.frozen 2
    have f3 := k3.frozen 3
    have f4 := k3.frozen 4
    have f5 := k3.frozen 5
    have f6 := k3.frozen 6
    have f7 := k3.frozen 7
    have f8 := k3.frozen 8
    have f9 := k3.frozen 9
    have f10 := k3.frozen 10
    have f11 := k3.frozen 11
    have kz := blk12 k3 (.bool false) (.slice none 0 0) (.int .i64 0) (.bool false) (.slice none 0 0) (.int .i64 0) (.bool false) (.slice none 0 0) (.int .i64 0) (.bool false) (.slice none 0 0) (.int .i64 0)
    have hBz := (((((((((((hB1.setCell (p := ⟨(w.heap.size + 3), 0, none⟩) (by show w.heap.size ≤ (w.heap.size + 3); omega) (.bool false)).setCell (p := ⟨(w.heap.size + 3), 1, none⟩) (by show w.heap.size ≤ (w.heap.size + 3); omega) (.slice none 0 0)).setCell (p := ⟨(w.heap.size + 3), 2, none⟩) (by show w.heap.size ≤ (w.heap.size + 3); omega) (.int .i64 0)).setCell (p := ⟨(w.heap.size + 3), 3, none⟩) (by show w.heap.size ≤ (w.heap.size + 3); omega) (.bool false)).setCell (p := ⟨(w.heap.size + 3), 4, none⟩) (by show w.heap.size ≤ (w.heap.size + 3); omega) (.slice none 0 0)).setCell (p := ⟨(w.heap.size + 3), 5, none⟩) (by show w.heap.size ≤ (w.heap.size + 3); omega) (.int .i64 0)).setCell (p := ⟨(w.heap.size + 3), 6, none⟩) (by show w.heap.size ≤ (w.heap.size + 3); omega) (.bool false)).setCell (p := ⟨(w.heap.size + 3), 7, none⟩) (by show w.heap.size ≤ (w.heap.size + 3); omega) (.slice none 0 0)).setCell (p := ⟨(w.heap.size + 3), 8, none⟩) (by show w.heap.size ≤ (w.heap.size + 3); omega) (.int .i64 0)).setCell (p := ⟨(w.heap.size + 3), 9, none⟩) (by show w.heap.size ≤ (w.heap.size + 3); omega) (.bool false)).setCell (p := ⟨(w.heap.size + 3), 10, none⟩) (by show w.heap.size ≤ (w.heap.size + 3); omega) (.slice none 0 0)).setCell (p := ⟨(w.heap.size + 3), 11, none⟩) (by show w.heap.size ≤ (w.heap.size + 3); omega) (.int .i64 0)
    gi_wp2
    refine ⟨trivial, ?_⟩
    gi_wp2
    exact ⟨_, ret_mass rfl _ _ (w.heap.size + 3) #[.bool false, .slice none 0 0, .int .i64 0, .bool false, .slice none 0 0, .int .i64 0, .bool false, .slice none 0 0, .int .i64 0, .bool false, .slice none 0 0, .int .i64 0] (.int .i64 8) rfl kz (by kernel_rfl) rfl, hBz, .inl ⟨by rw [hQa]; rfl, rfl⟩⟩
  | true =>
    have kb1 := g1.out.below hb1 g1.out.lt
    have b0 := kb1.cell 0
    have b1 := kb1.cell 1
    have b2 := kb1.cell 2
    have b3 := kb1.cell 3
    have b4 := kb1.cell 4
    have b5 := kb1.cell 5
    have b6 := kb1.cell 6
    have b7 := kb1.cell 7
    have b8 := kb1.cell 8
    have b9 := kb1.cell 9
    have b10 := kb1.cell 10
    have b11 := kb1.cell 11
    simp only [lgA, lgZ, lgS] at b0 b1 b2 b3 b4 b5 b6 b7 b8 b9 b10 b11
    gi_wp2_with fail
    refine ⟨trivial, ?_⟩
    refine (callsIn_wide.2 (hcb w1 hb1)).mono ?_
    rintro en w2 ⟨rfl, hb2⟩
    have hV2 : Below V.heap.size V w2 := hb1.trans (hb2.mono hb1.size)
    have hB2 := gB.out.trans (hV2.mono gB.out.size)
    cases Qb with
    | false =>
      have k3 := g3.out.below hV2 g3.out.lt
      have y0 := k3.cell 0
      have y1 := k3.cell 1
      have y2 := k3.cell 2
      have y3 := k3.cell 3
      have y4 := k3.cell 4
      have y5 := k3.cell 5
      have y6 := k3.cell 6
      have y7 := k3.cell 7
      have y8 := k3.cell 8
      have y9 := k3.cell 9
      have y10 := k3.cell 10
      have y11 := k3.cell 11
      simp only [lgA, lgZ, lgS] at y0 y1 y2 y3 y4 y5 y6 y7 y8 y9 y10 y11
      have f0 := k3.frozen 0
      have f1 := k3.frozen 1
      have f2 := k3.frozen 2
      have f3 := k3.frozen 3
      have f4 := k3.frozen 4
      have f5 := k3.frozen 5
      have f6 := k3.frozen 6
      have f7 := k3.frozen 7
      have f8 := k3.frozen 8
      have f9 := k3.frozen 9
      have f10 := k3.frozen 10
      have f11 := k3.frozen 11
      have kz := blk12 k3 (.bool false) (.slice none 0 0) (.int .i64 0) (.bool false) (.slice none 0 0) (.int .i64 0) (.bool false) (.slice none 0 0) (.int .i64 0) (.bool false) (.slice none 0 0) (.int .i64 0)
      have hBz := (((((((((((hB2.setCell (p := ⟨(w.heap.size + 3), 0, none⟩) (by show w.heap.size ≤ (w.heap.size + 3); omega) (.bool false)).setCell (p := ⟨(w.heap.size + 3), 1, none⟩) (by show w.heap.size ≤ (w.heap.size + 3); omega) (.slice none 0 0)).setCell (p := ⟨(w.heap.size + 3), 2, none⟩) (by show w.heap.size ≤ (w.heap.size + 3); omega) (.int .i64 0)).setCell (p := ⟨(w.heap.size + 3), 3, none⟩) (by show w.heap.size ≤ (w.heap.size + 3); omega) (.bool false)).setCell (p := ⟨(w.heap.size + 3), 4, none⟩) (by show w.heap.size ≤ (w.heap.size + 3); omega) (.slice none 0 0)).setCell (p := ⟨(w.heap.size + 3), 5, none⟩) (by show w.heap.size ≤ (w.heap.size + 3); omega) (.int .i64 0)).setCell (p := ⟨(w.heap.size + 3), 6, none⟩) (by show w.heap.size ≤ (w.heap.size + 3); omega) (.bool false)).setCell (p := ⟨(w.heap.size + 3), 7, none⟩) (by show w.heap.size ≤ (w.heap.size + 3); omega) (.slice none 0 0)).setCell (p := ⟨(w.heap.size + 3), 8, none⟩) (by show w.heap.size ≤ (w.heap.size + 3); omega) (.int .i64 0)).setCell (p := ⟨(w.heap.size + 3), 9, none⟩) (by show w.heap.size ≤ (w.heap.size + 3); omega) (.bool false)).setCell (p := ⟨(w.heap.size + 3), 10, none⟩) (by show w.heap.size ≤ (w.heap.size + 3); omega) (.slice none 0 0)).setCell (p := ⟨(w.heap.size + 3), 11, none⟩) (by show w.heap.size ≤ (w.heap.size + 3); omega) (.int .i64 0)
      gi_wp2
      exact ⟨_, ret_mass rfl _ _ (w.heap.size + 3) #[.bool false, .slice none 0 0, .int .i64 0, .bool false, .slice none 0 0, .int .i64 0, .bool false, .slice none 0 0, .int .i64 0, .bool false, .slice none 0 0, .int .i64 0] (.int .i64 8) rfl kz (by kernel_rfl) rfl, hBz, .inl ⟨by rw [hQa, hQb]; rfl, rfl⟩⟩
    | true =>
      have hpt := parts_any ⟨w.heap.size, 0, none⟩ ⟨w.heap.size + 1, 0, none⟩ (w2.alloc (.cells #[.int .i64 0] 37))
      simp only [World.size_alloc] at hpt
      obtain ⟨W5, hW5⟩ : ∃ W5, W5 = (((w2.alloc (.cells #[.int .i64 0] 37)).alloc (.cells #[.pointer (some ⟨w.heap.size, 0, none⟩)] 79)).alloc (.cells #[.pointer (some ⟨w.heap.size + 1, 0, none⟩)] 79)) := ⟨_, rfl⟩
      have hB5 : Below w2.heap.size w2 W5 := by rw [hW5]; exact (((Below.refl _ w2).alloc (Nat.le_refl _) _).alloc (by simp) _).alloc (by simp; omega) _
      have hV5 : Below V.heap.size V W5 := hV2.trans (hB5.mono hV2.size)
      have B0 := g0.out.below hV5 g0.out.lt
      have B1 := g1.out.below hV5 g1.out.lt
      have B2 := g2.out.below hV5 g2.out.lt
      have BR := g3.out.below hV5 g3.out.lt
      have hB : Below w.heap.size w W5 := gB.out.trans (hV5.mono gB.out.size)
      have BE : Blk W5 w2.heap.size 37 #[.int .i64 0] := by rw [hW5]; exact ((Blk.new w2 _ _).alloc _).alloc _
      have B3 : Blk W5 (w2.heap.size + 1) 79 #[.pointer (some ⟨w.heap.size, 0, none⟩)] := by
        have h := (Blk.new (w2.alloc (.cells #[.int .i64 0] 37)) 79 #[.pointer (some ⟨w.heap.size, 0, none⟩)]).alloc (.cells #[.pointer (some ⟨w.heap.size + 1, 0, none⟩)] 79)
        simp only [World.size_alloc] at h
        rw [hW5]; exact h
      have B4 : Blk W5 (w2.heap.size + 2) 79 #[.pointer (some ⟨w.heap.size + 1, 0, none⟩)] := by
        have h := Blk.new ((w2.alloc (.cells #[.int .i64 0] 37)).alloc (.cells #[.pointer (some ⟨w.heap.size, 0, none⟩)] 79)) 79 #[.pointer (some ⟨w.heap.size + 1, 0, none⟩)]
        simp only [World.size_alloc] at h
        rw [hW5]; exact h
      have s2 : w.heap.size + 4 ≤ w2.heap.size := by have := hV2.size; have := gsz.out; omega
      have sz5 : W5.heap.size = w2.heap.size + 3 := by rw [hW5]; simp
      have gma := Lib.hid (mayM_each hQa)
      have gmk := Lib.hid (mayM_each hQb)
      have gs5 := Lib.hid sz5
      have gs2 := Lib.hid s2
      have gh5 := Lib.hid hV5
      gi_wp2_with (refine ⟨trivial, ?_⟩; gi_at_call 50; refine (callsIn_wide.2 hpt).mono ?_; rintro e W' ⟨rfl, rfl⟩)
      rw [← hW5]
      clear hW5 hpt sz5 s2 hca hcb
      have q3 := B3.cell 0
      have q4 := B4.cell 0
      simp only [List.getElem?_toArray, List.getElem?_cons_zero] at q3 q4
      refine wpIn_rangeFunc_ownF rfl (by omega) (gf := 75) (lb := #[.pointer (some ⟨w2.heap.size + 1, 0, none⟩), .pointer (some ⟨w2.heap.size + 2, 0, none⟩)]) rfl trivial (enters_of Tryd.func75 (by kernel_rfl) rfl)
        (parts_seq _ _ _ _ _ (by omega) W5 q3 q4) kpM_t (kpM_b (by rw [gs5.out]; omega) (by rw [gs5.out]; omega)) (Below.refl _ _) (fun _ => rfl)
        (fun pre W => (∃ E : Int, (Blk W (w.heap.size + 1) 27 #[.bool k.s.neg, .slice bX0 k.s.ls.length bc0, .int .i64 k.s.ex, .bool k.w.neg, .slice bX1 k.w.ls.length bc1, .int .i64 k.w.ex, .bool k.c.neg, .slice bX2 k.c.ls.length bc2, .int .i64 k.c.ex, .bool k.a.neg, .slice bX3 k.a.ls.length bc3, .int .i64 k.a.ex] ∧ Blk W (w.heap.size + 2) 82 #[.func (.func 52) #[] #[]] ∧ Blk W (w.heap.size + 3) 27 #[.bool false, .slice none 0 0, .int .i64 0, .bool false, .slice none 0 0, .int .i64 0, .bool false, .slice none 0 0, .int .i64 0, .bool false, .slice none 0 0, .int .i64 0] ∧ Blk W w2.heap.size 37 #[.int .i64 E] ∧ Blk W (w2.heap.size + 1) 79 #[.pointer (some ⟨w.heap.size, 0, none⟩)] ∧ Blk W (w2.heap.size + 2) 79 #[.pointer (some ⟨w.heap.size + 1, 0, none⟩)]) ∧ ((E = 0 ∧ ∃ (d0 : Dy) (X0 : Option Addr) (c0 : Nat) (d1 : Dy) (X1 : Option Addr) (c1 : Nat) (d2 : Dy) (X2 : Option Addr) (c2 : Nat) (d3 : Dy) (X3 : Option Addr) (c3 : Nat), Blk W w.heap.size 27 #[.bool d0.neg, .slice X0 d0.ls.length c0, .int .i64 d0.ex, .bool d1.neg, .slice X1 d1.ls.length c1, .int .i64 d1.ex, .bool d2.neg, .slice X2 d2.ls.length c2, .int .i64 d2.ex, .bool d3.neg, .slice X3 d3.ls.length c3, .int .i64 d3.ex] ∧ StS W (w2.heap.size + 3) m.s k.s aX0 ac0 (pre.count p0) d0 X0 c0 ∧ StS W (w2.heap.size + 3) m.w k.w aX1 ac1 (pre.count p1) d1 X1 c1 ∧ StS W (w2.heap.size + 3) m.c k.c aX2 ac2 (pre.count p2) d2 X2 c2 ∧ StS W (w2.heap.size + 3) m.a k.a aX3 ac3 (pre.count p3) d3 X3 c3) ∨ ((E != 0) = true ∧ ((∀ i, pre.count i ≤ 1) → E = 10 ∧ addM m k = none)))) ∧ Below w.heap.size w W)
        (fun _ _ _ => False)
        (OwnFrom.and (Own.from (fun s A B row hs hg hr => by
          obtain ⟨E, ⟨h1, h2, h3, h4, h5, h6⟩, hs⟩ := hs
          refine ⟨E, ⟨blk_own (β := Nat) _ _ (fun _ => _) 0 A B row h1 hg hr, blk_own (β := Nat) _ _ (fun _ => _) 0 A B row h2 hg hr, blk_own (β := Nat) _ _ (fun _ => _) 0 A B row h3 hg hr, blk_own (β := Nat) _ _ (fun _ => _) 0 A B row h4 hg hr, blk_own (β := Nat) _ _ (fun _ => _) 0 A B row h5 hg hr, blk_own (β := Nat) _ _ (fun _ => _) 0 A B row h6 hg hr⟩, hs.imp ?_ id⟩
          rintro ⟨e0, d0, X0, c0, d1, X1, c1, d2, X2, c2, d3, X3, c3, hv, s0, s1, s2, s3⟩
          exact ⟨e0, d0, X0, c0, d1, X1, c1, d2, X2, c2, d3, X3, c3, blk_own (β := Nat) _ _ (fun _ => _) 0 A B row hv hg hr, s0.map (fun h => ownR_own h hg hr), s1.map (fun h => ownR_own h hg hr), s2.map (fun h => ownR_own h hg hr), s3.map (fun h => ownR_own h hg hr)⟩) _) (ownFrom_below (Nat.le_refl _) (by rw [gs5.out]; have := gs2.out; omega)))
        (fun _ _ _ _ _ hs _ _ => hs)
        ⟨⟨0, ⟨B1, B2, BR, BE, B3, B4⟩, .inl ⟨rfl, m.s, aX0, ac0, m.w, aX1, ac1, m.c, aX2, ac2, m.a, aX3, ac3, B0, ⟨lm.1, gra.out.1.2.2.2.1, .inl ⟨rfl, rfl, rfl, rfl⟩⟩, ⟨lm.2.1, gra.out.2.1.2.2.2.1, .inl ⟨rfl, rfl, rfl, rfl⟩⟩, ⟨lm.2.2.1, gra.out.2.2.1.2.2.2.1, .inl ⟨rfl, rfl, rfl, rfl⟩⟩, ⟨lm.2.2.2, gra.out.2.2.2.2.2.2.1, .inl ⟨rfl, rfl, rfl, rfl⟩⟩⟩⟩, hB⟩
        (fun x => { tmps := #[.agg #[.bool m.s.neg, .slice aX0 m.s.ls.length ac0, .int .i64 m.s.ex, .bool m.w.neg, .slice aX1 m.w.ls.length ac1, .int .i64 m.w.ex, .bool m.c.neg, .slice aX2 m.c.ls.length ac2, .int .i64 m.c.ex, .bool m.a.neg, .slice aX3 m.a.ls.length ac3, .int .i64 m.a.ex], .agg #[.bool k.s.neg, .slice bX0 k.s.ls.length bc0, .int .i64 k.s.ex, .bool k.w.neg, .slice bX1 k.w.ls.length bc1, .int .i64 k.w.ex, .bool k.c.neg, .slice bX2 k.c.ls.length bc2, .int .i64 k.c.ex, .bool k.a.neg, .slice bX3 k.a.ls.length bc3, .int .i64 k.a.ex], .func (.func 52) #[] #[], .pointer (some ⟨w.heap.size, 0, none⟩), .pointer (some ⟨w.heap.size + 1, 0, none⟩), .pointer (some ⟨w.heap.size + 1 + 1, 0, none⟩), .pointer (some ⟨w.heap.size + 1 + 1 + 1, 0, none⟩), .int .i64 0, .pointer (some ⟨w2.heap.size, 0, none⟩), .pointer (some ⟨w.heap.size, 3 * x.1, none⟩), .pointer (some ⟨w.heap.size + 1, 3 * x.1, none⟩), .agg #[.bool m.s.neg, .slice aX0 m.s.ls.length ac0, .int .i64 m.s.ex, .bool m.w.neg, .slice aX1 m.w.ls.length ac1, .int .i64 m.w.ex, .bool m.c.neg, .slice aX2 m.c.ls.length ac2, .int .i64 m.c.ex, .bool m.a.neg, .slice aX3 m.a.ls.length ac3, .int .i64 m.a.ex], .int .i64 0, .bool false, .bool false, .agg #[.bool k.s.neg, .slice bX0 k.s.ls.length bc0, .int .i64 k.s.ex, .bool k.w.neg, .slice bX1 k.w.ls.length bc1, .int .i64 k.w.ex, .bool k.c.neg, .slice bX2 k.c.ls.length bc2, .int .i64 k.c.ex, .bool k.a.neg, .slice bX3 k.a.ls.length bc3, .int .i64 k.a.ex], .int .i64 0, .bool false, .bool false, undef, .func (.func 75) #[] #[.pointer (some ⟨w2.heap.size + 1, 0, none⟩), .pointer (some ⟨w2.heap.size + 1 + 1, 0, none⟩)], .pointer (some ⟨w.heap.size, 3 * x.1, none⟩), .pointer (some ⟨w.heap.size + 1, 3 * x.1, none⟩), undef, undef, undef, undef, undef, undef, undef, undef, undef, undef, undef, undef, undef, undef, undef, undef, undef, undef, undef, undef], defers := [] }) ?assign ?body ?done ?stop
      case assign =>
        intro l x W K hK
        gi_wp2
        exact hK
      case body =>
        rintro l pre ⟨i, hi⟩ W ⟨⟨E, ⟨h1, h2, h3, h4, h5, h6⟩, hs⟩, hW⟩ _
        have e0 := h4.cell 0
        simp only [List.getElem?_toArray, List.getElem?_cons_zero] at e0
        rcases hs with ⟨rfl, d0, X0, c0, d1, X1, c1, d2, X2, c2, d3, X3, c3, hv, s0, s1, s2, s3⟩ | ⟨hE, hf⟩
        · have hi4 : i = 0 ∨ i = 1 ∨ i = 2 ∨ i = 3 := by omega
          rcases hi4 with rfl | rfl | rfl | rfl
          · skip
            have x0 := hv.cell 0
            have x1 := hv.cell 1
            have x2 := hv.cell 2
            simp only [lgA, lgZ, lgS] at x0 x1 x2
            have hd : ∀ w', Below W.heap.size W w' → Calls Tryd.prog 52 #[.agg #[.bool d0.neg, .slice X0 d0.ls.length c0, .int .i64 d0.ex], .agg #[.bool k.s.neg, .slice bX0 k.s.ls.length bc0, .int .i64 k.s.ex]] w' (AddR d0 k.s w') := fun w' h => addR_any d0 k.s s0.1 lk.1 X0 bX0 c0 bc0 w' ⟨rfl, rfl, rfl, s0.2.1, ((s0.reads gra.out.1.2.2.2.2 hW).below h).more h.size⟩ (grb.out.1.below (hW.trans (h.mono hW.size)) (Nat.le_trans hW.size h.size)) (gT.out.below (hW.trans (h.mono hW.size)) gT.out.2)
            have hBd : Below W.heap.size W W.drew := Below.drew (Below.refl _ _)
            have hl6 := h6.lt
            have hs2 := gs2.out
            gi_wp2
            refine wpIn_held_round (S := fun w' => w'.cell? ⟨w.heap.size + 1 + 1, 0, none⟩ = some (.func (.func 52) #[] #[]) ∧ w'.cell? ⟨w.heap.size + 1, 0, none⟩ = some (.bool k.s.neg) ∧ w'.cell? ⟨w.heap.size + 1, 1, none⟩ = some (.slice bX0 k.s.ls.length bc0) ∧ w'.cell? ⟨w.heap.size + 1, 2, none⟩ = some (.int .i64 k.s.ex)) (by kernel_rfl) (by kernel_rfl) (by rintro ⟨_, _, h⟩; exact h) (⟨by rw [(h2.drew).cell]; rfl, by rw [(h1.drew).cell]; rfl, by rw [(h1.drew).cell]; rfl, by rw [(h1.drew).cell]; rfl⟩) (fun hHeld => ?_)
            refine tkY 0 (h := ?_)
            (try simp only [Act.put, lsA, lsZ, lsS])
            refine tkY 1 (h := ?_)
            (try simp only [Act.put, lsA, lsZ, lsS])
            refine tkY 2 (h := ?_)
            (try simp only [Act.put, lsA, lsZ, lsS])
            refine tkY 3 (h := ?_)
            (try simp only [Act.put, lsA, lsZ, lsS])
            refine tkY 5 (h := ?_)
            (try simp only [Act.put, lsA, lsZ, lsS])
            refine tkY 6 (h := ?_)
            (try simp only [Act.put, lsA, lsZ, lsS])
            refine tkY 7 (h := ?_)
            (try simp only [Act.put, lsA, lsZ, lsS])
            refine tkR 4 (h := fun K hK => ?_)
            go_simp
            refine hK.out _ _ (⟨by rw [(h2.drew).cell]; rfl, by rw [(h1.drew).cell]; rfl, by rw [(h1.drew).cell]; rfl, by rw [(h1.drew).cell]; rfl⟩) (fun hHeld => ?_)
            clear hK K
            (try simp only [Act.put, lsA, lsZ, lsS])
            refine tkR 8 (h := fun K hK => ?_)
            go_simp
            with_reducible refine (hd _ hBd).mono ?_
            rintro en W6 ⟨dn, Xn, cn, En, rfl, hb6, hres⟩
            have hb7 : Below W.heap.size W W6 := hBd.trans (hb6.mono hBd.size)
            have gb7 := Lib.hid hb7
            have gb6 := Lib.hid hb6
            have gres := Lib.hid hres
            have v6 := hv.below hb7 hv.lt
            have k1 := h1.below hb7 h1.lt
            have k2 := h2.below hb7 h2.lt
            have k4 := h4.below hb7 h4.lt
            have z0 := v6.cell 0
            have z1 := v6.cell 1
            have z2 := v6.cell 2
            simp only [lgA, lgZ, lgS] at z0 z1 z2
            have f0 := v6.frozen 0
            have f1 := v6.frozen 1
            have f2 := v6.frozen 2
            have l6 := v6.lt
            have k43 : Blk (((W6.setCell ⟨w.heap.size, 0, none⟩ (.bool dn.neg)).setCell ⟨w.heap.size, 1, none⟩ (.slice Xn dn.ls.length cn)).setCell ⟨w.heap.size, 2, none⟩ (.int .i64 dn.ex)) w2.heap.size 37 #[.int .i64 0] := (((k4).far (p := ⟨w.heap.size, 0, none⟩) (by show _ ≠ w.heap.size; omega) (.bool dn.neg)).far (p := ⟨w.heap.size, 1, none⟩) (by show _ ≠ w.heap.size; omega) (.slice Xn dn.ls.length cn)).far (p := ⟨w.heap.size, 2, none⟩) (by show _ ≠ w.heap.size; omega) (.int .i64 dn.ex)
            have e3 := k43.cell 0
            have ef3 := k43.frozen 0
            simp only [List.getElem?_toArray, List.getElem?_cons_zero] at e3
            have gv6 := Lib.hid v6
            have gk1 := Lib.hid k1
            have gk2 := Lib.hid k2
            have gk4 := Lib.hid k4
            clear hb7 hb6 hres v6 k1 k2 k4 k43
            refine hK.out _ _ (⟨by rw [(gk2.out).cell]; rfl, by rw [(gk1.out).cell]; rfl, by rw [(gk1.out).cell]; rfl, by rw [(gk1.out).cell]; rfl⟩) (fun hHeld => ?_)
            clear hK K
            (try simp only [Act.put, lsA, lsZ, lsS])
            refine tkY 9 (h := ?_)
            (try simp only [Act.put, lsA, lsZ, lsS])
            refine tkY 10 (h := ?_)
            (try simp only [Act.put, lsA, lsZ, lsS])
            refine tkY 11 (h := ?_)
            (try simp only [Act.put, lsA, lsZ, lsS])
            refine tkY 12 (h := ?_)
            (try simp only [Act.put, lsA, lsZ, lsS])
            refine tkR 13 (h := fun K hK => ?_)
            go_simp
            refine hK.out _ _ (⟨by rw [((((gk2.out).far (p := ⟨w.heap.size, 0, none⟩) (by show _ ≠ w.heap.size; omega) (.bool dn.neg)).far (p := ⟨w.heap.size, 1, none⟩) (by show _ ≠ w.heap.size; omega) (.slice Xn dn.ls.length cn)).far (p := ⟨w.heap.size, 2, none⟩) (by show _ ≠ w.heap.size; omega) (.int .i64 dn.ex)).cell]; rfl, by rw [((((gk1.out).far (p := ⟨w.heap.size, 0, none⟩) (by show _ ≠ w.heap.size; omega) (.bool dn.neg)).far (p := ⟨w.heap.size, 1, none⟩) (by show _ ≠ w.heap.size; omega) (.slice Xn dn.ls.length cn)).far (p := ⟨w.heap.size, 2, none⟩) (by show _ ≠ w.heap.size; omega) (.int .i64 dn.ex)).cell]; rfl, by rw [((((gk1.out).far (p := ⟨w.heap.size, 0, none⟩) (by show _ ≠ w.heap.size; omega) (.bool dn.neg)).far (p := ⟨w.heap.size, 1, none⟩) (by show _ ≠ w.heap.size; omega) (.slice Xn dn.ls.length cn)).far (p := ⟨w.heap.size, 2, none⟩) (by show _ ≠ w.heap.size; omega) (.int .i64 dn.ex)).cell]; rfl, by rw [((((gk1.out).far (p := ⟨w.heap.size, 0, none⟩) (by show _ ≠ w.heap.size; omega) (.bool dn.neg)).far (p := ⟨w.heap.size, 1, none⟩) (by show _ ≠ w.heap.size; omega) (.slice Xn dn.ls.length cn)).far (p := ⟨w.heap.size, 2, none⟩) (by show _ ≠ w.heap.size; omega) (.int .i64 dn.ex)).cell]; rfl⟩) (fun hHeld => ?_)
            clear hK K
            (try simp only [Act.put, lsA, lsZ, lsS])
            refine tkR 14 (h := fun K hK => ?_)
            go_simp
            refine hK.out _ _ (⟨by rw [((((((gk2.out).far (p := ⟨w.heap.size, 0, none⟩) (by show _ ≠ w.heap.size; omega) (.bool dn.neg)).far (p := ⟨w.heap.size, 1, none⟩) (by show _ ≠ w.heap.size; omega) (.slice Xn dn.ls.length cn)).far (p := ⟨w.heap.size, 2, none⟩) (by show _ ≠ w.heap.size; omega) (.int .i64 dn.ex)).far (p := ⟨w2.heap.size, 0, none⟩) (by show _ ≠ w2.heap.size; omega) (.int .i64 En))).cell]; rfl, by rw [((((((gk1.out).far (p := ⟨w.heap.size, 0, none⟩) (by show _ ≠ w.heap.size; omega) (.bool dn.neg)).far (p := ⟨w.heap.size, 1, none⟩) (by show _ ≠ w.heap.size; omega) (.slice Xn dn.ls.length cn)).far (p := ⟨w.heap.size, 2, none⟩) (by show _ ≠ w.heap.size; omega) (.int .i64 dn.ex)).far (p := ⟨w2.heap.size, 0, none⟩) (by show _ ≠ w2.heap.size; omega) (.int .i64 En))).cell]; rfl, by rw [((((((gk1.out).far (p := ⟨w.heap.size, 0, none⟩) (by show _ ≠ w.heap.size; omega) (.bool dn.neg)).far (p := ⟨w.heap.size, 1, none⟩) (by show _ ≠ w.heap.size; omega) (.slice Xn dn.ls.length cn)).far (p := ⟨w.heap.size, 2, none⟩) (by show _ ≠ w.heap.size; omega) (.int .i64 dn.ex)).far (p := ⟨w2.heap.size, 0, none⟩) (by show _ ≠ w2.heap.size; omega) (.int .i64 En))).cell]; rfl, by rw [((((((gk1.out).far (p := ⟨w.heap.size, 0, none⟩) (by show _ ≠ w.heap.size; omega) (.bool dn.neg)).far (p := ⟨w.heap.size, 1, none⟩) (by show _ ≠ w.heap.size; omega) (.slice Xn dn.ls.length cn)).far (p := ⟨w.heap.size, 2, none⟩) (by show _ ≠ w.heap.size; omega) (.int .i64 dn.ex)).far (p := ⟨w2.heap.size, 0, none⟩) (by show _ ≠ w2.heap.size; omega) (.int .i64 En))).cell]; rfl⟩) (fun hHeld => ?_)
            clear hK K
            (try simp only [Act.put, lsA, lsZ, lsS])
            refine wpAnyH_done (by kernel_rfl) ?_ _
            refine NoPanic.normal ?_
            have hb7 := gb7.out
            have hg : W.grownBy W6 none := ⟨hb7.os, hb7.tape, hb7.output, hb7.size, fun k hk _ => hb7.block k hk⟩
            have hv3 : Blk (((W6.setCell ⟨w.heap.size, 0, none⟩ (.bool dn.neg)).setCell ⟨w.heap.size, 1, none⟩ (.slice Xn dn.ls.length cn)).setCell ⟨w.heap.size, 2, none⟩ (.int .i64 dn.ex)) w.heap.size 27 #[.bool dn.neg, .slice Xn dn.ls.length cn, .int .i64 dn.ex, .bool d1.neg, .slice X1 d1.ls.length c1, .int .i64 d1.ex, .bool d2.neg, .slice X2 d2.ls.length c2, .int .i64 d2.ex, .bool d3.neg, .slice X3 d3.ls.length c3, .int .i64 d3.ex] := blk3 (i := 0) (ds := #[.bool dn.neg, .slice Xn dn.ls.length cn, .int .i64 dn.ex, .bool d1.neg, .slice X1 d1.ls.length c1, .int .i64 d1.ex, .bool d2.neg, .slice X2 d2.ls.length c2, .int .i64 d2.ex, .bool d3.neg, .slice X3 d3.ls.length c3, .int .i64 d3.ex]) gv6.out (.bool dn.neg) (.slice Xn dn.ls.length cn) (.int .i64 dn.ex) (by simp)
            have hv9 : Blk ((((W6.setCell ⟨w.heap.size, 0, none⟩ (.bool dn.neg)).setCell ⟨w.heap.size, 1, none⟩ (.slice Xn dn.ls.length cn)).setCell ⟨w.heap.size, 2, none⟩ (.int .i64 dn.ex)).setCell ⟨w2.heap.size, 0, none⟩ (.int .i64 En)) w.heap.size 27 #[.bool dn.neg, .slice Xn dn.ls.length cn, .int .i64 dn.ex, .bool d1.neg, .slice X1 d1.ls.length c1, .int .i64 d1.ex, .bool d2.neg, .slice X2 d2.ls.length c2, .int .i64 d2.ex, .bool d3.neg, .slice X3 d3.ls.length c3, .int .i64 d3.ex] := hv3.far (p := ⟨w2.heap.size, 0, none⟩) (by show w.heap.size ≠ w2.heap.size; omega) (.int .i64 En)
            have k19 := (((((gk1.out).far (p := ⟨w.heap.size, 0, none⟩) (by show _ ≠ w.heap.size; omega) (.bool dn.neg)).far (p := ⟨w.heap.size, 1, none⟩) (by show _ ≠ w.heap.size; omega) (.slice Xn dn.ls.length cn)).far (p := ⟨w.heap.size, 2, none⟩) (by show _ ≠ w.heap.size; omega) (.int .i64 dn.ex)).far (p := ⟨w2.heap.size, 0, none⟩) (by show _ ≠ w2.heap.size; omega) (.int .i64 En))
            have k29 := (((((gk2.out).far (p := ⟨w.heap.size, 0, none⟩) (by show _ ≠ w.heap.size; omega) (.bool dn.neg)).far (p := ⟨w.heap.size, 1, none⟩) (by show _ ≠ w.heap.size; omega) (.slice Xn dn.ls.length cn)).far (p := ⟨w.heap.size, 2, none⟩) (by show _ ≠ w.heap.size; omega) (.int .i64 dn.ex)).far (p := ⟨w2.heap.size, 0, none⟩) (by show _ ≠ w2.heap.size; omega) (.int .i64 En))
            have k39 := (((((h3.below hb7 h3.lt).far (p := ⟨w.heap.size, 0, none⟩) (by show _ ≠ w.heap.size; omega) (.bool dn.neg)).far (p := ⟨w.heap.size, 1, none⟩) (by show _ ≠ w.heap.size; omega) (.slice Xn dn.ls.length cn)).far (p := ⟨w.heap.size, 2, none⟩) (by show _ ≠ w.heap.size; omega) (.int .i64 dn.ex)).far (p := ⟨w2.heap.size, 0, none⟩) (by show _ ≠ w2.heap.size; omega) (.int .i64 En))
            have k49 : Blk ((((W6.setCell ⟨w.heap.size, 0, none⟩ (.bool dn.neg)).setCell ⟨w.heap.size, 1, none⟩ (.slice Xn dn.ls.length cn)).setCell ⟨w.heap.size, 2, none⟩ (.int .i64 dn.ex)).setCell ⟨w2.heap.size, 0, none⟩ (.int .i64 En)) w2.heap.size 37 #[.int .i64 En] := by have h := ((((gk4.out).far (p := ⟨w.heap.size, 0, none⟩) (by show _ ≠ w.heap.size; omega) (.bool dn.neg)).far (p := ⟨w.heap.size, 1, none⟩) (by show _ ≠ w.heap.size; omega) (.slice Xn dn.ls.length cn)).far (p := ⟨w.heap.size, 2, none⟩) (by show _ ≠ w.heap.size; omega) (.int .i64 dn.ex)).set_ 0 (.int .i64 En); simpa using h
            have k59 := (((((h5.below hb7 h5.lt).far (p := ⟨w.heap.size, 0, none⟩) (by show _ ≠ w.heap.size; omega) (.bool dn.neg)).far (p := ⟨w.heap.size, 1, none⟩) (by show _ ≠ w.heap.size; omega) (.slice Xn dn.ls.length cn)).far (p := ⟨w.heap.size, 2, none⟩) (by show _ ≠ w.heap.size; omega) (.int .i64 dn.ex)).far (p := ⟨w2.heap.size, 0, none⟩) (by show _ ≠ w2.heap.size; omega) (.int .i64 En))
            have k69 := (((((h6.below hb7 h6.lt).far (p := ⟨w.heap.size, 0, none⟩) (by show _ ≠ w.heap.size; omega) (.bool dn.neg)).far (p := ⟨w.heap.size, 1, none⟩) (by show _ ≠ w.heap.size; omega) (.slice Xn dn.ls.length cn)).far (p := ⟨w.heap.size, 2, none⟩) (by show _ ≠ w.heap.size; omega) (.int .i64 dn.ex)).far (p := ⟨w2.heap.size, 0, none⟩) (by show _ ≠ w2.heap.size; omega) (.int .i64 En))
            have hW9 : Below w.heap.size w ((((W6.setCell ⟨w.heap.size, 0, none⟩ (.bool dn.neg)).setCell ⟨w.heap.size, 1, none⟩ (.slice Xn dn.ls.length cn)).setCell ⟨w.heap.size, 2, none⟩ (.int .i64 dn.ex)).setCell ⟨w2.heap.size, 0, none⟩ (.int .i64 En)) := ((((hW.trans (hb7.mono hW.size)).setCell (p := ⟨w.heap.size, 0, none⟩) (Nat.le_refl _) _).setCell (p := ⟨w.heap.size, 1, none⟩) (Nat.le_refl _) _).setCell (p := ⟨w.heap.size, 2, none⟩) (Nat.le_refl _) _).setCell (p := ⟨w2.heap.size, 0, none⟩) (by show w.heap.size ≤ w2.heap.size; omega) _
            have hmv : ∀ {n : Nat} {X : Option Addr} {xs : List Value}, OwnR W (w2.heap.size + 3) 71 X n xs → OwnR ((((W6.setCell ⟨w.heap.size, 0, none⟩ (.bool dn.neg)).setCell ⟨w.heap.size, 1, none⟩ (.slice Xn dn.ls.length cn)).setCell ⟨w.heap.size, 2, none⟩ (.int .i64 dn.ex)).setCell ⟨w2.heap.size, 0, none⟩ (.int .i64 En)) (w2.heap.size + 3) 71 X n xs := fun h => ((((h.below hb7).far (p := ⟨w.heap.size, 0, none⟩) (by show w.heap.size < w2.heap.size + 3; omega) (.bool dn.neg)).far (p := ⟨w.heap.size, 1, none⟩) (by show w.heap.size < w2.heap.size + 3; omega) (.slice Xn dn.ls.length cn)).far (p := ⟨w.heap.size, 2, none⟩) (by show w.heap.size < w2.heap.size + 3; omega) (.int .i64 dn.ex)).far (p := ⟨w2.heap.size, 0, none⟩) (by show w2.heap.size < w2.heap.size + 3; omega) (.int .i64 En)
            have q0 : (pre ++ [(⟨0, hi⟩ : P4)]).count p0 = pre.count p0 + 1 := by rw [List.count_append]; rfl
            have q1 : (pre ++ [(⟨0, hi⟩ : P4)]).count p1 = pre.count p1 := by rw [List.count_append]; rfl
            have q2 : (pre ++ [(⟨0, hi⟩ : P4)]).count p2 = pre.count p2 := by rw [List.count_append]; rfl
            have q3 : (pre ++ [(⟨0, hi⟩ : P4)]).count p3 = pre.count p3 := by rw [List.count_append]; rfl
            gi_wp2
            refine ⟨((KeepsOthers.of_grownBy hg (fun j o e ho => by cases e)).trans (KeepsOthers.setCell _ _ _)).trans ((KeepsOthers.setCell _ _ _).trans ((KeepsOthers.setCell _ _ _).trans (KeepsOthers.setCell _ _ _))), ⟨(k59.cell 0).trans (h5.cell 0).symm, (k69.cell 0).trans (h6.cell 0).symm⟩, ⟨En, ⟨k19, k29, k39, k49, k59, k69⟩, ?_⟩, hW9⟩
            rcases gres.out with ⟨rfl, hm⟩ | ⟨rfl, hm⟩ | ⟨rfl, hm, hod⟩
            · refine .inr ⟨rfl, fun hc => ?_⟩
              have hck := hc p0
              rw [q0] at hck
              rcases s0.2.2 with ⟨_, hd0, _⟩ | ⟨hp, _⟩
              · rw [hd0, gma.out.1, gmk.out.1] at hm; cases hm
              · omega
            · refine .inr ⟨rfl, fun hc => ?_⟩
              have hck := hc p0
              rw [q0] at hck
              rcases s0.2.2 with ⟨_, hd0, _⟩ | ⟨hp, _⟩
              · rw [hd0] at hm; exact ⟨rfl, addM_no (.inl hm)⟩
              · omega
            · have S0 : StS ((((W6.setCell ⟨w.heap.size, 0, none⟩ (.bool dn.neg)).setCell ⟨w.heap.size, 1, none⟩ (.slice Xn dn.ls.length cn)).setCell ⟨w.heap.size, 2, none⟩ (.int .i64 dn.ex)).setCell ⟨w2.heap.size, 0, none⟩ (.int .i64 0)) (w2.heap.size + 3) m.s k.s aX0 ac0 ((pre ++ [(⟨0, hi⟩ : P4)]).count p0) dn Xn cn := ⟨(form_ok hm).1.2, hod.1, .inr ⟨by rw [q0]; exact Nat.succ_pos _, ((((hod.2.base_le (show w2.heap.size + 3 ≤ W.drew.heap.size from hl6)).far (p := ⟨w.heap.size, 0, none⟩) (by show w.heap.size < w2.heap.size + 3; omega) (.bool dn.neg)).far (p := ⟨w.heap.size, 1, none⟩) (by show w.heap.size < w2.heap.size + 3; omega) (.slice Xn dn.ls.length cn)).far (p := ⟨w.heap.size, 2, none⟩) (by show w.heap.size < w2.heap.size + 3; omega) (.int .i64 dn.ex)).far (p := ⟨w2.heap.size, 0, none⟩) (by show w2.heap.size < w2.heap.size + 3; omega) (.int .i64 0), fun h1 => by
                rw [q0] at h1
                rcases s0.2.2 with ⟨_, hd0, _⟩ | ⟨hp, _⟩
                · rw [← hd0]; exact hm
                · omega⟩⟩
              have S1 : StS ((((W6.setCell ⟨w.heap.size, 0, none⟩ (.bool dn.neg)).setCell ⟨w.heap.size, 1, none⟩ (.slice Xn dn.ls.length cn)).setCell ⟨w.heap.size, 2, none⟩ (.int .i64 dn.ex)).setCell ⟨w2.heap.size, 0, none⟩ (.int .i64 0)) (w2.heap.size + 3) m.w k.w aX1 ac1 ((pre ++ [(⟨0, hi⟩ : P4)]).count p1) d1 X1 c1 := by rw [q1]; exact s1.map hmv
              have S2 : StS ((((W6.setCell ⟨w.heap.size, 0, none⟩ (.bool dn.neg)).setCell ⟨w.heap.size, 1, none⟩ (.slice Xn dn.ls.length cn)).setCell ⟨w.heap.size, 2, none⟩ (.int .i64 dn.ex)).setCell ⟨w2.heap.size, 0, none⟩ (.int .i64 0)) (w2.heap.size + 3) m.c k.c aX2 ac2 ((pre ++ [(⟨0, hi⟩ : P4)]).count p2) d2 X2 c2 := by rw [q2]; exact s2.map hmv
              have S3 : StS ((((W6.setCell ⟨w.heap.size, 0, none⟩ (.bool dn.neg)).setCell ⟨w.heap.size, 1, none⟩ (.slice Xn dn.ls.length cn)).setCell ⟨w.heap.size, 2, none⟩ (.int .i64 dn.ex)).setCell ⟨w2.heap.size, 0, none⟩ (.int .i64 0)) (w2.heap.size + 3) m.a k.a aX3 ac3 ((pre ++ [(⟨0, hi⟩ : P4)]).count p3) d3 X3 c3 := by rw [q3]; exact s3.map hmv
              exact .inl ⟨rfl, dn, Xn, cn, d1, X1, c1, d2, X2, c2, d3, X3, c3, hv9, S0, S1, S2, S3⟩
          · skip
            have x0 := hv.cell 3
            have x1 := hv.cell 4
            have x2 := hv.cell 5
            simp only [lgA, lgZ, lgS] at x0 x1 x2
            have hd : ∀ w', Below W.heap.size W w' → Calls Tryd.prog 52 #[.agg #[.bool d1.neg, .slice X1 d1.ls.length c1, .int .i64 d1.ex], .agg #[.bool k.w.neg, .slice bX1 k.w.ls.length bc1, .int .i64 k.w.ex]] w' (AddR d1 k.w w') := fun w' h => addR_any d1 k.w s1.1 lk.2.1 X1 bX1 c1 bc1 w' ⟨rfl, rfl, rfl, s1.2.1, ((s1.reads gra.out.2.1.2.2.2.2 hW).below h).more h.size⟩ (grb.out.2.1.below (hW.trans (h.mono hW.size)) (Nat.le_trans hW.size h.size)) (gT.out.below (hW.trans (h.mono hW.size)) gT.out.2)
            have hBd : Below W.heap.size W W.drew := Below.drew (Below.refl _ _)
            have hl6 := h6.lt
            have hs2 := gs2.out
            gi_wp2
            refine wpIn_held_round (S := fun w' => w'.cell? ⟨w.heap.size + 1 + 1, 0, none⟩ = some (.func (.func 52) #[] #[]) ∧ w'.cell? ⟨w.heap.size + 1, 3, none⟩ = some (.bool k.w.neg) ∧ w'.cell? ⟨w.heap.size + 1, 4, none⟩ = some (.slice bX1 k.w.ls.length bc1) ∧ w'.cell? ⟨w.heap.size + 1, 5, none⟩ = some (.int .i64 k.w.ex)) (by kernel_rfl) (by kernel_rfl) (by rintro ⟨_, _, h⟩; exact h) (⟨by rw [(h2.drew).cell]; rfl, by rw [(h1.drew).cell]; rfl, by rw [(h1.drew).cell]; rfl, by rw [(h1.drew).cell]; rfl⟩) (fun hHeld => ?_)
            refine tkY 0 (h := ?_)
            (try simp only [Act.put, lsA, lsZ, lsS])
            refine tkY 1 (h := ?_)
            (try simp only [Act.put, lsA, lsZ, lsS])
            refine tkY 2 (h := ?_)
            (try simp only [Act.put, lsA, lsZ, lsS])
            refine tkY 3 (h := ?_)
            (try simp only [Act.put, lsA, lsZ, lsS])
            refine tkY 5 (h := ?_)
            (try simp only [Act.put, lsA, lsZ, lsS])
            refine tkY 6 (h := ?_)
            (try simp only [Act.put, lsA, lsZ, lsS])
            refine tkY 7 (h := ?_)
            (try simp only [Act.put, lsA, lsZ, lsS])
            refine tkR 4 (h := fun K hK => ?_)
            go_simp
            refine hK.out _ _ (⟨by rw [(h2.drew).cell]; rfl, by rw [(h1.drew).cell]; rfl, by rw [(h1.drew).cell]; rfl, by rw [(h1.drew).cell]; rfl⟩) (fun hHeld => ?_)
            clear hK K
            (try simp only [Act.put, lsA, lsZ, lsS])
            refine tkR 8 (h := fun K hK => ?_)
            go_simp
            with_reducible refine (hd _ hBd).mono ?_
            rintro en W6 ⟨dn, Xn, cn, En, rfl, hb6, hres⟩
            have hb7 : Below W.heap.size W W6 := hBd.trans (hb6.mono hBd.size)
            have gb7 := Lib.hid hb7
            have gb6 := Lib.hid hb6
            have gres := Lib.hid hres
            have v6 := hv.below hb7 hv.lt
            have k1 := h1.below hb7 h1.lt
            have k2 := h2.below hb7 h2.lt
            have k4 := h4.below hb7 h4.lt
            have z0 := v6.cell 3
            have z1 := v6.cell 4
            have z2 := v6.cell 5
            simp only [lgA, lgZ, lgS] at z0 z1 z2
            have f0 := v6.frozen 3
            have f1 := v6.frozen 4
            have f2 := v6.frozen 5
            have l6 := v6.lt
            have k43 : Blk (((W6.setCell ⟨w.heap.size, 3, none⟩ (.bool dn.neg)).setCell ⟨w.heap.size, 4, none⟩ (.slice Xn dn.ls.length cn)).setCell ⟨w.heap.size, 5, none⟩ (.int .i64 dn.ex)) w2.heap.size 37 #[.int .i64 0] := (((k4).far (p := ⟨w.heap.size, 3, none⟩) (by show _ ≠ w.heap.size; omega) (.bool dn.neg)).far (p := ⟨w.heap.size, 4, none⟩) (by show _ ≠ w.heap.size; omega) (.slice Xn dn.ls.length cn)).far (p := ⟨w.heap.size, 5, none⟩) (by show _ ≠ w.heap.size; omega) (.int .i64 dn.ex)
            have e3 := k43.cell 0
            have ef3 := k43.frozen 0
            simp only [List.getElem?_toArray, List.getElem?_cons_zero] at e3
            have gv6 := Lib.hid v6
            have gk1 := Lib.hid k1
            have gk2 := Lib.hid k2
            have gk4 := Lib.hid k4
            clear hb7 hb6 hres v6 k1 k2 k4 k43
            refine hK.out _ _ (⟨by rw [(gk2.out).cell]; rfl, by rw [(gk1.out).cell]; rfl, by rw [(gk1.out).cell]; rfl, by rw [(gk1.out).cell]; rfl⟩) (fun hHeld => ?_)
            clear hK K
            (try simp only [Act.put, lsA, lsZ, lsS])
            refine tkY 9 (h := ?_)
            (try simp only [Act.put, lsA, lsZ, lsS])
            refine tkY 10 (h := ?_)
            (try simp only [Act.put, lsA, lsZ, lsS])
            refine tkY 11 (h := ?_)
            (try simp only [Act.put, lsA, lsZ, lsS])
            refine tkY 12 (h := ?_)
            (try simp only [Act.put, lsA, lsZ, lsS])
            refine tkR 13 (h := fun K hK => ?_)
            go_simp
            refine hK.out _ _ (⟨by rw [((((gk2.out).far (p := ⟨w.heap.size, 3, none⟩) (by show _ ≠ w.heap.size; omega) (.bool dn.neg)).far (p := ⟨w.heap.size, 4, none⟩) (by show _ ≠ w.heap.size; omega) (.slice Xn dn.ls.length cn)).far (p := ⟨w.heap.size, 5, none⟩) (by show _ ≠ w.heap.size; omega) (.int .i64 dn.ex)).cell]; rfl, by rw [((((gk1.out).far (p := ⟨w.heap.size, 3, none⟩) (by show _ ≠ w.heap.size; omega) (.bool dn.neg)).far (p := ⟨w.heap.size, 4, none⟩) (by show _ ≠ w.heap.size; omega) (.slice Xn dn.ls.length cn)).far (p := ⟨w.heap.size, 5, none⟩) (by show _ ≠ w.heap.size; omega) (.int .i64 dn.ex)).cell]; rfl, by rw [((((gk1.out).far (p := ⟨w.heap.size, 3, none⟩) (by show _ ≠ w.heap.size; omega) (.bool dn.neg)).far (p := ⟨w.heap.size, 4, none⟩) (by show _ ≠ w.heap.size; omega) (.slice Xn dn.ls.length cn)).far (p := ⟨w.heap.size, 5, none⟩) (by show _ ≠ w.heap.size; omega) (.int .i64 dn.ex)).cell]; rfl, by rw [((((gk1.out).far (p := ⟨w.heap.size, 3, none⟩) (by show _ ≠ w.heap.size; omega) (.bool dn.neg)).far (p := ⟨w.heap.size, 4, none⟩) (by show _ ≠ w.heap.size; omega) (.slice Xn dn.ls.length cn)).far (p := ⟨w.heap.size, 5, none⟩) (by show _ ≠ w.heap.size; omega) (.int .i64 dn.ex)).cell]; rfl⟩) (fun hHeld => ?_)
            clear hK K
            (try simp only [Act.put, lsA, lsZ, lsS])
            refine tkR 14 (h := fun K hK => ?_)
            go_simp
            refine hK.out _ _ (⟨by rw [((((((gk2.out).far (p := ⟨w.heap.size, 3, none⟩) (by show _ ≠ w.heap.size; omega) (.bool dn.neg)).far (p := ⟨w.heap.size, 4, none⟩) (by show _ ≠ w.heap.size; omega) (.slice Xn dn.ls.length cn)).far (p := ⟨w.heap.size, 5, none⟩) (by show _ ≠ w.heap.size; omega) (.int .i64 dn.ex)).far (p := ⟨w2.heap.size, 0, none⟩) (by show _ ≠ w2.heap.size; omega) (.int .i64 En))).cell]; rfl, by rw [((((((gk1.out).far (p := ⟨w.heap.size, 3, none⟩) (by show _ ≠ w.heap.size; omega) (.bool dn.neg)).far (p := ⟨w.heap.size, 4, none⟩) (by show _ ≠ w.heap.size; omega) (.slice Xn dn.ls.length cn)).far (p := ⟨w.heap.size, 5, none⟩) (by show _ ≠ w.heap.size; omega) (.int .i64 dn.ex)).far (p := ⟨w2.heap.size, 0, none⟩) (by show _ ≠ w2.heap.size; omega) (.int .i64 En))).cell]; rfl, by rw [((((((gk1.out).far (p := ⟨w.heap.size, 3, none⟩) (by show _ ≠ w.heap.size; omega) (.bool dn.neg)).far (p := ⟨w.heap.size, 4, none⟩) (by show _ ≠ w.heap.size; omega) (.slice Xn dn.ls.length cn)).far (p := ⟨w.heap.size, 5, none⟩) (by show _ ≠ w.heap.size; omega) (.int .i64 dn.ex)).far (p := ⟨w2.heap.size, 0, none⟩) (by show _ ≠ w2.heap.size; omega) (.int .i64 En))).cell]; rfl, by rw [((((((gk1.out).far (p := ⟨w.heap.size, 3, none⟩) (by show _ ≠ w.heap.size; omega) (.bool dn.neg)).far (p := ⟨w.heap.size, 4, none⟩) (by show _ ≠ w.heap.size; omega) (.slice Xn dn.ls.length cn)).far (p := ⟨w.heap.size, 5, none⟩) (by show _ ≠ w.heap.size; omega) (.int .i64 dn.ex)).far (p := ⟨w2.heap.size, 0, none⟩) (by show _ ≠ w2.heap.size; omega) (.int .i64 En))).cell]; rfl⟩) (fun hHeld => ?_)
            clear hK K
            (try simp only [Act.put, lsA, lsZ, lsS])
            refine wpAnyH_done (by kernel_rfl) ?_ _
            refine NoPanic.normal ?_
            have hb7 := gb7.out
            have hg : W.grownBy W6 none := ⟨hb7.os, hb7.tape, hb7.output, hb7.size, fun k hk _ => hb7.block k hk⟩
            have hv3 : Blk (((W6.setCell ⟨w.heap.size, 3, none⟩ (.bool dn.neg)).setCell ⟨w.heap.size, 4, none⟩ (.slice Xn dn.ls.length cn)).setCell ⟨w.heap.size, 5, none⟩ (.int .i64 dn.ex)) w.heap.size 27 #[.bool d0.neg, .slice X0 d0.ls.length c0, .int .i64 d0.ex, .bool dn.neg, .slice Xn dn.ls.length cn, .int .i64 dn.ex, .bool d2.neg, .slice X2 d2.ls.length c2, .int .i64 d2.ex, .bool d3.neg, .slice X3 d3.ls.length c3, .int .i64 d3.ex] := blk3 (i := 3) (ds := #[.bool d0.neg, .slice X0 d0.ls.length c0, .int .i64 d0.ex, .bool dn.neg, .slice Xn dn.ls.length cn, .int .i64 dn.ex, .bool d2.neg, .slice X2 d2.ls.length c2, .int .i64 d2.ex, .bool d3.neg, .slice X3 d3.ls.length c3, .int .i64 d3.ex]) gv6.out (.bool dn.neg) (.slice Xn dn.ls.length cn) (.int .i64 dn.ex) (by simp)
            have hv9 : Blk ((((W6.setCell ⟨w.heap.size, 3, none⟩ (.bool dn.neg)).setCell ⟨w.heap.size, 4, none⟩ (.slice Xn dn.ls.length cn)).setCell ⟨w.heap.size, 5, none⟩ (.int .i64 dn.ex)).setCell ⟨w2.heap.size, 0, none⟩ (.int .i64 En)) w.heap.size 27 #[.bool d0.neg, .slice X0 d0.ls.length c0, .int .i64 d0.ex, .bool dn.neg, .slice Xn dn.ls.length cn, .int .i64 dn.ex, .bool d2.neg, .slice X2 d2.ls.length c2, .int .i64 d2.ex, .bool d3.neg, .slice X3 d3.ls.length c3, .int .i64 d3.ex] := hv3.far (p := ⟨w2.heap.size, 0, none⟩) (by show w.heap.size ≠ w2.heap.size; omega) (.int .i64 En)
            have k19 := (((((gk1.out).far (p := ⟨w.heap.size, 3, none⟩) (by show _ ≠ w.heap.size; omega) (.bool dn.neg)).far (p := ⟨w.heap.size, 4, none⟩) (by show _ ≠ w.heap.size; omega) (.slice Xn dn.ls.length cn)).far (p := ⟨w.heap.size, 5, none⟩) (by show _ ≠ w.heap.size; omega) (.int .i64 dn.ex)).far (p := ⟨w2.heap.size, 0, none⟩) (by show _ ≠ w2.heap.size; omega) (.int .i64 En))
            have k29 := (((((gk2.out).far (p := ⟨w.heap.size, 3, none⟩) (by show _ ≠ w.heap.size; omega) (.bool dn.neg)).far (p := ⟨w.heap.size, 4, none⟩) (by show _ ≠ w.heap.size; omega) (.slice Xn dn.ls.length cn)).far (p := ⟨w.heap.size, 5, none⟩) (by show _ ≠ w.heap.size; omega) (.int .i64 dn.ex)).far (p := ⟨w2.heap.size, 0, none⟩) (by show _ ≠ w2.heap.size; omega) (.int .i64 En))
            have k39 := (((((h3.below hb7 h3.lt).far (p := ⟨w.heap.size, 3, none⟩) (by show _ ≠ w.heap.size; omega) (.bool dn.neg)).far (p := ⟨w.heap.size, 4, none⟩) (by show _ ≠ w.heap.size; omega) (.slice Xn dn.ls.length cn)).far (p := ⟨w.heap.size, 5, none⟩) (by show _ ≠ w.heap.size; omega) (.int .i64 dn.ex)).far (p := ⟨w2.heap.size, 0, none⟩) (by show _ ≠ w2.heap.size; omega) (.int .i64 En))
            have k49 : Blk ((((W6.setCell ⟨w.heap.size, 3, none⟩ (.bool dn.neg)).setCell ⟨w.heap.size, 4, none⟩ (.slice Xn dn.ls.length cn)).setCell ⟨w.heap.size, 5, none⟩ (.int .i64 dn.ex)).setCell ⟨w2.heap.size, 0, none⟩ (.int .i64 En)) w2.heap.size 37 #[.int .i64 En] := by have h := ((((gk4.out).far (p := ⟨w.heap.size, 3, none⟩) (by show _ ≠ w.heap.size; omega) (.bool dn.neg)).far (p := ⟨w.heap.size, 4, none⟩) (by show _ ≠ w.heap.size; omega) (.slice Xn dn.ls.length cn)).far (p := ⟨w.heap.size, 5, none⟩) (by show _ ≠ w.heap.size; omega) (.int .i64 dn.ex)).set_ 0 (.int .i64 En); simpa using h
            have k59 := (((((h5.below hb7 h5.lt).far (p := ⟨w.heap.size, 3, none⟩) (by show _ ≠ w.heap.size; omega) (.bool dn.neg)).far (p := ⟨w.heap.size, 4, none⟩) (by show _ ≠ w.heap.size; omega) (.slice Xn dn.ls.length cn)).far (p := ⟨w.heap.size, 5, none⟩) (by show _ ≠ w.heap.size; omega) (.int .i64 dn.ex)).far (p := ⟨w2.heap.size, 0, none⟩) (by show _ ≠ w2.heap.size; omega) (.int .i64 En))
            have k69 := (((((h6.below hb7 h6.lt).far (p := ⟨w.heap.size, 3, none⟩) (by show _ ≠ w.heap.size; omega) (.bool dn.neg)).far (p := ⟨w.heap.size, 4, none⟩) (by show _ ≠ w.heap.size; omega) (.slice Xn dn.ls.length cn)).far (p := ⟨w.heap.size, 5, none⟩) (by show _ ≠ w.heap.size; omega) (.int .i64 dn.ex)).far (p := ⟨w2.heap.size, 0, none⟩) (by show _ ≠ w2.heap.size; omega) (.int .i64 En))
            have hW9 : Below w.heap.size w ((((W6.setCell ⟨w.heap.size, 3, none⟩ (.bool dn.neg)).setCell ⟨w.heap.size, 4, none⟩ (.slice Xn dn.ls.length cn)).setCell ⟨w.heap.size, 5, none⟩ (.int .i64 dn.ex)).setCell ⟨w2.heap.size, 0, none⟩ (.int .i64 En)) := ((((hW.trans (hb7.mono hW.size)).setCell (p := ⟨w.heap.size, 3, none⟩) (Nat.le_refl _) _).setCell (p := ⟨w.heap.size, 4, none⟩) (Nat.le_refl _) _).setCell (p := ⟨w.heap.size, 5, none⟩) (Nat.le_refl _) _).setCell (p := ⟨w2.heap.size, 0, none⟩) (by show w.heap.size ≤ w2.heap.size; omega) _
            have hmv : ∀ {n : Nat} {X : Option Addr} {xs : List Value}, OwnR W (w2.heap.size + 3) 71 X n xs → OwnR ((((W6.setCell ⟨w.heap.size, 3, none⟩ (.bool dn.neg)).setCell ⟨w.heap.size, 4, none⟩ (.slice Xn dn.ls.length cn)).setCell ⟨w.heap.size, 5, none⟩ (.int .i64 dn.ex)).setCell ⟨w2.heap.size, 0, none⟩ (.int .i64 En)) (w2.heap.size + 3) 71 X n xs := fun h => ((((h.below hb7).far (p := ⟨w.heap.size, 3, none⟩) (by show w.heap.size < w2.heap.size + 3; omega) (.bool dn.neg)).far (p := ⟨w.heap.size, 4, none⟩) (by show w.heap.size < w2.heap.size + 3; omega) (.slice Xn dn.ls.length cn)).far (p := ⟨w.heap.size, 5, none⟩) (by show w.heap.size < w2.heap.size + 3; omega) (.int .i64 dn.ex)).far (p := ⟨w2.heap.size, 0, none⟩) (by show w2.heap.size < w2.heap.size + 3; omega) (.int .i64 En)
            have q0 : (pre ++ [(⟨1, hi⟩ : P4)]).count p0 = pre.count p0 := by rw [List.count_append]; rfl
            have q1 : (pre ++ [(⟨1, hi⟩ : P4)]).count p1 = pre.count p1 + 1 := by rw [List.count_append]; rfl
            have q2 : (pre ++ [(⟨1, hi⟩ : P4)]).count p2 = pre.count p2 := by rw [List.count_append]; rfl
            have q3 : (pre ++ [(⟨1, hi⟩ : P4)]).count p3 = pre.count p3 := by rw [List.count_append]; rfl
            gi_wp2
            refine ⟨((KeepsOthers.of_grownBy hg (fun j o e ho => by cases e)).trans (KeepsOthers.setCell _ _ _)).trans ((KeepsOthers.setCell _ _ _).trans ((KeepsOthers.setCell _ _ _).trans (KeepsOthers.setCell _ _ _))), ⟨(k59.cell 0).trans (h5.cell 0).symm, (k69.cell 0).trans (h6.cell 0).symm⟩, ⟨En, ⟨k19, k29, k39, k49, k59, k69⟩, ?_⟩, hW9⟩
            rcases gres.out with ⟨rfl, hm⟩ | ⟨rfl, hm⟩ | ⟨rfl, hm, hod⟩
            · refine .inr ⟨rfl, fun hc => ?_⟩
              have hck := hc p1
              rw [q1] at hck
              rcases s1.2.2 with ⟨_, hd0, _⟩ | ⟨hp, _⟩
              · rw [hd0, gma.out.2.1, gmk.out.2.1] at hm; cases hm
              · omega
            · refine .inr ⟨rfl, fun hc => ?_⟩
              have hck := hc p1
              rw [q1] at hck
              rcases s1.2.2 with ⟨_, hd0, _⟩ | ⟨hp, _⟩
              · rw [hd0] at hm; exact ⟨rfl, addM_no (.inr (.inl hm))⟩
              · omega
            · have S1 : StS ((((W6.setCell ⟨w.heap.size, 3, none⟩ (.bool dn.neg)).setCell ⟨w.heap.size, 4, none⟩ (.slice Xn dn.ls.length cn)).setCell ⟨w.heap.size, 5, none⟩ (.int .i64 dn.ex)).setCell ⟨w2.heap.size, 0, none⟩ (.int .i64 0)) (w2.heap.size + 3) m.w k.w aX1 ac1 ((pre ++ [(⟨1, hi⟩ : P4)]).count p1) dn Xn cn := ⟨(form_ok hm).1.2, hod.1, .inr ⟨by rw [q1]; exact Nat.succ_pos _, ((((hod.2.base_le (show w2.heap.size + 3 ≤ W.drew.heap.size from hl6)).far (p := ⟨w.heap.size, 3, none⟩) (by show w.heap.size < w2.heap.size + 3; omega) (.bool dn.neg)).far (p := ⟨w.heap.size, 4, none⟩) (by show w.heap.size < w2.heap.size + 3; omega) (.slice Xn dn.ls.length cn)).far (p := ⟨w.heap.size, 5, none⟩) (by show w.heap.size < w2.heap.size + 3; omega) (.int .i64 dn.ex)).far (p := ⟨w2.heap.size, 0, none⟩) (by show w2.heap.size < w2.heap.size + 3; omega) (.int .i64 0), fun h1 => by
                rw [q1] at h1
                rcases s1.2.2 with ⟨_, hd0, _⟩ | ⟨hp, _⟩
                · rw [← hd0]; exact hm
                · omega⟩⟩
              have S0 : StS ((((W6.setCell ⟨w.heap.size, 3, none⟩ (.bool dn.neg)).setCell ⟨w.heap.size, 4, none⟩ (.slice Xn dn.ls.length cn)).setCell ⟨w.heap.size, 5, none⟩ (.int .i64 dn.ex)).setCell ⟨w2.heap.size, 0, none⟩ (.int .i64 0)) (w2.heap.size + 3) m.s k.s aX0 ac0 ((pre ++ [(⟨1, hi⟩ : P4)]).count p0) d0 X0 c0 := by rw [q0]; exact s0.map hmv
              have S2 : StS ((((W6.setCell ⟨w.heap.size, 3, none⟩ (.bool dn.neg)).setCell ⟨w.heap.size, 4, none⟩ (.slice Xn dn.ls.length cn)).setCell ⟨w.heap.size, 5, none⟩ (.int .i64 dn.ex)).setCell ⟨w2.heap.size, 0, none⟩ (.int .i64 0)) (w2.heap.size + 3) m.c k.c aX2 ac2 ((pre ++ [(⟨1, hi⟩ : P4)]).count p2) d2 X2 c2 := by rw [q2]; exact s2.map hmv
              have S3 : StS ((((W6.setCell ⟨w.heap.size, 3, none⟩ (.bool dn.neg)).setCell ⟨w.heap.size, 4, none⟩ (.slice Xn dn.ls.length cn)).setCell ⟨w.heap.size, 5, none⟩ (.int .i64 dn.ex)).setCell ⟨w2.heap.size, 0, none⟩ (.int .i64 0)) (w2.heap.size + 3) m.a k.a aX3 ac3 ((pre ++ [(⟨1, hi⟩ : P4)]).count p3) d3 X3 c3 := by rw [q3]; exact s3.map hmv
              exact .inl ⟨rfl, d0, X0, c0, dn, Xn, cn, d2, X2, c2, d3, X3, c3, hv9, S0, S1, S2, S3⟩
          · skip
            have x0 := hv.cell 6
            have x1 := hv.cell 7
            have x2 := hv.cell 8
            simp only [lgA, lgZ, lgS] at x0 x1 x2
            have hd : ∀ w', Below W.heap.size W w' → Calls Tryd.prog 52 #[.agg #[.bool d2.neg, .slice X2 d2.ls.length c2, .int .i64 d2.ex], .agg #[.bool k.c.neg, .slice bX2 k.c.ls.length bc2, .int .i64 k.c.ex]] w' (AddR d2 k.c w') := fun w' h => addR_any d2 k.c s2.1 lk.2.2.1 X2 bX2 c2 bc2 w' ⟨rfl, rfl, rfl, s2.2.1, ((s2.reads gra.out.2.2.1.2.2.2.2 hW).below h).more h.size⟩ (grb.out.2.2.1.below (hW.trans (h.mono hW.size)) (Nat.le_trans hW.size h.size)) (gT.out.below (hW.trans (h.mono hW.size)) gT.out.2)
            have hBd : Below W.heap.size W W.drew := Below.drew (Below.refl _ _)
            have hl6 := h6.lt
            have hs2 := gs2.out
            gi_wp2
            refine wpIn_held_round (S := fun w' => w'.cell? ⟨w.heap.size + 1 + 1, 0, none⟩ = some (.func (.func 52) #[] #[]) ∧ w'.cell? ⟨w.heap.size + 1, 6, none⟩ = some (.bool k.c.neg) ∧ w'.cell? ⟨w.heap.size + 1, 7, none⟩ = some (.slice bX2 k.c.ls.length bc2) ∧ w'.cell? ⟨w.heap.size + 1, 8, none⟩ = some (.int .i64 k.c.ex)) (by kernel_rfl) (by kernel_rfl) (by rintro ⟨_, _, h⟩; exact h) (⟨by rw [(h2.drew).cell]; rfl, by rw [(h1.drew).cell]; rfl, by rw [(h1.drew).cell]; rfl, by rw [(h1.drew).cell]; rfl⟩) (fun hHeld => ?_)
            refine tkY 0 (h := ?_)
            (try simp only [Act.put, lsA, lsZ, lsS])
            refine tkY 1 (h := ?_)
            (try simp only [Act.put, lsA, lsZ, lsS])
            refine tkY 2 (h := ?_)
            (try simp only [Act.put, lsA, lsZ, lsS])
            refine tkY 3 (h := ?_)
            (try simp only [Act.put, lsA, lsZ, lsS])
            refine tkY 5 (h := ?_)
            (try simp only [Act.put, lsA, lsZ, lsS])
            refine tkY 6 (h := ?_)
            (try simp only [Act.put, lsA, lsZ, lsS])
            refine tkY 7 (h := ?_)
            (try simp only [Act.put, lsA, lsZ, lsS])
            refine tkR 4 (h := fun K hK => ?_)
            go_simp
            refine hK.out _ _ (⟨by rw [(h2.drew).cell]; rfl, by rw [(h1.drew).cell]; rfl, by rw [(h1.drew).cell]; rfl, by rw [(h1.drew).cell]; rfl⟩) (fun hHeld => ?_)
            clear hK K
            (try simp only [Act.put, lsA, lsZ, lsS])
            refine tkR 8 (h := fun K hK => ?_)
            go_simp
            with_reducible refine (hd _ hBd).mono ?_
            rintro en W6 ⟨dn, Xn, cn, En, rfl, hb6, hres⟩
            have hb7 : Below W.heap.size W W6 := hBd.trans (hb6.mono hBd.size)
            have gb7 := Lib.hid hb7
            have gb6 := Lib.hid hb6
            have gres := Lib.hid hres
            have v6 := hv.below hb7 hv.lt
            have k1 := h1.below hb7 h1.lt
            have k2 := h2.below hb7 h2.lt
            have k4 := h4.below hb7 h4.lt
            have z0 := v6.cell 6
            have z1 := v6.cell 7
            have z2 := v6.cell 8
            simp only [lgA, lgZ, lgS] at z0 z1 z2
            have f0 := v6.frozen 6
            have f1 := v6.frozen 7
            have f2 := v6.frozen 8
            have l6 := v6.lt
            have k43 : Blk (((W6.setCell ⟨w.heap.size, 6, none⟩ (.bool dn.neg)).setCell ⟨w.heap.size, 7, none⟩ (.slice Xn dn.ls.length cn)).setCell ⟨w.heap.size, 8, none⟩ (.int .i64 dn.ex)) w2.heap.size 37 #[.int .i64 0] := (((k4).far (p := ⟨w.heap.size, 6, none⟩) (by show _ ≠ w.heap.size; omega) (.bool dn.neg)).far (p := ⟨w.heap.size, 7, none⟩) (by show _ ≠ w.heap.size; omega) (.slice Xn dn.ls.length cn)).far (p := ⟨w.heap.size, 8, none⟩) (by show _ ≠ w.heap.size; omega) (.int .i64 dn.ex)
            have e3 := k43.cell 0
            have ef3 := k43.frozen 0
            simp only [List.getElem?_toArray, List.getElem?_cons_zero] at e3
            have gv6 := Lib.hid v6
            have gk1 := Lib.hid k1
            have gk2 := Lib.hid k2
            have gk4 := Lib.hid k4
            clear hb7 hb6 hres v6 k1 k2 k4 k43
            refine hK.out _ _ (⟨by rw [(gk2.out).cell]; rfl, by rw [(gk1.out).cell]; rfl, by rw [(gk1.out).cell]; rfl, by rw [(gk1.out).cell]; rfl⟩) (fun hHeld => ?_)
            clear hK K
            (try simp only [Act.put, lsA, lsZ, lsS])
            refine tkY 9 (h := ?_)
            (try simp only [Act.put, lsA, lsZ, lsS])
            refine tkY 10 (h := ?_)
            (try simp only [Act.put, lsA, lsZ, lsS])
            refine tkY 11 (h := ?_)
            (try simp only [Act.put, lsA, lsZ, lsS])
            refine tkY 12 (h := ?_)
            (try simp only [Act.put, lsA, lsZ, lsS])
            refine tkR 13 (h := fun K hK => ?_)
            go_simp
            refine hK.out _ _ (⟨by rw [((((gk2.out).far (p := ⟨w.heap.size, 6, none⟩) (by show _ ≠ w.heap.size; omega) (.bool dn.neg)).far (p := ⟨w.heap.size, 7, none⟩) (by show _ ≠ w.heap.size; omega) (.slice Xn dn.ls.length cn)).far (p := ⟨w.heap.size, 8, none⟩) (by show _ ≠ w.heap.size; omega) (.int .i64 dn.ex)).cell]; rfl, by rw [((((gk1.out).far (p := ⟨w.heap.size, 6, none⟩) (by show _ ≠ w.heap.size; omega) (.bool dn.neg)).far (p := ⟨w.heap.size, 7, none⟩) (by show _ ≠ w.heap.size; omega) (.slice Xn dn.ls.length cn)).far (p := ⟨w.heap.size, 8, none⟩) (by show _ ≠ w.heap.size; omega) (.int .i64 dn.ex)).cell]; rfl, by rw [((((gk1.out).far (p := ⟨w.heap.size, 6, none⟩) (by show _ ≠ w.heap.size; omega) (.bool dn.neg)).far (p := ⟨w.heap.size, 7, none⟩) (by show _ ≠ w.heap.size; omega) (.slice Xn dn.ls.length cn)).far (p := ⟨w.heap.size, 8, none⟩) (by show _ ≠ w.heap.size; omega) (.int .i64 dn.ex)).cell]; rfl, by rw [((((gk1.out).far (p := ⟨w.heap.size, 6, none⟩) (by show _ ≠ w.heap.size; omega) (.bool dn.neg)).far (p := ⟨w.heap.size, 7, none⟩) (by show _ ≠ w.heap.size; omega) (.slice Xn dn.ls.length cn)).far (p := ⟨w.heap.size, 8, none⟩) (by show _ ≠ w.heap.size; omega) (.int .i64 dn.ex)).cell]; rfl⟩) (fun hHeld => ?_)
            clear hK K
            (try simp only [Act.put, lsA, lsZ, lsS])
            refine tkR 14 (h := fun K hK => ?_)
            go_simp
            refine hK.out _ _ (⟨by rw [((((((gk2.out).far (p := ⟨w.heap.size, 6, none⟩) (by show _ ≠ w.heap.size; omega) (.bool dn.neg)).far (p := ⟨w.heap.size, 7, none⟩) (by show _ ≠ w.heap.size; omega) (.slice Xn dn.ls.length cn)).far (p := ⟨w.heap.size, 8, none⟩) (by show _ ≠ w.heap.size; omega) (.int .i64 dn.ex)).far (p := ⟨w2.heap.size, 0, none⟩) (by show _ ≠ w2.heap.size; omega) (.int .i64 En))).cell]; rfl, by rw [((((((gk1.out).far (p := ⟨w.heap.size, 6, none⟩) (by show _ ≠ w.heap.size; omega) (.bool dn.neg)).far (p := ⟨w.heap.size, 7, none⟩) (by show _ ≠ w.heap.size; omega) (.slice Xn dn.ls.length cn)).far (p := ⟨w.heap.size, 8, none⟩) (by show _ ≠ w.heap.size; omega) (.int .i64 dn.ex)).far (p := ⟨w2.heap.size, 0, none⟩) (by show _ ≠ w2.heap.size; omega) (.int .i64 En))).cell]; rfl, by rw [((((((gk1.out).far (p := ⟨w.heap.size, 6, none⟩) (by show _ ≠ w.heap.size; omega) (.bool dn.neg)).far (p := ⟨w.heap.size, 7, none⟩) (by show _ ≠ w.heap.size; omega) (.slice Xn dn.ls.length cn)).far (p := ⟨w.heap.size, 8, none⟩) (by show _ ≠ w.heap.size; omega) (.int .i64 dn.ex)).far (p := ⟨w2.heap.size, 0, none⟩) (by show _ ≠ w2.heap.size; omega) (.int .i64 En))).cell]; rfl, by rw [((((((gk1.out).far (p := ⟨w.heap.size, 6, none⟩) (by show _ ≠ w.heap.size; omega) (.bool dn.neg)).far (p := ⟨w.heap.size, 7, none⟩) (by show _ ≠ w.heap.size; omega) (.slice Xn dn.ls.length cn)).far (p := ⟨w.heap.size, 8, none⟩) (by show _ ≠ w.heap.size; omega) (.int .i64 dn.ex)).far (p := ⟨w2.heap.size, 0, none⟩) (by show _ ≠ w2.heap.size; omega) (.int .i64 En))).cell]; rfl⟩) (fun hHeld => ?_)
            clear hK K
            (try simp only [Act.put, lsA, lsZ, lsS])
            refine wpAnyH_done (by kernel_rfl) ?_ _
            refine NoPanic.normal ?_
            have hb7 := gb7.out
            have hg : W.grownBy W6 none := ⟨hb7.os, hb7.tape, hb7.output, hb7.size, fun k hk _ => hb7.block k hk⟩
            have hv3 : Blk (((W6.setCell ⟨w.heap.size, 6, none⟩ (.bool dn.neg)).setCell ⟨w.heap.size, 7, none⟩ (.slice Xn dn.ls.length cn)).setCell ⟨w.heap.size, 8, none⟩ (.int .i64 dn.ex)) w.heap.size 27 #[.bool d0.neg, .slice X0 d0.ls.length c0, .int .i64 d0.ex, .bool d1.neg, .slice X1 d1.ls.length c1, .int .i64 d1.ex, .bool dn.neg, .slice Xn dn.ls.length cn, .int .i64 dn.ex, .bool d3.neg, .slice X3 d3.ls.length c3, .int .i64 d3.ex] := blk3 (i := 6) (ds := #[.bool d0.neg, .slice X0 d0.ls.length c0, .int .i64 d0.ex, .bool d1.neg, .slice X1 d1.ls.length c1, .int .i64 d1.ex, .bool dn.neg, .slice Xn dn.ls.length cn, .int .i64 dn.ex, .bool d3.neg, .slice X3 d3.ls.length c3, .int .i64 d3.ex]) gv6.out (.bool dn.neg) (.slice Xn dn.ls.length cn) (.int .i64 dn.ex) (by simp)
            have hv9 : Blk ((((W6.setCell ⟨w.heap.size, 6, none⟩ (.bool dn.neg)).setCell ⟨w.heap.size, 7, none⟩ (.slice Xn dn.ls.length cn)).setCell ⟨w.heap.size, 8, none⟩ (.int .i64 dn.ex)).setCell ⟨w2.heap.size, 0, none⟩ (.int .i64 En)) w.heap.size 27 #[.bool d0.neg, .slice X0 d0.ls.length c0, .int .i64 d0.ex, .bool d1.neg, .slice X1 d1.ls.length c1, .int .i64 d1.ex, .bool dn.neg, .slice Xn dn.ls.length cn, .int .i64 dn.ex, .bool d3.neg, .slice X3 d3.ls.length c3, .int .i64 d3.ex] := hv3.far (p := ⟨w2.heap.size, 0, none⟩) (by show w.heap.size ≠ w2.heap.size; omega) (.int .i64 En)
            have k19 := (((((gk1.out).far (p := ⟨w.heap.size, 6, none⟩) (by show _ ≠ w.heap.size; omega) (.bool dn.neg)).far (p := ⟨w.heap.size, 7, none⟩) (by show _ ≠ w.heap.size; omega) (.slice Xn dn.ls.length cn)).far (p := ⟨w.heap.size, 8, none⟩) (by show _ ≠ w.heap.size; omega) (.int .i64 dn.ex)).far (p := ⟨w2.heap.size, 0, none⟩) (by show _ ≠ w2.heap.size; omega) (.int .i64 En))
            have k29 := (((((gk2.out).far (p := ⟨w.heap.size, 6, none⟩) (by show _ ≠ w.heap.size; omega) (.bool dn.neg)).far (p := ⟨w.heap.size, 7, none⟩) (by show _ ≠ w.heap.size; omega) (.slice Xn dn.ls.length cn)).far (p := ⟨w.heap.size, 8, none⟩) (by show _ ≠ w.heap.size; omega) (.int .i64 dn.ex)).far (p := ⟨w2.heap.size, 0, none⟩) (by show _ ≠ w2.heap.size; omega) (.int .i64 En))
            have k39 := (((((h3.below hb7 h3.lt).far (p := ⟨w.heap.size, 6, none⟩) (by show _ ≠ w.heap.size; omega) (.bool dn.neg)).far (p := ⟨w.heap.size, 7, none⟩) (by show _ ≠ w.heap.size; omega) (.slice Xn dn.ls.length cn)).far (p := ⟨w.heap.size, 8, none⟩) (by show _ ≠ w.heap.size; omega) (.int .i64 dn.ex)).far (p := ⟨w2.heap.size, 0, none⟩) (by show _ ≠ w2.heap.size; omega) (.int .i64 En))
            have k49 : Blk ((((W6.setCell ⟨w.heap.size, 6, none⟩ (.bool dn.neg)).setCell ⟨w.heap.size, 7, none⟩ (.slice Xn dn.ls.length cn)).setCell ⟨w.heap.size, 8, none⟩ (.int .i64 dn.ex)).setCell ⟨w2.heap.size, 0, none⟩ (.int .i64 En)) w2.heap.size 37 #[.int .i64 En] := by have h := ((((gk4.out).far (p := ⟨w.heap.size, 6, none⟩) (by show _ ≠ w.heap.size; omega) (.bool dn.neg)).far (p := ⟨w.heap.size, 7, none⟩) (by show _ ≠ w.heap.size; omega) (.slice Xn dn.ls.length cn)).far (p := ⟨w.heap.size, 8, none⟩) (by show _ ≠ w.heap.size; omega) (.int .i64 dn.ex)).set_ 0 (.int .i64 En); simpa using h
            have k59 := (((((h5.below hb7 h5.lt).far (p := ⟨w.heap.size, 6, none⟩) (by show _ ≠ w.heap.size; omega) (.bool dn.neg)).far (p := ⟨w.heap.size, 7, none⟩) (by show _ ≠ w.heap.size; omega) (.slice Xn dn.ls.length cn)).far (p := ⟨w.heap.size, 8, none⟩) (by show _ ≠ w.heap.size; omega) (.int .i64 dn.ex)).far (p := ⟨w2.heap.size, 0, none⟩) (by show _ ≠ w2.heap.size; omega) (.int .i64 En))
            have k69 := (((((h6.below hb7 h6.lt).far (p := ⟨w.heap.size, 6, none⟩) (by show _ ≠ w.heap.size; omega) (.bool dn.neg)).far (p := ⟨w.heap.size, 7, none⟩) (by show _ ≠ w.heap.size; omega) (.slice Xn dn.ls.length cn)).far (p := ⟨w.heap.size, 8, none⟩) (by show _ ≠ w.heap.size; omega) (.int .i64 dn.ex)).far (p := ⟨w2.heap.size, 0, none⟩) (by show _ ≠ w2.heap.size; omega) (.int .i64 En))
            have hW9 : Below w.heap.size w ((((W6.setCell ⟨w.heap.size, 6, none⟩ (.bool dn.neg)).setCell ⟨w.heap.size, 7, none⟩ (.slice Xn dn.ls.length cn)).setCell ⟨w.heap.size, 8, none⟩ (.int .i64 dn.ex)).setCell ⟨w2.heap.size, 0, none⟩ (.int .i64 En)) := ((((hW.trans (hb7.mono hW.size)).setCell (p := ⟨w.heap.size, 6, none⟩) (Nat.le_refl _) _).setCell (p := ⟨w.heap.size, 7, none⟩) (Nat.le_refl _) _).setCell (p := ⟨w.heap.size, 8, none⟩) (Nat.le_refl _) _).setCell (p := ⟨w2.heap.size, 0, none⟩) (by show w.heap.size ≤ w2.heap.size; omega) _
            have hmv : ∀ {n : Nat} {X : Option Addr} {xs : List Value}, OwnR W (w2.heap.size + 3) 71 X n xs → OwnR ((((W6.setCell ⟨w.heap.size, 6, none⟩ (.bool dn.neg)).setCell ⟨w.heap.size, 7, none⟩ (.slice Xn dn.ls.length cn)).setCell ⟨w.heap.size, 8, none⟩ (.int .i64 dn.ex)).setCell ⟨w2.heap.size, 0, none⟩ (.int .i64 En)) (w2.heap.size + 3) 71 X n xs := fun h => ((((h.below hb7).far (p := ⟨w.heap.size, 6, none⟩) (by show w.heap.size < w2.heap.size + 3; omega) (.bool dn.neg)).far (p := ⟨w.heap.size, 7, none⟩) (by show w.heap.size < w2.heap.size + 3; omega) (.slice Xn dn.ls.length cn)).far (p := ⟨w.heap.size, 8, none⟩) (by show w.heap.size < w2.heap.size + 3; omega) (.int .i64 dn.ex)).far (p := ⟨w2.heap.size, 0, none⟩) (by show w2.heap.size < w2.heap.size + 3; omega) (.int .i64 En)
            have q0 : (pre ++ [(⟨2, hi⟩ : P4)]).count p0 = pre.count p0 := by rw [List.count_append]; rfl
            have q1 : (pre ++ [(⟨2, hi⟩ : P4)]).count p1 = pre.count p1 := by rw [List.count_append]; rfl
            have q2 : (pre ++ [(⟨2, hi⟩ : P4)]).count p2 = pre.count p2 + 1 := by rw [List.count_append]; rfl
            have q3 : (pre ++ [(⟨2, hi⟩ : P4)]).count p3 = pre.count p3 := by rw [List.count_append]; rfl
            gi_wp2
            refine ⟨((KeepsOthers.of_grownBy hg (fun j o e ho => by cases e)).trans (KeepsOthers.setCell _ _ _)).trans ((KeepsOthers.setCell _ _ _).trans ((KeepsOthers.setCell _ _ _).trans (KeepsOthers.setCell _ _ _))), ⟨(k59.cell 0).trans (h5.cell 0).symm, (k69.cell 0).trans (h6.cell 0).symm⟩, ⟨En, ⟨k19, k29, k39, k49, k59, k69⟩, ?_⟩, hW9⟩
            rcases gres.out with ⟨rfl, hm⟩ | ⟨rfl, hm⟩ | ⟨rfl, hm, hod⟩
            · refine .inr ⟨rfl, fun hc => ?_⟩
              have hck := hc p2
              rw [q2] at hck
              rcases s2.2.2 with ⟨_, hd0, _⟩ | ⟨hp, _⟩
              · rw [hd0, gma.out.2.2.1, gmk.out.2.2.1] at hm; cases hm
              · omega
            · refine .inr ⟨rfl, fun hc => ?_⟩
              have hck := hc p2
              rw [q2] at hck
              rcases s2.2.2 with ⟨_, hd0, _⟩ | ⟨hp, _⟩
              · rw [hd0] at hm; exact ⟨rfl, addM_no (.inr (.inr (.inl hm)))⟩
              · omega
            · have S2 : StS ((((W6.setCell ⟨w.heap.size, 6, none⟩ (.bool dn.neg)).setCell ⟨w.heap.size, 7, none⟩ (.slice Xn dn.ls.length cn)).setCell ⟨w.heap.size, 8, none⟩ (.int .i64 dn.ex)).setCell ⟨w2.heap.size, 0, none⟩ (.int .i64 0)) (w2.heap.size + 3) m.c k.c aX2 ac2 ((pre ++ [(⟨2, hi⟩ : P4)]).count p2) dn Xn cn := ⟨(form_ok hm).1.2, hod.1, .inr ⟨by rw [q2]; exact Nat.succ_pos _, ((((hod.2.base_le (show w2.heap.size + 3 ≤ W.drew.heap.size from hl6)).far (p := ⟨w.heap.size, 6, none⟩) (by show w.heap.size < w2.heap.size + 3; omega) (.bool dn.neg)).far (p := ⟨w.heap.size, 7, none⟩) (by show w.heap.size < w2.heap.size + 3; omega) (.slice Xn dn.ls.length cn)).far (p := ⟨w.heap.size, 8, none⟩) (by show w.heap.size < w2.heap.size + 3; omega) (.int .i64 dn.ex)).far (p := ⟨w2.heap.size, 0, none⟩) (by show w2.heap.size < w2.heap.size + 3; omega) (.int .i64 0), fun h1 => by
                rw [q2] at h1
                rcases s2.2.2 with ⟨_, hd0, _⟩ | ⟨hp, _⟩
                · rw [← hd0]; exact hm
                · omega⟩⟩
              have S0 : StS ((((W6.setCell ⟨w.heap.size, 6, none⟩ (.bool dn.neg)).setCell ⟨w.heap.size, 7, none⟩ (.slice Xn dn.ls.length cn)).setCell ⟨w.heap.size, 8, none⟩ (.int .i64 dn.ex)).setCell ⟨w2.heap.size, 0, none⟩ (.int .i64 0)) (w2.heap.size + 3) m.s k.s aX0 ac0 ((pre ++ [(⟨2, hi⟩ : P4)]).count p0) d0 X0 c0 := by rw [q0]; exact s0.map hmv
              have S1 : StS ((((W6.setCell ⟨w.heap.size, 6, none⟩ (.bool dn.neg)).setCell ⟨w.heap.size, 7, none⟩ (.slice Xn dn.ls.length cn)).setCell ⟨w.heap.size, 8, none⟩ (.int .i64 dn.ex)).setCell ⟨w2.heap.size, 0, none⟩ (.int .i64 0)) (w2.heap.size + 3) m.w k.w aX1 ac1 ((pre ++ [(⟨2, hi⟩ : P4)]).count p1) d1 X1 c1 := by rw [q1]; exact s1.map hmv
              have S3 : StS ((((W6.setCell ⟨w.heap.size, 6, none⟩ (.bool dn.neg)).setCell ⟨w.heap.size, 7, none⟩ (.slice Xn dn.ls.length cn)).setCell ⟨w.heap.size, 8, none⟩ (.int .i64 dn.ex)).setCell ⟨w2.heap.size, 0, none⟩ (.int .i64 0)) (w2.heap.size + 3) m.a k.a aX3 ac3 ((pre ++ [(⟨2, hi⟩ : P4)]).count p3) d3 X3 c3 := by rw [q3]; exact s3.map hmv
              exact .inl ⟨rfl, d0, X0, c0, d1, X1, c1, dn, Xn, cn, d3, X3, c3, hv9, S0, S1, S2, S3⟩
          · skip
            have x0 := hv.cell 9
            have x1 := hv.cell 10
            have x2 := hv.cell 11
            simp only [lgA, lgZ, lgS] at x0 x1 x2
            have hd : ∀ w', Below W.heap.size W w' → Calls Tryd.prog 52 #[.agg #[.bool d3.neg, .slice X3 d3.ls.length c3, .int .i64 d3.ex], .agg #[.bool k.a.neg, .slice bX3 k.a.ls.length bc3, .int .i64 k.a.ex]] w' (AddR d3 k.a w') := fun w' h => addR_any d3 k.a s3.1 lk.2.2.2 X3 bX3 c3 bc3 w' ⟨rfl, rfl, rfl, s3.2.1, ((s3.reads gra.out.2.2.2.2.2.2.2 hW).below h).more h.size⟩ (grb.out.2.2.2.below (hW.trans (h.mono hW.size)) (Nat.le_trans hW.size h.size)) (gT.out.below (hW.trans (h.mono hW.size)) gT.out.2)
            have hBd : Below W.heap.size W W.drew := Below.drew (Below.refl _ _)
            have hl6 := h6.lt
            have hs2 := gs2.out
            gi_wp2
            refine wpIn_held_round (S := fun w' => w'.cell? ⟨w.heap.size + 1 + 1, 0, none⟩ = some (.func (.func 52) #[] #[]) ∧ w'.cell? ⟨w.heap.size + 1, 9, none⟩ = some (.bool k.a.neg) ∧ w'.cell? ⟨w.heap.size + 1, 10, none⟩ = some (.slice bX3 k.a.ls.length bc3) ∧ w'.cell? ⟨w.heap.size + 1, 11, none⟩ = some (.int .i64 k.a.ex)) (by kernel_rfl) (by kernel_rfl) (by rintro ⟨_, _, h⟩; exact h) (⟨by rw [(h2.drew).cell]; rfl, by rw [(h1.drew).cell]; rfl, by rw [(h1.drew).cell]; rfl, by rw [(h1.drew).cell]; rfl⟩) (fun hHeld => ?_)
            refine tkY 0 (h := ?_)
            (try simp only [Act.put, lsA, lsZ, lsS])
            refine tkY 1 (h := ?_)
            (try simp only [Act.put, lsA, lsZ, lsS])
            refine tkY 2 (h := ?_)
            (try simp only [Act.put, lsA, lsZ, lsS])
            refine tkY 3 (h := ?_)
            (try simp only [Act.put, lsA, lsZ, lsS])
            refine tkY 5 (h := ?_)
            (try simp only [Act.put, lsA, lsZ, lsS])
            refine tkY 6 (h := ?_)
            (try simp only [Act.put, lsA, lsZ, lsS])
            refine tkY 7 (h := ?_)
            (try simp only [Act.put, lsA, lsZ, lsS])
            refine tkR 4 (h := fun K hK => ?_)
            go_simp
            refine hK.out _ _ (⟨by rw [(h2.drew).cell]; rfl, by rw [(h1.drew).cell]; rfl, by rw [(h1.drew).cell]; rfl, by rw [(h1.drew).cell]; rfl⟩) (fun hHeld => ?_)
            clear hK K
            (try simp only [Act.put, lsA, lsZ, lsS])
            refine tkR 8 (h := fun K hK => ?_)
            go_simp
            with_reducible refine (hd _ hBd).mono ?_
            rintro en W6 ⟨dn, Xn, cn, En, rfl, hb6, hres⟩
            have hb7 : Below W.heap.size W W6 := hBd.trans (hb6.mono hBd.size)
            have gb7 := Lib.hid hb7
            have gb6 := Lib.hid hb6
            have gres := Lib.hid hres
            have v6 := hv.below hb7 hv.lt
            have k1 := h1.below hb7 h1.lt
            have k2 := h2.below hb7 h2.lt
            have k4 := h4.below hb7 h4.lt
            have z0 := v6.cell 9
            have z1 := v6.cell 10
            have z2 := v6.cell 11
            simp only [lgA, lgZ, lgS] at z0 z1 z2
            have f0 := v6.frozen 9
            have f1 := v6.frozen 10
            have f2 := v6.frozen 11
            have l6 := v6.lt
            have k43 : Blk (((W6.setCell ⟨w.heap.size, 9, none⟩ (.bool dn.neg)).setCell ⟨w.heap.size, 10, none⟩ (.slice Xn dn.ls.length cn)).setCell ⟨w.heap.size, 11, none⟩ (.int .i64 dn.ex)) w2.heap.size 37 #[.int .i64 0] := (((k4).far (p := ⟨w.heap.size, 9, none⟩) (by show _ ≠ w.heap.size; omega) (.bool dn.neg)).far (p := ⟨w.heap.size, 10, none⟩) (by show _ ≠ w.heap.size; omega) (.slice Xn dn.ls.length cn)).far (p := ⟨w.heap.size, 11, none⟩) (by show _ ≠ w.heap.size; omega) (.int .i64 dn.ex)
            have e3 := k43.cell 0
            have ef3 := k43.frozen 0
            simp only [List.getElem?_toArray, List.getElem?_cons_zero] at e3
            have gv6 := Lib.hid v6
            have gk1 := Lib.hid k1
            have gk2 := Lib.hid k2
            have gk4 := Lib.hid k4
            clear hb7 hb6 hres v6 k1 k2 k4 k43
            refine hK.out _ _ (⟨by rw [(gk2.out).cell]; rfl, by rw [(gk1.out).cell]; rfl, by rw [(gk1.out).cell]; rfl, by rw [(gk1.out).cell]; rfl⟩) (fun hHeld => ?_)
            clear hK K
            (try simp only [Act.put, lsA, lsZ, lsS])
            refine tkY 9 (h := ?_)
            (try simp only [Act.put, lsA, lsZ, lsS])
            refine tkY 10 (h := ?_)
            (try simp only [Act.put, lsA, lsZ, lsS])
            refine tkY 11 (h := ?_)
            (try simp only [Act.put, lsA, lsZ, lsS])
            refine tkY 12 (h := ?_)
            (try simp only [Act.put, lsA, lsZ, lsS])
            refine tkR 13 (h := fun K hK => ?_)
            go_simp
            refine hK.out _ _ (⟨by rw [((((gk2.out).far (p := ⟨w.heap.size, 9, none⟩) (by show _ ≠ w.heap.size; omega) (.bool dn.neg)).far (p := ⟨w.heap.size, 10, none⟩) (by show _ ≠ w.heap.size; omega) (.slice Xn dn.ls.length cn)).far (p := ⟨w.heap.size, 11, none⟩) (by show _ ≠ w.heap.size; omega) (.int .i64 dn.ex)).cell]; rfl, by rw [((((gk1.out).far (p := ⟨w.heap.size, 9, none⟩) (by show _ ≠ w.heap.size; omega) (.bool dn.neg)).far (p := ⟨w.heap.size, 10, none⟩) (by show _ ≠ w.heap.size; omega) (.slice Xn dn.ls.length cn)).far (p := ⟨w.heap.size, 11, none⟩) (by show _ ≠ w.heap.size; omega) (.int .i64 dn.ex)).cell]; rfl, by rw [((((gk1.out).far (p := ⟨w.heap.size, 9, none⟩) (by show _ ≠ w.heap.size; omega) (.bool dn.neg)).far (p := ⟨w.heap.size, 10, none⟩) (by show _ ≠ w.heap.size; omega) (.slice Xn dn.ls.length cn)).far (p := ⟨w.heap.size, 11, none⟩) (by show _ ≠ w.heap.size; omega) (.int .i64 dn.ex)).cell]; rfl, by rw [((((gk1.out).far (p := ⟨w.heap.size, 9, none⟩) (by show _ ≠ w.heap.size; omega) (.bool dn.neg)).far (p := ⟨w.heap.size, 10, none⟩) (by show _ ≠ w.heap.size; omega) (.slice Xn dn.ls.length cn)).far (p := ⟨w.heap.size, 11, none⟩) (by show _ ≠ w.heap.size; omega) (.int .i64 dn.ex)).cell]; rfl⟩) (fun hHeld => ?_)
            clear hK K
            (try simp only [Act.put, lsA, lsZ, lsS])
            refine tkR 14 (h := fun K hK => ?_)
            go_simp
            refine hK.out _ _ (⟨by rw [((((((gk2.out).far (p := ⟨w.heap.size, 9, none⟩) (by show _ ≠ w.heap.size; omega) (.bool dn.neg)).far (p := ⟨w.heap.size, 10, none⟩) (by show _ ≠ w.heap.size; omega) (.slice Xn dn.ls.length cn)).far (p := ⟨w.heap.size, 11, none⟩) (by show _ ≠ w.heap.size; omega) (.int .i64 dn.ex)).far (p := ⟨w2.heap.size, 0, none⟩) (by show _ ≠ w2.heap.size; omega) (.int .i64 En))).cell]; rfl, by rw [((((((gk1.out).far (p := ⟨w.heap.size, 9, none⟩) (by show _ ≠ w.heap.size; omega) (.bool dn.neg)).far (p := ⟨w.heap.size, 10, none⟩) (by show _ ≠ w.heap.size; omega) (.slice Xn dn.ls.length cn)).far (p := ⟨w.heap.size, 11, none⟩) (by show _ ≠ w.heap.size; omega) (.int .i64 dn.ex)).far (p := ⟨w2.heap.size, 0, none⟩) (by show _ ≠ w2.heap.size; omega) (.int .i64 En))).cell]; rfl, by rw [((((((gk1.out).far (p := ⟨w.heap.size, 9, none⟩) (by show _ ≠ w.heap.size; omega) (.bool dn.neg)).far (p := ⟨w.heap.size, 10, none⟩) (by show _ ≠ w.heap.size; omega) (.slice Xn dn.ls.length cn)).far (p := ⟨w.heap.size, 11, none⟩) (by show _ ≠ w.heap.size; omega) (.int .i64 dn.ex)).far (p := ⟨w2.heap.size, 0, none⟩) (by show _ ≠ w2.heap.size; omega) (.int .i64 En))).cell]; rfl, by rw [((((((gk1.out).far (p := ⟨w.heap.size, 9, none⟩) (by show _ ≠ w.heap.size; omega) (.bool dn.neg)).far (p := ⟨w.heap.size, 10, none⟩) (by show _ ≠ w.heap.size; omega) (.slice Xn dn.ls.length cn)).far (p := ⟨w.heap.size, 11, none⟩) (by show _ ≠ w.heap.size; omega) (.int .i64 dn.ex)).far (p := ⟨w2.heap.size, 0, none⟩) (by show _ ≠ w2.heap.size; omega) (.int .i64 En))).cell]; rfl⟩) (fun hHeld => ?_)
            clear hK K
            (try simp only [Act.put, lsA, lsZ, lsS])
            refine wpAnyH_done (by kernel_rfl) ?_ _
            refine NoPanic.normal ?_
            have hb7 := gb7.out
            have hg : W.grownBy W6 none := ⟨hb7.os, hb7.tape, hb7.output, hb7.size, fun k hk _ => hb7.block k hk⟩
            have hv3 : Blk (((W6.setCell ⟨w.heap.size, 9, none⟩ (.bool dn.neg)).setCell ⟨w.heap.size, 10, none⟩ (.slice Xn dn.ls.length cn)).setCell ⟨w.heap.size, 11, none⟩ (.int .i64 dn.ex)) w.heap.size 27 #[.bool d0.neg, .slice X0 d0.ls.length c0, .int .i64 d0.ex, .bool d1.neg, .slice X1 d1.ls.length c1, .int .i64 d1.ex, .bool d2.neg, .slice X2 d2.ls.length c2, .int .i64 d2.ex, .bool dn.neg, .slice Xn dn.ls.length cn, .int .i64 dn.ex] := blk3 (i := 9) (ds := #[.bool d0.neg, .slice X0 d0.ls.length c0, .int .i64 d0.ex, .bool d1.neg, .slice X1 d1.ls.length c1, .int .i64 d1.ex, .bool d2.neg, .slice X2 d2.ls.length c2, .int .i64 d2.ex, .bool dn.neg, .slice Xn dn.ls.length cn, .int .i64 dn.ex]) gv6.out (.bool dn.neg) (.slice Xn dn.ls.length cn) (.int .i64 dn.ex) (by simp)
            have hv9 : Blk ((((W6.setCell ⟨w.heap.size, 9, none⟩ (.bool dn.neg)).setCell ⟨w.heap.size, 10, none⟩ (.slice Xn dn.ls.length cn)).setCell ⟨w.heap.size, 11, none⟩ (.int .i64 dn.ex)).setCell ⟨w2.heap.size, 0, none⟩ (.int .i64 En)) w.heap.size 27 #[.bool d0.neg, .slice X0 d0.ls.length c0, .int .i64 d0.ex, .bool d1.neg, .slice X1 d1.ls.length c1, .int .i64 d1.ex, .bool d2.neg, .slice X2 d2.ls.length c2, .int .i64 d2.ex, .bool dn.neg, .slice Xn dn.ls.length cn, .int .i64 dn.ex] := hv3.far (p := ⟨w2.heap.size, 0, none⟩) (by show w.heap.size ≠ w2.heap.size; omega) (.int .i64 En)
            have k19 := (((((gk1.out).far (p := ⟨w.heap.size, 9, none⟩) (by show _ ≠ w.heap.size; omega) (.bool dn.neg)).far (p := ⟨w.heap.size, 10, none⟩) (by show _ ≠ w.heap.size; omega) (.slice Xn dn.ls.length cn)).far (p := ⟨w.heap.size, 11, none⟩) (by show _ ≠ w.heap.size; omega) (.int .i64 dn.ex)).far (p := ⟨w2.heap.size, 0, none⟩) (by show _ ≠ w2.heap.size; omega) (.int .i64 En))
            have k29 := (((((gk2.out).far (p := ⟨w.heap.size, 9, none⟩) (by show _ ≠ w.heap.size; omega) (.bool dn.neg)).far (p := ⟨w.heap.size, 10, none⟩) (by show _ ≠ w.heap.size; omega) (.slice Xn dn.ls.length cn)).far (p := ⟨w.heap.size, 11, none⟩) (by show _ ≠ w.heap.size; omega) (.int .i64 dn.ex)).far (p := ⟨w2.heap.size, 0, none⟩) (by show _ ≠ w2.heap.size; omega) (.int .i64 En))
            have k39 := (((((h3.below hb7 h3.lt).far (p := ⟨w.heap.size, 9, none⟩) (by show _ ≠ w.heap.size; omega) (.bool dn.neg)).far (p := ⟨w.heap.size, 10, none⟩) (by show _ ≠ w.heap.size; omega) (.slice Xn dn.ls.length cn)).far (p := ⟨w.heap.size, 11, none⟩) (by show _ ≠ w.heap.size; omega) (.int .i64 dn.ex)).far (p := ⟨w2.heap.size, 0, none⟩) (by show _ ≠ w2.heap.size; omega) (.int .i64 En))
            have k49 : Blk ((((W6.setCell ⟨w.heap.size, 9, none⟩ (.bool dn.neg)).setCell ⟨w.heap.size, 10, none⟩ (.slice Xn dn.ls.length cn)).setCell ⟨w.heap.size, 11, none⟩ (.int .i64 dn.ex)).setCell ⟨w2.heap.size, 0, none⟩ (.int .i64 En)) w2.heap.size 37 #[.int .i64 En] := by have h := ((((gk4.out).far (p := ⟨w.heap.size, 9, none⟩) (by show _ ≠ w.heap.size; omega) (.bool dn.neg)).far (p := ⟨w.heap.size, 10, none⟩) (by show _ ≠ w.heap.size; omega) (.slice Xn dn.ls.length cn)).far (p := ⟨w.heap.size, 11, none⟩) (by show _ ≠ w.heap.size; omega) (.int .i64 dn.ex)).set_ 0 (.int .i64 En); simpa using h
            have k59 := (((((h5.below hb7 h5.lt).far (p := ⟨w.heap.size, 9, none⟩) (by show _ ≠ w.heap.size; omega) (.bool dn.neg)).far (p := ⟨w.heap.size, 10, none⟩) (by show _ ≠ w.heap.size; omega) (.slice Xn dn.ls.length cn)).far (p := ⟨w.heap.size, 11, none⟩) (by show _ ≠ w.heap.size; omega) (.int .i64 dn.ex)).far (p := ⟨w2.heap.size, 0, none⟩) (by show _ ≠ w2.heap.size; omega) (.int .i64 En))
            have k69 := (((((h6.below hb7 h6.lt).far (p := ⟨w.heap.size, 9, none⟩) (by show _ ≠ w.heap.size; omega) (.bool dn.neg)).far (p := ⟨w.heap.size, 10, none⟩) (by show _ ≠ w.heap.size; omega) (.slice Xn dn.ls.length cn)).far (p := ⟨w.heap.size, 11, none⟩) (by show _ ≠ w.heap.size; omega) (.int .i64 dn.ex)).far (p := ⟨w2.heap.size, 0, none⟩) (by show _ ≠ w2.heap.size; omega) (.int .i64 En))
            have hW9 : Below w.heap.size w ((((W6.setCell ⟨w.heap.size, 9, none⟩ (.bool dn.neg)).setCell ⟨w.heap.size, 10, none⟩ (.slice Xn dn.ls.length cn)).setCell ⟨w.heap.size, 11, none⟩ (.int .i64 dn.ex)).setCell ⟨w2.heap.size, 0, none⟩ (.int .i64 En)) := ((((hW.trans (hb7.mono hW.size)).setCell (p := ⟨w.heap.size, 9, none⟩) (Nat.le_refl _) _).setCell (p := ⟨w.heap.size, 10, none⟩) (Nat.le_refl _) _).setCell (p := ⟨w.heap.size, 11, none⟩) (Nat.le_refl _) _).setCell (p := ⟨w2.heap.size, 0, none⟩) (by show w.heap.size ≤ w2.heap.size; omega) _
            have hmv : ∀ {n : Nat} {X : Option Addr} {xs : List Value}, OwnR W (w2.heap.size + 3) 71 X n xs → OwnR ((((W6.setCell ⟨w.heap.size, 9, none⟩ (.bool dn.neg)).setCell ⟨w.heap.size, 10, none⟩ (.slice Xn dn.ls.length cn)).setCell ⟨w.heap.size, 11, none⟩ (.int .i64 dn.ex)).setCell ⟨w2.heap.size, 0, none⟩ (.int .i64 En)) (w2.heap.size + 3) 71 X n xs := fun h => ((((h.below hb7).far (p := ⟨w.heap.size, 9, none⟩) (by show w.heap.size < w2.heap.size + 3; omega) (.bool dn.neg)).far (p := ⟨w.heap.size, 10, none⟩) (by show w.heap.size < w2.heap.size + 3; omega) (.slice Xn dn.ls.length cn)).far (p := ⟨w.heap.size, 11, none⟩) (by show w.heap.size < w2.heap.size + 3; omega) (.int .i64 dn.ex)).far (p := ⟨w2.heap.size, 0, none⟩) (by show w2.heap.size < w2.heap.size + 3; omega) (.int .i64 En)
            have q0 : (pre ++ [(⟨3, hi⟩ : P4)]).count p0 = pre.count p0 := by rw [List.count_append]; rfl
            have q1 : (pre ++ [(⟨3, hi⟩ : P4)]).count p1 = pre.count p1 := by rw [List.count_append]; rfl
            have q2 : (pre ++ [(⟨3, hi⟩ : P4)]).count p2 = pre.count p2 := by rw [List.count_append]; rfl
            have q3 : (pre ++ [(⟨3, hi⟩ : P4)]).count p3 = pre.count p3 + 1 := by rw [List.count_append]; rfl
            gi_wp2
            refine ⟨((KeepsOthers.of_grownBy hg (fun j o e ho => by cases e)).trans (KeepsOthers.setCell _ _ _)).trans ((KeepsOthers.setCell _ _ _).trans ((KeepsOthers.setCell _ _ _).trans (KeepsOthers.setCell _ _ _))), ⟨(k59.cell 0).trans (h5.cell 0).symm, (k69.cell 0).trans (h6.cell 0).symm⟩, ⟨En, ⟨k19, k29, k39, k49, k59, k69⟩, ?_⟩, hW9⟩
            rcases gres.out with ⟨rfl, hm⟩ | ⟨rfl, hm⟩ | ⟨rfl, hm, hod⟩
            · refine .inr ⟨rfl, fun hc => ?_⟩
              have hck := hc p3
              rw [q3] at hck
              rcases s3.2.2 with ⟨_, hd0, _⟩ | ⟨hp, _⟩
              · rw [hd0, gma.out.2.2.2, gmk.out.2.2.2] at hm; cases hm
              · omega
            · refine .inr ⟨rfl, fun hc => ?_⟩
              have hck := hc p3
              rw [q3] at hck
              rcases s3.2.2 with ⟨_, hd0, _⟩ | ⟨hp, _⟩
              · rw [hd0] at hm; exact ⟨rfl, addM_no (.inr (.inr (.inr hm)))⟩
              · omega
            · have S3 : StS ((((W6.setCell ⟨w.heap.size, 9, none⟩ (.bool dn.neg)).setCell ⟨w.heap.size, 10, none⟩ (.slice Xn dn.ls.length cn)).setCell ⟨w.heap.size, 11, none⟩ (.int .i64 dn.ex)).setCell ⟨w2.heap.size, 0, none⟩ (.int .i64 0)) (w2.heap.size + 3) m.a k.a aX3 ac3 ((pre ++ [(⟨3, hi⟩ : P4)]).count p3) dn Xn cn := ⟨(form_ok hm).1.2, hod.1, .inr ⟨by rw [q3]; exact Nat.succ_pos _, ((((hod.2.base_le (show w2.heap.size + 3 ≤ W.drew.heap.size from hl6)).far (p := ⟨w.heap.size, 9, none⟩) (by show w.heap.size < w2.heap.size + 3; omega) (.bool dn.neg)).far (p := ⟨w.heap.size, 10, none⟩) (by show w.heap.size < w2.heap.size + 3; omega) (.slice Xn dn.ls.length cn)).far (p := ⟨w.heap.size, 11, none⟩) (by show w.heap.size < w2.heap.size + 3; omega) (.int .i64 dn.ex)).far (p := ⟨w2.heap.size, 0, none⟩) (by show w2.heap.size < w2.heap.size + 3; omega) (.int .i64 0), fun h1 => by
                rw [q3] at h1
                rcases s3.2.2 with ⟨_, hd0, _⟩ | ⟨hp, _⟩
                · rw [← hd0]; exact hm
                · omega⟩⟩
              have S0 : StS ((((W6.setCell ⟨w.heap.size, 9, none⟩ (.bool dn.neg)).setCell ⟨w.heap.size, 10, none⟩ (.slice Xn dn.ls.length cn)).setCell ⟨w.heap.size, 11, none⟩ (.int .i64 dn.ex)).setCell ⟨w2.heap.size, 0, none⟩ (.int .i64 0)) (w2.heap.size + 3) m.s k.s aX0 ac0 ((pre ++ [(⟨3, hi⟩ : P4)]).count p0) d0 X0 c0 := by rw [q0]; exact s0.map hmv
              have S1 : StS ((((W6.setCell ⟨w.heap.size, 9, none⟩ (.bool dn.neg)).setCell ⟨w.heap.size, 10, none⟩ (.slice Xn dn.ls.length cn)).setCell ⟨w.heap.size, 11, none⟩ (.int .i64 dn.ex)).setCell ⟨w2.heap.size, 0, none⟩ (.int .i64 0)) (w2.heap.size + 3) m.w k.w aX1 ac1 ((pre ++ [(⟨3, hi⟩ : P4)]).count p1) d1 X1 c1 := by rw [q1]; exact s1.map hmv
              have S2 : StS ((((W6.setCell ⟨w.heap.size, 9, none⟩ (.bool dn.neg)).setCell ⟨w.heap.size, 10, none⟩ (.slice Xn dn.ls.length cn)).setCell ⟨w.heap.size, 11, none⟩ (.int .i64 dn.ex)).setCell ⟨w2.heap.size, 0, none⟩ (.int .i64 0)) (w2.heap.size + 3) m.c k.c aX2 ac2 ((pre ++ [(⟨3, hi⟩ : P4)]).count p2) d2 X2 c2 := by rw [q2]; exact s2.map hmv
              exact .inl ⟨rfl, d0, X0, c0, d1, X1, c1, d2, X2, c2, dn, Xn, cn, hv9, S0, S1, S2, S3⟩
        · have ghf := Lib.hid hf
          clear hf
          gi_wp2
          have hg : W.grownBy W none := ⟨rfl, rfl, rfl, Nat.le_refl _, fun _ _ _ => rfl⟩
          exact ⟨KeepsOthers.of_grownBy hg (fun j o e ho => by cases e), ⟨rfl, rfl⟩, ⟨E, ⟨h1, h2, h3, h4, h5, h6⟩, .inr ⟨hE, fun hc => ghf.out (fun i => Nat.le_trans (by rw [List.count_append]; omega) (hc i))⟩⟩, hW⟩
      case done =>
        rintro D ys W hD rfl ⟨⟨E, ⟨h1, h2, h3, h4, h5, h6⟩, hs⟩, hW⟩ hK
        have e0 := h4.cell 0
        simp only [List.getElem?_toArray, List.getElem?_cons_zero] at e0
        have hD' : w2.heap.size + 3 ≤ D := by rw [gs5.out] at hD; exact hD
        have hDl : D < W.heap.size := (Array.getElem?_eq_some_iff.1 hK).1
        have hs2 := gs2.out
        have y0 := h3.cell 0
        have y1 := h3.cell 1
        have y2 := h3.cell 2
        have y3 := h3.cell 3
        have y4 := h3.cell 4
        have y5 := h3.cell 5
        have y6 := h3.cell 6
        have y7 := h3.cell 7
        have y8 := h3.cell 8
        have y9 := h3.cell 9
        have y10 := h3.cell 10
        have y11 := h3.cell 11
        simp only [lgA, lgZ, lgS] at y0 y1 y2 y3 y4 y5 y6 y7 y8 y9 y10 y11
        have f0 := h3.frozen 0
        have f1 := h3.frozen 1
        have f2 := h3.frozen 2
        have f3 := h3.frozen 3
        have f4 := h3.frozen 4
        have f5 := h3.frozen 5
        have f6 := h3.frozen 6
        have f7 := h3.frozen 7
        have f8 := h3.frozen 8
        have f9 := h3.frozen 9
        have f10 := h3.frozen 10
        have f11 := h3.frozen 11
        rcases hs with ⟨rfl, d0, X0, c0, d1, X1, c1, d2, X2, c2, d3, X3, c3, hv, s0, s1, s2, s3⟩ | ⟨hE, hf⟩
        · have o0 := s0.2.2.elim (fun h => absurd h.1 (by decide)) (fun h => h)
          have o1 := s1.2.2.elim (fun h => absurd h.1 (by decide)) (fun h => h)
          have o2 := s2.2.2.elim (fun h => absurd h.1 (by decide)) (fun h => h)
          have o3 := s3.2.2.elim (fun h => absurd h.1 (by decide)) (fun h => h)
          have x0 := hv.cell 0
          have x1 := hv.cell 1
          have x2 := hv.cell 2
          have x3 := hv.cell 3
          have x4 := hv.cell 4
          have x5 := hv.cell 5
          have x6 := hv.cell 6
          have x7 := hv.cell 7
          have x8 := hv.cell 8
          have x9 := hv.cell 9
          have x10 := hv.cell 10
          have x11 := hv.cell 11
          simp only [lgA, lgZ, lgS] at x0 x1 x2 x3 x4 x5 x6 x7 x8 x9 x10 x11
          obtain ⟨W9, hW9⟩ : ∃ W9, W9 = (((((((((((W.setCell ⟨(w.heap.size + 3), 0, none⟩ (.bool d0.neg)).setCell ⟨(w.heap.size + 3), 1, none⟩ (.slice X0 d0.ls.length c0)).setCell ⟨(w.heap.size + 3), 2, none⟩ (.int .i64 d0.ex)).setCell ⟨(w.heap.size + 3), 3, none⟩ (.bool d1.neg)).setCell ⟨(w.heap.size + 3), 4, none⟩ (.slice X1 d1.ls.length c1)).setCell ⟨(w.heap.size + 3), 5, none⟩ (.int .i64 d1.ex)).setCell ⟨(w.heap.size + 3), 6, none⟩ (.bool d2.neg)).setCell ⟨(w.heap.size + 3), 7, none⟩ (.slice X2 d2.ls.length c2)).setCell ⟨(w.heap.size + 3), 8, none⟩ (.int .i64 d2.ex)).setCell ⟨(w.heap.size + 3), 9, none⟩ (.bool d3.neg)).setCell ⟨(w.heap.size + 3), 10, none⟩ (.slice X3 d3.ls.length c3)).setCell ⟨(w.heap.size + 3), 11, none⟩ (.int .i64 d3.ex) := ⟨_, rfl⟩
          have hK2 : W9.heap[D]? = some (.deferred (some [])) := by rw [hW9]; exact (KeepsOthers.setCell _ ⟨w.heap.size + 3, 11, none⟩ _).same D _ ((KeepsOthers.setCell _ ⟨w.heap.size + 3, 10, none⟩ _).same D _ ((KeepsOthers.setCell _ ⟨w.heap.size + 3, 9, none⟩ _).same D _ ((KeepsOthers.setCell _ ⟨w.heap.size + 3, 8, none⟩ _).same D _ ((KeepsOthers.setCell _ ⟨w.heap.size + 3, 7, none⟩ _).same D _ ((KeepsOthers.setCell _ ⟨w.heap.size + 3, 6, none⟩ _).same D _ ((KeepsOthers.setCell _ ⟨w.heap.size + 3, 5, none⟩ _).same D _ ((KeepsOthers.setCell _ ⟨w.heap.size + 3, 4, none⟩ _).same D _ ((KeepsOthers.setCell _ ⟨w.heap.size + 3, 3, none⟩ _).same D _ ((KeepsOthers.setCell _ ⟨w.heap.size + 3, 2, none⟩ _).same D _ ((KeepsOthers.setCell _ ⟨w.heap.size + 3, 1, none⟩ _).same D _ ((KeepsOthers.setCell _ ⟨w.heap.size + 3, 0, none⟩ _).same D _ (hK) rfl) rfl) rfl) rfl) rfl) rfl) rfl) rfl) rfl) rfl) rfl) rfl
          have B5 : Blk W9 (w.heap.size + 3) 27 #[.bool d0.neg, .slice X0 d0.ls.length c0, .int .i64 d0.ex, .bool d1.neg, .slice X1 d1.ls.length c1, .int .i64 d1.ex, .bool d2.neg, .slice X2 d2.ls.length c2, .int .i64 d2.ex, .bool d3.neg, .slice X3 d3.ls.length c3, .int .i64 d3.ex] := by rw [hW9]; exact blk12 h3 (.bool d0.neg) (.slice X0 d0.ls.length c0) (.int .i64 d0.ex) (.bool d1.neg) (.slice X1 d1.ls.length c1) (.int .i64 d1.ex) (.bool d2.neg) (.slice X2 d2.ls.length c2) (.int .i64 d2.ex) (.bool d3.neg) (.slice X3 d3.ls.length c3) (.int .i64 d3.ex)
          have B6 := B5.grown (grownBy_putObj' _ D (.deferred none)) (by simp; omega)
          have hb9 : Below w.heap.size w W9 := by rw [hW9]; exact (((((((((((hW.setCell (p := ⟨(w.heap.size + 3), 0, none⟩) (by show w.heap.size ≤ (w.heap.size + 3); omega) (.bool d0.neg)).setCell (p := ⟨(w.heap.size + 3), 1, none⟩) (by show w.heap.size ≤ (w.heap.size + 3); omega) (.slice X0 d0.ls.length c0)).setCell (p := ⟨(w.heap.size + 3), 2, none⟩) (by show w.heap.size ≤ (w.heap.size + 3); omega) (.int .i64 d0.ex)).setCell (p := ⟨(w.heap.size + 3), 3, none⟩) (by show w.heap.size ≤ (w.heap.size + 3); omega) (.bool d1.neg)).setCell (p := ⟨(w.heap.size + 3), 4, none⟩) (by show w.heap.size ≤ (w.heap.size + 3); omega) (.slice X1 d1.ls.length c1)).setCell (p := ⟨(w.heap.size + 3), 5, none⟩) (by show w.heap.size ≤ (w.heap.size + 3); omega) (.int .i64 d1.ex)).setCell (p := ⟨(w.heap.size + 3), 6, none⟩) (by show w.heap.size ≤ (w.heap.size + 3); omega) (.bool d2.neg)).setCell (p := ⟨(w.heap.size + 3), 7, none⟩) (by show w.heap.size ≤ (w.heap.size + 3); omega) (.slice X2 d2.ls.length c2)).setCell (p := ⟨(w.heap.size + 3), 8, none⟩) (by show w.heap.size ≤ (w.heap.size + 3); omega) (.int .i64 d2.ex)).setCell (p := ⟨(w.heap.size + 3), 9, none⟩) (by show w.heap.size ≤ (w.heap.size + 3); omega) (.bool d3.neg)).setCell (p := ⟨(w.heap.size + 3), 10, none⟩) (by show w.heap.size ≤ (w.heap.size + 3); omega) (.slice X3 d3.ls.length c3)).setCell (p := ⟨(w.heap.size + 3), 11, none⟩) (by show w.heap.size ≤ (w.heap.size + 3); omega) (.int .i64 d3.ex)
          have hb10 := hb9.trans (belowK_b (w := w) (Nat.le_refl _) _ D _ (.deferred none) (by omega) hK2 rfl rfl)
          have hof : ∀ {n : Nat} {X : Option Addr} {xs : List Value}, OwnR W (w2.heap.size + 3) 71 X n xs → OwnR W9 w.heap.size 71 X n xs := fun h => by rw [hW9]; exact OwnR.base_le (OwnR.far (p := ⟨w.heap.size + 3, 11, none⟩) (OwnR.far (p := ⟨w.heap.size + 3, 10, none⟩) (OwnR.far (p := ⟨w.heap.size + 3, 9, none⟩) (OwnR.far (p := ⟨w.heap.size + 3, 8, none⟩) (OwnR.far (p := ⟨w.heap.size + 3, 7, none⟩) (OwnR.far (p := ⟨w.heap.size + 3, 6, none⟩) (OwnR.far (p := ⟨w.heap.size + 3, 5, none⟩) (OwnR.far (p := ⟨w.heap.size + 3, 4, none⟩) (OwnR.far (p := ⟨w.heap.size + 3, 3, none⟩) (OwnR.far (p := ⟨w.heap.size + 3, 2, none⟩) (OwnR.far (p := ⟨w.heap.size + 3, 1, none⟩) (OwnR.far (p := ⟨w.heap.size + 3, 0, none⟩) (h) (by show w.heap.size + 3 < w2.heap.size + 3; omega) (.bool d0.neg)) (by show w.heap.size + 3 < w2.heap.size + 3; omega) (.slice X0 d0.ls.length c0)) (by show w.heap.size + 3 < w2.heap.size + 3; omega) (.int .i64 d0.ex)) (by show w.heap.size + 3 < w2.heap.size + 3; omega) (.bool d1.neg)) (by show w.heap.size + 3 < w2.heap.size + 3; omega) (.slice X1 d1.ls.length c1)) (by show w.heap.size + 3 < w2.heap.size + 3; omega) (.int .i64 d1.ex)) (by show w.heap.size + 3 < w2.heap.size + 3; omega) (.bool d2.neg)) (by show w.heap.size + 3 < w2.heap.size + 3; omega) (.slice X2 d2.ls.length c2)) (by show w.heap.size + 3 < w2.heap.size + 3; omega) (.int .i64 d2.ex)) (by show w.heap.size + 3 < w2.heap.size + 3; omega) (.bool d3.neg)) (by show w.heap.size + 3 < w2.heap.size + 3; omega) (.slice X3 d3.ls.length c3)) (by show w.heap.size + 3 < w2.heap.size + 3; omega) (.int .i64 d3.ex)) (by omega)
          have hrD : ∀ r, some D = some r → ∃ o : Obj, W9.heap[r]? = some o ∧ o.isCells = false := fun r e => by injection e with e; subst e; exact ⟨_, hK2, rfl⟩
          have hM : addM m k = some ⟨d0, d1, d2, d3⟩ := by unfold addM; rw [o0.2.2 (by decide), o1.2.2 (by decide), o2.2.2 (by decide), o3.2.2 (by decide)]
          have gO := Lib.hid (And.intro o0.2.1 (And.intro o1.2.1 (And.intro o2.2.1 o3.2.1)))
          have gl := Lib.hid (And.intro s0.2.1 (And.intro s1.2.1 (And.intro s2.2.1 s3.2.1)))
          clear o0 o1 o2 o3 s0 s1 s2 s3 hv h1 h2 h3 h5 h6
          gi_wp2
          rw [← hW9]
          refine ⟨by simp, .inl ⟨_, _, rfl, run_takeDeferred hK2, ?_⟩⟩
          refine ⟨_, ret_mass rfl _ _ (w.heap.size + 3) #[.bool d0.neg, .slice X0 d0.ls.length c0, .int .i64 d0.ex, .bool d1.neg, .slice X1 d1.ls.length c1, .int .i64 d1.ex, .bool d2.neg, .slice X2 d2.ls.length c2, .int .i64 d2.ex, .bool d3.neg, .slice X3 d3.ls.length c3, .int .i64 d3.ex] (.int .i64 0) rfl B6 (by kernel_rfl) rfl, hb10, .inr ⟨by rw [hQa, hQb]; rfl, .inr ⟨⟨d0, d1, d2, d3⟩, hM, X0, c0, X1, c1, X2, c2, X3, c3, rfl, ?_⟩⟩⟩
          exact ⟨⟨gl.out.1, ownR_own (hof gO.out.1) (grownBy_putObj' _ D _) hrD⟩, ⟨gl.out.2.1, ownR_own (hof gO.out.2.1) (grownBy_putObj' _ D _) hrD⟩, ⟨gl.out.2.2.1, ownR_own (hof gO.out.2.2.1) (grownBy_putObj' _ D _) hrD⟩, ⟨gl.out.2.2.2, ownR_own (hof gO.out.2.2.2) (grownBy_putObj' _ D _) hrD⟩⟩
        · obtain ⟨rfl, hM⟩ := hf cnt1
          obtain ⟨W9, hW9⟩ : ∃ W9, W9 = (((((((((((W.setCell ⟨(w.heap.size + 3), 0, none⟩ (.bool false)).setCell ⟨(w.heap.size + 3), 1, none⟩ (.slice none 0 0)).setCell ⟨(w.heap.size + 3), 2, none⟩ (.int .i64 0)).setCell ⟨(w.heap.size + 3), 3, none⟩ (.bool false)).setCell ⟨(w.heap.size + 3), 4, none⟩ (.slice none 0 0)).setCell ⟨(w.heap.size + 3), 5, none⟩ (.int .i64 0)).setCell ⟨(w.heap.size + 3), 6, none⟩ (.bool false)).setCell ⟨(w.heap.size + 3), 7, none⟩ (.slice none 0 0)).setCell ⟨(w.heap.size + 3), 8, none⟩ (.int .i64 0)).setCell ⟨(w.heap.size + 3), 9, none⟩ (.bool false)).setCell ⟨(w.heap.size + 3), 10, none⟩ (.slice none 0 0)).setCell ⟨(w.heap.size + 3), 11, none⟩ (.int .i64 0) := ⟨_, rfl⟩
          have hK2 : W9.heap[D]? = some (.deferred (some [])) := by rw [hW9]; exact (KeepsOthers.setCell _ ⟨w.heap.size + 3, 11, none⟩ _).same D _ ((KeepsOthers.setCell _ ⟨w.heap.size + 3, 10, none⟩ _).same D _ ((KeepsOthers.setCell _ ⟨w.heap.size + 3, 9, none⟩ _).same D _ ((KeepsOthers.setCell _ ⟨w.heap.size + 3, 8, none⟩ _).same D _ ((KeepsOthers.setCell _ ⟨w.heap.size + 3, 7, none⟩ _).same D _ ((KeepsOthers.setCell _ ⟨w.heap.size + 3, 6, none⟩ _).same D _ ((KeepsOthers.setCell _ ⟨w.heap.size + 3, 5, none⟩ _).same D _ ((KeepsOthers.setCell _ ⟨w.heap.size + 3, 4, none⟩ _).same D _ ((KeepsOthers.setCell _ ⟨w.heap.size + 3, 3, none⟩ _).same D _ ((KeepsOthers.setCell _ ⟨w.heap.size + 3, 2, none⟩ _).same D _ ((KeepsOthers.setCell _ ⟨w.heap.size + 3, 1, none⟩ _).same D _ ((KeepsOthers.setCell _ ⟨w.heap.size + 3, 0, none⟩ _).same D _ (hK) rfl) rfl) rfl) rfl) rfl) rfl) rfl) rfl) rfl) rfl) rfl) rfl
          have B5 : Blk W9 (w.heap.size + 3) 27 #[.bool false, .slice none 0 0, .int .i64 0, .bool false, .slice none 0 0, .int .i64 0, .bool false, .slice none 0 0, .int .i64 0, .bool false, .slice none 0 0, .int .i64 0] := by rw [hW9]; exact blk12 h3 (.bool false) (.slice none 0 0) (.int .i64 0) (.bool false) (.slice none 0 0) (.int .i64 0) (.bool false) (.slice none 0 0) (.int .i64 0) (.bool false) (.slice none 0 0) (.int .i64 0)
          have B6 := B5.grown (grownBy_putObj' _ D (.deferred none)) (by simp; omega)
          have hb9 : Below w.heap.size w W9 := by rw [hW9]; exact (((((((((((hW.setCell (p := ⟨(w.heap.size + 3), 0, none⟩) (by show w.heap.size ≤ (w.heap.size + 3); omega) (.bool false)).setCell (p := ⟨(w.heap.size + 3), 1, none⟩) (by show w.heap.size ≤ (w.heap.size + 3); omega) (.slice none 0 0)).setCell (p := ⟨(w.heap.size + 3), 2, none⟩) (by show w.heap.size ≤ (w.heap.size + 3); omega) (.int .i64 0)).setCell (p := ⟨(w.heap.size + 3), 3, none⟩) (by show w.heap.size ≤ (w.heap.size + 3); omega) (.bool false)).setCell (p := ⟨(w.heap.size + 3), 4, none⟩) (by show w.heap.size ≤ (w.heap.size + 3); omega) (.slice none 0 0)).setCell (p := ⟨(w.heap.size + 3), 5, none⟩) (by show w.heap.size ≤ (w.heap.size + 3); omega) (.int .i64 0)).setCell (p := ⟨(w.heap.size + 3), 6, none⟩) (by show w.heap.size ≤ (w.heap.size + 3); omega) (.bool false)).setCell (p := ⟨(w.heap.size + 3), 7, none⟩) (by show w.heap.size ≤ (w.heap.size + 3); omega) (.slice none 0 0)).setCell (p := ⟨(w.heap.size + 3), 8, none⟩) (by show w.heap.size ≤ (w.heap.size + 3); omega) (.int .i64 0)).setCell (p := ⟨(w.heap.size + 3), 9, none⟩) (by show w.heap.size ≤ (w.heap.size + 3); omega) (.bool false)).setCell (p := ⟨(w.heap.size + 3), 10, none⟩) (by show w.heap.size ≤ (w.heap.size + 3); omega) (.slice none 0 0)).setCell (p := ⟨(w.heap.size + 3), 11, none⟩) (by show w.heap.size ≤ (w.heap.size + 3); omega) (.int .i64 0)
          have hb10 := hb9.trans (belowK_b (w := w) (Nat.le_refl _) _ D _ (.deferred none) (by omega) hK2 rfl rfl)
          clear h1 h2 h3 h5 h6
          have B7 := (Blk.drew B5).grown (grownBy_putObj' _ D (.deferred none)) (by simp; omega)
          have hb11 := (Below.drew hb9).trans (belowK_b (w := w) (Nat.le_refl _) W9.drew D _ (.deferred none) (by omega) hK2 rfl rfl)
          gi_wp2_with fail
          gi_region
          gi_wp2
          rw [← hW9]
          refine ⟨by simp, .inl ⟨_, _, rfl, run_takeDeferred (w := W9.drew) hK2, ?_⟩⟩
          exact ⟨_, ret_mass rfl _ _ (w.heap.size + 3) #[.bool false, .slice none 0 0, .int .i64 0, .bool false, .slice none 0 0, .int .i64 0, .bool false, .slice none 0 0, .int .i64 0, .bool false, .slice none 0 0, .int .i64 0] (.int .i64 10) rfl B7 (by kernel_rfl) rfl, hb11, .inr ⟨by rw [hQa, hQb]; rfl, .inl ⟨hM, rfl⟩⟩⟩
      case stop =>
        rintro D c pre W _ _ h _
        exact h.elim
end Go.Proofs.YtdmjdpaehnhdoaaDoor
