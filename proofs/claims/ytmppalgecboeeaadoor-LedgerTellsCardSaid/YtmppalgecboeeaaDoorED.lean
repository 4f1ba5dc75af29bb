/- Door: ledger.total -/
import Derived.Test.YtmppalgecboeeaaDoorEC
namespace Go.Proofs.YtmppalgecboeeaaDoor
open Go.ChangeShapes Go.WideShapes Go.ChangeAt Go.RowKit
set_option linter.unusedSimpArgs false
set_option linter.unusedVariables false
open Go.Shelf
set_option maxRecDepth 100000
/-- What masses are together, from the first one to the last one. -/
def sumF (a : Ms) : List Ms → Option Ms
  | [] => some a
  | m :: r => match addM a m with
    | none => none
    | some d => sumF d r
theorem owD_zero (w : World) (B : Nat) : OwD w B none 0 ⟨false, [], 0⟩ := ⟨Nat.le_refl _, rfl, fun h => absurd h (by decide)⟩
theorem OwD.below {w w' : World} {B c : Nat} {X : Option Addr} {d : Dy} (h : OwD w B X c d) (hb : Below w.heap.size w w') : OwD w' B X c d := ⟨h.1, h.2.below hb⟩
def zM : Ms := ⟨⟨false, [], 0⟩, ⟨false, [], 0⟩, ⟨false, [], 0⟩, ⟨false, [], 0⟩⟩
def sumL (l : List Ms) : Option Ms := sumF zM l
theorem sumF_snoc (m : Ms) : ∀ (l : List Ms) (a : Ms), sumF a (l ++ [m]) = (sumF a l).bind (fun d => addM d m)
  | [], a => by
    show (match addM a m with | none => none | some d => some d) = addM a m
    cases addM a m <;> rfl
  | x :: r, a => by
    show (match addM a x with | none => none | some d => sumF d (r ++ [m])) = (match addM a x with | none => none | some d => sumF d r).bind _
    cases h : addM a x with
    | none => rfl
    | some d => exact sumF_snoc m r d
theorem sumF_no (r : List Ms) : ∀ (l : List Ms) (a : Ms), sumF a l = none → sumF a (l ++ r) = none
  | [], a, h => by cases h
  | x :: t, a, h => by
    show (match addM a x with | none => none | some d => sumF d (t ++ r)) = none
    have h' : (match addM a x with | none => none | some d => sumF d t) = none := h
    cases h2 : addM a x with
    | none => rfl
    | some d => rw [h2] at h'; exact sumF_no r t d h'
theorem mayM_of {s w c a : Dy} (h1 : mayd s = true) (h2 : mayd w = true) (h3 : mayd c = true) (h4 : mayd a = true) : mayM ⟨s, w, c, a⟩ = true := by
  unfold mayM
  simp [h1, h2, h3, h4]
theorem addM_some {m k d : Ms} (h : addM m k = some d) : addD m.s k.s = some d.s ∧ addD m.w k.w = some d.w ∧ addD m.c k.c = some d.c ∧ addD m.a k.a = some d.a := by
  unfold addM at h
  cases h1 : addD m.s k.s <;> cases h2 : addD m.w k.w <;> cases h3 : addD m.c k.c <;> cases h4 : addD m.a k.a <;> simp only [h1, h2, h3, h4] at h <;> first | cases h | skip
  exact ⟨rfl, rfl, rfl, rfl⟩
theorem addM_ok {m k d : Ms} (h : addM m k = some d) : mayM d = true ∧ ltM4 d := by
  obtain ⟨h1, h2, h3, h4⟩ := addM_some h
  exact ⟨mayM_of (form_ok h1).1.1 (form_ok h2).1.1 (form_ok h3).1.1 (form_ok h4).1.1, (form_ok h1).1.2, (form_ok h2).1.2, (form_ok h3).1.2, (form_ok h4).1.2⟩
theorem ret_cc {fn : Func} {p u : Tmp} (h : fn.results = #[.cell p 27, .cell u 32]) (tmps : Array Value) (w : World) (r g : Nat) (cs : Array Value) (E : Int) (hp : tmps.getD p undef = .pointer (some ⟨r, 0, none⟩)) (hu : tmps.getD u undef = .pointer (some ⟨g, 0, none⟩)) (hk : Blk w r 27 cs) (hs : (Tryd.prog.info? 27).map (·.size) = some cs.size) (hv : Blk w g 32 #[.int .i64 E]) : (results fn tmps).run Tryd.prog w = .ok (.tuple #[.agg cs, .int .i64 E]) w := by
  have h1 := run_loadVar_row (P := Tryd.prog) w r 27 27 cs (0, 0) _ hk Tryd.underlying27 rfl hs
  have e0 := hv.cell 0
  simp only [List.getElem?_toArray, List.getElem?_cons_zero] at e0
  have h2 : (loadVar 32 ⟨g, 0, none⟩).run Tryd.prog w = .ok (.int .i64 E) w := by simp [go_sem, e0]
  rw [Array.getD_eq_getD_getElem?] at hp hu
  simp only [results, h]
  simp [Sem.run_bind, Result.andThen, hp, hu, h1, h2, asAddr]
/-- What the sum of masses answers. -/
def TotP (zs : List Ms) (w : World) (en : Ending) (w' : World) : Prop := Below w.heap.size w w' ∧ ((sumL zs = none ∧ en = .returned (.tuple #[.agg #[.bool false, .slice none 0 0, .int .i64 0, .bool false, .slice none 0 0, .int .i64 0, .bool false, .slice none 0 0, .int .i64 0, .bool false, .slice none 0 0, .int .i64 0], .int .i64 10])) ∨
  (∃ d, sumL zs = some d ∧ ∃ (X0 : Option Addr) (c0 : Nat) (X1 : Option Addr) (c1 : Nat) (X2 : Option Addr) (c2 : Nat) (X3 : Option Addr) (c3 : Nat), en = .returned (.tuple #[.agg #[.bool d.s.neg, .slice X0 d.s.ls.length c0, .int .i64 d.s.ex, .bool d.w.neg, .slice X1 d.w.ls.length c1, .int .i64 d.w.ex, .bool d.c.neg, .slice X2 d.c.ls.length c2, .int .i64 d.c.ex, .bool d.a.neg, .slice X3 d.a.ls.length c3, .int .i64 d.a.ex], .int .i64 0]) ∧ OwD w' w.heap.size X0 c0 d.s ∧ OwD w' w.heap.size X1 c1 d.w ∧ OwD w' w.heap.size X2 c2 d.c ∧ OwD w' w.heap.size X3 c3 d.a))
attribute [local go_sem] Oper.semAt_some
set_option maxHeartbeats 8000000 in
theorem total_any (wn : World) (lb : Array Value) (zs : List Ms) (NN : Nat) (hT : Tab wn)
    (hseq : ∀ w0, Below wn.heap.size wn w0 → SeqStopsK Fence.wide 5 Tryd.prog 60 lb (encV wn) (KpB wn) (fun ys => ys.map (fun v => v.1.m) = zs) (fun pre => ∃ r, pre.map (fun v => v.1.m) ++ r = zs) NN w0) :
    Calls Tryd.prog 39 #[.func (.func 60) #[] lb] wn (TotP zs wn) := by
  refine (callsIn_wide (n := 6)).1 ?_
  refine callsIn_of_wp_marks Tryd.func39 rfl trivial ?_ rfl
  simp only [Tryd.ntmps39, List.size_toArray, List.length_cons, List.length_nil, Nat.reduceAdd, Nat.reduceSub, Array.replicate_succ, Array.replicate_zero, List.push_toArray, List.append_toArray, List.nil_append, List.cons_append]
  obtain ⟨W5, hW5⟩ : ∃ W5, W5 = (wn.alloc (.cells #[.bool false, .slice none 0 0, .int .i64 0, .bool false, .slice none 0 0, .int .i64 0, .bool false, .slice none 0 0, .int .i64 0, .bool false, .slice none 0 0, .int .i64 0] 27)).alloc (.cells #[.int .i64 0] 32) := ⟨_, rfl⟩
  have B0 : Blk W5 wn.heap.size 27 #[.bool false, .slice none 0 0, .int .i64 0, .bool false, .slice none 0 0, .int .i64 0, .bool false, .slice none 0 0, .int .i64 0, .bool false, .slice none 0 0, .int .i64 0] := by rw [hW5]; exact (Blk.new wn _ _).alloc _
  have B1 : Blk W5 (wn.heap.size + 1) 32 #[.int .i64 0] := by
    have h := Blk.new (wn.alloc (.cells #[.bool false, .slice none 0 0, .int .i64 0, .bool false, .slice none 0 0, .int .i64 0, .bool false, .slice none 0 0, .int .i64 0, .bool false, .slice none 0 0, .int .i64 0] 27)) 32 #[.int .i64 0]
    rw [World.size_alloc] at h
    rw [hW5]; exact h
  have hB : Below wn.heap.size wn W5 := by rw [hW5]; exact ((Below.refl _ wn).alloc (Nat.le_refl _) _).alloc (by simp) _
  have sz5 : W5.heap.size = wn.heap.size + 2 := by rw [hW5]; simp
  have gs5 := Lib.hid sz5
  gi_wp2
  rw [← hW5]
  clear hW5 sz5
  refine wpIn_rangeFunc_ownH rfl (by omega) (gf := 60) (lb := lb) rfl trivial (enters_of Tryd.func60 (by kernel_rfl) rfl)
    (hseq W5 hB) kpB_t (fun W l o o' hl ho hc hw => belowK_b (w := W5) (by rw [gs5.out]; omega) W l o o' hl ho hc hw) (Below.refl _ _) (fun _ => rfl)
    (fun pre W => (∃ (acc : Ms) (X0 : Option Addr) (c0 : Nat) (X1 : Option Addr) (c1 : Nat) (X2 : Option Addr) (c2 : Nat) (X3 : Option Addr) (c3 : Nat), sumL ((pre).map (fun v => v.1.m)) = some acc ∧ mayM acc = true ∧ ltM4 acc ∧ Blk W wn.heap.size 27 #[.bool acc.s.neg, .slice X0 acc.s.ls.length c0, .int .i64 acc.s.ex, .bool acc.w.neg, .slice X1 acc.w.ls.length c1, .int .i64 acc.w.ex, .bool acc.c.neg, .slice X2 acc.c.ls.length c2, .int .i64 acc.c.ex, .bool acc.a.neg, .slice X3 acc.a.ls.length c3, .int .i64 acc.a.ex] ∧ Blk W (wn.heap.size + 1) 32 #[.int .i64 0] ∧ OwD W (wn.heap.size + 2) X0 c0 acc.s ∧ OwD W (wn.heap.size + 2) X1 c1 acc.w ∧ OwD W (wn.heap.size + 2) X2 c2 acc.c ∧ OwD W (wn.heap.size + 2) X3 c3 acc.a) ∧ Below wn.heap.size wn W)
    (fun c pre W => (c = .ret ∧ sumL ((pre).map (fun v => v.1.m)) = none ∧ Blk W wn.heap.size 27 #[.bool false, .slice none 0 0, .int .i64 0, .bool false, .slice none 0 0, .int .i64 0, .bool false, .slice none 0 0, .int .i64 0, .bool false, .slice none 0 0, .int .i64 0] ∧ Blk W (wn.heap.size + 1) 32 #[.int .i64 10]) ∧ Below wn.heap.size wn W)
    (OwnFrom.and (Own.from (fun s A B row hs hg hr => by
      obtain ⟨acc, X0, c0, X1, c1, X2, c2, X3, c3, h1, h2, h3, h4, h5, o0, o1, o2, o3⟩ := hs
      exact ⟨acc, X0, c0, X1, c1, X2, c2, X3, c3, h1, h2, h3, blk_own (β := Nat) _ _ (fun _ => _) 0 A B row h4 hg hr, blk_own (β := Nat) _ _ (fun _ => _) 0 A B row h5 hg hr, ⟨o0.1, ownR_own o0.2 hg hr⟩, ⟨o1.1, ownR_own o1.2 hg hr⟩, ⟨o2.1, ownR_own o2.2 hg hr⟩, ⟨o3.1, ownR_own o3.2 hg hr⟩⟩) _) (ownFrom_below (Nat.le_refl _) (by rw [gs5.out]; omega)))
    (fun c => OwnFrom.and (Own.from (fun s A B row hs hg hr => ⟨hs.1, hs.2.1, blk_own (β := Nat) _ _ (fun _ => _) 0 A B row hs.2.2.1 hg hr, blk_own (β := Nat) _ _ (fun _ => _) 0 A B row hs.2.2.2 hg hr⟩) _) (ownFrom_below (Nat.le_refl _) (by rw [gs5.out]; omega)))
    ⟨⟨zM, none, 0, none, 0, none, 0, none, 0, rfl, by decide, ⟨fun _ h => (by cases h), fun _ h => (by cases h), fun _ h => (by cases h), fun _ h => (by cases h)⟩, B0, B1, owD_zero _ _, owD_zero _ _, owD_zero _ _, owD_zero _ _⟩, hB⟩
    (fun x a' W => ∃ b, a' = { tmps := #[.func (.func 60) #[] lb, undef, .pointer (some ⟨wn.heap.size, 0, none⟩), .pointer (some ⟨wn.heap.size + 1, 0, none⟩), .pointer (some ⟨b, 0, none⟩), .func (.func 60) #[] lb, .agg #[.bool x.1.g0, .slice x.1.X0 x.1.n0 x.1.c0, .int .i64 x.1.e0, .bool x.1.g1, .slice x.1.X1 x.1.n1 x.1.c1, .int .i64 x.1.e1, .bool x.1.g2, .slice x.1.X2 x.1.n2 x.1.c2, .int .i64 x.1.e2, .bool x.1.g3, .slice x.1.X3 x.1.n3 x.1.c3, .int .i64 x.1.e3], undef, undef, undef, undef, undef, undef, undef, undef, undef, undef, undef], defers := [] } ∧ wn.heap.size + 2 ≤ b ∧ Blk W b 27 #[.bool x.1.g0, .slice x.1.X0 x.1.n0 x.1.c0, .int .i64 x.1.e0, .bool x.1.g1, .slice x.1.X1 x.1.n1 x.1.c1, .int .i64 x.1.e1, .bool x.1.g2, .slice x.1.X2 x.1.n2 x.1.c2, .int .i64 x.1.e2, .bool x.1.g3, .slice x.1.X3 x.1.n3 x.1.c3, .int .i64 x.1.e3])
    (fun x a' s A B row hs hg hr => by
      obtain ⟨b, h1, h2, h3⟩ := hs
      exact ⟨b, h1, h2, blk_own (β := Nat) _ _ (fun _ => _) 0 A B row h3 hg (fun r e => (hr r e).2)⟩) ?assign ?body ?done ?stop
  case assign =>
    rintro l pre x W K ⟨⟨acc, X0, c0, X1, c1, X2, c2, X3, c3, h1, h2, h3, h4, h5, o0, o1, o2, o3⟩, hW⟩ hK
    have hbw : W5.heap.size ≤ W.heap.size := by have h5l := h5.lt; have := gs5.out; omega
    have hB1 : Below wn.heap.size W (W.alloc (.cells #[.bool x.1.g0, .slice x.1.X0 x.1.n0 x.1.c0, .int .i64 x.1.e0, .bool x.1.g1, .slice x.1.X1 x.1.n1 x.1.c1, .int .i64 x.1.e1, .bool x.1.g2, .slice x.1.X2 x.1.n2 x.1.c2, .int .i64 x.1.e2, .bool x.1.g3, .slice x.1.X3 x.1.n3 x.1.c3, .int .i64 x.1.e3] 27)) := (Below.refl wn.heap.size W).alloc (by have h5l := h5.lt; omega) _
    have hbl : Below W.heap.size W (W.alloc (.cells #[.bool x.1.g0, .slice x.1.X0 x.1.n0 x.1.c0, .int .i64 x.1.e0, .bool x.1.g1, .slice x.1.X1 x.1.n1 x.1.c1, .int .i64 x.1.e1, .bool x.1.g2, .slice x.1.X2 x.1.n2 x.1.c2, .int .i64 x.1.e2, .bool x.1.g3, .slice x.1.X3 x.1.n3 x.1.c3, .int .i64 x.1.e3] 27)) := (Below.refl _ W).alloc (Nat.le_refl _) _
    have hk := hK { tmps := #[.func (.func 60) #[] lb, undef, .pointer (some ⟨wn.heap.size, 0, none⟩), .pointer (some ⟨wn.heap.size + 1, 0, none⟩), .pointer (some ⟨W.heap.size, 0, none⟩), .func (.func 60) #[] lb, .agg #[.bool x.1.g0, .slice x.1.X0 x.1.n0 x.1.c0, .int .i64 x.1.e0, .bool x.1.g1, .slice x.1.X1 x.1.n1 x.1.c1, .int .i64 x.1.e1, .bool x.1.g2, .slice x.1.X2 x.1.n2 x.1.c2, .int .i64 x.1.e2, .bool x.1.g3, .slice x.1.X3 x.1.n3 x.1.c3, .int .i64 x.1.e3], undef, undef, undef, undef, undef, undef, undef, undef, undef, undef, undef], defers := [] } (W.alloc (.cells #[.bool x.1.g0, .slice x.1.X0 x.1.n0 x.1.c0, .int .i64 x.1.e0, .bool x.1.g1, .slice x.1.X1 x.1.n1 x.1.c1, .int .i64 x.1.e1, .bool x.1.g2, .slice x.1.X2 x.1.n2 x.1.c2, .int .i64 x.1.e2, .bool x.1.g3, .slice x.1.X3 x.1.n3 x.1.c3, .int .i64 x.1.e3] 27)) ((KeepsOthers.alloc _ _).from _) hB1 ⟨⟨acc, X0, c0, X1, c1, X2, c2, X3, c3, h1, h2, h3, h4.alloc _, h5.alloc _, o0.below hbl, o1.below hbl, o2.below hbl, o3.below hbl⟩, hW.trans hB1⟩ ⟨W.heap.size, rfl, by rw [← gs5.out]; exact hbw, Blk.new W _ _⟩
    clear hK h4 h5 o0 o1 o2 o3
    simp only [encV, MV.val]
    gi_wp2
    exact hk
  case body =>
    rintro l pre ⟨⟨bg0, bX0, bn0, bc0, be0, bg1, bX1, bn1, bc1, be1, bg2, bX2, bn2, bc2, be2, bg3, bX3, bn3, bc3, be3, m⟩, hx⟩ a' W hl hr ⟨⟨acc, X0, c0, X1, c1, X2, c2, X3, c3, h1, h2, h3, h4, h5, o0, o1, o2, o3⟩, hW⟩ ⟨b, rfl, hb2, hbx⟩ _
    obtain ⟨hrd, hmay, hlt⟩ := id hx
    obtain ⟨⟨e00, e01, e02, l0, r0⟩, ⟨e10, e11, e12, l1, r1⟩, ⟨e20, e21, e22, l2, r2⟩, ⟨e30, e31, e32, l3, r3⟩⟩ := hrd
    dsimp only at e00 e01 e02 l0 r0 e10 e11 e12 l1 r1 e20 e21 e22 l2 r2 e30 e31 e32 l3 r3 hmay hlt hbx
    subst e00 e01 e02 e10 e11 e12 e20 e21 e22 e30 e31 e32
    have h5l := h5.lt
    have hadd := madd_any acc m h3 hlt X0 c0 X1 c1 X2 c2 X3 c3 bX0 bc0 bX1 bc1 bX2 bc2 bX3 bc3 W ⟨⟨rfl, rfl, rfl, o0.1, o0.2.reads⟩, ⟨rfl, rfl, rfl, o1.1, o1.2.reads⟩, ⟨rfl, rfl, rfl, o2.1, o2.2.reads⟩, ⟨rfl, rfl, rfl, o3.1, o3.2.reads⟩⟩ ⟨⟨rfl, rfl, rfl, l0, (r0.below hW).more hW.size⟩, ⟨rfl, rfl, rfl, l1, (r1.below hW).more hW.size⟩, ⟨rfl, rfl, rfl, l2, (r2.below hW).more hW.size⟩, ⟨rfl, rfl, rfl, l3, (r3.below hW).more hW.size⟩⟩ (hT.below hW hT.2)
    have gsn : Hid (sumL ((pre ++ [(⟨⟨m.s.neg, bX0, m.s.ls.length, bc0, m.s.ex, m.w.neg, bX1, m.w.ls.length, bc1, m.w.ex, m.c.neg, bX2, m.c.ls.length, bc2, m.c.ex, m.a.neg, bX3, m.a.ls.length, bc3, m.a.ex, m⟩, hx⟩ : Vw wn)]).map (fun v => v.1.m)) = addM acc m) := Lib.hid (by rw [List.map_append]; unfold sumL; rw [List.map_cons, List.map_nil, sumF_snoc]; unfold sumL at h1; rw [h1]; rfl)
    have gx := Lib.hid hx
    have gow := Lib.hid (And.intro o0 (And.intro o1 (And.intro o2 o3)))
    have gmm : Hid ((mayM acc && mayM m) = true) := Lib.hid (by rw [h2, hmay]; rfl)
    clear r0 r1 r2 r3 l0 l1 l2 l3 hmay hlt h1 h2 h3 o0 o1 o2 o3
    have x0 := h4.cell 0
    have x1 := h4.cell 1
    have x2 := h4.cell 2
    have x3 := h4.cell 3
    have x4 := h4.cell 4
    have x5 := h4.cell 5
    have x6 := h4.cell 6
    have x7 := h4.cell 7
    have x8 := h4.cell 8
    have x9 := h4.cell 9
    have x10 := h4.cell 10
    have x11 := h4.cell 11
    simp only [List.getElem?_toArray, List.getElem?_cons_zero, List.getElem?_cons_succ] at x0 x1 x2 x3 x4 x5 x6 x7 x8 x9 x10 x11
    have y0 := hbx.cell 0
    have y1 := hbx.cell 1
    have y2 := hbx.cell 2
    have y3 := hbx.cell 3
    have y4 := hbx.cell 4
    have y5 := hbx.cell 5
    have y6 := hbx.cell 6
    have y7 := hbx.cell 7
    have y8 := hbx.cell 8
    have y9 := hbx.cell 9
    have y10 := hbx.cell 10
    have y11 := hbx.cell 11
    simp only [List.getElem?_toArray, List.getElem?_cons_zero, List.getElem?_cons_succ] at y0 y1 y2 y3 y4 y5 y6 y7 y8 y9 y10 y11
    gi_wp2_with fail
    refine ⟨trivial, ?_⟩
    refine (callsIn_wide.2 hadd).mono ?_
    rintro en w6 ⟨hb6, hres⟩
    have hg : W.grownBy w6 none := ⟨hb6.os, hb6.tape, hb6.output, hb6.size, fun j hj _ => hb6.block j hj⟩
    have v6 := h4.below hb6 h4.lt
    have u6 := h5.below hb6 h5.lt
    have hW6 := hW.trans (hb6.mono hW.size)
    clear x0 y0 x1 y1 x2 y2 x3 y3 x4 y4 x5 y5 x6 y6 x7 y7 x8 y8 x9 y9 x10 y10 x11 y11 h4 h5 hadd hbx
    rcases hres with ⟨h1, _⟩ | ⟨_, ⟨h2, rfl⟩ | ⟨d, h2, Y0, e0, Y1, e1, Y2, e2, Y3, ey, rfl, p0, p1, p2, p3⟩⟩
    · rw [gmm.out] at h1; cases h1
    · have z0 := v6.cell 0
      have z1 := v6.cell 1
      have z2 := v6.cell 2
      have z3 := v6.cell 3
      have z4 := v6.cell 4
      have z5 := v6.cell 5
      have z6 := v6.cell 6
      have z7 := v6.cell 7
      have z8 := v6.cell 8
      have z9 := v6.cell 9
      have z10 := v6.cell 10
      have z11 := v6.cell 11
      simp only [List.getElem?_toArray, List.getElem?_cons_zero, List.getElem?_cons_succ] at z0 z1 z2 z3 z4 z5 z6 z7 z8 z9 z10 z11
      have f0 := v6.frozen 0
      have f1 := v6.frozen 1
      have f2 := v6.frozen 2
      have f3 := v6.frozen 3
      have f4 := v6.frozen 4
      have f5 := v6.frozen 5
      have f6 := v6.frozen 6
      have f7 := v6.frozen 7
      have f8 := v6.frozen 8
      have f9 := v6.frozen 9
      have f10 := v6.frozen 10
      have f11 := v6.frozen 11
      have k12 := ((((((((((((u6).far (p := ⟨wn.heap.size, 0, none⟩) (by show wn.heap.size + 1 ≠ wn.heap.size; omega) (.bool false)).far (p := ⟨wn.heap.size, 1, none⟩) (by show wn.heap.size + 1 ≠ wn.heap.size; omega) (.slice none 0 0)).far (p := ⟨wn.heap.size, 2, none⟩) (by show wn.heap.size + 1 ≠ wn.heap.size; omega) (.int .i64 0)).far (p := ⟨wn.heap.size, 3, none⟩) (by show wn.heap.size + 1 ≠ wn.heap.size; omega) (.bool false)).far (p := ⟨wn.heap.size, 4, none⟩) (by show wn.heap.size + 1 ≠ wn.heap.size; omega) (.slice none 0 0)).far (p := ⟨wn.heap.size, 5, none⟩) (by show wn.heap.size + 1 ≠ wn.heap.size; omega) (.int .i64 0)).far (p := ⟨wn.heap.size, 6, none⟩) (by show wn.heap.size + 1 ≠ wn.heap.size; omega) (.bool false)).far (p := ⟨wn.heap.size, 7, none⟩) (by show wn.heap.size + 1 ≠ wn.heap.size; omega) (.slice none 0 0)).far (p := ⟨wn.heap.size, 8, none⟩) (by show wn.heap.size + 1 ≠ wn.heap.size; omega) (.int .i64 0)).far (p := ⟨wn.heap.size, 9, none⟩) (by show wn.heap.size + 1 ≠ wn.heap.size; omega) (.bool false)).far (p := ⟨wn.heap.size, 10, none⟩) (by show wn.heap.size + 1 ≠ wn.heap.size; omega) (.slice none 0 0)).far (p := ⟨wn.heap.size, 11, none⟩) (by show wn.heap.size + 1 ≠ wn.heap.size; omega) (.int .i64 0)
      have e3 := k12.cell 0
      have ef3 := k12.frozen 0
      simp only [List.getElem?_toArray, List.getElem?_cons_zero] at e3
      obtain ⟨W9, hW9⟩ : ∃ W9, W9 = ((((((((((((w6.setCell ⟨wn.heap.size, 0, none⟩ (.bool false)).setCell ⟨wn.heap.size, 1, none⟩ (.slice none 0 0)).setCell ⟨wn.heap.size, 2, none⟩ (.int .i64 0)).setCell ⟨wn.heap.size, 3, none⟩ (.bool false)).setCell ⟨wn.heap.size, 4, none⟩ (.slice none 0 0)).setCell ⟨wn.heap.size, 5, none⟩ (.int .i64 0)).setCell ⟨wn.heap.size, 6, none⟩ (.bool false)).setCell ⟨wn.heap.size, 7, none⟩ (.slice none 0 0)).setCell ⟨wn.heap.size, 8, none⟩ (.int .i64 0)).setCell ⟨wn.heap.size, 9, none⟩ (.bool false)).setCell ⟨wn.heap.size, 10, none⟩ (.slice none 0 0)).setCell ⟨wn.heap.size, 11, none⟩ (.int .i64 0)).setCell ⟨wn.heap.size + 1, 0, none⟩ (.int .i64 10) := ⟨_, rfl⟩
      have v9 : Blk W9 wn.heap.size 27 #[.bool false, .slice none 0 0, .int .i64 0, .bool false, .slice none 0 0, .int .i64 0, .bool false, .slice none 0 0, .int .i64 0, .bool false, .slice none 0 0, .int .i64 0] := by rw [hW9]; exact (blk12 v6 (.bool false) (.slice none 0 0) (.int .i64 0) (.bool false) (.slice none 0 0) (.int .i64 0) (.bool false) (.slice none 0 0) (.int .i64 0) (.bool false) (.slice none 0 0) (.int .i64 0)).far (p := ⟨wn.heap.size + 1, 0, none⟩) (by show wn.heap.size ≠ wn.heap.size + 1; omega) _
      have k9 : Blk W9 (wn.heap.size + 1) 32 #[.int .i64 10] := by rw [hW9]; have h := k12.set_ 0 (.int .i64 10); simpa using h
      have gN : Hid (sumL ((pre ++ [(⟨⟨m.s.neg, bX0, m.s.ls.length, bc0, m.s.ex, m.w.neg, bX1, m.w.ls.length, bc1, m.w.ex, m.c.neg, bX2, m.c.ls.length, bc2, m.c.ex, m.a.neg, bX3, m.a.ls.length, bc3, m.a.ex, m⟩, hx⟩ : Vw wn)]).map (fun v => v.1.m)) = none) := Lib.hid (by rw [gsn.out, h2])
      clear h2 gsn gow
      have hk9 : KeepsOthers W W9 := by rw [hW9]; exact (((((((((((((KeepsOthers.of_grownBy hg (fun j o e ho => by cases e)).trans (KeepsOthers.setCell _ _ _)).trans (KeepsOthers.setCell _ _ _)).trans (KeepsOthers.setCell _ _ _)).trans (KeepsOthers.setCell _ _ _)).trans (KeepsOthers.setCell _ _ _)).trans (KeepsOthers.setCell _ _ _)).trans (KeepsOthers.setCell _ _ _)).trans (KeepsOthers.setCell _ _ _)).trans (KeepsOthers.setCell _ _ _)).trans (KeepsOthers.setCell _ _ _)).trans (KeepsOthers.setCell _ _ _)).trans (KeepsOthers.setCell _ _ _)).trans (KeepsOthers.setCell _ _ _)
      have hb9 : Below wn.heap.size w6 W9 := by rw [hW9]; exact (((((((((((((Below.refl wn.heap.size w6).setCell (p := ⟨wn.heap.size, 0, none⟩) (by show wn.heap.size ≤ wn.heap.size; omega) (.bool false)).setCell (p := ⟨wn.heap.size, 1, none⟩) (by show wn.heap.size ≤ wn.heap.size; omega) (.slice none 0 0)).setCell (p := ⟨wn.heap.size, 2, none⟩) (by show wn.heap.size ≤ wn.heap.size; omega) (.int .i64 0)).setCell (p := ⟨wn.heap.size, 3, none⟩) (by show wn.heap.size ≤ wn.heap.size; omega) (.bool false)).setCell (p := ⟨wn.heap.size, 4, none⟩) (by show wn.heap.size ≤ wn.heap.size; omega) (.slice none 0 0)).setCell (p := ⟨wn.heap.size, 5, none⟩) (by show wn.heap.size ≤ wn.heap.size; omega) (.int .i64 0)).setCell (p := ⟨wn.heap.size, 6, none⟩) (by show wn.heap.size ≤ wn.heap.size; omega) (.bool false)).setCell (p := ⟨wn.heap.size, 7, none⟩) (by show wn.heap.size ≤ wn.heap.size; omega) (.slice none 0 0)).setCell (p := ⟨wn.heap.size, 8, none⟩) (by show wn.heap.size ≤ wn.heap.size; omega) (.int .i64 0)).setCell (p := ⟨wn.heap.size, 9, none⟩) (by show wn.heap.size ≤ wn.heap.size; omega) (.bool false)).setCell (p := ⟨wn.heap.size, 10, none⟩) (by show wn.heap.size ≤ wn.heap.size; omega) (.slice none 0 0)).setCell (p := ⟨wn.heap.size, 11, none⟩) (by show wn.heap.size ≤ wn.heap.size; omega) (.int .i64 0)).setCell (p := ⟨wn.heap.size + 1, 0, none⟩) (by show wn.heap.size ≤ wn.heap.size + 1; omega) (.int .i64 10)
      gi_wp2_with fail
      rw [← hW9]
      clear hW9 k12 e3 ef3 z0 f0 z1 f1 z2 f2 z3 f3 z4 f4 z5 f5 z6 f6 z7 f7 z8 f8 z9 f9 z10 f10 z11 f11
      have v9d := v9.drew
      have k9d := k9.drew
      have e4 := k9d.cell 0
      simp only [List.getElem?_toArray, List.getElem?_cons_zero] at e4
      have z0 := v9.cell 0
      have z1 := v9.cell 1
      have z2 := v9.cell 2
      have z3 := v9.cell 3
      have z4 := v9.cell 4
      have z5 := v9.cell 5
      have z6 := v9.cell 6
      have z7 := v9.cell 7
      have z8 := v9.cell 8
      have z9 := v9.cell 9
      have z10 := v9.cell 10
      have z11 := v9.cell 11
      simp only [List.getElem?_toArray, List.getElem?_cons_zero, List.getElem?_cons_succ] at z0 z1 z2 z3 z4 z5 z6 z7 z8 z9 z10 z11
      have f0 := v9.frozen 0
      have f1 := v9.frozen 1
      have f2 := v9.frozen 2
      have f3 := v9.frozen 3
      have f4 := v9.frozen 4
      have f5 := v9.frozen 5
      have f6 := v9.frozen 6
      have f7 := v9.frozen 7
      have f8 := v9.frozen 8
      have f9 := v9.frozen 9
      have f10 := v9.frozen 10
      have f11 := v9.frozen 11
      have k10 := ((((((((((((k9).far (p := ⟨wn.heap.size, 0, none⟩) (by show wn.heap.size + 1 ≠ wn.heap.size; omega) (.bool false)).far (p := ⟨wn.heap.size, 1, none⟩) (by show wn.heap.size + 1 ≠ wn.heap.size; omega) (.slice none 0 0)).far (p := ⟨wn.heap.size, 2, none⟩) (by show wn.heap.size + 1 ≠ wn.heap.size; omega) (.int .i64 0)).far (p := ⟨wn.heap.size, 3, none⟩) (by show wn.heap.size + 1 ≠ wn.heap.size; omega) (.bool false)).far (p := ⟨wn.heap.size, 4, none⟩) (by show wn.heap.size + 1 ≠ wn.heap.size; omega) (.slice none 0 0)).far (p := ⟨wn.heap.size, 5, none⟩) (by show wn.heap.size + 1 ≠ wn.heap.size; omega) (.int .i64 0)).far (p := ⟨wn.heap.size, 6, none⟩) (by show wn.heap.size + 1 ≠ wn.heap.size; omega) (.bool false)).far (p := ⟨wn.heap.size, 7, none⟩) (by show wn.heap.size + 1 ≠ wn.heap.size; omega) (.slice none 0 0)).far (p := ⟨wn.heap.size, 8, none⟩) (by show wn.heap.size + 1 ≠ wn.heap.size; omega) (.int .i64 0)).far (p := ⟨wn.heap.size, 9, none⟩) (by show wn.heap.size + 1 ≠ wn.heap.size; omega) (.bool false)).far (p := ⟨wn.heap.size, 10, none⟩) (by show wn.heap.size + 1 ≠ wn.heap.size; omega) (.slice none 0 0)).far (p := ⟨wn.heap.size, 11, none⟩) (by show wn.heap.size + 1 ≠ wn.heap.size; omega) (.int .i64 0)
      have e5 := k10.cell 0
      have ef5 := k10.frozen 0
      simp only [List.getElem?_toArray, List.getElem?_cons_zero] at e5
      obtain ⟨W11, hW11⟩ : ∃ W11, W11 = ((((((((((((W9.setCell ⟨wn.heap.size, 0, none⟩ (.bool false)).setCell ⟨wn.heap.size, 1, none⟩ (.slice none 0 0)).setCell ⟨wn.heap.size, 2, none⟩ (.int .i64 0)).setCell ⟨wn.heap.size, 3, none⟩ (.bool false)).setCell ⟨wn.heap.size, 4, none⟩ (.slice none 0 0)).setCell ⟨wn.heap.size, 5, none⟩ (.int .i64 0)).setCell ⟨wn.heap.size, 6, none⟩ (.bool false)).setCell ⟨wn.heap.size, 7, none⟩ (.slice none 0 0)).setCell ⟨wn.heap.size, 8, none⟩ (.int .i64 0)).setCell ⟨wn.heap.size, 9, none⟩ (.bool false)).setCell ⟨wn.heap.size, 10, none⟩ (.slice none 0 0)).setCell ⟨wn.heap.size, 11, none⟩ (.int .i64 0)).setCell ⟨wn.heap.size + 1, 0, none⟩ (.int .i64 10) := ⟨_, rfl⟩
      have v11 : Blk W11 wn.heap.size 27 #[.bool false, .slice none 0 0, .int .i64 0, .bool false, .slice none 0 0, .int .i64 0, .bool false, .slice none 0 0, .int .i64 0, .bool false, .slice none 0 0, .int .i64 0] := by rw [hW11]; exact (blk12 v9 (.bool false) (.slice none 0 0) (.int .i64 0) (.bool false) (.slice none 0 0) (.int .i64 0) (.bool false) (.slice none 0 0) (.int .i64 0) (.bool false) (.slice none 0 0) (.int .i64 0)).far (p := ⟨wn.heap.size + 1, 0, none⟩) (by show wn.heap.size ≠ wn.heap.size + 1; omega) _
      have k11 : Blk W11 (wn.heap.size + 1) 32 #[.int .i64 10] := by rw [hW11]; have h := k10.set_ 0 (.int .i64 10); simpa using h
      have k10d := k10.drew
      have e5d := k10d.cell 0
      simp only [List.getElem?_toArray, List.getElem?_cons_zero] at e5d
      clear k10d
      have k11d := k11.drew
      have e6 := k11d.cell 0
      simp only [List.getElem?_toArray, List.getElem?_cons_zero] at e6
      have ge6 := Lib.hid e6
      clear e6
      refine wpIn_held_round (S := fun w' => w'.cell? ⟨wn.heap.size + 1, 0, none⟩ = some (.int .i64 10)) (by kernel_rfl) (by kernel_rfl) (by rintro ⟨_, _, h⟩; exact h) e4 (fun hHeld => ?_)
      refine tkY 0 (h := ?_)
      (try simp only [Act.put, List.setIfInBounds_toArray, List.set_cons_zero, List.set_cons_succ])
      refine tkY 1 (h := ?_)
      (try simp only [Act.put, List.setIfInBounds_toArray, List.set_cons_zero, List.set_cons_succ])
      refine tkR 2 (h := fun K hK => ?_)
      go_simp
      refine hK.out _ _ (e5d) (fun hHeld => ?_)
      clear hK K
      (try simp only [Act.put, List.setIfInBounds_toArray, List.set_cons_zero, List.set_cons_succ])
      refine tkR 3 (h := fun K hK => ?_)
      go_simp
      refine hK.out _ _ ((by rw [← hW11]; exact ge6.out)) (fun hHeld => ?_)
      clear hK K
      (try simp only [Act.put, List.setIfInBounds_toArray, List.set_cons_zero, List.set_cons_succ])
      refine wpAnyH_done (by kernel_rfl) ?_ _
      refine NoPanic.normal ?_
      rw [← hW11]
      have hk11 : KeepsOthers W W11.drew := KeepsOthers.trans (by rw [hW11]; exact (((((((((((((hk9).trans (KeepsOthers.setCell _ _ _)).trans (KeepsOthers.setCell _ _ _)).trans (KeepsOthers.setCell _ _ _)).trans (KeepsOthers.setCell _ _ _)).trans (KeepsOthers.setCell _ _ _)).trans (KeepsOthers.setCell _ _ _)).trans (KeepsOthers.setCell _ _ _)).trans (KeepsOthers.setCell _ _ _)).trans (KeepsOthers.setCell _ _ _)).trans (KeepsOthers.setCell _ _ _)).trans (KeepsOthers.setCell _ _ _)).trans (KeepsOthers.setCell _ _ _)).trans (KeepsOthers.setCell _ _ _)) (KeepsOthers.drew W11)
      have hb11 : Below wn.heap.size w6 W11.drew := Below.drew (by rw [hW11]; exact ((((((((((((hb9.setCell (p := ⟨wn.heap.size, 0, none⟩) (by show wn.heap.size ≤ wn.heap.size; omega) (.bool false)).setCell (p := ⟨wn.heap.size, 1, none⟩) (by show wn.heap.size ≤ wn.heap.size; omega) (.slice none 0 0)).setCell (p := ⟨wn.heap.size, 2, none⟩) (by show wn.heap.size ≤ wn.heap.size; omega) (.int .i64 0)).setCell (p := ⟨wn.heap.size, 3, none⟩) (by show wn.heap.size ≤ wn.heap.size; omega) (.bool false)).setCell (p := ⟨wn.heap.size, 4, none⟩) (by show wn.heap.size ≤ wn.heap.size; omega) (.slice none 0 0)).setCell (p := ⟨wn.heap.size, 5, none⟩) (by show wn.heap.size ≤ wn.heap.size; omega) (.int .i64 0)).setCell (p := ⟨wn.heap.size, 6, none⟩) (by show wn.heap.size ≤ wn.heap.size; omega) (.bool false)).setCell (p := ⟨wn.heap.size, 7, none⟩) (by show wn.heap.size ≤ wn.heap.size; omega) (.slice none 0 0)).setCell (p := ⟨wn.heap.size, 8, none⟩) (by show wn.heap.size ≤ wn.heap.size; omega) (.int .i64 0)).setCell (p := ⟨wn.heap.size, 9, none⟩) (by show wn.heap.size ≤ wn.heap.size; omega) (.bool false)).setCell (p := ⟨wn.heap.size, 10, none⟩) (by show wn.heap.size ≤ wn.heap.size; omega) (.slice none 0 0)).setCell (p := ⟨wn.heap.size, 11, none⟩) (by show wn.heap.size ≤ wn.heap.size; omega) (.int .i64 0)).setCell (p := ⟨wn.heap.size + 1, 0, none⟩) (by show wn.heap.size ≤ wn.heap.size + 1; omega) (.int .i64 10))
      gi_wp2
      exact ⟨hk11.from _, ⟨rfl, gN.out, v11.drew, k11d⟩, hW6.trans hb11⟩
    · have z0 := v6.cell 0
      have z1 := v6.cell 1
      have z2 := v6.cell 2
      have z3 := v6.cell 3
      have z4 := v6.cell 4
      have z5 := v6.cell 5
      have z6 := v6.cell 6
      have z7 := v6.cell 7
      have z8 := v6.cell 8
      have z9 := v6.cell 9
      have z10 := v6.cell 10
      have z11 := v6.cell 11
      simp only [List.getElem?_toArray, List.getElem?_cons_zero, List.getElem?_cons_succ] at z0 z1 z2 z3 z4 z5 z6 z7 z8 z9 z10 z11
      have f0 := v6.frozen 0
      have f1 := v6.frozen 1
      have f2 := v6.frozen 2
      have f3 := v6.frozen 3
      have f4 := v6.frozen 4
      have f5 := v6.frozen 5
      have f6 := v6.frozen 6
      have f7 := v6.frozen 7
      have f8 := v6.frozen 8
      have f9 := v6.frozen 9
      have f10 := v6.frozen 10
      have f11 := v6.frozen 11
      have k12 := ((((((((((((u6).far (p := ⟨wn.heap.size, 0, none⟩) (by show wn.heap.size + 1 ≠ wn.heap.size; omega) (.bool d.s.neg)).far (p := ⟨wn.heap.size, 1, none⟩) (by show wn.heap.size + 1 ≠ wn.heap.size; omega) (.slice Y0 d.s.ls.length e0)).far (p := ⟨wn.heap.size, 2, none⟩) (by show wn.heap.size + 1 ≠ wn.heap.size; omega) (.int .i64 d.s.ex)).far (p := ⟨wn.heap.size, 3, none⟩) (by show wn.heap.size + 1 ≠ wn.heap.size; omega) (.bool d.w.neg)).far (p := ⟨wn.heap.size, 4, none⟩) (by show wn.heap.size + 1 ≠ wn.heap.size; omega) (.slice Y1 d.w.ls.length e1)).far (p := ⟨wn.heap.size, 5, none⟩) (by show wn.heap.size + 1 ≠ wn.heap.size; omega) (.int .i64 d.w.ex)).far (p := ⟨wn.heap.size, 6, none⟩) (by show wn.heap.size + 1 ≠ wn.heap.size; omega) (.bool d.c.neg)).far (p := ⟨wn.heap.size, 7, none⟩) (by show wn.heap.size + 1 ≠ wn.heap.size; omega) (.slice Y2 d.c.ls.length e2)).far (p := ⟨wn.heap.size, 8, none⟩) (by show wn.heap.size + 1 ≠ wn.heap.size; omega) (.int .i64 d.c.ex)).far (p := ⟨wn.heap.size, 9, none⟩) (by show wn.heap.size + 1 ≠ wn.heap.size; omega) (.bool d.a.neg)).far (p := ⟨wn.heap.size, 10, none⟩) (by show wn.heap.size + 1 ≠ wn.heap.size; omega) (.slice Y3 d.a.ls.length ey)).far (p := ⟨wn.heap.size, 11, none⟩) (by show wn.heap.size + 1 ≠ wn.heap.size; omega) (.int .i64 d.a.ex)
      have e3 := k12.cell 0
      have ef3 := k12.frozen 0
      simp only [List.getElem?_toArray, List.getElem?_cons_zero] at e3
      obtain ⟨W9, hW9⟩ : ∃ W9, W9 = ((((((((((((w6.setCell ⟨wn.heap.size, 0, none⟩ (.bool d.s.neg)).setCell ⟨wn.heap.size, 1, none⟩ (.slice Y0 d.s.ls.length e0)).setCell ⟨wn.heap.size, 2, none⟩ (.int .i64 d.s.ex)).setCell ⟨wn.heap.size, 3, none⟩ (.bool d.w.neg)).setCell ⟨wn.heap.size, 4, none⟩ (.slice Y1 d.w.ls.length e1)).setCell ⟨wn.heap.size, 5, none⟩ (.int .i64 d.w.ex)).setCell ⟨wn.heap.size, 6, none⟩ (.bool d.c.neg)).setCell ⟨wn.heap.size, 7, none⟩ (.slice Y2 d.c.ls.length e2)).setCell ⟨wn.heap.size, 8, none⟩ (.int .i64 d.c.ex)).setCell ⟨wn.heap.size, 9, none⟩ (.bool d.a.neg)).setCell ⟨wn.heap.size, 10, none⟩ (.slice Y3 d.a.ls.length ey)).setCell ⟨wn.heap.size, 11, none⟩ (.int .i64 d.a.ex)).setCell ⟨wn.heap.size + 1, 0, none⟩ (.int .i64 0) := ⟨_, rfl⟩
      have v9 : Blk W9 wn.heap.size 27 #[.bool d.s.neg, .slice Y0 d.s.ls.length e0, .int .i64 d.s.ex, .bool d.w.neg, .slice Y1 d.w.ls.length e1, .int .i64 d.w.ex, .bool d.c.neg, .slice Y2 d.c.ls.length e2, .int .i64 d.c.ex, .bool d.a.neg, .slice Y3 d.a.ls.length ey, .int .i64 d.a.ex] := by rw [hW9]; exact (blk12 v6 (.bool d.s.neg) (.slice Y0 d.s.ls.length e0) (.int .i64 d.s.ex) (.bool d.w.neg) (.slice Y1 d.w.ls.length e1) (.int .i64 d.w.ex) (.bool d.c.neg) (.slice Y2 d.c.ls.length e2) (.int .i64 d.c.ex) (.bool d.a.neg) (.slice Y3 d.a.ls.length ey) (.int .i64 d.a.ex)).far (p := ⟨wn.heap.size + 1, 0, none⟩) (by show wn.heap.size ≠ wn.heap.size + 1; omega) _
      have k9 : Blk W9 (wn.heap.size + 1) 32 #[.int .i64 0] := by rw [hW9]; have h := k12.set_ 0 (.int .i64 0); simpa using h
      have gN : Hid (sumL ((pre ++ [(⟨⟨m.s.neg, bX0, m.s.ls.length, bc0, m.s.ex, m.w.neg, bX1, m.w.ls.length, bc1, m.w.ex, m.c.neg, bX2, m.c.ls.length, bc2, m.c.ex, m.a.neg, bX3, m.a.ls.length, bc3, m.a.ex, m⟩, hx⟩ : Vw wn)]).map (fun v => v.1.m)) = some d) := Lib.hid (by rw [gsn.out, h2])
      have gd := Lib.hid (addM_ok h2)
      have gp := Lib.hid (And.intro p0 (And.intro p1 (And.intro p2 p3)))
      clear h2 p0 p1 p2 p3 gsn
      gi_wp2
      rw [← hW9]
      have hmv : ∀ {n : Nat} {X : Option Addr} {xs : List Value}, OwnR w6 W.heap.size 76 X n xs → OwnR W9 (wn.heap.size + 2) 76 X n xs := fun h => by rw [hW9]; exact OwnR.far (p := ⟨wn.heap.size + 1, 0, none⟩) (OwnR.far (p := ⟨wn.heap.size, 11, none⟩) (OwnR.far (p := ⟨wn.heap.size, 10, none⟩) (OwnR.far (p := ⟨wn.heap.size, 9, none⟩) (OwnR.far (p := ⟨wn.heap.size, 8, none⟩) (OwnR.far (p := ⟨wn.heap.size, 7, none⟩) (OwnR.far (p := ⟨wn.heap.size, 6, none⟩) (OwnR.far (p := ⟨wn.heap.size, 5, none⟩) (OwnR.far (p := ⟨wn.heap.size, 4, none⟩) (OwnR.far (p := ⟨wn.heap.size, 3, none⟩) (OwnR.far (p := ⟨wn.heap.size, 2, none⟩) (OwnR.far (p := ⟨wn.heap.size, 1, none⟩) (OwnR.far (p := ⟨wn.heap.size, 0, none⟩) ((h.base_le (show wn.heap.size + 2 ≤ W.heap.size by omega))) (by show wn.heap.size < wn.heap.size + 2; omega) (.bool d.s.neg)) (by show wn.heap.size < wn.heap.size + 2; omega) (.slice Y0 d.s.ls.length e0)) (by show wn.heap.size < wn.heap.size + 2; omega) (.int .i64 d.s.ex)) (by show wn.heap.size < wn.heap.size + 2; omega) (.bool d.w.neg)) (by show wn.heap.size < wn.heap.size + 2; omega) (.slice Y1 d.w.ls.length e1)) (by show wn.heap.size < wn.heap.size + 2; omega) (.int .i64 d.w.ex)) (by show wn.heap.size < wn.heap.size + 2; omega) (.bool d.c.neg)) (by show wn.heap.size < wn.heap.size + 2; omega) (.slice Y2 d.c.ls.length e2)) (by show wn.heap.size < wn.heap.size + 2; omega) (.int .i64 d.c.ex)) (by show wn.heap.size < wn.heap.size + 2; omega) (.bool d.a.neg)) (by show wn.heap.size < wn.heap.size + 2; omega) (.slice Y3 d.a.ls.length ey)) (by show wn.heap.size < wn.heap.size + 2; omega) (.int .i64 d.a.ex)) (by show wn.heap.size + 1 < wn.heap.size + 2; omega) (.int .i64 0)
      have hk9 : KeepsOthers W W9 := by rw [hW9]; exact (((((((((((((KeepsOthers.of_grownBy hg (fun j o e ho => by cases e)).trans (KeepsOthers.setCell _ _ _)).trans (KeepsOthers.setCell _ _ _)).trans (KeepsOthers.setCell _ _ _)).trans (KeepsOthers.setCell _ _ _)).trans (KeepsOthers.setCell _ _ _)).trans (KeepsOthers.setCell _ _ _)).trans (KeepsOthers.setCell _ _ _)).trans (KeepsOthers.setCell _ _ _)).trans (KeepsOthers.setCell _ _ _)).trans (KeepsOthers.setCell _ _ _)).trans (KeepsOthers.setCell _ _ _)).trans (KeepsOthers.setCell _ _ _)).trans (KeepsOthers.setCell _ _ _)
      have hb9 : Below wn.heap.size w6 W9 := by rw [hW9]; exact (((((((((((((Below.refl wn.heap.size w6).setCell (p := ⟨wn.heap.size, 0, none⟩) (by show wn.heap.size ≤ wn.heap.size; omega) (.bool d.s.neg)).setCell (p := ⟨wn.heap.size, 1, none⟩) (by show wn.heap.size ≤ wn.heap.size; omega) (.slice Y0 d.s.ls.length e0)).setCell (p := ⟨wn.heap.size, 2, none⟩) (by show wn.heap.size ≤ wn.heap.size; omega) (.int .i64 d.s.ex)).setCell (p := ⟨wn.heap.size, 3, none⟩) (by show wn.heap.size ≤ wn.heap.size; omega) (.bool d.w.neg)).setCell (p := ⟨wn.heap.size, 4, none⟩) (by show wn.heap.size ≤ wn.heap.size; omega) (.slice Y1 d.w.ls.length e1)).setCell (p := ⟨wn.heap.size, 5, none⟩) (by show wn.heap.size ≤ wn.heap.size; omega) (.int .i64 d.w.ex)).setCell (p := ⟨wn.heap.size, 6, none⟩) (by show wn.heap.size ≤ wn.heap.size; omega) (.bool d.c.neg)).setCell (p := ⟨wn.heap.size, 7, none⟩) (by show wn.heap.size ≤ wn.heap.size; omega) (.slice Y2 d.c.ls.length e2)).setCell (p := ⟨wn.heap.size, 8, none⟩) (by show wn.heap.size ≤ wn.heap.size; omega) (.int .i64 d.c.ex)).setCell (p := ⟨wn.heap.size, 9, none⟩) (by show wn.heap.size ≤ wn.heap.size; omega) (.bool d.a.neg)).setCell (p := ⟨wn.heap.size, 10, none⟩) (by show wn.heap.size ≤ wn.heap.size; omega) (.slice Y3 d.a.ls.length ey)).setCell (p := ⟨wn.heap.size, 11, none⟩) (by show wn.heap.size ≤ wn.heap.size; omega) (.int .i64 d.a.ex)).setCell (p := ⟨wn.heap.size + 1, 0, none⟩) (by show wn.heap.size ≤ wn.heap.size + 1; omega) (.int .i64 0)
      exact ⟨hk9.from _, (hb6.mono hW.size).trans hb9, ⟨d, Y0, e0, Y1, e1, Y2, e2, Y3, ey, gN.out, gd.out.1, gd.out.2, v9, k9, ⟨gp.out.1.1, hmv gp.out.1.2⟩, ⟨gp.out.2.1.1, hmv gp.out.2.1.2⟩, ⟨gp.out.2.2.1.1, hmv gp.out.2.2.1.2⟩, ⟨gp.out.2.2.2.1, hmv gp.out.2.2.2.2⟩⟩, hW6.trans hb9⟩
  case done =>
    rintro D ys W hD hS ⟨⟨acc, X0, c0, X1, c1, X2, c2, X3, c3, h1, h2, h3, h4, h5, o0, o1, o2, o3⟩, hW⟩ hK
    have hD' : wn.heap.size + 2 ≤ D := by rw [gs5.out] at hD; exact hD
    have hDl : D < W.heap.size := (Array.getElem?_eq_some_iff.1 hK).1
    have z0 := h4.cell 0
    have z1 := h4.cell 1
    have z2 := h4.cell 2
    have z3 := h4.cell 3
    have z4 := h4.cell 4
    have z5 := h4.cell 5
    have z6 := h4.cell 6
    have z7 := h4.cell 7
    have z8 := h4.cell 8
    have z9 := h4.cell 9
    have z10 := h4.cell 10
    have z11 := h4.cell 11
    simp only [List.getElem?_toArray, List.getElem?_cons_zero, List.getElem?_cons_succ] at z0 z1 z2 z3 z4 z5 z6 z7 z8 z9 z10 z11
    have f0 := h4.frozen 0
    have f1 := h4.frozen 1
    have f2 := h4.frozen 2
    have f3 := h4.frozen 3
    have f4 := h4.frozen 4
    have f5 := h4.frozen 5
    have f6 := h4.frozen 6
    have f7 := h4.frozen 7
    have f8 := h4.frozen 8
    have f9 := h4.frozen 9
    have f10 := h4.frozen 10
    have f11 := h4.frozen 11
    have k12 := ((((((((((((h5).far (p := ⟨wn.heap.size, 0, none⟩) (by show wn.heap.size + 1 ≠ wn.heap.size; omega) (.bool acc.s.neg)).far (p := ⟨wn.heap.size, 1, none⟩) (by show wn.heap.size + 1 ≠ wn.heap.size; omega) (.slice X0 acc.s.ls.length c0)).far (p := ⟨wn.heap.size, 2, none⟩) (by show wn.heap.size + 1 ≠ wn.heap.size; omega) (.int .i64 acc.s.ex)).far (p := ⟨wn.heap.size, 3, none⟩) (by show wn.heap.size + 1 ≠ wn.heap.size; omega) (.bool acc.w.neg)).far (p := ⟨wn.heap.size, 4, none⟩) (by show wn.heap.size + 1 ≠ wn.heap.size; omega) (.slice X1 acc.w.ls.length c1)).far (p := ⟨wn.heap.size, 5, none⟩) (by show wn.heap.size + 1 ≠ wn.heap.size; omega) (.int .i64 acc.w.ex)).far (p := ⟨wn.heap.size, 6, none⟩) (by show wn.heap.size + 1 ≠ wn.heap.size; omega) (.bool acc.c.neg)).far (p := ⟨wn.heap.size, 7, none⟩) (by show wn.heap.size + 1 ≠ wn.heap.size; omega) (.slice X2 acc.c.ls.length c2)).far (p := ⟨wn.heap.size, 8, none⟩) (by show wn.heap.size + 1 ≠ wn.heap.size; omega) (.int .i64 acc.c.ex)).far (p := ⟨wn.heap.size, 9, none⟩) (by show wn.heap.size + 1 ≠ wn.heap.size; omega) (.bool acc.a.neg)).far (p := ⟨wn.heap.size, 10, none⟩) (by show wn.heap.size + 1 ≠ wn.heap.size; omega) (.slice X3 acc.a.ls.length c3)).far (p := ⟨wn.heap.size, 11, none⟩) (by show wn.heap.size + 1 ≠ wn.heap.size; omega) (.int .i64 acc.a.ex)
    have e3 := k12.cell 0
    have ef3 := k12.frozen 0
    simp only [List.getElem?_toArray, List.getElem?_cons_zero] at e3
    obtain ⟨W9, hW9⟩ : ∃ W9, W9 = ((((((((((((W.setCell ⟨wn.heap.size, 0, none⟩ (.bool acc.s.neg)).setCell ⟨wn.heap.size, 1, none⟩ (.slice X0 acc.s.ls.length c0)).setCell ⟨wn.heap.size, 2, none⟩ (.int .i64 acc.s.ex)).setCell ⟨wn.heap.size, 3, none⟩ (.bool acc.w.neg)).setCell ⟨wn.heap.size, 4, none⟩ (.slice X1 acc.w.ls.length c1)).setCell ⟨wn.heap.size, 5, none⟩ (.int .i64 acc.w.ex)).setCell ⟨wn.heap.size, 6, none⟩ (.bool acc.c.neg)).setCell ⟨wn.heap.size, 7, none⟩ (.slice X2 acc.c.ls.length c2)).setCell ⟨wn.heap.size, 8, none⟩ (.int .i64 acc.c.ex)).setCell ⟨wn.heap.size, 9, none⟩ (.bool acc.a.neg)).setCell ⟨wn.heap.size, 10, none⟩ (.slice X3 acc.a.ls.length c3)).setCell ⟨wn.heap.size, 11, none⟩ (.int .i64 acc.a.ex)).setCell ⟨wn.heap.size + 1, 0, none⟩ (.int .i64 0) := ⟨_, rfl⟩
    have v9 : Blk W9 wn.heap.size 27 #[.bool acc.s.neg, .slice X0 acc.s.ls.length c0, .int .i64 acc.s.ex, .bool acc.w.neg, .slice X1 acc.w.ls.length c1, .int .i64 acc.w.ex, .bool acc.c.neg, .slice X2 acc.c.ls.length c2, .int .i64 acc.c.ex, .bool acc.a.neg, .slice X3 acc.a.ls.length c3, .int .i64 acc.a.ex] := by rw [hW9]; exact (blk12 h4 (.bool acc.s.neg) (.slice X0 acc.s.ls.length c0) (.int .i64 acc.s.ex) (.bool acc.w.neg) (.slice X1 acc.w.ls.length c1) (.int .i64 acc.w.ex) (.bool acc.c.neg) (.slice X2 acc.c.ls.length c2) (.int .i64 acc.c.ex) (.bool acc.a.neg) (.slice X3 acc.a.ls.length c3) (.int .i64 acc.a.ex)).far (p := ⟨wn.heap.size + 1, 0, none⟩) (by show wn.heap.size ≠ wn.heap.size + 1; omega) _
    have k9 : Blk W9 (wn.heap.size + 1) 32 #[.int .i64 0] := by rw [hW9]; have h := k12.set_ 0 (.int .i64 0); simpa using h
    have hk9 : KeepsOthers W W9 := by rw [hW9]; exact (((((((((((((KeepsOthers.refl W).trans (KeepsOthers.setCell _ _ _)).trans (KeepsOthers.setCell _ _ _)).trans (KeepsOthers.setCell _ _ _)).trans (KeepsOthers.setCell _ _ _)).trans (KeepsOthers.setCell _ _ _)).trans (KeepsOthers.setCell _ _ _)).trans (KeepsOthers.setCell _ _ _)).trans (KeepsOthers.setCell _ _ _)).trans (KeepsOthers.setCell _ _ _)).trans (KeepsOthers.setCell _ _ _)).trans (KeepsOthers.setCell _ _ _)).trans (KeepsOthers.setCell _ _ _)).trans (KeepsOthers.setCell _ _ _)
    have hK2 := hk9.same D _ hK rfl
    have B6 := v9.grown (grownBy_putObj' _ D (.deferred none)) (by simp; omega)
    have B7 := k9.grown (grownBy_putObj' _ D (.deferred none)) (by simp; omega)
    have hb9 : Below wn.heap.size wn W9 := by rw [hW9]; exact ((((((((((((hW.setCell (p := ⟨wn.heap.size, 0, none⟩) (by show wn.heap.size ≤ wn.heap.size; omega) (.bool acc.s.neg)).setCell (p := ⟨wn.heap.size, 1, none⟩) (by show wn.heap.size ≤ wn.heap.size; omega) (.slice X0 acc.s.ls.length c0)).setCell (p := ⟨wn.heap.size, 2, none⟩) (by show wn.heap.size ≤ wn.heap.size; omega) (.int .i64 acc.s.ex)).setCell (p := ⟨wn.heap.size, 3, none⟩) (by show wn.heap.size ≤ wn.heap.size; omega) (.bool acc.w.neg)).setCell (p := ⟨wn.heap.size, 4, none⟩) (by show wn.heap.size ≤ wn.heap.size; omega) (.slice X1 acc.w.ls.length c1)).setCell (p := ⟨wn.heap.size, 5, none⟩) (by show wn.heap.size ≤ wn.heap.size; omega) (.int .i64 acc.w.ex)).setCell (p := ⟨wn.heap.size, 6, none⟩) (by show wn.heap.size ≤ wn.heap.size; omega) (.bool acc.c.neg)).setCell (p := ⟨wn.heap.size, 7, none⟩) (by show wn.heap.size ≤ wn.heap.size; omega) (.slice X2 acc.c.ls.length c2)).setCell (p := ⟨wn.heap.size, 8, none⟩) (by show wn.heap.size ≤ wn.heap.size; omega) (.int .i64 acc.c.ex)).setCell (p := ⟨wn.heap.size, 9, none⟩) (by show wn.heap.size ≤ wn.heap.size; omega) (.bool acc.a.neg)).setCell (p := ⟨wn.heap.size, 10, none⟩) (by show wn.heap.size ≤ wn.heap.size; omega) (.slice X3 acc.a.ls.length c3)).setCell (p := ⟨wn.heap.size, 11, none⟩) (by show wn.heap.size ≤ wn.heap.size; omega) (.int .i64 acc.a.ex)).setCell (p := ⟨wn.heap.size + 1, 0, none⟩) (by show wn.heap.size ≤ wn.heap.size + 1; omega) (.int .i64 0)
    have hb10 := hb9.trans (belowK_b (w := wn) (Nat.le_refl _) _ D _ (.deferred none) (by omega) hK2 rfl rfl)
    have hof : ∀ {n : Nat} {X : Option Addr} {xs : List Value}, OwnR W (wn.heap.size + 2) 76 X n xs → OwnR W9 wn.heap.size 76 X n xs := fun h => by rw [hW9]; exact OwnR.base_le (OwnR.far (p := ⟨wn.heap.size + 1, 0, none⟩) (OwnR.far (p := ⟨wn.heap.size, 11, none⟩) (OwnR.far (p := ⟨wn.heap.size, 10, none⟩) (OwnR.far (p := ⟨wn.heap.size, 9, none⟩) (OwnR.far (p := ⟨wn.heap.size, 8, none⟩) (OwnR.far (p := ⟨wn.heap.size, 7, none⟩) (OwnR.far (p := ⟨wn.heap.size, 6, none⟩) (OwnR.far (p := ⟨wn.heap.size, 5, none⟩) (OwnR.far (p := ⟨wn.heap.size, 4, none⟩) (OwnR.far (p := ⟨wn.heap.size, 3, none⟩) (OwnR.far (p := ⟨wn.heap.size, 2, none⟩) (OwnR.far (p := ⟨wn.heap.size, 1, none⟩) (OwnR.far (p := ⟨wn.heap.size, 0, none⟩) (h) (by show wn.heap.size < wn.heap.size + 2; omega) (.bool acc.s.neg)) (by show wn.heap.size < wn.heap.size + 2; omega) (.slice X0 acc.s.ls.length c0)) (by show wn.heap.size < wn.heap.size + 2; omega) (.int .i64 acc.s.ex)) (by show wn.heap.size < wn.heap.size + 2; omega) (.bool acc.w.neg)) (by show wn.heap.size < wn.heap.size + 2; omega) (.slice X1 acc.w.ls.length c1)) (by show wn.heap.size < wn.heap.size + 2; omega) (.int .i64 acc.w.ex)) (by show wn.heap.size < wn.heap.size + 2; omega) (.bool acc.c.neg)) (by show wn.heap.size < wn.heap.size + 2; omega) (.slice X2 acc.c.ls.length c2)) (by show wn.heap.size < wn.heap.size + 2; omega) (.int .i64 acc.c.ex)) (by show wn.heap.size < wn.heap.size + 2; omega) (.bool acc.a.neg)) (by show wn.heap.size < wn.heap.size + 2; omega) (.slice X3 acc.a.ls.length c3)) (by show wn.heap.size < wn.heap.size + 2; omega) (.int .i64 acc.a.ex)) (by show wn.heap.size + 1 < wn.heap.size + 2; omega) (.int .i64 0)) (by omega)
    have hrD : ∀ r, some D = some r → ∃ o : Obj, W9.heap[r]? = some o ∧ o.isCells = false := fun r e => by injection e with e; subst e; exact ⟨_, hK2, rfl⟩
    have gO := Lib.hid (And.intro o0 (And.intro o1 (And.intro o2 o3)))
    have gs : Hid (sumL zs = some acc) := Lib.hid (by rw [← hS]; exact h1)
    clear o0 o1 o2 o3 h1 h2 h3 hS
    gi_wp2
    rw [← hW9]
    refine ⟨by simp, .inl ⟨_, _, rfl, run_takeDeferred hK2, ?_⟩⟩
    refine ⟨_, ret_cc rfl _ _ wn.heap.size (wn.heap.size + 1) #[.bool acc.s.neg, .slice X0 acc.s.ls.length c0, .int .i64 acc.s.ex, .bool acc.w.neg, .slice X1 acc.w.ls.length c1, .int .i64 acc.w.ex, .bool acc.c.neg, .slice X2 acc.c.ls.length c2, .int .i64 acc.c.ex, .bool acc.a.neg, .slice X3 acc.a.ls.length c3, .int .i64 acc.a.ex] 0 rfl rfl B6 (by kernel_rfl) B7, hb10, .inr ⟨acc, gs.out, X0, c0, X1, c1, X2, c2, X3, c3, rfl, ?_⟩⟩
    exact ⟨⟨gO.out.1.1, ownR_own (hof gO.out.1.2) (grownBy_putObj' _ D _) hrD⟩, ⟨gO.out.2.1.1, ownR_own (hof gO.out.2.1.2) (grownBy_putObj' _ D _) hrD⟩, ⟨gO.out.2.2.1.1, ownR_own (hof gO.out.2.2.1.2) (grownBy_putObj' _ D _) hrD⟩, ⟨gO.out.2.2.2.1, ownR_own (hof gO.out.2.2.2.2) (grownBy_putObj' _ D _) hrD⟩⟩
  case stop =>
    rintro D c pre W hD ⟨r, hr⟩ ⟨⟨rfl, h1, h2, h3⟩, hW⟩ hK
    have hD' : wn.heap.size + 2 ≤ D := by rw [gs5.out] at hD; exact hD
    have hDl : D < W.heap.size := (Array.getElem?_eq_some_iff.1 hK).1
    have B6 := h2.grown (grownBy_putObj' _ D (.deferred none)) (by simp; omega)
    have B7 := h3.grown (grownBy_putObj' _ D (.deferred none)) (by simp; omega)
    have hb10 := hW.trans (belowK_b (w := wn) (Nat.le_refl _) _ D _ (.deferred none) (by omega) hK rfl rfl)
    have gs : Hid (sumL zs = none) := Lib.hid (by rw [← hr]; exact sumF_no _ _ _ h1)
    clear h1 h2 h3 hr
    gi_wp2
    refine ⟨by simp, .inl ⟨_, _, rfl, run_takeDeferred hK, ?_⟩⟩
    exact ⟨_, ret_cc rfl _ _ wn.heap.size (wn.heap.size + 1) #[.bool false, .slice none 0 0, .int .i64 0, .bool false, .slice none 0 0, .int .i64 0, .bool false, .slice none 0 0, .int .i64 0, .bool false, .slice none 0 0, .int .i64 0] 10 rfl rfl B6 (by kernel_rfl) B7, hb10, .inl ⟨gs.out, rfl⟩⟩
end Go.Proofs.YtmppalgecboeeaaDoor
