/- Edge: the edge of values that are yielded: the contract of 'of', at whatever iterator. -/
import Derived.Test.YtdibchmhigcaaaaC
namespace Go.Proofs.Ytdibchmhigcaaaa
open Go.RowKit Go.Shelf Go.ChangeShapes Go.WideShapes Go.ChangeAt
set_option linter.unusedSimpArgs false
set_option linter.unusedVariables false
attribute [local go_sem] Oper.semAt_some
abbrev St := Bool × Int × Int
def stp (s : St) (x : Int) : St := (true, putLo s.1 s.2.1 x, putHi s.1 s.2.2 x)
def fld (l : List Int) : St := l.foldl stp (false, 0, 0)
theorem fld_snoc (l : List Int) (x : Int) : fld (l ++ [x]) = stp (fld l) x := by simp [fld]
/-- What a round of the loop keeps: all that lay below n, and every block of cells but K. -/
def Kp (n K : Nat) (W W' : World) : Prop := Below n W W' ∧ (∀ b t cs, b ≠ K → Blk W b t cs → Blk W' b t cs) ∧ W.heap.size ≤ W'.heap.size
theorem kp_t {n K : Nat} {A B C : World} (h : Kp n K A B) (k : Kp n K B C) : Kp n K A C := ⟨h.1.trans k.1, fun b t cs hb hx => k.2.1 b t cs hb (h.2.1 b t cs hb hx), Nat.le_trans h.2.2 k.2.2⟩
theorem kp_b {n K : Nat} {w : World} (hn : n ≤ w.heap.size) (W : World) (l : Nat) (o o' : Obj) (hl : w.heap.size ≤ l) (ho : W.heap[l]? = some o) (hc : o.isCells = false) (hw : o.isWalk = false) : Kp n K W (W.putObj l o') :=
  ⟨belowK_b hn W l o o' hl ho hc hw, fun b t cs hb hx => by
    have hne : b ≠ l := by
      intro e
      subst e
      unfold Blk at hx
      rw [ho] at hx
      injection hx with hx
      subst hx
      cases hc
    exact ((grownBy_putObj' W l o').block b hx.lt (fun e => hne (by injection e))).trans hx, (grownBy_putObj' W l o').size⟩
theorem blk_own {β : Type} (g : Nat) (t : TypeId) (cs : β → Array Value) : Own (fun (s : β) W => Blk W g t (cs s)) := fun s A B row hs hg hr => by
  refine Blk.grown hs hg (fun e => ?_)
  obtain ⟨o, ho, hc⟩ := hr g e.symm
  unfold Blk at hs
  rw [hs] at ho
  injection ho with ho
  subst ho
  cases hc
set_option maxRecDepth 100000 in
set_option maxHeartbeats 2000000 in
theorem of_any (gf : Nat) (lb : Array Value) (zs : List Int) (w : World) (eg : ∀ args w, (callFunc gf args).run Try.prog w = .ok (.enter gf args) w)
    (hseq : ∀ K w0, w.heap.size ≤ K → K < w0.heap.size → Below w.heap.size w w0 → SeqStopsK Fence.wide 5 Try.prog gf lb (fun x : Int => #[Value.int .i64 x]) (Kp w.heap.size K) (fun ys => ys = zs) (fun _ => True) zs.length w0) :
    Calls Try.prog 24 #[.func (.func gf) #[] lb] w fun en w' => en = .returned (edg (fld zs).1 (fld zs).2.1 (fld zs).2.2) ∧ Below w.heap.size w w' := by
  refine (callsIn_wide (n := 6)).1 ?_
  refine callsIn_of_wp_marks Try.func24 rfl trivial ?_ rfl
  simp only [Try.ntmps24, List.size_toArray, List.length_cons, List.length_nil, Nat.reduceAdd, Nat.reduceSub, Array.replicate_succ, Array.replicate_zero, List.push_toArray, List.append_toArray, List.nil_append, List.cons_append]
  gi_wp2
  have b0 := Blk.new w 24 #[.bool false, .int .i64 0, .int .i64 0]
  have b1 := Blk.new (w.alloc (.cells #[.bool false, .int .i64 0, .int .i64 0] 24)) 61 #[.bool false, .int .i64 0, .int .i64 0]
  have b2 := Blk.new ((w.alloc (.cells #[.bool false, .int .i64 0, .int .i64 0] 24)).alloc (.cells #[.bool false, .int .i64 0, .int .i64 0] 61)) 63 #[.pointer (some ⟨w.heap.size + 1, 0, none⟩)]
  simp only [World.size_alloc] at b1 b2
  have B0 := (b0.alloc (.cells #[.bool false, .int .i64 0, .int .i64 0] 61)).alloc (.cells #[.pointer (some ⟨w.heap.size + 1, 0, none⟩)] 63)
  have B1 := b1.alloc (.cells #[.pointer (some ⟨w.heap.size + 1, 0, none⟩)] 63)
  have hB0 : Below w.heap.size w (((w.alloc (.cells #[.bool false, .int .i64 0, .int .i64 0] 24)).alloc (.cells #[.bool false, .int .i64 0, .int .i64 0] 61)).alloc (.cells #[.pointer (some ⟨w.heap.size + 1, 0, none⟩)] 63)) := (((Below.refl _ w).alloc (Nat.le_refl _) _).alloc (by simp) _).alloc (by simp; omega) _
  refine wpIn_rangeFunc_ownF rfl (by omega) (gf := gf) (lb := lb) rfl trivial eg
    (hseq (w.heap.size + 1) _ (by omega) (by simp) hB0) kp_t (kp_b (by simp; omega)) (Below.refl _ _) (fun _ => rfl)
    (fun pre W => (Blk W (w.heap.size + 1) 61 #[.bool (fld pre).1, .int .i64 (fld pre).2.1, .int .i64 (fld pre).2.2] ∧ Blk W (w.heap.size + 1 + 1) 63 #[.pointer (some ⟨w.heap.size + 1, 0, none⟩)] ∧ Blk W w.heap.size 24 #[.bool false, .int .i64 0, .int .i64 0]) ∧ Below w.heap.size w W)
    (fun _ _ _ => False)
    (OwnFrom.and (Own.from (fun s A B row hs hg hr => ⟨blk_own (β := List Int) _ _ (fun pre => #[.bool (fld pre).1, .int .i64 (fld pre).2.1, .int .i64 (fld pre).2.2]) s A B row hs.1 hg hr, blk_own (β := List Int) _ _ (fun _ => _) s A B row hs.2.1 hg hr, blk_own (β := List Int) _ _ (fun _ => _) s A B row hs.2.2 hg hr⟩) _) (ownFrom_below (Nat.le_refl _) (by simp; omega)))
    (fun _ _ _ _ _ hs _ _ => hs)
    ⟨⟨B1, b2, B0⟩, hB0⟩
    (fun x => { tmps := #[.func (.func gf) #[] lb, undef, .pointer (some ⟨w.heap.size, 0, none⟩), .pointer (some ⟨w.heap.size + 1 + 1, 0, none⟩), .int .i64 x, .agg #[.bool false, .int .i64 0, .int .i64 0], .pointer (some ⟨w.heap.size + 1, 0, none⟩), .agg #[.pointer (some ⟨w.heap.size + 1, 0, none⟩)], .func (.func gf) #[] lb, .int .i64 x, undef, undef, undef, undef, undef, undef, undef], defers := [] }) ?assign ?body ?done ?stop
  case assign =>
    intro l x W K hK
    gi_wp2
    exact hK
  case body =>
    rintro l pre x W ⟨⟨h1, h2, h0⟩, hB⟩ _
    have c2 := h2.cell 0
    simp at c2
    gi_wp2_with (refine ⟨trivial, ?_⟩; gi_at_call 31; refine (CallsIn.inRound l (callsIn_wide.2 (put_any _ _ _ _ x _ h1))).mono ?_; rintro e W' ⟨rfl, hp, hg⟩)
    exact ⟨KeepsOthers.of_grownBy hg (fun j o e ho => by
        injection e with e
        subst e
        unfold Blk at h1
        rw [h1] at ho
        injection ho with ho
        subst ho
        rfl), ⟨(Below.refl _ W).grown hg hB.size (fun k e => by injection e with e; omega), fun b t cs hb hx => hx.grown hg (fun e => hb (by injection e)), hg.size⟩, ⟨by rw [fld_snoc]; exact hp, h2.grown hg (by simp), h0.grown hg (by simp)⟩, hB.grown hg hB.size (fun k e => by injection e with e; omega)⟩
  case done =>
    rintro D ys W hD rfl ⟨⟨h1, h2, h0⟩, hB⟩ hK
    have c2 := h2.cell 0
    simp at c2
    gi_wp2_with (refine ⟨trivial, ?_⟩; gi_at_call 32; refine (callsIn_wide.2 (told_any _ _ _ _ _ h1)).mono ?_; rintro e W' ⟨rfl, hb⟩; have B0' := h0.below hb h0.lt; have d0 := B0'.cell 0; have d1 := B0'.cell 1; have d2 := B0'.cell 2; have e0 := B0'.frozen 0; have e1 := B0'.frozen 1; have e2 := B0'.frozen 2; simp at d0 d1 d2)
    have hD' : w.heap.size + 3 ≤ D := by simp at hD; omega
    have hDl : D < W.heap.size := (Array.getElem?_eq_some_iff.1 hK).1
    have hK1 := (hb.block D hDl).trans hK
    have hK2 := (KeepsOthers.setCell W' ⟨w.heap.size, 0, none⟩ (.bool (fld ys).1)).same D _ hK1 rfl
    have hK3 := (KeepsOthers.setCell _ ⟨w.heap.size, 1, none⟩ (.int .i64 (fld ys).2.1)).same D _ hK2 rfl
    have hK4 := (KeepsOthers.setCell _ ⟨w.heap.size, 2, none⟩ (.int .i64 (fld ys).2.2)).same D _ hK3 rfl
    have B5 := ((B0'.set_ 0 (.bool (fld ys).1)).set_ 1 (.int .i64 (fld ys).2.1)).set_ 2 (.int .i64 (fld ys).2.2)
    have B6 := B5.grown (grownBy_putObj' _ D (.deferred none)) (by simp; omega)
    have q0 := B6.cell 0
    have q1 := B6.cell 1
    have q2 := B6.cell 2
    simp at q0 q1 q2
    refine ⟨by simp, .inl ⟨_, _, rfl, run_takeDeferred hK4, ?_⟩⟩
    refine ⟨edg (fld ys).1 (fld ys).2.1 (fld ys).2.2, ?_, rfl, ((((hB.trans (hb.mono hB.size)).setCell (p := ⟨w.heap.size, 0, none⟩) (Nat.le_refl _) _).setCell (p := ⟨w.heap.size, 1, none⟩) (Nat.le_refl _) _).setCell (p := ⟨w.heap.size, 2, none⟩) (Nat.le_refl _) _).trans (belowK_b (w := w) (Nat.le_refl _) _ D _ _ (by omega) hK4 rfl rfl)⟩
    simp [results, Try.f24, go_sem, q0, q1, q2]
  case stop =>
    rintro D c pre W _ _ h _
    exact h.elim
end Go.Proofs.Ytdibchmhigcaaaa
