/- Mass: copies of masses -/
import Derived.Test.YtjmhefkmpfkpbaaME
namespace Go.Proofs.Ytjmhefkmpfkpbaa
open Go.Shelf Go.ChangeShapes Go.WideShapes Go.ChangeAt Go.RowKit
set_option linter.unusedSimpArgs false
set_option linter.unusedVariables false
/-- A part under way: its own copy, or the first one still. -/
def StT (W : World) (B n : Nat) (l : List Nat) (X0 : Option Addr) (c0 : Nat) (out : Prop) (X : Option Addr) (c : Nat) : Prop := n ≤ c ∧ (OwnR W B 52 X n (ints .u32 l) ∨ (out ∧ X = X0 ∧ c = c0))
section
variable {W W' : World} {B n c c0 : Nat} {l : List Nat} {X0 X : Option Addr} {out out' : Prop}
theorem StT.map (h : StT W B n l X0 c0 out X c) (h1 : OwnR W B 52 X n (ints .u32 l) → OwnR W' B 52 X n (ints .u32 l)) (h2 : out → out') : StT W' B n l X0 c0 out' X c := ⟨h.1, h.2.imp h1 (fun ⟨a, b⟩ => ⟨h2 a, b⟩)⟩
theorem ownR_own {xs : List Value} {e : TypeId} {row : Option Nat} (h : OwnR W B e X n xs) (hg : W.grownBy W' row) (hr : ∀ r, row = some r → ∃ o : Obj, W.heap[r]? = some o ∧ o.isCells = false) : OwnR W' B e X n xs :=
  ⟨h.1, fun h0 => by
    obtain ⟨g, cur, hA, hb, hh, ht⟩ := h.2 h0
    refine ⟨g, cur, hA, hb, hh.grown hg (fun e => ?_), ht⟩
    obtain ⟨o, ho, hc⟩ := hr g e.symm
    unfold Blk at hh
    rw [hh] at ho
    injection ho with ho
    subst ho
    cases hc⟩
theorem StT.own (h : StT W B n l X0 c0 out X c) {row : Option Nat} (hg : W.grownBy W' row) (hr : ∀ r, row = some r → ∃ o : Obj, W.heap[r]? = some o ∧ o.isCells = false) : StT W' B n l X0 c0 out X c := h.map (fun h => ownR_own h hg hr) id
theorem StT.reads {w : World} {c0' : Nat} (h : StT W B n l X0 c0 out X c) (hr : Reads w w.heap.size 1 X0 n (ints .u32 l)) (hb : Below w.heap.size w W) : Reads W W.heap.size 1 X n (ints .u32 l) := by
  rcases h.2 with h | ⟨_, rfl, _⟩
  · exact h.reads
  · exact (hr.below hb).more hb.size
end
def TwM (w : World) (ag0 : Bool) (aX0 : Option Addr) (an0 ac0 : Nat) (ae0 : Int) (ag1 : Bool) (aX1 : Option Addr) (an1 ac1 : Nat) (ae1 : Int) (ag2 : Bool) (aX2 : Option Addr) (an2 ac2 : Nat) (ae2 : Int) (ag3 : Bool) (aX3 : Option Addr) (an3 ac3 : Nat) (ae3 : Int) (m : Ms) (en : Ending) (w' : World) : Prop :=
  ∃ (X0 : Option Addr) (c0 : Nat) (X1 : Option Addr) (c1 : Nat) (X2 : Option Addr) (c2 : Nat) (X3 : Option Addr) (c3 : Nat), en = .returned (.agg #[.bool ag0, .slice X0 an0 c0, .int .i64 ae0, .bool ag1, .slice X1 an1 c1, .int .i64 ae1, .bool ag2, .slice X2 an2 c2, .int .i64 ae2, .bool ag3, .slice X3 an3 c3, .int .i64 ae3]) ∧ (an0 ≤ c0 ∧ OwnR w' w.heap.size 52 X0 an0 (ints .u32 m.s.ls)) ∧ (an1 ≤ c1 ∧ OwnR w' w.heap.size 52 X1 an1 (ints .u32 m.w.ls)) ∧ (an2 ≤ c2 ∧ OwnR w' w.heap.size 52 X2 an2 (ints .u32 m.c.ls)) ∧ (an3 ≤ c3 ∧ OwnR w' w.heap.size 52 X3 an3 (ints .u32 m.a.ls)) ∧ Below w.heap.size w w'
theorem blk12 {w : World} {g : Nat} {T : TypeId} {z0 z1 z2 z3 z4 z5 z6 z7 z8 z9 z10 z11 : Value} (h : Blk w g T #[z0, z1, z2, z3, z4, z5, z6, z7, z8, z9, z10, z11]) (u0 u1 u2 u3 u4 u5 u6 u7 u8 u9 u10 u11 : Value) : Blk ((((((((((((w.setCell ⟨g, 0, none⟩ u0).setCell ⟨g, 1, none⟩ u1).setCell ⟨g, 2, none⟩ u2).setCell ⟨g, 3, none⟩ u3).setCell ⟨g, 4, none⟩ u4).setCell ⟨g, 5, none⟩ u5).setCell ⟨g, 6, none⟩ u6).setCell ⟨g, 7, none⟩ u7).setCell ⟨g, 8, none⟩ u8).setCell ⟨g, 9, none⟩ u9).setCell ⟨g, 10, none⟩ u10).setCell ⟨g, 11, none⟩ u11) g T #[u0, u1, u2, u3, u4, u5, u6, u7, u8, u9, u10, u11] := by
  have h1 : Blk _ g T #[u0, z1, z2, z3, z4, z5, z6, z7, z8, z9, z10, z11] := (show _ from by simpa using h.set_ 0 u0)
  have h2 : Blk _ g T #[u0, u1, z2, z3, z4, z5, z6, z7, z8, z9, z10, z11] := (show _ from by simpa using h1.set_ 1 u1)
  have h3 : Blk _ g T #[u0, u1, u2, z3, z4, z5, z6, z7, z8, z9, z10, z11] := (show _ from by simpa using h2.set_ 2 u2)
  have h4 : Blk _ g T #[u0, u1, u2, u3, z4, z5, z6, z7, z8, z9, z10, z11] := (show _ from by simpa using h3.set_ 3 u3)
  have h5 : Blk _ g T #[u0, u1, u2, u3, u4, z5, z6, z7, z8, z9, z10, z11] := (show _ from by simpa using h4.set_ 4 u4)
  have h6 : Blk _ g T #[u0, u1, u2, u3, u4, u5, z6, z7, z8, z9, z10, z11] := (show _ from by simpa using h5.set_ 5 u5)
  have h7 : Blk _ g T #[u0, u1, u2, u3, u4, u5, u6, z7, z8, z9, z10, z11] := (show _ from by simpa using h6.set_ 6 u6)
  have h8 : Blk _ g T #[u0, u1, u2, u3, u4, u5, u6, u7, z8, z9, z10, z11] := (show _ from by simpa using h7.set_ 7 u7)
  have h9 : Blk _ g T #[u0, u1, u2, u3, u4, u5, u6, u7, u8, z9, z10, z11] := (show _ from by simpa using h8.set_ 8 u8)
  have h10 : Blk _ g T #[u0, u1, u2, u3, u4, u5, u6, u7, u8, u9, z10, z11] := (show _ from by simpa using h9.set_ 9 u9)
  have h11 : Blk _ g T #[u0, u1, u2, u3, u4, u5, u6, u7, u8, u9, u10, z11] := (show _ from by simpa using h10.set_ 10 u10)
  have h12 : Blk _ g T #[u0, u1, u2, u3, u4, u5, u6, u7, u8, u9, u10, u11] := (show _ from by simpa using h11.set_ 11 u11)
  exact h12
theorem blk3 {w : World} {g i : Nat} {T : TypeId} {cs ds : Array Value} (h : Blk w g T cs) (u0 u1 u2 : Value) (hd : ((cs.setIfInBounds i u0).setIfInBounds (i + 1) u1).setIfInBounds (i + 2) u2 = ds) : Blk (((w.setCell ⟨g, i, none⟩ u0).setCell ⟨g, i + 1, none⟩ u1).setCell ⟨g, i + 2, none⟩ u2) g T ds := by
  rw [← hd]
  exact ((h.set_ i u0).set_ (i + 1) u1).set_ (i + 2) u2
attribute [local go_sem] Oper.semAt_some
set_option maxRecDepth 100000 in
set_option maxHeartbeats 8000000 in
theorem mtwin_any (ag0 : Bool) (aX0 : Option Addr) (an0 ac0 : Nat) (ae0 : Int) (ag1 : Bool) (aX1 : Option Addr) (an1 ac1 : Nat) (ae1 : Int) (ag2 : Bool) (aX2 : Option Addr) (an2 ac2 : Nat) (ae2 : Int) (ag3 : Bool) (aX3 : Option Addr) (an3 ac3 : Nat) (ae3 : Int) (m : Ms) (hsm : smM m) (w : World) (ra : RdM w w.heap.size ag0 aX0 an0 ac0 ae0 ag1 aX1 an1 ac1 ae1 ag2 aX2 an2 ac2 ae2 ag3 aX3 an3 ac3 ae3 m) :
    Calls Try.prog 37 #[.agg #[.bool ag0, .slice aX0 an0 ac0, .int .i64 ae0, .bool ag1, .slice aX1 an1 ac1, .int .i64 ae1, .bool ag2, .slice aX2 an2 ac2, .int .i64 ae2, .bool ag3, .slice aX3 an3 ac3, .int .i64 ae3]] w (TwM w ag0 aX0 an0 ac0 ae0 ag1 aX1 an1 ac1 ae1 ag2 aX2 an2 ac2 ae2 ag3 aX3 an3 ac3 ae3 m) := by
  refine (callsIn_wide (n := 6)).1 ?_
  refine callsIn_of_wp_marks Try.func37 rfl trivial ?_ rfl
  simp only [Try.ntmps37, List.size_toArray, List.length_cons, List.length_nil, Nat.reduceAdd, Nat.reduceSub, Array.replicate_succ, Array.replicate_zero, List.push_toArray, List.append_toArray, List.nil_append, List.cons_append]
  have gra := Lib.hid ra
  have gsm := Lib.hid hsm
  have gc : an0 ≤ ac0 ∧ an1 ≤ ac1 ∧ an2 ≤ ac2 ∧ an3 ≤ ac3 := ⟨ra.1.2.2.2.1, ra.2.1.2.2.2.1, ra.2.2.1.2.2.2.1, ra.2.2.2.2.2.2.1⟩
  clear ra hsm
  have hpt := parts_any ⟨w.heap.size, 0, none⟩ ⟨w.heap.size, 0, none⟩ ((w.alloc (.cells #[.bool ag0, .slice aX0 an0 ac0, .int .i64 ae0, .bool ag1, .slice aX1 an1 ac1, .int .i64 ae1, .bool ag2, .slice aX2 an2 ac2, .int .i64 ae2, .bool ag3, .slice aX3 an3 ac3, .int .i64 ae3] 26)).alloc (.cells #[.bool false, .slice none 0 0, .int .i64 0, .bool false, .slice none 0 0, .int .i64 0, .bool false, .slice none 0 0, .int .i64 0, .bool false, .slice none 0 0, .int .i64 0] 26))
  simp only [World.size_alloc] at hpt
  obtain ⟨W5, hW5⟩ : ∃ W5, W5 = ((((w.alloc (.cells #[.bool ag0, .slice aX0 an0 ac0, .int .i64 ae0, .bool ag1, .slice aX1 an1 ac1, .int .i64 ae1, .bool ag2, .slice aX2 an2 ac2, .int .i64 ae2, .bool ag3, .slice aX3 an3 ac3, .int .i64 ae3] 26)).alloc (.cells #[.bool false, .slice none 0 0, .int .i64 0, .bool false, .slice none 0 0, .int .i64 0, .bool false, .slice none 0 0, .int .i64 0, .bool false, .slice none 0 0, .int .i64 0] 26)).alloc (.cells #[.pointer (some ⟨w.heap.size, 0, none⟩)] 99)).alloc (.cells #[.pointer (some ⟨w.heap.size, 0, none⟩)] 99)) := ⟨_, rfl⟩
  have B0 : Blk W5 w.heap.size 26 #[.bool ag0, .slice aX0 an0 ac0, .int .i64 ae0, .bool ag1, .slice aX1 an1 ac1, .int .i64 ae1, .bool ag2, .slice aX2 an2 ac2, .int .i64 ae2, .bool ag3, .slice aX3 an3 ac3, .int .i64 ae3] := by rw [hW5]; exact (((Blk.new w _ _).alloc _).alloc _).alloc _
  have B1 : Blk W5 (w.heap.size + 1) 26 #[.bool false, .slice none 0 0, .int .i64 0, .bool false, .slice none 0 0, .int .i64 0, .bool false, .slice none 0 0, .int .i64 0, .bool false, .slice none 0 0, .int .i64 0] := by
    have := ((Blk.new (w.alloc (.cells #[.bool ag0, .slice aX0 an0 ac0, .int .i64 ae0, .bool ag1, .slice aX1 an1 ac1, .int .i64 ae1, .bool ag2, .slice aX2 an2 ac2, .int .i64 ae2, .bool ag3, .slice aX3 an3 ac3, .int .i64 ae3] 26)) 26 #[.bool false, .slice none 0 0, .int .i64 0, .bool false, .slice none 0 0, .int .i64 0, .bool false, .slice none 0 0, .int .i64 0, .bool false, .slice none 0 0, .int .i64 0]).alloc (.cells #[.pointer (some ⟨w.heap.size, 0, none⟩)] 99)).alloc (.cells #[.pointer (some ⟨w.heap.size, 0, none⟩)] 99)
    rw [World.size_alloc] at this
    rw [hW5]; exact this
  have B3 : Blk W5 (w.heap.size + 2) 99 #[.pointer (some ⟨w.heap.size, 0, none⟩)] := by
    have := (Blk.new ((w.alloc (.cells #[.bool ag0, .slice aX0 an0 ac0, .int .i64 ae0, .bool ag1, .slice aX1 an1 ac1, .int .i64 ae1, .bool ag2, .slice aX2 an2 ac2, .int .i64 ae2, .bool ag3, .slice aX3 an3 ac3, .int .i64 ae3] 26)).alloc (.cells #[.bool false, .slice none 0 0, .int .i64 0, .bool false, .slice none 0 0, .int .i64 0, .bool false, .slice none 0 0, .int .i64 0, .bool false, .slice none 0 0, .int .i64 0] 26)) 99 #[.pointer (some ⟨w.heap.size, 0, none⟩)]).alloc (.cells #[.pointer (some ⟨w.heap.size, 0, none⟩)] 99)
    simp only [World.size_alloc] at this
    rw [hW5]; exact this
  have B4 : Blk W5 (w.heap.size + 3) 99 #[.pointer (some ⟨w.heap.size, 0, none⟩)] := by
    have := Blk.new (((w.alloc (.cells #[.bool ag0, .slice aX0 an0 ac0, .int .i64 ae0, .bool ag1, .slice aX1 an1 ac1, .int .i64 ae1, .bool ag2, .slice aX2 an2 ac2, .int .i64 ae2, .bool ag3, .slice aX3 an3 ac3, .int .i64 ae3] 26)).alloc (.cells #[.bool false, .slice none 0 0, .int .i64 0, .bool false, .slice none 0 0, .int .i64 0, .bool false, .slice none 0 0, .int .i64 0, .bool false, .slice none 0 0, .int .i64 0] 26)).alloc (.cells #[.pointer (some ⟨w.heap.size, 0, none⟩)] 99)) 99 #[.pointer (some ⟨w.heap.size, 0, none⟩)]
    simp only [World.size_alloc] at this
    rw [hW5]; exact this
  have hB : Below w.heap.size w W5 := by rw [hW5]; exact ((((Below.refl _ w).alloc (Nat.le_refl _) _).alloc (by simp) _).alloc (by simp; omega) _).alloc (by simp; omega) _
  have sz : W5.heap.size = w.heap.size + 4 := by rw [hW5]; simp
  have gsz := Lib.hid sz
  gi_wp2_with (refine ⟨trivial, ?_⟩; gi_at_call 56; refine (callsIn_wide.2 hpt).mono ?_; rintro e W' ⟨rfl, rfl⟩)
  rw [← hW5]
  clear hW5 hpt sz
  have q3 := B3.cell 0
  have q4 := B4.cell 0
  simp only [List.getElem?_toArray, List.getElem?_cons_zero] at q3 q4
  refine wpIn_rangeFunc_ownF rfl (by omega) (gf := 84) (lb := #[.pointer (some ⟨w.heap.size + 2, 0, none⟩), .pointer (some ⟨w.heap.size + 3, 0, none⟩)]) rfl trivial (enters_of Try.func84 (by kernel_rfl) rfl)
    (parts_seq _ _ _ _ _ (by omega) W5 q3 q4) kpM_t (kpM_b (by rw [gsz.out]; omega) (by rw [gsz.out]; omega)) (Below.refl _ _) (fun _ => rfl)
    (fun pre W => ((∃ (X0 : Option Addr) (c0 : Nat) (X1 : Option Addr) (c1 : Nat) (X2 : Option Addr) (c2 : Nat) (X3 : Option Addr) (c3 : Nat), Blk W w.heap.size 26 #[.bool ag0, .slice X0 an0 c0, .int .i64 ae0, .bool ag1, .slice X1 an1 c1, .int .i64 ae1, .bool ag2, .slice X2 an2 c2, .int .i64 ae2, .bool ag3, .slice X3 an3 c3, .int .i64 ae3] ∧ StT W (w.heap.size + 4) an0 m.s.ls aX0 ac0 (p0 ∉ pre) X0 c0 ∧ StT W (w.heap.size + 4) an1 m.w.ls aX1 ac1 (p1 ∉ pre) X1 c1 ∧ StT W (w.heap.size + 4) an2 m.c.ls aX2 ac2 (p2 ∉ pre) X2 c2 ∧ StT W (w.heap.size + 4) an3 m.a.ls aX3 ac3 (p3 ∉ pre) X3 c3) ∧ Blk W (w.heap.size + 1) 26 #[.bool false, .slice none 0 0, .int .i64 0, .bool false, .slice none 0 0, .int .i64 0, .bool false, .slice none 0 0, .int .i64 0, .bool false, .slice none 0 0, .int .i64 0] ∧ Blk W (w.heap.size + 2) 99 #[.pointer (some ⟨w.heap.size, 0, none⟩)] ∧ Blk W (w.heap.size + 3) 99 #[.pointer (some ⟨w.heap.size, 0, none⟩)]) ∧ Below w.heap.size w W)
    (fun _ _ _ => False)
    (OwnFrom.and (Own.from (fun s A B row hs hg hr => by
      obtain ⟨⟨X0, c0, X1, c1, X2, c2, X3, c3, hv, s0, s1, s2, s3⟩, h1, h2, h3⟩ := hs
      exact ⟨⟨X0, c0, X1, c1, X2, c2, X3, c3, blk_own (β := Nat) _ _ (fun _ => _) 0 A B row hv hg hr, s0.own hg hr, s1.own hg hr, s2.own hg hr, s3.own hg hr⟩, blk_own (β := Nat) _ _ (fun _ => _) 0 A B row h1 hg hr, blk_own (β := Nat) _ _ (fun _ => _) 0 A B row h2 hg hr, blk_own (β := Nat) _ _ (fun _ => _) 0 A B row h3 hg hr⟩) _) (ownFrom_below (Nat.le_refl _) (by rw [gsz.out]; omega)))
    (fun _ _ _ _ _ hs _ _ => hs)
    ⟨⟨⟨aX0, ac0, aX1, ac1, aX2, ac2, aX3, ac3, B0, ⟨gc.1, .inr ⟨by simp, rfl, rfl⟩⟩, ⟨gc.2.1, .inr ⟨by simp, rfl, rfl⟩⟩, ⟨gc.2.2.1, .inr ⟨by simp, rfl, rfl⟩⟩, ⟨gc.2.2.2, .inr ⟨by simp, rfl, rfl⟩⟩⟩, B1, B3, B4⟩, hB⟩
    (fun x => { tmps := #[.agg #[.bool ag0, .slice aX0 an0 ac0, .int .i64 ae0, .bool ag1, .slice aX1 an1 ac1, .int .i64 ae1, .bool ag2, .slice aX2 an2 ac2, .int .i64 ae2, .bool ag3, .slice aX3 an3 ac3, .int .i64 ae3], .pointer (some ⟨w.heap.size, 0, none⟩), .pointer (some ⟨w.heap.size + 1, 0, none⟩), .pointer (some ⟨w.heap.size, 3 * x.1, none⟩), .func (.func 84) #[] #[.pointer (some ⟨w.heap.size + 2, 0, none⟩), .pointer (some ⟨w.heap.size + 3, 0, none⟩)], .pointer (some ⟨w.heap.size, 3 * x.1, none⟩), .pointer (some ⟨w.heap.size, 3 * x.1, none⟩), undef, undef, undef, undef, undef, undef, undef], defers := [] }) ?assign ?body ?done ?stop
  case assign =>
    intro l x W K hK
    gi_wp2
    exact hK
  case body =>
    rintro l pre ⟨i, hi⟩ W ⟨⟨⟨X0, c0, X1, c1, X2, c2, X3, c3, hv, s0, s1, s2, s3⟩, h1, h5, h6⟩, hW⟩ _
    have hi4 : i = 0 ∨ i = 1 ∨ i = 2 ∨ i = 3 := by omega
    rcases hi4 with rfl | rfl | rfl | rfl
    · have x0 := hv.cell 0
      have x1 := hv.cell 1
      have x2 := hv.cell 2
      simp only [List.getElem?_toArray, List.getElem?_cons_zero, List.getElem?_cons_succ] at x0 x1 x2
      obtain ⟨ea1, ea2, ea3, ea4, ra⟩ := gra.out.1
      have hr := s0.reads (c0' := 0) ra hW
      have hd := dtwin_any ag0 X0 an0 c0 ae0 m.s.ls ea3 (by rw [← ea3]; exact gsm.out.1) W hr
      clear ea1 ea2 ea3 ea4 ra hr
      have hv' := fun w' (h : Below W.heap.size W w') => hv.below h hv.lt
      gi_wp2_with (refine ⟨trivial, ?_⟩; gi_at_call 69; refine (CallsIn.inRound l (callsIn_wide.2 hd)).mono ?_; rintro e w2 ⟨Xo, co, rfl, hco, ho, hb⟩; have hv2 := hv' w2 hb; have y0 := hv2.cell 0; have y1 := hv2.cell 1; have y2 := hv2.cell 2; have f0 := hv2.frozen 0; have f1 := hv2.frozen 1; have f2 := hv2.frozen 2; simp only [List.getElem?_toArray, List.getElem?_cons_zero, List.getElem?_cons_succ] at y0 y1 y2; clear hd hv' x0 x1 x2)
      have hl := hv.lt
      have hg : W.grownBy w2 none := ⟨hb.os, hb.tape, hb.output, hb.size, fun k hk _ => hb.block k hk⟩
      have hv3 := blk3 (i := 0) (ds := #[.bool ag0, .slice Xo an0 co, .int .i64 ae0, .bool ag1, .slice X1 an1 c1, .int .i64 ae1, .bool ag2, .slice X2 an2 c2, .int .i64 ae2, .bool ag3, .slice X3 an3 c3, .int .i64 ae3]) hv2 (.bool ag0) (.slice Xo an0 co) (.int .i64 ae0) (by simp)
      have hsW : w.heap.size + 4 ≤ W.heap.size := h6.lt
      have ho2 := OwnR.far (OwnR.far (OwnR.far (ho.base_le hsW) (p := ⟨w.heap.size, 0, none⟩) (by simp) (.bool ag0)) (p := ⟨w.heap.size, 0 + 1, none⟩) (by simp) (.slice Xo an0 co)) (p := ⟨w.heap.size, 0 + 2, none⟩) (by simp) (.int .i64 ae0)
      have hmv : ∀ {n c c0 : Nat} {l : List Nat} {X0 X : Option Addr} {out out' : Prop}, StT W (w.heap.size + 4) n l X0 c0 out X c → (out → out') → StT (((w2.setCell ⟨w.heap.size, 0, none⟩ (.bool ag0)).setCell ⟨w.heap.size, 0 + 1, none⟩ (.slice Xo an0 co)).setCell ⟨w.heap.size, 0 + 2, none⟩ (.int .i64 ae0)) (w.heap.size + 4) n l X0 c0 out' X c := fun h hh => h.map (fun h => OwnR.far (OwnR.far (OwnR.far (h.below hb) (p := ⟨w.heap.size, 0, none⟩) (by simp) _) (p := ⟨w.heap.size, 0 + 1, none⟩) (by simp) _) (p := ⟨w.heap.size, 0 + 2, none⟩) (by simp) _) hh
      have hfar : ∀ {g : Nat} {t : TypeId} {cs : Array Value}, w.heap.size < g → Blk W g t cs → Blk (((w2.setCell ⟨w.heap.size, 0, none⟩ (.bool ag0)).setCell ⟨w.heap.size, 0 + 1, none⟩ (.slice Xo an0 co)).setCell ⟨w.heap.size, 0 + 2, none⟩ (.int .i64 ae0)) g t cs := fun hg h => (((h.below hb h.lt).far (p := ⟨w.heap.size, 0, none⟩) (by simp; omega) _).far (p := ⟨w.heap.size, 0 + 1, none⟩) (by simp; omega) _).far (p := ⟨w.heap.size, 0 + 2, none⟩) (by simp; omega) _
      have k5 := hfar (by omega) h5
      have k6 := hfar (by omega) h6
      refine ⟨((KeepsOthers.of_grownBy hg (fun j o e ho => by cases e)).trans (KeepsOthers.setCell _ _ _)).trans ((KeepsOthers.setCell _ _ _).trans (KeepsOthers.setCell _ _ _)), ⟨(k5.cell 0).trans (h5.cell 0).symm, (k6.cell 0).trans (h6.cell 0).symm⟩, ⟨⟨Xo, co, X1, c1, X2, c2, X3, c3, hv3, ⟨hco, .inl ho2⟩, hmv s1 (fun h e => h ((List.mem_append.1 e).elim id (fun h => by simp at h))), hmv s2 (fun h e => h ((List.mem_append.1 e).elim id (fun h => by simp at h))), hmv s3 (fun h e => h ((List.mem_append.1 e).elim id (fun h => by simp at h)))⟩, hfar (by omega) h1, k5, k6⟩, ?_⟩
      exact (((hW.trans (hb.mono hW.size)).setCell (p := ⟨w.heap.size, 0, none⟩) (Nat.le_refl _) _).setCell (p := ⟨w.heap.size, 0 + 1, none⟩) (Nat.le_refl _) _).setCell (p := ⟨w.heap.size, 0 + 2, none⟩) (Nat.le_refl _) _
    · have x0 := hv.cell 3
      have x1 := hv.cell 4
      have x2 := hv.cell 5
      simp only [List.getElem?_toArray, List.getElem?_cons_zero, List.getElem?_cons_succ] at x0 x1 x2
      obtain ⟨ea1, ea2, ea3, ea4, ra⟩ := gra.out.2.1
      have hr := s1.reads (c0' := 0) ra hW
      have hd := dtwin_any ag1 X1 an1 c1 ae1 m.w.ls ea3 (by rw [← ea3]; exact gsm.out.2.1) W hr
      clear ea1 ea2 ea3 ea4 ra hr
      have hv' := fun w' (h : Below W.heap.size W w') => hv.below h hv.lt
      gi_wp2_with (refine ⟨trivial, ?_⟩; gi_at_call 69; refine (CallsIn.inRound l (callsIn_wide.2 hd)).mono ?_; rintro e w2 ⟨Xo, co, rfl, hco, ho, hb⟩; have hv2 := hv' w2 hb; have y0 := hv2.cell 3; have y1 := hv2.cell 4; have y2 := hv2.cell 5; have f0 := hv2.frozen 3; have f1 := hv2.frozen 4; have f2 := hv2.frozen 5; simp only [List.getElem?_toArray, List.getElem?_cons_zero, List.getElem?_cons_succ] at y0 y1 y2; clear hd hv' x0 x1 x2)
      have hl := hv.lt
      have hg : W.grownBy w2 none := ⟨hb.os, hb.tape, hb.output, hb.size, fun k hk _ => hb.block k hk⟩
      have hv3 := blk3 (i := 3) (ds := #[.bool ag0, .slice X0 an0 c0, .int .i64 ae0, .bool ag1, .slice Xo an1 co, .int .i64 ae1, .bool ag2, .slice X2 an2 c2, .int .i64 ae2, .bool ag3, .slice X3 an3 c3, .int .i64 ae3]) hv2 (.bool ag1) (.slice Xo an1 co) (.int .i64 ae1) (by simp)
      have hsW : w.heap.size + 4 ≤ W.heap.size := h6.lt
      have ho2 := OwnR.far (OwnR.far (OwnR.far (ho.base_le hsW) (p := ⟨w.heap.size, 3, none⟩) (by simp) (.bool ag1)) (p := ⟨w.heap.size, 3 + 1, none⟩) (by simp) (.slice Xo an1 co)) (p := ⟨w.heap.size, 3 + 2, none⟩) (by simp) (.int .i64 ae1)
      have hmv : ∀ {n c c0 : Nat} {l : List Nat} {X0 X : Option Addr} {out out' : Prop}, StT W (w.heap.size + 4) n l X0 c0 out X c → (out → out') → StT (((w2.setCell ⟨w.heap.size, 3, none⟩ (.bool ag1)).setCell ⟨w.heap.size, 3 + 1, none⟩ (.slice Xo an1 co)).setCell ⟨w.heap.size, 3 + 2, none⟩ (.int .i64 ae1)) (w.heap.size + 4) n l X0 c0 out' X c := fun h hh => h.map (fun h => OwnR.far (OwnR.far (OwnR.far (h.below hb) (p := ⟨w.heap.size, 3, none⟩) (by simp) _) (p := ⟨w.heap.size, 3 + 1, none⟩) (by simp) _) (p := ⟨w.heap.size, 3 + 2, none⟩) (by simp) _) hh
      have hfar : ∀ {g : Nat} {t : TypeId} {cs : Array Value}, w.heap.size < g → Blk W g t cs → Blk (((w2.setCell ⟨w.heap.size, 3, none⟩ (.bool ag1)).setCell ⟨w.heap.size, 3 + 1, none⟩ (.slice Xo an1 co)).setCell ⟨w.heap.size, 3 + 2, none⟩ (.int .i64 ae1)) g t cs := fun hg h => (((h.below hb h.lt).far (p := ⟨w.heap.size, 3, none⟩) (by simp; omega) _).far (p := ⟨w.heap.size, 3 + 1, none⟩) (by simp; omega) _).far (p := ⟨w.heap.size, 3 + 2, none⟩) (by simp; omega) _
      have k5 := hfar (by omega) h5
      have k6 := hfar (by omega) h6
      refine ⟨((KeepsOthers.of_grownBy hg (fun j o e ho => by cases e)).trans (KeepsOthers.setCell _ _ _)).trans ((KeepsOthers.setCell _ _ _).trans (KeepsOthers.setCell _ _ _)), ⟨(k5.cell 0).trans (h5.cell 0).symm, (k6.cell 0).trans (h6.cell 0).symm⟩, ⟨⟨X0, c0, Xo, co, X2, c2, X3, c3, hv3, hmv s0 (fun h e => h ((List.mem_append.1 e).elim id (fun h => by simp at h))), ⟨hco, .inl ho2⟩, hmv s2 (fun h e => h ((List.mem_append.1 e).elim id (fun h => by simp at h))), hmv s3 (fun h e => h ((List.mem_append.1 e).elim id (fun h => by simp at h)))⟩, hfar (by omega) h1, k5, k6⟩, ?_⟩
      exact (((hW.trans (hb.mono hW.size)).setCell (p := ⟨w.heap.size, 3, none⟩) (Nat.le_refl _) _).setCell (p := ⟨w.heap.size, 3 + 1, none⟩) (Nat.le_refl _) _).setCell (p := ⟨w.heap.size, 3 + 2, none⟩) (Nat.le_refl _) _
    · have x0 := hv.cell 6
      have x1 := hv.cell 7
      have x2 := hv.cell 8
      simp only [List.getElem?_toArray, List.getElem?_cons_zero, List.getElem?_cons_succ] at x0 x1 x2
      obtain ⟨ea1, ea2, ea3, ea4, ra⟩ := gra.out.2.2.1
      have hr := s2.reads (c0' := 0) ra hW
      have hd := dtwin_any ag2 X2 an2 c2 ae2 m.c.ls ea3 (by rw [← ea3]; exact gsm.out.2.2.1) W hr
      clear ea1 ea2 ea3 ea4 ra hr
      have hv' := fun w' (h : Below W.heap.size W w') => hv.below h hv.lt
      gi_wp2_with (refine ⟨trivial, ?_⟩; gi_at_call 69; refine (CallsIn.inRound l (callsIn_wide.2 hd)).mono ?_; rintro e w2 ⟨Xo, co, rfl, hco, ho, hb⟩; have hv2 := hv' w2 hb; have y0 := hv2.cell 6; have y1 := hv2.cell 7; have y2 := hv2.cell 8; have f0 := hv2.frozen 6; have f1 := hv2.frozen 7; have f2 := hv2.frozen 8; simp only [List.getElem?_toArray, List.getElem?_cons_zero, List.getElem?_cons_succ] at y0 y1 y2; clear hd hv' x0 x1 x2)
      have hl := hv.lt
      have hg : W.grownBy w2 none := ⟨hb.os, hb.tape, hb.output, hb.size, fun k hk _ => hb.block k hk⟩
      have hv3 := blk3 (i := 6) (ds := #[.bool ag0, .slice X0 an0 c0, .int .i64 ae0, .bool ag1, .slice X1 an1 c1, .int .i64 ae1, .bool ag2, .slice Xo an2 co, .int .i64 ae2, .bool ag3, .slice X3 an3 c3, .int .i64 ae3]) hv2 (.bool ag2) (.slice Xo an2 co) (.int .i64 ae2) (by simp)
      have hsW : w.heap.size + 4 ≤ W.heap.size := h6.lt
      have ho2 := OwnR.far (OwnR.far (OwnR.far (ho.base_le hsW) (p := ⟨w.heap.size, 6, none⟩) (by simp) (.bool ag2)) (p := ⟨w.heap.size, 6 + 1, none⟩) (by simp) (.slice Xo an2 co)) (p := ⟨w.heap.size, 6 + 2, none⟩) (by simp) (.int .i64 ae2)
      have hmv : ∀ {n c c0 : Nat} {l : List Nat} {X0 X : Option Addr} {out out' : Prop}, StT W (w.heap.size + 4) n l X0 c0 out X c → (out → out') → StT (((w2.setCell ⟨w.heap.size, 6, none⟩ (.bool ag2)).setCell ⟨w.heap.size, 6 + 1, none⟩ (.slice Xo an2 co)).setCell ⟨w.heap.size, 6 + 2, none⟩ (.int .i64 ae2)) (w.heap.size + 4) n l X0 c0 out' X c := fun h hh => h.map (fun h => OwnR.far (OwnR.far (OwnR.far (h.below hb) (p := ⟨w.heap.size, 6, none⟩) (by simp) _) (p := ⟨w.heap.size, 6 + 1, none⟩) (by simp) _) (p := ⟨w.heap.size, 6 + 2, none⟩) (by simp) _) hh
      have hfar : ∀ {g : Nat} {t : TypeId} {cs : Array Value}, w.heap.size < g → Blk W g t cs → Blk (((w2.setCell ⟨w.heap.size, 6, none⟩ (.bool ag2)).setCell ⟨w.heap.size, 6 + 1, none⟩ (.slice Xo an2 co)).setCell ⟨w.heap.size, 6 + 2, none⟩ (.int .i64 ae2)) g t cs := fun hg h => (((h.below hb h.lt).far (p := ⟨w.heap.size, 6, none⟩) (by simp; omega) _).far (p := ⟨w.heap.size, 6 + 1, none⟩) (by simp; omega) _).far (p := ⟨w.heap.size, 6 + 2, none⟩) (by simp; omega) _
      have k5 := hfar (by omega) h5
      have k6 := hfar (by omega) h6
      refine ⟨((KeepsOthers.of_grownBy hg (fun j o e ho => by cases e)).trans (KeepsOthers.setCell _ _ _)).trans ((KeepsOthers.setCell _ _ _).trans (KeepsOthers.setCell _ _ _)), ⟨(k5.cell 0).trans (h5.cell 0).symm, (k6.cell 0).trans (h6.cell 0).symm⟩, ⟨⟨X0, c0, X1, c1, Xo, co, X3, c3, hv3, hmv s0 (fun h e => h ((List.mem_append.1 e).elim id (fun h => by simp at h))), hmv s1 (fun h e => h ((List.mem_append.1 e).elim id (fun h => by simp at h))), ⟨hco, .inl ho2⟩, hmv s3 (fun h e => h ((List.mem_append.1 e).elim id (fun h => by simp at h)))⟩, hfar (by omega) h1, k5, k6⟩, ?_⟩
      exact (((hW.trans (hb.mono hW.size)).setCell (p := ⟨w.heap.size, 6, none⟩) (Nat.le_refl _) _).setCell (p := ⟨w.heap.size, 6 + 1, none⟩) (Nat.le_refl _) _).setCell (p := ⟨w.heap.size, 6 + 2, none⟩) (Nat.le_refl _) _
    · have x0 := hv.cell 9
      have x1 := hv.cell 10
      have x2 := hv.cell 11
      simp only [List.getElem?_toArray, List.getElem?_cons_zero, List.getElem?_cons_succ] at x0 x1 x2
      obtain ⟨ea1, ea2, ea3, ea4, ra⟩ := gra.out.2.2.2
      have hr := s3.reads (c0' := 0) ra hW
      have hd := dtwin_any ag3 X3 an3 c3 ae3 m.a.ls ea3 (by rw [← ea3]; exact gsm.out.2.2.2) W hr
      clear ea1 ea2 ea3 ea4 ra hr
      have hv' := fun w' (h : Below W.heap.size W w') => hv.below h hv.lt
      gi_wp2_with (refine ⟨trivial, ?_⟩; gi_at_call 69; refine (CallsIn.inRound l (callsIn_wide.2 hd)).mono ?_; rintro e w2 ⟨Xo, co, rfl, hco, ho, hb⟩; have hv2 := hv' w2 hb; have y0 := hv2.cell 9; have y1 := hv2.cell 10; have y2 := hv2.cell 11; have f0 := hv2.frozen 9; have f1 := hv2.frozen 10; have f2 := hv2.frozen 11; simp only [List.getElem?_toArray, List.getElem?_cons_zero, List.getElem?_cons_succ] at y0 y1 y2; clear hd hv' x0 x1 x2)
      have hl := hv.lt
      have hg : W.grownBy w2 none := ⟨hb.os, hb.tape, hb.output, hb.size, fun k hk _ => hb.block k hk⟩
      have hv3 := blk3 (i := 9) (ds := #[.bool ag0, .slice X0 an0 c0, .int .i64 ae0, .bool ag1, .slice X1 an1 c1, .int .i64 ae1, .bool ag2, .slice X2 an2 c2, .int .i64 ae2, .bool ag3, .slice Xo an3 co, .int .i64 ae3]) hv2 (.bool ag3) (.slice Xo an3 co) (.int .i64 ae3) (by simp)
      have hsW : w.heap.size + 4 ≤ W.heap.size := h6.lt
      have ho2 := OwnR.far (OwnR.far (OwnR.far (ho.base_le hsW) (p := ⟨w.heap.size, 9, none⟩) (by simp) (.bool ag3)) (p := ⟨w.heap.size, 9 + 1, none⟩) (by simp) (.slice Xo an3 co)) (p := ⟨w.heap.size, 9 + 2, none⟩) (by simp) (.int .i64 ae3)
      have hmv : ∀ {n c c0 : Nat} {l : List Nat} {X0 X : Option Addr} {out out' : Prop}, StT W (w.heap.size + 4) n l X0 c0 out X c → (out → out') → StT (((w2.setCell ⟨w.heap.size, 9, none⟩ (.bool ag3)).setCell ⟨w.heap.size, 9 + 1, none⟩ (.slice Xo an3 co)).setCell ⟨w.heap.size, 9 + 2, none⟩ (.int .i64 ae3)) (w.heap.size + 4) n l X0 c0 out' X c := fun h hh => h.map (fun h => OwnR.far (OwnR.far (OwnR.far (h.below hb) (p := ⟨w.heap.size, 9, none⟩) (by simp) _) (p := ⟨w.heap.size, 9 + 1, none⟩) (by simp) _) (p := ⟨w.heap.size, 9 + 2, none⟩) (by simp) _) hh
      have hfar : ∀ {g : Nat} {t : TypeId} {cs : Array Value}, w.heap.size < g → Blk W g t cs → Blk (((w2.setCell ⟨w.heap.size, 9, none⟩ (.bool ag3)).setCell ⟨w.heap.size, 9 + 1, none⟩ (.slice Xo an3 co)).setCell ⟨w.heap.size, 9 + 2, none⟩ (.int .i64 ae3)) g t cs := fun hg h => (((h.below hb h.lt).far (p := ⟨w.heap.size, 9, none⟩) (by simp; omega) _).far (p := ⟨w.heap.size, 9 + 1, none⟩) (by simp; omega) _).far (p := ⟨w.heap.size, 9 + 2, none⟩) (by simp; omega) _
      have k5 := hfar (by omega) h5
      have k6 := hfar (by omega) h6
      refine ⟨((KeepsOthers.of_grownBy hg (fun j o e ho => by cases e)).trans (KeepsOthers.setCell _ _ _)).trans ((KeepsOthers.setCell _ _ _).trans (KeepsOthers.setCell _ _ _)), ⟨(k5.cell 0).trans (h5.cell 0).symm, (k6.cell 0).trans (h6.cell 0).symm⟩, ⟨⟨X0, c0, X1, c1, X2, c2, Xo, co, hv3, hmv s0 (fun h e => h ((List.mem_append.1 e).elim id (fun h => by simp at h))), hmv s1 (fun h e => h ((List.mem_append.1 e).elim id (fun h => by simp at h))), hmv s2 (fun h e => h ((List.mem_append.1 e).elim id (fun h => by simp at h))), ⟨hco, .inl ho2⟩⟩, hfar (by omega) h1, k5, k6⟩, ?_⟩
      exact (((hW.trans (hb.mono hW.size)).setCell (p := ⟨w.heap.size, 9, none⟩) (Nat.le_refl _) _).setCell (p := ⟨w.heap.size, 9 + 1, none⟩) (Nat.le_refl _) _).setCell (p := ⟨w.heap.size, 9 + 2, none⟩) (Nat.le_refl _) _
  case done =>
    rintro D ys W hD rfl ⟨⟨⟨X0, c0, X1, c1, X2, c2, X3, c3, hv, s0, s1, s2, s3⟩, h1, _, _⟩, hW⟩ hK
    have i0 := s0.1
    have i1 := s1.1
    have i2 := s2.1
    have i3 := s3.1
    have o0 := s0.2.elim id (fun h => absurd (by simp) h.1)
    have o1 := s1.2.elim id (fun h => absurd (by simp) h.1)
    have o2 := s2.2.elim id (fun h => absurd (by simp) h.1)
    have o3 := s3.2.elim id (fun h => absurd (by simp) h.1)
    have x0 := hv.cell 0
    have x1 := hv.cell 1
    have x2 := hv.cell 2
    have x3 := hv.cell 3
    have x4 := hv.cell 4
    have x5 := hv.cell 5
    have x6 := hv.cell 6
    have x7 := hv.cell 7
    have x8 := hv.cell 8
    have x9 := hv.cell 9
    have x10 := hv.cell 10
    have x11 := hv.cell 11
    have y0 := h1.cell 0
    have y1 := h1.cell 1
    have y2 := h1.cell 2
    have y3 := h1.cell 3
    have y4 := h1.cell 4
    have y5 := h1.cell 5
    have y6 := h1.cell 6
    have y7 := h1.cell 7
    have y8 := h1.cell 8
    have y9 := h1.cell 9
    have y10 := h1.cell 10
    have y11 := h1.cell 11
    have f0 := h1.frozen 0
    have f1 := h1.frozen 1
    have f2 := h1.frozen 2
    have f3 := h1.frozen 3
    have f4 := h1.frozen 4
    have f5 := h1.frozen 5
    have f6 := h1.frozen 6
    have f7 := h1.frozen 7
    have f8 := h1.frozen 8
    have f9 := h1.frozen 9
    have f10 := h1.frozen 10
    have f11 := h1.frozen 11
    simp only [List.getElem?_toArray, List.getElem?_cons_zero, List.getElem?_cons_succ] at x0 y0 x1 y1 x2 y2 x3 y3 x4 y4 x5 y5 x6 y6 x7 y7 x8 y8 x9 y9 x10 y10 x11 y11
    have hD' : w.heap.size + 4 ≤ D := by rw [gsz.out] at hD; exact hD
    have hDl : D < W.heap.size := (Array.getElem?_eq_some_iff.1 hK).1
    obtain ⟨W9, hW9⟩ : ∃ W9, W9 = (((((((((((W.setCell ⟨w.heap.size + 1, 0, none⟩ (.bool ag0)).setCell ⟨w.heap.size + 1, 1, none⟩ (.slice X0 an0 c0)).setCell ⟨w.heap.size + 1, 2, none⟩ (.int .i64 ae0)).setCell ⟨w.heap.size + 1, 3, none⟩ (.bool ag1)).setCell ⟨w.heap.size + 1, 4, none⟩ (.slice X1 an1 c1)).setCell ⟨w.heap.size + 1, 5, none⟩ (.int .i64 ae1)).setCell ⟨w.heap.size + 1, 6, none⟩ (.bool ag2)).setCell ⟨w.heap.size + 1, 7, none⟩ (.slice X2 an2 c2)).setCell ⟨w.heap.size + 1, 8, none⟩ (.int .i64 ae2)).setCell ⟨w.heap.size + 1, 9, none⟩ (.bool ag3)).setCell ⟨w.heap.size + 1, 10, none⟩ (.slice X3 an3 c3)).setCell ⟨w.heap.size + 1, 11, none⟩ (.int .i64 ae3) := ⟨_, rfl⟩
    have hK2 : W9.heap[D]? = some (.deferred (some [])) := by rw [hW9]; exact (KeepsOthers.setCell _ ⟨w.heap.size + 1, 11, none⟩ _).same D _ ((KeepsOthers.setCell _ ⟨w.heap.size + 1, 10, none⟩ _).same D _ ((KeepsOthers.setCell _ ⟨w.heap.size + 1, 9, none⟩ _).same D _ ((KeepsOthers.setCell _ ⟨w.heap.size + 1, 8, none⟩ _).same D _ ((KeepsOthers.setCell _ ⟨w.heap.size + 1, 7, none⟩ _).same D _ ((KeepsOthers.setCell _ ⟨w.heap.size + 1, 6, none⟩ _).same D _ ((KeepsOthers.setCell _ ⟨w.heap.size + 1, 5, none⟩ _).same D _ ((KeepsOthers.setCell _ ⟨w.heap.size + 1, 4, none⟩ _).same D _ ((KeepsOthers.setCell _ ⟨w.heap.size + 1, 3, none⟩ _).same D _ ((KeepsOthers.setCell _ ⟨w.heap.size + 1, 2, none⟩ _).same D _ ((KeepsOthers.setCell _ ⟨w.heap.size + 1, 1, none⟩ _).same D _ ((KeepsOthers.setCell _ ⟨w.heap.size + 1, 0, none⟩ _).same D _ (hK) rfl) rfl) rfl) rfl) rfl) rfl) rfl) rfl) rfl) rfl) rfl) rfl
    have B5 : Blk W9 (w.heap.size + 1) 26 #[.bool ag0, .slice X0 an0 c0, .int .i64 ae0, .bool ag1, .slice X1 an1 c1, .int .i64 ae1, .bool ag2, .slice X2 an2 c2, .int .i64 ae2, .bool ag3, .slice X3 an3 c3, .int .i64 ae3] := by rw [hW9]; exact blk12 h1 (.bool ag0) (.slice X0 an0 c0) (.int .i64 ae0) (.bool ag1) (.slice X1 an1 c1) (.int .i64 ae1) (.bool ag2) (.slice X2 an2 c2) (.int .i64 ae2) (.bool ag3) (.slice X3 an3 c3) (.int .i64 ae3)
    have B6 := B5.grown (grownBy_putObj' _ D (.deferred none)) (by simp; omega)
    have q0 := B6.cell 0
    have q1 := B6.cell 1
    have q2 := B6.cell 2
    have q3 := B6.cell 3
    have q4 := B6.cell 4
    have q5 := B6.cell 5
    have q6 := B6.cell 6
    have q7 := B6.cell 7
    have q8 := B6.cell 8
    have q9 := B6.cell 9
    have q10 := B6.cell 10
    have q11 := B6.cell 11
    simp only [List.getElem?_toArray, List.getElem?_cons_zero, List.getElem?_cons_succ] at q0 q1 q2 q3 q4 q5 q6 q7 q8 q9 q10 q11
    have hb9 : Below w.heap.size w W9 := by rw [hW9]; exact Below.setCell (p := ⟨w.heap.size + 1, 11, none⟩) (Below.setCell (p := ⟨w.heap.size + 1, 10, none⟩) (Below.setCell (p := ⟨w.heap.size + 1, 9, none⟩) (Below.setCell (p := ⟨w.heap.size + 1, 8, none⟩) (Below.setCell (p := ⟨w.heap.size + 1, 7, none⟩) (Below.setCell (p := ⟨w.heap.size + 1, 6, none⟩) (Below.setCell (p := ⟨w.heap.size + 1, 5, none⟩) (Below.setCell (p := ⟨w.heap.size + 1, 4, none⟩) (Below.setCell (p := ⟨w.heap.size + 1, 3, none⟩) (Below.setCell (p := ⟨w.heap.size + 1, 2, none⟩) (Below.setCell (p := ⟨w.heap.size + 1, 1, none⟩) (Below.setCell (p := ⟨w.heap.size + 1, 0, none⟩) (hW) (by simp) _) (by simp) _) (by simp) _) (by simp) _) (by simp) _) (by simp) _) (by simp) _) (by simp) _) (by simp) _) (by simp) _) (by simp) _) (by simp) _
    have hof : ∀ {n : Nat} {X : Option Addr} {xs : List Value}, OwnR W (w.heap.size + 4) 52 X n xs → OwnR W9 w.heap.size 52 X n xs := fun h => by rw [hW9]; exact OwnR.base_le (OwnR.far (p := ⟨w.heap.size + 1, 11, none⟩) (OwnR.far (p := ⟨w.heap.size + 1, 10, none⟩) (OwnR.far (p := ⟨w.heap.size + 1, 9, none⟩) (OwnR.far (p := ⟨w.heap.size + 1, 8, none⟩) (OwnR.far (p := ⟨w.heap.size + 1, 7, none⟩) (OwnR.far (p := ⟨w.heap.size + 1, 6, none⟩) (OwnR.far (p := ⟨w.heap.size + 1, 5, none⟩) (OwnR.far (p := ⟨w.heap.size + 1, 4, none⟩) (OwnR.far (p := ⟨w.heap.size + 1, 3, none⟩) (OwnR.far (p := ⟨w.heap.size + 1, 2, none⟩) (OwnR.far (p := ⟨w.heap.size + 1, 1, none⟩) (OwnR.far (p := ⟨w.heap.size + 1, 0, none⟩) (h) (by simp) _) (by simp) _) (by simp) _) (by simp) _) (by simp) _) (by simp) _) (by simp) _) (by simp) _) (by simp) _) (by simp) _) (by simp) _) (by simp) _) (by omega)
    clear B5 B6 hv h1 s0 s1 s2 s3
    gi_wp2
    rw [← hW9]
    refine ⟨by simp, .inl ⟨_, _, rfl, run_takeDeferred hK2, ?_⟩⟩
    have hrD : ∀ r, some D = some r → ∃ o : Obj, W9.heap[r]? = some o ∧ o.isCells = false := fun r e => by injection e with e; subst e; exact ⟨_, hK2, rfl⟩
    refine ⟨.agg #[.bool ag0, .slice X0 an0 c0, .int .i64 ae0, .bool ag1, .slice X1 an1 c1, .int .i64 ae1, .bool ag2, .slice X2 an2 c2, .int .i64 ae2, .bool ag3, .slice X3 an3 c3, .int .i64 ae3], ?_, X0, c0, X1, c1, X2, c2, X3, c3, rfl, ⟨i0, ownR_own (hof o0) (grownBy_putObj' _ D _) hrD⟩, ⟨i1, ownR_own (hof o1) (grownBy_putObj' _ D _) hrD⟩, ⟨i2, ownR_own (hof o2) (grownBy_putObj' _ D _) hrD⟩, ⟨i3, ownR_own (hof o3) (grownBy_putObj' _ D _) hrD⟩, hb9.trans (belowK_b (w := w) (Nat.le_refl _) _ D _ _ (by omega) hK2 rfl rfl)⟩
    simp [results, Try.f37, go_sem, q0, q1, q2, q3, q4, q5, q6, q7, q8, q9, q10, q11]
  case stop =>
    rintro D c pre W _ _ h _
    exact h.elim
end Go.Proofs.Ytjmhefkmpfkpbaa
