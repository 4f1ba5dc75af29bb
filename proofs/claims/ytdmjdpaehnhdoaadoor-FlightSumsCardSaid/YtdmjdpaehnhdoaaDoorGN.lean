/- Flight's Door: the reference's Twin of any mail -/
import Derived.Test.YtdmjdpaehnhdoaaDoorGLM
import Derived.Test.YtdmjdpaehnhdoaaDoorDF
import Derived.Test.YtdmjdpaehnhdoaaDoorLKM
namespace Go.Proofs.YtdmjdpaehnhdoaaDoor
open Go.ChangeShapes Go.WideShapes Go.ChangeAt Go.RowKit
set_option linter.unusedSimpArgs false
set_option linter.unusedVariables false
open Go.Shelf
theorem infoD : (Tryd.prog.info? 99).map (fun i => (i.zero, i.size, i.bytes)) = some (some (.agg #[.int .i64 0, .int .i64 0]), 2, 16) := by kernel_rfl
set_option maxRecDepth 100000
/-- Cells written in a row. -/
def setL (cs : Array Value) : Nat → List Value → Array Value
  | _, [] => cs
  | o, v :: r => setL (cs.setIfInBounds o v) (o + 1) r
theorem Blk.setL {g : Nat} {t : TypeId} : ∀ (vs : List Value) (o : Nat) (w : World) (cs : Array Value), Blk w g t cs → Blk (w.setCells g o vs) g t (setL cs o vs)
  | [], _, _, _, h => h
  | v :: r, o, w, cs, h => by rw [World.setCells]; exact Blk.setL r (o + 1) _ _ (h.set_ o v)
theorem OwM.setCells {g B : Nat} {o : MB} (hg : g < B) : ∀ (vs : List Value) (i : Nat) (w : World), OwM w B o → OwM (w.setCells g i vs) B o
  | [], _, _, h => h
  | v :: r, i, w, h => by rw [World.setCells]; exact OwM.setCells hg r (i + 1) _ (h.far (p := ⟨g, i, none⟩) hg v)
theorem own_row {w : World} {base size n : Nat} {e : TypeId} {v : Value} {xs : List Value} (h : w.ownsRow base e size v n xs) {k : Nat} (hk : k < base) (ds : Array Value) : (w.setRow k ds).ownsRow base e size v n xs :=
  ⟨h.1, h.2.imp id fun ⟨g, c, cur, e1, h1, h2, r⟩ => ⟨g, c, cur, e1, h1, Blk.setRow_far (show Blk w g e cur from h2) (by omega) ds, r⟩⟩
/-- A mail whose rows are a call's own. -/
def OwL (w : World) (B : Nat) (r : MO) : Prop := OwM w B (mO r) ∧ w.ownsRow B 99 2 (.slice r.D r.x.ds.length r.dc) r.x.ds.length (T2 r.x.ds) ∧ w.ownsRow B 71 1 (.slice r.L r.x.ls.length r.lc) r.x.ls.length (ints .u32 r.x.ls)
theorem OwL.below {w w' : World} {B : Nat} {r : MO} (h : OwL w B r) (hb : Below w.heap.size w w') : OwL w' B r := ⟨h.1.below hb, own_below h.2.1 hb, own_below h.2.2 hb⟩
theorem OwL.setRow {w : World} {B g : Nat} {r : MO} (h : OwL w B r) (hg : g < B) (ds : Array Value) : OwL (w.setRow g ds) B r := ⟨h.1.setRow2 hg ds, own_row h.2.1 hg ds, own_row h.2.2 hg ds⟩
theorem OwL.rd {w : World} {B : Nat} {r : MO} (h : OwL w B r) : rdL w w.heap.size r := ⟨OwM.rd h.1, ⟨rfl, Reads.of_own h.2.1⟩, Reads.of_own h.2.2⟩
theorem setL_mass (o : MO) (Y0 Y1 Y2 Y3 : Option Addr) (z0 z1 z2 z3 : Nat) : setL (mA o) 6 (oA ⟨o.x.give, Y0, z0, Y1, z1, Y2, z2, Y3, z3⟩).toList = mA ⟨o.x, Y0, z0, Y1, z1, Y2, z2, Y3, z3, o.D, o.dc, o.L, o.lc⟩ := by
  simp [setL]
set_option maxHeartbeats 16000000 in
theorem rltwin_any (o : MO) (hsm : smL o.x) (w : World) (hr : rdL w w.heap.size o) : Calls Tryd.prog 9 #[aggL o] w fun en w' => ∃ r : MO, r.x = o.x ∧ en = .returned (aggL r) ∧ OwL w' w.heap.size r ∧ Below w.heap.size w w' := by
  obtain ⟨V, hV⟩ : ∃ V, V = (w.alloc (.cells (mA o) 32)).alloc (.cells #[.int .u8 0, .int .i64 0, .int .i64 0, .int .i64 0, .int .i64 0, .int .i64 0, .bool false, .slice none 0 0, .int .i64 0, .bool false, .slice none 0 0, .int .i64 0, .bool false, .slice none 0 0, .int .i64 0, .bool false, .slice none 0 0, .int .i64 0, .bool false, .slice none 0 0, .bool false, .int .i64 0, .int .i64 0, .slice none 0 0] 32) := ⟨_, rfl⟩
  have hB : Below w.heap.size w V := by rw [hV]; exact ((Below.refl _ _).alloc (Nat.le_refl _) _).alloc (by simp) _
  have kb : Blk V w.heap.size 32 (mA o) := by rw [hV]; exact (Blk.new w _ _).alloc _
  have kr : Blk V (w.heap.size + 1) 32 #[.int .u8 0, .int .i64 0, .int .i64 0, .int .i64 0, .int .i64 0, .int .i64 0, .bool false, .slice none 0 0, .int .i64 0, .bool false, .slice none 0 0, .int .i64 0, .bool false, .slice none 0 0, .int .i64 0, .bool false, .slice none 0 0, .int .i64 0, .bool false, .slice none 0 0, .bool false, .int .i64 0, .int .i64 0, .slice none 0 0] := by rw [hV]; simpa using Blk.new (w.alloc (.cells (mA o) 32)) 32 #[.int .u8 0, .int .i64 0, .int .i64 0, .int .i64 0, .int .i64 0, .int .i64 0, .bool false, .slice none 0 0, .int .i64 0, .bool false, .slice none 0 0, .int .i64 0, .bool false, .slice none 0 0, .int .i64 0, .bool false, .slice none 0 0, .int .i64 0, .bool false, .slice none 0 0, .bool false, .int .i64 0, .int .i64 0, .slice none 0 0]
  change Calls Tryd.prog 9 #[.agg (mA o)] w _
  have hd5 := hsm.2.1
  have hl5 := hsm.2.2
  go_enter Tryd.func9, Tryd.ntmps9
  go_upto_region 1 with (fail)
  rename_i Q0 K1 k1
  rw [← hV]
  clear hV
  refine wp_region_lit ?_
  refine wpList_abs2 18 1 2 (.pointer (some ⟨w.heap.size, 0, none⟩)) (.pointer (some ⟨(w.heap.size + 1), 0, none⟩)) rfl rfl rfl rfl ?_
  intro a S
  refine sx1 1 S (.pointer (some ⟨w.heap.size, 6, none⟩)) (wantN rfl _) rfl (fun _ => rfl) (fun ev ec e => by go_simp; try rfl) ?_; intro a S
  refine sx1 3 S (.agg #[.bool o.x.give.s.neg, .slice o.X0 o.x.give.s.ls.length o.c0, .int .i64 o.x.give.s.ex, .bool o.x.give.w.neg, .slice o.X1 o.x.give.w.ls.length o.c1, .int .i64 o.x.give.w.ex, .bool o.x.give.c.neg, .slice o.X2 o.x.give.c.ls.length o.c2, .int .i64 o.x.give.c.ex, .bool o.x.give.a.neg, .slice o.X3 o.x.give.a.ls.length o.c3, .int .i64 o.x.give.a.ex]) (wantN rfl _) rfl (fun _ => rfl) (fun ev ec e => run_load_mid 27 _ rfl _ 6 e [.bool o.x.give.s.neg, .slice o.X0 o.x.give.s.ls.length o.c0, .int .i64 o.x.give.s.ex, .bool o.x.give.w.neg, .slice o.X1 o.x.give.w.ls.length o.c1, .int .i64 o.x.give.w.ex, .bool o.x.give.c.neg, .slice o.X2 o.x.give.c.ls.length o.c2, .int .i64 o.x.give.c.ex, .bool o.x.give.a.neg, .slice o.X3 o.x.give.a.ls.length o.c3, .int .i64 o.x.give.a.ex] _ (kb.range 6 _ rfl) Tryd.underlying27 rfl (by kernel_rfl)) ?_; intro a S
  refine sxK 4 S 31 (fun u w' => ∃ r : MB, r.m = o.x.give ∧ u = .agg (oA r) ∧ OwM w' V.heap.size r ∧ Below V.heap.size V w') rfl (fun ev ef e => by go_simp; try rfl) ((rmtwL o hsm V (hr.below hB hB.size)).mono (fun en w' ⟨r, h1, h2, h3⟩ => ⟨_, h2, r, h1, rfl, h3⟩)) ?_
  intro a w1 u ⟨r, hr1, hu, us, hb1⟩ S
  subst hu
  have s0 := hB.size
  have sr := kr.lt
  replace kb := kb.below hb1 kb.lt
  replace kr := kr.below hb1 kr.lt
  replace hB := hB.trans (hb1.mono hB.size)
  refine sx1 1 S (.pointer (some ⟨w.heap.size, 6, none⟩)) (wantN rfl _) rfl (fun _ => rfl) (fun ev ec e => by go_simp; try rfl) ?_; intro a S
  refine wpList_store_mid rfl 27 (.tmp 6) (.tmp 5) rfl w.heap.size 6 (oA r) (S.fx 6 _ rfl) (S.fx 5 _ rfl) (kb.there (by simp)) (by kernel_rfl) (by simp [Value.oneCell']) ?_
  replace S := S.none_ (v := undef)
  replace kb := Blk.setL (oA r).toList 6 _ _ kb
  replace kr := Blk.farCells (show w.heap.size + 1 ≠ w.heap.size by omega) (oA r).toList 6 _ _ kr
  replace hB := below_setCells (Nat.le_refl _) (oA r).toList 6 _ hB
  replace us := us.setCells (show w.heap.size < V.heap.size by omega) (oA r).toList 6
  obtain ⟨W2, hW2⟩ : ∃ W2, W2 = w1.setCells w.heap.size 6 (oA r).toList := ⟨_, rfl⟩
  rw [← hW2] at kb kr hB us ⊢
  clear hW2
  obtain ⟨m, Y0, z0, Y1, z1, Y2, z2, Y3, z3⟩ := r
  simp only at hr1
  subst hr1
  replace kb : Blk W2 w.heap.size 32 (mA ⟨o.x, Y0, z0, Y1, z1, Y2, z2, Y3, z3, o.D, o.dc, o.L, o.lc⟩) := by
    rw [← setL_mass o Y0 Y1 Y2 Y3 z0 z1 z2 z3]
    exact kb
  refine wpList_nil ?_
  refine k1 _ _ ?_
  refine wp_seq (wp_region_lit ?_)
  refine sxW S (.slice (some ⟨W2.heap.size, 0, none⟩) 0 0) (W2.alloc (.cells #[] 99)) (wantN rfl _) (by go_simp; try rfl) ?_; intro a S
  have hown3 : (W2.alloc (.cells #[] 99)).ownsRow W2.heap.size 99 2 (.slice (some ⟨W2.heap.size, 0, none⟩) 0 0) 0 [] := ⟨by simp, .inr ⟨W2.heap.size, 0, #[], rfl, Nat.le_refl _, heap_alloc_new W2 _, Nat.le_refl _, Nat.zero_le _, by simp, by simp⟩⟩
  have hb3 := (Below.refl W2.heap.size W2).alloc (Nat.le_refl _) (.cells #[] 99)
  have lt3 := kr.lt
  have ka := kb.alloc (.cells #[] 99)
  refine sx1 1 S (.pointer (some ⟨w.heap.size, 19, none⟩)) (wantN rfl _) rfl (fun _ => rfl) (fun ev ec e => by go_simp; try rfl) ?_; intro a S
  refine sx1 8 S (.slice o.D o.x.ds.length o.dc) (wantN rfl _) rfl (fun _ => rfl) (fun ev ec e => by have s0 := ka.cell 19; simp at s0; go_simp; try rfl) ?_; intro a S
  clear ka
  obtain ⟨i3, hi3, hz3, hy3, hw3⟩ := info_parts infoD
  refine wpList_append_any _ rfl (.tmp 7) (.tmp 9) 28 rfl W2.heap.size 99 i3 _ 2 16 Tryd.underlying28 hi3 hz3 hy3 hw3 rfl (by omega) (.slice (some ⟨W2.heap.size, 0, none⟩) 0 0) 0 [] (S.fx 7 _ rfl) hown3 w.heap.size o.D o.x.ds.length o.dc (T2 o.x.ds) (S.fx 9 _ rfl) ((hr.2.1.2.below hB).alloc hB.size _) (T2_one _) (by unfold maxLen; omega) (by omega) (by rw [World.size_alloc]; omega) ?_
  intro v3 w3 ho3 hg3 _
  rw [Nat.zero_add, List.nil_append] at ho3
  obtain ⟨A3, c3, rfl, hc3, _⟩ := own_slice ho3
  replace S := S.put (d := 10) (.slice A3 o.x.ds.length c3) (by decide)
  replace hb3 := hb3.grown hg3 (by rw [World.size_alloc]; omega) (fun g hq => by simp [Value.ownBlock] at hq; omega)
  replace kb := kb.below hb3 kb.lt
  replace kr := kr.below hb3 kr.lt
  replace hB := hB.trans (hb3.mono hB.size)
  refine sx1 1 S (.pointer (some ⟨w.heap.size, 19, none⟩)) (wantN rfl _) rfl (fun _ => rfl) (fun ev ec e => by go_simp; try rfl) ?_; intro a S
  have hf3 := kb.frozen 19
  have hz13 := kb.cell 19
  simp at hz13
  refine sxS (x := 11) (y := 10) S (w3.setCell ⟨w.heap.size, 19, none⟩ (.slice A3 o.x.ds.length c3)) rfl rfl (fun ev e e2 => by go_simp; try rfl) ?_
  clear hf3 hz13 hg3
  intro a S
  replace kb : Blk (w3.setCell ⟨w.heap.size, 19, none⟩ (.slice A3 o.x.ds.length c3)) w.heap.size 32 (mA ⟨o.x, Y0, z0, Y1, z1, Y2, z2, Y3, z3, A3, c3, o.L, o.lc⟩) := by have h := kb.set_ 19 (.slice A3 o.x.ds.length c3); simpa using h
  replace kr := kr.far (p := ⟨w.heap.size, 19, none⟩) (by simp) (.slice A3 o.x.ds.length c3)
  replace hB := hB.setCell (p := ⟨w.heap.size, 19, none⟩) (Nat.le_refl _) (.slice A3 o.x.ds.length c3)
  replace ho3 := own_set ho3 (p := ⟨w.heap.size, 19, none⟩) (show w.heap.size < W2.heap.size by omega) (.slice A3 o.x.ds.length c3)
  replace us := (us.below hb3).far (p := ⟨w.heap.size, 19, none⟩) (show w.heap.size < V.heap.size by omega) (.slice A3 o.x.ds.length c3)
  obtain ⟨W3, hW3⟩ : ∃ W3, W3 = w3.setCell ⟨w.heap.size, 19, none⟩ (.slice A3 o.x.ds.length c3) := ⟨_, rfl⟩
  rw [← hW3] at kb kr hB us ho3 ⊢
  clear hW3
  refine wpList_nil ?_
  show Code.wp _ _ _ _ _
  refine wp_seq (wp_region_lit ?_)
  refine sxW S (.slice (some ⟨W3.heap.size, 0, none⟩) 0 0) (W3.alloc (.cells #[] 71)) (wantN rfl _) (by go_simp; try rfl) ?_; intro a S
  have hown4 : (W3.alloc (.cells #[] 71)).ownsRow W3.heap.size 71 1 (.slice (some ⟨W3.heap.size, 0, none⟩) 0 0) 0 [] := ⟨by simp, .inr ⟨W3.heap.size, 0, #[], rfl, Nat.le_refl _, heap_alloc_new W3 _, Nat.le_refl _, Nat.zero_le _, by simp, by simp⟩⟩
  have hb4 := (Below.refl W3.heap.size W3).alloc (Nat.le_refl _) (.cells #[] 71)
  have lt4 := kr.lt
  have ka := kb.alloc (.cells #[] 71)
  refine sx1 1 S (.pointer (some ⟨w.heap.size, 23, none⟩)) (wantN rfl _) rfl (fun _ => rfl) (fun ev ec e => by go_simp; try rfl) ?_; intro a S
  refine sx1 13 S (.slice o.L o.x.ls.length o.lc) (wantN rfl _) rfl (fun _ => rfl) (fun ev ec e => by have s0 := ka.cell 23; simp at s0; go_simp; try rfl) ?_; intro a S
  clear ka
  obtain ⟨i4, hi4, hz4, hy4, hw4⟩ := info_parts infoU32
  refine wpList_append_any _ rfl (.tmp 12) (.tmp 14) 23 rfl W3.heap.size 71 i4 _ 1 4 Tryd.underlying23 hi4 hz4 hy4 hw4 rfl (by omega) (.slice (some ⟨W3.heap.size, 0, none⟩) 0 0) 0 [] (S.fx 12 _ rfl) hown4 w.heap.size o.L o.x.ls.length o.lc (ints .u32 o.x.ls) (S.fx 14 _ rfl) ((hr.2.2.below hB).alloc hB.size _) (ints_one _ _) (by unfold maxLen; omega) (by omega) (by rw [World.size_alloc]; omega) ?_
  intro v4 w4 ho4 hg4 _
  rw [Nat.zero_add, List.nil_append] at ho4
  obtain ⟨A4, c4, rfl, hc4, _⟩ := own_slice ho4
  replace S := S.put (d := 15) (.slice A4 o.x.ls.length c4) (by decide)
  replace hb4 := hb4.grown hg4 (by rw [World.size_alloc]; omega) (fun g hq => by simp [Value.ownBlock] at hq; omega)
  replace kb := kb.below hb4 kb.lt
  replace kr := kr.below hb4 kr.lt
  replace hB := hB.trans (hb4.mono hB.size)
  refine sx1 1 S (.pointer (some ⟨w.heap.size, 23, none⟩)) (wantN rfl _) rfl (fun _ => rfl) (fun ev ec e => by go_simp; try rfl) ?_; intro a S
  have hf4 := kb.frozen 23
  have hz14 := kb.cell 23
  simp at hz14
  refine sxS (x := 16) (y := 15) S (w4.setCell ⟨w.heap.size, 23, none⟩ (.slice A4 o.x.ls.length c4)) rfl rfl (fun ev e e2 => by go_simp; try rfl) ?_
  clear hf4 hz14 hg4
  intro a S
  replace kb : Blk (w4.setCell ⟨w.heap.size, 23, none⟩ (.slice A4 o.x.ls.length c4)) w.heap.size 32 (mA ⟨o.x, Y0, z0, Y1, z1, Y2, z2, Y3, z3, A3, c3, A4, c4⟩) := by have h := kb.set_ 23 (.slice A4 o.x.ls.length c4); simpa using h
  replace kr := kr.far (p := ⟨w.heap.size, 23, none⟩) (by simp) (.slice A4 o.x.ls.length c4)
  replace hB := hB.setCell (p := ⟨w.heap.size, 23, none⟩) (Nat.le_refl _) (.slice A4 o.x.ls.length c4)
  replace ho4 := own_set ho4 (p := ⟨w.heap.size, 23, none⟩) (show w.heap.size < W3.heap.size by omega) (.slice A4 o.x.ls.length c4)
  replace us := (us.below hb4).far (p := ⟨w.heap.size, 23, none⟩) (show w.heap.size < V.heap.size by omega) (.slice A4 o.x.ls.length c4)
  replace ho3 := own_set (own_below ho3 hb4) (p := ⟨w.heap.size, 23, none⟩) (show w.heap.size < W2.heap.size by omega) (.slice A4 o.x.ls.length c4)
  obtain ⟨W4, hW4⟩ : ∃ W4, W4 = w4.setCell ⟨w.heap.size, 23, none⟩ (.slice A4 o.x.ls.length c4) := ⟨_, rfl⟩
  rw [← hW4] at kb kr hB us ho3 ho4 ⊢
  clear hW4
  refine wpList_nil ?_
  show Code.wp _ _ _ _ _
  refine wp_seq (wp_region_lit ?_)
  refine wpList_load_row rfl 32 (.tmp 1) rfl w.heap.size (S.fx 1 _ rfl) 32 (mA ⟨o.x, Y0, z0, Y1, z1, Y2, z2, Y3, z3, A3, c3, A4, c4⟩) (0, 0) _ ?_ Tryd.underlying32 rfl (by kernel_rfl) ?_
  exact kb.row
  replace S := S.put (d := 17) (.agg (mA ⟨o.x, Y0, z0, Y1, z1, Y2, z2, Y3, z3, A3, c3, A4, c4⟩)) (by decide)
  refine wpList_store_row rfl 32 (.tmp 2) (.tmp 17) rfl (w.heap.size + 1) (mA ⟨o.x, Y0, z0, Y1, z1, Y2, z2, Y3, z3, A3, c3, A4, c4⟩) (S.fx 2 _ rfl) (S.fx 17 _ rfl) 32 _ kr.row (by kernel_rfl) rfl (by simp [Value.oneCell']) ?_
  replace S := S.none_ (v := undef)
  have kz := kr.setRow (mA ⟨o.x, Y0, z0, Y1, z1, Y2, z2, Y3, z3, A3, c3, A4, c4⟩)
  refine wpList_nil ?_
  show Code.wp _ _ _ _ _
  refine wp_ret ?_
  change Q0 .ret _ _
  refine bodyPost_ret (results_cell_row rfl _ _ (w.heap.size + 1) 32 (mA ⟨o.x, Y0, z0, Y1, z1, Y2, z2, Y3, z3, A3, c3, A4, c4⟩) (0, 0) _ (S.fx 2 _ rfl) kz.row Tryd.underlying32 rfl (by kernel_rfl)) S.df ?_
  have hlt := kr.lt
  have hBz := below_setRow (g := w.heap.size + 1) hB (by omega) (mA ⟨o.x, Y0, z0, Y1, z1, Y2, z2, Y3, z3, A3, c3, A4, c4⟩)
  have hus := us.setRow2 (g := w.heap.size + 1) (by omega) (mA ⟨o.x, Y0, z0, Y1, z1, Y2, z2, Y3, z3, A3, c3, A4, c4⟩)
  exact ⟨⟨o.x, Y0, z0, Y1, z1, Y2, z2, Y3, z3, A3, c3, A4, c4⟩, rfl, rfl, ⟨hus.base_le (by omega), own_base_le (own_row ho3 (show w.heap.size + 1 < W2.heap.size by omega) _) (by omega), own_base_le (own_row ho4 (show w.heap.size + 1 < W3.heap.size by omega) _) (by omega)⟩, hBz⟩
end Go.Proofs.YtdmjdpaehnhdoaaDoor
