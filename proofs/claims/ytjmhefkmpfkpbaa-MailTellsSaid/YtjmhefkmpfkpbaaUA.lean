/- Mail: the reference's number and dyad -/
import Derived.Test.YtjmhefkmpfkpbaaFT
import Derived.Test.YtjmhefkmpfkpbaaGX
import Derived.Test.YtjmhefkmpfkpbaaKA
import Derived.Test.YtjmhefkmpfkpbaaZRefTakeO
import Derived.Test.YtjmhefkmpfkpbaaZPPR
namespace Go.Proofs.Ytjmhefkmpfkpbaa
open Go.ChangeShapes Go.WideShapes Go.ChangeAt Go.RowKit
set_option linter.unusedSimpArgs false
set_option linter.unusedVariables false
set_option maxRecDepth 100000
theorem ret_ct {P : Program} {fn : Func} {p u : Tmp} {t : TypeId} (h : fn.results = #[.cell p t, .tmp u]) (tmps : Array Value) (w : World) (r : Nat) (cs : Array Value) (v : Value) (hp : tmps.getD p undef = .pointer (some ⟨r, 0, none⟩)) (hv : tmps.getD u undef = v) (hk : Blk w r t cs) {fs : Array Field} (hu : P.underlying t = some (.struct fs)) (hs : (P.info? t).map (·.size) = some cs.size) : (results fn tmps).run P w = .ok (.tuple #[.agg cs, v]) w := by
  rw [results_cell_tmp h, hp, hv]
  have := run_loadVar_row (P := P) w r t t cs (0, 0) _ hk hu rfl hs
  simp [asAddr, Result.andThen, this]
theorem own_rowU {w : World} {base size n : Nat} {e : TypeId} {v : Value} {xs : List Value} (h : w.ownsRow base e size v n xs) {k : Nat} (hk : k < base) (ds : Array Value) : (w.setRow k ds).ownsRow base e size v n xs :=
  ⟨h.1, h.2.imp id fun ⟨g, c, cur, e1, h1, h2, r⟩ => ⟨g, c, cur, e1, h1, Blk.setRow_far (show Blk w g e cur from h2) (by omega) ds, r⟩⟩
theorem own_base_leU {w : World} {b base size n : Nat} {e : TypeId} {v : Value} {xs : List Value} (h : w.ownsRow base e size v n xs) (hb : b ≤ base) : w.ownsRow b e size v n xs :=
  ⟨h.1, h.2.imp id fun ⟨g, c, cur, e1, h1, r⟩ => ⟨g, c, cur, e1, Nat.le_trans hb h1, r⟩⟩
theorem ret_cc2 {P : Program} {fn : Func} {p q : Tmp} {t u : TypeId} (h : fn.results = #[.cell p t, .cell q u]) (tmps : Array Value) (w : World) (r g : Nat) (cs ds : Array Value) (hp : tmps.getD p undef = .pointer (some ⟨r, 0, none⟩)) (hq : tmps.getD q undef = .pointer (some ⟨g, 0, none⟩)) (hk : Blk w r t cs) (hl : Blk w g u ds) {fs gs : Array Field} (hu : P.underlying t = some (.struct fs)) (hs : (P.info? t).map (·.size) = some cs.size) (hu2 : P.underlying u = some (.struct gs)) (hs2 : (P.info? u).map (·.size) = some ds.size) : (results fn tmps).run P w = .ok (.tuple #[.agg cs, .agg ds]) w := by
  have h1 := run_loadVar_row (P := P) w r t t cs (0, 0) _ hk hu rfl hs
  have h2 := run_loadVar_row (P := P) w g u u ds (0, 0) _ hl hu2 rfl hs2
  rw [Array.getD_eq_getD_getElem?] at hp hq
  simp only [results, h]
  simp [Sem.run_bind, Result.andThen, hp, hq, h1, h2, asAddr]
set_option maxHeartbeats 8000000 in
theorem rnumW (A A2 : Option Addr) (n n2 c c2 : Nat) (p p2 s v e : Int) (ok : Bool) (hv : 0 ≤ v ∧ v < 9223372036854775808) (w : World)
    (hc : ∀ w', Below w.heap.size w w' → Calls Try.prog 93 #[.agg #[.slice A n c, .int .i64 p], .int .i64 s] w' fun en w'' => en = .returned (.tuple #[.agg #[.slice A2 n2 c2, .int .i64 p2], .int .u64 v, .int .i64 e]) ∧ Below w'.heap.size w' w'') :
    Calls Try.prog 71 #[.agg #[.slice A n c, .int .i64 p, .bool ok], .int .i64 s] w fun en w' => en = .returned (.tuple #[.agg #[.slice A2 n2 c2, .int .i64 p2, .bool (ok && (e == 0))], .int .i64 v]) ∧ Below w.heap.size w w' := by
  obtain ⟨V, hV⟩ : ∃ V, V = (w.alloc (.cells #[.slice A n c, .int .i64 p, .bool ok] 110)).alloc (.cells #[.slice none 0 0, .int .i64 0, .bool false] 110) := ⟨_, rfl⟩
  have hB : Below w.heap.size w V := by rw [hV]; exact ((Below.refl _ _).alloc (Nat.le_refl _) _).alloc (by simp) _
  have kx : Blk V w.heap.size 110 #[.slice A n c, .int .i64 p, .bool ok] := by rw [hV]; exact (Blk.new w _ _).alloc _
  have kr : Blk V (w.heap.size + 1) 110 #[.slice none 0 0, .int .i64 0, .bool false] := by rw [hV]; simpa using Blk.new (w.alloc (.cells #[.slice A n c, .int .i64 p, .bool ok] 110)) 110 #[.slice none 0 0, .int .i64 0, .bool false]
  have hw : IntKind.i64.wrap v = v := IntWalk.i64_in _ (by omega)
  go_enter Try.func71, Try.ntmps71
  go_upto_region 1 with (fail)
  rename_i Q0 K1 k1
  rw [← hV]
  clear hV
  refine wp_region_lit ?_
  refine wpList_sx (l := [(1, gv true (.int .i64 s)), (2, gv true (.pointer (some ⟨w.heap.size, 0, none⟩))), (4, gv true (.pointer (some ⟨(w.heap.size + 1), 0, none⟩)))]) 27 rfl rfl (allC rfl (allC rfl (allC rfl allN))) ?_
  intro a S
  refine sx1 2 S (.pointer (some ⟨w.heap.size, 0, none⟩)) (wantN rfl _) rfl (fun _ => rfl) (fun ev ec e => by go_simp; try rfl) ?_; intro a S
  refine sx1 10 S (.agg #[.slice A n c, .int .i64 p]) (wantN rfl _) rfl (fun _ => rfl) (fun ev ec e => run_load_mid 67 _ rfl _ 0 e [.slice A n c, .int .i64 p] _ (kx.range 0 _ rfl) Try.underlying67 rfl (by kernel_rfl)) ?_; intro a S
  refine sxMv S (wantN rfl _) rfl (fun _ => rfl) ?_; intro a S
  refine sxC2 11 12 S 93 (.tuple #[.agg #[.slice A2 n2 c2, .int .i64 p2], .int .u64 v, .int .i64 e]) (wantN rfl _) rfl rfl (fun _ => rfl) (fun _ => rfl) (fun ev ef e e2 => by go_simp; try rfl) (hc V hB) ?_
  intro a v1 hb S
  have kx1 := kx.below hb kx.lt
  have kr1 := kr.below hb kr.lt
  have hB1 := hB.trans (hb.mono hB.size)
  refine sxMv S (wantN rfl _) rfl (fun _ => rfl) ?_; intro a S
  refine sx1 9 S (.agg #[.slice A2 n2 c2, .int .i64 p2]) (wantN rfl _) rfl (fun _ => rfl) (fun ev ec e => by go_simp; try rfl) ?_; intro a S
  refine sx1 9 S (.int .u64 v) (wantN rfl _) rfl (fun _ => rfl) (fun ev ec e => by go_simp; try rfl) ?_; intro a S
  refine sx1 9 S (.int .i64 e) (wantN rfl _) rfl (fun _ => rfl) (fun ev ec e => by go_simp; try rfl) ?_; intro a S
  refine sxW S (.pointer (some ⟨v1.heap.size, 0, none⟩)) (v1.alloc (.cells #[.slice none 0 0, .int .i64 0] 67)) (wantN rfl _) (by go_simp; try rfl) ?_; intro a S
  refine wpList_store_row rfl 67 (.tmp 6) (.tmp 14) rfl v1.heap.size #[.slice A2 n2 c2, .int .i64 p2] (S.fx 6 _ rfl) (S.fx 14 _ rfl) 67 #[.slice none 0 0, .int .i64 0] (Blk.new v1 67 #[.slice none 0 0, .int .i64 0]).row (by kernel_rfl) rfl (by simp [Value.oneCell']) ?_
  replace S := S.none_ (v := undef)
  have k6 := (Blk.new v1 67 #[.slice none 0 0, .int .i64 0]).setRow #[.slice A2 n2 c2, .int .i64 p2]
  have hb2 := below_setRow (g := v1.heap.size) ((Below.refl v1.heap.size v1).alloc (Nat.le_refl _) (.cells #[.slice none 0 0, .int .i64 0] 67)) (Nat.le_refl _) #[.slice A2 n2 c2, .int .i64 p2]
  obtain ⟨v2, hw2⟩ : ∃ W, W = (v1.alloc (.cells #[.slice none 0 0, .int .i64 0] 67)).setRow v1.heap.size #[.slice A2 n2 c2, .int .i64 p2] := ⟨_, rfl⟩
  rw [← hw2] at k6 hb2 ⊢
  clear hw2
  have kx2 := kx1.below hb2 kx1.lt
  have kr2 := kr1.below hb2 kr1.lt
  have hB2 := hB1.trans (hb2.mono hB1.size)
  refine sx1 15 S (.int .u64 v) (wantN rfl _) rfl (fun _ => rfl) (fun ev ec e => by go_simp; try rfl) ?_; intro a S
  refine sx1 16 S (.int .i64 e) (wantN rfl _) rfl (fun _ => rfl) (fun ev ec e => by go_simp; try rfl) ?_; intro a S
  refine wpList_nil ?_
  refine k1 _ _ ?_
  refine wp_seq (wp_region_lit ?_)
  refine sx1 6 S (.agg #[.slice A2 n2 c2, .int .i64 p2]) (wantN rfl _) rfl (fun _ => rfl) (fun ev ec e => run_load_row 67 _ rfl _ e #[.slice A2 n2 c2, .int .i64 p2] 67 _ k6 Try.underlying67 rfl (by kernel_rfl)) ?_; intro a S
  refine qF (fun a S => ?_); refine qL kx2 (fun a S => ?_); refine qMv (fun a S => ?_); refine qMv (fun a S => ?_); refine qEql (fun a S => ?_); refine qAnd (fun a S => ?_)
  refine sx2 17 23 S (.agg #[.slice A2 n2 c2, .int .i64 p2, .bool (ok && (e == 0))]) (wantN rfl _) rfl rfl (fun _ => rfl) (fun _ => rfl) (fun ev ec e e2 => by go_simp; try rfl) ?_; intro a S
  refine qMv (fun a S => ?_)
  refine sx1 25 S (.int .i64 v) (wantN rfl _) rfl (fun _ => rfl) (fun ev ec e => by go_simp; first | done | rfl | (rw [hw])) ?_; intro a S
  refine wpList_store_row rfl 110 (.tmp 4) (.tmp 24) rfl (w.heap.size + 1) #[.slice A2 n2 c2, .int .i64 p2, .bool (ok && (e == 0))] (S.fx 4 _ rfl) (S.fx 24 _ rfl) 110 _ kr2.row (by kernel_rfl) rfl (by simp [Value.oneCell']) ?_
  replace S := S.none_ (v := undef)
  have kz := kr2.setRow #[.slice A2 n2 c2, .int .i64 p2, .bool (ok && (e == 0))]
  have hBz := below_setRow (g := w.heap.size + 1) hB2 (by omega) #[.slice A2 n2 c2, .int .i64 p2, .bool (ok && (e == 0))]
  refine sx1 26 S (.int .i64 v) (wantN rfl _) rfl (fun _ => rfl) (fun ev ec e => by go_simp; try rfl) ?_; intro a S
  refine wpList_nil ?_
  show Code.wp _ _ _ _ _
  refine wp_ret ?_
  change Q0 .ret _ _
  refine bodyPost_ret (ret_ct rfl _ _ (w.heap.size + 1) #[.slice A2 n2 c2, .int .i64 p2, .bool (ok && (e == 0))] (.int .i64 v) (S.fx 4 _ rfl) (S.fx 5 _ rfl) kz Try.underlying110 (by kernel_rfl)) S.df ⟨rfl, hBz⟩
set_option maxHeartbeats 8000000 in
theorem rdyadW (A A2 : Option Addr) (n n2 c c2 dm : Nat) (p p2 de e : Int) (ok dn : Bool) (xs : List Value) (w : World)
    (hc : ∀ w', Below w.heap.size w w' → Calls Try.prog 94 #[.agg #[.slice A n c, .int .i64 p]] w' fun en w'' => ∃ dX dc, en = .returned (.tuple #[.agg #[.slice A2 n2 c2, .int .i64 p2], .agg #[.bool dn, .slice dX dm dc, .int .i64 de], .int .i64 e]) ∧ w''.ownsRow w'.heap.size 52 1 (.slice dX dm dc) dm xs ∧ Below w'.heap.size w' w'') :
    Calls Try.prog 72 #[.agg #[.slice A n c, .int .i64 p, .bool ok]] w fun en w' => ∃ dX dc, en = .returned (.tuple #[.agg #[.slice A2 n2 c2, .int .i64 p2, .bool (ok && (e == 0))], .agg #[.bool dn, .slice dX dm dc, .int .i64 de]]) ∧ w'.ownsRow w.heap.size 52 1 (.slice dX dm dc) dm xs ∧ Below w.heap.size w w' := by
  obtain ⟨V, hV⟩ : ∃ V, V = ((w.alloc (.cells #[.slice A n c, .int .i64 p, .bool ok] 110)).alloc (.cells #[.slice none 0 0, .int .i64 0, .bool false] 110)).alloc (.cells #[.bool false, .slice none 0 0, .int .i64 0] 24) := ⟨_, rfl⟩
  have hB : Below w.heap.size w V := by rw [hV]; exact (((Below.refl _ _).alloc (Nat.le_refl _) _).alloc (by simp) _).alloc (by simp only [World.size_alloc]; omega) _
  have kx : Blk V w.heap.size 110 #[.slice A n c, .int .i64 p, .bool ok] := by rw [hV]; exact ((Blk.new w _ _).alloc _).alloc _
  have kr : Blk V (w.heap.size + 1) 110 #[.slice none 0 0, .int .i64 0, .bool false] := by rw [hV]; have h := (Blk.new (w.alloc (.cells #[.slice A n c, .int .i64 p, .bool ok] 110)) 110 #[.slice none 0 0, .int .i64 0, .bool false]).alloc (.cells #[.bool false, .slice none 0 0, .int .i64 0] 24); rw [World.size_alloc] at h; exact h
  have kd : Blk V (w.heap.size + 1 + 1) 24 #[.bool false, .slice none 0 0, .int .i64 0] := by rw [hV]; have h := Blk.new ((w.alloc (.cells #[.slice A n c, .int .i64 p, .bool ok] 110)).alloc (.cells #[.slice none 0 0, .int .i64 0, .bool false] 110)) 24 #[.bool false, .slice none 0 0, .int .i64 0]; rw [World.size_alloc, World.size_alloc] at h; exact h
  go_enter Try.func72, Try.ntmps72
  go_upto_region 1 with (fail)
  rename_i Q0 K1 k1
  rw [← hV]
  clear hV
  refine wp_region_lit ?_
  refine wpList_sx (l := [(1, gv true (.pointer (some ⟨w.heap.size, 0, none⟩))), (2, gv true (.pointer (some ⟨(w.heap.size + 1), 0, none⟩))), (3, gv true (.pointer (some ⟨(w.heap.size + 1 + 1), 0, none⟩)))]) 23 rfl rfl (allC rfl (allC rfl (allC rfl allN))) ?_
  intro a S
  refine sx1 1 S (.pointer (some ⟨w.heap.size, 0, none⟩)) (wantN rfl _) rfl (fun _ => rfl) (fun ev ec e => by go_simp; try rfl) ?_; intro a S
  refine sx1 8 S (.agg #[.slice A n c, .int .i64 p]) (wantN rfl _) rfl (fun _ => rfl) (fun ev ec e => run_load_mid 67 _ rfl _ 0 e [.slice A n c, .int .i64 p] _ (kx.range 0 _ rfl) Try.underlying67 rfl (by kernel_rfl)) ?_; intro a S
  refine sxK 9 S 94 (fun u w' => ∃ dX dc, u = .tuple #[.agg #[.slice A2 n2 c2, .int .i64 p2], .agg #[.bool dn, .slice dX dm dc, .int .i64 de], .int .i64 e] ∧ w'.ownsRow V.heap.size 52 1 (.slice dX dm dc) dm xs ∧ Below V.heap.size V w') rfl (fun ev ef e => by go_simp; try rfl) ((hc V hB).mono (fun en w' ⟨dX, dc, h1, h2⟩ => ⟨_, h1, dX, dc, rfl, h2⟩)) ?_
  intro a v1 u ⟨dX, dc, hu, hR1, hb⟩ S
  subst hu
  have kx1 := kx.below hb kx.lt
  have kr1 := kr.below hb kr.lt
  have kd1 := kd.below hb kd.lt
  have hB1 := hB.trans (hb.mono hB.size)
  refine sxMv S (wantN rfl _) rfl (fun _ => rfl) ?_; intro a S
  refine sx1 7 S (.agg #[.slice A2 n2 c2, .int .i64 p2]) (wantN rfl _) rfl (fun _ => rfl) (fun ev ec e => by go_simp; try rfl) ?_; intro a S
  refine sx1 7 S (.agg #[.bool dn, .slice dX dm dc, .int .i64 de]) (wantN rfl _) rfl (fun _ => rfl) (fun ev ec e => by go_simp; try rfl) ?_; intro a S
  refine sx1 7 S (.int .i64 e) (wantN rfl _) rfl (fun _ => rfl) (fun ev ec e => by go_simp; try rfl) ?_; intro a S
  refine sxW S (.pointer (some ⟨v1.heap.size, 0, none⟩)) (v1.alloc (.cells #[.slice none 0 0, .int .i64 0] 67)) (wantN rfl _) (by go_simp; try rfl) ?_; intro a S
  have hbA := (Below.refl v1.heap.size v1).alloc (Nat.le_refl _) (.cells #[.slice none 0 0, .int .i64 0] 67)
  have kA := Blk.new v1 67 #[.slice none 0 0, .int .i64 0]
  obtain ⟨v2, hw2⟩ : ∃ W, W = v1.alloc (.cells #[.slice none 0 0, .int .i64 0] 67) := ⟨_, rfl⟩
  rw [← hw2] at hbA kA ⊢
  clear hw2
  refine sxW S (.pointer (some ⟨v2.heap.size, 0, none⟩)) (v2.alloc (.cells #[.bool false, .slice none 0 0, .int .i64 0] 24)) (wantN rfl _) (by go_simp; try rfl) ?_; intro a S
  have hbD := hbA.alloc hbA.size (.cells #[.bool false, .slice none 0 0, .int .i64 0] 24)
  have l8 : v1.heap.size ≤ v2.heap.size := hbA.size
  have kD := Blk.new v2 24 #[.bool false, .slice none 0 0, .int .i64 0]
  have kA2 := kA.alloc (.cells #[.bool false, .slice none 0 0, .int .i64 0] 24)
  have hne : v1.heap.size ≠ v2.heap.size := by have := kA.lt; omega
  obtain ⟨v3, hw3⟩ : ∃ W, W = v2.alloc (.cells #[.bool false, .slice none 0 0, .int .i64 0] 24) := ⟨_, rfl⟩
  rw [← hw3] at hbD kD kA2 ⊢
  clear hw3
  refine wpList_store_row rfl 67 (.tmp 4) (.tmp 11) rfl v1.heap.size #[.slice A2 n2 c2, .int .i64 p2] (S.fx 4 _ rfl) (S.fx 11 _ rfl) 67 #[.slice none 0 0, .int .i64 0] kA2.row (by kernel_rfl) rfl (by simp [Value.oneCell']) ?_
  replace S := S.none_ (v := undef)
  have kD2 := kD.setRow_far (k := v1.heap.size) (Ne.symm hne) #[.slice A2 n2 c2, .int .i64 p2]
  refine wpList_store_row rfl 24 (.tmp 5) (.tmp 12) rfl v2.heap.size #[.bool dn, .slice dX dm dc, .int .i64 de] (S.fx 5 _ rfl) (S.fx 12 _ rfl) 24 #[.bool false, .slice none 0 0, .int .i64 0] kD2.row (by kernel_rfl) rfl (by simp [Value.oneCell']) ?_
  replace S := S.none_ (v := undef)
  have k4 := (kA2.setRow #[.slice A2 n2 c2, .int .i64 p2]).setRow_far (k := v2.heap.size) hne #[.bool dn, .slice dX dm dc, .int .i64 de]
  have k5 := kD2.setRow #[.bool dn, .slice dX dm dc, .int .i64 de]
  have hb2 := below_setRow (g := v2.heap.size) (below_setRow (g := v1.heap.size) hbD (Nat.le_refl _) #[.slice A2 n2 c2, .int .i64 p2]) hbA.size #[.bool dn, .slice dX dm dc, .int .i64 de]
  obtain ⟨v4, hw4⟩ : ∃ W, W = (v3.setRow v1.heap.size #[.slice A2 n2 c2, .int .i64 p2]).setRow v2.heap.size #[.bool dn, .slice dX dm dc, .int .i64 de] := ⟨_, rfl⟩
  rw [← hw4] at k4 k5 hb2 ⊢
  clear hw4 kD2 kA2 kA kD hbA hbD
  have kx2 := kx1.below hb2 kx1.lt
  have kr2 := kr1.below hb2 kr1.lt
  have kd2 := kd1.below hb2 kd1.lt
  have hR2 := own_below hR1 hb2
  have hB2 := hB1.trans (hb2.mono hB1.size)
  refine sx1 13 S (.int .i64 e) (wantN rfl _) rfl (fun _ => rfl) (fun ev ec e => by go_simp; try rfl) ?_; intro a S
  refine wpList_nil ?_
  refine k1 _ _ ?_
  refine wp_seq ?_
  refine wp_region_noPanic ?_
  refine wp_region_held_drew (S := fun w' => Blk w' v1.heap.size 67 #[.slice A2 n2 c2, .int .i64 p2] ∧ Blk w' w.heap.size 110 #[.slice A n c, .int .i64 p, .bool ok] ∧ Blk w' v2.heap.size 24 #[.bool dn, .slice dX dm dc, .int .i64 de]) (by kernel_rfl) ⟨k4.drew, kx2.drew, k5.drew⟩ (fun hS => ?_)
  refine hx1 4 S (.agg #[.slice A2 n2 c2, .int .i64 p2]) (i := 0) rfl rfl (fun w' hw ev ec e => run_load_row 67 _ rfl _ e #[.slice A2 n2 c2, .int .i64 p2] 67 _ hw.1 Try.underlying67 rfl (by kernel_rfl)) hS ?_ (by kernel_rfl) (by kernel_rfl) (by kernel_rfl); intro a S
  refine hx1 1 S (.pointer (some ⟨w.heap.size, 2, none⟩)) (i := 1) rfl rfl (fun w' hw ev ec e => by go_simp; try rfl) hS ?_ (by kernel_rfl) (by kernel_rfl) (by kernel_rfl); intro a S
  refine hx1 15 S (.bool ok) (i := 2) rfl rfl (fun w' hw ev ec e => by have s0 := hw.2.1.cell 2; simp at s0; go_simp; try rfl) hS ?_ (by kernel_rfl) (by kernel_rfl) (by kernel_rfl); intro a S
  refine hx1 16 S (.bool ok) (i := 3) rfl rfl (fun w' hw ev ec e => by go_simp; try rfl) hS ?_ (by kernel_rfl) (by kernel_rfl) (by kernel_rfl); intro a S
  refine hxG 6 S (.int .i64 e) (i := 4) rfl (wG S rfl rfl (by decide) rfl) rfl (fun _ => rfl) (fun w' hw ev ec e => by go_simp; try rfl) hS ?_ (by kernel_rfl) (by kernel_rfl) (by kernel_rfl); intro a S
  refine hxG 18 S (.bool (e == 0)) (i := 5) rfl (wG S rfl rfl (by decide) rfl) rfl id (fun w' hw ev ec e => by go_simp; try rfl) hS ?_ (by kernel_rfl) (by kernel_rfl) (by kernel_rfl); intro a S
  refine hxAnd (i := 6) S rfl rfl rfl (fun h => by rw [h]; rfl) hS ?_ (by kernel_rfl) (by kernel_rfl) (by kernel_rfl); intro a S
  refine hx2 14 20 S (.agg #[.slice A2 n2 c2, .int .i64 p2, .bool (ok && (e == 0))]) (i := 7) rfl rfl rfl rfl (fun w' hw ev ec e e2 => by go_simp; try rfl) hS ?_ (by kernel_rfl) (by kernel_rfl) (by kernel_rfl); intro a S
  refine hx1 5 S (.agg #[.bool dn, .slice dX dm dc, .int .i64 de]) (i := 8) rfl rfl (fun w' hw ev ec e => run_load_row 24 _ rfl _ e #[.bool dn, .slice dX dm dc, .int .i64 de] 24 _ hw.2.2 Try.underlying24 rfl (by kernel_rfl)) hS ?_ (by kernel_rfl) (by kernel_rfl) (by kernel_rfl); intro a S
  have l1 := kr.lt
  have l2 := kd.lt
  have l3 := hb.size
  have l4 := hb2.size
  have l5 := k4.lt
  have l6 := k5.lt
  have l7 : v1.heap.size ≤ v2.heap.size := l8
  refine wpAnyH_ready (rs := [9]) (by kernel_rfl) (by simp) (AllReadyH.cons rfl ?_ AllReadyH.nil)
  refine hxS (x := 2) (y := 21) S (v4.drew.setRow (w.heap.size + 1) #[.slice A2 n2 c2, .int .i64 p2, .bool (ok && (e == 0))]) rfl rfl (fun ev q1 q2 => run_store_row 110 _ _ rfl _ q1 #[.slice A2 n2 c2, .int .i64 p2, .bool (ok && (e == 0))] q2 110 #[.slice none 0 0, .int .i64 0, .bool false] kr2.drew (by kernel_rfl) rfl (by simp [Value.oneCell'])) ⟨hS.1.setRow_far (by omega) _, hS.2.1.setRow_far (by omega) _, hS.2.2.setRow_far (by omega) _⟩ ?_; intro a S
  refine wpAnyH_ready (rs := [10]) (by kernel_rfl) (by simp) (AllReadyH.cons rfl ?_ AllReadyH.nil)
  refine hxS (x := 3) (y := 22) S ((v4.drew.setRow (w.heap.size + 1) #[.slice A2 n2 c2, .int .i64 p2, .bool (ok && (e == 0))]).setRow (w.heap.size + 1 + 1) #[.bool dn, .slice dX dm dc, .int .i64 de]) rfl rfl (fun ev q1 q2 => run_store_row 24 _ _ rfl _ q1 #[.bool dn, .slice dX dm dc, .int .i64 de] q2 24 #[.bool false, .slice none 0 0, .int .i64 0] (kd2.drew.setRow_far (by omega) _) (by kernel_rfl) rfl (by simp [Value.oneCell'])) ⟨(hS.1.setRow_far (by omega) _).setRow_far (by omega) _, (hS.2.1.setRow_far (by omega) _).setRow_far (by omega) _, (hS.2.2.setRow_far (by omega) _).setRow_far (by omega) _⟩ ?_; intro a S
  refine wpAnyH_done (by kernel_rfl) ?_ _
  refine NoPanic.normal ?_
  show Code.wp _ _ _ _ _
  refine wp_ret ?_
  change Q0 .ret _ _
  have kz := (kr2.drew.setRow #[.slice A2 n2 c2, .int .i64 p2, .bool (ok && (e == 0))]).setRow_far (k := (w.heap.size + 1 + 1)) (by omega) #[.bool dn, .slice dX dm dc, .int .i64 de]
  have ky := (kd2.drew.setRow_far (k := (w.heap.size + 1)) (by omega) #[.slice A2 n2 c2, .int .i64 p2, .bool (ok && (e == 0))]).setRow #[.bool dn, .slice dX dm dc, .int .i64 de]
  have hbz := below_setRow (g := (w.heap.size + 1 + 1)) (below_setRow (g := (w.heap.size + 1)) (Below.drew hB2) (by omega) #[.slice A2 n2 c2, .int .i64 p2, .bool (ok && (e == 0))]) (by omega) #[.bool dn, .slice dX dm dc, .int .i64 de]
  refine bodyPost_ret (ret_cc2 rfl _ _ (w.heap.size + 1) (w.heap.size + 1 + 1) #[.slice A2 n2 c2, .int .i64 p2, .bool (ok && (e == 0))] #[.bool dn, .slice dX dm dc, .int .i64 de] (S.fx 2 _ rfl) (S.fx 3 _ rfl) kz ky Try.underlying110 (by kernel_rfl) Try.underlying24 (by kernel_rfl)) S.df ⟨dX, dc, rfl, ?_, hbz⟩
  exact own_base_leU (own_rowU (own_rowU (show v4.drew.ownsRow V.heap.size 52 1 (.slice dX dm dc) dm xs from hR2) (show (w.heap.size + 1) < V.heap.size by omega) #[.slice A2 n2 c2, .int .i64 p2, .bool (ok && (e == 0))]) (show (w.heap.size + 1 + 1) < V.heap.size by omega) #[.bool dn, .slice dX dm dc, .int .i64 de]) (by omega)
theorem rdyad_x (A : Option Addr) (n c : Nat) (l : List Int) (hn : l.length = n) (hb : ∀ b ∈ l, 0 ≤ b ∧ b < 256) (hm : n ≤ 100000) (hnc : n ≤ c) (hA : A = none → c = 0) (p : Int) (w : World) (hR : Reads w w.heap.size 1 A n (u8s l)) :
    Calls Try.prog 94 #[rst A n c p] w (RDPost w A n c l p (dyE l p)) := by
  have nil : ∀ (e : Int), dyE l p = e → (e != 0) = true → ∀ en w', (en = Ending.returned (.tuple #[rst none 0 0 0, dy false none 0 0 0, .int .i64 e]) ∧ Below w.heap.size w w') → RDPost w A n c l p (dyE l p) en w' := by
    rintro e he h0 en w' ⟨rfl, hb'⟩
    rw [he]
    exact ⟨hb', .inl ⟨h0, rfl⟩⟩
  by_cases h0 : rdrE n p = 8
  · exact (rdyad_bad A n c p h0 w).mono (nil 8 (by unfold dyE; rw [if_pos (by rw [hn]; exact h0)]) rfl)
  · have hp0 : 0 ≤ p ∧ p ≤ n := by unfold rdrE at h0; split at h0; assumption; simp at h0
    obtain ⟨q, rfl⟩ : ∃ q : Nat, p = q := ⟨p.toNat, by omega⟩
    have h0' : ¬ rdrE l.length (q : Int) = 8 := by rw [hn]; exact h0
    by_cases h4 : n < q + 4
    · have e : dyE l (q : Int) = 40 := by unfold dyE; rw [if_neg h0', if_pos (by simp; omega)]
      rcases A with _ | ad
      · have hn0 : n = 0 := by
          rcases Nat.eq_zero_or_pos n with h | h
          · exact h
          · obtain ⟨ad, h1, _⟩ := hR.2 h
            cases h1
        have hc0 := hA rfl
        obtain rfl : q = 0 := by omega
        subst hn0 hc0
        exact (rdyad_none w).mono (nil 40 e rfl)
      · rcases Nat.lt_or_ge q n with hq | hq
        · exact (rdyad_head ad n c q hnc hq h4 w).mono (nil 40 e rfl)
        · obtain rfl : q = n := by omega
          by_cases hcq : c = q
          · subst hcq
            exact (rdyad_full ad c w).mono (nil 40 e rfl)
          · exact (rdyad_end ad q c hnc hcq w).mono (nil 40 e rfl)
    · obtain ⟨ad, _, rfl, _⟩ := hR.at_ (show 0 < n by omega)
      have hMn : numI ((l.drop (q + 3)).take 1) = l.getD (q + 3) 0 := num_one l (q + 3) (by omega)
      have hMb := part_range hb (q + 3) 1
      rw [hMn] at hMb
      have hM : l.getD (q + 3) 0 = (vM l q : Int) := by unfold vM; rw [hMn]; exact (Int.toNat_of_nonneg hMb.1).symm
      have hM8 : vM l q < 256 := by have := hMb.2; simp at this; omega
      by_cases h5 : n < q + 4 + 4 * vM l q
      · have e : dyE l (q : Int) = 40 := by unfold dyE; rw [if_neg h0', if_neg (by simp; omega), if_pos (by simp; omega)]
        exact (rdyad_short ad n c q l hn hm hnc _ hM hM8 (by omega) h5 w hR).mono (nil 40 e rfl)
      · have hN : l.getD q 0 = vN l q := (num_one l q (by omega)).symm
        have hE : (if (decide (1 < vN l q) || !mayD (vN l q == 1) (limbsOf l q (vM l q)) (vX l q)) = true then (41 : Int) else 0) = dyE l (q : Int) := by
          unfold dyE
          simp only [Int.toNat_natCast]
          rw [if_neg h0', if_neg (show ¬ l.length < q + 4 by omega), if_neg (show ¬ l.length < q + 4 + 4 * vM l q by omega)]
        exact rdyad_go ad n c q (vM l q) l hn hb hm hnc (vN l q) (vX l q) hM hM8 hN rfl (dyE l (q : Int)) (Lib.hid hE) (by omega) w hR
/-- A reader of the reference's: where it stands, or that it is wrong. -/
def rdv (A : Option Addr) (n c : Nat) : Option Nat → Array Value
  | some p => #[.slice A n c, .int .i64 (p : Int), .bool true]
  | none => #[.slice none 0 0, .int .i64 0, .bool false]
theorem rnumber_any (A : Option Addr) (n c : Nat) (l : List Int) (hn : l.length = n) (hb : ∀ b ∈ l, 0 ≤ b ∧ b < 256) (hm : n ≤ 100000) (hnc : n ≤ c) (st : Option Nat) (hst : ∀ p, st = some p → p ≤ n) (s : Nat) (h1 : 1 ≤ s) (h4 : s ≤ 4) (w : World) (hR : Reads w w.heap.size 1 A n (u8s l)) :
    Calls Try.prog 71 #[.agg (rdv A n c st), .int .i64 (s : Int)] w fun en w' => en = .returned (.tuple #[.agg (rdv A n c (rN l st s).1), .int .i64 (rN l st s).2]) ∧ Below w.heap.size w w' := by
  cases st with
  | none => exact rnumW none none 0 0 0 0 0 0 s 0 40 false (by omega) w (fun w' _ => rnum_short none 0 0 0 s rfl (by omega) (by omega) (by omega) (by omega) (by omega) (by omega) w')
  | some p =>
    have hp := hst p rfl
    unfold rN
    by_cases h : p + s ≤ l.length
    · have hv := part_range hb p s
      have h5 : 256 ^ s ≤ 4294967296 := Nat.le_trans (Nat.pow_le_pow_right (by decide) h4) (by decide)
      have h6 : ((256 ^ s : Nat) : Int) ≤ 4294967296 := Int.ofNat_le.2 h5
      simp only [if_pos h]
      exact rnumW A A n n c c p ((p + s : Nat) : Int) s (numI ((l.drop p).take s)) 0 true ⟨hv.1, Int.lt_of_lt_of_le hv.2 (Int.le_trans h6 (by decide))⟩ w (fun w' hw => rnum_ok A n c l hn hb hm hnc p s h1 (by omega) (by omega) w' ((hR.below hw).more hw.size))
    · simp only [if_neg h]
      exact rnumW A none n 0 c 0 p 0 s 0 40 true (by omega) w (fun w' _ => rnum_short A n c p s (if_pos ⟨by omega, by omega⟩) hm (by omega) (by omega) (by omega) (by omega) (by omega) w')
theorem rdyad_any (A : Option Addr) (n c : Nat) (l : List Int) (hn : l.length = n) (hb : ∀ b ∈ l, 0 ≤ b ∧ b < 256) (hm : n ≤ 100000) (hnc : n ≤ c) (hA : A = none → c = 0) (st : Option Nat) (w : World) (hR : Reads w w.heap.size 1 A n (u8s l)) :
    Calls Try.prog 72 #[.agg (rdv A n c st)] w fun en w' => ∃ X cc, en = .returned (.tuple #[.agg (rdv A n c (rD l st).1), .agg #[.bool (rD l st).2.neg, .slice X (rD l st).2.ls.length cc, .int .i64 (rD l st).2.ex]]) ∧ w'.ownsRow w.heap.size 52 1 (.slice X (rD l st).2.ls.length cc) (rD l st).2.ls.length (ints .u32 (rD l st).2.ls) ∧ Below w.heap.size w w' := by
  have none_ : ∀ (A' : Option Addr) (n' c' : Nat) (p' E : Int) (ok : Bool), (∀ w', Below w.heap.size w w' → Calls Try.prog 94 #[.agg #[.slice A' n' c', .int .i64 p']] w' fun en w'' => en = .returned (.tuple #[.agg #[.slice none 0 0, .int .i64 0], .agg #[.bool false, .slice none 0 0, .int .i64 0], .int .i64 E]) ∧ Below w'.heap.size w' w'') → (ok && (E == 0)) = false →
      Calls Try.prog 72 #[.agg #[.slice A' n' c', .int .i64 p', .bool ok]] w fun en w' => ∃ X cc, en = .returned (.tuple #[.agg #[.slice none 0 0, .int .i64 0, .bool false], .agg #[.bool false, .slice X 0 cc, .int .i64 0]]) ∧ w'.ownsRow w.heap.size 52 1 (.slice X 0 cc) 0 [] ∧ Below w.heap.size w w' := fun A' n' c' p' E ok hc h0 => by
    have h := rdyadW A' none n' 0 c' 0 0 p' 0 0 E ok false [] w (fun w' hw => (hc w' hw).mono (fun en w'' h => ⟨none, 0, h.1, World.ownsRow_nil _ _ _ _, h.2⟩))
    rw [h0] at h
    exact h
  cases st with
  | none => exact none_ none 0 0 0 40 false (fun w' _ => rdyad_none w') rfl
  | some p =>
    have hx := fun w' (hw : Below w.heap.size w w') => rdyad_x A n c l hn hb hm hnc hA p w' ((hR.below hw).more hw.size)
    unfold rD
    by_cases h : dyE l (p : Int) = 0
    · simp only [if_pos h]
      have h2 := rdyadW A A n n c c (vM l p) p (p + 4 + 4 * (vM l p : Int)) (vX l p) 0 true (vN l p == 1) (u32s (limbsOf l p (vM l p))) w (fun w' hw => (hx w' hw).mono (fun en w'' ⟨hb', hh⟩ => by
        rcases hh with ⟨h1, _⟩ | ⟨_, Al, cl, h1, h2⟩
        · rw [h] at h1; cases h1
        · exact ⟨Al, cl, h1, h2, hb'⟩))
      refine h2.mono ?_
      rintro en w' ⟨X, cc, rfl, ho, hb'⟩
      have hu : u32s (limbsOf l p (vM l p)) = ints .u32 (dyO l p).ls := by
        unfold dyO
        simp only [u32s]
        exact ints_of (fun z hz => by
          unfold limbsOf at hz
          obtain ⟨k, _, rfl⟩ := List.mem_map.1 hz
          exact (part_range hb _ _).1)
      have hlen : (dyO l p).ls.length = vM l p := by simp [dyO, limbs_len]
      refine ⟨X, cc, ?_, ?_, hb'⟩
      · rw [hlen]
        simp [rdv, dyO]
      · rw [hlen, ← hu]
        exact ho
    · simp only [if_neg h]
      exact none_ A n c p (dyE l p) true (fun w' hw => (hx w' hw).mono (fun en w'' ⟨hb', hh⟩ => by
        rcases hh with ⟨_, h1⟩ | ⟨h1, _⟩
        · exact ⟨h1, hb'⟩
        · exact absurd h1 h)) (by simpa using h)
end Go.Proofs.Ytjmhefkmpfkpbaa
