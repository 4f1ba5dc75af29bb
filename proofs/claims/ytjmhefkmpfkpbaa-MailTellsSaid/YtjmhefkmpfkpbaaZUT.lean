/- Mail: law10.spoil | Mail: the steps of mail.Read -/
import Derived.Test.YtjmhefkmpfkpbaaUS
import Derived.Test.YtjmhefkmpfkpbaaZUC
import Derived.Test.YtjmhefkmpfkpbaaUP
import Derived.Test.YtjmhefkmpfkpbaaZPW
namespace Go.Proofs.Ytjmhefkmpfkpbaa
open Go.ChangeShapes Go.WideShapes Go.ChangeAt Go.RowKit
set_option linter.unusedSimpArgs false
set_option linter.unusedVariables false
set_option maxRecDepth 100000
/-- Blocks from B to U may be changed, and new ones be made. -/
structure FrU (B U : Nat) (w w' : World) : Prop where
  os : w'.os = w.os
  tape : w'.tape = w.tape
  output : w'.output = w.output
  size : w.heap.size ≤ w'.heap.size
  block : ∀ k, k < w.heap.size → (k < B ∨ U ≤ k) → w'.heap[k]? = w.heap[k]?
theorem FrU.below {B U : Nat} {w w' : World} (h : FrU B U w w') (hB : B ≤ w.heap.size) : Below B w w' := ⟨h.os, h.tape, h.output, h.size, fun k hk => h.block k (by omega) (.inl hk)⟩
theorem FrU.blk {B U g : Nat} {w w' : World} {t : TypeId} {cs : Array Value} (h : FrU B U w w') (k : Blk w g t cs) (hg : g < B ∨ U ≤ g) : Blk w' g t cs := (h.block g k.lt hg).trans k
theorem FrU.of_below {B U : Nat} {w w' : World} (h : Below w.heap.size w w') : FrU B U w w' := ⟨h.os, h.tape, h.output, h.size, fun k hk _ => h.block k hk⟩
theorem FrU.trans {B U : Nat} {w w1 w2 : World} (h : FrU B U w w1) (h2 : FrU B U w1 w2) : FrU B U w w2 := ⟨h2.os.trans h.os, h2.tape.trans h.tape, h2.output.trans h.output, Nat.le_trans h.size h2.size, fun k hk hh => (h2.block k (Nat.lt_of_lt_of_le hk h.size) hh).trans (h.block k hk hh)⟩
theorem FrU.set {B U g i : Nat} (w : World) (hB : B ≤ g) (hU : g < U) (u : Value) : FrU B U w (w.setCell ⟨g, i, none⟩ u) := by
  have h := (Below.refl B w).setCell (p := ⟨g, i, none⟩) hB u
  exact ⟨h.os, h.tape, h.output, h.size, fun k hk hh => Below.heap_setCell _ _ _ k (fun e => by have e2 : k = g := e; omega)⟩
/-- A row that may be written over. -/
def RowW (w : World) (B U : Nat) (e : TypeId) (size : Nat) (A : Option Addr) (n : Nat) : Prop := 0 < n → ∃ g cur, A = some ⟨g, 0, none⟩ ∧ B ≤ g ∧ g < U ∧ Blk w g e cur ∧ n * size ≤ cur.size
theorem RowW.set {w : World} {B U size n g i : Nat} {e : TypeId} {A : Option Addr} (h : RowW w B U e size A n) (u : Value) : RowW (w.setCell ⟨g, i, none⟩ u) B U e size A n := fun h0 => by
  obtain ⟨k, cur, h1, h2, h3, h4, h5⟩ := h h0
  by_cases e1 : k = g
  · subst e1
    exact ⟨k, _, h1, h2, h3, h4.set_ i u, by simpa using h5⟩
  · exact ⟨k, cur, h1, h2, h3, h4.far (p := ⟨g, i, none⟩) e1 u, h5⟩
theorem RowW.below {w w' : World} {B U size n : Nat} {e : TypeId} {A : Option Addr} (h : RowW w B U e size A n) (hb : Below w.heap.size w w') : RowW w' B U e size A n := fun h0 => by
  obtain ⟨k, cur, h1, h2, h3, h4, h5⟩ := h h0
  exact ⟨k, cur, h1, h2, h3, h4.below hb h4.lt, h5⟩
theorem RowW.of_own {w : World} {B size n c : Nat} {e : TypeId} {A : Option Addr} {xs : List Value} (hz : 0 < size) (h : w.ownsRow B e size (.slice A n c) n xs) : RowW w B w.heap.size e size A n := fun h0 => by
  rcases h.2 with ⟨e1, e2⟩ | ⟨g, cap, cur, e1, h1, h2, h3, h4, h5, h6⟩
  · omega
  · injection e1 with e1 e2 e3
    have hb : Blk w g e cur := h2
    refine ⟨g, cur, e1, h1, hb.lt, hb, ?_⟩
    have l1 := h.1
    have l2 := congrArg List.length h6
    rw [List.length_take] at l2
    simp at l2
    omega
theorem RowW.of_ownR {w : World} {B n : Nat} {e : TypeId} {A : Option Addr} {xs : List Value} (h : OwnR w B e A n xs) : RowW w B w.heap.size e 1 A n := fun h0 => by
  obtain ⟨k, cur, hA, hk, hh, ht⟩ := h.2 h0
  refine ⟨k, cur, hA, hk, hh.lt, hh, ?_⟩
  have l1 := h.1
  have l2 := congrArg List.length ht
  rw [List.length_take] at l2
  simp at l2
  omega
/-- The rows that are spoilt. -/
def SpW (w : World) (B U : Nat) (o : MO) : Prop := RowW w B U 73 2 o.D o.x.ds.length ∧ RowW w B U 52 1 o.L o.x.ls.length ∧ RowW w B U 52 1 o.X0 o.x.give.s.ls.length
theorem SpW.of_own {w : World} {B : Nat} {o : MO} (h : OwL w B o) : SpW w B w.heap.size o := ⟨RowW.of_own (by decide) h.2.1, RowW.of_own (by decide) h.2.2, RowW.of_ownR h.1.1.2⟩
theorem SpW.below {w w' : World} {B U : Nat} {o : MO} (h : SpW w B U o) (hb : Below w.heap.size w w') : SpW w' B U o := ⟨h.1.below hb, h.2.1.below hb, h.2.2.below hb⟩
theorem SpW.set {w : World} {B U g i : Nat} {o : MO} (h : SpW w B U o) (u : Value) : SpW (w.setCell ⟨g, i, none⟩ u) B U o := ⟨h.1.set u, h.2.1.set u, h.2.2.set u⟩
theorem SpW.frU {w w' : World} {B U B2 U2 : Nat} {o : MO} (h : SpW w B U o) (hB : U2 ≤ B) (f : FrU B2 U2 w w') : SpW w' B U o := by
  have one : ∀ {e : TypeId} {size n : Nat} {A : Option Addr}, RowW w B U e size A n → RowW w' B U e size A n := fun h h0 => by
    obtain ⟨k, cur, h1, h2, h3, h4, h5⟩ := h h0
    exact ⟨k, cur, h1, h2, h3, f.blk h4 (.inr (by omega)), h5⟩
  exact ⟨one h.1, one h.2.1, one h.2.2⟩
theorem sxSA {P : Program} {ops : Array Oper} {Q : Exit → Act → World → Prop} {a : Act} {w : World} {rest : List Oper} {o : Oper} {n : Nat} {l : List (Nat × Value)} (S : Sx a n l) (w' : World) (hr : (execOp a.eval o).run P w = .ok .skip w')
    (h : ∀ a' : Act, Sx a' n l → wpList P ops Q rest a' w') (ho : o.dst = none := by rfl) (hg : o.guard = none := by rfl) : wpList P ops Q (o :: rest) a w :=
  wpList_step fun K hK => by
    rw [if_pos (wantN hg _)]
    unfold Oper.wp
    rw [hr]
    show K (a.put o.dst undef) w'
    rw [ho]
    exact hK _ _ (h _ S)
set_option maxHeartbeats 8000000 in
theorem spoil10 (o : MO) (B U : Nat) (hsm : smL o.x) (w0 : World) (hU : U ≤ w0.heap.size) (hs : SpW w0 B U o) : Calls Try.prog 20 #[aggL o] w0 fun en w' => en = .returned (.tuple #[]) ∧ FrU B U w0 w' := by
  obtain ⟨⟨sm0, _, _, _⟩, sm1, sm2⟩ := hsm
  change Calls Try.prog 20 #[.agg (mA o)] w0 _
  go_enter Try.func20, Try.ntmps20
  refine wp_abs (l := [(0, gv true (.agg (mA o)))]) 43 rfl rfl (allC rfl allN) ?_
  intro a S
  refine wp_seq (wp_region_lit ?_)
  refine sxW S (.pointer (some ⟨w0.heap.size, 0, none⟩)) (w0.alloc (.cells (mA o) 31)) (wantN rfl _) (runG 0 S rfl rfl (fun ev ec ef e => by go_simp; try rfl)) ?_; intro a S
  have kk := Blk.new w0 31 (mA o)
  have hb := (Below.refl w0.heap.size w0).alloc (Nat.le_refl _) (.cells (mA o) 31)
  obtain ⟨w, hw⟩ : ∃ W, W = w0.alloc (.cells (mA o) 31) := ⟨_, rfl⟩
  rw [← hw] at kk hb ⊢
  clear hw
  replace hs := hs.below hb
  have hF : FrU B U w0 w := FrU.of_below hb
  clear hb
  replace S : Sx a 43 [(1, gv true (.pointer (some ⟨w0.heap.size, 0, none⟩)))] := S.sub (allC rfl allN)
  refine wpList_nil ?_
  show Code.wp _ _ _ _ _
  have hU2 : U ≤ w0.heap.size := hU
  refine wp_join (fun a w => Sx a 43 [(1, gv true (.pointer (some ⟨w0.heap.size, 0, none⟩)))] ∧ Blk w w0.heap.size 31 (mA o) ∧ SpW w B U o ∧ FrU B U w0 w) ?_ (fun a w ⟨S, kk, hs, hF⟩ => ?_)
  · refine wp_seq (wp_region_lit ?_)
    refine sx0 S (.int .i64 ((0 : Nat) : Int)) (wantN rfl _) rfl (by decide) (fun _ => by go_simp; try rfl) ?_; intro a S
    refine wpList_nil ?_
    show Code.wp _ _ _ _ _
    refine wp_block ?_
    refine wp_loop_ghost (fun g a w => ∃ k : Nat, g = o.x.ds.length - k ∧ k ≤ o.x.ds.length ∧ Sx a 43 [(2, gv true (.int .i64 (k : Int))), (1, gv true (.pointer (some ⟨w0.heap.size, 0, none⟩)))] ∧ Blk w w0.heap.size 31 (mA o) ∧ SpW w B U o ∧ FrU B U w0 w) o.x.ds.length ⟨0, rfl, Nat.zero_le _, S, kk, hs, hF⟩ ?_
    clear S kk hs hF
    rintro g a w ⟨k, rfl, hk, S, kk, hs, hF⟩
    refine wp_seq (wp_seq (wp_region_lit ?_))
    refine qMv (fun a S => ?_)
    refine qF (fun a S => ?_)
    refine qL kk (fun a S => ?_)
    refine qLen (fun a S => ?_)
    refine sx2 5 8 S (.bool (decide ((k : Int) < (o.x.ds.length : Int)))) (wantN rfl _) rfl rfl (fun _ => rfl) (fun _ => rfl) (fun ev ec e e2 => by go_simp; try rfl) ?_; intro a S
    refine wpList_nil ?_
    show Code.wp _ _ _ _ _
    refine wp_cond_split (S.fx 9 _ rfl) (fun ht => ?_) (fun hf => ?_)
    · have hlt : k < o.x.ds.length := by have := of_decide_eq_true ht; omega
      replace S : Sx a 43 [(2, gv true (.int .i64 (k : Int))), (1, gv true (.pointer (some ⟨w0.heap.size, 0, none⟩)))] := S.sub (allC rfl (allC rfl allN))
      obtain ⟨g, cur, hA, hg1, hg2, hg3, hg4⟩ := hs.1 (by omega)
      have i1 : (0 : Int) ≤ k := by omega
      have i2 : (k : Int) < (o.x.ds.length : Int) := by omega
      refine wp_skip ?_
      show Code.wp _ _ _ _ _
      refine wp_seq (wp_block (wp_region_lit ?_))
      refine qF (fun a S => ?_)
      refine qL kk (fun a S => ?_)
      refine qMv (fun a S => ?_)
      refine sx2 13 14 S (.pointer (some ⟨g, k * 2, none⟩)) (wantN rfl _) rfl rfl (fun _ => rfl) (fun _ => rfl) (fun ev ec e e2 => by have e3 : ev (.tmp 13) = .slice o.D o.x.ds.length o.dc := e; clear e; rw [hA] at e3; have := add_mkq g (k * 2); go_simp; try rfl) ?_; intro a S
      refine sx1 15 S (.pointer (some ⟨g, k * 2, none⟩)) (wantN rfl _) rfl (fun _ => rfl) (fun ev ec e => by go_simp; try rfl) ?_; intro a S
      refine sxSA S (w.setCell ⟨g, k * 2, none⟩ (.int .i64 (-7))) (run_store_cell _ _ rfl (S.fx 16 _ rfl) rfl hg3 (by omega) rfl (by kernel_rfl)) ?_; intro a S
      replace kk := kk.far (p := ⟨g, k * 2, none⟩) (show w0.heap.size ≠ g by omega) (.int .i64 (-7))
      replace hF := hF.trans (FrU.set (i := k * 2) w hg1 hg2 (.int .i64 (-7)))
      replace hs := hs.set (g := g) (i := k * 2) (.int .i64 (-7))
      refine wpList_nil ?_
      show Code.wp _ _ _ _ _
      refine wp_region_lit ?_
      refine qMv (fun a S => ?_)
      refine sx1 10 S (.int .i64 ((k + 1 : Nat) : Int)) (wantN rfl _) rfl (fun _ => rfl) (fun ev ec e => by have hw : IntKind.i64.wrap ((k : Int) + 1) = ((k + 1 : Nat) : Int) := IntWalk.i64_in _ (by omega); go_simp; try rfl) ?_; intro a S
      refine qAs (fun a S => ?_)
      refine wpList_nil ?_
      show ∃ n', _
      exact ⟨o.x.ds.length - (k + 1), by omega, k + 1, rfl, by omega, S.sub (allC rfl (allC rfl allN)), kk, hs, hF⟩
    · refine wp_exit ?_
      refine then_exit (then_exit (inBlock_exit ?_))
      show _ ∧ _
      exact ⟨S.sub (allC rfl allN), kk, hs, hF⟩
  refine wp_join (fun a w => Sx a 43 [(1, gv true (.pointer (some ⟨w0.heap.size, 0, none⟩)))] ∧ Blk w w0.heap.size 31 (mA o) ∧ SpW w B U o ∧ FrU B U w0 w) ?_ (fun a w ⟨S, kk, hs, hF⟩ => ?_)
  · refine wp_seq (wp_region_lit ?_)
    refine sx0 S (.int .i64 ((0 : Nat) : Int)) (wantN rfl _) rfl (by decide) (fun _ => by go_simp; try rfl) ?_; intro a S
    refine wpList_nil ?_
    show Code.wp _ _ _ _ _
    refine wp_block ?_
    refine wp_loop_ghost (fun g a w => ∃ k : Nat, g = o.x.ls.length - k ∧ k ≤ o.x.ls.length ∧ Sx a 43 [(3, gv true (.int .i64 (k : Int))), (1, gv true (.pointer (some ⟨w0.heap.size, 0, none⟩)))] ∧ Blk w w0.heap.size 31 (mA o) ∧ SpW w B U o ∧ FrU B U w0 w) o.x.ls.length ⟨0, rfl, Nat.zero_le _, S, kk, hs, hF⟩ ?_
    clear S kk hs hF
    rintro g a w ⟨k, rfl, hk, S, kk, hs, hF⟩
    refine wp_seq (wp_seq (wp_region_lit ?_))
    refine qMv (fun a S => ?_)
    refine qF (fun a S => ?_)
    refine qL kk (fun a S => ?_)
    refine qLen (fun a S => ?_)
    refine sx2 17 20 S (.bool (decide ((k : Int) < (o.x.ls.length : Int)))) (wantN rfl _) rfl rfl (fun _ => rfl) (fun _ => rfl) (fun ev ec e e2 => by go_simp; try rfl) ?_; intro a S
    refine wpList_nil ?_
    show Code.wp _ _ _ _ _
    refine wp_cond_split (S.fx 21 _ rfl) (fun ht => ?_) (fun hf => ?_)
    · have hlt : k < o.x.ls.length := by have := of_decide_eq_true ht; omega
      replace S : Sx a 43 [(3, gv true (.int .i64 (k : Int))), (1, gv true (.pointer (some ⟨w0.heap.size, 0, none⟩)))] := S.sub (allC rfl (allC rfl allN))
      obtain ⟨g, cur, hA, hg1, hg2, hg3, hg4⟩ := hs.2.1 (by omega)
      have i1 : (0 : Int) ≤ k := by omega
      have i2 : (k : Int) < (o.x.ls.length : Int) := by omega
      refine wp_skip ?_
      show Code.wp _ _ _ _ _
      refine wp_seq (wp_block (wp_region_lit ?_))
      refine qF (fun a S => ?_)
      refine qL kk (fun a S => ?_)
      refine qMv (fun a S => ?_)
      refine sx2 25 26 S (.pointer (some ⟨g, k, none⟩)) (wantN rfl _) rfl rfl (fun _ => rfl) (fun _ => rfl) (fun ev ec e e2 => by have e3 : ev (.tmp 25) = .slice o.L o.x.ls.length o.lc := e; clear e; rw [hA] at e3; have := add_mkq g (k); go_simp; try rfl) ?_; intro a S
      refine sxSA S (w.setCell ⟨g, k, none⟩ (.int .u32 7)) (run_store_cell _ _ rfl (S.fx 27 _ rfl) rfl hg3 (by omega) rfl (by kernel_rfl)) ?_; intro a S
      replace kk := kk.far (p := ⟨g, k, none⟩) (show w0.heap.size ≠ g by omega) (.int .u32 7)
      replace hF := hF.trans (FrU.set (i := k) w hg1 hg2 (.int .u32 7))
      replace hs := hs.set (g := g) (i := k) (.int .u32 7)
      refine wpList_nil ?_
      show Code.wp _ _ _ _ _
      refine wp_region_lit ?_
      refine qMv (fun a S => ?_)
      refine sx1 22 S (.int .i64 ((k + 1 : Nat) : Int)) (wantN rfl _) rfl (fun _ => rfl) (fun ev ec e => by have hw : IntKind.i64.wrap ((k : Int) + 1) = ((k + 1 : Nat) : Int) := IntWalk.i64_in _ (by omega); go_simp; try rfl) ?_; intro a S
      refine qAs (fun a S => ?_)
      refine wpList_nil ?_
      show ∃ n', _
      exact ⟨o.x.ls.length - (k + 1), by omega, k + 1, rfl, by omega, S.sub (allC rfl (allC rfl allN)), kk, hs, hF⟩
    · refine wp_exit ?_
      refine then_exit (then_exit (inBlock_exit ?_))
      show _ ∧ _
      exact ⟨S.sub (allC rfl allN), kk, hs, hF⟩
  refine wp_seq (wp_region_lit ?_)
  refine sx0 S (.int .i64 ((0 : Nat) : Int)) (wantN rfl _) rfl (by decide) (fun _ => by go_simp; try rfl) ?_; intro a S
  refine wpList_nil ?_
  show Code.wp _ _ _ _ _
  refine wp_block ?_
  refine wp_loop_ghost (fun g a w => ∃ k : Nat, g = o.x.give.s.ls.length - k ∧ k ≤ o.x.give.s.ls.length ∧ Sx a 43 [(4, gv true (.int .i64 (k : Int))), (1, gv true (.pointer (some ⟨w0.heap.size, 0, none⟩)))] ∧ Blk w w0.heap.size 31 (mA o) ∧ SpW w B U o ∧ FrU B U w0 w) o.x.give.s.ls.length ⟨0, rfl, Nat.zero_le _, S, kk, hs, hF⟩ ?_
  clear S kk hs hF
  rintro g a w ⟨k, rfl, hk, S, kk, hs, hF⟩
  refine wp_seq (wp_seq (wp_region_lit ?_))
  refine qMv (fun a S => ?_)
  refine qF (fun a S => ?_)
  refine qF (fun a S => ?_)
  refine qF (fun a S => ?_)
  refine qL kk (fun a S => ?_)
  refine qLen (fun a S => ?_)
  refine sx2 28 33 S (.bool (decide ((k : Int) < (o.x.give.s.ls.length : Int)))) (wantN rfl _) rfl rfl (fun _ => rfl) (fun _ => rfl) (fun ev ec e e2 => by go_simp; try rfl) ?_; intro a S
  refine wpList_nil ?_
  show Code.wp _ _ _ _ _
  refine wp_cond_split (S.fx 34 _ rfl) (fun ht => ?_) (fun hf => ?_)
  · have hlt : k < o.x.give.s.ls.length := by have := of_decide_eq_true ht; omega
    replace S : Sx a 43 [(4, gv true (.int .i64 (k : Int))), (1, gv true (.pointer (some ⟨w0.heap.size, 0, none⟩)))] := S.sub (allC rfl (allC rfl allN))
    obtain ⟨g, cur, hA, hg1, hg2, hg3, hg4⟩ := hs.2.2 (by omega)
    have i1 : (0 : Int) ≤ k := by omega
    have i2 : (k : Int) < (o.x.give.s.ls.length : Int) := by omega
    refine wp_skip ?_
    show Code.wp _ _ _ _ _
    refine wp_seq (wp_block (wp_region_lit ?_))
    refine qF (fun a S => ?_)
    refine qF (fun a S => ?_)
    refine qF (fun a S => ?_)
    refine qL kk (fun a S => ?_)
    refine qMv (fun a S => ?_)
    refine sx2 40 41 S (.pointer (some ⟨g, k, none⟩)) (wantN rfl _) rfl rfl (fun _ => rfl) (fun _ => rfl) (fun ev ec e e2 => by have e3 : ev (.tmp 40) = .slice o.X0 o.x.give.s.ls.length o.c0 := e; clear e; rw [hA] at e3; have := add_mkq g (k); go_simp; try rfl) ?_; intro a S
    refine sxSA S (w.setCell ⟨g, k, none⟩ (.int .u32 7)) (run_store_cell _ _ rfl (S.fx 42 _ rfl) rfl hg3 (by omega) rfl (by kernel_rfl)) ?_; intro a S
    replace kk := kk.far (p := ⟨g, k, none⟩) (show w0.heap.size ≠ g by omega) (.int .u32 7)
    replace hF := hF.trans (FrU.set (i := k) w hg1 hg2 (.int .u32 7))
    replace hs := hs.set (g := g) (i := k) (.int .u32 7)
    refine wpList_nil ?_
    show Code.wp _ _ _ _ _
    refine wp_region_lit ?_
    refine qMv (fun a S => ?_)
    refine sx1 35 S (.int .i64 ((k + 1 : Nat) : Int)) (wantN rfl _) rfl (fun _ => rfl) (fun ev ec e => by have hw : IntKind.i64.wrap ((k : Int) + 1) = ((k + 1 : Nat) : Int) := IntWalk.i64_in _ (by omega); go_simp; try rfl) ?_; intro a S
    refine qAs (fun a S => ?_)
    refine wpList_nil ?_
    show ∃ n', _
    exact ⟨o.x.give.s.ls.length - (k + 1), by omega, k + 1, rfl, by omega, S.sub (allC rfl (allC rfl allN)), kk, hs, hF⟩
  · refine wp_exit ?_
    refine then_exit (then_exit (inBlock_exit ?_))
    show bodyPost _ _ _ .normal a _
    exact bodyPost_end (results_none rfl _ _ _) S.df ⟨rfl, hF⟩
end Go.Proofs.Ytjmhefkmpfkpbaa
namespace Go.Proofs.Ytjmhefkmpfkpbaa
open Go.ChangeShapes Go.WideShapes Go.ChangeAt Go.RowKit
set_option linter.unusedSimpArgs false
set_option linter.unusedVariables false
set_option maxRecDepth 100000
/-- What is read. -/
structure RqI (A : Option Addr) (n c : Nat) (L : List Int) : Prop where
  hn : L.length = n
  hb : ∀ b ∈ L, 0 ≤ b ∧ b < 256
  hm : n ≤ 100000
  hc : n ≤ c
/-- How far it is: the result's block, the reader's; the mail's; the mail's rows. -/
structure RqB (w0 : World) (g7 : Nat) (A : Option Addr) (n c : Nat) (L : List Int) (st : Option Nat) (w : World) : Prop where
  hB : Below w0.heap.size w0 w
  k2 : Blk w w0.heap.size 31 z24
  rd : Rdb w g7 A n c st
  hR : Reads w g7 1 A n (u8s L)
  lt : w0.heap.size < g7
  le : ∀ p, st = some p → p ≤ n
structure RqM (w0 : World) (g7 g9 : Nat) (A : Option Addr) (n c : Nat) (L : List Int) (cs : Array Value) (st : Option Nat) (w : World) : Prop extends RqB w0 g7 A n c L st w where
  k9 : Blk w g9 31 cs
  l9 : g7 < g9
structure RqS (w0 : World) (g7 g9 : Nat) (A : Option Addr) (n c : Nat) (L : List Int) (r : MO) (st : Option Nat) (w : World) : Prop extends RqM w0 g7 g9 A n c L (mA r) st w where
  ow : OwL w (g9 + 1) r
theorem RqB.only {w0 w w' : World} {g7 n c : Nat} {A : Option Addr} {L : List Int} {st st' : Option Nat} (H : RqB w0 g7 A n c L st w) (ho : Only g7 w w') (h : Rdb w' g7 A n c st') (hle : ∀ p, st' = some p → p ≤ n) : RqB w0 g7 A n c L st' w' :=
  have hz := H.rd.lt
  ⟨H.hB.trans (ho.below (by have := H.lt; omega) (by have := H.lt; omega)), ho.blk H.k2 (by have := H.lt; omega), h, H.hR.below (ho.below (by omega) (Nat.le_refl _)), H.lt, hle⟩
theorem RqB.other {w0 w w' : World} {g7 n c : Nat} {A : Option Addr} {L : List Int} {st : Option Nat} {g : Nat} (H : RqB w0 g7 A n c L st w) (ho : Only g w w') (hg : g7 < g) : RqB w0 g7 A n c L st w' :=
  have hz := H.rd.lt
  have hb : Below (g7 + 1) w w' := ho.below (by omega) (by omega)
  ⟨H.hB.trans (hb.mono (by have := H.lt; omega)), ho.blk H.k2 (by have := H.lt; omega), H.rd.keep (hb.block g7 (by omega)), H.hR.below (hb.mono (by omega)), H.lt, H.le⟩
theorem RqB.below {w0 w w' : World} {g7 n c : Nat} {A : Option Addr} {L : List Int} {st : Option Nat} (H : RqB w0 g7 A n c L st w) (hb : Below w.heap.size w w') : RqB w0 g7 A n c L st w' :=
  ⟨H.hB.trans (hb.mono H.hB.size), H.k2.below hb H.k2.lt, H.rd.below hb, H.hR.below (hb.mono (by have := H.rd.lt; omega)), H.lt, H.le⟩
theorem OwL.only {w w' : World} {g B : Nat} {r : MO} (h : OwL w B r) (ho : Only g w w') (hg : g < B) : OwL w' B r :=
  ⟨⟨⟨h.1.1.1, h.1.1.2.only ho hg⟩, ⟨h.1.2.1.1, h.1.2.1.2.only ho hg⟩, ⟨h.1.2.2.1.1, h.1.2.2.1.2.only ho hg⟩, ⟨h.1.2.2.2.1, h.1.2.2.2.2.only ho hg⟩⟩, own_only h.2.1 ho hg, own_only h.2.2 ho hg⟩
theorem RqS.below {w0 w w' : World} {g7 g9 n c : Nat} {A : Option Addr} {L : List Int} {st : Option Nat} {r : MO} (H : RqS w0 g7 g9 A n c L r st w) (hb : Below w.heap.size w w') : RqS w0 g7 g9 A n c L r st w' := ⟨⟨H.toRqB.below hb, H.k9.below hb H.k9.lt, H.l9⟩, H.ow.below hb⟩
theorem RqS.drew {w0 w : World} {g7 g9 n c : Nat} {A : Option Addr} {L : List Int} {st : Option Nat} {r : MO} (H : RqS w0 g7 g9 A n c L r st w) : RqS w0 g7 g9 A n c L r st w.drew := ⟨⟨⟨H.hB.drew, H.k2.drew, H.rd.keep rfl, H.hR.drew, H.lt, H.le⟩, H.k9.drew, H.l9⟩, H.ow⟩
theorem RqS.next {w0 w w' : World} {g7 g9 n c : Nat} {A : Option Addr} {L : List Int} {st st' : Option Nat} {r : MO} (H : RqS w0 g7 g9 A n c L r st w) (h : RqB w0 g7 A n c L st' w') (ho : Only g7 w w') : RqS w0 g7 g9 A n c L r st' w' :=
  ⟨⟨h, ho.blk H.k9 (by have := H.l9; omega), H.l9⟩, H.ow.only ho (by have := H.l9; omega)⟩
theorem only_cells {g : Nat} : ∀ (vs : List Value) (i : Nat) (w : World), Only g w (w.setCells g i vs)
  | [], _, w => Only.refl g w
  | v :: vs, i, w => (Only.set_ w g i v).trans (only_cells vs (i + 1) _)
abbrev fnT (g7 : Nat) : Value := .func (.func 33) #[.pointer (some ⟨g7, 0, none⟩)] #[]
section
variable {w0 w w' : World} {g7 g9 n c : Nat} {A : Option Addr} {L : List Int} {st st' : Option Nat} {r : MO} {cs : Array Value} {ops : Array Oper} {Q : Exit → Act → World → Prop} {a : Act} {rest : List Oper} {l : List (Nat × Value)}
theorem take_run (s : Nat) {j : Int} (I : RqI A n c L) (H : RqB w0 g7 A n c L st w) (h1 : 1 ≤ s) (h4 : s ≤ 4) (hj : j = (s : Int)) :
    Calls Try.prog 33 #[.pointer (some ⟨g7, 0, none⟩), .int .i64 j] w fun en w' => en = .returned (.int .i64 (rN L st s).2) ∧ RqB w0 g7 A n c L (rN L st s).1 w' ∧ Only g7 w w' :=
  (rnum_any g7 A n c L I.hn I.hb I.hm I.hc s j hj h1 h4 st H.le w H.rd (H.hR.more (Nat.le_of_lt H.rd.lt))).mono fun en w' hh => ⟨hh.1, H.only hh.2.2 hh.2.1 (fun p hp => by have := rN_le p hp; rw [I.hn] at this; exact this), hh.2.2⟩
theorem dyad_run (I : RqI A n c L) (H : RqB w0 g7 A n c L st w) :
    Calls Try.prog 34 #[.pointer (some ⟨g7, 0, none⟩)] w fun en w' => ∃ p : Option Addr × Nat, en = .returned (.agg #[.bool (rD L st).2.neg, .slice p.1 (rD L st).2.ls.length p.2, .int .i64 (rD L st).2.ex]) ∧ OwD w' w.heap.size p.1 p.2 (rD L st).2 ∧ RqB w0 g7 A n c L (rD L st).1 w' ∧ Only g7 w w' :=
  (rdy_any g7 A n c L I.hn I.hb I.hm I.hc st w H.rd (H.hR.more (Nat.le_of_lt H.rd.lt))).mono fun en w' hh => by
    obtain ⟨X, cc, h1, h2, h3, h4, h5⟩ := hh
    exact ⟨(X, cc), h1, ⟨h2, h3⟩, H.only h5 h4 (fun p hp => by have := rD_leU p hp; rw [I.hn] at this; exact this), h5⟩
theorem drop2 {d : Nat} {v u : Value} {m : Nat} (S : Sx a m ((d + 1, v) :: (d, u) :: l)) (hl : (l.map (·.1)).all (· < d) = true) : Sx a m ((d + 1, v) :: l) := ⟨S.sz, S.df, fun t x h => by
  by_cases e : t = d + 1
  · subst e
    rw [look_eq] at h
    exact S.fx _ _ (look_eq.trans h)
  · rw [look_ne e] at h
    have := look_lt hl h
    exact S.fx _ _ ((look_ne e).trans ((look_ne (by omega)).trans h))⟩
theorem rdN {d : Nat} {ts : Array TypeId} {y1 y2 : Nat} {s1 s2 : String} {f1 f2 : Array Go.Edge} (s : Nat) {j : Int} (I : RqI A n c L) (H : RqB w0 g7 A n c L st w) (S : Sx a 157 l)
    (h : ∀ (a' : Act) (w' : World), Sx a' 157 ((d + 1, gv true (.int .i64 (rN L st s).2)) :: l) → RqB w0 g7 A n c L (rN L st s).1 w' → Only g7 w w' → wpList Try.prog ops Q rest a' w')
    (h1 : 1 ≤ s := by decide) (h4 : s ≤ 4 := by decide) (hj : j = (s : Int) := by rfl) (h8 : l.lookup 8 = some (gv true (fnT g7)) := by rfl) (hl : (l.map (·.1)).all (· < d) = true := by rfl) (hn : d + 1 < 157 := by decide) :
    wpList Try.prog ops Q (⟨some d, .move (.tmp 8), y1, s1, f1, none⟩ :: ⟨some (d + 1), .call { callee := .value (.tmp d), args := #[.const (.int .i64 j)], argTypes := ts }, y2, s2, f2, none⟩ :: rest) a w := by
  refine sxMv S (wantN rfl _) h8 (fun _ => rfl) ?_ (by omega); intro a S
  refine sxKA S 33 #[.pointer (some ⟨g7, 0, none⟩), .int .i64 j] (fun u w' => u = .int .i64 (rN L st s).2 ∧ RqB w0 g7 A n c L (rN L st s).1 w' ∧ Only g7 w w') (runG d S look_eq rfl (fun ev ec ef e => by go_simp; try rfl)) ((take_run s I H h1 h4 hj).mono (fun en w' hh => ⟨_, hh.1, rfl, hh.2⟩)) ?_ rfl rfl (by omega)
  rintro a w' u ⟨rfl, h2, h3⟩ S
  exact h a w' (drop2 S hl) h2 h3
theorem rdY {d : Nat} {ts : Array TypeId} {y1 y2 : Nat} {s1 s2 : String} {f1 f2 : Array Go.Edge} (I : RqI A n c L) (H : RqS w0 g7 g9 A n c L r st w) (S : Sx a 157 l)
    (h : ∀ (a' : Act) (w' : World) (X : Option Addr) (cc : Nat), Sx a' 157 ((d + 1, gv true (.agg #[.bool (rD L st).2.neg, .slice X (rD L st).2.ls.length cc, .int .i64 (rD L st).2.ex])) :: l) → RqS w0 g7 g9 A n c L r (rD L st).1 w' → OwD w' (g9 + 1) X cc (rD L st).2 → Only g7 w w' → wpList Try.prog ops Q rest a' w')
    (h7 : l.lookup 7 = some (gv true (.pointer (some ⟨g7, 0, none⟩))) := by rfl) (hl : (l.map (·.1)).all (· < d) = true := by rfl) (hn : d + 1 < 157 := by decide) :
    wpList Try.prog ops Q (⟨some d, .move (.tmp 7), y1, s1, f1, none⟩ :: ⟨some (d + 1), .call { callee := .value (.func 34), args := #[.tmp d], argTypes := ts }, y2, s2, f2, none⟩ :: rest) a w := by
  refine sxMv S (wantN rfl _) h7 (fun _ => rfl) ?_ (by omega); intro a S
  refine sxKA S 34 #[.pointer (some ⟨g7, 0, none⟩)] (fun u w' => ∃ p : Option Addr × Nat, u = .agg #[.bool (rD L st).2.neg, .slice p.1 (rD L st).2.ls.length p.2, .int .i64 (rD L st).2.ex] ∧ OwD w' w.heap.size p.1 p.2 (rD L st).2 ∧ RqB w0 g7 A n c L (rD L st).1 w' ∧ Only g7 w w') (runG d S look_eq rfl (fun ev ec ef e => by go_simp; try rfl)) ((dyad_run I H.toRqB).mono (fun en w' ⟨p, h1, h2⟩ => ⟨_, h1, p, rfl, h2⟩)) ?_ rfl rfl (by omega)
  rintro a w' u ⟨⟨X, cc⟩, rfl, h1, h2, h3⟩ S
  exact h a w' X cc (drop2 S hl) (H.next h2 h3) (h1.base_le (by have := H.k9.lt; omega)) h3
theorem RqM.cell {off : Nat} {v : Value} (r' : MO) (H : RqM w0 g7 g9 A n c L cs st w) (ho : OwL w (g9 + 1) r') (hm : cs.setIfInBounds off v = mA r') : RqS w0 g7 g9 A n c L r' st (w.setCell ⟨g9, off, none⟩ v) :=
  ⟨⟨H.toRqB.other (Only.set_ w g9 off v) H.l9, by rw [← hm]; exact H.k9.set_ off v, H.l9⟩, OwL.farU ho (by show g9 < g9 + 1; omega) v⟩
theorem OwD.only {w w' : World} {g B cc : Nat} {X : Option Addr} {d : Dy} (h : OwD w B X cc d) (ho : Only g w w') (hg : g < B) : OwD w' B X cc d := ⟨h.1, h.2.only ho hg⟩
/-- A cell of the mail is stored. -/
theorem rdC {x y off : Nat} {T : TypeId} {v : Value} {y1 : Nat} {s1 : String} {f1 : Array Go.Edge} (r' : MO) (H : RqM w0 g7 g9 A n c L cs st w) (S : Sx a 157 l)
    (h : ∀ (a' : Act) (w' : World), Sx a' 157 l → RqS w0 g7 g9 A n c L r' st w' → Only g9 w w' → wpList Try.prog ops Q rest a' w')
    (ho : OwL w (g9 + 1) r') (hm : cs.setIfInBounds off v = mA r' := by rfl) (h1 : v.oneCell' = true := by rfl) (hi : (Try.prog.info? T).map (·.size) = some 1 := by kernel_rfl)
    (hx : l.lookup x = some (gv true (.pointer (some ⟨g9, off, none⟩))) := by rfl) (hy : l.lookup y = some (gv true v) := by rfl) (hoff : off < 24 := by decide) (hs : cs.size = 24 := by rfl) :
    wpList Try.prog ops Q (⟨none, .store T (.tmp x) (.tmp y), y1, s1, f1, none⟩ :: rest) a w := by
  refine sxS (x := x) (y := y) S (w.setCell ⟨g9, off, none⟩ v) hx hy (fun ev e e2 => run_store_cell _ _ rfl e e2 H.k9 (by rw [hs]; exact hoff) h1 hi) ?_
  intro a S
  refine h _ _ S ⟨⟨H.toRqB.other (Only.set_ w g9 off v) H.l9, ?_, H.l9⟩, OwL.farU ho (by show g9 < g9 + 1; omega) v⟩ (Only.set_ w g9 off v)
  rw [← hm]
  exact H.k9.set_ off v
/-- A dyad of the mail is stored. -/
theorem rdT {x y off : Nat} {d : Dy} {X : Option Addr} {cc : Nat} {y1 : Nat} {s1 : String} {f1 : Array Go.Edge} (r' : MO) (H : RqM w0 g7 g9 A n c L cs st w) (S : Sx a 157 l)
    (h : ∀ (a' : Act) (w' : World), Sx a' 157 l → RqS w0 g7 g9 A n c L r' st w' → Only g9 w w' → wpList Try.prog ops Q rest a' w')
    (ho : OwL w (g9 + 1) r') (hm : setL cs off [.bool d.neg, .slice X d.ls.length cc, .int .i64 d.ex] = mA r' := by rfl)
    (hx : l.lookup x = some (gv true (.pointer (some ⟨g9, off, none⟩))) := by rfl) (hy : l.lookup y = some (gv true (.agg #[.bool d.neg, .slice X d.ls.length cc, .int .i64 d.ex])) := by rfl) (hoff : off + 3 ≤ 24 := by decide) (hs : cs.size = 24 := by rfl) :
    wpList Try.prog ops Q (⟨none, .store 24 (.tmp x) (.tmp y), y1, s1, f1, none⟩ :: rest) a w := by
  refine sxS (x := x) (y := y) S (w.setCells g9 off #[.bool d.neg, .slice X d.ls.length cc, .int .i64 d.ex].toList) hx hy (fun ev e e2 => run_store_midU _ _ rfl e e2 H.k9 (by rw [hs]; exact hoff) (by simp [Value.oneCell']) (by kernel_rfl)) ?_
  intro a S
  refine h _ _ S ⟨⟨H.toRqB.other (only_cells _ _ _) H.l9, ?_, H.l9⟩, OwL.setCells (by omega) _ _ _ ho⟩ (only_cells _ _ _)
  rw [← hm]
  exact Blk.setL _ _ _ _ H.k9
/-- append of one piece to a row of the mail's. -/
theorem rdA {x y d k dc : Nat} {t e : TypeId} {D : Option Addr} {us xs : List Value} {md : Region.Mode} {fuel m : Nat} {LL : Array Bool} {o : Oper} (i : TypeInfo) (z : Value) (size bytes : Nat) (ht : Try.prog.underlying t = some (.slice e)) (hi : Try.prog.info? e = some i) (hz : i.zero = some z)
    (hsize : i.size = size) (hby : i.bytes = bytes) (hzs : z.cells.size = size) (hsz : 0 < size) (H : RqS w0 g7 g9 A n c L r st w) (S : Sx a m l) (hown : w.ownsRow (g9 + 1) e size (.slice D k dc) k xs) {gp : Nat} (hgp : Reads w w.heap.size size (some ⟨gp, 0, none⟩) 1 us)
    (hu : ∀ u ∈ us, u.oneCell' = true) (hk : k ≤ 100000) (hb1 : bytes ≤ 100)
    (h : ∀ (a' : Act) (w' : World) (D' : Option Addr) (dc' : Nat), Sx a' m ((d, gv true (.slice D' (k + 1) dc')) :: l) → RqM w0 g7 g9 A n c L (mA r) st w' → w'.ownsRow (g9 + 1) e size (.slice D' (k + 1) dc') (k + 1) (xs ++ us) → wpAnyH Try.prog md ops Q (fun _ => True) fuel LL a' w')
    (ho : o.op = .call { callee := .builtin .append, args := #[.tmp x, .tmp y], argTypes := #[t, t] } := by rfl)
    (hx : l.lookup x = some (gv true (.slice D k dc)) := by rfl) (hy : l.lookup y = some (gv true (.slice (some ⟨gp, 0, none⟩) 1 1)) := by rfl) (hd : o.dst = some d := by rfl) (hg : o.guard = none := by rfl) (hn : d < m := by decide) :
    ∀ K' : Act → World → Prop, Shut (∀ a w, True → (True → wpAnyH Try.prog md ops Q (fun _ => True) fuel LL a w) → K' a w) → if Region.wanted o (yielded ops a.tmps) = true then Oper.wp Try.prog o a w K' Q else K' (a.put o.dst undef) w := fun K' hK => by
  have hz2 := H.k9.lt
  have h9 := H.l9
  have hlt := H.lt
  obtain ⟨v', w', hrun, h1, h2, h3⟩ := run_append_any (P := Try.prog) w (g9 + 1) t o.type e i z size bytes ht hi hz hsize hby hzs hsz (.slice D k dc) k xs hown w.heap.size (some ⟨gp, 0, none⟩) 1 1 us hgp hu (by unfold maxLen; omega) (by have : (k + 1) * bytes ≤ 100001 * 100 := Nat.mul_le_mul (by omega) hb1; omega) (by omega)
  obtain ⟨D', dc', rfl, _, _⟩ := own_slice h1
  have hob : ∀ b, b < g9 + 1 → some b ≠ (Value.slice D k dc).ownBlock := fun b hb e => by have := own_base hown e.symm; omega
  have e1 : a.eval (.tmp x) = .slice D k dc := S.fx _ _ hx
  have e2 : a.eval (.tmp y) = .slice (some ⟨gp, 0, none⟩) 1 1 := S.fx _ _ hy
  have hBw : Below (g9 + 1) w w' := (Below.refl _ _).grown h2 (by omega) (fun k hk => own_base hown hk)
  have hM : RqM w0 g7 g9 A n c L (mA r) st w' := ⟨⟨H.hB.trans (hBw.mono (by omega)), H.k2.grown h2 (hob _ (by omega)), H.rd.keep (hBw.block g7 (by omega)), H.hR.below (hBw.mono (by omega)), H.lt, H.le⟩, H.k9.grown h2 (hob _ (by omega)), H.l9⟩
  rw [if_pos (wantN hg _)]
  unfold Oper.wp
  have hr : (execOp a.eval o).run Try.prog w = .ok (.value (.slice D' (k + 1) dc')) w' := by
    unfold execOp
    simp only [ho, resolve, invoke, builtin, Sem.run_bind, Sem.run_pure, Result.andThen_ok, List.map_toArray, List.map_cons, List.map_nil, e1, e2, hrun]
  rw [hr]
  show K' (a.put o.dst _) w'
  rw [hd]
  exact hK.out _ _ trivial (fun _ => h _ _ D' dc' (S.put _ hn) hM h1)
end
end Go.Proofs.Ytjmhefkmpfkpbaa
