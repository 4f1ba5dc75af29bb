/- Mail: mail.Twin -/
import Derived.Test.YtjmhefkmpfkpbaaUR
namespace Go.Proofs.Ytjmhefkmpfkpbaa
open Go.ChangeShapes Go.WideShapes Go.ChangeAt Go.RowKit
set_option linter.unusedSimpArgs false
set_option linter.unusedVariables false
set_option maxRecDepth 100000
set_option maxHeartbeats 2000000 in
theorem cloneD (A : Option Addr) (n c : Nat) (xs : List Value) (hm : n ≤ 100000) (h1 : ∀ u ∈ xs, u.oneCell' = true) (w : World) (hR : Reads w w.heap.size 2 A n xs) :
    Calls Try.prog 38 #[.slice A n c] w fun en w' => ∃ p : Option Addr × Nat, en = .returned (.slice p.1 n p.2) ∧ w'.ownsRow w.heap.size 73 2 (.slice p.1 n p.2) n xs ∧ Below w.heap.size w w' := by
  rcases A with _ | ad
  · have h0 : n = 0 := by
      rcases Nat.eq_zero_or_pos n with h | h
      · exact h
      · obtain ⟨ad, h1, _⟩ := hR.2 h
        cases h1
    subst h0
    have ha : xs = [] := List.eq_nil_of_length_eq_zero (by simpa using hR.1)
    subst ha
    have q22 : ∀ (w : World), (binOp .eql 27 (.slice none 0 c) (.slice none 0 0)).run Try.prog w = .ok (.bool true) w := fun w => Lib.run_eql_slice_nil w _ _ none 0 c 0 0 Try.underlying27
    clear hR
    go_enter Try.func38, Try.ntmps38
    go_wp2
    go_ret
    exact ⟨(none, 0), rfl, World.ownsRow_nil _ _ _ _, Below.refl _ _⟩
  · obtain ⟨i0, hi0, hz0, hz1, hz2⟩ := info_parts infoDs
    have q22 : ∀ (w : World), (binOp .eql 27 (.slice (some ad) n c) (.slice none 0 0)).run Try.prog w = .ok (.bool false) w := fun w => Lib.run_eql_slice_nil w _ _ (some ad) n c 0 0 Try.underlying27
    have hown0 : (w.alloc (.cells #[] 73)).ownsRow w.heap.size 73 2 (.slice (some ⟨w.heap.size, 0, none⟩) 0 0) 0 [] := ⟨by simp, .inr ⟨w.heap.size, 0, #[], rfl, Nat.le_refl _, heap_alloc_new w _, Nat.le_refl _, Nat.zero_le _, by simp, by simp⟩⟩
    go_enter Try.func38, Try.ntmps38
    go_wp2_with (at_builtin; refine wpList_append_any _ rfl (.tmp 5) (.tmp 6) 27 rfl w.heap.size 73 i0 _ 2 16 Try.underlying27 hi0 hz0 hz1 hz2 rfl (by omega) (.slice (some ⟨w.heap.size, 0, none⟩) 0 0) 0 [] rfl hown0 w.heap.size (some ad) n c xs rfl (hR.alloc (Nat.le_refl _) _) h1 (by unfold maxLen; omega) (by omega) (by rw [World.size_alloc]; omega) ?_; intro v4 w4 ho4 hg4 _; rw [Nat.zero_add, List.nil_append] at ho4; obtain ⟨Ao, co, rfl, hco, ro⟩ := own_slice ho4)
    go_ret
    refine ⟨(Ao, co), rfl, ho4, Below.grown ((Below.refl w.heap.size w).alloc (Nat.le_refl _) _) hg4 (by rw [World.size_alloc]; omega) ?_⟩
    intro q hq
    simp [Value.ownBlock] at hq
    omega
set_option maxHeartbeats 2000000 in
theorem cloneN (A : Option Addr) (n c : Nat) (xs : List Value) (hm : n ≤ 100000) (h1 : ∀ u ∈ xs, u.oneCell' = true) (w : World) (hR : Reads w w.heap.size 1 A n xs) :
    Calls Try.prog 39 #[.slice A n c] w fun en w' => ∃ p : Option Addr × Nat, en = .returned (.slice p.1 n p.2) ∧ w'.ownsRow w.heap.size 52 1 (.slice p.1 n p.2) n xs ∧ Below w.heap.size w w' := by
  rcases A with _ | ad
  · have h0 : n = 0 := by
      rcases Nat.eq_zero_or_pos n with h | h
      · exact h
      · obtain ⟨ad, h1, _⟩ := hR.2 h
        cases h1
    subst h0
    have ha : xs = [] := List.eq_nil_of_length_eq_zero (by simpa using hR.1)
    subst ha
    have q22 : ∀ (w : World), (binOp .eql 22 (.slice none 0 c) (.slice none 0 0)).run Try.prog w = .ok (.bool true) w := fun w => Lib.run_eql_slice_nil w _ _ none 0 c 0 0 Try.underlying22
    clear hR
    go_enter Try.func39, Try.ntmps39
    go_wp2
    go_ret
    exact ⟨(none, 0), rfl, World.ownsRow_nil _ _ _ _, Below.refl _ _⟩
  · obtain ⟨i0, hi0, hz0, hz1, hz2⟩ := info_parts infoU32
    have q22 : ∀ (w : World), (binOp .eql 22 (.slice (some ad) n c) (.slice none 0 0)).run Try.prog w = .ok (.bool false) w := fun w => Lib.run_eql_slice_nil w _ _ (some ad) n c 0 0 Try.underlying22
    have hown0 : (w.alloc (.cells #[] 52)).ownsRow w.heap.size 52 1 (.slice (some ⟨w.heap.size, 0, none⟩) 0 0) 0 [] := ⟨by simp, .inr ⟨w.heap.size, 0, #[], rfl, Nat.le_refl _, heap_alloc_new w _, Nat.le_refl _, Nat.zero_le _, by simp, by simp⟩⟩
    go_enter Try.func39, Try.ntmps39
    go_wp2_with (at_builtin; refine wpList_append_any _ rfl (.tmp 5) (.tmp 6) 22 rfl w.heap.size 52 i0 _ 1 4 Try.underlying22 hi0 hz0 hz1 hz2 rfl (by omega) (.slice (some ⟨w.heap.size, 0, none⟩) 0 0) 0 [] rfl hown0 w.heap.size (some ad) n c xs rfl (hR.alloc (Nat.le_refl _) _) h1 (by unfold maxLen; omega) (by omega) (by rw [World.size_alloc]; omega) ?_; intro v4 w4 ho4 hg4 _; rw [Nat.zero_add, List.nil_append] at ho4; obtain ⟨Ao, co, rfl, hco, ro⟩ := own_slice ho4)
    go_ret
    refine ⟨(Ao, co), rfl, ho4, Below.grown ((Below.refl w.heap.size w).alloc (Nat.le_refl _) _) hg4 (by rw [World.size_alloc]; omega) ?_⟩
    intro q hq
    simp [Value.ownBlock] at hq
    omega
theorem mtwU (o : MO) (hsm : smL o.x) (w : World) (hr : rdL w w.heap.size o) : Calls Try.prog 37 #[.agg (oA (mO o))] w fun en w' => ∃ r : MB, en = .returned (.agg (oA r)) ∧ r.m = o.x.give ∧ OwM w' w.heap.size r ∧ Below w.heap.size w w' := by
  refine (mtwin_anyT o.x.give.s.neg o.X0 o.x.give.s.ls.length o.c0 o.x.give.s.ex o.x.give.w.neg o.X1 o.x.give.w.ls.length o.c1 o.x.give.w.ex o.x.give.c.neg o.X2 o.x.give.c.ls.length o.c2 o.x.give.c.ex o.x.give.a.neg o.X3 o.x.give.a.ls.length o.c3 o.x.give.a.ex o.x.give hsm.1 w hr.1).mono ?_
  rintro en w' ⟨X0, c0, X1, c1, X2, c2, X3, c3, rfl, q0, q1, q2, q3, hb⟩
  exact ⟨⟨o.x.give, X0, c0, X1, c1, X2, c2, X3, c3⟩, rfl, rfl, ⟨q0, q1, q2, q3⟩, hb⟩
theorem ints_oneq (k : IntKind) (l : List Nat) : ∀ u ∈ ints k l, u.oneCell' = true := by
  intro u hu
  unfold ints at hu
  obtain ⟨x, _, rfl⟩ := List.mem_map.1 hu
  rfl
set_option maxHeartbeats 16000000 in
theorem twinS (o : MO) (hsm : smL o.x) (w0 : World) (hr : rdL w0 w0.heap.size o) (ops : Array Oper) (hops : (Try.f16.body).map (fun c => opsC (fstC (sndC c))) = some ops) (Q : Exit → Act → World → Prop) (fin : ∀ (a : Act) (w : World) (r : MO), Sx a 16 [(1, gv true (.pointer (some ⟨w0.heap.size, 0, none⟩))), (2, gv true (.pointer (some ⟨w0.heap.size + 1, 0, none⟩)))] → Below w0.heap.size w0 w → Blk w w0.heap.size 31 (mA r) → Blk w (w0.heap.size + 1) 31 z24 → OwL w (w0.heap.size + 2) r → r.x = o.x → Q .normal a w) :
    ∀ (a : Act) (w : World) , Sx a 16 [(1, gv true (.pointer (some ⟨w0.heap.size, 0, none⟩))), (2, gv true (.pointer (some ⟨w0.heap.size + 1, 0, none⟩))), (3, gv true (.pointer (some ⟨w0.heap.size, 6, none⟩))), (6, gv true (.pointer (some ⟨w0.heap.size, 19, none⟩))), (9, gv true (.pointer (some ⟨w0.heap.size, 23, none⟩)))] → Below w0.heap.size w0 w → Blk w w0.heap.size 31 (mA o) → Blk w (w0.heap.size + 1) 31 z24 → wpAnyH Try.prog .any ops (NoPanic Q) (fun _ => True) 12 #[true, false, false, true, false, false, true, false, false, false, false, false, false, false, false] a w := by
  dsimp only [Try.f16, Option.map, fstC, sndC, opsC] at hops
  injection hops with hops
  have s147c3n : ∀ (a : Act) (w : World) (r : MB) (p : Option Addr × Nat) (q : Option Addr × Nat), Sx a 16 [(12, gv true (.pointer (some ⟨w0.heap.size, 6, none⟩))), (1, gv true (.pointer (some ⟨w0.heap.size, 0, none⟩))), (2, gv true (.pointer (some ⟨w0.heap.size + 1, 0, none⟩))), (3, gv true (.pointer (some ⟨w0.heap.size, 6, none⟩))), (6, gv true (.pointer (some ⟨w0.heap.size, 19, none⟩))), (9, gv true (.pointer (some ⟨w0.heap.size, 23, none⟩))), (4, gv true (.agg (oA (mO o)))), (7, gv true (.slice o.D o.x.ds.length o.dc)), (10, gv true (.slice o.L o.x.ls.length o.lc)), (5, gv true (.agg (oA r))), (8, gv true (.slice p.1 o.x.ds.length p.2)), (11, gv true (.slice q.1 o.x.ls.length q.2))] → Below w0.heap.size w0 w → Blk w w0.heap.size 31 (mA o) → Blk w (w0.heap.size + 1) 31 z24 → (r.m = o.x.give ∧ OwM w (w0.heap.size + 2) r) → (w.ownsRow (w0.heap.size + 2) 73 2 (.slice p.1 o.x.ds.length p.2) o.x.ds.length (T2 o.x.ds)) → (w.ownsRow (w0.heap.size + 2) 52 1 (.slice q.1 o.x.ls.length q.2) o.x.ls.length (ints .u32 o.x.ls)) → wpAnyH Try.prog .any ops (NoPanic Q) (fun _ => True) 5 #[true, true, true, true, true, true, true, true, true, true, false, false, false, false, false] a w := by
    subst hops
    intro a w r p q S hB kk k2 h0 h1 h2
    obtain ⟨m, Y0, z0, Y1, z1, Y2, z2, Y3, z3⟩ := r
    obtain ⟨hm, h0⟩ := h0
    simp only at hm
    subst hm
    have hz := k2.lt
    have hS0 : (fun _ : World => True) w := trivial
    refine wpAnyH_ready (rs := [10]) (by kernel_rfl) (by simp) (AllReadyH.cons rfl ?_ AllReadyH.nil)
    refine hxS (x := 12) (y := 5) S (w.setCells w0.heap.size 6 (oA ⟨o.x.give, Y0, z0, Y1, z1, Y2, z2, Y3, z3⟩).toList) rfl rfl (fun ev e e2 => run_store_midU _ _ rfl e e2 kk (by show 6 + 12 ≤ 24; omega) (by simp [Value.oneCell']) (by kernel_rfl)) trivial ?_
    intro a S
    replace kk := Blk.setL (oA ⟨o.x.give, Y0, z0, Y1, z1, Y2, z2, Y3, z3⟩).toList 6 _ _ kk
    rw [setL_mass] at kk
    replace k2 := Blk.farCells (show w0.heap.size + 1 ≠ w0.heap.size by omega) (oA ⟨o.x.give, Y0, z0, Y1, z1, Y2, z2, Y3, z3⟩).toList 6 _ _ k2
    replace hB := below_setCells (Nat.le_refl _) (oA ⟨o.x.give, Y0, z0, Y1, z1, Y2, z2, Y3, z3⟩).toList 6 _ hB
    have how : OwL w (w0.heap.size + 2) ⟨o.x, Y0, z0, Y1, z1, Y2, z2, Y3, z3, p.1, p.2, q.1, q.2⟩ := ⟨h0, h1, h2⟩
    replace how := how.setCells (show w0.heap.size < w0.heap.size + 2 by omega) (oA ⟨o.x.give, Y0, z0, Y1, z1, Y2, z2, Y3, z3⟩).toList 6
    obtain ⟨w1, hw⟩ : ∃ W, W = w.setCells w0.heap.size 6 (oA ⟨o.x.give, Y0, z0, Y1, z1, Y2, z2, Y3, z3⟩).toList := ⟨_, rfl⟩
    rw [← hw] at kk k2 hB how ⊢
    clear hw h0 h1 h2 hz
    refine hx1 1 S (.pointer (some ⟨w0.heap.size, 19, none⟩)) (i := 11) rfl rfl (fun w' hw ev ec e => by go_simp; try rfl) trivial ?_ (by kernel_rfl) (by kernel_rfl) (by kernel_rfl)
    intro a S
    refine wpAnyH_ready (rs := [12]) (by kernel_rfl) (by simp) (AllReadyH.cons rfl ?_ AllReadyH.nil)
    refine hxS (x := 13) (y := 8) S (w1.setCell ⟨w0.heap.size, 19, none⟩ (.slice p.1 o.x.ds.length p.2)) rfl rfl (fun ev e e2 => run_store_cell _ _ rfl e e2 kk (by show 19 < 24; omega) rfl (by kernel_rfl)) trivial ?_
    intro a S
    replace kk : Blk (w1.setCell ⟨w0.heap.size, 19, none⟩ (.slice p.1 o.x.ds.length p.2)) w0.heap.size 31 (mA ⟨o.x, Y0, z0, Y1, z1, Y2, z2, Y3, z3, p.1, p.2, o.L, o.lc⟩) := kk.set_ 19 (.slice p.1 o.x.ds.length p.2)
    replace k2 := k2.far (p := ⟨w0.heap.size, 19, none⟩) (show w0.heap.size + 1 ≠ w0.heap.size by omega) (.slice p.1 o.x.ds.length p.2)
    replace hB := hB.setCell (p := ⟨w0.heap.size, 19, none⟩) (Nat.le_refl _) (.slice p.1 o.x.ds.length p.2)
    replace how := how.farU (p := ⟨w0.heap.size, 19, none⟩) (show w0.heap.size < w0.heap.size + 2 by omega) (.slice p.1 o.x.ds.length p.2)
    obtain ⟨w2, hw⟩ : ∃ W, W = w1.setCell ⟨w0.heap.size, 19, none⟩ (.slice p.1 o.x.ds.length p.2) := ⟨_, rfl⟩
    rw [← hw] at kk k2 hB how ⊢
    clear hw
    refine hx1 1 S (.pointer (some ⟨w0.heap.size, 23, none⟩)) (i := 13) rfl rfl (fun w' hw ev ec e => by go_simp; try rfl) trivial ?_ (by kernel_rfl) (by kernel_rfl) (by kernel_rfl)
    intro a S
    refine wpAnyH_ready (rs := [14]) (by kernel_rfl) (by simp) (AllReadyH.cons rfl ?_ AllReadyH.nil)
    refine hxS (x := 14) (y := 11) S (w2.setCell ⟨w0.heap.size, 23, none⟩ (.slice q.1 o.x.ls.length q.2)) rfl rfl (fun ev e e2 => run_store_cell _ _ rfl e e2 kk (by show 23 < 24; omega) rfl (by kernel_rfl)) trivial ?_
    intro a S
    replace kk : Blk (w2.setCell ⟨w0.heap.size, 23, none⟩ (.slice q.1 o.x.ls.length q.2)) w0.heap.size 31 (mA ⟨o.x, Y0, z0, Y1, z1, Y2, z2, Y3, z3, p.1, p.2, q.1, q.2⟩) := kk.set_ 23 (.slice q.1 o.x.ls.length q.2)
    replace k2 := k2.far (p := ⟨w0.heap.size, 23, none⟩) (show w0.heap.size + 1 ≠ w0.heap.size by omega) (.slice q.1 o.x.ls.length q.2)
    replace hB := hB.setCell (p := ⟨w0.heap.size, 23, none⟩) (Nat.le_refl _) (.slice q.1 o.x.ls.length q.2)
    replace how := how.farU (p := ⟨w0.heap.size, 23, none⟩) (show w0.heap.size < w0.heap.size + 2 by omega) (.slice q.1 o.x.ls.length q.2)
    obtain ⟨w3, hw⟩ : ∃ W, W = w2.setCell ⟨w0.heap.size, 23, none⟩ (.slice q.1 o.x.ls.length q.2) := ⟨_, rfl⟩
    rw [← hw] at kk k2 hB how ⊢
    clear hw
    refine wpAnyH_done (by kernel_rfl) ?_ _
    refine NoPanic.normal ?_
    exact fin a w3 _ (S.sub (allC rfl (allC rfl allN))) hB kk k2 how rfl
  have s147c2n : ∀ (a : Act) (w : World) (r : MB) (p : Option Addr × Nat), Sx a 16 [(12, gv true (.pointer (some ⟨w0.heap.size, 6, none⟩))), (1, gv true (.pointer (some ⟨w0.heap.size, 0, none⟩))), (2, gv true (.pointer (some ⟨w0.heap.size + 1, 0, none⟩))), (3, gv true (.pointer (some ⟨w0.heap.size, 6, none⟩))), (6, gv true (.pointer (some ⟨w0.heap.size, 19, none⟩))), (9, gv true (.pointer (some ⟨w0.heap.size, 23, none⟩))), (4, gv true (.agg (oA (mO o)))), (7, gv true (.slice o.D o.x.ds.length o.dc)), (10, gv true (.slice o.L o.x.ls.length o.lc)), (5, gv true (.agg (oA r))), (8, gv true (.slice p.1 o.x.ds.length p.2))] → Below w0.heap.size w0 w → Blk w w0.heap.size 31 (mA o) → Blk w (w0.heap.size + 1) 31 z24 → (r.m = o.x.give ∧ OwM w (w0.heap.size + 2) r) → (w.ownsRow (w0.heap.size + 2) 73 2 (.slice p.1 o.x.ds.length p.2) o.x.ds.length (T2 o.x.ds)) → wpAnyH Try.prog .any ops (NoPanic Q) (fun _ => True) 6 #[true, true, true, true, true, true, true, true, false, true, false, false, false, false, false] a w := by
    subst hops
    intro a w r p S hB kk k2 h0 h1
    refine wpAnyH_ready (rs := [8]) (by kernel_rfl) (by simp) (AllReadyH.cons rfl ?_ (AllReadyH.nil))
    · have hsz := k2.lt
      refine hKG (fun q : Option Addr × Nat => .slice q.1 o.x.ls.length q.2) (none, 0) S 39 #[.slice o.L o.x.ls.length o.lc] (fun q w' => w'.ownsRow w.heap.size 52 1 (.slice q.1 o.x.ls.length q.2) o.x.ls.length (ints .u32 o.x.ls) ∧ Below w.heap.size w w') (wantN rfl _) trivial (fun _ => runG 10 S rfl rfl (fun ev ec ef e => by go_simp; try rfl)) (fun _ => cloneN o.L _ o.lc _ (by have := hsm.2.2; omega) (ints_oneq _ _) w (hr.2.2.below hB |>.more hB.size)) (fun _ _ _ => trivial) ?_
      intro a w' q hx _ S
      replace hx := hx rfl
      have hb := hx.2
      exact anyH_lit (by kernel_rfl) (s147c3n a w' r p q (S.sub (allC rfl (allC rfl (allC rfl (allC rfl (allC rfl (allC rfl (allC rfl (allC rfl (allC rfl (allC rfl (allC rfl (allC rfl allN))))))))))))) (hB.trans (hb.mono hB.size)) (kk.below hb kk.lt) (k2.below hb k2.lt) (⟨h0.1, h0.2.below hb⟩) (own_below h1 hb) (own_base_leU hx.1 hsz))
  have s147c2 : ∀ (a : Act) (w : World) (r : MB) (p : Option Addr × Nat), Sx a 16 [(1, gv true (.pointer (some ⟨w0.heap.size, 0, none⟩))), (2, gv true (.pointer (some ⟨w0.heap.size + 1, 0, none⟩))), (3, gv true (.pointer (some ⟨w0.heap.size, 6, none⟩))), (6, gv true (.pointer (some ⟨w0.heap.size, 19, none⟩))), (9, gv true (.pointer (some ⟨w0.heap.size, 23, none⟩))), (4, gv true (.agg (oA (mO o)))), (7, gv true (.slice o.D o.x.ds.length o.dc)), (10, gv true (.slice o.L o.x.ls.length o.lc)), (5, gv true (.agg (oA r))), (8, gv true (.slice p.1 o.x.ds.length p.2))] → Below w0.heap.size w0 w → Blk w w0.heap.size 31 (mA o) → Blk w (w0.heap.size + 1) 31 z24 → (r.m = o.x.give ∧ OwM w (w0.heap.size + 2) r) → (w.ownsRow (w0.heap.size + 2) 73 2 (.slice p.1 o.x.ds.length p.2) o.x.ds.length (T2 o.x.ds)) → wpAnyH Try.prog .any ops (NoPanic Q) (fun _ => True) 7 #[true, true, true, true, true, true, true, true, false, false, false, false, false, false, false] a w := by
    subst hops
    intro a w r p S hB kk k2 h0 h1
    refine hx1 1 S (.pointer (some ⟨w0.heap.size, 6, none⟩)) (i := 9) rfl rfl (fun w' hw ev ec e => by go_simp; try rfl) trivial ?_ (by kernel_rfl) (by kernel_rfl) (by kernel_rfl)
    intro a S
    exact anyH_lit (by kernel_rfl) (s147c2n a w r p S hB kk k2 h0 h1)
  have s14c2 : ∀ (a : Act) (w : World) (r : MB) (p : Option Addr × Nat), Sx a 16 [(1, gv true (.pointer (some ⟨w0.heap.size, 0, none⟩))), (2, gv true (.pointer (some ⟨w0.heap.size + 1, 0, none⟩))), (3, gv true (.pointer (some ⟨w0.heap.size, 6, none⟩))), (6, gv true (.pointer (some ⟨w0.heap.size, 19, none⟩))), (9, gv true (.pointer (some ⟨w0.heap.size, 23, none⟩))), (4, gv true (.agg (oA (mO o)))), (7, gv true (.slice o.D o.x.ds.length o.dc)), (5, gv true (.agg (oA r))), (8, gv true (.slice p.1 o.x.ds.length p.2))] → Below w0.heap.size w0 w → Blk w w0.heap.size 31 (mA o) → Blk w (w0.heap.size + 1) 31 z24 → (r.m = o.x.give ∧ OwM w (w0.heap.size + 2) r) → (w.ownsRow (w0.heap.size + 2) 73 2 (.slice p.1 o.x.ds.length p.2) o.x.ds.length (T2 o.x.ds)) → wpAnyH Try.prog .any ops (NoPanic Q) (fun _ => True) 8 #[true, true, true, true, true, true, true, false, false, false, false, false, false, false, false] a w := by
    subst hops
    intro a w r p S hB kk k2 h0 h1
    refine wpAnyH_ready (rs := [7]) (by kernel_rfl) (by simp) (AllReadyH.cons rfl ?_ (AllReadyH.nil))
    · refine hVG S (.slice o.L o.x.ls.length o.lc) (wantN rfl _) trivial (fun _ => runG 9 S rfl rfl (fun ev ec ef e => by have s0 := kk.cell 23; go_simp; try rfl)) ?_
      intro a S
      exact anyH_lit (by kernel_rfl) (s147c2 a w r p (S.sub (allC rfl (allC rfl (allC rfl (allC rfl (allC rfl (allC rfl (allC rfl (allC rfl (allC rfl (allC rfl allN))))))))))) hB kk k2 h0 h1)
  have s147c1n : ∀ (a : Act) (w : World) (r : MB), Sx a 16 [(12, gv true (.pointer (some ⟨w0.heap.size, 6, none⟩))), (1, gv true (.pointer (some ⟨w0.heap.size, 0, none⟩))), (2, gv true (.pointer (some ⟨w0.heap.size + 1, 0, none⟩))), (3, gv true (.pointer (some ⟨w0.heap.size, 6, none⟩))), (6, gv true (.pointer (some ⟨w0.heap.size, 19, none⟩))), (9, gv true (.pointer (some ⟨w0.heap.size, 23, none⟩))), (4, gv true (.agg (oA (mO o)))), (7, gv true (.slice o.D o.x.ds.length o.dc)), (10, gv true (.slice o.L o.x.ls.length o.lc)), (5, gv true (.agg (oA r)))] → Below w0.heap.size w0 w → Blk w w0.heap.size 31 (mA o) → Blk w (w0.heap.size + 1) 31 z24 → (r.m = o.x.give ∧ OwM w (w0.heap.size + 2) r) → wpAnyH Try.prog .any ops (NoPanic Q) (fun _ => True) 7 #[true, true, true, true, true, false, true, true, false, true, false, false, false, false, false] a w := by
    subst hops
    intro a w r S hB kk k2 h0
    refine wpAnyH_ready (rs := [5]) (by kernel_rfl) (by simp) (AllReadyH.cons rfl ?_ (AllReadyH.nil))
    · have hsz := k2.lt
      refine hKG (fun p : Option Addr × Nat => .slice p.1 o.x.ds.length p.2) (none, 0) S 38 #[.slice o.D o.x.ds.length o.dc] (fun p w' => w'.ownsRow w.heap.size 73 2 (.slice p.1 o.x.ds.length p.2) o.x.ds.length (T2 o.x.ds) ∧ Below w.heap.size w w') (wantN rfl _) trivial (fun _ => runG 7 S rfl rfl (fun ev ec ef e => by go_simp; try rfl)) (fun _ => cloneD o.D _ o.dc _ (by have := hsm.2.1; omega) (T2_oneU _) w (hr.2.1.2.below hB |>.more hB.size)) (fun _ _ _ => trivial) ?_
      intro a w' p hx _ S
      replace hx := hx rfl
      have hb := hx.2
      exact anyH_lit (by kernel_rfl) (s147c2n a w' r p (S.sub (allC rfl (allC rfl (allC rfl (allC rfl (allC rfl (allC rfl (allC rfl (allC rfl (allC rfl (allC rfl (allC rfl allN)))))))))))) (hB.trans (hb.mono hB.size)) (kk.below hb kk.lt) (k2.below hb k2.lt) (⟨h0.1, h0.2.below hb⟩) (own_base_leU hx.1 hsz))
  have s147c1 : ∀ (a : Act) (w : World) (r : MB), Sx a 16 [(1, gv true (.pointer (some ⟨w0.heap.size, 0, none⟩))), (2, gv true (.pointer (some ⟨w0.heap.size + 1, 0, none⟩))), (3, gv true (.pointer (some ⟨w0.heap.size, 6, none⟩))), (6, gv true (.pointer (some ⟨w0.heap.size, 19, none⟩))), (9, gv true (.pointer (some ⟨w0.heap.size, 23, none⟩))), (4, gv true (.agg (oA (mO o)))), (7, gv true (.slice o.D o.x.ds.length o.dc)), (10, gv true (.slice o.L o.x.ls.length o.lc)), (5, gv true (.agg (oA r)))] → Below w0.heap.size w0 w → Blk w w0.heap.size 31 (mA o) → Blk w (w0.heap.size + 1) 31 z24 → (r.m = o.x.give ∧ OwM w (w0.heap.size + 2) r) → wpAnyH Try.prog .any ops (NoPanic Q) (fun _ => True) 8 #[true, true, true, true, true, false, true, true, false, false, false, false, false, false, false] a w := by
    subst hops
    intro a w r S hB kk k2 h0
    refine hx1 1 S (.pointer (some ⟨w0.heap.size, 6, none⟩)) (i := 9) rfl rfl (fun w' hw ev ec e => by go_simp; try rfl) trivial ?_ (by kernel_rfl) (by kernel_rfl) (by kernel_rfl)
    intro a S
    exact anyH_lit (by kernel_rfl) (s147c1n a w r S hB kk k2 h0)
  have s14c1 : ∀ (a : Act) (w : World) (r : MB), Sx a 16 [(1, gv true (.pointer (some ⟨w0.heap.size, 0, none⟩))), (2, gv true (.pointer (some ⟨w0.heap.size + 1, 0, none⟩))), (3, gv true (.pointer (some ⟨w0.heap.size, 6, none⟩))), (6, gv true (.pointer (some ⟨w0.heap.size, 19, none⟩))), (9, gv true (.pointer (some ⟨w0.heap.size, 23, none⟩))), (4, gv true (.agg (oA (mO o)))), (7, gv true (.slice o.D o.x.ds.length o.dc)), (5, gv true (.agg (oA r)))] → Below w0.heap.size w0 w → Blk w w0.heap.size 31 (mA o) → Blk w (w0.heap.size + 1) 31 z24 → (r.m = o.x.give ∧ OwM w (w0.heap.size + 2) r) → wpAnyH Try.prog .any ops (NoPanic Q) (fun _ => True) 9 #[true, true, true, true, true, false, true, false, false, false, false, false, false, false, false] a w := by
    subst hops
    intro a w r S hB kk k2 h0
    refine wpAnyH_ready (rs := [5, 7]) (by kernel_rfl) (by simp) (AllReadyH.cons rfl ?_ (AllReadyH.cons rfl ?_ (AllReadyH.nil)))
    · have hsz := k2.lt
      refine hKG (fun p : Option Addr × Nat => .slice p.1 o.x.ds.length p.2) (none, 0) S 38 #[.slice o.D o.x.ds.length o.dc] (fun p w' => w'.ownsRow w.heap.size 73 2 (.slice p.1 o.x.ds.length p.2) o.x.ds.length (T2 o.x.ds) ∧ Below w.heap.size w w') (wantN rfl _) trivial (fun _ => runG 7 S rfl rfl (fun ev ec ef e => by go_simp; try rfl)) (fun _ => cloneD o.D _ o.dc _ (by have := hsm.2.1; omega) (T2_oneU _) w (hr.2.1.2.below hB |>.more hB.size)) (fun _ _ _ => trivial) ?_
      intro a w' p hx _ S
      replace hx := hx rfl
      have hb := hx.2
      exact anyH_lit (by kernel_rfl) (s14c2 a w' r p (S.sub (allC rfl (allC rfl (allC rfl (allC rfl (allC rfl (allC rfl (allC rfl (allC rfl (allC rfl allN)))))))))) (hB.trans (hb.mono hB.size)) (kk.below hb kk.lt) (k2.below hb k2.lt) (⟨h0.1, h0.2.below hb⟩) (own_base_leU hx.1 hsz))
    · refine hVG S (.slice o.L o.x.ls.length o.lc) (wantN rfl _) trivial (fun _ => runG 9 S rfl rfl (fun ev ec ef e => by have s0 := kk.cell 23; go_simp; try rfl)) ?_
      intro a S
      exact anyH_lit (by kernel_rfl) (s147c1 a w r (S.sub (allC rfl (allC rfl (allC rfl (allC rfl (allC rfl (allC rfl (allC rfl (allC rfl (allC rfl allN)))))))))) hB kk k2 h0)
  have s17c1 : ∀ (a : Act) (w : World) (r : MB), Sx a 16 [(1, gv true (.pointer (some ⟨w0.heap.size, 0, none⟩))), (2, gv true (.pointer (some ⟨w0.heap.size + 1, 0, none⟩))), (3, gv true (.pointer (some ⟨w0.heap.size, 6, none⟩))), (6, gv true (.pointer (some ⟨w0.heap.size, 19, none⟩))), (9, gv true (.pointer (some ⟨w0.heap.size, 23, none⟩))), (4, gv true (.agg (oA (mO o)))), (10, gv true (.slice o.L o.x.ls.length o.lc)), (5, gv true (.agg (oA r)))] → Below w0.heap.size w0 w → Blk w w0.heap.size 31 (mA o) → Blk w (w0.heap.size + 1) 31 z24 → (r.m = o.x.give ∧ OwM w (w0.heap.size + 2) r) → wpAnyH Try.prog .any ops (NoPanic Q) (fun _ => True) 9 #[true, true, true, true, false, false, true, true, false, false, false, false, false, false, false] a w := by
    subst hops
    intro a w r S hB kk k2 h0
    refine wpAnyH_ready (rs := [4]) (by kernel_rfl) (by simp) (AllReadyH.cons rfl ?_ (AllReadyH.nil))
    · refine hVG S (.slice o.D o.x.ds.length o.dc) (wantN rfl _) trivial (fun _ => runG 6 S rfl rfl (fun ev ec ef e => by have s0 := kk.cell 19; go_simp; try rfl)) ?_
      intro a S
      exact anyH_lit (by kernel_rfl) (s147c1 a w r (S.sub (allC rfl (allC rfl (allC rfl (allC rfl (allC rfl (allC rfl (allC rfl (allC rfl (allC rfl allN)))))))))) hB kk k2 h0)
  have s1c1 : ∀ (a : Act) (w : World) (r : MB), Sx a 16 [(1, gv true (.pointer (some ⟨w0.heap.size, 0, none⟩))), (2, gv true (.pointer (some ⟨w0.heap.size + 1, 0, none⟩))), (3, gv true (.pointer (some ⟨w0.heap.size, 6, none⟩))), (6, gv true (.pointer (some ⟨w0.heap.size, 19, none⟩))), (9, gv true (.pointer (some ⟨w0.heap.size, 23, none⟩))), (4, gv true (.agg (oA (mO o)))), (5, gv true (.agg (oA r)))] → Below w0.heap.size w0 w → Blk w w0.heap.size 31 (mA o) → Blk w (w0.heap.size + 1) 31 z24 → (r.m = o.x.give ∧ OwM w (w0.heap.size + 2) r) → wpAnyH Try.prog .any ops (NoPanic Q) (fun _ => True) 10 #[true, true, true, true, false, false, true, false, false, false, false, false, false, false, false] a w := by
    subst hops
    intro a w r S hB kk k2 h0
    refine wpAnyH_ready (rs := [4, 7]) (by kernel_rfl) (by simp) (AllReadyH.cons rfl ?_ (AllReadyH.cons rfl ?_ (AllReadyH.nil)))
    · refine hVG S (.slice o.D o.x.ds.length o.dc) (wantN rfl _) trivial (fun _ => runG 6 S rfl rfl (fun ev ec ef e => by have s0 := kk.cell 19; go_simp; try rfl)) ?_
      intro a S
      exact anyH_lit (by kernel_rfl) (s14c1 a w r (S.sub (allC rfl (allC rfl (allC rfl (allC rfl (allC rfl (allC rfl (allC rfl (allC rfl allN))))))))) hB kk k2 h0)
    · refine hVG S (.slice o.L o.x.ls.length o.lc) (wantN rfl _) trivial (fun _ => runG 9 S rfl rfl (fun ev ec ef e => by have s0 := kk.cell 23; go_simp; try rfl)) ?_
      intro a S
      exact anyH_lit (by kernel_rfl) (s17c1 a w r (S.sub (allC rfl (allC rfl (allC rfl (allC rfl (allC rfl (allC rfl (allC rfl (allC rfl allN))))))))) hB kk k2 h0)
  have s147c0 : ∀ (a : Act) (w : World) , Sx a 16 [(1, gv true (.pointer (some ⟨w0.heap.size, 0, none⟩))), (2, gv true (.pointer (some ⟨w0.heap.size + 1, 0, none⟩))), (3, gv true (.pointer (some ⟨w0.heap.size, 6, none⟩))), (6, gv true (.pointer (some ⟨w0.heap.size, 19, none⟩))), (9, gv true (.pointer (some ⟨w0.heap.size, 23, none⟩))), (4, gv true (.agg (oA (mO o)))), (7, gv true (.slice o.D o.x.ds.length o.dc)), (10, gv true (.slice o.L o.x.ls.length o.lc))] → Below w0.heap.size w0 w → Blk w w0.heap.size 31 (mA o) → Blk w (w0.heap.size + 1) 31 z24 → wpAnyH Try.prog .any ops (NoPanic Q) (fun _ => True) 9 #[true, true, false, true, true, false, true, true, false, false, false, false, false, false, false] a w := by
    subst hops
    intro a w  S hB kk k2
    refine wpAnyH_ready (rs := [2]) (by kernel_rfl) (by simp) (AllReadyH.cons rfl ?_ (AllReadyH.nil))
    · have hsz := k2.lt
      refine hKG (fun r : MB => .agg (oA r)) ⟨zM, none, 0, none, 0, none, 0, none, 0⟩ S 37 #[.agg (oA (mO o))] (fun r w' => (r.m = o.x.give ∧ OwM w' w.heap.size r) ∧ Below w.heap.size w w') (wantN rfl _) trivial (fun _ => runG 4 S rfl rfl (fun ev ec ef e => by go_simp; try rfl)) (fun _ => (mtwU o hsm w (hr.below hB hB.size)).mono (fun en w' ⟨r, h1, h2, h3, h4⟩ => ⟨r, h1, ⟨h2, h3⟩, h4⟩)) (fun _ _ _ => trivial) ?_
      intro a w' r hx _ S
      replace hx := hx rfl
      have hb := hx.2
      exact anyH_lit (by kernel_rfl) (s147c1 a w' r (S.sub (allC rfl (allC rfl (allC rfl (allC rfl (allC rfl (allC rfl (allC rfl (allC rfl (allC rfl allN)))))))))) (hB.trans (hb.mono hB.size)) (kk.below hb kk.lt) (k2.below hb k2.lt)  (⟨hx.1.1, hx.1.2.base_le hsz⟩))
  have s14c0 : ∀ (a : Act) (w : World) , Sx a 16 [(1, gv true (.pointer (some ⟨w0.heap.size, 0, none⟩))), (2, gv true (.pointer (some ⟨w0.heap.size + 1, 0, none⟩))), (3, gv true (.pointer (some ⟨w0.heap.size, 6, none⟩))), (6, gv true (.pointer (some ⟨w0.heap.size, 19, none⟩))), (9, gv true (.pointer (some ⟨w0.heap.size, 23, none⟩))), (4, gv true (.agg (oA (mO o)))), (7, gv true (.slice o.D o.x.ds.length o.dc))] → Below w0.heap.size w0 w → Blk w w0.heap.size 31 (mA o) → Blk w (w0.heap.size + 1) 31 z24 → wpAnyH Try.prog .any ops (NoPanic Q) (fun _ => True) 10 #[true, true, false, true, true, false, true, false, false, false, false, false, false, false, false] a w := by
    subst hops
    intro a w  S hB kk k2
    refine wpAnyH_ready (rs := [2, 7]) (by kernel_rfl) (by simp) (AllReadyH.cons rfl ?_ (AllReadyH.cons rfl ?_ (AllReadyH.nil)))
    · have hsz := k2.lt
      refine hKG (fun r : MB => .agg (oA r)) ⟨zM, none, 0, none, 0, none, 0, none, 0⟩ S 37 #[.agg (oA (mO o))] (fun r w' => (r.m = o.x.give ∧ OwM w' w.heap.size r) ∧ Below w.heap.size w w') (wantN rfl _) trivial (fun _ => runG 4 S rfl rfl (fun ev ec ef e => by go_simp; try rfl)) (fun _ => (mtwU o hsm w (hr.below hB hB.size)).mono (fun en w' ⟨r, h1, h2, h3, h4⟩ => ⟨r, h1, ⟨h2, h3⟩, h4⟩)) (fun _ _ _ => trivial) ?_
      intro a w' r hx _ S
      replace hx := hx rfl
      have hb := hx.2
      exact anyH_lit (by kernel_rfl) (s14c1 a w' r (S.sub (allC rfl (allC rfl (allC rfl (allC rfl (allC rfl (allC rfl (allC rfl (allC rfl allN))))))))) (hB.trans (hb.mono hB.size)) (kk.below hb kk.lt) (k2.below hb k2.lt)  (⟨hx.1.1, hx.1.2.base_le hsz⟩))
    · refine hVG S (.slice o.L o.x.ls.length o.lc) (wantN rfl _) trivial (fun _ => runG 9 S rfl rfl (fun ev ec ef e => by have s0 := kk.cell 23; go_simp; try rfl)) ?_
      intro a S
      exact anyH_lit (by kernel_rfl) (s147c0 a w  (S.sub (allC rfl (allC rfl (allC rfl (allC rfl (allC rfl (allC rfl (allC rfl (allC rfl allN))))))))) hB kk k2)
  have s17c0 : ∀ (a : Act) (w : World) , Sx a 16 [(1, gv true (.pointer (some ⟨w0.heap.size, 0, none⟩))), (2, gv true (.pointer (some ⟨w0.heap.size + 1, 0, none⟩))), (3, gv true (.pointer (some ⟨w0.heap.size, 6, none⟩))), (6, gv true (.pointer (some ⟨w0.heap.size, 19, none⟩))), (9, gv true (.pointer (some ⟨w0.heap.size, 23, none⟩))), (4, gv true (.agg (oA (mO o)))), (10, gv true (.slice o.L o.x.ls.length o.lc))] → Below w0.heap.size w0 w → Blk w w0.heap.size 31 (mA o) → Blk w (w0.heap.size + 1) 31 z24 → wpAnyH Try.prog .any ops (NoPanic Q) (fun _ => True) 10 #[true, true, false, true, false, false, true, true, false, false, false, false, false, false, false] a w := by
    subst hops
    intro a w  S hB kk k2
    refine wpAnyH_ready (rs := [2, 4]) (by kernel_rfl) (by simp) (AllReadyH.cons rfl ?_ (AllReadyH.cons rfl ?_ (AllReadyH.nil)))
    · have hsz := k2.lt
      refine hKG (fun r : MB => .agg (oA r)) ⟨zM, none, 0, none, 0, none, 0, none, 0⟩ S 37 #[.agg (oA (mO o))] (fun r w' => (r.m = o.x.give ∧ OwM w' w.heap.size r) ∧ Below w.heap.size w w') (wantN rfl _) trivial (fun _ => runG 4 S rfl rfl (fun ev ec ef e => by go_simp; try rfl)) (fun _ => (mtwU o hsm w (hr.below hB hB.size)).mono (fun en w' ⟨r, h1, h2, h3, h4⟩ => ⟨r, h1, ⟨h2, h3⟩, h4⟩)) (fun _ _ _ => trivial) ?_
      intro a w' r hx _ S
      replace hx := hx rfl
      have hb := hx.2
      exact anyH_lit (by kernel_rfl) (s17c1 a w' r (S.sub (allC rfl (allC rfl (allC rfl (allC rfl (allC rfl (allC rfl (allC rfl (allC rfl allN))))))))) (hB.trans (hb.mono hB.size)) (kk.below hb kk.lt) (k2.below hb k2.lt)  (⟨hx.1.1, hx.1.2.base_le hsz⟩))
    · refine hVG S (.slice o.D o.x.ds.length o.dc) (wantN rfl _) trivial (fun _ => runG 6 S rfl rfl (fun ev ec ef e => by have s0 := kk.cell 19; go_simp; try rfl)) ?_
      intro a S
      exact anyH_lit (by kernel_rfl) (s147c0 a w  (S.sub (allC rfl (allC rfl (allC rfl (allC rfl (allC rfl (allC rfl (allC rfl (allC rfl allN))))))))) hB kk k2)
  have s47c0 : ∀ (a : Act) (w : World) , Sx a 16 [(1, gv true (.pointer (some ⟨w0.heap.size, 0, none⟩))), (2, gv true (.pointer (some ⟨w0.heap.size + 1, 0, none⟩))), (3, gv true (.pointer (some ⟨w0.heap.size, 6, none⟩))), (6, gv true (.pointer (some ⟨w0.heap.size, 19, none⟩))), (9, gv true (.pointer (some ⟨w0.heap.size, 23, none⟩))), (7, gv true (.slice o.D o.x.ds.length o.dc)), (10, gv true (.slice o.L o.x.ls.length o.lc))] → Below w0.heap.size w0 w → Blk w w0.heap.size 31 (mA o) → Blk w (w0.heap.size + 1) 31 z24 → wpAnyH Try.prog .any ops (NoPanic Q) (fun _ => True) 10 #[true, false, false, true, true, false, true, true, false, false, false, false, false, false, false] a w := by
    subst hops
    intro a w  S hB kk k2
    refine wpAnyH_ready (rs := [1]) (by kernel_rfl) (by simp) (AllReadyH.cons rfl ?_ (AllReadyH.nil))
    · refine hVG S (.agg (oA (mO o))) (wantN rfl _) trivial (fun _ => runG 3 S rfl rfl (fun ev ec ef e => run_load_mid 26 _ rfl _ 6 e (oA (mO o)).toList _ (kk.range 6 _ rfl) Try.underlying26 rfl (by kernel_rfl))) ?_
      intro a S
      exact anyH_lit (by kernel_rfl) (s147c0 a w  (S.sub (allC rfl (allC rfl (allC rfl (allC rfl (allC rfl (allC rfl (allC rfl (allC rfl allN))))))))) hB kk k2)
  have s1c0 : ∀ (a : Act) (w : World) , Sx a 16 [(1, gv true (.pointer (some ⟨w0.heap.size, 0, none⟩))), (2, gv true (.pointer (some ⟨w0.heap.size + 1, 0, none⟩))), (3, gv true (.pointer (some ⟨w0.heap.size, 6, none⟩))), (6, gv true (.pointer (some ⟨w0.heap.size, 19, none⟩))), (9, gv true (.pointer (some ⟨w0.heap.size, 23, none⟩))), (4, gv true (.agg (oA (mO o))))] → Below w0.heap.size w0 w → Blk w w0.heap.size 31 (mA o) → Blk w (w0.heap.size + 1) 31 z24 → wpAnyH Try.prog .any ops (NoPanic Q) (fun _ => True) 11 #[true, true, false, true, false, false, true, false, false, false, false, false, false, false, false] a w := by
    subst hops
    intro a w  S hB kk k2
    refine wpAnyH_ready (rs := [2, 4, 7]) (by kernel_rfl) (by simp) (AllReadyH.cons rfl ?_ (AllReadyH.cons rfl ?_ (AllReadyH.cons rfl ?_ (AllReadyH.nil))))
    · have hsz := k2.lt
      refine hKG (fun r : MB => .agg (oA r)) ⟨zM, none, 0, none, 0, none, 0, none, 0⟩ S 37 #[.agg (oA (mO o))] (fun r w' => (r.m = o.x.give ∧ OwM w' w.heap.size r) ∧ Below w.heap.size w w') (wantN rfl _) trivial (fun _ => runG 4 S rfl rfl (fun ev ec ef e => by go_simp; try rfl)) (fun _ => (mtwU o hsm w (hr.below hB hB.size)).mono (fun en w' ⟨r, h1, h2, h3, h4⟩ => ⟨r, h1, ⟨h2, h3⟩, h4⟩)) (fun _ _ _ => trivial) ?_
      intro a w' r hx _ S
      replace hx := hx rfl
      have hb := hx.2
      exact anyH_lit (by kernel_rfl) (s1c1 a w' r (S.sub (allC rfl (allC rfl (allC rfl (allC rfl (allC rfl (allC rfl (allC rfl allN)))))))) (hB.trans (hb.mono hB.size)) (kk.below hb kk.lt) (k2.below hb k2.lt)  (⟨hx.1.1, hx.1.2.base_le hsz⟩))
    · refine hVG S (.slice o.D o.x.ds.length o.dc) (wantN rfl _) trivial (fun _ => runG 6 S rfl rfl (fun ev ec ef e => by have s0 := kk.cell 19; go_simp; try rfl)) ?_
      intro a S
      exact anyH_lit (by kernel_rfl) (s14c0 a w  (S.sub (allC rfl (allC rfl (allC rfl (allC rfl (allC rfl (allC rfl (allC rfl allN)))))))) hB kk k2)
    · refine hVG S (.slice o.L o.x.ls.length o.lc) (wantN rfl _) trivial (fun _ => runG 9 S rfl rfl (fun ev ec ef e => by have s0 := kk.cell 23; go_simp; try rfl)) ?_
      intro a S
      exact anyH_lit (by kernel_rfl) (s17c0 a w  (S.sub (allC rfl (allC rfl (allC rfl (allC rfl (allC rfl (allC rfl (allC rfl allN)))))))) hB kk k2)
  have s4c0 : ∀ (a : Act) (w : World) , Sx a 16 [(1, gv true (.pointer (some ⟨w0.heap.size, 0, none⟩))), (2, gv true (.pointer (some ⟨w0.heap.size + 1, 0, none⟩))), (3, gv true (.pointer (some ⟨w0.heap.size, 6, none⟩))), (6, gv true (.pointer (some ⟨w0.heap.size, 19, none⟩))), (9, gv true (.pointer (some ⟨w0.heap.size, 23, none⟩))), (7, gv true (.slice o.D o.x.ds.length o.dc))] → Below w0.heap.size w0 w → Blk w w0.heap.size 31 (mA o) → Blk w (w0.heap.size + 1) 31 z24 → wpAnyH Try.prog .any ops (NoPanic Q) (fun _ => True) 11 #[true, false, false, true, true, false, true, false, false, false, false, false, false, false, false] a w := by
    subst hops
    intro a w  S hB kk k2
    refine wpAnyH_ready (rs := [1, 7]) (by kernel_rfl) (by simp) (AllReadyH.cons rfl ?_ (AllReadyH.cons rfl ?_ (AllReadyH.nil)))
    · refine hVG S (.agg (oA (mO o))) (wantN rfl _) trivial (fun _ => runG 3 S rfl rfl (fun ev ec ef e => run_load_mid 26 _ rfl _ 6 e (oA (mO o)).toList _ (kk.range 6 _ rfl) Try.underlying26 rfl (by kernel_rfl))) ?_
      intro a S
      exact anyH_lit (by kernel_rfl) (s14c0 a w  (S.sub (allC rfl (allC rfl (allC rfl (allC rfl (allC rfl (allC rfl (allC rfl allN)))))))) hB kk k2)
    · refine hVG S (.slice o.L o.x.ls.length o.lc) (wantN rfl _) trivial (fun _ => runG 9 S rfl rfl (fun ev ec ef e => by have s0 := kk.cell 23; go_simp; try rfl)) ?_
      intro a S
      exact anyH_lit (by kernel_rfl) (s47c0 a w  (S.sub (allC rfl (allC rfl (allC rfl (allC rfl (allC rfl (allC rfl (allC rfl allN)))))))) hB kk k2)
  have s7c0 : ∀ (a : Act) (w : World) , Sx a 16 [(1, gv true (.pointer (some ⟨w0.heap.size, 0, none⟩))), (2, gv true (.pointer (some ⟨w0.heap.size + 1, 0, none⟩))), (3, gv true (.pointer (some ⟨w0.heap.size, 6, none⟩))), (6, gv true (.pointer (some ⟨w0.heap.size, 19, none⟩))), (9, gv true (.pointer (some ⟨w0.heap.size, 23, none⟩))), (10, gv true (.slice o.L o.x.ls.length o.lc))] → Below w0.heap.size w0 w → Blk w w0.heap.size 31 (mA o) → Blk w (w0.heap.size + 1) 31 z24 → wpAnyH Try.prog .any ops (NoPanic Q) (fun _ => True) 11 #[true, false, false, true, false, false, true, true, false, false, false, false, false, false, false] a w := by
    subst hops
    intro a w  S hB kk k2
    refine wpAnyH_ready (rs := [1, 4]) (by kernel_rfl) (by simp) (AllReadyH.cons rfl ?_ (AllReadyH.cons rfl ?_ (AllReadyH.nil)))
    · refine hVG S (.agg (oA (mO o))) (wantN rfl _) trivial (fun _ => runG 3 S rfl rfl (fun ev ec ef e => run_load_mid 26 _ rfl _ 6 e (oA (mO o)).toList _ (kk.range 6 _ rfl) Try.underlying26 rfl (by kernel_rfl))) ?_
      intro a S
      exact anyH_lit (by kernel_rfl) (s17c0 a w  (S.sub (allC rfl (allC rfl (allC rfl (allC rfl (allC rfl (allC rfl (allC rfl allN)))))))) hB kk k2)
    · refine hVG S (.slice o.D o.x.ds.length o.dc) (wantN rfl _) trivial (fun _ => runG 6 S rfl rfl (fun ev ec ef e => by have s0 := kk.cell 19; go_simp; try rfl)) ?_
      intro a S
      exact anyH_lit (by kernel_rfl) (s47c0 a w  (S.sub (allC rfl (allC rfl (allC rfl (allC rfl (allC rfl (allC rfl (allC rfl allN)))))))) hB kk k2)
  have sc0 : ∀ (a : Act) (w : World) , Sx a 16 [(1, gv true (.pointer (some ⟨w0.heap.size, 0, none⟩))), (2, gv true (.pointer (some ⟨w0.heap.size + 1, 0, none⟩))), (3, gv true (.pointer (some ⟨w0.heap.size, 6, none⟩))), (6, gv true (.pointer (some ⟨w0.heap.size, 19, none⟩))), (9, gv true (.pointer (some ⟨w0.heap.size, 23, none⟩)))] → Below w0.heap.size w0 w → Blk w w0.heap.size 31 (mA o) → Blk w (w0.heap.size + 1) 31 z24 → wpAnyH Try.prog .any ops (NoPanic Q) (fun _ => True) 12 #[true, false, false, true, false, false, true, false, false, false, false, false, false, false, false] a w := by
    subst hops
    intro a w  S hB kk k2
    refine wpAnyH_ready (rs := [1, 4, 7]) (by kernel_rfl) (by simp) (AllReadyH.cons rfl ?_ (AllReadyH.cons rfl ?_ (AllReadyH.cons rfl ?_ (AllReadyH.nil))))
    · refine hVG S (.agg (oA (mO o))) (wantN rfl _) trivial (fun _ => runG 3 S rfl rfl (fun ev ec ef e => run_load_mid 26 _ rfl _ 6 e (oA (mO o)).toList _ (kk.range 6 _ rfl) Try.underlying26 rfl (by kernel_rfl))) ?_
      intro a S
      exact anyH_lit (by kernel_rfl) (s1c0 a w  (S.sub (allC rfl (allC rfl (allC rfl (allC rfl (allC rfl (allC rfl allN))))))) hB kk k2)
    · refine hVG S (.slice o.D o.x.ds.length o.dc) (wantN rfl _) trivial (fun _ => runG 6 S rfl rfl (fun ev ec ef e => by have s0 := kk.cell 19; go_simp; try rfl)) ?_
      intro a S
      exact anyH_lit (by kernel_rfl) (s4c0 a w  (S.sub (allC rfl (allC rfl (allC rfl (allC rfl (allC rfl (allC rfl allN))))))) hB kk k2)
    · refine hVG S (.slice o.L o.x.ls.length o.lc) (wantN rfl _) trivial (fun _ => runG 9 S rfl rfl (fun ev ec ef e => by have s0 := kk.cell 23; go_simp; try rfl)) ?_
      intro a S
      exact anyH_lit (by kernel_rfl) (s7c0 a w  (S.sub (allC rfl (allC rfl (allC rfl (allC rfl (allC rfl (allC rfl allN))))))) hB kk k2)
  exact sc0
theorem mltwin_any (o : MO) (hsm : smL o.x) (w0 : World) (hr : rdL w0 w0.heap.size o) : Calls Try.prog 16 #[aggL o] w0 fun en w' => ∃ r : MO, r.x = o.x ∧ en = .returned (aggL r) ∧ OwL w' w0.heap.size r ∧ Below w0.heap.size w0 w' := by
  change Calls Try.prog 16 #[.agg (mA o)] w0 _
  go_enter Try.func16, Try.ntmps16
  refine wp_abs (l := [(0, gv true (.agg (mA o)))]) 16 rfl rfl (allC rfl allN) ?_
  intro a S
  refine wp_seq (wp_region_lit ?_)
  refine sxW S (.pointer (some ⟨w0.heap.size, 0, none⟩)) (w0.alloc (.cells (mA o) 31)) (wantN rfl _) (runG 0 S rfl rfl (fun ev ec ef e => by go_simp; try rfl)) ?_; intro a S
  have kk := Blk.new w0 31 (mA o)
  have hB := (Below.refl w0.heap.size w0).alloc (Nat.le_refl _) (.cells (mA o) 31)
  have s1 := World.size_alloc w0 (.cells (mA o) 31)
  obtain ⟨w, hw⟩ : ∃ W, W = w0.alloc (.cells (mA o) 31) := ⟨_, rfl⟩
  rw [← hw] at kk hB s1 ⊢
  clear hw
  refine sxW S (.pointer (some ⟨w.heap.size, 0, none⟩)) (w.alloc (.cells z24 31)) (wantN rfl _) (by go_simp; try rfl) ?_; intro a S
  have k2 := Blk.new w 31 z24
  have hb := (Below.refl w.heap.size w).alloc (Nat.le_refl _) (.cells z24 31)
  obtain ⟨w1, hw⟩ : ∃ W, W = w.alloc (.cells z24 31) := ⟨_, rfl⟩
  rw [← hw] at k2 hb ⊢
  clear hw
  replace kk := kk.below hb kk.lt
  replace hB := hB.trans (hb.mono hB.size)
  clear hb
  rw [s1] at k2 S
  clear s1
  refine wpList_nil ?_
  show Code.wp _ _ _ _ _
  refine wp_join (fun a w => ∃ r : MO, Sx a 16 [(1, gv true (.pointer (some ⟨w0.heap.size, 0, none⟩))), (2, gv true (.pointer (some ⟨w0.heap.size + 1, 0, none⟩)))] ∧ Below w0.heap.size w0 w ∧ Blk w w0.heap.size 31 (mA r) ∧ Blk w (w0.heap.size + 1) 31 z24 ∧ OwL w (w0.heap.size + 2) r ∧ r.x = o.x) ?_ (fun a w ⟨r, S, hB, kk, k2, how, hx⟩ => ?_)
  · refine wp_region_noPanic ?_
    refine wp_region_held_drew (S := fun _ => True) (by kernel_rfl) trivial (fun _ => ?_)
    replace hB := hB.drew
    replace kk := kk.drew
    replace k2 := k2.drew
    obtain ⟨w, hw⟩ : ∃ W, W = w1.drew := ⟨_, rfl⟩
    rw [← hw] at hB kk k2 ⊢
    clear hw
    refine hx1 1 S (.pointer (some ⟨w0.heap.size, 6, none⟩)) (i := 0) rfl rfl (fun w' hw ev ec e => by go_simp; try rfl) trivial ?_ (by kernel_rfl) (by kernel_rfl) (by kernel_rfl)
    intro a S
    refine hx1 1 S (.pointer (some ⟨w0.heap.size, 19, none⟩)) (i := 3) rfl rfl (fun w' hw ev ec e => by go_simp; try rfl) trivial ?_ (by kernel_rfl) (by kernel_rfl) (by kernel_rfl)
    intro a S
    refine hx1 1 S (.pointer (some ⟨w0.heap.size, 23, none⟩)) (i := 6) rfl rfl (fun w' hw ev ec e => by go_simp; try rfl) trivial ?_ (by kernel_rfl) (by kernel_rfl) (by kernel_rfl)
    intro a S
    replace S : Sx a 16 [(1, gv true (.pointer (some ⟨w0.heap.size, 0, none⟩))), (2, gv true (.pointer (some ⟨w0.heap.size + 1, 0, none⟩))), (3, gv true (.pointer (some ⟨w0.heap.size, 6, none⟩))), (6, gv true (.pointer (some ⟨w0.heap.size, 19, none⟩))), (9, gv true (.pointer (some ⟨w0.heap.size, 23, none⟩)))] := S.sub (allC rfl (allC rfl (allC rfl (allC rfl (allC rfl allN)))))
    refine anyH_lit (L := #[true, false, false, true, false, false, true, false, false, false, false, false, false, false, false]) (by kernel_rfl) ?_
    exact twinS o hsm w0 hr _ (by rfl) _ (fun a w r S hB kk k2 how hx => ⟨r, S, hB, kk, k2, how, hx⟩) a w S hB kk k2
  refine wp_seq (wp_region_lit ?_)
  refine sx1 1 S (.agg (mA r)) (wantN rfl _) rfl (fun _ => rfl) (fun ev ec e => run_load_row 31 _ rfl _ e (mA r) 31 _ kk Try.underlying31 rfl (by kernel_rfl)) ?_; intro a S
  refine sxS (x := 2) (y := 15) S (w.setRow (w0.heap.size + 1) (mA r)) rfl rfl (fun ev e e2 => run_store_row 31 _ _ rfl _ e (mA r) e2 31 z24 k2 (by kernel_rfl) rfl (by simp [Value.oneCell'])) ?_; intro a S
  refine wpList_nil ?_
  show Code.wp _ _ _ _ _
  refine wp_ret ?_
  first | (show bodyPost _ _ _ .ret a _) | (refine then_ret ?_; show bodyPost _ _ _ .ret a _)
  refine bodyPost_ret (results_cell_row rfl _ _ (w0.heap.size + 1) 31 (mA r) (0, 0) _ (S.fx 2 _ rfl) (k2.setRow (mA r)).row Try.underlying31 rfl (by kernel_rfl)) S.df ?_
  exact ⟨r, hx, rfl, (how.setRow (show w0.heap.size + 1 < w0.heap.size + 2 by omega) _).base_le (by omega), below_setRow hB (by omega) _⟩
end Go.Proofs.Ytjmhefkmpfkpbaa
