/- Mail: mail.Read: the lists' rounds -/
import Derived.Test.YtjmhefkmpfkpbaaZUT
namespace Go.Proofs.Ytjmhefkmpfkpbaa
open Go.ChangeShapes Go.WideShapes Go.ChangeAt Go.RowKit
set_option linter.unusedSimpArgs false
set_option linter.unusedVariables false
set_option maxRecDepth 100000
abbrev obR (w0 : World) (g7 g9 : Nat) (K : Int) (A1 : Option Addr) (n1 c1 : Nat) : List (Nat × Value) := [(2, gv true (.pointer (some ⟨w0.heap.size, 0, none⟩))), (4, gv true (.int .u8 K)), (5, gv true (.slice A1 n1 c1)), (7, gv true (.pointer (some ⟨g7, 0, none⟩))), (8, gv true (fnT g7)), (9, gv true (.pointer (some ⟨g9, 0, none⟩)))]
set_option maxHeartbeats 16000000 in
theorem rd5R {w0 : World} {g7 g9 n1 c1 j : Nat} {K fr tt ep nu : Int} {A1 : Option Addr} {L : List Int} {wa : Bool} {acc : List Tm} {D : Option Addr} {dc p : Nat} (I : RqI A1 n1 c1 L) (hacc : acc.length ≤ 256) (ops : Array Oper) (hops : (Try.f14.body).map (fun c => opsC (blockC (fstC (sndC (loopC (blockC (sndC (sndC (thenC (sndC (elseC (sndC (elseC (sndC (blockC (sndC (fstC (sndC (sndC (sndC (sndC (sndC (sndC (sndC c)))))))))))))))))))))))) = some ops) (Q : Exit → Act → World → Prop)
    (fin : ∀ (a : Act) (w : World) (D' : Option Addr) (dc' : Nat), Sx a 157 ([(10, gv true (.int .i64 (j : Int)))] ++ obR w0 g7 g9 K A1 n1 c1) → RqS w0 g7 g9 A1 n1 c1 L ⟨⟨K, fr, tt, ep, nu, 0, zM, wa, (acc ++ [((rN L (some p) 1).2, (rN L (rN L (some p) 1).1 4).2)]), false, 0, 0, []⟩, none, 0, none, 0, none, 0, none, 0, D', dc', none, 0⟩ (rN L (rN L (some p) 1).1 4).1 w → Q .normal a w) :
    ∀ (a : Act) (w : World), Sx a 157 ([(10, gv true (.int .i64 (j : Int)))] ++ obR w0 g7 g9 K A1 n1 c1) → RqS w0 g7 g9 A1 n1 c1 L ⟨⟨K, fr, tt, ep, nu, 0, zM, wa, acc, false, 0, 0, []⟩, none, 0, none, 0, none, 0, none, 0, D, dc, none, 0⟩ (some p) w → wpAnyH Try.prog .any ops (NoPanic Q) (fun _ => True) 11 #[false, false, false, false, false, false, false, false, false, false, false] a w := by
  dsimp only [Try.f14, Option.map, fstC, sndC, thenC, elseC, blockC, loopC, opsC] at hops
  injection hops with hops
  have s13 : ∀ (a : Act) (w : World) (gp : Nat), Sx a 157 ([(89, gv true (.slice D acc.length dc)), (95, gv true (.slice (some ⟨gp, 0, none⟩) 1 1)), (88, gv true (.pointer (some ⟨g9, 19, none⟩))), (90, gv true (fnT g7)), (92, gv true (fnT g7)), (10, gv true (.int .i64 (j : Int)))] ++ obR w0 g7 g9 K A1 n1 c1) → RqS w0 g7 g9 A1 n1 c1 L ⟨⟨K, fr, tt, ep, nu, 0, zM, wa, acc, false, 0, 0, []⟩, none, 0, none, 0, none, 0, none, 0, D, dc, none, 0⟩ (rN L (rN L (some p) 1).1 4).1 w → Reads w w.heap.size 2 (some ⟨gp, 0, none⟩) 1 [.int .i64 (rN L (some p) 1).2, .int .i64 (rN L (rN L (some p) 1).1 4).2] → wpAnyH Try.prog .any ops (NoPanic Q) (fun _ => True) 3 #[true, true, true, true, true, true, true, true, false, false, false] a w := by
    subst hops
    intro a w gp S H hgp
    obtain ⟨i0, hi0, hz0, hz1, hz2⟩ := info_parts infoDs
    refine wpAnyH_ready (rs := [8]) (by kernel_rfl) (by simp) (AllReadyH.cons rfl ?_ AllReadyH.nil)
    refine rdA i0 _ 2 16 Try.underlying27 hi0 hz0 hz1 hz2 rfl (by omega) H S H.ow.2.1 hgp (by simp [Value.oneCell']) (by show acc.length ≤ 100000; omega) (by omega) (fun a w D' dc' S H hor => ?_)
    refine hx1 9 S (.pointer (some ⟨g9, 19, none⟩)) (i := 9) rfl rfl (fun w' hw ev ec e => by go_simp; try rfl) trivial ?_ (by kernel_rfl) (by kernel_rfl) (by kernel_rfl)
    intro a S
    refine wpAnyH_ready (rs := [10]) (by kernel_rfl) (by simp) (AllReadyH.cons rfl ?_ AllReadyH.nil)
    refine hxS (x := 97) (y := 96) S (w.setCell ⟨g9, 19, none⟩ (.slice D' (acc.length + 1) dc')) rfl rfl (fun ev e e2 => run_store_cell _ _ rfl e e2 H.k9 (by show 19 < 24; omega) rfl (by kernel_rfl)) trivial ?_
    intro a S
    have hl1 : (acc ++ [((rN L (some p) 1).2, (rN L (rN L (some p) 1).1 4).2)]).length = acc.length + 1 := by simp
    replace H := H.cell (off := 19) (v := .slice D' (acc.length + 1) dc') ⟨⟨K, fr, tt, ep, nu, 0, zM, wa, (acc ++ [((rN L (some p) 1).2, (rN L (rN L (some p) 1).1 4).2)]), false, 0, 0, []⟩, none, 0, none, 0, none, 0, none, 0, D', dc', none, 0⟩ ⟨⟨OwD.one _ _, OwD.one _ _, OwD.one _ _, OwD.one _ _⟩, by dsimp only; rw [hl1, T2_app]; exact hor, World.ownsRow_nil _ _ _ _⟩ (by unfold mA; dsimp only; rw [hl1]; rfl)
    refine wpAnyH_done (by kernel_rfl) ?_ _
    refine NoPanic.normal ?_
    exact fin a _ D' dc' (S.sub (allC rfl (allC rfl (allC rfl (allC rfl (allC rfl (allC rfl (allC rfl allN)))))))) H
  have s03 : ∀ (a : Act) (w : World) (gp : Nat), Sx a 157 ([(95, gv true (.slice (some ⟨gp, 0, none⟩) 1 1)), (88, gv true (.pointer (some ⟨g9, 19, none⟩))), (90, gv true (fnT g7)), (92, gv true (fnT g7)), (10, gv true (.int .i64 (j : Int)))] ++ obR w0 g7 g9 K A1 n1 c1) → RqS w0 g7 g9 A1 n1 c1 L ⟨⟨K, fr, tt, ep, nu, 0, zM, wa, acc, false, 0, 0, []⟩, none, 0, none, 0, none, 0, none, 0, D, dc, none, 0⟩ (rN L (rN L (some p) 1).1 4).1 w → Reads w w.heap.size 2 (some ⟨gp, 0, none⟩) 1 [.int .i64 (rN L (some p) 1).2, .int .i64 (rN L (rN L (some p) 1).1 4).2] → wpAnyH Try.prog .any ops (NoPanic Q) (fun _ => True) 4 #[true, false, true, true, true, true, true, true, false, false, false] a w := by
    subst hops
    intro a w gp S H hgp
    refine wpAnyH_ready (rs := [1]) (by kernel_rfl) (by simp) (AllReadyH.cons rfl ?_ (AllReadyH.nil))
    · refine hVG S (.slice D acc.length dc) (wantN rfl _) trivial (fun _ => runG 88 S rfl rfl (fun ev ec ef e => by have s0 := H.k9.cell 19; go_simp; try rfl)) ?_
      intro a S
      exact anyH_lit (by kernel_rfl) (s13 a w gp (S.sub (allC rfl (allC rfl (allC rfl (allC rfl (allC rfl (allC rfl (allC rfl (allC rfl (allC rfl (allC rfl (allC rfl (allC rfl allN))))))))))))) H hgp)
  have s12 : ∀ (a : Act) (w : World), Sx a 157 ([(89, gv true (.slice D acc.length dc)), (94, gv true (.agg #[.int .i64 (rN L (some p) 1).2, .int .i64 (rN L (rN L (some p) 1).1 4).2])), (88, gv true (.pointer (some ⟨g9, 19, none⟩))), (90, gv true (fnT g7)), (92, gv true (fnT g7)), (10, gv true (.int .i64 (j : Int)))] ++ obR w0 g7 g9 K A1 n1 c1) → RqS w0 g7 g9 A1 n1 c1 L ⟨⟨K, fr, tt, ep, nu, 0, zM, wa, acc, false, 0, 0, []⟩, none, 0, none, 0, none, 0, none, 0, D, dc, none, 0⟩ (rN L (rN L (some p) 1).1 4).1 w → wpAnyH Try.prog .any ops (NoPanic Q) (fun _ => True) 4 #[true, true, true, true, true, true, true, false, false, false, false] a w := by
    subst hops
    intro a w S H
    refine wpAnyH_ready (rs := [7]) (by kernel_rfl) (by simp) (AllReadyH.cons rfl ?_ (AllReadyH.nil))
    · refine hxW S (.slice (some ⟨w.heap.size, 0, none⟩) 1 1) (w.alloc (.cells #[.int .i64 (rN L (some p) 1).2, .int .i64 (rN L (rN L (some p) 1).1 4).2] 73)) (runG 94 S rfl rfl (fun ev ec ef e => by go_simp; try simp)) trivial ?_
      intro a S
      have hgp : Reads (w.alloc (.cells #[.int .i64 (rN L (some p) 1).2, .int .i64 (rN L (rN L (some p) 1).1 4).2] 73)) (w.alloc (.cells #[.int .i64 (rN L (some p) 1).2, .int .i64 (rN L (rN L (some p) 1).1 4).2] 73)).heap.size 2 (some ⟨w.heap.size, 0, none⟩) 1 [.int .i64 (rN L (some p) 1).2, .int .i64 (rN L (rN L (some p) 1).1 4).2] := by rw [World.size_alloc]; exact reads_one w [.int .i64 (rN L (some p) 1).2, .int .i64 (rN L (rN L (some p) 1).1 4).2] 73 2 rfl
      exact anyH_lit (by kernel_rfl) (s13 a _ w.heap.size (S.sub (allC rfl (allC rfl (allC rfl (allC rfl (allC rfl (allC rfl (allC rfl (allC rfl (allC rfl (allC rfl (allC rfl (allC rfl allN))))))))))))) (H.below ((Below.refl _ _).alloc (Nat.le_refl _) _)) hgp)
  have s02 : ∀ (a : Act) (w : World), Sx a 157 ([(94, gv true (.agg #[.int .i64 (rN L (some p) 1).2, .int .i64 (rN L (rN L (some p) 1).1 4).2])), (88, gv true (.pointer (some ⟨g9, 19, none⟩))), (90, gv true (fnT g7)), (92, gv true (fnT g7)), (10, gv true (.int .i64 (j : Int)))] ++ obR w0 g7 g9 K A1 n1 c1) → RqS w0 g7 g9 A1 n1 c1 L ⟨⟨K, fr, tt, ep, nu, 0, zM, wa, acc, false, 0, 0, []⟩, none, 0, none, 0, none, 0, none, 0, D, dc, none, 0⟩ (rN L (rN L (some p) 1).1 4).1 w → wpAnyH Try.prog .any ops (NoPanic Q) (fun _ => True) 5 #[true, false, true, true, true, true, true, false, false, false, false] a w := by
    subst hops
    intro a w S H
    refine wpAnyH_ready (rs := [1, 7]) (by kernel_rfl) (by simp) (AllReadyH.cons rfl ?_ (AllReadyH.cons rfl ?_ (AllReadyH.nil)))
    · refine hVG S (.slice D acc.length dc) (wantN rfl _) trivial (fun _ => runG 88 S rfl rfl (fun ev ec ef e => by have s0 := H.k9.cell 19; go_simp; try rfl)) ?_
      intro a S
      exact anyH_lit (by kernel_rfl) (s12 a w (S.sub (allC rfl (allC rfl (allC rfl (allC rfl (allC rfl (allC rfl (allC rfl (allC rfl (allC rfl (allC rfl (allC rfl (allC rfl allN))))))))))))) H)
    · refine hxW S (.slice (some ⟨w.heap.size, 0, none⟩) 1 1) (w.alloc (.cells #[.int .i64 (rN L (some p) 1).2, .int .i64 (rN L (rN L (some p) 1).1 4).2] 73)) (runG 94 S rfl rfl (fun ev ec ef e => by go_simp; try simp)) trivial ?_
      intro a S
      have hgp : Reads (w.alloc (.cells #[.int .i64 (rN L (some p) 1).2, .int .i64 (rN L (rN L (some p) 1).1 4).2] 73)) (w.alloc (.cells #[.int .i64 (rN L (some p) 1).2, .int .i64 (rN L (rN L (some p) 1).1 4).2] 73)).heap.size 2 (some ⟨w.heap.size, 0, none⟩) 1 [.int .i64 (rN L (some p) 1).2, .int .i64 (rN L (rN L (some p) 1).1 4).2] := by rw [World.size_alloc]; exact reads_one w [.int .i64 (rN L (some p) 1).2, .int .i64 (rN L (rN L (some p) 1).1 4).2] 73 2 rfl
      exact anyH_lit (by kernel_rfl) (s03 a _ w.heap.size (S.sub (allC rfl (allC rfl (allC rfl (allC rfl (allC rfl (allC rfl (allC rfl (allC rfl (allC rfl (allC rfl (allC rfl allN)))))))))))) (H.below ((Below.refl _ _).alloc (Nat.le_refl _) _)) hgp)
  have s11 : ∀ (a : Act) (w : World), Sx a 157 ([(89, gv true (.slice D acc.length dc)), (91, gv true (.int .i64 (rN L (some p) 1).2)), (88, gv true (.pointer (some ⟨g9, 19, none⟩))), (90, gv true (fnT g7)), (92, gv true (fnT g7)), (10, gv true (.int .i64 (j : Int)))] ++ obR w0 g7 g9 K A1 n1 c1) → RqS w0 g7 g9 A1 n1 c1 L ⟨⟨K, fr, tt, ep, nu, 0, zM, wa, acc, false, 0, 0, []⟩, none, 0, none, 0, none, 0, none, 0, D, dc, none, 0⟩ (rN L (some p) 1).1 w → wpAnyH Try.prog .any ops (NoPanic Q) (fun _ => True) 6 #[true, true, true, true, true, false, false, false, false, false, false] a w := by
    subst hops
    intro a w S H
    refine wpAnyH_ready (rs := [5]) (by kernel_rfl) (by simp) (AllReadyH.cons rfl ?_ (AllReadyH.nil))
    · refine hKG (fun z : Int => .int .i64 z) 0 S 33 #[.pointer (some ⟨g7, 0, none⟩), .int .i64 4] (fun z w' => z = (rN L (rN L (some p) 1).1 4).2 ∧ RqB w0 g7 A1 n1 c1 L (rN L (rN L (some p) 1).1 4).1 w' ∧ Only g7 w w') (wantN rfl _) trivial (fun _ => runG 92 S rfl rfl (fun ev ec ef e => by go_simp; try rfl)) (fun _ => (take_run 4 I H.toRqB (by decide) (by decide) rfl).mono (fun en w' hh => ⟨_, hh.1, rfl, hh.2⟩)) (fun _ _ _ => trivial) ?_
      intro a w1 z hz _ S
      obtain ⟨rfl, h2, h3⟩ := hz rfl
      replace H := H.next h2 h3
      refine hx2 91 93 S (.agg #[.int .i64 (rN L (some p) 1).2, .int .i64 (rN L (rN L (some p) 1).1 4).2]) (i := 6) rfl rfl rfl rfl (fun w' hw ev ec e e2 => by go_simp; try simp) trivial ?_ (by kernel_rfl) (by kernel_rfl) (by kernel_rfl)
      intro a S
      exact anyH_lit (by kernel_rfl) (s12 a w1 (S.sub (allC rfl (allC rfl (allC rfl (allC rfl (allC rfl (allC rfl (allC rfl (allC rfl (allC rfl (allC rfl (allC rfl (allC rfl allN))))))))))))) H)
  have s01 : ∀ (a : Act) (w : World), Sx a 157 ([(91, gv true (.int .i64 (rN L (some p) 1).2)), (88, gv true (.pointer (some ⟨g9, 19, none⟩))), (90, gv true (fnT g7)), (92, gv true (fnT g7)), (10, gv true (.int .i64 (j : Int)))] ++ obR w0 g7 g9 K A1 n1 c1) → RqS w0 g7 g9 A1 n1 c1 L ⟨⟨K, fr, tt, ep, nu, 0, zM, wa, acc, false, 0, 0, []⟩, none, 0, none, 0, none, 0, none, 0, D, dc, none, 0⟩ (rN L (some p) 1).1 w → wpAnyH Try.prog .any ops (NoPanic Q) (fun _ => True) 7 #[true, false, true, true, true, false, false, false, false, false, false] a w := by
    subst hops
    intro a w S H
    refine wpAnyH_ready (rs := [1, 5]) (by kernel_rfl) (by simp) (AllReadyH.cons rfl ?_ (AllReadyH.cons rfl ?_ (AllReadyH.nil)))
    · refine hVG S (.slice D acc.length dc) (wantN rfl _) trivial (fun _ => runG 88 S rfl rfl (fun ev ec ef e => by have s0 := H.k9.cell 19; go_simp; try rfl)) ?_
      intro a S
      exact anyH_lit (by kernel_rfl) (s11 a w (S.sub (allC rfl (allC rfl (allC rfl (allC rfl (allC rfl (allC rfl (allC rfl (allC rfl (allC rfl (allC rfl (allC rfl (allC rfl allN))))))))))))) H)
    · refine hKG (fun z : Int => .int .i64 z) 0 S 33 #[.pointer (some ⟨g7, 0, none⟩), .int .i64 4] (fun z w' => z = (rN L (rN L (some p) 1).1 4).2 ∧ RqB w0 g7 A1 n1 c1 L (rN L (rN L (some p) 1).1 4).1 w' ∧ Only g7 w w') (wantN rfl _) trivial (fun _ => runG 92 S rfl rfl (fun ev ec ef e => by go_simp; try rfl)) (fun _ => (take_run 4 I H.toRqB (by decide) (by decide) rfl).mono (fun en w' hh => ⟨_, hh.1, rfl, hh.2⟩)) (fun _ _ _ => trivial) ?_
      intro a w1 z hz _ S
      obtain ⟨rfl, h2, h3⟩ := hz rfl
      replace H := H.next h2 h3
      refine hx2 91 93 S (.agg #[.int .i64 (rN L (some p) 1).2, .int .i64 (rN L (rN L (some p) 1).1 4).2]) (i := 6) rfl rfl rfl rfl (fun w' hw ev ec e e2 => by go_simp; try simp) trivial ?_ (by kernel_rfl) (by kernel_rfl) (by kernel_rfl)
      intro a S
      exact anyH_lit (by kernel_rfl) (s02 a w1 (S.sub (allC rfl (allC rfl (allC rfl (allC rfl (allC rfl (allC rfl (allC rfl (allC rfl (allC rfl (allC rfl (allC rfl allN)))))))))))) H)
  have s10 : ∀ (a : Act) (w : World), Sx a 157 ([(89, gv true (.slice D acc.length dc)), (88, gv true (.pointer (some ⟨g9, 19, none⟩))), (90, gv true (fnT g7)), (92, gv true (fnT g7)), (10, gv true (.int .i64 (j : Int)))] ++ obR w0 g7 g9 K A1 n1 c1) → RqS w0 g7 g9 A1 n1 c1 L ⟨⟨K, fr, tt, ep, nu, 0, zM, wa, acc, false, 0, 0, []⟩, none, 0, none, 0, none, 0, none, 0, D, dc, none, 0⟩ (some p) w → wpAnyH Try.prog .any ops (NoPanic Q) (fun _ => True) 7 #[true, true, true, false, true, false, false, false, false, false, false] a w := by
    subst hops
    intro a w S H
    refine wpAnyH_ready (rs := [3]) (by kernel_rfl) (by simp) (AllReadyH.cons rfl ?_ (AllReadyH.nil))
    · refine hKG (fun z : Int => .int .i64 z) 0 S 33 #[.pointer (some ⟨g7, 0, none⟩), .int .i64 1] (fun z w' => z = (rN L (some p) 1).2 ∧ RqB w0 g7 A1 n1 c1 L (rN L (some p) 1).1 w' ∧ Only g7 w w') (wantN rfl _) trivial (fun _ => runG 90 S rfl rfl (fun ev ec ef e => by go_simp; try rfl)) (fun _ => (take_run 1 I H.toRqB (by decide) (by decide) rfl).mono (fun en w' hh => ⟨_, hh.1, rfl, hh.2⟩)) (fun _ _ _ => trivial) ?_
      intro a w1 z hz _ S
      obtain ⟨rfl, h2, h3⟩ := hz rfl
      replace H := H.next h2 h3
      exact anyH_lit (by kernel_rfl) (s11 a w1 (S.sub (allC rfl (allC rfl (allC rfl (allC rfl (allC rfl (allC rfl (allC rfl (allC rfl (allC rfl (allC rfl (allC rfl (allC rfl allN))))))))))))) H)
  have s00 : ∀ (a : Act) (w : World), Sx a 157 ([(88, gv true (.pointer (some ⟨g9, 19, none⟩))), (90, gv true (fnT g7)), (92, gv true (fnT g7)), (10, gv true (.int .i64 (j : Int)))] ++ obR w0 g7 g9 K A1 n1 c1) → RqS w0 g7 g9 A1 n1 c1 L ⟨⟨K, fr, tt, ep, nu, 0, zM, wa, acc, false, 0, 0, []⟩, none, 0, none, 0, none, 0, none, 0, D, dc, none, 0⟩ (some p) w → wpAnyH Try.prog .any ops (NoPanic Q) (fun _ => True) 8 #[true, false, true, false, true, false, false, false, false, false, false] a w := by
    subst hops
    intro a w S H
    refine wpAnyH_ready (rs := [1, 3]) (by kernel_rfl) (by simp) (AllReadyH.cons rfl ?_ (AllReadyH.cons rfl ?_ (AllReadyH.nil)))
    · refine hVG S (.slice D acc.length dc) (wantN rfl _) trivial (fun _ => runG 88 S rfl rfl (fun ev ec ef e => by have s0 := H.k9.cell 19; go_simp; try rfl)) ?_
      intro a S
      exact anyH_lit (by kernel_rfl) (s10 a w (S.sub (allC rfl (allC rfl (allC rfl (allC rfl (allC rfl (allC rfl (allC rfl (allC rfl (allC rfl (allC rfl (allC rfl allN)))))))))))) H)
    · refine hKG (fun z : Int => .int .i64 z) 0 S 33 #[.pointer (some ⟨g7, 0, none⟩), .int .i64 1] (fun z w' => z = (rN L (some p) 1).2 ∧ RqB w0 g7 A1 n1 c1 L (rN L (some p) 1).1 w' ∧ Only g7 w w') (wantN rfl _) trivial (fun _ => runG 90 S rfl rfl (fun ev ec ef e => by go_simp; try rfl)) (fun _ => (take_run 1 I H.toRqB (by decide) (by decide) rfl).mono (fun en w' hh => ⟨_, hh.1, rfl, hh.2⟩)) (fun _ _ _ => trivial) ?_
      intro a w1 z hz _ S
      obtain ⟨rfl, h2, h3⟩ := hz rfl
      replace H := H.next h2 h3
      exact anyH_lit (by kernel_rfl) (s01 a w1 (S.sub (allC rfl (allC rfl (allC rfl (allC rfl (allC rfl (allC rfl (allC rfl (allC rfl (allC rfl (allC rfl (allC rfl allN)))))))))))) H)
  subst hops
  intro a w S H
  refine hx1 9 S (.pointer (some ⟨g9, 19, none⟩)) (i := 0) rfl rfl (fun w' hw ev ec e => by go_simp; try rfl) trivial ?_ (by kernel_rfl) (by kernel_rfl) (by kernel_rfl)
  intro a S
  refine hx1 8 S (fnT g7) (i := 2) rfl rfl (fun w' hw ev ec e => by go_simp; try rfl) trivial ?_ (by kernel_rfl) (by kernel_rfl) (by kernel_rfl)
  intro a S
  refine hx1 8 S (fnT g7) (i := 4) rfl rfl (fun w' hw ev ec e => by go_simp; try rfl) trivial ?_ (by kernel_rfl) (by kernel_rfl) (by kernel_rfl)
  intro a S
  exact anyH_lit (by kernel_rfl) (s00 a w (S.sub (allC rfl (allC rfl (allC rfl (allC rfl (allC rfl (allC rfl (allC rfl (allC rfl (allC rfl (allC rfl allN))))))))))) H)
set_option maxHeartbeats 16000000 in
theorem rd6R {w0 : World} {g7 g9 n1 c1 j : Nat} {K fr tt ep nu : Int} {A1 : Option Addr} {L : List Int} {eh : Bool} {e1 e2 : Int} {acc : List Nat} {D : Option Addr} {dc p : Nat} (I : RqI A1 n1 c1 L) (hacc : acc.length ≤ 256) (ops : Array Oper) (hops : (Try.f14.body).map (fun c => opsC (blockC (fstC (sndC (loopC (blockC (sndC (sndC (sndC (thenC (sndC (elseC (sndC (elseC (sndC (elseC (sndC (blockC (sndC (fstC (sndC (sndC (sndC (sndC (sndC (sndC (sndC c))))))))))))))))))))))))))) = some ops) (Q : Exit → Act → World → Prop)
    (fin : ∀ (a : Act) (w : World) (D' : Option Addr) (dc' : Nat), Sx a 157 ([(11, gv true (.int .i64 (j : Int)))] ++ obR w0 g7 g9 K A1 n1 c1) → RqS w0 g7 g9 A1 n1 c1 L ⟨⟨K, fr, tt, ep, nu, 0, zM, false, [], eh, e1, e2, (acc ++ [((rN L (some p) 4).2).toNat])⟩, none, 0, none, 0, none, 0, none, 0, none, 0, D', dc'⟩ (rN L (some p) 4).1 w → Q .normal a w) :
    ∀ (a : Act) (w : World), Sx a 157 ([(11, gv true (.int .i64 (j : Int)))] ++ obR w0 g7 g9 K A1 n1 c1) → RqS w0 g7 g9 A1 n1 c1 L ⟨⟨K, fr, tt, ep, nu, 0, zM, false, [], eh, e1, e2, acc⟩, none, 0, none, 0, none, 0, none, 0, none, 0, D, dc⟩ (some p) w → wpAnyH Try.prog .any ops (NoPanic Q) (fun _ => True) 9 #[false, false, false, false, false, false, false, false, false] a w := by
  dsimp only [Try.f14, Option.map, fstC, sndC, thenC, elseC, blockC, loopC, opsC] at hops
  injection hops with hops
  have s12 : ∀ (a : Act) (w : World) (gp : Nat), Sx a 157 ([(131, gv true (.slice D acc.length dc)), (135, gv true (.slice (some ⟨gp, 0, none⟩) 1 1)), (130, gv true (.pointer (some ⟨g9, 23, none⟩))), (132, gv true (fnT g7)), (11, gv true (.int .i64 (j : Int)))] ++ obR w0 g7 g9 K A1 n1 c1) → RqS w0 g7 g9 A1 n1 c1 L ⟨⟨K, fr, tt, ep, nu, 0, zM, false, [], eh, e1, e2, acc⟩, none, 0, none, 0, none, 0, none, 0, none, 0, D, dc⟩ (rN L (some p) 4).1 w → Reads w w.heap.size 1 (some ⟨gp, 0, none⟩) 1 [.int .u32 ((((rN L (some p) 4).2).toNat : Nat) : Int)] → wpAnyH Try.prog .any ops (NoPanic Q) (fun _ => True) 3 #[true, true, true, true, true, true, false, false, false] a w := by
    subst hops
    intro a w gp S H hgp
    obtain ⟨i0, hi0, hz0, hz1, hz2⟩ := info_parts infoU32
    refine wpAnyH_ready (rs := [6]) (by kernel_rfl) (by simp) (AllReadyH.cons rfl ?_ AllReadyH.nil)
    refine rdA i0 _ 1 4 Try.underlying22 hi0 hz0 hz1 hz2 rfl (by omega) H S H.ow.2.2 hgp (by simp [Value.oneCell']) (by show acc.length ≤ 100000; omega) (by omega) (fun a w D' dc' S H hor => ?_)
    refine hx1 9 S (.pointer (some ⟨g9, 23, none⟩)) (i := 7) rfl rfl (fun w' hw ev ec e => by go_simp; try rfl) trivial ?_ (by kernel_rfl) (by kernel_rfl) (by kernel_rfl)
    intro a S
    refine wpAnyH_ready (rs := [8]) (by kernel_rfl) (by simp) (AllReadyH.cons rfl ?_ AllReadyH.nil)
    refine hxS (x := 137) (y := 136) S (w.setCell ⟨g9, 23, none⟩ (.slice D' (acc.length + 1) dc')) rfl rfl (fun ev e e2 => run_store_cell _ _ rfl e e2 H.k9 (by show 23 < 24; omega) rfl (by kernel_rfl)) trivial ?_
    intro a S
    have hl1 : (acc ++ [((rN L (some p) 4).2).toNat]).length = acc.length + 1 := by simp
    replace H := H.cell (off := 23) (v := .slice D' (acc.length + 1) dc') ⟨⟨K, fr, tt, ep, nu, 0, zM, false, [], eh, e1, e2, (acc ++ [((rN L (some p) 4).2).toNat])⟩, none, 0, none, 0, none, 0, none, 0, none, 0, D', dc'⟩ ⟨⟨OwD.one _ _, OwD.one _ _, OwD.one _ _, OwD.one _ _⟩, World.ownsRow_nil _ _ _ _, by dsimp only; rw [hl1, ← ints_snocU]; exact hor⟩ (by unfold mA; dsimp only; rw [hl1]; rfl)
    refine wpAnyH_done (by kernel_rfl) ?_ _
    refine NoPanic.normal ?_
    exact fin a _ D' dc' (S.sub (allC rfl (allC rfl (allC rfl (allC rfl (allC rfl (allC rfl (allC rfl allN)))))))) H
  have s02 : ∀ (a : Act) (w : World) (gp : Nat), Sx a 157 ([(135, gv true (.slice (some ⟨gp, 0, none⟩) 1 1)), (130, gv true (.pointer (some ⟨g9, 23, none⟩))), (132, gv true (fnT g7)), (11, gv true (.int .i64 (j : Int)))] ++ obR w0 g7 g9 K A1 n1 c1) → RqS w0 g7 g9 A1 n1 c1 L ⟨⟨K, fr, tt, ep, nu, 0, zM, false, [], eh, e1, e2, acc⟩, none, 0, none, 0, none, 0, none, 0, none, 0, D, dc⟩ (rN L (some p) 4).1 w → Reads w w.heap.size 1 (some ⟨gp, 0, none⟩) 1 [.int .u32 ((((rN L (some p) 4).2).toNat : Nat) : Int)] → wpAnyH Try.prog .any ops (NoPanic Q) (fun _ => True) 4 #[true, false, true, true, true, true, false, false, false] a w := by
    subst hops
    intro a w gp S H hgp
    refine wpAnyH_ready (rs := [1]) (by kernel_rfl) (by simp) (AllReadyH.cons rfl ?_ (AllReadyH.nil))
    · refine hVG S (.slice D acc.length dc) (wantN rfl _) trivial (fun _ => runG 130 S rfl rfl (fun ev ec ef e => by have s0 := H.k9.cell 23; go_simp; try rfl)) ?_
      intro a S
      exact anyH_lit (by kernel_rfl) (s12 a w gp (S.sub (allC rfl (allC rfl (allC rfl (allC rfl (allC rfl (allC rfl (allC rfl (allC rfl (allC rfl (allC rfl (allC rfl allN)))))))))))) H hgp)
  have s11 : ∀ (a : Act) (w : World), Sx a 157 ([(131, gv true (.slice D acc.length dc)), (134, gv true (.int .u32 ((((rN L (some p) 4).2).toNat : Nat) : Int))), (130, gv true (.pointer (some ⟨g9, 23, none⟩))), (132, gv true (fnT g7)), (11, gv true (.int .i64 (j : Int)))] ++ obR w0 g7 g9 K A1 n1 c1) → RqS w0 g7 g9 A1 n1 c1 L ⟨⟨K, fr, tt, ep, nu, 0, zM, false, [], eh, e1, e2, acc⟩, none, 0, none, 0, none, 0, none, 0, none, 0, D, dc⟩ (rN L (some p) 4).1 w → wpAnyH Try.prog .any ops (NoPanic Q) (fun _ => True) 4 #[true, true, true, true, true, false, false, false, false] a w := by
    subst hops
    intro a w S H
    refine wpAnyH_ready (rs := [5]) (by kernel_rfl) (by simp) (AllReadyH.cons rfl ?_ (AllReadyH.nil))
    · refine hxW S (.slice (some ⟨w.heap.size, 0, none⟩) 1 1) (w.alloc (.cells #[.int .u32 ((((rN L (some p) 4).2).toNat : Nat) : Int)] 52)) (runG 134 S rfl rfl (fun ev ec ef e => by go_simp; try simp)) trivial ?_
      intro a S
      have hgp : Reads (w.alloc (.cells #[.int .u32 ((((rN L (some p) 4).2).toNat : Nat) : Int)] 52)) (w.alloc (.cells #[.int .u32 ((((rN L (some p) 4).2).toNat : Nat) : Int)] 52)).heap.size 1 (some ⟨w.heap.size, 0, none⟩) 1 [.int .u32 ((((rN L (some p) 4).2).toNat : Nat) : Int)] := by rw [World.size_alloc]; exact reads_one w [.int .u32 ((((rN L (some p) 4).2).toNat : Nat) : Int)] 52 1 rfl
      exact anyH_lit (by kernel_rfl) (s12 a _ w.heap.size (S.sub (allC rfl (allC rfl (allC rfl (allC rfl (allC rfl (allC rfl (allC rfl (allC rfl (allC rfl (allC rfl (allC rfl allN)))))))))))) (H.below ((Below.refl _ _).alloc (Nat.le_refl _) _)) hgp)
  have s01 : ∀ (a : Act) (w : World), Sx a 157 ([(134, gv true (.int .u32 ((((rN L (some p) 4).2).toNat : Nat) : Int))), (130, gv true (.pointer (some ⟨g9, 23, none⟩))), (132, gv true (fnT g7)), (11, gv true (.int .i64 (j : Int)))] ++ obR w0 g7 g9 K A1 n1 c1) → RqS w0 g7 g9 A1 n1 c1 L ⟨⟨K, fr, tt, ep, nu, 0, zM, false, [], eh, e1, e2, acc⟩, none, 0, none, 0, none, 0, none, 0, none, 0, D, dc⟩ (rN L (some p) 4).1 w → wpAnyH Try.prog .any ops (NoPanic Q) (fun _ => True) 5 #[true, false, true, true, true, false, false, false, false] a w := by
    subst hops
    intro a w S H
    refine wpAnyH_ready (rs := [1, 5]) (by kernel_rfl) (by simp) (AllReadyH.cons rfl ?_ (AllReadyH.cons rfl ?_ (AllReadyH.nil)))
    · refine hVG S (.slice D acc.length dc) (wantN rfl _) trivial (fun _ => runG 130 S rfl rfl (fun ev ec ef e => by have s0 := H.k9.cell 23; go_simp; try rfl)) ?_
      intro a S
      exact anyH_lit (by kernel_rfl) (s11 a w (S.sub (allC rfl (allC rfl (allC rfl (allC rfl (allC rfl (allC rfl (allC rfl (allC rfl (allC rfl (allC rfl (allC rfl allN)))))))))))) H)
    · refine hxW S (.slice (some ⟨w.heap.size, 0, none⟩) 1 1) (w.alloc (.cells #[.int .u32 ((((rN L (some p) 4).2).toNat : Nat) : Int)] 52)) (runG 134 S rfl rfl (fun ev ec ef e => by go_simp; try simp)) trivial ?_
      intro a S
      have hgp : Reads (w.alloc (.cells #[.int .u32 ((((rN L (some p) 4).2).toNat : Nat) : Int)] 52)) (w.alloc (.cells #[.int .u32 ((((rN L (some p) 4).2).toNat : Nat) : Int)] 52)).heap.size 1 (some ⟨w.heap.size, 0, none⟩) 1 [.int .u32 ((((rN L (some p) 4).2).toNat : Nat) : Int)] := by rw [World.size_alloc]; exact reads_one w [.int .u32 ((((rN L (some p) 4).2).toNat : Nat) : Int)] 52 1 rfl
      exact anyH_lit (by kernel_rfl) (s02 a _ w.heap.size (S.sub (allC rfl (allC rfl (allC rfl (allC rfl (allC rfl (allC rfl (allC rfl (allC rfl (allC rfl (allC rfl allN))))))))))) (H.below ((Below.refl _ _).alloc (Nat.le_refl _) _)) hgp)
  have s10 : ∀ (a : Act) (w : World), Sx a 157 ([(131, gv true (.slice D acc.length dc)), (130, gv true (.pointer (some ⟨g9, 23, none⟩))), (132, gv true (fnT g7)), (11, gv true (.int .i64 (j : Int)))] ++ obR w0 g7 g9 K A1 n1 c1) → RqS w0 g7 g9 A1 n1 c1 L ⟨⟨K, fr, tt, ep, nu, 0, zM, false, [], eh, e1, e2, acc⟩, none, 0, none, 0, none, 0, none, 0, none, 0, D, dc⟩ (some p) w → wpAnyH Try.prog .any ops (NoPanic Q) (fun _ => True) 6 #[true, true, true, false, false, false, false, false, false] a w := by
    subst hops
    intro a w S H
    refine wpAnyH_ready (rs := [3]) (by kernel_rfl) (by simp) (AllReadyH.cons rfl ?_ (AllReadyH.nil))
    · refine hKG (fun z : Int => .int .i64 z) 0 S 33 #[.pointer (some ⟨g7, 0, none⟩), .int .i64 4] (fun z w' => z = (rN L (some p) 4).2 ∧ RqB w0 g7 A1 n1 c1 L (rN L (some p) 4).1 w' ∧ Only g7 w w') (wantN rfl _) trivial (fun _ => runG 132 S rfl rfl (fun ev ec ef e => by go_simp; try rfl)) (fun _ => (take_run 4 I H.toRqB (by decide) (by decide) rfl).mono (fun en w' hh => ⟨_, hh.1, rfl, hh.2⟩)) (fun _ _ _ => trivial) ?_
      intro a w1 z hz _ S
      obtain ⟨rfl, h2, h3⟩ := hz rfl
      replace H := H.next h2 h3
      have cvx : IntKind.u32.wrap (rN L (some p) 4).2 = (((((rN L (some p) 4).2).toNat : Nat)) : Int) := by have := rN_range I.hb (some p) 4; rw [IntKind.wrap_u32']; omega
      refine hx1 133 S (.int .u32 ((((rN L (some p) 4).2).toNat : Nat) : Int)) (i := 4) rfl rfl (fun w' hw ev ec e => by go_simp; try rfl) trivial ?_ (by kernel_rfl) (by kernel_rfl) (by kernel_rfl)
      intro a S
      clear cvx
      exact anyH_lit (by kernel_rfl) (s11 a w1 (S.sub (allC rfl (allC rfl (allC rfl (allC rfl (allC rfl (allC rfl (allC rfl (allC rfl (allC rfl (allC rfl (allC rfl allN)))))))))))) H)
  have s00 : ∀ (a : Act) (w : World), Sx a 157 ([(130, gv true (.pointer (some ⟨g9, 23, none⟩))), (132, gv true (fnT g7)), (11, gv true (.int .i64 (j : Int)))] ++ obR w0 g7 g9 K A1 n1 c1) → RqS w0 g7 g9 A1 n1 c1 L ⟨⟨K, fr, tt, ep, nu, 0, zM, false, [], eh, e1, e2, acc⟩, none, 0, none, 0, none, 0, none, 0, none, 0, D, dc⟩ (some p) w → wpAnyH Try.prog .any ops (NoPanic Q) (fun _ => True) 7 #[true, false, true, false, false, false, false, false, false] a w := by
    subst hops
    intro a w S H
    refine wpAnyH_ready (rs := [1, 3]) (by kernel_rfl) (by simp) (AllReadyH.cons rfl ?_ (AllReadyH.cons rfl ?_ (AllReadyH.nil)))
    · refine hVG S (.slice D acc.length dc) (wantN rfl _) trivial (fun _ => runG 130 S rfl rfl (fun ev ec ef e => by have s0 := H.k9.cell 23; go_simp; try rfl)) ?_
      intro a S
      exact anyH_lit (by kernel_rfl) (s10 a w (S.sub (allC rfl (allC rfl (allC rfl (allC rfl (allC rfl (allC rfl (allC rfl (allC rfl (allC rfl (allC rfl allN))))))))))) H)
    · refine hKG (fun z : Int => .int .i64 z) 0 S 33 #[.pointer (some ⟨g7, 0, none⟩), .int .i64 4] (fun z w' => z = (rN L (some p) 4).2 ∧ RqB w0 g7 A1 n1 c1 L (rN L (some p) 4).1 w' ∧ Only g7 w w') (wantN rfl _) trivial (fun _ => runG 132 S rfl rfl (fun ev ec ef e => by go_simp; try rfl)) (fun _ => (take_run 4 I H.toRqB (by decide) (by decide) rfl).mono (fun en w' hh => ⟨_, hh.1, rfl, hh.2⟩)) (fun _ _ _ => trivial) ?_
      intro a w1 z hz _ S
      obtain ⟨rfl, h2, h3⟩ := hz rfl
      replace H := H.next h2 h3
      have cvx : IntKind.u32.wrap (rN L (some p) 4).2 = (((((rN L (some p) 4).2).toNat : Nat)) : Int) := by have := rN_range I.hb (some p) 4; rw [IntKind.wrap_u32']; omega
      refine hx1 133 S (.int .u32 ((((rN L (some p) 4).2).toNat : Nat) : Int)) (i := 4) rfl rfl (fun w' hw ev ec e => by go_simp; try rfl) trivial ?_ (by kernel_rfl) (by kernel_rfl) (by kernel_rfl)
      intro a S
      clear cvx
      exact anyH_lit (by kernel_rfl) (s01 a w1 (S.sub (allC rfl (allC rfl (allC rfl (allC rfl (allC rfl (allC rfl (allC rfl (allC rfl (allC rfl (allC rfl allN))))))))))) H)
  subst hops
  intro a w S H
  refine hx1 9 S (.pointer (some ⟨g9, 23, none⟩)) (i := 0) rfl rfl (fun w' hw ev ec e => by go_simp; try rfl) trivial ?_ (by kernel_rfl) (by kernel_rfl) (by kernel_rfl)
  intro a S
  refine hx1 8 S (fnT g7) (i := 2) rfl rfl (fun w' hw ev ec e => by go_simp; try rfl) trivial ?_ (by kernel_rfl) (by kernel_rfl) (by kernel_rfl)
  intro a S
  exact anyH_lit (by kernel_rfl) (s00 a w (S.sub (allC rfl (allC rfl (allC rfl (allC rfl (allC rfl (allC rfl (allC rfl (allC rfl (allC rfl allN)))))))))) H)
end Go.Proofs.Ytjmhefkmpfkpbaa
