/- Timer: a pile of timers: one put behind all -/
import Derived.Test.YthageikchniahaaTB
import Derived.Deep.AppendLies
import Derived.Deep.RegionHeld3
import Derived.Deep.RegionLaw
namespace Go.Proofs.Ythageikchniahaa
open Go.ChangeShapes Go.WideShapes Go.ChangeAt Go.RowKit
set_option linter.unusedSimpArgs false
set_option linter.unusedVariables false

theorem own_ne {w : World} {base size n R : Nat} {e T : TypeId} {v : Value} {xs : List Value} {cs : Array Value} (h : w.ownsRow base e size v n xs) (hb : Blk w R T cs) (hT : T ≠ e) : some R ≠ v.ownBlock := fun he => by
  rcases h.2 with ⟨rfl, _⟩ | ⟨k, c, cur, rfl, _, hh, _⟩
  · simp [Value.ownBlock] at he
  · injection he with he
    exact hb.ne_ (t' := e) hh hT he
theorem assertT (v : Value) (w : World) : (Instr.typeAssert (.iface 35 v) 20 35 true).run Try.prog w = .ok (.tuple #[v, .bool true]) w := by kernel_rfl
theorem infoT : (Try.prog.info? 35).map (fun i => (i.zero, i.size, i.bytes)) = some (some (.agg #[.int .i64 0, .int .i64 0]), 2, 16) := by kernel_rfl
theorem Frm.of_grown {w w' : World} {R g : Nat} {row : Option Nat} (h : w.grownBy w' row) (hr : ∀ k, row = some k → k = g) : Frm R g w w' :=
  ⟨⟨h.os, h.tape, h.output, h.size, fun b hb => absurd hb (Nat.not_lt_zero _)⟩, fun b hb _ h2 => h.block b hb (fun e => h2 (hr b e.symm))⟩
set_option maxHeartbeats 4000000 in
theorem push_any (R g : Nat) (l : List Tm) (a b : Int) (hl : l.length < 5000) (w : World) (h : Pl w R g l) : Calls Try.prog 42 #[.agg #[.pointer (some ⟨R, 0, none⟩)], .iface 35 (.agg #[.int .i64 a, .int .i64 b])] w fun en w' => en = .returned (.tuple #[]) ∧ ∃ g', Pl w' R g' (l ++ [(a, b)]) ∧ Frm R g w w' ∧ (g' = g ∨ w.heap.size ≤ g') := by
  obtain ⟨i0, hi0, hz0, hz1, hz2⟩ := info_parts infoT
  obtain ⟨v, h1, h2, h3⟩ := h
  obtain ⟨A, c, rfl, hc, hr⟩ := own_slice h2
  have hlt := h1.lt
  obtain ⟨n, hn⟩ : ∃ n, l.length = n := ⟨_, rfl⟩
  have hgn := Lib.hid hn
  rw [hn] at h1 h2 h3 hl hc
  have hn1 : n + 1 ≤ maxLen := by unfold maxLen; omega
  have hn2 : (n + 1) * 16 ≤ 140737488355328 := by omega
  clear hr hn
  have hne := own_ne h2 h1 (by decide)
  have hta := assertT (.agg #[.int .i64 a, .int .i64 b])
  have g2 := Lib.hid h2
  have g3 := Lib.hid h3
  have hltg := Lib.hid (fun k => own_lt h2 (g := k))
  obtain ⟨V2, hV2⟩ : ∃ V, V = (w.alloc (.cells #[.pointer (some ⟨R, 0, none⟩)] 55)).alloc (.cells #[.int .i64 a, .int .i64 b] 35) := ⟨_, rfl⟩
  have hB2 : Below w.heap.size w V2 := by rw [hV2]; exact ((Below.refl w.heap.size w).alloc (Nat.le_refl _) _).alloc (by simp) _
  have hs2 : V2.heap.size = w.heap.size + 2 := by rw [hV2]; simp
  have kb : Blk V2 w.heap.size 55 #[.pointer (some ⟨R, 0, none⟩)] := by rw [hV2]; exact (Blk.new w _ _).alloc _
  have kt : Blk V2 (w.heap.size + 1) 35 #[.int .i64 a, .int .i64 b] := by rw [hV2]; have := Blk.new (w.alloc (.cells #[.pointer (some ⟨R, 0, none⟩)] 55)) 35 #[.int .i64 a, .int .i64 b]; rwa [World.size_alloc] at this
  have k1 := h1.below hB2 hlt
  have o2 := own_below h2 hB2
  have hneb : some w.heap.size ≠ (Value.slice A n c).ownBlock := fun e => by have := hltg.out _ e.symm; omega
  have hnet : some (w.heap.size + 1) ≠ (Value.slice A n c).ownBlock := fun e => by have := hltg.out _ e.symm; omega
  clear h1 h2 h3
  go_enter Try.func42, Try.ntmps42
  go_wp2_with fail
  rw [← hV2]
  have e2 : w.heap.size + 1 < V2.heap.size := by omega
  have e3 : w.heap.size < V2.heap.size := by omega
  have e4 : R < V2.heap.size := by omega
  have gV2 := Lib.hid hV2
  have gs2 := Lib.hid hs2
  clear hV2 hs2
  have hS0 : ∀ V, Below V2.heap.size V2 V → V.cell? ⟨w.heap.size, 0, none⟩ = some (.pointer (some ⟨R, 0, none⟩)) ∧ V.cell? ⟨w.heap.size + 1, 0, none⟩ = some (.int .i64 a) ∧ V.cell? ⟨w.heap.size + 1, 1, none⟩ = some (.int .i64 b) := fun V hV => ⟨by rw [(kb.below hV e3).cell]; rfl, by rw [(kt.below hV e2).cell]; rfl, by rw [(kt.below hV e2).cell]; rfl⟩
  have fR0 : V2.cell? ⟨R, 0, none⟩ = some (.slice A n c) := by rw [k1.cell]; rfl
  have fR1 : ∀ o, (V2.alloc o).cell? ⟨R, 0, none⟩ = some (.slice A n c) := fun o => by rw [(k1.alloc o).cell]; rfl
  have kn : Blk (V2.alloc (.cells #[.int .i64 a, .int .i64 b] 35)) V2.heap.size 35 #[.int .i64 a, .int .i64 b] := Blk.new V2 _ _
  refine wp_region_held_drew (S := fun w' => w'.cell? ⟨w.heap.size, 0, none⟩ = some (.pointer (some ⟨R, 0, none⟩)) ∧ w'.cell? ⟨w.heap.size + 1, 0, none⟩ = some (.int .i64 a) ∧ w'.cell? ⟨w.heap.size + 1, 1, none⟩ = some (.int .i64 b)) (by kernel_rfl) (hS0 _ (by (repeat first | with_reducible assumption | with_reducible exact Below.refl _ _ | with_reducible refine Below.drew ?_ | (with_reducible refine Below.setCell ?_ (by first | exact Nat.le_refl _ | (simp only [World.size_alloc, World.size_drew]; omega) | (simp only [World.size_alloc, World.size_drew, size_set]; omega) | omega) _) | (with_reducible refine Below.alloc ?_ (by first | exact Nat.le_refl _ | (simp only [World.size_alloc, World.size_drew]; omega) | (simp only [World.size_alloc, World.size_drew, size_set]; omega) | omega) _)))) (fun hHeld => ?_)
  refine wpAnyH_take (i := 0) (v := ?_) rfl (by kernel_rfl) (by kernel_rfl) (by kernel_rfl) (fun _ _ _ h => h) (Or.inl ⟨by rfl, ?_⟩) (by assumption) ?_
  rotate_left
  · (intro w hSw; (try dsimp only at hSw); go_simp; (try with_reducible rfl))
  (try simp only [Act.put, List.setIfInBounds_toArray, List.set_cons_zero, List.set_cons_succ])
  refine wpAnyH_take (i := 1) (v := ?_) rfl (by kernel_rfl) (by kernel_rfl) (by kernel_rfl) (fun _ _ _ h => h) (Or.inl ⟨by rfl, ?_⟩) (by assumption) ?_
  rotate_left
  · (intro w hSw; (try dsimp only at hSw); go_simp; (try with_reducible rfl))
  (try simp only [Act.put, List.setIfInBounds_toArray, List.set_cons_zero, List.set_cons_succ])
  refine wpAnyH_take (i := 2) (v := ?_) rfl (by kernel_rfl) (by kernel_rfl) (by kernel_rfl) (fun _ _ _ h => h) (Or.inl ⟨by rfl, ?_⟩) (by assumption) ?_
  rotate_left
  · (intro w hSw; (try dsimp only at hSw); go_simp; (try with_reducible rfl))
  (try simp only [Act.put, List.setIfInBounds_toArray, List.set_cons_zero, List.set_cons_succ])
  refine wpAnyH_take (i := 3) (v := ?_) rfl (by kernel_rfl) (by kernel_rfl) (by kernel_rfl) (fun _ _ _ h => h) (Or.inl ⟨by rfl, ?_⟩) (by assumption) ?_
  rotate_left
  · (intro w hSw; (try dsimp only at hSw); go_simp; (try with_reducible rfl))
  (try simp only [Act.put, List.setIfInBounds_toArray, List.set_cons_zero, List.set_cons_succ])
  refine wpAnyH_take (i := 4) (v := ?_) rfl (by kernel_rfl) (by kernel_rfl) (by kernel_rfl) (fun _ _ _ h => h) (Or.inl ⟨by rfl, ?_⟩) (by assumption) ?_
  rotate_left
  · (intro w hSw; (try dsimp only at hSw); go_simp; (try with_reducible rfl))
  (try simp only [Act.put, List.setIfInBounds_toArray, List.set_cons_zero, List.set_cons_succ])
  refine wpAnyH_take (i := 5) (v := ?_) rfl (by kernel_rfl) (by kernel_rfl) (by kernel_rfl) (fun _ _ _ h => h) (Or.inl ⟨by rfl, ?_⟩) (by assumption) ?_
  rotate_left
  · (intro w hSw; (try dsimp only at hSw); go_simp; (try with_reducible rfl))
  (try simp only [Act.put, List.setIfInBounds_toArray, List.set_cons_zero, List.set_cons_succ])
  refine wpAnyH_take (i := 7) (v := ?_) rfl (by kernel_rfl) (by kernel_rfl) (by kernel_rfl) (fun _ _ _ h => h) (Or.inl ⟨by rfl, ?_⟩) (by assumption) ?_
  rotate_left
  · (intro w hSw; (try dsimp only at hSw); go_simp; (try with_reducible rfl))
  (try simp only [Act.put, List.setIfInBounds_toArray, List.set_cons_zero, List.set_cons_succ])
  refine wpAnyH_ready (rs := [6, 8]) (by kernel_rfl) (by simp) ?_
  refine AllReadyH.cons rfl (fun K hK => ?_) (AllReadyH.cons rfl (fun K hK => ?_) AllReadyH.nil)
  · go_simp
    refine hK.out _ _ (by first | exact y2 | exact y3 _ | exact hS0 _ (by (repeat first | with_reducible assumption | with_reducible exact Below.refl _ _ | with_reducible refine Below.drew ?_ | (with_reducible refine Below.setCell ?_ (by first | exact Nat.le_refl _ | (simp only [World.size_alloc, World.size_drew]; omega) | (simp only [World.size_alloc, World.size_drew, size_set]; omega) | omega) _) | (with_reducible refine Below.alloc ?_ (by first | exact Nat.le_refl _ | (simp only [World.size_alloc, World.size_drew]; omega) | (simp only [World.size_alloc, World.size_drew, size_set]; omega) | omega) _)))) (fun hHeld => ?_)
    clear hK K
    (try simp only [Act.put, List.setIfInBounds_toArray, List.set_cons_zero, List.set_cons_succ])
    refine wpAnyH_ready (rs := [8]) (by kernel_rfl) (by simp) ?_
    refine AllReadyH.cons rfl (fun K hK => ?_) AllReadyH.nil
    go_simp
    refine hK.out _ _ (by first | exact y2 | exact y3 _ | exact hS0 _ (by (repeat first | with_reducible assumption | with_reducible exact Below.refl _ _ | with_reducible refine Below.drew ?_ | (with_reducible refine Below.setCell ?_ (by first | exact Nat.le_refl _ | (simp only [World.size_alloc, World.size_drew]; omega) | (simp only [World.size_alloc, World.size_drew, size_set]; omega) | omega) _) | (with_reducible refine Below.alloc ?_ (by first | exact Nat.le_refl _ | (simp only [World.size_alloc, World.size_drew]; omega) | (simp only [World.size_alloc, World.size_drew, size_set]; omega) | omega) _)))) (fun hHeld => ?_)
    clear hK K
    (try simp only [Act.put, List.setIfInBounds_toArray, List.set_cons_zero, List.set_cons_succ])
    refine wpAnyH_ready (rs := [9]) (by kernel_rfl) (by simp) ?_
    refine AllReadyH.cons rfl (fun K hK => ?_) AllReadyH.nil
    refine step_append_any _ rfl (.tmp 18) (.tmp 20) 22 rfl 0 35 i0 _ 2 16 Try.underlying22 hi0 hz0 hz1 hz2 rfl (by omega) (.slice A n c) n _ rfl (own_below o2 (by (repeat first | with_reducible assumption | with_reducible exact Below.refl _ _ | with_reducible refine Below.drew ?_ | (with_reducible refine Below.setCell ?_ (by first | exact Nat.le_refl _ | (simp only [World.size_alloc, World.size_drew]; omega) | (simp only [World.size_alloc, World.size_drew, size_set]; omega) | omega) _) | (with_reducible refine Below.alloc ?_ (by first | exact Nat.le_refl _ | (simp only [World.size_alloc, World.size_drew]; omega) | (simp only [World.size_alloc, World.size_drew, size_set]; omega) | omega) _)))) (V2.heap.size + 1) _ 1 1 [.int .i64 a, .int .i64 b] rfl (reads_blk (size := 2) kn rfl) (by simp; exact ⟨rfl, rfl⟩) hn1 hn2 (Nat.zero_le _) ?_
    intro v4 w4 ho4 hg4 hor4
    replace hg4 : World.grownBy (V2.alloc (.cells #[.int .i64 a, .int .i64 b] 35)) w4 (Value.slice A n c).ownBlock := ⟨hg4.1, hg4.2, hg4.3, hg4.4, hg4.5⟩
    skip
    have k4 := (kn).grown (row := (Value.slice A n c).ownBlock) hg4 (fun e => by have := hltg.out _ e.symm; omega)
    have k5 := (k1.alloc (.cells #[.int .i64 a, .int .i64 b] 35)).grown (row := (Value.slice A n c).ownBlock) hg4 hne
    have k6 := (kb.alloc (.cells #[.int .i64 a, .int .i64 b] 35)).grown (row := (Value.slice A n c).ownBlock) hg4 hneb
    have k7 := (kt.alloc (.cells #[.int .i64 a, .int .i64 b] 35)).grown (row := (Value.slice A n c).ownBlock) hg4 hnet
    obtain ⟨A4, c4, rfl, hc4, _⟩ := own_slice ho4
    have y0 : w4.cell? ⟨R, 0, none⟩ = some (.slice A n c) := by rw [k5.cell]; rfl
    have y1 := k5.frozen 0
    have y2 : w4.cell? ⟨w.heap.size, 0, none⟩ = some (.pointer (some ⟨R, 0, none⟩)) ∧ w4.cell? ⟨w.heap.size + 1, 0, none⟩ = some (.int .i64 a) ∧ w4.cell? ⟨w.heap.size + 1, 1, none⟩ = some (.int .i64 b) := ⟨by rw [k6.cell]; rfl, by rw [k7.cell]; rfl, by rw [k7.cell]; rfl⟩
    have y3 : ∀ u, (w4.setCell ⟨R, 0, none⟩ u).cell? ⟨w.heap.size, 0, none⟩ = some (.pointer (some ⟨R, 0, none⟩)) ∧ (w4.setCell ⟨R, 0, none⟩ u).cell? ⟨w.heap.size + 1, 0, none⟩ = some (.int .i64 a) ∧ (w4.setCell ⟨R, 0, none⟩ u).cell? ⟨w.heap.size + 1, 1, none⟩ = some (.int .i64 b) := fun u => ⟨by rw [(k6.far (p := ⟨R, 0, none⟩) (show w.heap.size ≠ R by omega) u).cell]; rfl, by rw [(k7.far (p := ⟨R, 0, none⟩) (show w.heap.size + 1 ≠ R by omega) u).cell]; rfl, by rw [(k7.far (p := ⟨R, 0, none⟩) (show w.heap.size + 1 ≠ R by omega) u).cell]; rfl⟩
    refine hK.out _ _ (by first | exact y2 | exact y3 _ | exact hS0 _ (by (repeat first | with_reducible assumption | with_reducible exact Below.refl _ _ | with_reducible refine Below.drew ?_ | (with_reducible refine Below.setCell ?_ (by first | exact Nat.le_refl _ | (simp only [World.size_alloc, World.size_drew]; omega) | (simp only [World.size_alloc, World.size_drew, size_set]; omega) | omega) _) | (with_reducible refine Below.alloc ?_ (by first | exact Nat.le_refl _ | (simp only [World.size_alloc, World.size_drew]; omega) | (simp only [World.size_alloc, World.size_drew, size_set]; omega) | omega) _)))) (fun hHeld => ?_)
    clear hK K
    (try simp only [Act.put, List.setIfInBounds_toArray, List.set_cons_zero, List.set_cons_succ])
    refine wpAnyH_take (i := 10) (v := ?_) rfl (by kernel_rfl) (by kernel_rfl) (by kernel_rfl) (fun _ _ _ h => h) (Or.inl ⟨by rfl, ?_⟩) (by assumption) ?_
    rotate_left
    · (intro w hSw; (try dsimp only at hSw); go_simp; (try with_reducible rfl))
    (try simp only [Act.put, List.setIfInBounds_toArray, List.set_cons_zero, List.set_cons_succ])
    refine wpAnyH_take (i := 11) (v := ?_) rfl (by kernel_rfl) (by kernel_rfl) (by kernel_rfl) (fun _ _ _ h => h) (Or.inl ⟨by rfl, ?_⟩) (by assumption) ?_
    rotate_left
    · (intro w hSw; (try dsimp only at hSw); go_simp; (try with_reducible rfl))
    (try simp only [Act.put, List.setIfInBounds_toArray, List.set_cons_zero, List.set_cons_succ])
    refine wpAnyH_ready (rs := [12]) (by kernel_rfl) (by simp) ?_
    refine AllReadyH.cons rfl (fun K hK => ?_) AllReadyH.nil
    go_simp
    refine hK.out _ _ (by first | exact y2 | exact y3 _ | exact hS0 _ (by (repeat first | with_reducible assumption | with_reducible exact Below.refl _ _ | with_reducible refine Below.drew ?_ | (with_reducible refine Below.setCell ?_ (by first | exact Nat.le_refl _ | (simp only [World.size_alloc, World.size_drew]; omega) | (simp only [World.size_alloc, World.size_drew, size_set]; omega) | omega) _) | (with_reducible refine Below.alloc ?_ (by first | exact Nat.le_refl _ | (simp only [World.size_alloc, World.size_drew]; omega) | (simp only [World.size_alloc, World.size_drew, size_set]; omega) | omega) _)))) (fun hHeld => ?_)
    clear hK K
    (try simp only [Act.put, List.setIfInBounds_toArray, List.set_cons_zero, List.set_cons_succ])
    refine wpAnyH_done (by kernel_rfl) ?_ _
    skip
    go_wp2
    go_end0
    have hpl : Pl (w4.setCell ⟨R, 0, none⟩ (.slice A4 (n + 1) c4)) R (((Value.slice A4 (n + 1) c4).ownBlock).getD g) (l ++ [(a, b)]) := ⟨_, k5.set_ 0 _, by rw [List.length_append, hgn.out, T2_app]; exact own_far ho4 (fun e => own_ne ho4 k5 (by decide) e.symm) _, fun q hq => by rw [hq]; rfl⟩
    refine ⟨rfl, _, hpl, ((Frm.of_below hB2).trans (Frm.of_below ((Below.refl V2.heap.size V2).alloc (Nat.le_refl _) _))).trans ((Frm.of_grown hg4 g3.out).trans (Frm.set_ w4 (.inl rfl) _)), ?_⟩
    rcases hor4 with e | e
    · cases hx : (Value.slice A n c).ownBlock with
      | none => left; rw [e, hx]; rfl
      | some q => left; rw [e, hx]; exact g3.out q hx
    · right; rw [e]; show w.heap.size ≤ (V2.alloc _).heap.size; rw [World.size_alloc, gs2.out]; omega
  · go_simp
    refine hK.out _ _ (by first | exact y2 | exact y3 _ | exact hS0 _ (by (repeat first | with_reducible assumption | with_reducible exact Below.refl _ _ | with_reducible refine Below.drew ?_ | (with_reducible refine Below.setCell ?_ (by first | exact Nat.le_refl _ | (simp only [World.size_alloc, World.size_drew]; omega) | (simp only [World.size_alloc, World.size_drew, size_set]; omega) | omega) _) | (with_reducible refine Below.alloc ?_ (by first | exact Nat.le_refl _ | (simp only [World.size_alloc, World.size_drew]; omega) | (simp only [World.size_alloc, World.size_drew, size_set]; omega) | omega) _)))) (fun hHeld => ?_)
    clear hK K
    (try simp only [Act.put, List.setIfInBounds_toArray, List.set_cons_zero, List.set_cons_succ])
    refine wpAnyH_ready (rs := [6]) (by kernel_rfl) (by simp) ?_
    refine AllReadyH.cons rfl (fun K hK => ?_) AllReadyH.nil
    go_simp
    refine hK.out _ _ (by first | exact y2 | exact y3 _ | exact hS0 _ (by (repeat first | with_reducible assumption | with_reducible exact Below.refl _ _ | with_reducible refine Below.drew ?_ | (with_reducible refine Below.setCell ?_ (by first | exact Nat.le_refl _ | (simp only [World.size_alloc, World.size_drew]; omega) | (simp only [World.size_alloc, World.size_drew, size_set]; omega) | omega) _) | (with_reducible refine Below.alloc ?_ (by first | exact Nat.le_refl _ | (simp only [World.size_alloc, World.size_drew]; omega) | (simp only [World.size_alloc, World.size_drew, size_set]; omega) | omega) _)))) (fun hHeld => ?_)
    clear hK K
    (try simp only [Act.put, List.setIfInBounds_toArray, List.set_cons_zero, List.set_cons_succ])
    refine wpAnyH_ready (rs := [9]) (by kernel_rfl) (by simp) ?_
    refine AllReadyH.cons rfl (fun K hK => ?_) AllReadyH.nil
    refine step_append_any _ rfl (.tmp 18) (.tmp 20) 22 rfl 0 35 i0 _ 2 16 Try.underlying22 hi0 hz0 hz1 hz2 rfl (by omega) (.slice A n c) n _ rfl (own_below o2 (by (repeat first | with_reducible assumption | with_reducible exact Below.refl _ _ | with_reducible refine Below.drew ?_ | (with_reducible refine Below.setCell ?_ (by first | exact Nat.le_refl _ | (simp only [World.size_alloc, World.size_drew]; omega) | (simp only [World.size_alloc, World.size_drew, size_set]; omega) | omega) _) | (with_reducible refine Below.alloc ?_ (by first | exact Nat.le_refl _ | (simp only [World.size_alloc, World.size_drew]; omega) | (simp only [World.size_alloc, World.size_drew, size_set]; omega) | omega) _)))) (V2.heap.size + 1) _ 1 1 [.int .i64 a, .int .i64 b] rfl (reads_blk (size := 2) kn rfl) (by simp; exact ⟨rfl, rfl⟩) hn1 hn2 (Nat.zero_le _) ?_
    intro v4 w4 ho4 hg4 hor4
    replace hg4 : World.grownBy (V2.alloc (.cells #[.int .i64 a, .int .i64 b] 35)) w4 (Value.slice A n c).ownBlock := ⟨hg4.1, hg4.2, hg4.3, hg4.4, hg4.5⟩
    skip
    have k4 := (kn).grown (row := (Value.slice A n c).ownBlock) hg4 (fun e => by have := hltg.out _ e.symm; omega)
    have k5 := (k1.alloc (.cells #[.int .i64 a, .int .i64 b] 35)).grown (row := (Value.slice A n c).ownBlock) hg4 hne
    have k6 := (kb.alloc (.cells #[.int .i64 a, .int .i64 b] 35)).grown (row := (Value.slice A n c).ownBlock) hg4 hneb
    have k7 := (kt.alloc (.cells #[.int .i64 a, .int .i64 b] 35)).grown (row := (Value.slice A n c).ownBlock) hg4 hnet
    obtain ⟨A4, c4, rfl, hc4, _⟩ := own_slice ho4
    have y0 : w4.cell? ⟨R, 0, none⟩ = some (.slice A n c) := by rw [k5.cell]; rfl
    have y1 := k5.frozen 0
    have y2 : w4.cell? ⟨w.heap.size, 0, none⟩ = some (.pointer (some ⟨R, 0, none⟩)) ∧ w4.cell? ⟨w.heap.size + 1, 0, none⟩ = some (.int .i64 a) ∧ w4.cell? ⟨w.heap.size + 1, 1, none⟩ = some (.int .i64 b) := ⟨by rw [k6.cell]; rfl, by rw [k7.cell]; rfl, by rw [k7.cell]; rfl⟩
    have y3 : ∀ u, (w4.setCell ⟨R, 0, none⟩ u).cell? ⟨w.heap.size, 0, none⟩ = some (.pointer (some ⟨R, 0, none⟩)) ∧ (w4.setCell ⟨R, 0, none⟩ u).cell? ⟨w.heap.size + 1, 0, none⟩ = some (.int .i64 a) ∧ (w4.setCell ⟨R, 0, none⟩ u).cell? ⟨w.heap.size + 1, 1, none⟩ = some (.int .i64 b) := fun u => ⟨by rw [(k6.far (p := ⟨R, 0, none⟩) (show w.heap.size ≠ R by omega) u).cell]; rfl, by rw [(k7.far (p := ⟨R, 0, none⟩) (show w.heap.size + 1 ≠ R by omega) u).cell]; rfl, by rw [(k7.far (p := ⟨R, 0, none⟩) (show w.heap.size + 1 ≠ R by omega) u).cell]; rfl⟩
    refine hK.out _ _ (by first | exact y2 | exact y3 _ | exact hS0 _ (by (repeat first | with_reducible assumption | with_reducible exact Below.refl _ _ | with_reducible refine Below.drew ?_ | (with_reducible refine Below.setCell ?_ (by first | exact Nat.le_refl _ | (simp only [World.size_alloc, World.size_drew]; omega) | (simp only [World.size_alloc, World.size_drew, size_set]; omega) | omega) _) | (with_reducible refine Below.alloc ?_ (by first | exact Nat.le_refl _ | (simp only [World.size_alloc, World.size_drew]; omega) | (simp only [World.size_alloc, World.size_drew, size_set]; omega) | omega) _)))) (fun hHeld => ?_)
    clear hK K
    (try simp only [Act.put, List.setIfInBounds_toArray, List.set_cons_zero, List.set_cons_succ])
    refine wpAnyH_take (i := 10) (v := ?_) rfl (by kernel_rfl) (by kernel_rfl) (by kernel_rfl) (fun _ _ _ h => h) (Or.inl ⟨by rfl, ?_⟩) (by assumption) ?_
    rotate_left
    · (intro w hSw; (try dsimp only at hSw); go_simp; (try with_reducible rfl))
    (try simp only [Act.put, List.setIfInBounds_toArray, List.set_cons_zero, List.set_cons_succ])
    refine wpAnyH_take (i := 11) (v := ?_) rfl (by kernel_rfl) (by kernel_rfl) (by kernel_rfl) (fun _ _ _ h => h) (Or.inl ⟨by rfl, ?_⟩) (by assumption) ?_
    rotate_left
    · (intro w hSw; (try dsimp only at hSw); go_simp; (try with_reducible rfl))
    (try simp only [Act.put, List.setIfInBounds_toArray, List.set_cons_zero, List.set_cons_succ])
    refine wpAnyH_ready (rs := [12]) (by kernel_rfl) (by simp) ?_
    refine AllReadyH.cons rfl (fun K hK => ?_) AllReadyH.nil
    go_simp
    refine hK.out _ _ (by first | exact y2 | exact y3 _ | exact hS0 _ (by (repeat first | with_reducible assumption | with_reducible exact Below.refl _ _ | with_reducible refine Below.drew ?_ | (with_reducible refine Below.setCell ?_ (by first | exact Nat.le_refl _ | (simp only [World.size_alloc, World.size_drew]; omega) | (simp only [World.size_alloc, World.size_drew, size_set]; omega) | omega) _) | (with_reducible refine Below.alloc ?_ (by first | exact Nat.le_refl _ | (simp only [World.size_alloc, World.size_drew]; omega) | (simp only [World.size_alloc, World.size_drew, size_set]; omega) | omega) _)))) (fun hHeld => ?_)
    clear hK K
    (try simp only [Act.put, List.setIfInBounds_toArray, List.set_cons_zero, List.set_cons_succ])
    refine wpAnyH_done (by kernel_rfl) ?_ _
    skip
    go_wp2
    go_end0
    have hpl : Pl (w4.setCell ⟨R, 0, none⟩ (.slice A4 (n + 1) c4)) R (((Value.slice A4 (n + 1) c4).ownBlock).getD g) (l ++ [(a, b)]) := ⟨_, k5.set_ 0 _, by rw [List.length_append, hgn.out, T2_app]; exact own_far ho4 (fun e => own_ne ho4 k5 (by decide) e.symm) _, fun q hq => by rw [hq]; rfl⟩
    refine ⟨rfl, _, hpl, ((Frm.of_below hB2).trans (Frm.of_below ((Below.refl V2.heap.size V2).alloc (Nat.le_refl _) _))).trans ((Frm.of_grown hg4 g3.out).trans (Frm.set_ w4 (.inl rfl) _)), ?_⟩
    rcases hor4 with e | e
    · cases hx : (Value.slice A n c).ownBlock with
      | none => left; rw [e, hx]; rfl
      | some q => left; rw [e, hx]; exact g3.out q hx
    · right; rw [e]; show w.heap.size ≤ (V2.alloc _).heap.size; rw [World.size_alloc, gs2.out]; omega
end Go.Proofs.Ythageikchniahaa
