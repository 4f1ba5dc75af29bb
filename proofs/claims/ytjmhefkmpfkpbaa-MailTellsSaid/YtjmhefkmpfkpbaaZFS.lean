/- Mail: the reference's text of a dyad | Mail: the reference's Number -/
import Derived.Deep.RegionHeld3
import Derived.Test.YtjmhefkmpfkpbaaFR
import Derived.Test.YtjmhefkmpfkpbaaF
namespace Go.Proofs.Ytjmhefkmpfkpbaa
open Go.ChangeShapes Go.WideShapes Go.ChangeAt Go.RowKit
set_option linter.unusedSimpArgs false
set_option linter.unusedVariables false
set_option maxRecDepth 100000 in
set_option maxHeartbeats 8000000 in
theorem rtext_false (L : Option Addr) (m lc : Nat) (l : List Int) (hl : l.length = m) (hm : m ≤ 40) (hl0 : ∀ x ∈ l, 0 ≤ x) (hl1 : ∀ x ∈ l, x < 4294967296) (e : Nat) (he1 : e ≤ 1024) (w : World) (hL : Reads w w.heap.size 1 L m (u32s l)) :
    Calls Try.prog 89 #[dy false L m lc (e : Int)] w fun en w' => ∃ A c, en = .returned (.slice A (4 + 4 * m) c) ∧ w'.ownsRow w.heap.size 5 1 (.slice A (4 + 4 * m) c) (4 + 4 * m) (u8s (flat (ptsD false l (e : Int)))) ∧ Below w.heap.size w w' := by
  obtain ⟨i0, hi0, hz0, hz1, hz2⟩ := info_parts info5
  have hB := (Below.refl w.heap.size w).alloc (Nat.le_refl _) (.cells #[.bool false, .slice L m lc, .int .i64 (e : Int)] 24)
  have hbx := Blk.new w 24 #[.bool false, .slice L m lc, .int .i64 (e : Int)]
  have we : IntKind.u64.wrap (e : Int) = (e : Int) := IntWalk.u64_in _ (by omega)
  have d1 := fun w => rdigitsT 0 1 (by omega) (by omega) w
  have d2 := fun w => rdigitsT e 2 (by omega) (by omega) w
  have d3 := fun w => rdigitsT m 1 (by omega) (by omega) w
  have u2 := u8s_one (digs e 2)
  have u3 := u8s_one (digs m 1)
  obtain ⟨W0, hW0⟩ : ∃ W0, W0 = w.alloc (.cells #[.bool false, .slice L m lc, .int .i64 (e : Int)] 24) := ⟨_, rfl⟩
  rw [← hW0] at hB hbx
  have SS : ∀ w', Below W0.heap.size W0 w' → Below w.heap.size w w' ∧ w'.cell? ⟨w.heap.size, 2, none⟩ = some (.int .i64 (e : Int)) := fun w' h => ⟨hB.trans (h.mono hB.size), (hbx.below h hbx.lt).cell 2⟩
  have hbK : ∀ w', Below W0.heap.size W0 w' → Blk w' w.heap.size 24 #[.bool false, .slice L m lc, .int .i64 (e : Int)] := fun w' h => hbx.below h hbx.lt
  have hl40 := Lib.hid hl
  clear hl
  go_enter Try.func89, Try.ntmps89
  go_wp2_with fail
  rw [← hW0]
  replace hW0 := Lib.hid hW0
  have k2 := (SS W0 (Below.refl _ _)).2
  refine wp_region_held_drew (S := (fun w' => Below w.heap.size w w' ∧ w'.cell? ⟨w.heap.size, 2, none⟩ = some (.int .i64 (e : Int)))) (by kernel_rfl) (SS _ (Below.drew (Below.refl _ _))) (fun hHeld => ?_)
  refine wpAnyH_take (i := 0) (v := ?_) rfl (by kernel_rfl) (by kernel_rfl) (by kernel_rfl) (fun _ _ _ h => h) (Or.inl ⟨by rfl, ?_⟩) (by assumption) ?_
  rotate_left
  · (intro w hSw; (try dsimp only at hSw); go_simp; (try with_reducible rfl))
  (try simp only [Act.put, lsA, lsZ, lsS])
  refine wpAnyH_take (i := 2) (v := ?_) rfl (by kernel_rfl) (by kernel_rfl) (by kernel_rfl) (fun _ _ _ h => h) (Or.inl ⟨by rfl, ?_⟩) (by assumption) ?_
  rotate_left
  · (intro w hSw; (try dsimp only at hSw); go_simp; (try with_reducible rfl))
  (try simp only [Act.put, lsA, lsZ, lsS])
  refine wpAnyH_take (i := 3) (v := ?_) rfl (by kernel_rfl) (by kernel_rfl) (by kernel_rfl) (fun _ _ _ h => h) (Or.inl ⟨by rfl, ?_⟩) (by assumption) ?_
  rotate_left
  · (intro w hSw; (try dsimp only at hSw); go_simp; (try with_reducible rfl))
  (try simp only [Act.put, lsA, lsZ, lsS])
  refine wpAnyH_take (i := 4) (v := ?_) rfl (by kernel_rfl) (by kernel_rfl) (by kernel_rfl) (fun _ _ _ h => h) (Or.inl ⟨by rfl, ?_⟩) (by assumption) ?_
  rotate_left
  · (intro w hSw; (try dsimp only at hSw); go_simp; (try with_reducible rfl))
  (try simp only [Act.put, lsA, lsZ, lsS])
  refine wpAnyH_ready (rs := [1]) (by kernel_rfl) (by simp) ?_
  refine AllReadyH.cons rfl (fun K hK => ?_) AllReadyH.nil
  go_simp
  refine (d1 _).mono ?_
  rintro en w2 ⟨A1, c1, rfl, ho1, hb1⟩
  have hB1 : Below W0.heap.size W0 w2 := Below.trans (Below.drew (Below.refl _ _)) hb1
  go_wp2_with fail
  refine hK.out _ _ (SS _ hB1) (fun hHeld => ?_)
  clear hK K
  (try simp only [Act.put, lsA, lsZ, lsS])
  refine wpAnyH_ready (rs := [5]) (by kernel_rfl) (by simp) ?_
  refine AllReadyH.cons rfl (fun K hK => ?_) AllReadyH.nil
  go_simp
  refine (d2 _).mono ?_
  rintro en w3 ⟨A2, c2, rfl, ho2, hb2⟩
  have hB2 := hB1.trans (hb2.mono hB1.size)
  go_wp2_with fail
  refine hK.out _ _ (SS _ hB2) (fun hHeld => ?_)
  clear hK K
  (try simp only [Act.put, lsA, lsZ, lsS])
  refine wpAnyH_ready (rs := [6]) (by kernel_rfl) (by simp) ?_
  refine AllReadyH.cons rfl (fun K hK => ?_) AllReadyH.nil
  have hz1' : w.heap.size ≤ W0.heap.size := (SS W0 (Below.refl _ _)).1.size
  have ho1' : w3.ownsRow W0.heap.size 5 1 (.slice A1 1 c1) 1 _ := own_below ho1 hb2
  refine step_append_any _ rfl (.tmp 9) (.tmp 13) _ rfl W0.heap.size 5 i0 _ 1 1 Try.underlying34 hi0 hz0 hz1 hz2 rfl (by omega) (.slice A1 1 c1) 1 (u8s (digs 0 1)) rfl ho1' w3.heap.size A2 2 c2 (u8s (digs e 2)) rfl (Reads.of_own ho2) u2 (by unfold maxLen; omega) (by omega) hB2.size ?_
  intro v4 w4 ho4 hg4 _
  rw [u8s_appT] at ho4
  obtain ⟨A4, c4, rfl, _, _⟩ := own_slice ho4
  have hB4 : Below W0.heap.size W0 w4 := hB2.grown hg4 hB2.size (fun q hq => own_base (own_below ho1 hb2) hq)
  refine hK.out _ _ (SS _ hB4) (fun hHeld => ?_)
  clear hK K
  (try simp only [Act.put, lsA, lsZ, lsS])
  refine wpAnyH_ready (rs := [7]) (by kernel_rfl) (by simp) ?_
  refine AllReadyH.cons rfl (fun K hK => ?_) AllReadyH.nil
  go_simp
  refine hK.out _ _ (SS _ hB4) (fun hHeld => ?_)
  clear hK K
  (try simp only [Act.put, lsA, lsZ, lsS])
  refine wpAnyH_done (by kernel_rfl) ?_ _
  have hK4 := hbK _ hB4
  have q0 := hK4.cell 0
  have q1 := hK4.cell 1
  have q2 := hK4.cell 2
  obtain ⟨D4, hD4⟩ : ∃ D, digs 0 1 ++ digs e 2 = D := ⟨_, rfl⟩
  rw [hD4] at ho4
  replace hD4 := Lib.hid hD4
  have hz4 := hB4.size
  clear ho1 ho1' ho2 hb1 hb2 hg4 k2 hHeld
  go_wp2_with (first
    | (go_at_call 88; refine (d3 _).mono ?_; rintro en w5 ⟨A5, c5, rfl, ho5, hb5⟩; have ho4' := own_below ho4 hb5; have hB5 := hB4.trans (hb5.mono hB4.size))
    | (at_builtin; refine wpList_append_any _ rfl (.tmp 15) (.tmp 20) _ rfl W0.heap.size 5 i0 _ 1 1 Try.underlying34 hi0 hz0 hz1 hz2 rfl (by omega) (.slice A4 3 c4) 3 (u8s D4) rfl ho4' w5.heap.size A5 1 c5 (u8s (digs m 1)) rfl (Reads.of_own ho5) u3 (by unfold maxLen; omega) (by omega) hB5.size ?_; intro v6 w6 ho6 hg6 _; rw [u8s_appT] at ho6; obtain ⟨A6, c6, rfl, _, _⟩ := own_slice ho6; have hB6 : Below W0.heap.size W0 w6 := hB5.grown hg6 hB5.size (fun q hq => own_base ho4' hq)))
  have hw6 := (SS _ hB6).1
  have hf : D4 ++ digs m 1 = flat [(0, 1), (e, 2), (m, 1)] := by rw [← hD4.out]; simp [flat]
  rw [hf] at ho6
  clear ho4 ho5 ho4' hg6 hB4 hB5 hb5 hK4 q0 q1 q2 hf
  obtain ⟨G, hG⟩ : ∃ G : List (Nat × Nat), [(0, 1), (e, 2), (m, 1)] = G := ⟨_, rfl⟩
  rw [hG] at ho6
  replace hG := Lib.hid hG
  go_loopw [4, 5] (fun o i wr => ∃ (k r : Nat) (Ap : Option Addr) (cp : Nat), k ≤ m ∧ i = .int .i64 k ∧ o = .slice Ap r cp ∧ r = 4 + 4 * k ∧ wr.ownsRow W0.heap.size 5 1 (.slice Ap r cp) r (u8s (flat (G ++ (l.take k).map (fun x => (x.toNat, 4))))) ∧ Below W0.heap.size W0 wr) (fun _ i _ => m - (intOf i).toNat)
  case atStart => exact ⟨0, 4, A6, c6, by omega, rfl, rfl, rfl, by rw [List.take_zero, List.map_nil, List.append_nil]; exact ho6, hB6⟩
  case round =>
    clear ho6 hB6 hw6
    obtain ⟨k, r, Ap, cp, hk, rfl, rfl, hr, ho, hZ⟩ := hrel
    have hr1 : r ≤ 200 := by omega
    replace hr := Lib.hid hr
    have hZw := (SS _ hZ).1
    have hKz := hbK _ hZ
    have q0 := hKz.cell 0
    have q1 := hKz.cell 1
    have q2 := hKz.cell 2
    by_cases hlt : k < m
    · obtain ⟨ad, hA, hab, cA⟩ := at_u32 hl40.out (hL.below hZw) hlt
      subst hA
      have hsn := Lib.hid (map_snoc (l := l) (k := k) (by rw [hl40.out]; exact hlt))
      have hmem : l.getD k 0 ∈ l := by rw [List.getD_eq_getElem?_getD, List.getElem?_eq_getElem (by rw [hl40.out]; exact hlt)]; exact List.getElem_mem _
      have hx0 := hl0 _ hmem
      have hx1 := hl1 _ hmem
      clear hmem
      obtain ⟨x, hx⟩ : ∃ x, l.getD k 0 = x := ⟨_, rfl⟩
      rw [hx] at cA hx0 hx1 hsn
      obtain ⟨xn, rfl⟩ : ∃ xn : Nat, x = (xn : Int) := ⟨x.toNat, (Int.toNat_of_nonneg hx0).symm⟩
      have wx : IntKind.u64.wrap (xn : Int) = (xn : Int) := IntWalk.u64_in _ (by omega)
      have i1 : (0 : Int) ≤ k := by omega
      have i2 : (k : Int) < m := by omega
      have d4 := fun w => rdigitsT xn 4 (by omega) (by omega) w
      have u4 := u8s_one (digs xn 4)
      obtain ⟨Q, hQ⟩ : ∃ Q : List Int, flat (G ++ (l.take k).map (fun x => (x.toNat, 4))) = Q := ⟨_, rfl⟩
      rw [hQ] at ho
      replace hQ := Lib.hid hQ
      have hL0 := Lib.hid hl0
      have hL1 := Lib.hid hl1
      clear hx hL hl0 hl1 d1 d2 d3 u2 u3
      go_wp2_with (first
        | (go_at_call 88; refine (d4 _).mono ?_; rintro en w7 ⟨A7, c7, rfl, ho7, hb7⟩; have ho' := own_below ho hb7; have hB7 := hZ.trans (hb7.mono hZ.size))
        | (at_builtin; refine wpList_append_any _ rfl (.tmp 29) (.tmp 36) _ rfl W0.heap.size 5 i0 _ 1 1 Try.underlying34 hi0 hz0 hz1 hz2 rfl (by omega) (.slice Ap r cp) r (u8s Q) rfl ho' w7.heap.size A7 4 c7 (u8s (digs xn 4)) rfl (Reads.of_own ho7) u4 (by unfold maxLen; omega) (by omega) hB7.size ?_; intro v8 w8 ho8 hg8 _; rw [u8s_appT] at ho8; obtain ⟨A8, c8, rfl, _, _⟩ := own_slice ho8; have hB8 : Below W0.heap.size W0 w8 := hB7.grown hg8 hB7.size (fun q hq => own_base ho' hq)))
      have e1 : Q ++ digs xn 4 = flat (G ++ (l.take (k + 1)).map (fun x => (x.toNat, 4))) := by
        rw [hsn.out, ← List.append_assoc, flat_app, ← hQ.out]
        simp [flat]
      rw [e1] at ho8
      replace e1 := Lib.hid e1
      go_roundw
      case rel => exact ⟨k + 1, r + 4, A8, c8, by omega, by go_num, rfl, by rw [hr.out]; omega, ho8, hB8⟩
      case measure => simp [intOf] <;> omega
    · obtain rfl : k = m := by omega
      rw [List.take_of_length_le (by rw [hl40.out]; exact Nat.le_refl _)] at ho
      have hr' := hr.out
      subst hr'
      have hz := (SS W0 (Below.refl _ _)).1.size
      have hp : G ++ l.map (fun x => (x.toNat, 4)) = ptsD false l (e : Int) := by
        rw [← hG.out]
        unfold ptsD
        rw [hl40.out]
        rfl
      have ho2 := own_mono ho hz
      rw [hp] at ho2
      have hk40 := Lib.hid hl40
      clear hp ho hL hl0 hl1 d1 d2 d3 u2 u3 SS hbK hKz hlt
      have d : decide ((k : Int) < k) = false := by simp
      go_wp2
      go_ret
      exact ⟨Ap, cp, rfl, ho2, hZw⟩
set_option maxRecDepth 100000 in
set_option maxHeartbeats 8000000 in
theorem rtext_true (L : Option Addr) (m lc : Nat) (l : List Int) (hl : l.length = m) (hm : m ≤ 40) (hl0 : ∀ x ∈ l, 0 ≤ x) (hl1 : ∀ x ∈ l, x < 4294967296) (e : Nat) (he1 : e ≤ 1024) (w : World) (hL : Reads w w.heap.size 1 L m (u32s l)) :
    Calls Try.prog 89 #[dy true L m lc (e : Int)] w fun en w' => ∃ A c, en = .returned (.slice A (4 + 4 * m) c) ∧ w'.ownsRow w.heap.size 5 1 (.slice A (4 + 4 * m) c) (4 + 4 * m) (u8s (flat (ptsD true l (e : Int)))) ∧ Below w.heap.size w w' := by
  obtain ⟨i0, hi0, hz0, hz1, hz2⟩ := info_parts info5
  have hB := (Below.refl w.heap.size w).alloc (Nat.le_refl _) (.cells #[.bool true, .slice L m lc, .int .i64 (e : Int)] 24)
  have hbx := Blk.new w 24 #[.bool true, .slice L m lc, .int .i64 (e : Int)]
  have we : IntKind.u64.wrap (e : Int) = (e : Int) := IntWalk.u64_in _ (by omega)
  have d1 := fun w => rdigitsT 1 1 (by omega) (by omega) w
  have d2 := fun w => rdigitsT e 2 (by omega) (by omega) w
  have d3 := fun w => rdigitsT m 1 (by omega) (by omega) w
  have u2 := u8s_one (digs e 2)
  have u3 := u8s_one (digs m 1)
  obtain ⟨W0, hW0⟩ : ∃ W0, W0 = w.alloc (.cells #[.bool true, .slice L m lc, .int .i64 (e : Int)] 24) := ⟨_, rfl⟩
  rw [← hW0] at hB hbx
  have SS : ∀ w', Below W0.heap.size W0 w' → Below w.heap.size w w' ∧ w'.cell? ⟨w.heap.size, 2, none⟩ = some (.int .i64 (e : Int)) := fun w' h => ⟨hB.trans (h.mono hB.size), (hbx.below h hbx.lt).cell 2⟩
  have hbK : ∀ w', Below W0.heap.size W0 w' → Blk w' w.heap.size 24 #[.bool true, .slice L m lc, .int .i64 (e : Int)] := fun w' h => hbx.below h hbx.lt
  have hl40 := Lib.hid hl
  clear hl
  go_enter Try.func89, Try.ntmps89
  go_wp2_with fail
  rw [← hW0]
  replace hW0 := Lib.hid hW0
  have k2 := (SS W0 (Below.refl _ _)).2
  refine wp_region_held_drew (S := (fun w' => Below w.heap.size w w' ∧ w'.cell? ⟨w.heap.size, 2, none⟩ = some (.int .i64 (e : Int)))) (by kernel_rfl) (SS _ (Below.drew (Below.refl _ _))) (fun hHeld => ?_)
  refine wpAnyH_take (i := 0) (v := ?_) rfl (by kernel_rfl) (by kernel_rfl) (by kernel_rfl) (fun _ _ _ h => h) (Or.inl ⟨by rfl, ?_⟩) (by assumption) ?_
  rotate_left
  · (intro w hSw; (try dsimp only at hSw); go_simp; (try with_reducible rfl))
  (try simp only [Act.put, lsA, lsZ, lsS])
  refine wpAnyH_take (i := 2) (v := ?_) rfl (by kernel_rfl) (by kernel_rfl) (by kernel_rfl) (fun _ _ _ h => h) (Or.inl ⟨by rfl, ?_⟩) (by assumption) ?_
  rotate_left
  · (intro w hSw; (try dsimp only at hSw); go_simp; (try with_reducible rfl))
  (try simp only [Act.put, lsA, lsZ, lsS])
  refine wpAnyH_take (i := 3) (v := ?_) rfl (by kernel_rfl) (by kernel_rfl) (by kernel_rfl) (fun _ _ _ h => h) (Or.inl ⟨by rfl, ?_⟩) (by assumption) ?_
  rotate_left
  · (intro w hSw; (try dsimp only at hSw); go_simp; (try with_reducible rfl))
  (try simp only [Act.put, lsA, lsZ, lsS])
  refine wpAnyH_take (i := 4) (v := ?_) rfl (by kernel_rfl) (by kernel_rfl) (by kernel_rfl) (fun _ _ _ h => h) (Or.inl ⟨by rfl, ?_⟩) (by assumption) ?_
  rotate_left
  · (intro w hSw; (try dsimp only at hSw); go_simp; (try with_reducible rfl))
  (try simp only [Act.put, lsA, lsZ, lsS])
  refine wpAnyH_ready (rs := [1]) (by kernel_rfl) (by simp) ?_
  refine AllReadyH.cons rfl (fun K hK => ?_) AllReadyH.nil
  go_simp
  refine (d1 _).mono ?_
  rintro en w2 ⟨A1, c1, rfl, ho1, hb1⟩
  have hB1 : Below W0.heap.size W0 w2 := Below.trans (Below.drew (Below.refl _ _)) hb1
  go_wp2_with fail
  refine hK.out _ _ (SS _ hB1) (fun hHeld => ?_)
  clear hK K
  (try simp only [Act.put, lsA, lsZ, lsS])
  refine wpAnyH_ready (rs := [5]) (by kernel_rfl) (by simp) ?_
  refine AllReadyH.cons rfl (fun K hK => ?_) AllReadyH.nil
  go_simp
  refine (d2 _).mono ?_
  rintro en w3 ⟨A2, c2, rfl, ho2, hb2⟩
  have hB2 := hB1.trans (hb2.mono hB1.size)
  go_wp2_with fail
  refine hK.out _ _ (SS _ hB2) (fun hHeld => ?_)
  clear hK K
  (try simp only [Act.put, lsA, lsZ, lsS])
  refine wpAnyH_ready (rs := [6]) (by kernel_rfl) (by simp) ?_
  refine AllReadyH.cons rfl (fun K hK => ?_) AllReadyH.nil
  have hz1' : w.heap.size ≤ W0.heap.size := (SS W0 (Below.refl _ _)).1.size
  have ho1' : w3.ownsRow W0.heap.size 5 1 (.slice A1 1 c1) 1 _ := own_below ho1 hb2
  refine step_append_any _ rfl (.tmp 9) (.tmp 13) _ rfl W0.heap.size 5 i0 _ 1 1 Try.underlying34 hi0 hz0 hz1 hz2 rfl (by omega) (.slice A1 1 c1) 1 (u8s (digs 1 1)) rfl ho1' w3.heap.size A2 2 c2 (u8s (digs e 2)) rfl (Reads.of_own ho2) u2 (by unfold maxLen; omega) (by omega) hB2.size ?_
  intro v4 w4 ho4 hg4 _
  rw [u8s_appT] at ho4
  obtain ⟨A4, c4, rfl, _, _⟩ := own_slice ho4
  have hB4 : Below W0.heap.size W0 w4 := hB2.grown hg4 hB2.size (fun q hq => own_base (own_below ho1 hb2) hq)
  refine hK.out _ _ (SS _ hB4) (fun hHeld => ?_)
  clear hK K
  (try simp only [Act.put, lsA, lsZ, lsS])
  refine wpAnyH_ready (rs := [7]) (by kernel_rfl) (by simp) ?_
  refine AllReadyH.cons rfl (fun K hK => ?_) AllReadyH.nil
  go_simp
  refine hK.out _ _ (SS _ hB4) (fun hHeld => ?_)
  clear hK K
  (try simp only [Act.put, lsA, lsZ, lsS])
  refine wpAnyH_done (by kernel_rfl) ?_ _
  have hK4 := hbK _ hB4
  have q0 := hK4.cell 0
  have q1 := hK4.cell 1
  have q2 := hK4.cell 2
  obtain ⟨D4, hD4⟩ : ∃ D, digs 1 1 ++ digs e 2 = D := ⟨_, rfl⟩
  rw [hD4] at ho4
  replace hD4 := Lib.hid hD4
  have hz4 := hB4.size
  clear ho1 ho1' ho2 hb1 hb2 hg4 k2 hHeld
  go_wp2_with (first
    | (go_at_call 88; refine (d3 _).mono ?_; rintro en w5 ⟨A5, c5, rfl, ho5, hb5⟩; have ho4' := own_below ho4 hb5; have hB5 := hB4.trans (hb5.mono hB4.size))
    | (at_builtin; refine wpList_append_any _ rfl (.tmp 15) (.tmp 20) _ rfl W0.heap.size 5 i0 _ 1 1 Try.underlying34 hi0 hz0 hz1 hz2 rfl (by omega) (.slice A4 3 c4) 3 (u8s D4) rfl ho4' w5.heap.size A5 1 c5 (u8s (digs m 1)) rfl (Reads.of_own ho5) u3 (by unfold maxLen; omega) (by omega) hB5.size ?_; intro v6 w6 ho6 hg6 _; rw [u8s_appT] at ho6; obtain ⟨A6, c6, rfl, _, _⟩ := own_slice ho6; have hB6 : Below W0.heap.size W0 w6 := hB5.grown hg6 hB5.size (fun q hq => own_base ho4' hq)))
  have hw6 := (SS _ hB6).1
  have hf : D4 ++ digs m 1 = flat [(1, 1), (e, 2), (m, 1)] := by rw [← hD4.out]; simp [flat]
  rw [hf] at ho6
  clear ho4 ho5 ho4' hg6 hB4 hB5 hb5 hK4 q0 q1 q2 hf
  obtain ⟨G, hG⟩ : ∃ G : List (Nat × Nat), [(1, 1), (e, 2), (m, 1)] = G := ⟨_, rfl⟩
  rw [hG] at ho6
  replace hG := Lib.hid hG
  go_loopw [4, 5] (fun o i wr => ∃ (k r : Nat) (Ap : Option Addr) (cp : Nat), k ≤ m ∧ i = .int .i64 k ∧ o = .slice Ap r cp ∧ r = 4 + 4 * k ∧ wr.ownsRow W0.heap.size 5 1 (.slice Ap r cp) r (u8s (flat (G ++ (l.take k).map (fun x => (x.toNat, 4))))) ∧ Below W0.heap.size W0 wr) (fun _ i _ => m - (intOf i).toNat)
  case atStart => exact ⟨0, 4, A6, c6, by omega, rfl, rfl, rfl, by rw [List.take_zero, List.map_nil, List.append_nil]; exact ho6, hB6⟩
  case round =>
    clear ho6 hB6 hw6
    obtain ⟨k, r, Ap, cp, hk, rfl, rfl, hr, ho, hZ⟩ := hrel
    have hr1 : r ≤ 200 := by omega
    replace hr := Lib.hid hr
    have hZw := (SS _ hZ).1
    have hKz := hbK _ hZ
    have q0 := hKz.cell 0
    have q1 := hKz.cell 1
    have q2 := hKz.cell 2
    by_cases hlt : k < m
    · obtain ⟨ad, hA, hab, cA⟩ := at_u32 hl40.out (hL.below hZw) hlt
      subst hA
      have hsn := Lib.hid (map_snoc (l := l) (k := k) (by rw [hl40.out]; exact hlt))
      have hmem : l.getD k 0 ∈ l := by rw [List.getD_eq_getElem?_getD, List.getElem?_eq_getElem (by rw [hl40.out]; exact hlt)]; exact List.getElem_mem _
      have hx0 := hl0 _ hmem
      have hx1 := hl1 _ hmem
      clear hmem
      obtain ⟨x, hx⟩ : ∃ x, l.getD k 0 = x := ⟨_, rfl⟩
      rw [hx] at cA hx0 hx1 hsn
      obtain ⟨xn, rfl⟩ : ∃ xn : Nat, x = (xn : Int) := ⟨x.toNat, (Int.toNat_of_nonneg hx0).symm⟩
      have wx : IntKind.u64.wrap (xn : Int) = (xn : Int) := IntWalk.u64_in _ (by omega)
      have i1 : (0 : Int) ≤ k := by omega
      have i2 : (k : Int) < m := by omega
      have d4 := fun w => rdigitsT xn 4 (by omega) (by omega) w
      have u4 := u8s_one (digs xn 4)
      obtain ⟨Q, hQ⟩ : ∃ Q : List Int, flat (G ++ (l.take k).map (fun x => (x.toNat, 4))) = Q := ⟨_, rfl⟩
      rw [hQ] at ho
      replace hQ := Lib.hid hQ
      have hL0 := Lib.hid hl0
      have hL1 := Lib.hid hl1
      clear hx hL hl0 hl1 d1 d2 d3 u2 u3
      go_wp2_with (first
        | (go_at_call 88; refine (d4 _).mono ?_; rintro en w7 ⟨A7, c7, rfl, ho7, hb7⟩; have ho' := own_below ho hb7; have hB7 := hZ.trans (hb7.mono hZ.size))
        | (at_builtin; refine wpList_append_any _ rfl (.tmp 29) (.tmp 36) _ rfl W0.heap.size 5 i0 _ 1 1 Try.underlying34 hi0 hz0 hz1 hz2 rfl (by omega) (.slice Ap r cp) r (u8s Q) rfl ho' w7.heap.size A7 4 c7 (u8s (digs xn 4)) rfl (Reads.of_own ho7) u4 (by unfold maxLen; omega) (by omega) hB7.size ?_; intro v8 w8 ho8 hg8 _; rw [u8s_appT] at ho8; obtain ⟨A8, c8, rfl, _, _⟩ := own_slice ho8; have hB8 : Below W0.heap.size W0 w8 := hB7.grown hg8 hB7.size (fun q hq => own_base ho' hq)))
      have e1 : Q ++ digs xn 4 = flat (G ++ (l.take (k + 1)).map (fun x => (x.toNat, 4))) := by
        rw [hsn.out, ← List.append_assoc, flat_app, ← hQ.out]
        simp [flat]
      rw [e1] at ho8
      replace e1 := Lib.hid e1
      go_roundw
      case rel => exact ⟨k + 1, r + 4, A8, c8, by omega, by go_num, rfl, by rw [hr.out]; omega, ho8, hB8⟩
      case measure => simp [intOf] <;> omega
    · obtain rfl : k = m := by omega
      rw [List.take_of_length_le (by rw [hl40.out]; exact Nat.le_refl _)] at ho
      have hr' := hr.out
      subst hr'
      have hz := (SS W0 (Below.refl _ _)).1.size
      have hp : G ++ l.map (fun x => (x.toNat, 4)) = ptsD true l (e : Int) := by
        rw [← hG.out]
        unfold ptsD
        rw [hl40.out]
        rfl
      have ho2 := own_mono ho hz
      rw [hp] at ho2
      have hk40 := Lib.hid hl40
      clear hp ho hL hl0 hl1 d1 d2 d3 u2 u3 SS hbK hKz hlt
      have d : decide ((k : Int) < k) = false := by simp
      go_wp2
      go_ret
      exact ⟨Ap, cp, rfl, ho2, hZw⟩
theorem rtext_any (neg : Bool) (L : Option Addr) (m lc : Nat) (l : List Int) (hl : l.length = m) (hm : m ≤ 40) (hl0 : ∀ x ∈ l, 0 ≤ x) (hl1 : ∀ x ∈ l, x < 4294967296) (e : Nat) (he1 : e ≤ 1024) (w : World) (hL : Reads w w.heap.size 1 L m (u32s l)) :
    Calls Try.prog 89 #[dy neg L m lc (e : Int)] w fun en w' => ∃ A c, en = .returned (.slice A (4 + 4 * m) c) ∧ w'.ownsRow w.heap.size 5 1 (.slice A (4 + 4 * m) c) (4 + 4 * m) (u8s (flat (ptsD neg l (e : Int)))) ∧ Below w.heap.size w w' := by
  cases neg
  · exact rtext_false L m lc l hl hm hl0 hl1 e he1 w hL
  · exact rtext_true L m lc l hl hm hl0 hl1 e he1 w hL
end Go.Proofs.Ytjmhefkmpfkpbaa
namespace Go.Proofs.Ytjmhefkmpfkpbaa
open Go.ChangeShapes Go.WideShapes Go.ChangeAt Go.RowKit
set_option linter.unusedSimpArgs false
set_option linter.unusedVariables false
theorem rmay34 (A : Option Addr) (n c : Nat) (p : Int) (w : World) : Calls Try.prog 101 #[rst A n c p] w fun en w' => en = .returned (.bool (rdrE n p == 0)) ∧ Below w.heap.size w w' := by
  have h1 : p < 0 ∨ (0 ≤ p ∧ p ≤ n) ∨ (0 ≤ p ∧ n < p) := by omega
  rcases h1 with h1 | ⟨h1, h2⟩ | ⟨h1, h2⟩
  · have d1 : decide (0 ≤ p) = false := decide_eq_false (by omega)
    rw [show rdrE n p = 8 from if_neg (by omega)]
    go_enter Try.func101, Try.ntmps101
    go_wp2
    go_ret
    exact ⟨rfl, (Below.refl _ w).alloc (Nat.le_refl _) _⟩
  · have d1 : decide (0 ≤ p) = true := decide_eq_true h1
    have d2 : decide (p ≤ (n : Int)) = true := decide_eq_true h2
    rw [show rdrE n p = 0 from if_pos ⟨h1, h2⟩]
    go_enter Try.func101, Try.ntmps101
    go_wp2
    go_ret
    exact ⟨rfl, (Below.refl _ w).alloc (Nat.le_refl _) _⟩
  · have d1 : decide (0 ≤ p) = true := decide_eq_true h1
    have d2 : decide (p ≤ (n : Int)) = false := decide_eq_false (by omega)
    rw [show rdrE n p = 8 from if_neg (by omega)]
    go_enter Try.func101, Try.ntmps101
    go_wp2
    go_ret
    exact ⟨rfl, (Below.refl _ w).alloc (Nat.le_refl _) _⟩
set_option maxHeartbeats 4000000 in
theorem rnum_short (A : Option Addr) (n c : Nat) (p s : Int) (hp : rdrE n p = 0) (hm : n ≤ 100000) (h1 : 1 ≤ s) (h8 : s ≤ 8) (hp0 : 0 ≤ p) (hpn : p ≤ n) (hs : (n : Int) < p + s) (w : World) :
    Calls Try.prog 93 #[rst A n c p, .int .i64 s] w fun en w' => en = .returned (.tuple #[rst none 0 0 0, .int .u64 0, .int .i64 40]) ∧ Below w.heap.size w w' := by
  have d1 : decide (s < 1) = false := decide_eq_false (by omega)
  have d2 : decide (8 < s) = false := decide_eq_false (by omega)
  have wv : IntKind.i64.wrap ((n : Int) - p) = (n : Int) - p := IntWalk.i64_in _ (by omega)
  have d3 : decide ((n : Int) - p < s) = true := decide_eq_true (by omega)
  clear h1 h8 hp0 hpn hs
  have hB0 := ((Below.refl w.heap.size w).alloc (Nat.le_refl _) (.cells #[.slice A n c, .int .i64 p] 67)).alloc (by rw [World.size_alloc]; omega) (.cells #[.slice none 0 0, .int .i64 0] 67)
  have hx0 := (Blk.new w 67 #[.slice A n c, .int .i64 p]).alloc (.cells #[.slice none 0 0, .int .i64 0] 67)
  have hr0 := Blk.new (w.alloc (.cells #[.slice A n c, .int .i64 p] 67)) 67 #[.slice none 0 0, .int .i64 0]
  rw [World.size_alloc] at hr0
  have hmy := fun (w : World) => rmay34 A n c p w
  rw [hp] at hmy
  go_enter Try.func93, Try.ntmps93
  go_wp2_with fail
  refine (hmy _).mono ?_
  rintro en w1 ⟨rfl, hb1⟩
  have hB1 := hB0.trans (hb1.mono hB0.size)
  have hx1 := hx0.below hb1 hx0.lt
  have hr1 := hr0.below hb1 hr0.lt
  clear hb1 hx0 hr0 hB0 hmy hp
  have x0 := hx1.cell 0
  have x1 := hx1.cell 1
  have r0 := hr1.cell 0
  have r1 := hr1.cell 1
  have rf0 := hr1.frozen 0
  have rf1 := hr1.frozen 1
  have rlt := hr1.lt
  go_wp2
  have K := (hr1.set_ 0 (.slice none 0 0)).set_ 1 (.int .i64 0)
  have z0 := K.cell 0
  have z1 := K.cell 1
  simp at z0 z1
  refine bodyPost_ret (v := .tuple #[rst none 0 0 0, .int .u64 0, .int .i64 40]) (by simp [results, Try.results16, go_sem, z0, z1]) rfl ⟨rfl, ?_⟩
  exact (hB1.setCell (p := ⟨w.heap.size + 1, 0, none⟩) (by show w.heap.size ≤ w.heap.size + 1; omega) _).setCell (p := ⟨w.heap.size + 1, 1, none⟩) (by show w.heap.size ≤ w.heap.size + 1; omega) _
set_option maxRecDepth 100000 in
set_option maxHeartbeats 8000000 in
theorem rnum_ok (A : Option Addr) (n c : Nat) (l : List Int) (hn : l.length = n) (hb : ∀ b ∈ l, 0 ≤ b ∧ b < 256) (hm : n ≤ 100000) (hnc : n ≤ c) (p s : Nat) (h1 : 1 ≤ s) (h8 : s ≤ 8) (hps : p + s ≤ n) (w : World) (hR : Reads w w.heap.size 1 A n (u8s l)) :
    Calls Try.prog 93 #[rst A n c (p : Int), .int .i64 (s : Int)] w fun en w' => en = .returned (.tuple #[rst A n c ((p + s : Nat) : Int), .int .u64 (numI ((l.drop p).take s)), .int .i64 0]) ∧ Below w.heap.size w w' := by
  obtain ⟨ad, _, rfl, hbl, _, _⟩ := hR.at_ (show 0 < n by omega)
  have d1 : decide ((s : Int) < 1) = false := decide_eq_false (by omega)
  have d2 : decide ((8 : Int) < (s : Int)) = false := decide_eq_false (by omega)
  have wv : IntKind.i64.wrap ((n : Int) - p) = (n : Int) - p := IntWalk.i64_in _ (by omega)
  have d3 : decide ((n : Int) - p < s) = false := decide_eq_false (by omega)
  have wq : IntKind.i64.wrap ((p : Int) + s) = (p : Int) + s := IntWalk.i64_in _ (by omega)
  have e1 : (0 : Int) ≤ p := by omega
  have e2 : (p : Int) ≤ (p : Int) + s := by omega
  have e3 : (p : Int) + s ≤ c := by omega
  have e4 : (p : Int) + s ≤ n := by omega
  have e5 : ¬ c = p := by omega
  have e6 : c ≠ p := by omega
  have e7 : p ≤ c := by omega
  have e8 : p + s - p = s := by omega
  have e9 : ((p : Int) + s).toNat = p + s := by omega
  have e10 : (p : Int) ≤ c := by omega
  have hlen : ((l.drop p).take s).length = s := by rw [List.length_take, List.length_drop]; omega
  have hb2 : ∀ x ∈ (l.drop p).take s, 0 ≤ x ∧ x < 256 := fun x hx => hb x (List.mem_of_mem_drop (List.mem_of_mem_take hx))
  have hp : rdrE n (p : Int) = 0 := if_pos ⟨by omega, by omega⟩
  have hB0 := ((Below.refl w.heap.size w).alloc (Nat.le_refl _) (.cells #[.slice (some ad) n c, .int .i64 (p : Int)] 67)).alloc (by rw [World.size_alloc]; omega) (.cells #[.slice none 0 0, .int .i64 0] 67)
  have hx0 := (Blk.new w 67 #[.slice (some ad) n c, .int .i64 (p : Int)]).alloc (.cells #[.slice none 0 0, .int .i64 0] 67)
  have hr0 := Blk.new (w.alloc (.cells #[.slice (some ad) n c, .int .i64 (p : Int)] 67)) 67 #[.slice none 0 0, .int .i64 0]
  rw [World.size_alloc] at hr0
  have hmy := fun (w : World) => rmay34 (some ad) n c (p : Int) w
  rw [hp] at hmy
  go_enter Try.func93, Try.ntmps93
  go_wp2_with fail
  refine (hmy _).mono ?_
  rintro en w1 ⟨rfl, hb1⟩
  have hB1 := hB0.trans (hb1.mono hB0.size)
  have hx1 := hx0.below hb1 hx0.lt
  have hr1 := hr0.below hb1 hr0.lt
  have hP := (hR.below hB1).part (k := p) (s := s) hn hps h1
  have ho := rofT (some (ad.add p)) s (c - p) w.heap.size _ hlen h8 hb2 w1.drew hP
  clear hb1 hx0 hr0 hB0 hmy hp
  have x0 := hx1.cell 0
  have x1 := hx1.cell 1
  clear hn hb hR
  go_wp2_with fail
  refine wp_region_held_drew (S := (fun w' => w'.cell? ⟨w.heap.size, 0, none⟩ = some (.slice (some ad) n c) ∧ w'.cell? ⟨w.heap.size, 1, none⟩ = some (.int .i64 (p : Int)))) (by kernel_rfl) (⟨x0, x1⟩) (fun hHeld => ?_)
  refine wpAnyH_take (i := 0) (v := ?_) rfl (by kernel_rfl) (by kernel_rfl) (by kernel_rfl) (fun _ _ _ h => h) (Or.inl ⟨by rfl, ?_⟩) (by assumption) ?_
  rotate_left
  · (intro w hSw; (try dsimp only at hSw); go_simp; (try with_reducible rfl))
  (try simp only [Act.put, lsA, lsZ, lsS])
  refine wpAnyH_take (i := 1) (v := ?_) rfl (by kernel_rfl) (by kernel_rfl) (by kernel_rfl) (fun _ _ _ h => h) (Or.inl ⟨by rfl, ?_⟩) (by assumption) ?_
  rotate_left
  · (intro w hSw; (try dsimp only at hSw); go_simp; (try with_reducible rfl))
  (try simp only [Act.put, lsA, lsZ, lsS])
  refine wpAnyH_take (i := 2) (v := ?_) rfl (by kernel_rfl) (by kernel_rfl) (by kernel_rfl) (fun _ _ _ h => h) (Or.inl ⟨by rfl, ?_⟩) (by assumption) ?_
  rotate_left
  · (intro w hSw; (try dsimp only at hSw); go_simp; (try with_reducible rfl))
  (try simp only [Act.put, lsA, lsZ, lsS])
  refine wpAnyH_take (i := 3) (v := ?_) rfl (by kernel_rfl) (by kernel_rfl) (by kernel_rfl) (fun _ _ _ h => h) (Or.inl ⟨by rfl, ?_⟩) (by assumption) ?_
  rotate_left
  · (intro w hSw; (try dsimp only at hSw); go_simp; (try with_reducible rfl))
  (try simp only [Act.put, lsA, lsZ, lsS])
  refine wpAnyH_take (i := 4) (v := ?_) rfl (by kernel_rfl) (by kernel_rfl) (by kernel_rfl) (fun _ _ _ h => h) (Or.inl ⟨by rfl, ?_⟩) (by assumption) ?_
  rotate_left
  · (intro w hSw; (try dsimp only at hSw); go_simp; (try with_reducible rfl))
  (try simp only [Act.put, lsA, lsZ, lsS])
  refine wpAnyH_take (i := 5) (v := ?_) rfl (by kernel_rfl) (by kernel_rfl) (by kernel_rfl) (fun _ _ _ h => h) (Or.inl ⟨by rfl, ?_⟩) (by assumption) ?_
  rotate_left
  · (intro w hSw; (try dsimp only at hSw); go_simp; (try with_reducible rfl))
  (try simp only [Act.put, lsA, lsZ, lsS])
  refine wpAnyH_take (i := 6) (v := ?_) rfl (by kernel_rfl) (by kernel_rfl) (by kernel_rfl) (fun _ _ _ h => h) (Or.inl ⟨by rfl, ?_⟩) (by assumption) ?_
  rotate_left
  · (intro w hSw; (try dsimp only at hSw); go_simp; (try with_reducible rfl))
  (try simp only [Act.put, lsA, lsZ, lsS])
  refine wpAnyH_take (i := 7) (v := ?_) rfl (by kernel_rfl) (by kernel_rfl) (by kernel_rfl) (fun _ _ _ h => h) (Or.inl ⟨by rfl, ?_⟩) (by assumption) ?_
  rotate_left
  · (intro w hSw; (try dsimp only at hSw); go_simp; (try with_reducible rfl))
  (try simp only [Act.put, lsA, lsZ, lsS])
  refine wpAnyH_take (i := 8) (v := ?_) rfl (by kernel_rfl) (by kernel_rfl) (by kernel_rfl) (fun _ _ _ h => h) (Or.inl ⟨by rfl, ?_⟩) (by assumption) ?_
  rotate_left
  · (intro w hSw; (try dsimp only at hSw); go_simp; (try with_reducible rfl))
  (try simp only [Act.put, lsA, lsZ, lsS])
  refine wpAnyH_take (i := 9) (v := ?_) rfl (by kernel_rfl) (by kernel_rfl) (by kernel_rfl) (fun _ _ _ h => h) (Or.inl ⟨by rfl, ?_⟩) (by assumption) ?_
  rotate_left
  · (intro w hSw; (try dsimp only at hSw); go_simp; (try with_reducible rfl))
  (try simp only [Act.put, lsA, lsZ, lsS])
  refine wpAnyH_take (i := 10) (v := ?_) rfl (by kernel_rfl) (by kernel_rfl) (by kernel_rfl) (fun _ _ _ h => h) (Or.inl ⟨by rfl, ?_⟩) (by assumption) ?_
  rotate_left
  · (intro w hSw; (try dsimp only at hSw); go_simp; (try with_reducible rfl))
  (try simp only [Act.put, lsA, lsZ, lsS])
  refine wpAnyH_take (i := 11) (v := ?_) rfl (by kernel_rfl) (by kernel_rfl) (by kernel_rfl) (fun _ _ _ h => h) (Or.inl ⟨by rfl, ?_⟩) (by assumption) ?_
  rotate_left
  · (intro w hSw; (try dsimp only at hSw); go_simp; (try with_reducible rfl))
  (try simp only [Act.put, lsA, lsZ, lsS])
  refine wpAnyH_take (i := 12) (v := ?_) rfl (by kernel_rfl) (by kernel_rfl) (by kernel_rfl) (fun _ _ _ h => h) (Or.inl ⟨by rfl, ?_⟩) (by assumption) ?_
  rotate_left
  · (intro w hSw; (try dsimp only at hSw); go_simp; (try with_reducible rfl))
  (try simp only [Act.put, lsA, lsZ, lsS])
  refine wpAnyH_take (i := 13) (v := ?_) rfl (by kernel_rfl) (by kernel_rfl) (by kernel_rfl) (fun _ _ _ h => h) (Or.inl ⟨by rfl, ?_⟩) (by assumption) ?_
  rotate_left
  · (intro w hSw; (try dsimp only at hSw); go_simp; (try with_reducible rfl))
  (try simp only [Act.put, lsA, lsZ, lsS])
  refine wpAnyH_take (i := 14) (v := ?_) rfl (by kernel_rfl) (by kernel_rfl) (by kernel_rfl) (fun _ _ _ h => h) (Or.inl ⟨by rfl, ?_⟩) (by assumption) ?_
  rotate_left
  · (intro w hSw; (try dsimp only at hSw); go_simp; (try with_reducible rfl))
  (try simp only [Act.put, lsA, lsZ, lsS])
  refine wpAnyH_take (i := 15) (v := ?_) rfl (by kernel_rfl) (by kernel_rfl) (by kernel_rfl) (fun _ _ _ h => h) (Or.inl ⟨by rfl, ?_⟩) (by assumption) ?_
  rotate_left
  · (intro w hSw; (try dsimp only at hSw); go_simp; (try with_reducible rfl))
  (try simp only [Act.put, lsA, lsZ, lsS])
  refine wpAnyH_ready (rs := [16]) (by kernel_rfl) (by simp) ?_
  refine AllReadyH.cons rfl (fun K hK => ?_) AllReadyH.nil
  go_simp
  refine ho.mono ?_
  rintro en w2 ⟨rfl, rfl⟩
  go_wp2_with fail
  refine hK.out _ _ (⟨x0, x1⟩) (fun hHeld => ?_)
  clear hK K
  (try simp only [Act.put, lsA, lsZ, lsS])
  have r0 := hr1.cell 0
  have r1 := hr1.cell 1
  have rf0 := hr1.frozen 0
  have rf1 := hr1.frozen 1
  have rlt := hr1.lt
  have hxs := (hx1.far (p := ⟨w.heap.size + 1, 0, none⟩) (by show w.heap.size ≠ w.heap.size + 1; omega) (.slice (some ad) n c)).far (p := ⟨w.heap.size + 1, 1, none⟩) (by show w.heap.size ≠ w.heap.size + 1; omega) (.int .i64 ((p : Int) + s))
  have y0 := hxs.cell 0
  have y1 := hxs.cell 1
  refine wpAnyH_ready (rs := [17]) (by kernel_rfl) (by simp) ?_
  refine AllReadyH.cons rfl (fun K hK => ?_) AllReadyH.nil
  go_simp
  refine hK.out _ _ (⟨y0, y1⟩) (fun hHeld => ?_)
  clear hK K
  (try simp only [Act.put, lsA, lsZ, lsS])
  refine wpAnyH_ready (rs := [18]) (by kernel_rfl) (by simp) ?_
  refine AllReadyH.cons rfl (fun K hK => ?_) AllReadyH.nil
  go_simp
  refine hK.out _ _ (⟨y0, y1⟩) (fun hHeld => ?_)
  clear hK K
  (try simp only [Act.put, lsA, lsZ, lsS])
  refine wpAnyH_ready (rs := [19]) (by kernel_rfl) (by simp) ?_
  refine AllReadyH.cons rfl (fun K hK => ?_) AllReadyH.nil
  go_simp
  refine hK.out _ _ (⟨y0, y1⟩) (fun hHeld => ?_)
  clear hK K
  (try simp only [Act.put, lsA, lsZ, lsS])
  refine wpAnyH_done (by kernel_rfl) ?_ _
  clear hHeld
  have K := ((hr1.set_ 0 (.slice (some ad) n c)).set_ 1 (.int .i64 ((p : Int) + s))).drew
  have z0 := K.cell 0
  have z1 := K.cell 1
  simp at z0 z1
  go_wp2
  refine bodyPost_ret (v := .tuple #[rst (some ad) n c ((p + s : Nat) : Int), .int .u64 (numI ((l.drop p).take s)), .int .i64 0]) (by simp [results, Try.results16, go_sem, z0, z1]) rfl ⟨rfl, ?_⟩
  exact ((hB1.setCell (p := ⟨w.heap.size + 1, 0, none⟩) (by show w.heap.size ≤ w.heap.size + 1; omega) (.slice (some ad) n c)).setCell (p := ⟨w.heap.size + 1, 1, none⟩) (by show w.heap.size ≤ w.heap.size + 1; omega) (.int .i64 ((p : Int) + s))).drew
end Go.Proofs.Ytjmhefkmpfkpbaa
