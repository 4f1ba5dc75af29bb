/- Field: the reference's text of a dyad, and its PutDyad. -/
import Derived.Test.YtekeenldlkkljaaR
import Derived.Deep.RegionHeld3
namespace Go.Proofs.Ytekeenldlkkljaa
open Go.ChangeShapes Go.WideShapes Go.ChangeAt Go.RowKit
set_option linter.unusedSimpArgs false
set_option linter.unusedVariables false
theorem step_append_any {P : Program} (w : World) {ops : Array Oper} {o : Oper} {a : Act} {K : Act → World → Prop} {Q : Exit → Act → World → Prop} {E : Prop} (hgd : o.guard = none) (s x : Operand) (t : TypeId)
    (ho : o.op = .call { callee := .builtin .append, args := #[s, x], argTypes := #[t, t] })
    (base : Nat) (e : TypeId) (i : TypeInfo) (z : Value) (size bytes : Nat) (ht : P.underlying t = some (.slice e)) (hi : P.info? e = some i) (hz : i.zero = some z)
    (hsize : i.size = size) (hby : i.bytes = bytes) (hzs : z.cells.size = size) (hsz : 0 < size)
    (v : Value) (n : Nat) (xs : List Value) (hs : a.eval s = v) (hown : w.ownsRow base e size v n xs)
    (B : Nat) (A : Option Addr) (m c : Nat) (news : List Value) (hx : a.eval x = .slice A m c) (hr : Reads w B size A m news) (h1 : ∀ u ∈ news, u.oneCell' = true)
    (h63 : n + m ≤ maxLen) (hbytes : (n + m) * bytes ≤ 140737488355328) (hbase : base ≤ w.heap.size)
    (h : ∀ v' w', w'.ownsRow base e size v' (n + m) (xs ++ news) → w.grownBy w' v.ownBlock → (v'.ownBlock = v.ownBlock ∨ v'.ownBlock = some w.heap.size) → K (a.put o.dst v') w') :
    if Region.wanted o (yielded ops a.tmps) = true then Oper.wp P o a w K Q else E := by
  have hw : Region.wanted o (yielded ops a.tmps) = true := by simp [Region.wanted, hgd]
  rw [if_pos hw]
  exact wp_append_any w s x t ho base e i z size bytes ht hi hz hsize hby hzs hsz v n xs hs hown B A m c news hx hr h1 h63 hbytes hbase h
theorem own_below {w w' : World} {base size n : Nat} {e : TypeId} {v : Value} {xs : List Value} (h : w.ownsRow base e size v n xs) (hb : Below w.heap.size w w') : w'.ownsRow base e size v n xs :=
  ⟨h.1, h.2.imp id fun ⟨g, c, cur, e1, h1, h2, r⟩ => ⟨g, c, cur, e1, h1, Blk.below (show Blk w g e cur from h2) hb (Blk.lt (show Blk w g e cur from h2)), r⟩⟩
set_option maxRecDepth 100000 in
set_option maxHeartbeats 8000000 in
theorem rtext_false (L : Option Addr) (m lc : Nat) (l : List Int) (hl : l.length = m) (hm : m ≤ 40) (hl0 : ∀ x ∈ l, 0 ≤ x) (hl1 : ∀ x ∈ l, x < 4294967296) (e : Nat) (he1 : e ≤ 1024) (w : World) (hL : Reads w w.heap.size 1 L m (u32s l)) :
    Calls Try.prog 30 #[dy false L m lc (e : Int)] w fun en w' => ∃ A c, en = .returned (.slice A (4 + 4 * m) c) ∧ w'.ownsRow w.heap.size 5 1 (.slice A (4 + 4 * m) c) (4 + 4 * m) (u8s (flat (ptsD false l (e : Int)))) ∧ Below w.heap.size w w' := by
  obtain ⟨i0, hi0, hz0, hz1, hz2⟩ := info_parts info5
  have hB := (Below.refl w.heap.size w).alloc (Nat.le_refl _) (.cells #[.bool false, .slice L m lc, .int .i64 (e : Int)] 26)
  have hbx := Blk.new w 26 #[.bool false, .slice L m lc, .int .i64 (e : Int)]
  have we : IntKind.u64.wrap (e : Int) = (e : Int) := IntWalk.u64_in _ (by omega)
  have d1 := fun w => rdigits 0 1 (by omega) (by omega) w
  have d2 := fun w => rdigits e 2 (by omega) (by omega) w
  have d3 := fun w => rdigits m 1 (by omega) (by omega) w
  have u2 := u8s_one (digs e 2)
  have u3 := u8s_one (digs m 1)
  obtain ⟨W0, hW0⟩ : ∃ W0, W0 = w.alloc (.cells #[.bool false, .slice L m lc, .int .i64 (e : Int)] 26) := ⟨_, rfl⟩
  rw [← hW0] at hB hbx
  have SS : ∀ w', Below W0.heap.size W0 w' → Below w.heap.size w w' ∧ w'.cell? ⟨w.heap.size, 2, none⟩ = some (.int .i64 (e : Int)) := fun w' h => ⟨hB.trans (h.mono hB.size), (hbx.below h hbx.lt).cell 2⟩
  have hbK : ∀ w', Below W0.heap.size W0 w' → Blk w' w.heap.size 26 #[.bool false, .slice L m lc, .int .i64 (e : Int)] := fun w' h => hbx.below h hbx.lt
  have hl40 := Lib.hid hl
  clear hl
  go_enter Try.func30, Try.ntmps30
  go_wp2_with fail
  rw [← hW0]
  replace hW0 := Lib.hid hW0
  have k2 := (SS W0 (Below.refl _ _)).2
  refine wp_region_held_drew (S := (fun w' => Below w.heap.size w w' ∧ w'.cell? ⟨w.heap.size, 2, none⟩ = some (.int .i64 (e : Int)))) (by kernel_rfl) (SS _ (Below.drew (Below.refl _ _))) (fun hHeld => ?_)
  refine wpAnyH_take (i := 0) (v := ?_) rfl (by kernel_rfl) (by kernel_rfl) (by kernel_rfl) (fun _ _ _ h => h) (Or.inl ⟨by rfl, ?_⟩) (by assumption) ?_
  rotate_left
  · (intro w hSw; (try dsimp only at hSw); go_simp; (try with_reducible rfl))
  (try simp only [Act.put, List.setIfInBounds_toArray, List.set_cons_zero, List.set_cons_succ])
  refine wpAnyH_take (i := 2) (v := ?_) rfl (by kernel_rfl) (by kernel_rfl) (by kernel_rfl) (fun _ _ _ h => h) (Or.inl ⟨by rfl, ?_⟩) (by assumption) ?_
  rotate_left
  · (intro w hSw; (try dsimp only at hSw); go_simp; (try with_reducible rfl))
  (try simp only [Act.put, List.setIfInBounds_toArray, List.set_cons_zero, List.set_cons_succ])
  refine wpAnyH_take (i := 3) (v := ?_) rfl (by kernel_rfl) (by kernel_rfl) (by kernel_rfl) (fun _ _ _ h => h) (Or.inl ⟨by rfl, ?_⟩) (by assumption) ?_
  rotate_left
  · (intro w hSw; (try dsimp only at hSw); go_simp; (try with_reducible rfl))
  (try simp only [Act.put, List.setIfInBounds_toArray, List.set_cons_zero, List.set_cons_succ])
  refine wpAnyH_take (i := 4) (v := ?_) rfl (by kernel_rfl) (by kernel_rfl) (by kernel_rfl) (fun _ _ _ h => h) (Or.inl ⟨by rfl, ?_⟩) (by assumption) ?_
  rotate_left
  · (intro w hSw; (try dsimp only at hSw); go_simp; (try with_reducible rfl))
  (try simp only [Act.put, List.setIfInBounds_toArray, List.set_cons_zero, List.set_cons_succ])
  refine wpAnyH_ready (rs := [1]) (by kernel_rfl) (by simp) ?_
  refine AllReadyH.cons rfl (fun K hK => ?_) AllReadyH.nil
  go_simp
  refine (d1 _).mono ?_
  rintro en w2 ⟨A1, c1, rfl, ho1, hb1⟩
  have hB1 : Below W0.heap.size W0 w2 := Below.trans (Below.drew (Below.refl _ _)) hb1
  go_wp2_with fail
  refine hK.out _ _ (SS _ hB1) (fun hHeld => ?_)
  clear hK K
  (try simp only [Act.put, List.setIfInBounds_toArray, List.set_cons_zero, List.set_cons_succ])
  refine wpAnyH_ready (rs := [5]) (by kernel_rfl) (by simp) ?_
  refine AllReadyH.cons rfl (fun K hK => ?_) AllReadyH.nil
  go_simp
  refine (d2 _).mono ?_
  rintro en w3 ⟨A2, c2, rfl, ho2, hb2⟩
  have hB2 := hB1.trans (hb2.mono hB1.size)
  go_wp2_with fail
  refine hK.out _ _ (SS _ hB2) (fun hHeld => ?_)
  clear hK K
  (try simp only [Act.put, List.setIfInBounds_toArray, List.set_cons_zero, List.set_cons_succ])
  refine wpAnyH_ready (rs := [6]) (by kernel_rfl) (by simp) ?_
  refine AllReadyH.cons rfl (fun K hK => ?_) AllReadyH.nil
  have hz1' : w.heap.size ≤ W0.heap.size := (SS W0 (Below.refl _ _)).1.size
  have ho1' : w3.ownsRow W0.heap.size 5 1 (.slice A1 1 c1) 1 _ := own_below ho1 hb2
  refine step_append_any _ rfl (.tmp 9) (.tmp 13) _ rfl W0.heap.size 5 i0 _ 1 1 Try.underlying22 hi0 hz0 hz1 hz2 rfl (by omega) (.slice A1 1 c1) 1 (u8s (digs 0 1)) rfl ho1' w3.heap.size A2 2 c2 (u8s (digs e 2)) rfl (Reads.of_own ho2) u2 (by unfold maxLen; omega) (by omega) hB2.size ?_
  intro v4 w4 ho4 hg4 _
  rw [u8s_app] at ho4
  obtain ⟨A4, c4, rfl, _, _⟩ := own_slice ho4
  have hB4 : Below W0.heap.size W0 w4 := hB2.grown hg4 hB2.size (fun q hq => own_base (own_below ho1 hb2) hq)
  refine hK.out _ _ (SS _ hB4) (fun hHeld => ?_)
  clear hK K
  (try simp only [Act.put, List.setIfInBounds_toArray, List.set_cons_zero, List.set_cons_succ])
  refine wpAnyH_ready (rs := [7]) (by kernel_rfl) (by simp) ?_
  refine AllReadyH.cons rfl (fun K hK => ?_) AllReadyH.nil
  go_simp
  refine hK.out _ _ (SS _ hB4) (fun hHeld => ?_)
  clear hK K
  (try simp only [Act.put, List.setIfInBounds_toArray, List.set_cons_zero, List.set_cons_succ])
  refine wpAnyH_done (by kernel_rfl) ?_ _
  have hK4 := hbK _ hB4
  have q0 := hK4.cell 0
  have q1 := hK4.cell 1
  have q2 := hK4.cell 2
  obtain ⟨D4, hD4⟩ : ∃ D, digs 0 1 ++ digs e 2 = D := ⟨_, rfl⟩
  rw [hD4] at ho4
  replace hD4 := Lib.hid hD4
  have hz4 := hB4.size
  clear ho1 ho1' ho2 hb1 hb2 hg4 k2 hHeld
  go_wp2_with (first
    | (go_at_call 27; refine (d3 _).mono ?_; rintro en w5 ⟨A5, c5, rfl, ho5, hb5⟩; have ho4' := own_below ho4 hb5; have hB5 := hB4.trans (hb5.mono hB4.size))
    | (at_builtin; refine wpList_append_any _ rfl (.tmp 15) (.tmp 20) _ rfl W0.heap.size 5 i0 _ 1 1 Try.underlying22 hi0 hz0 hz1 hz2 rfl (by omega) (.slice A4 3 c4) 3 (u8s D4) rfl ho4' w5.heap.size A5 1 c5 (u8s (digs m 1)) rfl (Reads.of_own ho5) u3 (by unfold maxLen; omega) (by omega) hB5.size ?_; intro v6 w6 ho6 hg6 _; rw [u8s_app] at ho6; obtain ⟨A6, c6, rfl, _, _⟩ := own_slice ho6; have hB6 : Below W0.heap.size W0 w6 := hB5.grown hg6 hB5.size (fun q hq => own_base ho4' hq)))
  have hw6 := (SS _ hB6).1
  have hf : D4 ++ digs m 1 = flat [(0, 1), (e, 2), (m, 1)] := by rw [← hD4.out]; simp [flat]
  rw [hf] at ho6
  clear ho4 ho5 ho4' hg6 hB4 hB5 hb5 hK4 q0 q1 q2 hf
  obtain ⟨G, hG⟩ : ∃ G : List (Nat × Nat), [(0, 1), (e, 2), (m, 1)] = G := ⟨_, rfl⟩
  rw [hG] at ho6
  replace hG := Lib.hid hG
  go_loopw [4, 5] (fun o i wr => ∃ (k r : Nat) (Ap : Option Addr) (cp : Nat), k ≤ m ∧ i = .int .i64 k ∧ o = .slice Ap r cp ∧ r = 4 + 4 * k ∧ wr.ownsRow W0.heap.size 5 1 (.slice Ap r cp) r (u8s (flat (G ++ (l.take k).map (fun x => (x.toNat, 4))))) ∧ Below W0.heap.size W0 wr) (fun _ i _ => m - (intOf i).toNat)
  case atStart => exact ⟨0, 4, A6, c6, by omega, rfl, rfl, rfl, by rw [List.take_zero, List.map_nil, List.append_nil]; exact ho6, hB6⟩
  case round =>
    clear ho6 hB6 hw6
    obtain ⟨k, r, Ap, cp, hk, rfl, rfl, hr, ho, hZ⟩ := hrel
    have hr1 : r ≤ 200 := by omega
    replace hr := Lib.hid hr
    have hZw := (SS _ hZ).1
    have hKz := hbK _ hZ
    have q0 := hKz.cell 0
    have q1 := hKz.cell 1
    have q2 := hKz.cell 2
    by_cases hlt : k < m
    · obtain ⟨ad, hA, hab, cA⟩ := at_u32 hl40.out (hL.below hZw) hlt
      subst hA
      have hsn := Lib.hid (map_snoc (l := l) (k := k) (by rw [hl40.out]; exact hlt))
      have hmem : l.getD k 0 ∈ l := by rw [List.getD_eq_getElem?_getD, List.getElem?_eq_getElem (by rw [hl40.out]; exact hlt)]; exact List.getElem_mem _
      have hx0 := hl0 _ hmem
      have hx1 := hl1 _ hmem
      clear hmem
      obtain ⟨x, hx⟩ : ∃ x, l.getD k 0 = x := ⟨_, rfl⟩
      rw [hx] at cA hx0 hx1 hsn
      obtain ⟨xn, rfl⟩ : ∃ xn : Nat, x = (xn : Int) := ⟨x.toNat, (Int.toNat_of_nonneg hx0).symm⟩
      have wx : IntKind.u64.wrap (xn : Int) = (xn : Int) := IntWalk.u64_in _ (by omega)
      have i1 : (0 : Int) ≤ k := by omega
      have i2 : (k : Int) < m := by omega
      have d4 := fun w => rdigits xn 4 (by omega) (by omega) w
      have u4 := u8s_one (digs xn 4)
      obtain ⟨Q, hQ⟩ : ∃ Q : List Int, flat (G ++ (l.take k).map (fun x => (x.toNat, 4))) = Q := ⟨_, rfl⟩
      rw [hQ] at ho
      replace hQ := Lib.hid hQ
      have hL0 := Lib.hid hl0
      have hL1 := Lib.hid hl1
      clear hx hL hl0 hl1 d1 d2 d3 u2 u3
      go_wp2_with (first
        | (go_at_call 27; refine (d4 _).mono ?_; rintro en w7 ⟨A7, c7, rfl, ho7, hb7⟩; have ho' := own_below ho hb7; have hB7 := hZ.trans (hb7.mono hZ.size))
        | (at_builtin; refine wpList_append_any _ rfl (.tmp 29) (.tmp 36) _ rfl W0.heap.size 5 i0 _ 1 1 Try.underlying22 hi0 hz0 hz1 hz2 rfl (by omega) (.slice Ap r cp) r (u8s Q) rfl ho' w7.heap.size A7 4 c7 (u8s (digs xn 4)) rfl (Reads.of_own ho7) u4 (by unfold maxLen; omega) (by omega) hB7.size ?_; intro v8 w8 ho8 hg8 _; rw [u8s_app] at ho8; obtain ⟨A8, c8, rfl, _, _⟩ := own_slice ho8; have hB8 : Below W0.heap.size W0 w8 := hB7.grown hg8 hB7.size (fun q hq => own_base ho' hq)))
      have e1 : Q ++ digs xn 4 = flat (G ++ (l.take (k + 1)).map (fun x => (x.toNat, 4))) := by
        rw [hsn.out, ← List.append_assoc, flat_app, ← hQ.out]
        simp [flat]
      rw [e1] at ho8
      replace e1 := Lib.hid e1
      go_roundw
      case rel => exact ⟨k + 1, r + 4, A8, c8, by omega, by go_num, rfl, by rw [hr.out]; omega, ho8, hB8⟩
      case measure => simp [intOf] <;> omega
    · obtain rfl : k = m := by omega
      rw [List.take_of_length_le (by rw [hl40.out]; exact Nat.le_refl _)] at ho
      have hr' := hr.out
      subst hr'
      have hz := (SS W0 (Below.refl _ _)).1.size
      have hp : G ++ l.map (fun x => (x.toNat, 4)) = ptsD false l (e : Int) := by
        rw [← hG.out]
        unfold ptsD
        rw [hl40.out]
        rfl
      have ho2 := own_mono ho hz
      rw [hp] at ho2
      have hk40 := Lib.hid hl40
      clear hp ho hL hl0 hl1 d1 d2 d3 u2 u3 SS hbK hKz hlt
      have d : decide ((k : Int) < k) = false := by simp
      go_wp2
      go_ret
      exact ⟨Ap, cp, rfl, ho2, hZw⟩
set_option maxRecDepth 100000 in
set_option maxHeartbeats 8000000 in
theorem rtext_true (L : Option Addr) (m lc : Nat) (l : List Int) (hl : l.length = m) (hm : m ≤ 40) (hl0 : ∀ x ∈ l, 0 ≤ x) (hl1 : ∀ x ∈ l, x < 4294967296) (e : Nat) (he1 : e ≤ 1024) (w : World) (hL : Reads w w.heap.size 1 L m (u32s l)) :
    Calls Try.prog 30 #[dy true L m lc (e : Int)] w fun en w' => ∃ A c, en = .returned (.slice A (4 + 4 * m) c) ∧ w'.ownsRow w.heap.size 5 1 (.slice A (4 + 4 * m) c) (4 + 4 * m) (u8s (flat (ptsD true l (e : Int)))) ∧ Below w.heap.size w w' := by
  obtain ⟨i0, hi0, hz0, hz1, hz2⟩ := info_parts info5
  have hB := (Below.refl w.heap.size w).alloc (Nat.le_refl _) (.cells #[.bool true, .slice L m lc, .int .i64 (e : Int)] 26)
  have hbx := Blk.new w 26 #[.bool true, .slice L m lc, .int .i64 (e : Int)]
  have we : IntKind.u64.wrap (e : Int) = (e : Int) := IntWalk.u64_in _ (by omega)
  have d1 := fun w => rdigits 1 1 (by omega) (by omega) w
  have d2 := fun w => rdigits e 2 (by omega) (by omega) w
  have d3 := fun w => rdigits m 1 (by omega) (by omega) w
  have u2 := u8s_one (digs e 2)
  have u3 := u8s_one (digs m 1)
  obtain ⟨W0, hW0⟩ : ∃ W0, W0 = w.alloc (.cells #[.bool true, .slice L m lc, .int .i64 (e : Int)] 26) := ⟨_, rfl⟩
  rw [← hW0] at hB hbx
  have SS : ∀ w', Below W0.heap.size W0 w' → Below w.heap.size w w' ∧ w'.cell? ⟨w.heap.size, 2, none⟩ = some (.int .i64 (e : Int)) := fun w' h => ⟨hB.trans (h.mono hB.size), (hbx.below h hbx.lt).cell 2⟩
  have hbK : ∀ w', Below W0.heap.size W0 w' → Blk w' w.heap.size 26 #[.bool true, .slice L m lc, .int .i64 (e : Int)] := fun w' h => hbx.below h hbx.lt
  have hl40 := Lib.hid hl
  clear hl
  go_enter Try.func30, Try.ntmps30
  go_wp2_with fail
  rw [← hW0]
  replace hW0 := Lib.hid hW0
  have k2 := (SS W0 (Below.refl _ _)).2
  refine wp_region_held_drew (S := (fun w' => Below w.heap.size w w' ∧ w'.cell? ⟨w.heap.size, 2, none⟩ = some (.int .i64 (e : Int)))) (by kernel_rfl) (SS _ (Below.drew (Below.refl _ _))) (fun hHeld => ?_)
  refine wpAnyH_take (i := 0) (v := ?_) rfl (by kernel_rfl) (by kernel_rfl) (by kernel_rfl) (fun _ _ _ h => h) (Or.inl ⟨by rfl, ?_⟩) (by assumption) ?_
  rotate_left
  · (intro w hSw; (try dsimp only at hSw); go_simp; (try with_reducible rfl))
  (try simp only [Act.put, List.setIfInBounds_toArray, List.set_cons_zero, List.set_cons_succ])
  refine wpAnyH_take (i := 2) (v := ?_) rfl (by kernel_rfl) (by kernel_rfl) (by kernel_rfl) (fun _ _ _ h => h) (Or.inl ⟨by rfl, ?_⟩) (by assumption) ?_
  rotate_left
  · (intro w hSw; (try dsimp only at hSw); go_simp; (try with_reducible rfl))
  (try simp only [Act.put, List.setIfInBounds_toArray, List.set_cons_zero, List.set_cons_succ])
  refine wpAnyH_take (i := 3) (v := ?_) rfl (by kernel_rfl) (by kernel_rfl) (by kernel_rfl) (fun _ _ _ h => h) (Or.inl ⟨by rfl, ?_⟩) (by assumption) ?_
  rotate_left
  · (intro w hSw; (try dsimp only at hSw); go_simp; (try with_reducible rfl))
  (try simp only [Act.put, List.setIfInBounds_toArray, List.set_cons_zero, List.set_cons_succ])
  refine wpAnyH_take (i := 4) (v := ?_) rfl (by kernel_rfl) (by kernel_rfl) (by kernel_rfl) (fun _ _ _ h => h) (Or.inl ⟨by rfl, ?_⟩) (by assumption) ?_
  rotate_left
  · (intro w hSw; (try dsimp only at hSw); go_simp; (try with_reducible rfl))
  (try simp only [Act.put, List.setIfInBounds_toArray, List.set_cons_zero, List.set_cons_succ])
  refine wpAnyH_ready (rs := [1]) (by kernel_rfl) (by simp) ?_
  refine AllReadyH.cons rfl (fun K hK => ?_) AllReadyH.nil
  go_simp
  refine (d1 _).mono ?_
  rintro en w2 ⟨A1, c1, rfl, ho1, hb1⟩
  have hB1 : Below W0.heap.size W0 w2 := Below.trans (Below.drew (Below.refl _ _)) hb1
  go_wp2_with fail
  refine hK.out _ _ (SS _ hB1) (fun hHeld => ?_)
  clear hK K
  (try simp only [Act.put, List.setIfInBounds_toArray, List.set_cons_zero, List.set_cons_succ])
  refine wpAnyH_ready (rs := [5]) (by kernel_rfl) (by simp) ?_
  refine AllReadyH.cons rfl (fun K hK => ?_) AllReadyH.nil
  go_simp
  refine (d2 _).mono ?_
  rintro en w3 ⟨A2, c2, rfl, ho2, hb2⟩
  have hB2 := hB1.trans (hb2.mono hB1.size)
  go_wp2_with fail
  refine hK.out _ _ (SS _ hB2) (fun hHeld => ?_)
  clear hK K
  (try simp only [Act.put, List.setIfInBounds_toArray, List.set_cons_zero, List.set_cons_succ])
  refine wpAnyH_ready (rs := [6]) (by kernel_rfl) (by simp) ?_
  refine AllReadyH.cons rfl (fun K hK => ?_) AllReadyH.nil
  have hz1' : w.heap.size ≤ W0.heap.size := (SS W0 (Below.refl _ _)).1.size
  have ho1' : w3.ownsRow W0.heap.size 5 1 (.slice A1 1 c1) 1 _ := own_below ho1 hb2
  refine step_append_any _ rfl (.tmp 9) (.tmp 13) _ rfl W0.heap.size 5 i0 _ 1 1 Try.underlying22 hi0 hz0 hz1 hz2 rfl (by omega) (.slice A1 1 c1) 1 (u8s (digs 1 1)) rfl ho1' w3.heap.size A2 2 c2 (u8s (digs e 2)) rfl (Reads.of_own ho2) u2 (by unfold maxLen; omega) (by omega) hB2.size ?_
  intro v4 w4 ho4 hg4 _
  rw [u8s_app] at ho4
  obtain ⟨A4, c4, rfl, _, _⟩ := own_slice ho4
  have hB4 : Below W0.heap.size W0 w4 := hB2.grown hg4 hB2.size (fun q hq => own_base (own_below ho1 hb2) hq)
  refine hK.out _ _ (SS _ hB4) (fun hHeld => ?_)
  clear hK K
  (try simp only [Act.put, List.setIfInBounds_toArray, List.set_cons_zero, List.set_cons_succ])
  refine wpAnyH_ready (rs := [7]) (by kernel_rfl) (by simp) ?_
  refine AllReadyH.cons rfl (fun K hK => ?_) AllReadyH.nil
  go_simp
  refine hK.out _ _ (SS _ hB4) (fun hHeld => ?_)
  clear hK K
  (try simp only [Act.put, List.setIfInBounds_toArray, List.set_cons_zero, List.set_cons_succ])
  refine wpAnyH_done (by kernel_rfl) ?_ _
  have hK4 := hbK _ hB4
  have q0 := hK4.cell 0
  have q1 := hK4.cell 1
  have q2 := hK4.cell 2
  obtain ⟨D4, hD4⟩ : ∃ D, digs 1 1 ++ digs e 2 = D := ⟨_, rfl⟩
  rw [hD4] at ho4
  replace hD4 := Lib.hid hD4
  have hz4 := hB4.size
  clear ho1 ho1' ho2 hb1 hb2 hg4 k2 hHeld
  go_wp2_with (first
    | (go_at_call 27; refine (d3 _).mono ?_; rintro en w5 ⟨A5, c5, rfl, ho5, hb5⟩; have ho4' := own_below ho4 hb5; have hB5 := hB4.trans (hb5.mono hB4.size))
    | (at_builtin; refine wpList_append_any _ rfl (.tmp 15) (.tmp 20) _ rfl W0.heap.size 5 i0 _ 1 1 Try.underlying22 hi0 hz0 hz1 hz2 rfl (by omega) (.slice A4 3 c4) 3 (u8s D4) rfl ho4' w5.heap.size A5 1 c5 (u8s (digs m 1)) rfl (Reads.of_own ho5) u3 (by unfold maxLen; omega) (by omega) hB5.size ?_; intro v6 w6 ho6 hg6 _; rw [u8s_app] at ho6; obtain ⟨A6, c6, rfl, _, _⟩ := own_slice ho6; have hB6 : Below W0.heap.size W0 w6 := hB5.grown hg6 hB5.size (fun q hq => own_base ho4' hq)))
  have hw6 := (SS _ hB6).1
  have hf : D4 ++ digs m 1 = flat [(1, 1), (e, 2), (m, 1)] := by rw [← hD4.out]; simp [flat]
  rw [hf] at ho6
  clear ho4 ho5 ho4' hg6 hB4 hB5 hb5 hK4 q0 q1 q2 hf
  obtain ⟨G, hG⟩ : ∃ G : List (Nat × Nat), [(1, 1), (e, 2), (m, 1)] = G := ⟨_, rfl⟩
  rw [hG] at ho6
  replace hG := Lib.hid hG
  go_loopw [4, 5] (fun o i wr => ∃ (k r : Nat) (Ap : Option Addr) (cp : Nat), k ≤ m ∧ i = .int .i64 k ∧ o = .slice Ap r cp ∧ r = 4 + 4 * k ∧ wr.ownsRow W0.heap.size 5 1 (.slice Ap r cp) r (u8s (flat (G ++ (l.take k).map (fun x => (x.toNat, 4))))) ∧ Below W0.heap.size W0 wr) (fun _ i _ => m - (intOf i).toNat)
  case atStart => exact ⟨0, 4, A6, c6, by omega, rfl, rfl, rfl, by rw [List.take_zero, List.map_nil, List.append_nil]; exact ho6, hB6⟩
  case round =>
    clear ho6 hB6 hw6
    obtain ⟨k, r, Ap, cp, hk, rfl, rfl, hr, ho, hZ⟩ := hrel
    have hr1 : r ≤ 200 := by omega
    replace hr := Lib.hid hr
    have hZw := (SS _ hZ).1
    have hKz := hbK _ hZ
    have q0 := hKz.cell 0
    have q1 := hKz.cell 1
    have q2 := hKz.cell 2
    by_cases hlt : k < m
    · obtain ⟨ad, hA, hab, cA⟩ := at_u32 hl40.out (hL.below hZw) hlt
      subst hA
      have hsn := Lib.hid (map_snoc (l := l) (k := k) (by rw [hl40.out]; exact hlt))
      have hmem : l.getD k 0 ∈ l := by rw [List.getD_eq_getElem?_getD, List.getElem?_eq_getElem (by rw [hl40.out]; exact hlt)]; exact List.getElem_mem _
      have hx0 := hl0 _ hmem
      have hx1 := hl1 _ hmem
      clear hmem
      obtain ⟨x, hx⟩ : ∃ x, l.getD k 0 = x := ⟨_, rfl⟩
      rw [hx] at cA hx0 hx1 hsn
      obtain ⟨xn, rfl⟩ : ∃ xn : Nat, x = (xn : Int) := ⟨x.toNat, (Int.toNat_of_nonneg hx0).symm⟩
      have wx : IntKind.u64.wrap (xn : Int) = (xn : Int) := IntWalk.u64_in _ (by omega)
      have i1 : (0 : Int) ≤ k := by omega
      have i2 : (k : Int) < m := by omega
      have d4 := fun w => rdigits xn 4 (by omega) (by omega) w
      have u4 := u8s_one (digs xn 4)
      obtain ⟨Q, hQ⟩ : ∃ Q : List Int, flat (G ++ (l.take k).map (fun x => (x.toNat, 4))) = Q := ⟨_, rfl⟩
      rw [hQ] at ho
      replace hQ := Lib.hid hQ
      have hL0 := Lib.hid hl0
      have hL1 := Lib.hid hl1
      clear hx hL hl0 hl1 d1 d2 d3 u2 u3
      go_wp2_with (first
        | (go_at_call 27; refine (d4 _).mono ?_; rintro en w7 ⟨A7, c7, rfl, ho7, hb7⟩; have ho' := own_below ho hb7; have hB7 := hZ.trans (hb7.mono hZ.size))
        | (at_builtin; refine wpList_append_any _ rfl (.tmp 29) (.tmp 36) _ rfl W0.heap.size 5 i0 _ 1 1 Try.underlying22 hi0 hz0 hz1 hz2 rfl (by omega) (.slice Ap r cp) r (u8s Q) rfl ho' w7.heap.size A7 4 c7 (u8s (digs xn 4)) rfl (Reads.of_own ho7) u4 (by unfold maxLen; omega) (by omega) hB7.size ?_; intro v8 w8 ho8 hg8 _; rw [u8s_app] at ho8; obtain ⟨A8, c8, rfl, _, _⟩ := own_slice ho8; have hB8 : Below W0.heap.size W0 w8 := hB7.grown hg8 hB7.size (fun q hq => own_base ho' hq)))
      have e1 : Q ++ digs xn 4 = flat (G ++ (l.take (k + 1)).map (fun x => (x.toNat, 4))) := by
        rw [hsn.out, ← List.append_assoc, flat_app, ← hQ.out]
        simp [flat]
      rw [e1] at ho8
      replace e1 := Lib.hid e1
      go_roundw
      case rel => exact ⟨k + 1, r + 4, A8, c8, by omega, by go_num, rfl, by rw [hr.out]; omega, ho8, hB8⟩
      case measure => simp [intOf] <;> omega
    · obtain rfl : k = m := by omega
      rw [List.take_of_length_le (by rw [hl40.out]; exact Nat.le_refl _)] at ho
      have hr' := hr.out
      subst hr'
      have hz := (SS W0 (Below.refl _ _)).1.size
      have hp : G ++ l.map (fun x => (x.toNat, 4)) = ptsD true l (e : Int) := by
        rw [← hG.out]
        unfold ptsD
        rw [hl40.out]
        rfl
      have ho2 := own_mono ho hz
      rw [hp] at ho2
      have hk40 := Lib.hid hl40
      clear hp ho hL hl0 hl1 d1 d2 d3 u2 u3 SS hbK hKz hlt
      have d : decide ((k : Int) < k) = false := by simp
      go_wp2
      go_ret
      exact ⟨Ap, cp, rfl, ho2, hZw⟩
theorem rtext_any (neg : Bool) (L : Option Addr) (m lc : Nat) (l : List Int) (hl : l.length = m) (hm : m ≤ 40) (hl0 : ∀ x ∈ l, 0 ≤ x) (hl1 : ∀ x ∈ l, x < 4294967296) (e : Nat) (he1 : e ≤ 1024) (w : World) (hL : Reads w w.heap.size 1 L m (u32s l)) :
    Calls Try.prog 30 #[dy neg L m lc (e : Int)] w fun en w' => ∃ A c, en = .returned (.slice A (4 + 4 * m) c) ∧ w'.ownsRow w.heap.size 5 1 (.slice A (4 + 4 * m) c) (4 + 4 * m) (u8s (flat (ptsD neg l (e : Int)))) ∧ Below w.heap.size w w' := by
  cases neg
  · exact rtext_false L m lc l hl hm hl0 hl1 e he1 w hL
  · exact rtext_true L m lc l hl hm hl0 hl1 e he1 w hL
theorem rputd_bad (A : Option Addr) (n c : Nat) (neg : Bool) (L : Option Addr) (m lc : Nat) (l : List Int) (hl : l.length = m) (hl0 : ∀ x ∈ l, 0 ≤ x) (e : Int) (hd : mayD neg l e = false) (w : World) (hL : Reads w w.heap.size 1 L m (u32s l)) :
    Calls Try.prog 13 #[.slice A n c, dy neg L m lc e] w fun en w' => en = .returned (.tuple #[.slice none 0 0, .int .i64 8]) ∧ Below w.heap.size w w' := by
  have hB := (Below.refl w.heap.size w).alloc (Nat.le_refl _) (.cells #[.bool neg, .slice L m lc, .int .i64 e] 26)
  have hc := dmay_any neg L m lc l hl hl0 e _ ((hL.alloc (Nat.le_refl _) (.cells #[.bool neg, .slice L m lc, .int .i64 e] 26)).more hB.size)
  rw [hd] at hc
  clear hd
  go_enter Try.func13, Try.ntmps13
  go_wp2_with fail
  refine hc.mono ?_
  rintro en w1 ⟨rfl, hb1⟩
  have hB1 := hB.trans (hb1.mono hB.size)
  clear hc hL hl hl0
  go_wp2
  go_ret2
  exact ⟨rfl, hB1⟩
set_option maxHeartbeats 4000000 in
theorem rputd_any (A : Option Addr) (n c : Nat) (b : List Int) (hn : b.length = n) (hm : n ≤ 10000) (neg : Bool) (L : Option Addr) (m lc : Nat) (l : List Int) (hl : l.length = m) (hl0 : ∀ x ∈ l, 0 ≤ x) (hl1 : ∀ x ∈ l, x < 4294967296) (e : Int) (hd : mayD neg l e = true) (w : World) (hR : Reads w w.heap.size 1 A n (u8s b)) (hL : Reads w w.heap.size 1 L m (u32s l)) :
    Calls Try.prog 13 #[.slice A n c, dy neg L m lc e] w (RPost w (n + (4 + 4 * m)) (b ++ flat (ptsD neg l e))) := by
  have hB := (Below.refl w.heap.size w).alloc (Nat.le_refl _) (.cells #[.bool neg, .slice L m lc, .int .i64 e] 26)
  have hbx := Blk.new w 26 #[.bool neg, .slice L m lc, .int .i64 e]
  have hc := dmay_any neg L m lc l hl hl0 e _ ((hL.alloc (Nat.le_refl _) (.cells #[.bool neg, .slice L m lc, .int .i64 e] 26)).more hB.size)
  have hm40 : m ≤ 40 ∧ 0 ≤ e ∧ e ≤ 1024 := by
    unfold mayD mayL at hd
    simp only [Bool.and_eq_true, decide_eq_true_eq] at hd
    omega
  obtain ⟨hm40, he0, he1⟩ := hm40
  rw [hd] at hc
  clear hd
  obtain ⟨en, rfl⟩ : ∃ en : Nat, e = (en : Int) := ⟨e.toNat, (Int.toNat_of_nonneg he0).symm⟩
  have ht := fun w h => rtext_any neg L m lc l hl hm40 hl0 hl1 en (by omega) w h
  have hfl : (flat (ptsD neg l (en : Int))).length = 4 + 4 * m := by rw [flat_len, total_pts, hl]
  have hp := fun w A2 c2 h h2 => rput A n c b hn hm A2 (4 + 4 * m) c2 (flat (ptsD neg l (en : Int))) hfl (by omega) w h h2
  obtain ⟨F, hF⟩ : ∃ F, flat (ptsD neg l (en : Int)) = F := ⟨_, rfl⟩
  rw [hF] at hp
  simp only [hF] at ht
  rw [hF]
  clear hF hfl hl hn hl0 hl1
  go_enter Try.func13, Try.ntmps13
  go_wp2_with fail
  refine hc.mono ?_
  rintro en1 w1 ⟨rfl, hb1⟩
  have hB1 := hB.trans (hb1.mono hB.size)
  have hbx1 := hbx.below hb1 (by rw [World.size_alloc]; exact Nat.lt_succ_self _)
  have k0 := hbx1.cell 0
  have k1 := hbx1.cell 1
  have k2 := hbx1.cell 2
  clear hc hb1 hbx hbx1
  go_wp2_with fail
  refine (ht _ ((hL.below hB1).more hB1.size)).mono ?_
  rintro en2 w2 ⟨A2, c2, rfl, ho2, hb2⟩
  have hB2 := hB1.trans (hb2.mono hB1.size)
  clear ht k0 k1 k2
  go_wp2_with fail
  refine (hp _ A2 c2 ((hR.below hB2).more hB2.size) (Reads.of_own ho2)).mono ?_
  rintro en3 w3 h3
  obtain ⟨hb3, ⟨h4, rfl⟩ | ⟨h4, A', c', rfl, hr⟩⟩ := h3.wide hB2
  · replace h4 := Lib.hid h4
    clear hR hL hp ho2 hb2 h3 hB hB1 hB2
    go_wp2
    go_ret2
    exact ⟨hb3, .inl ⟨h4.out, rfl⟩⟩
  · replace h4 := Lib.hid h4
    clear hR hL hp ho2 hb2 h3 hB hB1 hB2
    go_wp2
    go_ret2
    exact ⟨hb3, .inr ⟨h4.out, A', c', rfl, hr⟩⟩
theorem info50 : (Try.prog.info? 50).map (fun i => (i.zero, i.size, i.bytes)) = some (some (.int .u32 0), 1, 4) := by kernel_rfl
theorem u32s_one (l : List Int) : ∀ u ∈ u32s l, u.oneCell' = true := by
  intro u hu
  simp only [List.mem_map] at hu
  obtain ⟨x, _, rfl⟩ := hu
  rfl
theorem own_set {w : World} {base size n : Nat} {e : TypeId} {v : Value} {xs : List Value} (h : w.ownsRow base e size v n xs) {p : Addr} (hp : p.block < base) (u : Value) : (w.setCell p u).ownsRow base e size v n xs :=
  ⟨h.1, h.2.imp id fun ⟨g, c, cur, e1, h1, h2, r⟩ => ⟨g, c, cur, e1, h1, Blk.far (show Blk w g e cur from h2) (by omega) u, r⟩⟩
set_option maxRecDepth 100000 in
set_option maxHeartbeats 4000000 in
theorem twin_any (neg : Bool) (L : Option Addr) (m lc : Nat) (l : List Int) (hm : m ≤ 100) (e : Int) (w : World) (hL : Reads w w.heap.size 1 L m (u32s l)) :
    Calls Try.prog 9 #[dy neg L m lc e] w fun en w' => ∃ A c, en = .returned (dy neg A m c e) ∧ w'.ownsRow (w.heap.size + 2) 50 1 (.slice A m c) m (u32s l) ∧ Below w.heap.size w w' := by
  obtain ⟨i0, hi0, hz0, hz1, hz2⟩ := info_parts info50
  have u1 := u32s_one l
  have hB1 := (Below.refl w.heap.size w).alloc (Nat.le_refl _) (.cells #[.bool neg, .slice L m lc, .int .i64 e] 26)
  have hb1 := Blk.new w 26 #[.bool neg, .slice L m lc, .int .i64 e]
  have hB2 := hB1.alloc hB1.size (.cells #[.bool false, .slice none 0 0, .int .i64 0] 26)
  have hb2 := Blk.new (w.alloc (.cells #[.bool neg, .slice L m lc, .int .i64 e] 26)) 26 #[.bool false, .slice none 0 0, .int .i64 0]
  rw [World.size_alloc] at hb2
  have hb1' := (hb1.alloc (.cells #[.bool false, .slice none 0 0, .int .i64 0] 26)).alloc (.cells #[] 50)
  have hb2' := hb2.alloc (.cells #[] 50)
  have hb3 := Blk.new ((w.alloc (.cells #[.bool neg, .slice L m lc, .int .i64 e] 26)).alloc (.cells #[.bool false, .slice none 0 0, .int .i64 0] 26)) 50 #[]
  have hL2 := (hL.below hB2).alloc hB2.size (.cells #[] 50)
  have hs2 : ((w.alloc (.cells #[.bool neg, .slice L m lc, .int .i64 e] 26)).alloc (.cells #[.bool false, .slice none 0 0, .int .i64 0] 26)).heap.size = w.heap.size + 2 := by rw [World.size_alloc, World.size_alloc]
  have hB3 := hB2.alloc hB2.size (.cells #[] 50)
  rw [hs2] at hb3
  have ho0 := own_blk (cs := []) (w.heap.size + 2) 1 0 hb3 (Nat.le_refl _) rfl (by unfold maxLen; omega)
  have hs3 : (((w.alloc (.cells #[.bool neg, .slice L m lc, .int .i64 e] 26)).alloc (.cells #[.bool false, .slice none 0 0, .int .i64 0] 26)).alloc (.cells #[] 50)).heap.size = w.heap.size + 3 := by rw [World.size_alloc, hs2]
  clear hs2 hb1 hb2 hb3 hL hB1 hB2
  go_enter Try.func9, Try.ntmps9
  go_wp2_with (at_builtin; refine wpList_append_any _ rfl (.tmp 3) (.tmp 5) _ rfl (w.heap.size + 2) 50 i0 _ 1 4 Try.underlying24 hi0 hz0 hz1 hz2 rfl (by omega) (.slice (some ⟨w.heap.size + 1 + 1, 0, none⟩) 0 0) 0 [] rfl ho0 w.heap.size L m lc (u32s l) rfl hL2 u1 (by unfold maxLen; omega) (by omega) (by rw [hs3]; omega) ?_; intro v4 w4 ho4 hg4 _; simp only [Nat.zero_add, List.nil_append] at ho4; obtain ⟨A4, c4, rfl, _, _⟩ := own_slice ho4; have hn4 : ∀ q, q < w.heap.size + 2 → some q ≠ (Value.slice (some ⟨w.heap.size + 1 + 1, 0, none⟩) 0 0).ownBlock := (fun q hq he => by simp [Value.ownBlock] at he; omega); have k1 := hb1'.grown hg4 (hn4 _ (by omega)); have k2 := hb2'.grown hg4 (hn4 _ (by omega)); have hB4 : Below w.heap.size w w4 := hB3.grown hg4 hB3.size (by intro q hq; simp [Value.ownBlock] at hq; omega); have a0 := k1.cell 0; have a1 := k1.cell 1; have a2 := k1.cell 2; have b0 := k2.cell 0; have b1 := k2.cell 1; have b2 := k2.cell 2; have f1 := k1.frozen 1; have g0 := k2.frozen 0; have g1 := k2.frozen 1; have g2 := k2.frozen 2; have n1 : w.heap.size < w4.heap.size := k1.lt; have n2 : w.heap.size + 1 < w4.heap.size := k2.lt)
  have K := (((k2.far (p := ⟨w.heap.size, 1, none⟩) (by simp) (.slice A4 m c4)).set_ 0 (.bool neg)).set_ 1 (.slice A4 m c4)).set_ 2 (.int .i64 e)
  have q0 := K.cell 0
  have q1 := K.cell 1
  have q2 := K.cell 2
  simp at q0 q1 q2
  refine bodyPost_ret (v := dy neg A4 m c4 e) (by simp [results, Try.results9, go_sem, q0, q1, q2]) rfl ⟨A4, c4, rfl, ?_, ?_⟩
  · exact own_set (own_set (own_set (own_set ho4 (by simp) _) (by simp) _) (by simp) _) (by simp) _
  · exact (((hB4.setCell (Nat.le_refl _) _).setCell (Nat.le_succ _) _).setCell (Nat.le_succ _) _).setCell (Nat.le_succ _) _
theorem lsame_yes (A A2 : Option Addr) (n c c2 B B2 : Nat) (l : List Int) (hn : l.length = n) (hm : n ≤ 100) (w : World) (hR : Reads w B 1 A n (u32s l)) (hR2 : Reads w B2 1 A2 n (u32s l)) :
    Calls Try.prog 31 #[.slice A n c, .slice A2 n c2] w fun en w' => en = .returned (.bool true) ∧ ∃ m, w' = w.drewN m := by
  go_enter Try.func31, Try.ntmps31
  go_wp2
  go_loopw [5] (fun i wr => ∃ k m : Nat, k ≤ n ∧ i = .int .i64 k ∧ wr = w.drewN m) (fun i wr => n - (intOf i).toNat)
  case atStart => exact ⟨0, 0, by omega, rfl, rfl⟩
  case round =>
    obtain ⟨k, m, hk, rfl, rfl⟩ := hrel
    by_cases hlt : k < n
    · obtain ⟨ad, rfl, hab, cA⟩ := at_u32 hn hR hlt
      obtain ⟨ad2, rfl, hab2, cA2⟩ := at_u32 hn hR2 hlt
      have i1 : (0 : Int) ≤ k := by omega
      have i2 : (k : Int) < n := by omega
      generalize l.getD k 0 = x at *
      go_wp2_with fail
      go_quiet (fail)
      go_wp2
      go_roundw
      case rel => exact ⟨k + 1, _, by omega, by go_num, rfl⟩
      case measure => simp [intOf]; omega
    · obtain rfl : k = n := by omega
      clear hR hR2 hn
      go_wp2
      go_ret
      exact ⟨rfl, m, rfl⟩
set_option maxHeartbeats 4000000 in
theorem dsame_yes (neg : Bool) (e : Int) (A A2 : Option Addr) (n c c2 : Nat) (l : List Int) (hn : l.length = n) (hm : n ≤ 100) (w : World) (hR : Reads w w.heap.size 1 A n (u32s l)) (hR2 : Reads w w.heap.size 1 A2 n (u32s l)) :
    Calls Try.prog 14 #[dy neg A n c e, dy neg A2 n c2 e] w fun en w' => en = .returned (.bool true) ∧ Below w.heap.size w w' := by
  have hs := fun w h h2 => lsame_yes A A2 n c c2 w.heap.size w.heap.size l hn hm w h h2
  have hB : Below w.heap.size w ((w.alloc (.cells #[.bool neg, .slice A n c, .int .i64 e] 26)).alloc (.cells #[.bool neg, .slice A2 n c2, .int .i64 e] 26)) := ((Below.refl _ w).alloc (Nat.le_refl _) _).alloc (by rw [World.size_alloc]; omega) _
  have d1 : (neg == neg) = true := by simp
  have d2 : (e == e) = true := by simp
  have hR1 := (hR.below hB).more hB.size
  have hR3 := (hR2.below hB).more hB.size
  clear hR hR2 hn
  go_enter Try.func14, Try.ntmps14
  go_wp2_with fail
  refine (hs _ hR1 hR3).mono ?_
  rintro en w1 ⟨rfl, mm, rfl⟩
  clear hs hR1 hR3
  go_wp2
  go_ret
  exact ⟨rfl, below_drewN hB _⟩
end Go.Proofs.Ytekeenldlkkljaa
