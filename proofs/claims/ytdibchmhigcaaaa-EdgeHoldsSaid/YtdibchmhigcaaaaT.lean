/- Edge: the contract of the reference's All. -/
import Derived.Test.YtdibchmhigcaaaaS
import Derived.Deep.RegionHeld3
import Derived.Lib.Hide
namespace Go.Proofs.Ytdibchmhigcaaaa
open Go.ChangeShapes Go.WideShapes Go.ChangeAt Go.RowKit
set_option linter.unusedSimpArgs false
set_option linter.unusedVariables false
abbrev St.cs (s : St) : Array Value := #[.bool s.1, .int .i64 s.2.1, .int .i64 s.2.2]
abbrev St.o (s : St) : Obj := .cells s.cs 24
set_option maxHeartbeats 2000000 in
theorem xjoined_l {a1 b1 a2 b2 : Int} {h2 : Bool} (w : World) :
    Calls Try.prog 27 #[edg false a1 b1, edg h2 a2 b2] w fun en w' => en = .returned (edg h2 a2 b2) ∧ w' = ((w.alloc (.cells #[.bool false, .int .i64 a1, .int .i64 b1] 24)).alloc (.cells #[.bool h2, .int .i64 a2, .int .i64 b2] 24)).alloc (.cells #[.bool h2, .int .i64 a2, .int .i64 b2] 24) := by
  go_enter Try.func27, Try.ntmps27
  go_wp2
  refine bodyPost_ret (v := edg h2 a2 b2) (by simp [results, Try.results27, go_sem]) rfl ⟨rfl, rfl⟩
set_option maxHeartbeats 2000000 in
theorem xjoined_r {a1 b1 a2 b2 : Int} (w : World) :
    Calls Try.prog 27 #[edg true a1 b1, edg false a2 b2] w fun en w' => en = .returned (edg true a1 b1) ∧ w' = ((w.alloc (.cells #[.bool true, .int .i64 a1, .int .i64 b1] 24)).alloc (.cells #[.bool false, .int .i64 a2, .int .i64 b2] 24)).alloc (.cells #[.bool true, .int .i64 a1, .int .i64 b1] 24) := by
  go_enter Try.func27, Try.ntmps27
  go_wp2
  refine bodyPost_ret (v := edg true a1 b1) (by simp [results, Try.results27, go_sem]) rfl ⟨rfl, rfl⟩
set_option maxHeartbeats 2000000 in
theorem xjoined_b {a1 b1 a2 b2 : Int} (w : World) :
    Calls Try.prog 27 #[edg true a1 b1, edg true a2 b2] w fun en w' => en = .returned (edg true (mn a1 a2) (mx b1 b2)) ∧ w' = ((w.alloc (.cells #[.bool true, .int .i64 a1, .int .i64 b1] 24)).alloc (.cells #[.bool true, .int .i64 a2, .int .i64 b2] 24)).alloc (.cells #[.bool true, .int .i64 (mn a1 a2), .int .i64 (mx b1 b2)] 24) := by
  go_enter Try.func27, Try.ntmps27
  go_wp2
  all_goals
    first | rw [show mn a1 a2 = a2 from if_pos (by omega)] | rw [show mn a1 a2 = a1 from if_neg (by omega)]
    first | rw [show mx b1 b2 = b2 from if_pos (by omega)] | rw [show mx b1 b2 = b1 from if_neg (by omega)]
    refine bodyPost_ret (v := _) (by simp [results, Try.results27, go_sem]) rfl ⟨rfl, rfl⟩
theorem joined_ex (s t : St) (w : World) : Calls Try.prog 27 #[s.v, t.v] w fun en w' => en = .returned (jn s t).v ∧ w' = ((w.alloc s.o).alloc t.o).alloc (jn s t).o := by
  obtain ⟨h1, a1, b1⟩ := s
  obtain ⟨h2, a2, b2⟩ := t
  cases h1
  · exact xjoined_l w
  · cases h2
    · exact xjoined_r w
    · exact xjoined_b w
theorem jn_one (s : St) (x : Int) : jn s (true, x, x) = stp s x := by
  obtain ⟨h, a, b⟩ := s
  cases h <;> simp [jn, stp, putLo, putHi]
set_option maxHeartbeats 4000000 in
theorem rall_yes (A : Option Addr) (n c : Nat) (zs : List Int) (hn : zs.length = n) (hm : n ≤ 1000000) (h : AllOK zs) (w : World) (hR : Reads w w.heap.size 1 A n (ints zs)) :
    Calls Try.prog 9 #[.slice A n c] w fun en w' => en = .returned (.tuple #[(fld zs).v, .int .i64 0]) ∧ Below w.heap.size w w' := by
  have B0 := Blk.new w 24 #[.bool false, .int .i64 0, .int .i64 0]
  have B1 := Blk.new (w.alloc (.cells #[.bool false, .int .i64 0, .int .i64 0] 24)) 24 #[.bool false, .int .i64 0, .int .i64 0]
  rw [World.size_alloc] at B1
  have hB0 : Below w.heap.size w (w.alloc (.cells #[.bool false, .int .i64 0, .int .i64 0] 24)) := (Below.refl _ w).alloc (Nat.le_refl _) _
  have hB1 : Below w.heap.size w ((w.alloc (.cells #[.bool false, .int .i64 0, .int .i64 0] 24)).alloc (.cells #[.bool false, .int .i64 0, .int .i64 0] 24)) := hB0.alloc (by simp) _
  have hR0 := hR.below hB0
  have hR1 := hR.below hB1
  go_enter Try.func9, Try.ntmps9
  go_wp2
  go_loop [4] (fun i => ∃ k : Nat, k ≤ n ∧ i = .int .i64 k) (fun i => n - (intOf i).toNat)
  case atStart => exact ⟨0, by omega, rfl⟩
  case round =>
    obtain ⟨k, hk, rfl⟩ := hrel
    by_cases hlt : k < n
    · obtain ⟨ad, u, rfl, hab, hu, cA⟩ := hR0.at_ hlt
      obtain ⟨x, hx⟩ : ∃ x, x = zs[k]'(by omega) := ⟨_, rfl⟩
      have hu' : u = .int .i64 x := by
        rw [List.getElem?_map, List.getElem?_eq_getElem (by omega)] at hu
        simp only [Option.map_some, Option.some.injEq] at hu
        rw [← hu, hx]
      subst hu'
      have hox : ValOK x := h x (by rw [hx]; exact List.getElem_mem _)
      clear hu hx
      go_wp2_with (go_at_call 26; refine (rvalue_yes hox _).mono ?_; rintro en w1 ⟨rfl, rfl⟩)
      go_round
      case rel => exact ⟨k + 1, by omega, by go_num⟩
      case measure => simp [intOf]; omega
    · obtain rfl : k = n := by omega
      go_wp2
      go_loopw [6] (fun i wr => ∃ k : Nat, k ≤ zs.length ∧ i = .int .i64 k ∧ Blk wr (w.heap.size + 1) 24 (fld (zs.take k)).cs ∧ Blk wr w.heap.size 24 #[.bool false, .int .i64 0, .int .i64 0] ∧ Below w.heap.size w wr ∧ w.heap.size + 2 ≤ wr.heap.size) (fun i wr => zs.length - (intOf i).toNat)
      case atStart => exact ⟨0, by omega, rfl, B1, B0.alloc _, hB1, by simp⟩
      case round =>
        obtain ⟨k, hk, rfl, Q1, Q0, hBr, hsz⟩ := hrel
        by_cases hlt : k < zs.length
        · obtain ⟨ad, u, hAd, hab, hu, cA0⟩ := (hR.below hBr).at_ (k := k) (by omega)
          obtain ⟨x, hx⟩ : ∃ x, x = zs[k] := ⟨_, rfl⟩
          have hu' : u = .int .i64 x := by
            rw [List.getElem?_map, List.getElem?_eq_getElem hlt] at hu
            simp only [Option.map_some, Option.some.injEq] at hu
            rw [← hu, hx]
          subst hu' hAd
          have cA : wr.drew.cell? (ad.add k) = some (.int .i64 x) := cA0
          have hf := Lib.hid (show fld (zs.take (k + 1)) = jn (fld (zs.take k)) (true, x, x) by rw [List.take_succ_eq_append_getElem hlt, fld_snoc, jn_one, hx])
          have hbk := block_of_add ad k
          clear hu hx
          generalize fld (zs.take k) = s at *
          have q0 := Q1.cell 0
          have q1 := Q1.cell 1
          have q2 := Q1.cell 2
          simp at q0 q1 q2
          have R1 : Blk (((wr.drew.alloc s.o).alloc (St.o (true, x, x))).alloc (jn s (true, x, x)).o) (w.heap.size + 1) 24 s.cs := ((Blk.alloc (w := wr.drew) Q1 s.o).alloc (St.o (true, x, x))).alloc (jn s (true, x, x)).o
          have R0 : Blk (((wr.drew.alloc s.o).alloc (St.o (true, x, x))).alloc (jn s (true, x, x)).o) w.heap.size 24 #[.bool false, .int .i64 0, .int .i64 0] := ((Blk.alloc (w := wr.drew) Q0 s.o).alloc (St.o (true, x, x))).alloc (jn s (true, x, x)).o
          have hB3 : Below w.heap.size w (((wr.drew.alloc s.o).alloc (St.o (true, x, x))).alloc (jn s (true, x, x)).o) := ((hBr.drew.alloc hBr.size s.o).alloc (by have := hBr.size; simp; omega) (St.o (true, x, x))).alloc (by have := hBr.size; simp; omega) (jn s (true, x, x)).o
          have cA3 : (((wr.drew.alloc s.o).alloc (St.o (true, x, x))).alloc (jn s (true, x, x)).o).cell? (ad.add k) = some (.int .i64 x) := (World.cell?_alloc_lt _ _ _ (by have := hBr.size; simp; omega)).trans ((World.cell?_alloc_lt _ _ _ (by have := hBr.size; simp; omega)).trans ((World.cell?_alloc_lt _ _ _ (by have := hBr.size; simp; omega)).trans cA))
          have hs3 : w.heap.size + 2 ≤ (((wr.drew.alloc s.o).alloc (St.o (true, x, x))).alloc (jn s (true, x, x)).o).heap.size := by simp; omega
          generalize hW3 : (((wr.drew.alloc s.o).alloc (St.o (true, x, x))).alloc (jn s (true, x, x)).o) = W3 at *
          have e0 := R1.cell 0
          have e1 := R1.cell 1
          have e2 := R1.cell 2
          have f0 := R1.frozen 0
          have f1 := R1.frozen 1
          have f2 := R1.frozen 2
          simp at e0 e1 e2
          have R5 := ((R1.set_ 0 (.bool (jn s (true, x, x)).1)).set_ 1 (.int .i64 (jn s (true, x, x)).2.1)).set_ 2 (.int .i64 (jn s (true, x, x)).2.2)
          have R6 := ((R0.far (p := ⟨w.heap.size + 1, 0, none⟩) (by simp) (.bool (jn s (true, x, x)).1)).far (p := ⟨w.heap.size + 1, 1, none⟩) (by simp) (.int .i64 (jn s (true, x, x)).2.1)).far (p := ⟨w.heap.size + 1, 2, none⟩) (by simp) (.int .i64 (jn s (true, x, x)).2.2)
          have hB5 := ((hB3.setCell (p := ⟨w.heap.size + 1, 0, none⟩) (by simp) (.bool (jn s (true, x, x)).1)).setCell (p := ⟨w.heap.size + 1, 1, none⟩) (by simp) (.int .i64 (jn s (true, x, x)).2.1)).setCell (p := ⟨w.heap.size + 1, 2, none⟩) (by simp) (.int .i64 (jn s (true, x, x)).2.2)
          have cA4 : (((W3.setCell ⟨w.heap.size + 1, 0, none⟩ (.bool (jn s (true, x, x)).1)).setCell ⟨w.heap.size + 1, 1, none⟩ (.int .i64 (jn s (true, x, x)).2.1)).setCell ⟨w.heap.size + 1, 2, none⟩ (.int .i64 (jn s (true, x, x)).2.2)).cell? (ad.add k) = some (.int .i64 x) := by
            have hne : ∀ i, (⟨w.heap.size + 1, i, none⟩ : Addr) ≠ ad.add k := fun i e => by have := congrArg Addr.block e; simp at this; omega
            rw [World.cell?_setCell_other _ _ _ _ (hne _), World.cell?_setCell_other _ _ _ _ (hne _), World.cell?_setCell_other _ _ _ _ (hne _)]
            exact cA3
          go_wp2_with fail
          refine wp_region_held_drew (S := fun w' => w'.cell? (ad.add k) = some (.int .i64 x)) (by kernel_rfl) (show wr.drew.cell? _ = _ from cA) (fun hHeld => ?_)
          refine wpAnyH_take (i := 1) (v := ?_) rfl (by kernel_rfl) (by kernel_rfl) (by kernel_rfl) (fun _ _ _ h => h) (Or.inl ⟨by rfl, ?_⟩) (by assumption) ?_
          rotate_left
          · (intro w hSw; (try dsimp only at hSw); go_simp; (try with_reducible rfl))
          (try simp only [Act.put, List.setIfInBounds_toArray, List.set_cons_zero, List.set_cons_succ])
          refine wpAnyH_take (i := 2) (v := ?_) rfl (by kernel_rfl) (by kernel_rfl) (by kernel_rfl) (fun _ _ _ h => h) (Or.inl ⟨by rfl, ?_⟩) (by assumption) ?_
          rotate_left
          · (intro w hSw; (try dsimp only at hSw); go_simp; (try with_reducible rfl))
          (try simp only [Act.put, List.setIfInBounds_toArray, List.set_cons_zero, List.set_cons_succ])
          refine wpAnyH_take (i := 3) (v := ?_) rfl (by kernel_rfl) (by kernel_rfl) (by kernel_rfl) (fun _ _ _ h => h) (Or.inl ⟨by rfl, ?_⟩) (by assumption) ?_
          rotate_left
          · (intro w hSw; (try dsimp only at hSw); go_simp; (try with_reducible rfl))
          (try simp only [Act.put, List.setIfInBounds_toArray, List.set_cons_zero, List.set_cons_succ])
          refine wpAnyH_take (i := 4) (v := ?_) rfl (by kernel_rfl) (by kernel_rfl) (by kernel_rfl) (fun _ _ _ h => h) (Or.inl ⟨by rfl, ?_⟩) (by assumption) ?_
          rotate_left
          · (intro w hSw; (try dsimp only at hSw); go_simp; (try with_reducible rfl))
          (try simp only [Act.put, List.setIfInBounds_toArray, List.set_cons_zero, List.set_cons_succ])
          refine wpAnyH_take (i := 5) (v := ?_) rfl (by kernel_rfl) (by kernel_rfl) (by kernel_rfl) (fun _ _ _ h => h) (Or.inl ⟨by rfl, ?_⟩) (by assumption) ?_
          rotate_left
          · (intro w hSw; (try dsimp only at hSw); go_simp; (try with_reducible rfl))
          (try simp only [Act.put, List.setIfInBounds_toArray, List.set_cons_zero, List.set_cons_succ])
          refine wpAnyH_take (i := 6) (v := ?_) rfl (by kernel_rfl) (by kernel_rfl) (by kernel_rfl) (fun _ _ _ h => h) (Or.inl ⟨by rfl, ?_⟩) (by assumption) ?_
          rotate_left
          · (intro w hSw; (try dsimp only at hSw); go_simp; (try with_reducible rfl))
          (try simp only [Act.put, List.setIfInBounds_toArray, List.set_cons_zero, List.set_cons_succ])
          refine wpAnyH_take (i := 7) (v := ?_) rfl (by kernel_rfl) (by kernel_rfl) (by kernel_rfl) (fun _ _ _ h => h) (Or.inl ⟨by rfl, ?_⟩) (by assumption) ?_
          rotate_left
          · (intro w hSw; (try dsimp only at hSw); go_simp; (try with_reducible rfl))
          (try simp only [Act.put, List.setIfInBounds_toArray, List.set_cons_zero, List.set_cons_succ])
          refine wpAnyH_take (i := 8) (v := ?_) rfl (by kernel_rfl) (by kernel_rfl) (by kernel_rfl) (fun _ _ _ h => h) (Or.inl ⟨by rfl, ?_⟩) (by assumption) ?_
          rotate_left
          · (intro w hSw; (try dsimp only at hSw); go_simp; (try with_reducible rfl))
          (try simp only [Act.put, List.setIfInBounds_toArray, List.set_cons_zero, List.set_cons_succ])
          refine wpAnyH_take (i := 9) (v := ?_) rfl (by kernel_rfl) (by kernel_rfl) (by kernel_rfl) (fun _ _ _ h => h) (Or.inl ⟨by rfl, ?_⟩) (by assumption) ?_
          rotate_left
          · (intro w hSw; (try dsimp only at hSw); go_simp; (try with_reducible rfl))
          (try simp only [Act.put, List.setIfInBounds_toArray, List.set_cons_zero, List.set_cons_succ])
          refine wpAnyH_ready (rs := [0]) (by kernel_rfl) (by simp) ?_
          refine AllReadyH.cons rfl (fun K hK => ?_) AllReadyH.nil
          go_simp
          refine hK.out _ _ (cA) (fun hHeld => ?_)
          clear hK K
          (try simp only [Act.put, List.setIfInBounds_toArray, List.set_cons_zero, List.set_cons_succ])
          refine wpAnyH_ready (rs := [10]) (by kernel_rfl) (by simp) ?_
          refine AllReadyH.cons rfl (fun K hK => ?_) AllReadyH.nil
          go_simp
          refine (joined_ex s (true, x, x) _).mono ?_
          rintro en w2 ⟨rfl, rfl⟩
          rw [hW3]
          go_wp2_with fail
          refine hK.out _ _ (cA3) (fun hHeld => ?_)
          clear hK K
          (try simp only [Act.put, List.setIfInBounds_toArray, List.set_cons_zero, List.set_cons_succ])
          refine wpAnyH_ready (rs := [11]) (by kernel_rfl) (by simp) ?_
          refine AllReadyH.cons rfl (fun K hK => ?_) AllReadyH.nil
          go_simp
          refine hK.out _ _ (cA4) (fun hHeld => ?_)
          clear hK K
          (try simp only [Act.put, List.setIfInBounds_toArray, List.set_cons_zero, List.set_cons_succ])
          refine wpAnyH_done (by kernel_rfl) ?_ _
          go_wp2
          go_roundw
          case rel => exact ⟨k + 1, by omega, by go_num, by rw [hf.out]; exact R5, R6, hB5, by simp only [World.size_setCell]; exact hs3⟩
          case measure => simp [intOf]; omega
        · have he : fld (zs.take k) = fld zs := by rw [List.take_of_length_le (by omega)]
          rw [he] at Q1
          have p0 := Q1.cell 0
          have p1 := Q1.cell 1
          have p2 := Q1.cell 2
          have d0 := Q0.cell 0
          have d1 := Q0.cell 1
          have d2 := Q0.cell 2
          have g0 := Q0.frozen 0
          have g1 := Q0.frozen 1
          have g2 := Q0.frozen 2
          simp at p0 p1 p2 d0 d1 d2
          have B5 := ((Q0.set_ 0 (.bool (fld zs).1)).set_ 1 (.int .i64 (fld zs).2.1)).set_ 2 (.int .i64 (fld zs).2.2)
          have q0 := B5.cell 0
          have q1 := B5.cell 1
          have q2 := B5.cell 2
          simp at q0 q1 q2
          clear hR hR0 hR1 B0 B1 he
          go_wp2
          refine bodyPost_ret (v := .tuple #[(fld zs).v, .int .i64 0]) (by simp [results, Try.results9, go_sem, q0, q1, q2]) rfl ⟨rfl, ?_⟩
          exact ((hBr.setCell (p := ⟨w.heap.size, 0, none⟩) (Nat.le_refl _) _).setCell (p := ⟨w.heap.size, 1, none⟩) (Nat.le_refl _) _).setCell (p := ⟨w.heap.size, 2, none⟩) (Nat.le_refl _) _
set_option maxHeartbeats 4000000 in
theorem rall_no (A : Option Addr) (n c : Nat) (zs : List Int) (hn : zs.length = n) (hm : n ≤ 1000000) (h : ¬ AllOK zs) (w : World) (hR : Reads w w.heap.size 1 A n (ints zs)) :
    Calls Try.prog 9 #[.slice A n c] w fun en w' => en = .returned (.tuple #[edg false 0 0, .int .i64 2]) ∧ Below w.heap.size w w' := by
  have B0 := Blk.new w 24 #[.bool false, .int .i64 0, .int .i64 0]
  have hB0 : Below w.heap.size w (w.alloc (.cells #[.bool false, .int .i64 0, .int .i64 0] 24)) := (Below.refl _ w).alloc (Nat.le_refl _) _
  have hR0 := hR.below hB0
  go_enter Try.func9, Try.ntmps9
  go_wp2
  go_loop [4] (fun i => ∃ k : Nat, k ≤ n ∧ i = .int .i64 k ∧ ∀ x ∈ zs.take k, ValOK x) (fun i => n - (intOf i).toNat)
  case atStart => exact ⟨0, by omega, rfl, by simp⟩
  case round =>
    obtain ⟨k, hk, rfl, hv⟩ := hrel
    by_cases hlt : k < n
    · obtain ⟨ad, u, rfl, hab, hu, cA⟩ := hR0.at_ hlt
      obtain ⟨x, hx⟩ : ∃ x, x = zs[k]'(by omega) := ⟨_, rfl⟩
      have hu' : u = .int .i64 x := by
        rw [List.getElem?_map, List.getElem?_eq_getElem (by omega)] at hu
        simp only [Option.map_some, Option.some.injEq] at hu
        rw [← hu, hx]
      subst hu'
      have htk : zs.take (k + 1) = zs.take k ++ [x] := by rw [hx]; exact List.take_succ_eq_append_getElem (by omega)
      clear hu hx
      by_cases hox : ValOK x
      · go_wp2_with (go_at_call 26; refine (rvalue_yes hox _).mono ?_; rintro en w1 ⟨rfl, rfl⟩)
        go_round
        case rel => exact ⟨k + 1, by omega, by go_num, fun y hy => by
          rw [htk] at hy
          rcases List.mem_append.mp hy with h | h
          · exact hv y h
          · simp at h; subst h; exact hox⟩
        case measure => simp [intOf]; omega
      · go_wp2_with (go_at_call 26; refine (rvalue_no hox _).mono ?_; rintro en w1 ⟨rfl, rfl⟩)
        refine bodyPost_ret (v := .tuple #[edg false 0 0, .int .i64 2]) (by simp [results, Try.results9, go_sem, World.cell?_alloc_past]) rfl ⟨rfl, ?_⟩
        repeat (first | exact hB0 | (refine Below.setCell ?_ ?_ _; rotate_left; focus (simp)))
    · exact absurd (fun y hy => hv y (by rw [List.take_of_length_le (by omega)]; exact hy)) h
theorem rall_any (A : Option Addr) (n c : Nat) (zs : List Int) (hn : zs.length = n) (hm : n ≤ 1000000) (w : World) (hR : Reads w w.heap.size 1 A n (ints zs)) :
    Calls Try.prog 9 #[.slice A n c] w fun en w' => en = .returned (.tuple #[(allS zs).v, .int .i64 (allE zs)]) ∧ Below w.heap.size w w' := by
  unfold allS allE
  by_cases h : AllOK zs
  · rw [if_pos h, if_pos h]; exact rall_yes A n c zs hn hm h w hR
  · rw [if_neg h, if_neg h]; exact rall_no A n c zs hn hm h w hR
end Go.Proofs.Ytdibchmhigcaaaa
