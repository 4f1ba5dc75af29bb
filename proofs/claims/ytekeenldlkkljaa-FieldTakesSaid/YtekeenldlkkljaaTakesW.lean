/- Field: the walk of the law FieldTakes. -/
import Derived.Test.YtekeenldlkkljaaTakesP
namespace Go.Proofs.Ytekeenldlkkljaa.FieldTakes
open Go.ChangeShapes Go.WideShapes Go.ChangeAt Go.RowKit
set_option linter.unusedSimpArgs false
set_option linter.unusedVariables false
def CutOwn (W1 : World) (b0 n : Nat) (l : List Int) (p : Int) (s5 : Value) (wx : World) : Prop := ∃ g Ao co, s5 = .pointer (some ⟨g, 0, none⟩) ∧ b0 ≤ g ∧ Blk wx g 39 #[.slice Ao n co, .int .i64 p] ∧ n ≤ co ∧ Reads wx wx.heap.size 1 Ao n (u8s l) ∧ Below b0 W1 wx
set_option maxRecDepth 100000 in
set_option maxHeartbeats 8000000 in
theorem walk (A : Option Addr) (n c : Nat) (l : List Int) (hn : l.length = n) (hb : ∀ b ∈ l, 0 ≤ b ∧ b < 256) (hnc : n ≤ c) (hA : A = none → c = 0) (p s : Int) (w : World) (hR : Reads w w.heap.size 1 A n (u8s l)) :
    Calls Try.prog 4 #[rst A n c p, .int .i64 s] w fun e w' => e = .returned (.bool true) ∧ Below w.heap.size w w' := by
  have hB1 := (Below.refl w.heap.size w).alloc (Nat.le_refl _) (.cells #[.slice A n c, .int .i64 p] 39)
  have hx1 := Blk.new w 39 #[.slice A n c, .int .i64 p]
  obtain ⟨W1, hW1⟩ : ∃ W1, W1 = w.alloc (.cells #[.slice A n c, .int .i64 p] 39) := ⟨_, rfl⟩
  rw [← hW1] at hB1 hx1
  have hz1 : W1.heap.size = w.heap.size + 1 := by rw [hW1, World.size_alloc]
  have hR1 := (hR.below hB1).more hB1.size
  by_cases hbig : 5000 < n
  · have t1 : decide ((5000 : Int) < (n : Int)) = true := decide_eq_true (by omega)
    clear hn hb hR hR1 hz1 hW1 hB1 hx1
    go_enter Try.func4, Try.ntmps4
    go_wp2
    go_ret
    exact ⟨rfl, (Below.refl _ w).alloc (Nat.le_refl _) _⟩
  have t1 : decide ((5000 : Int) < (n : Int)) = false := decide_eq_false (by omega)
  have hn5 : n ≤ 5000 := by omega
  obtain ⟨i0, hi0, hz0, hz2, hz3⟩ := info_parts info5
  have u1 := u8s_one l
  have gn := Lib.hid hn
  have gz := Lib.hid hz1
  have gW := Lib.hid hW1
  clear hn hz1 hbig
  have x0 := hx1.cell 0
  have x1 := hx1.cell 1
  have xlt := hx1.lt
  have e0 := World.new_ne W1 ⟨w.heap.size, 0, none⟩ x0
  have e1 := World.new_ne W1 ⟨w.heap.size, 1, none⟩ x1
  go_enter Try.func4, Try.ntmps4
  go_upto_region 3 with fail
  rw [← hW1]
  clear hW1
  go_cut [5] (fun s5 wx => CutOwn W1 W1.heap.size n l p s5 wx)
  case first =>
    refine wp_region_noPanic ?_
    refine wp_region_held_drew (S := (fun w' => w'.cell? ⟨w.heap.size, 0, none⟩ = some (.slice A n c) ∧ w'.cell? ⟨w.heap.size, 1, none⟩ = some (.int .i64 p))) (by kernel_rfl) (⟨x0, x1⟩) (fun hHeld => ?_)
    refine wpAnyH_take (i := 1) (v := ?_) rfl (by kernel_rfl) (by kernel_rfl) (by kernel_rfl) (fun _ _ _ h => h) (Or.inl ⟨by rfl, ?_⟩) (by assumption) ?_
    rotate_left
    · (intro w hSw; (try dsimp only at hSw); go_simp; (try with_reducible rfl))
    (try simp only [Act.put, List.setIfInBounds_toArray, List.set_cons_zero, List.set_cons_succ])
    refine wpAnyH_take (i := 2) (v := ?_) rfl (by kernel_rfl) (by kernel_rfl) (by kernel_rfl) (fun _ _ _ h => h) (Or.inl ⟨by rfl, ?_⟩) (by assumption) ?_
    rotate_left
    · (intro w hSw; (try dsimp only at hSw); go_simp; (try with_reducible rfl))
    (try simp only [Act.put, List.setIfInBounds_toArray, List.set_cons_zero, List.set_cons_succ])
    refine wpAnyH_take (i := 4) (v := ?_) rfl (by kernel_rfl) (by kernel_rfl) (by kernel_rfl) (fun _ _ _ h => h) (Or.inl ⟨by rfl, ?_⟩) (by assumption) ?_
    rotate_left
    · (intro w hSw; (try dsimp only at hSw); go_simp; (try with_reducible rfl))
    (try simp only [Act.put, List.setIfInBounds_toArray, List.set_cons_zero, List.set_cons_succ])
    refine wpAnyH_take (i := 5) (v := ?_) rfl (by kernel_rfl) (by kernel_rfl) (by kernel_rfl) (fun _ _ _ h => h) (Or.inl ⟨by rfl, ?_⟩) (by assumption) ?_
    rotate_left
    · (intro w hSw; (try dsimp only at hSw); go_simp; (try with_reducible rfl))
    (try simp only [Act.put, List.setIfInBounds_toArray, List.set_cons_zero, List.set_cons_succ])
    refine wpAnyH_ready (rs := [0, 7]) (by kernel_rfl) (by simp) ?_
    refine AllReadyH.cons rfl (fun K hK => ?_) (AllReadyH.cons rfl (fun K hK => ?_) AllReadyH.nil)
    · go_simp
      refine hK.out _ _ (by first | assumption | go_keep | (refine ⟨?_, ?_⟩ <;> go_keep)) (fun hHeld => ?_)
      clear hK K
      (try simp only [Act.put, List.setIfInBounds_toArray, List.set_cons_zero, List.set_cons_succ])
      refine wpAnyH_ready (rs := [3, 7]) (by kernel_rfl) (by simp) ?_
      refine AllReadyH.cons rfl (fun K hK => ?_) (AllReadyH.cons rfl (fun K hK => ?_) AllReadyH.nil)
      · obtain ⟨W3, hW3⟩ : ∃ W3, W3 = (W1.alloc (.cells #[] 5)).drew := ⟨_, rfl⟩
        have own3 : W3.ownsRow W1.heap.size 5 1 (.slice (some ⟨W1.heap.size, 0, none⟩) 0 0) 0 [] := by rw [hW3]; exact owns_new W1 W1.heap.size (Nat.le_refl _) [] 5 0 rfl (Nat.zero_le _)
        have rd3 : Reads W3 W1.heap.size 1 A n (u8s l) := by rw [hW3]; exact hR1.alloc (Nat.le_refl _) (.cells #[] 5)
        have bl3 : Below W1.heap.size W1 W3 := by rw [hW3]; exact ((Below.refl W1.heap.size W1).alloc (Nat.le_refl _) (.cells #[] 5)).drew
        rw [← hW3]
        have hW3' := Lib.hid hW3
        clear hW3
        refine step_append_any _ rfl (.tmp 24) (.tmp 26) _ rfl W1.heap.size 5 i0 _ 1 1 Try.underlying22 hi0 hz0 hz2 hz3 rfl (by omega) (.slice (some ⟨W1.heap.size, 0, none⟩) 0 0) 0 [] rfl own3 W1.heap.size A n c (u8s l) rfl rd3 u1 (by unfold maxLen; omega) (by omega) bl3.size ?_
        intro v4 w4 ho4 hg4 hv4
        have hl4 : W3.heap.size ≤ w4.heap.size := hg4.size
        have bl4 := bl3.grown hg4 bl3.size (fun q hq => own_base own3 hq)
        obtain ⟨A4, c4, rfl, hnc4, hr4⟩ := own_slice ho4
        have S4 : w4.cell? ⟨w.heap.size, 0, none⟩ = some (.slice A n c) ∧ w4.cell? ⟨w.heap.size, 1, none⟩ = some (.int .i64 p) := ⟨(bl4.cell (p := ⟨w.heap.size, 0, none⟩) xlt).trans x0, (bl4.cell (p := ⟨w.heap.size, 1, none⟩) xlt).trans x1⟩
        have s40 := S4.1
        have s41 := S4.2
        refine hK.out _ _ (S4) (fun hHeld => ?_)
        clear hK K
        (try simp only [Act.put, List.setIfInBounds_toArray, List.set_cons_zero, List.set_cons_succ])
        refine wpAnyH_take (i := 6) (v := ?_) rfl (by kernel_rfl) (by kernel_rfl) (by kernel_rfl) (fun _ _ _ h => h) (Or.inl ⟨by rfl, ?_⟩) (by assumption) ?_
        rotate_left
        · (intro w hSw; (try dsimp only at hSw); go_simp; (try with_reducible rfl))
        (try simp only [Act.put, List.setIfInBounds_toArray, List.set_cons_zero, List.set_cons_succ])
        refine wpAnyH_ready (rs := [7]) (by kernel_rfl) (by simp) ?_
        refine AllReadyH.cons rfl (fun K hK => ?_) AllReadyH.nil
        go_simp
        refine hK.out _ _ (by first | assumption | go_keep | (refine ⟨?_, ?_⟩ <;> go_keep)) (fun hHeld => ?_)
        clear hK K
        (try simp only [Act.put, List.setIfInBounds_toArray, List.set_cons_zero, List.set_cons_succ])
        refine wpAnyH_ready (rs := [8]) (by kernel_rfl) (by simp) ?_
        refine AllReadyH.cons rfl (fun K hK => ?_) AllReadyH.nil
        go_simp
        refine hK.out _ _ (by first | assumption | go_keep | (refine ⟨?_, ?_⟩ <;> go_keep)) (fun hHeld => ?_)
        clear hK K
        (try simp only [Act.put, List.setIfInBounds_toArray, List.set_cons_zero, List.set_cons_succ])
        refine wpAnyH_done (by kernel_rfl) ?_ _
        have hr4' : Reads w4 w4.heap.size 1 A4 n (u8s l) := by simpa using hr4
        clear hi0 hz0 hz2 hz3
        refine NoPanic.normal ?_
        go_wp2_with fail
        go_meet
        refine ⟨w4.heap.size, A4, c4, rfl, bl4.size, ?_, by omega, ?_, ?_⟩
        · exact (Blk.new w4 39 #[.slice A4 n c4, .int .i64 p])
        · exact (((hr4'.alloc (Nat.le_refl _) (.cells #[.slice A4 n c4, .int .i64 p] 39)).more (by rw [World.size_alloc]; omega)))
        · exact (bl4.alloc bl4.size (.cells #[.slice A4 n c4, .int .i64 p] 39))
      · go_simp
        refine hK.out _ _ (by first | assumption | go_keep | (refine ⟨?_, ?_⟩ <;> go_keep)) (fun hHeld => ?_)
        clear hK K
        (try simp only [Act.put, List.setIfInBounds_toArray, List.set_cons_zero, List.set_cons_succ])
        refine wpAnyH_ready (rs := [3]) (by kernel_rfl) (by simp) ?_
        refine AllReadyH.cons rfl (fun K hK => ?_) AllReadyH.nil
        obtain ⟨W3, hW3⟩ : ∃ W3, W3 = ((W1.alloc (.cells #[] 5)).alloc (.cells #[.slice none 0 0, .int .i64 0] 39)).drew := ⟨_, rfl⟩
        have own3 : W3.ownsRow W1.heap.size 5 1 (.slice (some ⟨W1.heap.size, 0, none⟩) 0 0) 0 [] := by rw [hW3]; exact (owns_new W1 W1.heap.size (Nat.le_refl _) [] 5 0 rfl (Nat.zero_le _)).alloc (.cells #[.slice none 0 0, .int .i64 0] 39)
        have rd3 : Reads W3 W1.heap.size 1 A n (u8s l) := by rw [hW3]; exact (hR1.alloc (Nat.le_refl _) (.cells #[] 5)).alloc (by rw [World.size_alloc]; omega) (.cells #[.slice none 0 0, .int .i64 0] 39)
        have bl3 : Below W1.heap.size W1 W3 := by rw [hW3]; exact (((Below.refl W1.heap.size W1).alloc (Nat.le_refl _) (.cells #[] 5)).alloc (by rw [World.size_alloc]; omega) (.cells #[.slice none 0 0, .int .i64 0] 39)).drew
        have bk3 : Blk W3 (W1.heap.size + 1) 39 #[.slice none 0 0, .int .i64 0] := by rw [hW3]; have h := Blk.new (W1.alloc (.cells #[] 5)) 39 #[.slice none 0 0, .int .i64 0]; rw [World.size_alloc] at h; exact h
        rw [← hW3]
        have hW3' := Lib.hid hW3
        clear hW3
        refine step_append_any _ rfl (.tmp 24) (.tmp 26) _ rfl W1.heap.size 5 i0 _ 1 1 Try.underlying22 hi0 hz0 hz2 hz3 rfl (by omega) (.slice (some ⟨W1.heap.size, 0, none⟩) 0 0) 0 [] rfl own3 W1.heap.size A n c (u8s l) rfl rd3 u1 (by unfold maxLen; omega) (by omega) bl3.size ?_
        intro v4 w4 ho4 hg4 hv4
        have hl4 : W3.heap.size ≤ w4.heap.size := hg4.size
        have bl4 := bl3.grown hg4 bl3.size (fun q hq => own_base own3 hq)
        have bk4 := bk3.grown hg4 (by show some (W1.heap.size + 1) ≠ some (W1.heap.size); intro e; injection e with e; omega)
        obtain ⟨A4, c4, rfl, hnc4, hr4⟩ := own_slice ho4
        have z0 := bk4.cell 0
        have z1 := bk4.cell 1
        have zf0 := bk4.frozen 0
        have zf1 := bk4.frozen 1
        have zlt := bk4.lt
        have S4 : w4.cell? ⟨w.heap.size, 0, none⟩ = some (.slice A n c) ∧ w4.cell? ⟨w.heap.size, 1, none⟩ = some (.int .i64 p) := ⟨(bl4.cell (p := ⟨w.heap.size, 0, none⟩) xlt).trans x0, (bl4.cell (p := ⟨w.heap.size, 1, none⟩) xlt).trans x1⟩
        have s40 := S4.1
        have s41 := S4.2
        refine hK.out _ _ (S4) (fun hHeld => ?_)
        clear hK K
        (try simp only [Act.put, List.setIfInBounds_toArray, List.set_cons_zero, List.set_cons_succ])
        refine wpAnyH_take (i := 6) (v := ?_) rfl (by kernel_rfl) (by kernel_rfl) (by kernel_rfl) (fun _ _ _ h => h) (Or.inl ⟨by rfl, ?_⟩) (by assumption) ?_
        rotate_left
        · (intro w hSw; (try dsimp only at hSw); go_simp; (try with_reducible rfl))
        (try simp only [Act.put, List.setIfInBounds_toArray, List.set_cons_zero, List.set_cons_succ])
        refine wpAnyH_ready (rs := [8]) (by kernel_rfl) (by simp) ?_
        refine AllReadyH.cons rfl (fun K hK => ?_) AllReadyH.nil
        go_simp
        refine hK.out _ _ (⟨(((bl4.setCell (p := ⟨W1.heap.size + 1, 0, none⟩) (by show W1.heap.size ≤ W1.heap.size + 1; omega) (.slice A4 n c4)).setCell (p := ⟨W1.heap.size + 1, 1, none⟩) (by show W1.heap.size ≤ W1.heap.size + 1; omega) (.int .i64 p)).cell (p := ⟨w.heap.size, 0, none⟩) xlt).trans x0, (((bl4.setCell (p := ⟨W1.heap.size + 1, 0, none⟩) (by show W1.heap.size ≤ W1.heap.size + 1; omega) (.slice A4 n c4)).setCell (p := ⟨W1.heap.size + 1, 1, none⟩) (by show W1.heap.size ≤ W1.heap.size + 1; omega) (.int .i64 p)).cell (p := ⟨w.heap.size, 1, none⟩) xlt).trans x1⟩) (fun hHeld => ?_)
        clear hK K
        (try simp only [Act.put, List.setIfInBounds_toArray, List.set_cons_zero, List.set_cons_succ])
        refine wpAnyH_done (by kernel_rfl) ?_ _
        have hr4' : Reads w4 w4.heap.size 1 A4 n (u8s l) := by simpa using hr4
        clear hi0 hz0 hz2 hz3
        refine NoPanic.normal ?_
        go_wp2_with fail
        go_meet
        have hne4 : (Value.slice A4 n c4).ownBlock ≠ some (W1.heap.size + 1) := by
          rw [Nat.zero_add] at hv4
          have := bk3.lt
          intro e
          rw [e] at hv4
          rcases hv4 with h | h
          · have h2 : W1.heap.size + 1 = W1.heap.size := Option.some.inj h
            omega
          · have h2 : W1.heap.size + 1 = W3.heap.size := Option.some.inj h
            omega
        have bk5 := (bk4.set_ 0 (.slice A4 n c4)).set_ 1 (.int .i64 p)
        simp at bk5
        refine ⟨W1.heap.size + 1, A4, c4, rfl, by omega, bk5, by omega, ?_, ?_⟩
        · exact Reads.of_own (own_far (own_far (by simpa using ho4) (p := ⟨W1.heap.size + 1, 0, none⟩) hne4 (.slice A4 n c4)) (p := ⟨W1.heap.size + 1, 1, none⟩) hne4 (.int .i64 p))
        · exact ((bl4.setCell (p := ⟨W1.heap.size + 1, 0, none⟩) (by show W1.heap.size ≤ W1.heap.size + 1; omega) _).setCell (p := ⟨W1.heap.size + 1, 1, none⟩) (by show W1.heap.size ≤ W1.heap.size + 1; omega) _)
    · go_simp
      refine hK.out _ _ (by first | assumption | go_keep | (refine ⟨?_, ?_⟩ <;> go_keep)) (fun hHeld => ?_)
      clear hK K
      (try simp only [Act.put, List.setIfInBounds_toArray, List.set_cons_zero, List.set_cons_succ])
      refine wpAnyH_ready (rs := [0]) (by kernel_rfl) (by simp) ?_
      refine AllReadyH.cons rfl (fun K hK => ?_) AllReadyH.nil
      go_simp
      refine hK.out _ _ (by first | assumption | go_keep | (refine ⟨?_, ?_⟩ <;> go_keep)) (fun hHeld => ?_)
      clear hK K
      (try simp only [Act.put, List.setIfInBounds_toArray, List.set_cons_zero, List.set_cons_succ])
      refine wpAnyH_ready (rs := [3]) (by kernel_rfl) (by simp) ?_
      refine AllReadyH.cons rfl (fun K hK => ?_) AllReadyH.nil
      obtain ⟨W3, hW3⟩ : ∃ W3, W3 = ((W1.alloc (.cells #[.slice none 0 0, .int .i64 0] 39)).alloc (.cells #[] 5)).drew := ⟨_, rfl⟩
      have own3 : W3.ownsRow W1.heap.size 5 1 (.slice (some ⟨W1.heap.size + 1, 0, none⟩) 0 0) 0 [] := by rw [hW3]; have h := owns_new (W1.alloc (.cells #[.slice none 0 0, .int .i64 0] 39)) W1.heap.size (by rw [World.size_alloc]; omega) [] 5 0 rfl (Nat.zero_le _); rw [World.size_alloc] at h; exact h
      have rd3 : Reads W3 W1.heap.size 1 A n (u8s l) := by rw [hW3]; exact (hR1.alloc (Nat.le_refl _) (.cells #[.slice none 0 0, .int .i64 0] 39)).alloc (by rw [World.size_alloc]; omega) (.cells #[] 5)
      have bl3 : Below W1.heap.size W1 W3 := by rw [hW3]; exact (((Below.refl W1.heap.size W1).alloc (Nat.le_refl _) (.cells #[.slice none 0 0, .int .i64 0] 39)).alloc (by rw [World.size_alloc]; omega) (.cells #[] 5)).drew
      have bk3 : Blk W3 (W1.heap.size) 39 #[.slice none 0 0, .int .i64 0] := by rw [hW3]; exact (Blk.new W1 39 #[.slice none 0 0, .int .i64 0]).alloc (.cells #[] 5)
      rw [← hW3]
      have hW3' := Lib.hid hW3
      clear hW3
      refine step_append_any _ rfl (.tmp 24) (.tmp 26) _ rfl W1.heap.size 5 i0 _ 1 1 Try.underlying22 hi0 hz0 hz2 hz3 rfl (by omega) (.slice (some ⟨W1.heap.size + 1, 0, none⟩) 0 0) 0 [] rfl own3 W1.heap.size A n c (u8s l) rfl rd3 u1 (by unfold maxLen; omega) (by omega) bl3.size ?_
      intro v4 w4 ho4 hg4 hv4
      have hl4 : W3.heap.size ≤ w4.heap.size := hg4.size
      have bl4 := bl3.grown hg4 bl3.size (fun q hq => own_base own3 hq)
      have bk4 := bk3.grown hg4 (by show some (W1.heap.size) ≠ some (W1.heap.size + 1); intro e; injection e with e; omega)
      obtain ⟨A4, c4, rfl, hnc4, hr4⟩ := own_slice ho4
      have z0 := bk4.cell 0
      have z1 := bk4.cell 1
      have zf0 := bk4.frozen 0
      have zf1 := bk4.frozen 1
      have zlt := bk4.lt
      have S4 : w4.cell? ⟨w.heap.size, 0, none⟩ = some (.slice A n c) ∧ w4.cell? ⟨w.heap.size, 1, none⟩ = some (.int .i64 p) := ⟨(bl4.cell (p := ⟨w.heap.size, 0, none⟩) xlt).trans x0, (bl4.cell (p := ⟨w.heap.size, 1, none⟩) xlt).trans x1⟩
      have s40 := S4.1
      have s41 := S4.2
      refine hK.out _ _ (S4) (fun hHeld => ?_)
      clear hK K
      (try simp only [Act.put, List.setIfInBounds_toArray, List.set_cons_zero, List.set_cons_succ])
      refine wpAnyH_take (i := 6) (v := ?_) rfl (by kernel_rfl) (by kernel_rfl) (by kernel_rfl) (fun _ _ _ h => h) (Or.inl ⟨by rfl, ?_⟩) (by assumption) ?_
      rotate_left
      · (intro w hSw; (try dsimp only at hSw); go_simp; (try with_reducible rfl))
      (try simp only [Act.put, List.setIfInBounds_toArray, List.set_cons_zero, List.set_cons_succ])
      refine wpAnyH_ready (rs := [8]) (by kernel_rfl) (by simp) ?_
      refine AllReadyH.cons rfl (fun K hK => ?_) AllReadyH.nil
      go_simp
      refine hK.out _ _ (⟨(((bl4.setCell (p := ⟨W1.heap.size, 0, none⟩) (by show W1.heap.size ≤ W1.heap.size; omega) (.slice A4 n c4)).setCell (p := ⟨W1.heap.size, 1, none⟩) (by show W1.heap.size ≤ W1.heap.size; omega) (.int .i64 p)).cell (p := ⟨w.heap.size, 0, none⟩) xlt).trans x0, (((bl4.setCell (p := ⟨W1.heap.size, 0, none⟩) (by show W1.heap.size ≤ W1.heap.size; omega) (.slice A4 n c4)).setCell (p := ⟨W1.heap.size, 1, none⟩) (by show W1.heap.size ≤ W1.heap.size; omega) (.int .i64 p)).cell (p := ⟨w.heap.size, 1, none⟩) xlt).trans x1⟩) (fun hHeld => ?_)
      clear hK K
      (try simp only [Act.put, List.setIfInBounds_toArray, List.set_cons_zero, List.set_cons_succ])
      refine wpAnyH_done (by kernel_rfl) ?_ _
      have hr4' : Reads w4 w4.heap.size 1 A4 n (u8s l) := by simpa using hr4
      clear hi0 hz0 hz2 hz3
      refine NoPanic.normal ?_
      go_wp2_with fail
      go_meet
      have hne4 : (Value.slice A4 n c4).ownBlock ≠ some (W1.heap.size) := by
        rw [Nat.zero_add] at hv4
        have := bk3.lt
        intro e
        rw [e] at hv4
        rcases hv4 with h | h
        · have h2 : W1.heap.size = W1.heap.size + 1 := Option.some.inj h
          omega
        · have h2 : W1.heap.size = W3.heap.size := Option.some.inj h
          omega
      have bk5 := (bk4.set_ 0 (.slice A4 n c4)).set_ 1 (.int .i64 p)
      simp at bk5
      refine ⟨W1.heap.size, A4, c4, rfl, by omega, bk5, by omega, ?_, ?_⟩
      · exact Reads.of_own (own_far (own_far (by simpa using ho4) (p := ⟨W1.heap.size, 0, none⟩) hne4 (.slice A4 n c4)) (p := ⟨W1.heap.size, 1, none⟩) hne4 (.int .i64 p))
      · exact ((bl4.setCell (p := ⟨W1.heap.size, 0, none⟩) (by show W1.heap.size ≤ W1.heap.size; omega) _).setCell (p := ⟨W1.heap.size, 1, none⟩) (by show W1.heap.size ≤ W1.heap.size; omega) _)
  case rest =>
    obtain ⟨g, Ao, co, rfl, hg, hgB, hco, hRo, hBc⟩ := hcut
    clear x0 x1 e0 e1 u1 hi0 hz0 hz2 hz3
    have gx2 := hx1.below hBc hx1.lt
    have hR2 := (hR1.below hBc).more hBc.size
    have hBw := hB1.trans (hBc.mono hB1.size)
    have hgz : w.heap.size < g := by have := hx1.lt; omega
    clear hx1 hBc hB1 hR1 hR xlt hg
    obtain ⟨⟨L1, P1, X1⟩, hS1⟩ : ∃ R, nS l p s = R := ⟨_, rfl⟩
    obtain ⟨E1, hE1⟩ : ∃ E, nE l p s = E := ⟨_, rfl⟩
    obtain ⟨n1, hn1⟩ : ∃ n, L1.length = n := ⟨_, rfl⟩
    have hLb1 : ∀ b ∈ L1, 0 ≤ b ∧ b < 256 := by have := nS_byte hb p s; rw [hS1] at this; exact this
    have hnum : ∀ w', Reads w' w'.heap.size 1 Ao n (u8s l) → Calls Try.prog 15 #[rst Ao n co p, .int .i64 s] w' (fun en w'' => ∃ A c, en = .returned (.tuple #[rst A n1 c P1, .int .u64 X1, .int .i64 E1]) ∧ Reads w'' w''.heap.size 1 A n1 (u8s L1) ∧ Below w'.heap.size w' w'') := by
      intro w' h
      refine (num_v Ao n co l gn.out hb (by omega) hco p s w' h).mono ?_
      intro en w'' hh
      rw [hS1, hE1] at hh
      obtain ⟨A, c, e, h1, h2⟩ := hh
      simp only [hn1] at e h1
      exact ⟨A, c, e, h1, h2⟩
    have hrnum : ∀ w', Reads w' w'.heap.size 1 A n (u8s l) → Calls Try.prog 16 #[rst A n c p, .int .i64 s] w' (fun en w'' => ∃ A c, en = .returned (.tuple #[rst A n1 c P1, .int .u64 X1, .int .i64 E1]) ∧ Reads w'' w''.heap.size 1 A n1 (u8s L1) ∧ Below w'.heap.size w' w'') := by
      intro w' h
      refine (rnum_v A n c l gn.out hb (by omega) hnc p s w' h).mono ?_
      intro en w'' hh
      rw [hS1, hE1] at hh
      obtain ⟨A, c, e, h1, h2⟩ := hh
      simp only [hn1] at e h1
      exact ⟨A, c, e, h1, h2⟩
    obtain ⟨⟨L2, P2, N2, M2, X2⟩, hS2⟩ : ∃ R, dS l p = R := ⟨_, rfl⟩
    obtain ⟨E2, hE2⟩ : ∃ E, dyE l p = E := ⟨_, rfl⟩
    obtain ⟨n2, hn2⟩ : ∃ n, L2.length = n := ⟨_, rfl⟩
    obtain ⟨m2, hm2⟩ : ∃ n, M2.length = n := ⟨_, rfl⟩
    have hLb2 : ∀ b ∈ L2, 0 ≤ b ∧ b < 256 := by have := dS_byte hb p; rw [hS2] at this; exact this
    have hml : m2 ≤ 40 := by have := dS_len l p; rw [hS2] at this; rw [← hm2]; exact this
    have hdy : ∀ w', Reads w' w'.heap.size 1 Ao n (u8s l) → Calls Try.prog 17 #[rst Ao n co p] w' (fun en w'' => ∃ A c Al cl, en = .returned (.tuple #[rst A n2 c P2, dy N2 Al m2 cl X2, .int .i64 E2]) ∧ Reads w'' w''.heap.size 1 A n2 (u8s L2) ∧ w''.ownsRow w'.heap.size 50 1 (.slice Al m2 cl) m2 (u32s M2) ∧ Below w'.heap.size w' w'') := by
      intro w' h
      refine (dyad_v Ao n co l gn.out hb (by omega) hco p w' h).mono ?_
      intro en w'' hh
      rw [hS2, hE2] at hh
      obtain ⟨A, c, Al, cl, e, h1, h2, h3⟩ := hh
      simp only [hn2, hm2] at e h1 h2
      exact ⟨A, c, Al, cl, e, h1, h2, h3⟩
    have hrdy : ∀ w', Reads w' w'.heap.size 1 A n (u8s l) → Calls Try.prog 18 #[rst A n c p] w' (fun en w'' => ∃ A c Al cl, en = .returned (.tuple #[rst A n2 c P2, dy N2 Al m2 cl X2, .int .i64 E2]) ∧ Reads w'' w''.heap.size 1 A n2 (u8s L2) ∧ Reads w'' w''.heap.size 1 Al m2 (u32s M2) ∧ Below w'.heap.size w' w'') := by
      intro w' h
      refine (rdyad_v A n c l gn.out hb (by omega) hnc hA p w' h).mono ?_
      intro en w'' hh
      rw [hS2, hE2] at hh
      obtain ⟨A, c, Al, cl, e, h1, h2, h3⟩ := hh
      simp only [hn2, hm2] at e h1 h2
      exact ⟨A, c, Al, cl, e, h1, h2, h3⟩
    have q1 := Lib.hid hn1
    have q2 := Lib.hid hn2
    have q3 := Lib.hid hm2
    have qb := Lib.hid hb
    clear hS1 hE1 hS2 hE2 hn1 hn2 hm2 hb hA
    have g0 := hgB.cell 0
    have g1 := hgB.cell 1
    have c0 := gx2.cell 0
    have c1 := gx2.cell 1
    go_wp2_with fail
    refine (hnum _ hRo).mono ?_
    rintro en w2 ⟨A2, c2, rfl, hRx, hb2⟩
    clear g0 g1 c0 c1 hnum
    have kg := hgB.below hb2 hgB.lt
    have kx := gx2.below hb2 gx2.lt
    have ro := (hRo.below hb2).more hb2.size
    have rr := (hR2.below hb2).more hb2.size
    have rx := hRx
    have bw := hBw.trans (hb2.mono hBw.size)
    clear hgB gx2 hRo hR2 hBw hb2 hRx
    have kxl := kx.lt
    have kxc0 := kx.cell 0
    have kxe0 := World.new_ne w2 ⟨w.heap.size, 0, none⟩ kxc0
    have kxc1 := kx.cell 1
    have kxe1 := World.new_ne w2 ⟨w.heap.size, 1, none⟩ kxc1
    have kgl := kg.lt
    have kgc0 := kg.cell 0
    have kge0 := World.new_ne w2 ⟨g, 0, none⟩ kgc0
    have kgc1 := kg.cell 1
    have kge1 := World.new_ne w2 ⟨g, 1, none⟩ kgc1
    go_wp2_with fail
    clear kxl kxc0 kxe0 kxc1 kxe1 kgl kgc0 kge0 kgc1 kge1
    obtain ⟨V2, hV2⟩ : ∃ W, W = (w2.alloc (.cells #[.slice A2 n1 c2, .int .i64 P1] 39)) := ⟨_, rfl⟩
    rw [← hV2]
    have bV2 : Below w2.heap.size w2 V2 := by rw [hV2]; exact ((Below.refl w2.heap.size w2).alloc (Nat.le_refl _) (.cells #[.slice A2 n1 c2, .int .i64 P1] 39))
    have k6 : Blk V2 (w2.heap.size) 39 #[.slice A2 n1 c2, .int .i64 P1] := by rw [hV2]; have h := Blk.new (w2) 39 #[.slice A2 n1 c2, .int .i64 P1]; (try simp only [World.size_alloc] at h); exact h
    have hV2' := Lib.hid hV2
    clear hV2
    replace kg := kg.below bV2 kg.lt
    replace kx := kx.below bV2 kx.lt
    replace ro := (ro.below bV2).more bV2.size
    replace rr := (rr.below bV2).more bV2.size
    replace rx := (rx.below bV2).more bV2.size
    replace bw := bw.trans (bV2.mono bw.size)
    clear bV2
    refine (hrnum _ rr).mono ?_
    rintro en w3 ⟨A3, c3, rfl, ry, hb3⟩
    clear hrnum
    replace kg := kg.below hb3 kg.lt
    replace kx := kx.below hb3 kx.lt
    replace k6 := k6.below hb3 k6.lt
    replace ro := (ro.below hb3).more hb3.size
    replace rr := (rr.below hb3).more hb3.size
    replace rx := (rx.below hb3).more hb3.size
    replace bw := bw.trans (hb3.mono bw.size)
    clear hb3
    have kxl := kx.lt
    have kxc0 := kx.cell 0
    have kxe0 := World.new_ne w3 ⟨w.heap.size, 0, none⟩ kxc0
    have kxc1 := kx.cell 1
    have kxe1 := World.new_ne w3 ⟨w.heap.size, 1, none⟩ kxc1
    have kgl := kg.lt
    have kgc0 := kg.cell 0
    have kge0 := World.new_ne w3 ⟨g, 0, none⟩ kgc0
    have kgc1 := kg.cell 1
    have kge1 := World.new_ne w3 ⟨g, 1, none⟩ kgc1
    go_wp2_with fail
    clear kxl kxc0 kxe0 kxc1 kxe1 kgl kgc0 kge0 kgc1 kge1
    obtain ⟨V3, hV3⟩ : ∃ W, W = (w3.alloc (.cells #[.slice A3 n1 c3, .int .i64 P1] 39)) := ⟨_, rfl⟩
    rw [← hV3]
    have bV3 : Below w3.heap.size w3 V3 := by rw [hV3]; exact ((Below.refl w3.heap.size w3).alloc (Nat.le_refl _) (.cells #[.slice A3 n1 c3, .int .i64 P1] 39))
    have k9 : Blk V3 (w3.heap.size) 39 #[.slice A3 n1 c3, .int .i64 P1] := by rw [hV3]; have h := Blk.new (w3) 39 #[.slice A3 n1 c3, .int .i64 P1]; (try simp only [World.size_alloc] at h); exact h
    have hV3' := Lib.hid hV3
    clear hV3
    replace kg := kg.below bV3 kg.lt
    replace kx := kx.below bV3 kx.lt
    replace k6 := k6.below bV3 k6.lt
    replace ro := (ro.below bV3).more bV3.size
    replace rr := (rr.below bV3).more bV3.size
    replace rx := (rx.below bV3).more bV3.size
    replace ry := (ry.below bV3).more bV3.size
    replace bw := bw.trans (bV3.mono bw.size)
    clear bV3
    refine (hdy _ ro).mono ?_
    rintro en w4 ⟨A4, c4, Al, cl, rfl, rp, oa, hb4⟩
    clear hdy
    have ltg := kg.lt
    have ltx := kx.lt
    obtain ⟨B4, hB4⟩ : ∃ B, B = V3.heap.size := ⟨_, rfl⟩
    rw [← hB4] at oa ltg ltx
    have rrB := rr
    have roB := ro
    have b4 : Below B4 V3 w4 := by rw [hB4]; exact hb4
    rw [← hB4] at rrB roB
    replace rrB := rrB.below b4
    replace roB := roB.below b4
    have hB4' : B4 ≤ w4.heap.size := by have := b4.size; omega
    have hB4w : w.heap.size ≤ B4 := by rw [hB4]; exact bw.size
    clear hB4 b4
    replace kg := kg.below hb4 kg.lt
    replace kx := kx.below hb4 kx.lt
    replace k6 := k6.below hb4 k6.lt
    replace k9 := k9.below hb4 k9.lt
    replace ro := (ro.below hb4).more hb4.size
    replace rr := (rr.below hb4).more hb4.size
    replace rx := (rx.below hb4).more hb4.size
    replace ry := (ry.below hb4).more hb4.size
    replace bw := bw.trans (hb4.mono bw.size)
    clear hb4
    have bq : Below B4 w4 w4 := Below.refl _ _
    have kxl := kx.lt
    have kxc0 := kx.cell 0
    have kxe0 := World.new_ne w4 ⟨w.heap.size, 0, none⟩ kxc0
    have kxc1 := kx.cell 1
    have kxe1 := World.new_ne w4 ⟨w.heap.size, 1, none⟩ kxc1
    have kgl := kg.lt
    have kgc0 := kg.cell 0
    have kge0 := World.new_ne w4 ⟨g, 0, none⟩ kgc0
    have kgc1 := kg.cell 1
    have kge1 := World.new_ne w4 ⟨g, 1, none⟩ kgc1
    go_wp2_with fail
    clear kxl kxc0 kxe0 kxc1 kxe1 kgl kgc0 kge0 kgc1 kge1
    obtain ⟨V4, hV4⟩ : ∃ W, W = ((w4.alloc (.cells #[.slice A4 n2 c4, .int .i64 P2] 39)).alloc (.cells #[.bool N2, .slice Al m2 cl, .int .i64 X2] 26)) := ⟨_, rfl⟩
    rw [← hV4]
    have bV4 : Below w4.heap.size w4 V4 := by rw [hV4]; exact (((Below.refl w4.heap.size w4).alloc (Nat.le_refl _) (.cells #[.slice A4 n2 c4, .int .i64 P2] 39)).alloc (by simp only [World.size_alloc]; omega) (.cells #[.bool N2, .slice Al m2 cl, .int .i64 X2] 26))
    have k12 : Blk V4 (w4.heap.size) 39 #[.slice A4 n2 c4, .int .i64 P2] := by rw [hV4]; have h := (Blk.new (w4) 39 #[.slice A4 n2 c4, .int .i64 P2]).alloc (.cells #[.bool N2, .slice Al m2 cl, .int .i64 X2] 26); (try simp only [World.size_alloc] at h); exact h
    have k13 : Blk V4 (w4.heap.size + 1) 26 #[.bool N2, .slice Al m2 cl, .int .i64 X2] := by rw [hV4]; have h := Blk.new ((w4.alloc (.cells #[.slice A4 n2 c4, .int .i64 P2] 39))) 26 #[.bool N2, .slice Al m2 cl, .int .i64 X2]; (try simp only [World.size_alloc] at h); exact h
    have hV4' := Lib.hid hV4
    clear hV4
    replace kg := kg.below bV4 kg.lt
    replace kx := kx.below bV4 kx.lt
    replace k6 := k6.below bV4 k6.lt
    replace k9 := k9.below bV4 k9.lt
    replace ro := (ro.below bV4).more bV4.size
    replace rr := (rr.below bV4).more bV4.size
    replace rx := (rx.below bV4).more bV4.size
    replace ry := (ry.below bV4).more bV4.size
    replace rp := (rp.below bV4).more bV4.size
    replace oa := own_below oa bV4
    replace bw := bw.trans (bV4.mono bw.size)
    replace bq := bq.trans (bV4.mono (Nat.le_trans hB4' bq.size))
    clear bV4
    refine (hrdy _ rr).mono ?_
    rintro en w5 ⟨A5, c5, Ad, cd, rfl, rq, rd, hb5⟩
    clear hrdy
    replace kg := kg.below hb5 kg.lt
    replace kx := kx.below hb5 kx.lt
    replace k6 := k6.below hb5 k6.lt
    replace k9 := k9.below hb5 k9.lt
    replace k12 := k12.below hb5 k12.lt
    replace k13 := k13.below hb5 k13.lt
    replace ro := (ro.below hb5).more hb5.size
    replace rr := (rr.below hb5).more hb5.size
    replace rx := (rx.below hb5).more hb5.size
    replace ry := (ry.below hb5).more hb5.size
    replace rp := (rp.below hb5).more hb5.size
    replace oa := own_below oa hb5
    replace bw := bw.trans (hb5.mono bw.size)
    replace bq := bq.trans (hb5.mono (Nat.le_trans hB4' bq.size))
    clear hb5
    have kxl := kx.lt
    have kxc0 := kx.cell 0
    have kxe0 := World.new_ne w5 ⟨w.heap.size, 0, none⟩ kxc0
    have kxc1 := kx.cell 1
    have kxe1 := World.new_ne w5 ⟨w.heap.size, 1, none⟩ kxc1
    have kgl := kg.lt
    have kgc0 := kg.cell 0
    have kge0 := World.new_ne w5 ⟨g, 0, none⟩ kgc0
    have kgc1 := kg.cell 1
    have kge1 := World.new_ne w5 ⟨g, 1, none⟩ kgc1
    go_wp2_with fail
    clear kxl kxc0 kxe0 kxc1 kxe1 kgl kgc0 kge0 kgc1 kge1
    obtain ⟨V5, hV5⟩ : ∃ W, W = ((w5.alloc (.cells #[.slice A5 n2 c5, .int .i64 P2] 39)).alloc (.cells #[.bool N2, .slice Ad m2 cd, .int .i64 X2] 26)) := ⟨_, rfl⟩
    rw [← hV5]
    have bV5 : Below w5.heap.size w5 V5 := by rw [hV5]; exact (((Below.refl w5.heap.size w5).alloc (Nat.le_refl _) (.cells #[.slice A5 n2 c5, .int .i64 P2] 39)).alloc (by simp only [World.size_alloc]; omega) (.cells #[.bool N2, .slice Ad m2 cd, .int .i64 X2] 26))
    have k15 : Blk V5 (w5.heap.size) 39 #[.slice A5 n2 c5, .int .i64 P2] := by rw [hV5]; have h := (Blk.new (w5) 39 #[.slice A5 n2 c5, .int .i64 P2]).alloc (.cells #[.bool N2, .slice Ad m2 cd, .int .i64 X2] 26); (try simp only [World.size_alloc] at h); exact h
    have k16 : Blk V5 (w5.heap.size + 1) 26 #[.bool N2, .slice Ad m2 cd, .int .i64 X2] := by rw [hV5]; have h := Blk.new ((w5.alloc (.cells #[.slice A5 n2 c5, .int .i64 P2] 39))) 26 #[.bool N2, .slice Ad m2 cd, .int .i64 X2]; (try simp only [World.size_alloc] at h); exact h
    have hV5' := Lib.hid hV5
    clear hV5
    replace kg := kg.below bV5 kg.lt
    replace kx := kx.below bV5 kx.lt
    replace k6 := k6.below bV5 k6.lt
    replace k9 := k9.below bV5 k9.lt
    replace k12 := k12.below bV5 k12.lt
    replace k13 := k13.below bV5 k13.lt
    replace ro := (ro.below bV5).more bV5.size
    replace rr := (rr.below bV5).more bV5.size
    replace rx := (rx.below bV5).more bV5.size
    replace ry := (ry.below bV5).more bV5.size
    replace rp := (rp.below bV5).more bV5.size
    replace rq := (rq.below bV5).more bV5.size
    replace rd := (rd.below bV5).more bV5.size
    replace oa := own_below oa bV5
    replace bw := bw.trans (bV5.mono bw.size)
    replace bq := bq.trans (bV5.mono (Nat.le_trans hB4' bq.size))
    clear bV5
    obtain ⟨WB, hWB⟩ : ∃ W, W = V5 := ⟨_, rfl⟩
    rw [← hWB]
    rw [← hWB] at kg kx k6 k9 k12 k13 k15 k16 ro rr rx ry rp rq rd oa bw bq
    clear hWB
    have SS : ∀ w', Below WB.heap.size WB w' → w'.cell? ⟨w2.heap.size, 0, none⟩ = some (.slice A2 n1 c2) ∧ w'.cell? ⟨w2.heap.size, 1, none⟩ = some (.int .i64 P1) ∧ w'.cell? ⟨w3.heap.size, 0, none⟩ = some (.slice A3 n1 c3) ∧ w'.cell? ⟨w3.heap.size, 1, none⟩ = some (.int .i64 P1) ∧ w'.cell? ⟨w4.heap.size, 0, none⟩ = some (.slice A4 n2 c4) ∧ w'.cell? ⟨w4.heap.size, 1, none⟩ = some (.int .i64 P2) ∧ w'.cell? ⟨w4.heap.size + 1, 0, none⟩ = some (.bool N2) ∧ w'.cell? ⟨w4.heap.size + 1, 1, none⟩ = some (.slice Al m2 cl) ∧ w'.cell? ⟨w4.heap.size + 1, 2, none⟩ = some (.int .i64 X2) ∧ w'.cell? ⟨w5.heap.size, 0, none⟩ = some (.slice A5 n2 c5) ∧ w'.cell? ⟨w5.heap.size, 1, none⟩ = some (.int .i64 P2) ∧ w'.cell? ⟨w5.heap.size + 1, 0, none⟩ = some (.bool N2) ∧ w'.cell? ⟨w5.heap.size + 1, 1, none⟩ = some (.slice Ad m2 cd) ∧ w'.cell? ⟨w5.heap.size + 1, 2, none⟩ = some (.int .i64 X2) ∧ w'.cell? ⟨g, 0, none⟩ = some (.slice Ao n co) ∧ w'.cell? ⟨g, 1, none⟩ = some (.int .i64 p) ∧ w'.cell? ⟨w.heap.size, 0, none⟩ = some (.slice A n c) ∧ w'.cell? ⟨w.heap.size, 1, none⟩ = some (.int .i64 p) := fun w' h => ⟨(k6.below h k6.lt).cell 0, (k6.below h k6.lt).cell 1, (k9.below h k9.lt).cell 0, (k9.below h k9.lt).cell 1, (k12.below h k12.lt).cell 0, (k12.below h k12.lt).cell 1, (k13.below h k13.lt).cell 0, (k13.below h k13.lt).cell 1, (k13.below h k13.lt).cell 2, (k15.below h k15.lt).cell 0, (k15.below h k15.lt).cell 1, (k16.below h k16.lt).cell 0, (k16.below h k16.lt).cell 1, (k16.below h k16.lt).cell 2, (kg.below h kg.lt).cell 0, (kg.below h kg.lt).cell 1, (kx.below h kx.lt).cell 0, (kx.below h kx.lt).cell 1⟩
    have s1 : ∀ w', Below WB.heap.size WB w' → Calls Try.prog 19 #[rst A2 n1 c2 P1, rst A3 n1 c3 P1] w' (fun en w'' => en = .returned (.bool true) ∧ Below w'.heap.size w' w'') := fun w' h => rsame_yes A2 A3 n1 c2 c3 P1 L1 q1.out hLb1 w' ((rx.below h).more h.size) ((ry.below h).more h.size)
    have s2 : ∀ w', Below WB.heap.size WB w' → Calls Try.prog 19 #[rst A4 n2 c4 P2, rst A5 n2 c5 P2] w' (fun en w'' => en = .returned (.bool true) ∧ Below w'.heap.size w' w'') := fun w' h => rsame_yes A4 A5 n2 c4 c5 P2 L2 q2.out hLb2 w' ((rp.below h).more h.size) ((rq.below h).more h.size)
    have s3 : ∀ w', Below WB.heap.size WB w' → Calls Try.prog 14 #[dy N2 Al m2 cl X2, dy N2 Ad m2 cd X2] w' (fun en w'' => en = .returned (.bool true) ∧ Below w'.heap.size w' w'') := fun w' h => dsame_yes N2 X2 Al Ad m2 cl cd M2 q3.out (by omega) w' (((Reads.of_own oa).below h).more h.size) ((rd.below h).more h.size)
    have s4 : ∀ w', Below WB.heap.size WB w' → Calls Try.prog 20 #[rst Ao n co p] w' (fun en w'' => en = .returned (.bool (p == (n : Int))) ∧ Below w'.heap.size w' w'') := fun w' _ => done_any Ao n co p w'
    have s5 : ∀ w', Below WB.heap.size WB w' → Calls Try.prog 21 #[rst A n c p] w' (fun en w'' => en = .returned (.bool (p == (n : Int))) ∧ Below w'.heap.size w' w'') := fun w' _ => rdone_any A n c p w'
    obtain ⟨pd, hpd⟩ : ∃ pd, (p == (n : Int)) = pd := ⟨_, rfl⟩
    simp only [hpd] at s4 s5
    clear hpd
    have y1 : (X1 == X1) = true := by simp
    have y2 : (E1 == E1) = true := by simp
    have y3 : (E2 == E2) = true := by simp
    have y4 : (pd == pd) = true := by simp
    go_cut [18] (fun s18 wx => s18 = .bool true ∧ Below WB.heap.size WB wx)
    case first =>
      have hBc : Below WB.heap.size WB WB.drew := Below.drew (Below.refl _ _)
      clear kg kx k6 k9 k12 k13 k15 k16 ro rr rx ry rp rq rd oa bw bq rrB roB
      go_region_held3 (fun w' => w'.cell? ⟨w2.heap.size, 0, none⟩ = some (.slice A2 n1 c2) ∧ w'.cell? ⟨w2.heap.size, 1, none⟩ = some (.int .i64 P1) ∧ w'.cell? ⟨w3.heap.size, 0, none⟩ = some (.slice A3 n1 c3) ∧ w'.cell? ⟨w3.heap.size, 1, none⟩ = some (.int .i64 P1) ∧ w'.cell? ⟨w4.heap.size, 0, none⟩ = some (.slice A4 n2 c4) ∧ w'.cell? ⟨w4.heap.size, 1, none⟩ = some (.int .i64 P2) ∧ w'.cell? ⟨w4.heap.size + 1, 0, none⟩ = some (.bool N2) ∧ w'.cell? ⟨w4.heap.size + 1, 1, none⟩ = some (.slice Al m2 cl) ∧ w'.cell? ⟨w4.heap.size + 1, 2, none⟩ = some (.int .i64 X2) ∧ w'.cell? ⟨w5.heap.size, 0, none⟩ = some (.slice A5 n2 c5) ∧ w'.cell? ⟨w5.heap.size, 1, none⟩ = some (.int .i64 P2) ∧ w'.cell? ⟨w5.heap.size + 1, 0, none⟩ = some (.bool N2) ∧ w'.cell? ⟨w5.heap.size + 1, 1, none⟩ = some (.slice Ad m2 cd) ∧ w'.cell? ⟨w5.heap.size + 1, 2, none⟩ = some (.int .i64 X2) ∧ w'.cell? ⟨g, 0, none⟩ = some (.slice Ao n co) ∧ w'.cell? ⟨g, 1, none⟩ = some (.int .i64 p) ∧ w'.cell? ⟨w.heap.size, 0, none⟩ = some (.slice A n c) ∧ w'.cell? ⟨w.heap.size, 1, none⟩ = some (.int .i64 p)) (exact SS _ hBc) (first | (go_at_call 19; (with_reducible refine (s1 _ hBc).mono ?_); rintro en w6 ⟨rfl, hb6⟩; replace hBc := hBc.trans (hb6.mono hBc.size)) | (go_at_call 19; (with_reducible refine (s2 _ hBc).mono ?_); rintro en w6 ⟨rfl, hb6⟩; replace hBc := hBc.trans (hb6.mono hBc.size)) | (go_at_call 14; (with_reducible refine (s3 _ hBc).mono ?_); rintro en w6 ⟨rfl, hb6⟩; replace hBc := hBc.trans (hb6.mono hBc.size)) | (go_at_call 20; (with_reducible refine (s4 _ hBc).mono ?_); rintro en w6 ⟨rfl, hb6⟩; replace hBc := hBc.trans (hb6.mono hBc.size)) | (go_at_call 21; (with_reducible refine (s5 _ hBc).mono ?_); rintro en w6 ⟨rfl, hb6⟩; replace hBc := hBc.trans (hb6.mono hBc.size)))
      all_goals go_wp2_with fail
      all_goals go_meet
      all_goals exact ⟨rfl, hBc⟩
    case rest =>
      obtain ⟨rfl, hBc⟩ := hcut
      clear s1 s2 s3 s4 s5 SS
      replace kg := kg.below hBc kg.lt
      replace kx := kx.below hBc kx.lt
      replace k6 := k6.below hBc k6.lt
      replace k9 := k9.below hBc k9.lt
      replace k12 := k12.below hBc k12.lt
      replace k13 := k13.below hBc k13.lt
      replace k15 := k15.below hBc k15.lt
      replace k16 := k16.below hBc k16.lt
      replace oa := own_below oa hBc
      have rrC := rr.below hBc
      have roC := ro.below hBc
      replace bw := bw.trans (hBc.mono bw.size)
      replace bq := bq.trans (hBc.mono (Nat.le_trans hB4' bq.size))
      obtain ⟨U, hU⟩ : ∃ U, U = B4 := ⟨_, rfl⟩
      have hM0 : M2.length = m2 := q3.out
      have hBz : B4 ≤ wc.heap.size := Nat.le_trans hB4' bq.size
      clear hU U hBc
      have k13l := k13.lt
      have k13c1 := k13.cell 1
      go_wp2
      go_loopw [19] (fun i wr => ∃ (k : Nat) (Z : List Int), k ≤ m2 ∧ i = .int .i64 k ∧ Z.length = m2 ∧ wr.ownsRow B4 50 1 (.slice Al m2 cl) m2 (u32s Z) ∧ Blk wr (w4.heap.size + 1) 26 #[.bool N2, .slice Al m2 cl, .int .i64 X2] ∧ Below B4 wc wr) (fun i _ => m2 - (intOf i).toNat)
      case atStart => exact ⟨0, M2, by omega, rfl, hM0, oa, k13, Below.refl _ _⟩
      case round =>
        obtain ⟨k, Z, hk, rfl, hZl, hrow, k13r, hBr⟩ := hrel
        clear oa k13 k13l k13c1
        have k13l := k13r.lt
        have k13c1 := k13r.cell 1
        by_cases hlt : k < m2
        · obtain ⟨gr, cap', hAe, hgb, hgl⟩ := hrow.form (by omega)
          injection hAe with hA1 _ hA2
          subst hA1
          have ck : wr.cell? ⟨gr, k, none⟩ = some (.int .u32 (Z.getD k 0)) := (hrow.cellAt k (by omega)).trans (by rw [List.getElem?_map, List.getElem?_eq_getElem (show k < Z.length by omega), List.getD_eq_getElem?_getD, List.getElem?_eq_getElem (show k < Z.length by omega)]; rfl)
          have fk := hrow.frozenAt k
          have j1 : (0 : Int) ≤ k := by omega
          have j2 : (k : Int) < m2 := by omega
          have hst := (hrow.stored k (.int .u32 7)).1
          have hZs : (u32s Z).set k (.int .u32 7) = u32s (Z.set k 7) := by simp [u32s, List.map_set]
          rw [hZs] at hst
          have k13s := k13r.far (p := ⟨gr, k, none⟩) (by rcases hrow.2 with ⟨h, _⟩ | ⟨g2, c2, cur, h, _, h3, _⟩; (cases h); (injection h with h _ _; injection h with h; injection h with h _ _; subst h; exact Ne.symm (Blk.ne_ (show Blk wr gr 50 cur from h3) k13r (by decide)))) (.int .u32 7)
          have hBs := hBr.setCell (p := ⟨gr, k, none⟩) hgb (.int .u32 7)
          have hZ7 : (Z.set k 7).length = m2 := by rw [List.length_set]; exact hZl
          clear hZs hrow k13r hBr hZl
          go_wp2
          go_roundw
          case rel => exact ⟨k + 1, Z.set k 7, by omega, by go_num, hZ7, hst, k13s, hBs⟩
          case measure => simp [intOf] <;> omega
        · obtain rfl : k = m2 := by omega
          have kgr := kg.below hBr ltg
          have kxr := kx.below hBr ltx
          have hfin := bw.trans (hBr.mono hB4w)
          have hq := bq.trans hBr
          have hz := hBr.size
          have s6 := fun w' (h : Below wr.heap.size wr w') => rsame_yes Ao A n co c p l gn.out qb.out w' (((roB.below hq).more (by omega)).below h |>.more h.size) (((rrB.below hq).more (by omega)).below h |>.more h.size)
          have g0 := kgr.cell 0
          have g1 := kgr.cell 1
          have x0 := kxr.cell 0
          have x1 := kxr.cell 1
          clear hq hrow hBr roB rrB bq bw kgr kxr kg kx k6 k9 k12 k15 k16 rrC roC rx ry rp rq rd ro rr k13r
          go_wp2_with (go_at_call 19; refine (s6 _ (Below.refl _ _)).mono ?_; rintro en w9 ⟨rfl, hb9⟩)
          go_ret
          exact ⟨rfl, hfin.trans (hb9.mono hfin.size)⟩
end Go.Proofs.Ytekeenldlkkljaa.FieldTakes
