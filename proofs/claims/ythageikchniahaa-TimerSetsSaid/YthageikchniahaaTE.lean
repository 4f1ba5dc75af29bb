/- Timer: the heap's way down -/
import Derived.Test.YthageikchniahaaTD
import Derived.Handy
namespace Go.Proofs.Ythageikchniahaa
open Go.ChangeShapes Go.WideShapes Go.ChangeAt Go.RowKit
set_option linter.unusedSimpArgs false
set_option linter.unusedVariables false

theorem less_int (R g : Nat) (l : List Tm) (i j : Nat) (I J : Int) (hI : I = (i : Int)) (hJ : J = (j : Int)) (hi : i < l.length) (hj : j < l.length) (w : World) (h : Pl w R g l) (Q : Bool) (hQ : ahd (tz l i) (tz l j) = Q) : Calls Try.prog 64 #[.pointer (some ⟨R, 0, none⟩), .int .i64 I, .int .i64 J] w fun en w' => en = .returned (.bool Q) ∧ Below w.heap.size w w' := by
  subst hI
  subst hJ
  exact less_any R g l i j hi hj w h Q hQ
theorem swap_int (R g : Nat) (l : List Tm) (i j : Nat) (I J : Int) (hI : I = (i : Int)) (hJ : J = (j : Int)) (hi : i < l.length) (hj : j < l.length) (w : World) (h : Pl w R g l) : Calls Try.prog 65 #[.pointer (some ⟨R, 0, none⟩), .int .i64 I, .int .i64 J] w fun en w' => en = .returned (.tuple #[]) ∧ Pl w' R g (swp l i j) ∧ Frm R g w w' := by
  subst hI
  subst hJ
  exact swap_any R g l i j hi hj w h
set_option maxHeartbeats 8000000 in
theorem down_any (R g i0 n : Nat) (l : List Tm) (hl : l.length ≤ 5000) (hn : n ≤ l.length) (hi0 : i0 ≤ n) (w : World) (h : Pl w R g l) (hh : HpFrom l (i0 + 1) n) : Calls Try.prog 46 #[.iface 55 (.agg #[.pointer (some ⟨R, 0, none⟩)]), .int .i64 (i0 : Int), .int .i64 (n : Int)] w fun en w' => (∃ b, en = .returned (.bool b)) ∧ ∃ l', Pl w' R g l' ∧ Kept l l' n ∧ HpFrom l' i0 n ∧ Frm R g w w' := by
  have g0 : Hid (Pl w R g l) := Lib.hid h
  have g1 : Hid (Hole l i0 i0 n) := Lib.hid (hole_start hh)
  obtain ⟨m, hm⟩ : ∃ m, l.length = m := ⟨_, rfl⟩
  have gm := Lib.hid hm
  rw [hm] at hl hn
  clear h hh hm
  go_enter Try.func46, Try.ntmps46
  go_wp2
  go_loopw [7] (fun t wr => ∃ (i : Nat) (l' : List Tm), i ≤ n ∧ t = .int .i64 (i : Int) ∧ Hid (Pl wr R g l' ∧ Kept l l' n ∧ Hole l' i0 i n ∧ Frm R g w wr)) (fun t _ => n - (intOf t).toNat)
  case atStart => exact ⟨i0, l, hi0, rfl, Lib.hid ⟨g0.out, kept_refl _ _, g1.out, Frm.refl _ _ _⟩⟩
  case round =>
    clear g0 g1
    obtain ⟨i, l', hi, rfl, gI⟩ := hrel
    obtain ⟨hP, hK, hH, hF⟩ := gI.out
    have hl' : l'.length = m := by rw [hK.1.length_eq]; exact gm.out
    have hB0 := Below.refl wr.heap.size wr
    have gfin : Hid (∀ w', Below wr.heap.size wr w' → HpFrom l' i0 n → ∃ l', Pl w' R g l' ∧ Kept l l' n ∧ HpFrom l' i0 n ∧ Frm R g w w') := Lib.hid (fun w' hb hh => ⟨l', hP.below hb, hK, hh, hF.trans (Frm.of_below hb)⟩)
    by_cases hlf : n ≤ 2 * i + 1
    · have c1 : decide ((n : Int) ≤ 2 * (i : Int) + 1) = true := decide_eq_true (by omega)
      have gl := Lib.hid (hole_leaf hH hlf)
      clear hP hK hH hF gI hlf
      go_wp2
      go_ret
      exact ⟨⟨_, rfl⟩, gfin.out _ hB0 gl.out⟩
    have c1 : decide ((n : Int) ≤ 2 * (i : Int) + 1) = false := decide_eq_false (by omega)
    have c2 : decide (2 * (i : Int) + 1 < 0) = false := decide_eq_false (by omega)
    have hin : i < n := by omega
    have hst : Hid (∀ j w', Below wr.heap.size wr w' → Least l' i j n → ahd (tz l' j) (tz l' i) = true → ∃ w0', True) := Lib.hid (fun _ _ _ _ _ => ⟨w, trivial⟩)
    obtain ⟨Q1, hQ1⟩ : ∃ Q, ahd (tz l' (2 * i + 2)) (tz l' (2 * i + 1)) = Q := ⟨_, rfl⟩
    by_cases hri : 2 * i + 2 < n
    · have c3 : decide (2 * (i : Int) + 1 + 1 < (n : Int)) = true := decide_eq_true (by omega)
      have hL1 : ∀ w', Below wr.heap.size wr w' → Calls Try.prog 64 #[.pointer (some ⟨R, 0, none⟩), .int .i64 (2 * (i : Int) + 1 + 1), .int .i64 (2 * (i : Int) + 1)] w' fun en w'' => en = .returned (.bool Q1) ∧ Below w'.heap.size w' w'' := fun w' hb => less_int R g l' (2 * i + 2) (2 * i + 1) _ _ (by omega) (by omega) (by omega) (by omega) w' (hP.below hb) Q1 hQ1
      cases Q1 with
      | false =>
        have hles := least_left (l := l') (i := i) (n := n) (by omega) (fun _ => hQ1)
        obtain ⟨Q2, hQ2⟩ : ∃ Q, ahd (tz l' (2 * i + 1)) (tz l' i) = Q := ⟨_, rfl⟩
        have hL2 : ∀ w', Below wr.heap.size wr w' → Calls Try.prog 64 #[.pointer (some ⟨R, 0, none⟩), .int .i64 (2 * (i : Int) + 1), .int .i64 (i : Int)] w' fun en w'' => en = .returned (.bool Q2) ∧ Below w'.heap.size w' w'' := fun w' hb => less_int R g l' (2 * i + 1) i _ _ (by omega) rfl (by omega) (by omega) w' (hP.below hb) Q2 hQ2
        have hS2 : ∀ w', Below wr.heap.size wr w' → Calls Try.prog 65 #[.pointer (some ⟨R, 0, none⟩), .int .i64 (i : Int), .int .i64 (2 * (i : Int) + 1)] w' fun en w'' => en = .returned (.tuple #[]) ∧ Pl w'' R g (swp l' i (2 * i + 1)) ∧ Frm R g w' w'' := fun w' hb => swap_int R g l' i (2 * i + 1) _ _ rfl (by omega) (by omega) (by omega) w' (hP.below hb)
        cases Q2 with
        | false =>
          have gl := Lib.hid (hole_end hH hles hQ2)
          clear hP hK hH hF gI hS2 hQ2 hQ1 hles hst
          go_wp2_with (first | (go_at_call 64; (with_reducible refine (hL1 _ hB0).mono ?_); rintro en w1 ⟨rfl, hb1⟩; have hbc := hb1) | (go_at_call 64; (with_reducible refine (hL2 _ (by first | exact hbc | exact hB0)).mono ?_); rintro en w2 ⟨rfl, hb2⟩; have hbd := Below.trans (by first | exact hbc | exact hB0 : Below wr.heap.size wr _) (hb2.mono (by first | exact hbc.size | exact Nat.le_refl _))))
          go_ret
          exact ⟨⟨_, rfl⟩, gfin.out _ hbd gl.out⟩
        | true =>
          have gk : Hid (Kept l (swp l' i (2 * i + 1)) n ∧ Hole (swp l' i (2 * i + 1)) i0 (2 * i + 1) n) := Lib.hid ⟨kept_swp hK (by omega) (by omega) (by rw [gm.out]; exact hn), hole_step (by omega) hH hles hQ2⟩
          have hj : 2 * i + 1 ≤ n := by omega
          have gF := Lib.hid hF
          clear hP hK hH hF gI hQ2 hQ1 hles hst gfin
          go_wp2_with (first | (go_at_call 64; (with_reducible refine (hL1 _ hB0).mono ?_); rintro en w1 ⟨rfl, hb1⟩; have hbc := hb1) | (go_at_call 64; (with_reducible refine (hL2 _ (by first | exact hbc | exact hB0)).mono ?_); rintro en w2 ⟨rfl, hb2⟩; have hbd := Below.trans (by first | exact hbc | exact hB0 : Below wr.heap.size wr _) (hb2.mono (by first | exact hbc.size | exact Nat.le_refl _))) | (go_at_call 65; (with_reducible refine (hS2 _ hbd).mono ?_); rintro en w3 ⟨rfl, hP3, hF3⟩))
          go_roundw
          case rel => exact ⟨2 * i + 1, swp l' i (2 * i + 1), hj, by go_num, Lib.hid ⟨hP3, gk.out.1, gk.out.2, (gF.out.trans (Frm.of_below hbd)).trans hF3⟩⟩
          case measure => simp [intOf]; omega
      | true =>
        have hles := least_right (l := l') (i := i) (n := n) hri hQ1
        obtain ⟨Q2, hQ2⟩ : ∃ Q, ahd (tz l' (2 * i + 2)) (tz l' i) = Q := ⟨_, rfl⟩
        have hL2 : ∀ w', Below wr.heap.size wr w' → Calls Try.prog 64 #[.pointer (some ⟨R, 0, none⟩), .int .i64 (2 * (i : Int) + 1 + 1), .int .i64 (i : Int)] w' fun en w'' => en = .returned (.bool Q2) ∧ Below w'.heap.size w' w'' := fun w' hb => less_int R g l' (2 * i + 2) i _ _ (by omega) rfl (by omega) (by omega) w' (hP.below hb) Q2 hQ2
        have hS2 : ∀ w', Below wr.heap.size wr w' → Calls Try.prog 65 #[.pointer (some ⟨R, 0, none⟩), .int .i64 (i : Int), .int .i64 (2 * (i : Int) + 1 + 1)] w' fun en w'' => en = .returned (.tuple #[]) ∧ Pl w'' R g (swp l' i (2 * i + 2)) ∧ Frm R g w' w'' := fun w' hb => swap_int R g l' i (2 * i + 2) _ _ rfl (by omega) (by omega) (by omega) w' (hP.below hb)
        cases Q2 with
        | false =>
          have gl := Lib.hid (hole_end hH hles hQ2)
          clear hP hK hH hF gI hS2 hQ2 hQ1 hles hst
          go_wp2_with (first | (go_at_call 64; (with_reducible refine (hL1 _ hB0).mono ?_); rintro en w1 ⟨rfl, hb1⟩; have hbc := hb1) | (go_at_call 64; (with_reducible refine (hL2 _ (by first | exact hbc | exact hB0)).mono ?_); rintro en w2 ⟨rfl, hb2⟩; have hbd := Below.trans (by first | exact hbc | exact hB0 : Below wr.heap.size wr _) (hb2.mono (by first | exact hbc.size | exact Nat.le_refl _))))
          go_ret
          exact ⟨⟨_, rfl⟩, gfin.out _ hbd gl.out⟩
        | true =>
          have gk : Hid (Kept l (swp l' i (2 * i + 2)) n ∧ Hole (swp l' i (2 * i + 2)) i0 (2 * i + 2) n) := Lib.hid ⟨kept_swp hK (by omega) (by omega) (by rw [gm.out]; exact hn), hole_step (by omega) hH hles hQ2⟩
          have hj : 2 * i + 2 ≤ n := by omega
          have gF := Lib.hid hF
          clear hP hK hH hF gI hQ2 hQ1 hles hst gfin
          go_wp2_with (first | (go_at_call 64; (with_reducible refine (hL1 _ hB0).mono ?_); rintro en w1 ⟨rfl, hb1⟩; have hbc := hb1) | (go_at_call 64; (with_reducible refine (hL2 _ (by first | exact hbc | exact hB0)).mono ?_); rintro en w2 ⟨rfl, hb2⟩; have hbd := Below.trans (by first | exact hbc | exact hB0 : Below wr.heap.size wr _) (hb2.mono (by first | exact hbc.size | exact Nat.le_refl _))) | (go_at_call 65; (with_reducible refine (hS2 _ hbd).mono ?_); rintro en w3 ⟨rfl, hP3, hF3⟩))
          go_roundw
          case rel => exact ⟨2 * i + 2, swp l' i (2 * i + 2), hj, by go_num, Lib.hid ⟨hP3, gk.out.1, gk.out.2, (gF.out.trans (Frm.of_below hbd)).trans hF3⟩⟩
          case measure => simp [intOf]; omega
    · have c3 : decide (2 * (i : Int) + 1 + 1 < (n : Int)) = false := decide_eq_false (by omega)
      have hles := least_left (l := l') (i := i) (n := n) (by omega) (fun h => absurd h hri)
      obtain ⟨Q2, hQ2⟩ : ∃ Q, ahd (tz l' (2 * i + 1)) (tz l' i) = Q := ⟨_, rfl⟩
      have hL2 : ∀ w', Below wr.heap.size wr w' → Calls Try.prog 64 #[.pointer (some ⟨R, 0, none⟩), .int .i64 (2 * (i : Int) + 1), .int .i64 (i : Int)] w' fun en w'' => en = .returned (.bool Q2) ∧ Below w'.heap.size w' w'' := fun w' hb => less_int R g l' (2 * i + 1) i _ _ (by omega) rfl (by omega) (by omega) w' (hP.below hb) Q2 hQ2
      have hS2 : ∀ w', Below wr.heap.size wr w' → Calls Try.prog 65 #[.pointer (some ⟨R, 0, none⟩), .int .i64 (i : Int), .int .i64 (2 * (i : Int) + 1)] w' fun en w'' => en = .returned (.tuple #[]) ∧ Pl w'' R g (swp l' i (2 * i + 1)) ∧ Frm R g w' w'' := fun w' hb => swap_int R g l' i (2 * i + 1) _ _ rfl (by omega) (by omega) (by omega) w' (hP.below hb)
      cases Q2 with
      | false =>
        have gl := Lib.hid (hole_end hH hles hQ2)
        clear hP hK hH hF gI hS2 hQ2 hQ1 hles hst
        go_wp2_with (first | (go_at_call 64; (with_reducible refine (hL2 _ (by first | exact hbc | exact hB0)).mono ?_); rintro en w2 ⟨rfl, hb2⟩; have hbd := Below.trans (by first | exact hbc | exact hB0 : Below wr.heap.size wr _) (hb2.mono (by first | exact hbc.size | exact Nat.le_refl _))))
        go_ret
        exact ⟨⟨_, rfl⟩, gfin.out _ hbd gl.out⟩
      | true =>
        have gk : Hid (Kept l (swp l' i (2 * i + 1)) n ∧ Hole (swp l' i (2 * i + 1)) i0 (2 * i + 1) n) := Lib.hid ⟨kept_swp hK (by omega) (by omega) (by rw [gm.out]; exact hn), hole_step (by omega) hH hles hQ2⟩
        have hj : 2 * i + 1 ≤ n := by omega
        have gF := Lib.hid hF
        clear hP hK hH hF gI hQ2 hQ1 hles hst gfin
        go_wp2_with (first | (go_at_call 64; (with_reducible refine (hL2 _ (by first | exact hbc | exact hB0)).mono ?_); rintro en w2 ⟨rfl, hb2⟩; have hbd := Below.trans (by first | exact hbc | exact hB0 : Below wr.heap.size wr _) (hb2.mono (by first | exact hbc.size | exact Nat.le_refl _))) | (go_at_call 65; (with_reducible refine (hS2 _ hbd).mono ?_); rintro en w3 ⟨rfl, hP3, hF3⟩))
        go_roundw
        case rel => exact ⟨2 * i + 1, swp l' i (2 * i + 1), hj, by go_num, Lib.hid ⟨hP3, gk.out.1, gk.out.2, (gF.out.trans (Frm.of_below hbd)).trans hF3⟩⟩
        case measure => simp [intOf]; omega
end Go.Proofs.Ythageikchniahaa
