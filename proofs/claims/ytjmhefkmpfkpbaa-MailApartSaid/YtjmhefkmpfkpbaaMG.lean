/- Mass: the reference's masses: great ones, the same ones, copies -/
import Derived.Test.YtjmhefkmpfkpbaaMF
namespace Go.Proofs.Ytjmhefkmpfkpbaa
open Go.ChangeShapes Go.WideShapes Go.ChangeAt Go.RowKit
set_option linter.unusedSimpArgs false
set_option linter.unusedVariables false
def grM (n0 : Nat) (e0 : Int) (n1 : Nat) (e1 : Int) (n2 : Nat) (e2 : Int) (n3 : Nat) (e3 : Int) : Bool := grD n0 e0 || grD n1 e1 || grD n2 e2 || grD n3 e3
set_option maxHeartbeats 4000000 in
theorem mgreat_any (ag0 : Bool) (aX0 : Option Addr) (an0 ac0 : Nat) (ae0 : Int) (ag1 : Bool) (aX1 : Option Addr) (an1 ac1 : Nat) (ae1 : Int) (ag2 : Bool) (aX2 : Option Addr) (an2 ac2 : Nat) (ae2 : Int) (ag3 : Bool) (aX3 : Option Addr) (an3 ac3 : Nat) (ae3 : Int) (R : Bool) (hR : grM an0 ae0 an1 ae1 an2 ae2 an3 ae3 = R) (w : World) :
    Calls Try.prog 25 #[.agg #[.bool ag0, .slice aX0 an0 ac0, .int .i64 ae0, .bool ag1, .slice aX1 an1 ac1, .int .i64 ae1, .bool ag2, .slice aX2 an2 ac2, .int .i64 ae2, .bool ag3, .slice aX3 an3 ac3, .int .i64 ae3]] w fun en w' => en = .returned (.bool R) ∧ Below w.heap.size w w' := by
  have hB := (Below.refl w.heap.size w).alloc (Nat.le_refl _) (.cells #[.bool ag0, .slice aX0 an0 ac0, .int .i64 ae0, .bool ag1, .slice aX1 an1 ac1, .int .i64 ae1, .bool ag2, .slice aX2 an2 ac2, .int .i64 ae2, .bool ag3, .slice aX3 an3 ac3, .int .i64 ae3] 26)
  have kb := Blk.new w 26 #[.bool ag0, .slice aX0 an0 ac0, .int .i64 ae0, .bool ag1, .slice aX1 an1 ac1, .int .i64 ae1, .bool ag2, .slice aX2 an2 ac2, .int .i64 ae2, .bool ag3, .slice aX3 an3 ac3, .int .i64 ae3]
  unfold grM at hR
  obtain ⟨Q0, hQ0⟩ : ∃ Q, grD an0 ae0 = Q := ⟨_, rfl⟩
  have hc0 := fun w => dgreat_any ag0 aX0 an0 ac0 ae0 Q0 hQ0 w
  obtain ⟨Q1, hQ1⟩ : ∃ Q, grD an1 ae1 = Q := ⟨_, rfl⟩
  have hc1 := fun w => dgreat_any ag1 aX1 an1 ac1 ae1 Q1 hQ1 w
  obtain ⟨Q2, hQ2⟩ : ∃ Q, grD an2 ae2 = Q := ⟨_, rfl⟩
  have hc2 := fun w => dgreat_any ag2 aX2 an2 ac2 ae2 Q2 hQ2 w
  obtain ⟨Q3, hQ3⟩ : ∃ Q, grD an3 ae3 = Q := ⟨_, rfl⟩
  have hc3 := fun w => dgreat_any ag3 aX3 an3 ac3 ae3 Q3 hQ3 w
  rw [hQ0, hQ1, hQ2, hQ3] at hR
  clear hQ0 hQ1 hQ2 hQ3
  cases Q0 with
  | true =>
    simp only [Bool.or_true, Bool.true_or, Bool.or_false, Bool.false_or, Bool.and_true, Bool.true_and, Bool.and_false, Bool.false_and] at hR
    subst hR
    go_enter Try.func25, Try.ntmps25
    go_wp2_with fail
    refine (hc0 _).mono ?_
    rintro en w1 ⟨rfl, hb1⟩
    have hB1 := hB.trans (hb1.mono hB.size)
    go_wp2
    go_ret
    exact ⟨rfl, hB1⟩
  | false =>
    cases Q1 with
    | true =>
      simp only [Bool.or_true, Bool.true_or, Bool.or_false, Bool.false_or, Bool.and_true, Bool.true_and, Bool.and_false, Bool.false_and] at hR
      subst hR
      go_enter Try.func25, Try.ntmps25
      go_wp2_with fail
      refine (hc0 _).mono ?_
      rintro en w1 ⟨rfl, hb1⟩
      have hB1 := hB.trans (hb1.mono hB.size)
      have kb1 := kb.below (hb1) kb.lt
      have x0_0 := kb1.cell 0
      have x0_1 := kb1.cell 1
      have x0_2 := kb1.cell 2
      have x0_3 := kb1.cell 3
      have x0_4 := kb1.cell 4
      have x0_5 := kb1.cell 5
      have x0_6 := kb1.cell 6
      have x0_7 := kb1.cell 7
      have x0_8 := kb1.cell 8
      have x0_9 := kb1.cell 9
      have x0_10 := kb1.cell 10
      have x0_11 := kb1.cell 11
      simp only [List.getElem?_toArray, List.getElem?_cons_zero, List.getElem?_cons_succ] at x0_0 x0_1 x0_2 x0_3 x0_4 x0_5 x0_6 x0_7 x0_8 x0_9 x0_10 x0_11
      go_wp2_with fail
      refine (hc1 _).mono ?_
      rintro en w2 ⟨rfl, hb2⟩
      have hB2 := hB1.trans (hb2.mono hB1.size)
      go_wp2
      go_ret
      exact ⟨rfl, hB2⟩
    | false =>
      cases Q2 with
      | true =>
        simp only [Bool.or_true, Bool.true_or, Bool.or_false, Bool.false_or, Bool.and_true, Bool.true_and, Bool.and_false, Bool.false_and] at hR
        subst hR
        go_enter Try.func25, Try.ntmps25
        go_wp2_with fail
        refine (hc0 _).mono ?_
        rintro en w1 ⟨rfl, hb1⟩
        have hB1 := hB.trans (hb1.mono hB.size)
        have kb1 := kb.below (hb1) kb.lt
        have x0_0 := kb1.cell 0
        have x0_1 := kb1.cell 1
        have x0_2 := kb1.cell 2
        have x0_3 := kb1.cell 3
        have x0_4 := kb1.cell 4
        have x0_5 := kb1.cell 5
        have x0_6 := kb1.cell 6
        have x0_7 := kb1.cell 7
        have x0_8 := kb1.cell 8
        have x0_9 := kb1.cell 9
        have x0_10 := kb1.cell 10
        have x0_11 := kb1.cell 11
        simp only [List.getElem?_toArray, List.getElem?_cons_zero, List.getElem?_cons_succ] at x0_0 x0_1 x0_2 x0_3 x0_4 x0_5 x0_6 x0_7 x0_8 x0_9 x0_10 x0_11
        go_wp2_with fail
        refine (hc1 _).mono ?_
        rintro en w2 ⟨rfl, hb2⟩
        have hB2 := hB1.trans (hb2.mono hB1.size)
        have kb2 := kb.below ((hb1).trans (hb2.mono (hb1).size)) kb.lt
        have x1_0 := kb2.cell 0
        have x1_1 := kb2.cell 1
        have x1_2 := kb2.cell 2
        have x1_3 := kb2.cell 3
        have x1_4 := kb2.cell 4
        have x1_5 := kb2.cell 5
        have x1_6 := kb2.cell 6
        have x1_7 := kb2.cell 7
        have x1_8 := kb2.cell 8
        have x1_9 := kb2.cell 9
        have x1_10 := kb2.cell 10
        have x1_11 := kb2.cell 11
        simp only [List.getElem?_toArray, List.getElem?_cons_zero, List.getElem?_cons_succ] at x1_0 x1_1 x1_2 x1_3 x1_4 x1_5 x1_6 x1_7 x1_8 x1_9 x1_10 x1_11
        go_wp2_with fail
        refine (hc2 _).mono ?_
        rintro en w3 ⟨rfl, hb3⟩
        have hB3 := hB2.trans (hb3.mono hB2.size)
        go_wp2
        go_ret
        exact ⟨rfl, hB3⟩
      | false =>
        cases Q3 with
        | true =>
          simp only [Bool.or_true, Bool.true_or, Bool.or_false, Bool.false_or, Bool.and_true, Bool.true_and, Bool.and_false, Bool.false_and] at hR
          subst hR
          go_enter Try.func25, Try.ntmps25
          go_wp2_with fail
          refine (hc0 _).mono ?_
          rintro en w1 ⟨rfl, hb1⟩
          have hB1 := hB.trans (hb1.mono hB.size)
          have kb1 := kb.below (hb1) kb.lt
          have x0_0 := kb1.cell 0
          have x0_1 := kb1.cell 1
          have x0_2 := kb1.cell 2
          have x0_3 := kb1.cell 3
          have x0_4 := kb1.cell 4
          have x0_5 := kb1.cell 5
          have x0_6 := kb1.cell 6
          have x0_7 := kb1.cell 7
          have x0_8 := kb1.cell 8
          have x0_9 := kb1.cell 9
          have x0_10 := kb1.cell 10
          have x0_11 := kb1.cell 11
          simp only [List.getElem?_toArray, List.getElem?_cons_zero, List.getElem?_cons_succ] at x0_0 x0_1 x0_2 x0_3 x0_4 x0_5 x0_6 x0_7 x0_8 x0_9 x0_10 x0_11
          go_wp2_with fail
          refine (hc1 _).mono ?_
          rintro en w2 ⟨rfl, hb2⟩
          have hB2 := hB1.trans (hb2.mono hB1.size)
          have kb2 := kb.below ((hb1).trans (hb2.mono (hb1).size)) kb.lt
          have x1_0 := kb2.cell 0
          have x1_1 := kb2.cell 1
          have x1_2 := kb2.cell 2
          have x1_3 := kb2.cell 3
          have x1_4 := kb2.cell 4
          have x1_5 := kb2.cell 5
          have x1_6 := kb2.cell 6
          have x1_7 := kb2.cell 7
          have x1_8 := kb2.cell 8
          have x1_9 := kb2.cell 9
          have x1_10 := kb2.cell 10
          have x1_11 := kb2.cell 11
          simp only [List.getElem?_toArray, List.getElem?_cons_zero, List.getElem?_cons_succ] at x1_0 x1_1 x1_2 x1_3 x1_4 x1_5 x1_6 x1_7 x1_8 x1_9 x1_10 x1_11
          go_wp2_with fail
          refine (hc2 _).mono ?_
          rintro en w3 ⟨rfl, hb3⟩
          have hB3 := hB2.trans (hb3.mono hB2.size)
          have kb3 := kb.below (((hb1).trans (hb2.mono (hb1).size)).trans (hb3.mono ((hb1).trans (hb2.mono (hb1).size)).size)) kb.lt
          have x2_0 := kb3.cell 0
          have x2_1 := kb3.cell 1
          have x2_2 := kb3.cell 2
          have x2_3 := kb3.cell 3
          have x2_4 := kb3.cell 4
          have x2_5 := kb3.cell 5
          have x2_6 := kb3.cell 6
          have x2_7 := kb3.cell 7
          have x2_8 := kb3.cell 8
          have x2_9 := kb3.cell 9
          have x2_10 := kb3.cell 10
          have x2_11 := kb3.cell 11
          simp only [List.getElem?_toArray, List.getElem?_cons_zero, List.getElem?_cons_succ] at x2_0 x2_1 x2_2 x2_3 x2_4 x2_5 x2_6 x2_7 x2_8 x2_9 x2_10 x2_11
          go_wp2_with fail
          refine (hc3 _).mono ?_
          rintro en w4 ⟨rfl, hb4⟩
          have hB4 := hB3.trans (hb4.mono hB3.size)
          go_wp2
          go_ret
          exact ⟨rfl, hB4⟩
        | false =>
          simp only [Bool.or_true, Bool.true_or, Bool.or_false, Bool.false_or, Bool.and_true, Bool.true_and, Bool.and_false, Bool.false_and] at hR
          subst hR
          go_enter Try.func25, Try.ntmps25
          go_wp2_with fail
          refine (hc0 _).mono ?_
          rintro en w1 ⟨rfl, hb1⟩
          have hB1 := hB.trans (hb1.mono hB.size)
          have kb1 := kb.below (hb1) kb.lt
          have x0_0 := kb1.cell 0
          have x0_1 := kb1.cell 1
          have x0_2 := kb1.cell 2
          have x0_3 := kb1.cell 3
          have x0_4 := kb1.cell 4
          have x0_5 := kb1.cell 5
          have x0_6 := kb1.cell 6
          have x0_7 := kb1.cell 7
          have x0_8 := kb1.cell 8
          have x0_9 := kb1.cell 9
          have x0_10 := kb1.cell 10
          have x0_11 := kb1.cell 11
          simp only [List.getElem?_toArray, List.getElem?_cons_zero, List.getElem?_cons_succ] at x0_0 x0_1 x0_2 x0_3 x0_4 x0_5 x0_6 x0_7 x0_8 x0_9 x0_10 x0_11
          go_wp2_with fail
          refine (hc1 _).mono ?_
          rintro en w2 ⟨rfl, hb2⟩
          have hB2 := hB1.trans (hb2.mono hB1.size)
          have kb2 := kb.below ((hb1).trans (hb2.mono (hb1).size)) kb.lt
          have x1_0 := kb2.cell 0
          have x1_1 := kb2.cell 1
          have x1_2 := kb2.cell 2
          have x1_3 := kb2.cell 3
          have x1_4 := kb2.cell 4
          have x1_5 := kb2.cell 5
          have x1_6 := kb2.cell 6
          have x1_7 := kb2.cell 7
          have x1_8 := kb2.cell 8
          have x1_9 := kb2.cell 9
          have x1_10 := kb2.cell 10
          have x1_11 := kb2.cell 11
          simp only [List.getElem?_toArray, List.getElem?_cons_zero, List.getElem?_cons_succ] at x1_0 x1_1 x1_2 x1_3 x1_4 x1_5 x1_6 x1_7 x1_8 x1_9 x1_10 x1_11
          go_wp2_with fail
          refine (hc2 _).mono ?_
          rintro en w3 ⟨rfl, hb3⟩
          have hB3 := hB2.trans (hb3.mono hB2.size)
          have kb3 := kb.below (((hb1).trans (hb2.mono (hb1).size)).trans (hb3.mono ((hb1).trans (hb2.mono (hb1).size)).size)) kb.lt
          have x2_0 := kb3.cell 0
          have x2_1 := kb3.cell 1
          have x2_2 := kb3.cell 2
          have x2_3 := kb3.cell 3
          have x2_4 := kb3.cell 4
          have x2_5 := kb3.cell 5
          have x2_6 := kb3.cell 6
          have x2_7 := kb3.cell 7
          have x2_8 := kb3.cell 8
          have x2_9 := kb3.cell 9
          have x2_10 := kb3.cell 10
          have x2_11 := kb3.cell 11
          simp only [List.getElem?_toArray, List.getElem?_cons_zero, List.getElem?_cons_succ] at x2_0 x2_1 x2_2 x2_3 x2_4 x2_5 x2_6 x2_7 x2_8 x2_9 x2_10 x2_11
          go_wp2_with fail
          refine (hc3 _).mono ?_
          rintro en w4 ⟨rfl, hb4⟩
          have hB4 := hB3.trans (hb4.mono hB3.size)
          go_wp2
          go_ret
          exact ⟨rfl, hB4⟩
set_option maxHeartbeats 8000000 in
theorem rmsame_any (ag0 : Bool) (aX0 : Option Addr) (an0 ac0 : Nat) (ae0 : Int) (ag1 : Bool) (aX1 : Option Addr) (an1 ac1 : Nat) (ae1 : Int) (ag2 : Bool) (aX2 : Option Addr) (an2 ac2 : Nat) (ae2 : Int) (ag3 : Bool) (aX3 : Option Addr) (an3 ac3 : Nat) (ae3 : Int) (bg0 : Bool) (bX0 : Option Addr) (bn0 bc0 : Nat) (be0 : Int) (bg1 : Bool) (bX1 : Option Addr) (bn1 bc1 : Nat) (be1 : Int) (bg2 : Bool) (bX2 : Option Addr) (bn2 bc2 : Nat) (be2 : Int) (bg3 : Bool) (bX3 : Option Addr) (bn3 bc3 : Nat) (be3 : Int) (m k : Ms) (hsm : smM m) (hsk : smM k) (w : World) (ra : RdM w w.heap.size ag0 aX0 an0 ac0 ae0 ag1 aX1 an1 ac1 ae1 ag2 aX2 an2 ac2 ae2 ag3 aX3 an3 ac3 ae3 m) (rb : RdM w w.heap.size bg0 bX0 bn0 bc0 be0 bg1 bX1 bn1 bc1 be1 bg2 bX2 bn2 bc2 be2 bg3 bX3 bn3 bc3 be3 k) (R : Bool) (hR : decide (m = k) = R) :
    Calls Try.prog 46 #[.agg #[.bool ag0, .slice aX0 an0 ac0, .int .i64 ae0, .bool ag1, .slice aX1 an1 ac1, .int .i64 ae1, .bool ag2, .slice aX2 an2 ac2, .int .i64 ae2, .bool ag3, .slice aX3 an3 ac3, .int .i64 ae3], .agg #[.bool bg0, .slice bX0 bn0 bc0, .int .i64 be0, .bool bg1, .slice bX1 bn1 bc1, .int .i64 be1, .bool bg2, .slice bX2 bn2 bc2, .int .i64 be2, .bool bg3, .slice bX3 bn3 bc3, .int .i64 be3]] w fun en w' => en = .returned (.bool R) ∧ Below w.heap.size w w' := by
  obtain ⟨V, hV⟩ : ∃ V, V = (w.alloc (.cells #[.bool ag0, .slice aX0 an0 ac0, .int .i64 ae0, .bool ag1, .slice aX1 an1 ac1, .int .i64 ae1, .bool ag2, .slice aX2 an2 ac2, .int .i64 ae2, .bool ag3, .slice aX3 an3 ac3, .int .i64 ae3] 26)).alloc (.cells #[.bool bg0, .slice bX0 bn0 bc0, .int .i64 be0, .bool bg1, .slice bX1 bn1 bc1, .int .i64 be1, .bool bg2, .slice bX2 bn2 bc2, .int .i64 be2, .bool bg3, .slice bX3 bn3 bc3, .int .i64 be3] 26) := ⟨_, rfl⟩
  have hB : Below w.heap.size w V := by rw [hV]; exact ((Below.refl w.heap.size w).alloc (Nat.le_refl _) _).alloc (by simp) _
  have kb : Blk V w.heap.size 26 #[.bool ag0, .slice aX0 an0 ac0, .int .i64 ae0, .bool ag1, .slice aX1 an1 ac1, .int .i64 ae1, .bool ag2, .slice aX2 an2 ac2, .int .i64 ae2, .bool ag3, .slice aX3 an3 ac3, .int .i64 ae3] := by rw [hV]; exact (Blk.new w _ _).alloc _
  have kc : Blk V (w.heap.size + 1) 26 #[.bool bg0, .slice bX0 bn0 bc0, .int .i64 be0, .bool bg1, .slice bX1 bn1 bc1, .int .i64 be1, .bool bg2, .slice bX2 bn2 bc2, .int .i64 be2, .bool bg3, .slice bX3 bn3 bc3, .int .i64 be3] := by
    have := Blk.new (w.alloc (.cells #[.bool ag0, .slice aX0 an0 ac0, .int .i64 ae0, .bool ag1, .slice aX1 an1 ac1, .int .i64 ae1, .bool ag2, .slice aX2 an2 ac2, .int .i64 ae2, .bool ag3, .slice aX3 an3 ac3, .int .i64 ae3] 26)) 26 #[.bool bg0, .slice bX0 bn0 bc0, .int .i64 be0, .bool bg1, .slice bX1 bn1 bc1, .int .i64 be1, .bool bg2, .slice bX2 bn2 bc2, .int .i64 be2, .bool bg3, .slice bX3 bn3 bc3, .int .i64 be3]
    rw [World.size_alloc] at this
    rw [hV]; exact this
  have hms : (m = k) ↔ (prt m 0 = prt k 0 ∧ prt m 1 = prt k 1 ∧ prt m 2 = prt k 2 ∧ prt m 3 = prt k 3) := ⟨fun h => by rw [h]; exact ⟨rfl, rfl, rfl, rfl⟩, fun ⟨a, b, c, d⟩ => ms_eq (fun i hi => match i, hi with | 0, _ => a | 1, _ => b | 2, _ => c | 3, _ => d)⟩
  obtain ⟨Q0, hQ0⟩ : ∃ Q, decide (prt m 0 = prt k 0) = Q := ⟨_, rfl⟩
  obtain ⟨ea1, ea2, ea3, ea4, ra0⟩ := ra.1
  obtain ⟨eb1, eb2, eb3, eb4, rb0⟩ := rb.1
  have hc0 := fun w' (h : Below V.heap.size V w') => rdsame_any ag0 bg0 aX0 bX0 an0 bn0 ac0 bc0 ae0 be0 m.s.ls k.s.ls ea3 eb3 (by rw [← ea3]; exact hsm.1) (by rw [← eb3]; exact hsk.1) Q0 (by rw [← hQ0]; simp only [prt]; rw [← ea1, ← ea2, ← eb1, ← eb2]) w' ((ra0.below (hB.trans (h.mono hB.size))).more (hB.trans (h.mono hB.size)).size) ((rb0.below (hB.trans (h.mono hB.size))).more (hB.trans (h.mono hB.size)).size)
  clear ea1 ea2 ea3 ea4 eb1 eb2 eb3 eb4
  obtain ⟨Q1, hQ1⟩ : ∃ Q, decide (prt m 1 = prt k 1) = Q := ⟨_, rfl⟩
  obtain ⟨ea1, ea2, ea3, ea4, ra1⟩ := ra.2.1
  obtain ⟨eb1, eb2, eb3, eb4, rb1⟩ := rb.2.1
  have hc1 := fun w' (h : Below V.heap.size V w') => rdsame_any ag1 bg1 aX1 bX1 an1 bn1 ac1 bc1 ae1 be1 m.w.ls k.w.ls ea3 eb3 (by rw [← ea3]; exact hsm.2.1) (by rw [← eb3]; exact hsk.2.1) Q1 (by rw [← hQ1]; simp only [prt]; rw [← ea1, ← ea2, ← eb1, ← eb2]) w' ((ra1.below (hB.trans (h.mono hB.size))).more (hB.trans (h.mono hB.size)).size) ((rb1.below (hB.trans (h.mono hB.size))).more (hB.trans (h.mono hB.size)).size)
  clear ea1 ea2 ea3 ea4 eb1 eb2 eb3 eb4
  obtain ⟨Q2, hQ2⟩ : ∃ Q, decide (prt m 2 = prt k 2) = Q := ⟨_, rfl⟩
  obtain ⟨ea1, ea2, ea3, ea4, ra2⟩ := ra.2.2.1
  obtain ⟨eb1, eb2, eb3, eb4, rb2⟩ := rb.2.2.1
  have hc2 := fun w' (h : Below V.heap.size V w') => rdsame_any ag2 bg2 aX2 bX2 an2 bn2 ac2 bc2 ae2 be2 m.c.ls k.c.ls ea3 eb3 (by rw [← ea3]; exact hsm.2.2.1) (by rw [← eb3]; exact hsk.2.2.1) Q2 (by rw [← hQ2]; simp only [prt]; rw [← ea1, ← ea2, ← eb1, ← eb2]) w' ((ra2.below (hB.trans (h.mono hB.size))).more (hB.trans (h.mono hB.size)).size) ((rb2.below (hB.trans (h.mono hB.size))).more (hB.trans (h.mono hB.size)).size)
  clear ea1 ea2 ea3 ea4 eb1 eb2 eb3 eb4
  obtain ⟨Q3, hQ3⟩ : ∃ Q, decide (prt m 3 = prt k 3) = Q := ⟨_, rfl⟩
  obtain ⟨ea1, ea2, ea3, ea4, ra3⟩ := ra.2.2.2
  obtain ⟨eb1, eb2, eb3, eb4, rb3⟩ := rb.2.2.2
  have hc3 := fun w' (h : Below V.heap.size V w') => rdsame_any ag3 bg3 aX3 bX3 an3 bn3 ac3 bc3 ae3 be3 m.a.ls k.a.ls ea3 eb3 (by rw [← ea3]; exact hsm.2.2.2) (by rw [← eb3]; exact hsk.2.2.2) Q3 (by rw [← hQ3]; simp only [prt]; rw [← ea1, ← ea2, ← eb1, ← eb2]) w' ((ra3.below (hB.trans (h.mono hB.size))).more (hB.trans (h.mono hB.size)).size) ((rb3.below (hB.trans (h.mono hB.size))).more (hB.trans (h.mono hB.size)).size)
  clear ea1 ea2 ea3 ea4 eb1 eb2 eb3 eb4
  have hR2 : (Q0 && (Q1 && (Q2 && Q3))) = R := by rw [← hR, ← hQ0, ← hQ1, ← hQ2, ← hQ3, ← Bool.decide_and, ← Bool.decide_and, ← Bool.decide_and]; exact decide_eq_decide.2 hms.symm
  clear hR hQ0 hQ1 hQ2 hQ3 hms ra rb ra0 ra1 ra2 ra3 rb0 rb1 rb2 rb3 hsm hsk
  have hR := hR2
  clear hR2
  cases Q0 with
  | true =>
    cases Q1 with
    | true =>
      cases Q2 with
      | true =>
        cases Q3 with
        | true =>
          simp only [Bool.or_true, Bool.true_or, Bool.or_false, Bool.false_or, Bool.and_true, Bool.true_and, Bool.and_false, Bool.false_and] at hR
          subst hR
          go_enter Try.func46, Try.ntmps46
          go_wp2_with fail
          rw [← hV]
          clear hV
          refine (hc0 _ (Below.refl _ _)).mono ?_
          rintro en w1 ⟨rfl, hb1⟩
          have hB1 := hB.trans (hb1.mono hB.size)
          have kb1 := kb.below (hb1) kb.lt
          have x0_0 := kb1.cell 0
          have x0_1 := kb1.cell 1
          have x0_2 := kb1.cell 2
          have x0_3 := kb1.cell 3
          have x0_4 := kb1.cell 4
          have x0_5 := kb1.cell 5
          have x0_6 := kb1.cell 6
          have x0_7 := kb1.cell 7
          have x0_8 := kb1.cell 8
          have x0_9 := kb1.cell 9
          have x0_10 := kb1.cell 10
          have x0_11 := kb1.cell 11
          simp only [List.getElem?_toArray, List.getElem?_cons_zero, List.getElem?_cons_succ] at x0_0 x0_1 x0_2 x0_3 x0_4 x0_5 x0_6 x0_7 x0_8 x0_9 x0_10 x0_11
          have kc1 := kc.below (hb1) kc.lt
          have y0_0 := kc1.cell 0
          have y0_1 := kc1.cell 1
          have y0_2 := kc1.cell 2
          have y0_3 := kc1.cell 3
          have y0_4 := kc1.cell 4
          have y0_5 := kc1.cell 5
          have y0_6 := kc1.cell 6
          have y0_7 := kc1.cell 7
          have y0_8 := kc1.cell 8
          have y0_9 := kc1.cell 9
          have y0_10 := kc1.cell 10
          have y0_11 := kc1.cell 11
          simp only [List.getElem?_toArray, List.getElem?_cons_zero, List.getElem?_cons_succ] at y0_0 y0_1 y0_2 y0_3 y0_4 y0_5 y0_6 y0_7 y0_8 y0_9 y0_10 y0_11
          go_wp2_with fail
          refine (hc1 _ (hb1)).mono ?_
          rintro en w2 ⟨rfl, hb2⟩
          have hB2 := hB1.trans (hb2.mono hB1.size)
          have kb2 := kb.below ((hb1).trans (hb2.mono (hb1).size)) kb.lt
          have x1_0 := kb2.cell 0
          have x1_1 := kb2.cell 1
          have x1_2 := kb2.cell 2
          have x1_3 := kb2.cell 3
          have x1_4 := kb2.cell 4
          have x1_5 := kb2.cell 5
          have x1_6 := kb2.cell 6
          have x1_7 := kb2.cell 7
          have x1_8 := kb2.cell 8
          have x1_9 := kb2.cell 9
          have x1_10 := kb2.cell 10
          have x1_11 := kb2.cell 11
          simp only [List.getElem?_toArray, List.getElem?_cons_zero, List.getElem?_cons_succ] at x1_0 x1_1 x1_2 x1_3 x1_4 x1_5 x1_6 x1_7 x1_8 x1_9 x1_10 x1_11
          have kc2 := kc.below ((hb1).trans (hb2.mono (hb1).size)) kc.lt
          have y1_0 := kc2.cell 0
          have y1_1 := kc2.cell 1
          have y1_2 := kc2.cell 2
          have y1_3 := kc2.cell 3
          have y1_4 := kc2.cell 4
          have y1_5 := kc2.cell 5
          have y1_6 := kc2.cell 6
          have y1_7 := kc2.cell 7
          have y1_8 := kc2.cell 8
          have y1_9 := kc2.cell 9
          have y1_10 := kc2.cell 10
          have y1_11 := kc2.cell 11
          simp only [List.getElem?_toArray, List.getElem?_cons_zero, List.getElem?_cons_succ] at y1_0 y1_1 y1_2 y1_3 y1_4 y1_5 y1_6 y1_7 y1_8 y1_9 y1_10 y1_11
          go_wp2_with fail
          refine (hc2 _ ((hb1).trans (hb2.mono (hb1).size))).mono ?_
          rintro en w3 ⟨rfl, hb3⟩
          have hB3 := hB2.trans (hb3.mono hB2.size)
          have kb3 := kb.below (((hb1).trans (hb2.mono (hb1).size)).trans (hb3.mono ((hb1).trans (hb2.mono (hb1).size)).size)) kb.lt
          have x2_0 := kb3.cell 0
          have x2_1 := kb3.cell 1
          have x2_2 := kb3.cell 2
          have x2_3 := kb3.cell 3
          have x2_4 := kb3.cell 4
          have x2_5 := kb3.cell 5
          have x2_6 := kb3.cell 6
          have x2_7 := kb3.cell 7
          have x2_8 := kb3.cell 8
          have x2_9 := kb3.cell 9
          have x2_10 := kb3.cell 10
          have x2_11 := kb3.cell 11
          simp only [List.getElem?_toArray, List.getElem?_cons_zero, List.getElem?_cons_succ] at x2_0 x2_1 x2_2 x2_3 x2_4 x2_5 x2_6 x2_7 x2_8 x2_9 x2_10 x2_11
          have kc3 := kc.below (((hb1).trans (hb2.mono (hb1).size)).trans (hb3.mono ((hb1).trans (hb2.mono (hb1).size)).size)) kc.lt
          have y2_0 := kc3.cell 0
          have y2_1 := kc3.cell 1
          have y2_2 := kc3.cell 2
          have y2_3 := kc3.cell 3
          have y2_4 := kc3.cell 4
          have y2_5 := kc3.cell 5
          have y2_6 := kc3.cell 6
          have y2_7 := kc3.cell 7
          have y2_8 := kc3.cell 8
          have y2_9 := kc3.cell 9
          have y2_10 := kc3.cell 10
          have y2_11 := kc3.cell 11
          simp only [List.getElem?_toArray, List.getElem?_cons_zero, List.getElem?_cons_succ] at y2_0 y2_1 y2_2 y2_3 y2_4 y2_5 y2_6 y2_7 y2_8 y2_9 y2_10 y2_11
          go_wp2_with fail
          refine (hc3 _ (((hb1).trans (hb2.mono (hb1).size)).trans (hb3.mono ((hb1).trans (hb2.mono (hb1).size)).size))).mono ?_
          rintro en w4 ⟨rfl, hb4⟩
          have hB4 := hB3.trans (hb4.mono hB3.size)
          go_wp2
          go_ret
          exact ⟨rfl, hB4⟩
        | false =>
          simp only [Bool.or_true, Bool.true_or, Bool.or_false, Bool.false_or, Bool.and_true, Bool.true_and, Bool.and_false, Bool.false_and] at hR
          subst hR
          go_enter Try.func46, Try.ntmps46
          go_wp2_with fail
          rw [← hV]
          clear hV
          refine (hc0 _ (Below.refl _ _)).mono ?_
          rintro en w1 ⟨rfl, hb1⟩
          have hB1 := hB.trans (hb1.mono hB.size)
          have kb1 := kb.below (hb1) kb.lt
          have x0_0 := kb1.cell 0
          have x0_1 := kb1.cell 1
          have x0_2 := kb1.cell 2
          have x0_3 := kb1.cell 3
          have x0_4 := kb1.cell 4
          have x0_5 := kb1.cell 5
          have x0_6 := kb1.cell 6
          have x0_7 := kb1.cell 7
          have x0_8 := kb1.cell 8
          have x0_9 := kb1.cell 9
          have x0_10 := kb1.cell 10
          have x0_11 := kb1.cell 11
          simp only [List.getElem?_toArray, List.getElem?_cons_zero, List.getElem?_cons_succ] at x0_0 x0_1 x0_2 x0_3 x0_4 x0_5 x0_6 x0_7 x0_8 x0_9 x0_10 x0_11
          have kc1 := kc.below (hb1) kc.lt
          have y0_0 := kc1.cell 0
          have y0_1 := kc1.cell 1
          have y0_2 := kc1.cell 2
          have y0_3 := kc1.cell 3
          have y0_4 := kc1.cell 4
          have y0_5 := kc1.cell 5
          have y0_6 := kc1.cell 6
          have y0_7 := kc1.cell 7
          have y0_8 := kc1.cell 8
          have y0_9 := kc1.cell 9
          have y0_10 := kc1.cell 10
          have y0_11 := kc1.cell 11
          simp only [List.getElem?_toArray, List.getElem?_cons_zero, List.getElem?_cons_succ] at y0_0 y0_1 y0_2 y0_3 y0_4 y0_5 y0_6 y0_7 y0_8 y0_9 y0_10 y0_11
          go_wp2_with fail
          refine (hc1 _ (hb1)).mono ?_
          rintro en w2 ⟨rfl, hb2⟩
          have hB2 := hB1.trans (hb2.mono hB1.size)
          have kb2 := kb.below ((hb1).trans (hb2.mono (hb1).size)) kb.lt
          have x1_0 := kb2.cell 0
          have x1_1 := kb2.cell 1
          have x1_2 := kb2.cell 2
          have x1_3 := kb2.cell 3
          have x1_4 := kb2.cell 4
          have x1_5 := kb2.cell 5
          have x1_6 := kb2.cell 6
          have x1_7 := kb2.cell 7
          have x1_8 := kb2.cell 8
          have x1_9 := kb2.cell 9
          have x1_10 := kb2.cell 10
          have x1_11 := kb2.cell 11
          simp only [List.getElem?_toArray, List.getElem?_cons_zero, List.getElem?_cons_succ] at x1_0 x1_1 x1_2 x1_3 x1_4 x1_5 x1_6 x1_7 x1_8 x1_9 x1_10 x1_11
          have kc2 := kc.below ((hb1).trans (hb2.mono (hb1).size)) kc.lt
          have y1_0 := kc2.cell 0
          have y1_1 := kc2.cell 1
          have y1_2 := kc2.cell 2
          have y1_3 := kc2.cell 3
          have y1_4 := kc2.cell 4
          have y1_5 := kc2.cell 5
          have y1_6 := kc2.cell 6
          have y1_7 := kc2.cell 7
          have y1_8 := kc2.cell 8
          have y1_9 := kc2.cell 9
          have y1_10 := kc2.cell 10
          have y1_11 := kc2.cell 11
          simp only [List.getElem?_toArray, List.getElem?_cons_zero, List.getElem?_cons_succ] at y1_0 y1_1 y1_2 y1_3 y1_4 y1_5 y1_6 y1_7 y1_8 y1_9 y1_10 y1_11
          go_wp2_with fail
          refine (hc2 _ ((hb1).trans (hb2.mono (hb1).size))).mono ?_
          rintro en w3 ⟨rfl, hb3⟩
          have hB3 := hB2.trans (hb3.mono hB2.size)
          have kb3 := kb.below (((hb1).trans (hb2.mono (hb1).size)).trans (hb3.mono ((hb1).trans (hb2.mono (hb1).size)).size)) kb.lt
          have x2_0 := kb3.cell 0
          have x2_1 := kb3.cell 1
          have x2_2 := kb3.cell 2
          have x2_3 := kb3.cell 3
          have x2_4 := kb3.cell 4
          have x2_5 := kb3.cell 5
          have x2_6 := kb3.cell 6
          have x2_7 := kb3.cell 7
          have x2_8 := kb3.cell 8
          have x2_9 := kb3.cell 9
          have x2_10 := kb3.cell 10
          have x2_11 := kb3.cell 11
          simp only [List.getElem?_toArray, List.getElem?_cons_zero, List.getElem?_cons_succ] at x2_0 x2_1 x2_2 x2_3 x2_4 x2_5 x2_6 x2_7 x2_8 x2_9 x2_10 x2_11
          have kc3 := kc.below (((hb1).trans (hb2.mono (hb1).size)).trans (hb3.mono ((hb1).trans (hb2.mono (hb1).size)).size)) kc.lt
          have y2_0 := kc3.cell 0
          have y2_1 := kc3.cell 1
          have y2_2 := kc3.cell 2
          have y2_3 := kc3.cell 3
          have y2_4 := kc3.cell 4
          have y2_5 := kc3.cell 5
          have y2_6 := kc3.cell 6
          have y2_7 := kc3.cell 7
          have y2_8 := kc3.cell 8
          have y2_9 := kc3.cell 9
          have y2_10 := kc3.cell 10
          have y2_11 := kc3.cell 11
          simp only [List.getElem?_toArray, List.getElem?_cons_zero, List.getElem?_cons_succ] at y2_0 y2_1 y2_2 y2_3 y2_4 y2_5 y2_6 y2_7 y2_8 y2_9 y2_10 y2_11
          go_wp2_with fail
          refine (hc3 _ (((hb1).trans (hb2.mono (hb1).size)).trans (hb3.mono ((hb1).trans (hb2.mono (hb1).size)).size))).mono ?_
          rintro en w4 ⟨rfl, hb4⟩
          have hB4 := hB3.trans (hb4.mono hB3.size)
          go_wp2
          go_ret
          exact ⟨rfl, hB4⟩
      | false =>
        simp only [Bool.or_true, Bool.true_or, Bool.or_false, Bool.false_or, Bool.and_true, Bool.true_and, Bool.and_false, Bool.false_and] at hR
        subst hR
        go_enter Try.func46, Try.ntmps46
        go_wp2_with fail
        rw [← hV]
        clear hV
        refine (hc0 _ (Below.refl _ _)).mono ?_
        rintro en w1 ⟨rfl, hb1⟩
        have hB1 := hB.trans (hb1.mono hB.size)
        have kb1 := kb.below (hb1) kb.lt
        have x0_0 := kb1.cell 0
        have x0_1 := kb1.cell 1
        have x0_2 := kb1.cell 2
        have x0_3 := kb1.cell 3
        have x0_4 := kb1.cell 4
        have x0_5 := kb1.cell 5
        have x0_6 := kb1.cell 6
        have x0_7 := kb1.cell 7
        have x0_8 := kb1.cell 8
        have x0_9 := kb1.cell 9
        have x0_10 := kb1.cell 10
        have x0_11 := kb1.cell 11
        simp only [List.getElem?_toArray, List.getElem?_cons_zero, List.getElem?_cons_succ] at x0_0 x0_1 x0_2 x0_3 x0_4 x0_5 x0_6 x0_7 x0_8 x0_9 x0_10 x0_11
        have kc1 := kc.below (hb1) kc.lt
        have y0_0 := kc1.cell 0
        have y0_1 := kc1.cell 1
        have y0_2 := kc1.cell 2
        have y0_3 := kc1.cell 3
        have y0_4 := kc1.cell 4
        have y0_5 := kc1.cell 5
        have y0_6 := kc1.cell 6
        have y0_7 := kc1.cell 7
        have y0_8 := kc1.cell 8
        have y0_9 := kc1.cell 9
        have y0_10 := kc1.cell 10
        have y0_11 := kc1.cell 11
        simp only [List.getElem?_toArray, List.getElem?_cons_zero, List.getElem?_cons_succ] at y0_0 y0_1 y0_2 y0_3 y0_4 y0_5 y0_6 y0_7 y0_8 y0_9 y0_10 y0_11
        go_wp2_with fail
        refine (hc1 _ (hb1)).mono ?_
        rintro en w2 ⟨rfl, hb2⟩
        have hB2 := hB1.trans (hb2.mono hB1.size)
        have kb2 := kb.below ((hb1).trans (hb2.mono (hb1).size)) kb.lt
        have x1_0 := kb2.cell 0
        have x1_1 := kb2.cell 1
        have x1_2 := kb2.cell 2
        have x1_3 := kb2.cell 3
        have x1_4 := kb2.cell 4
        have x1_5 := kb2.cell 5
        have x1_6 := kb2.cell 6
        have x1_7 := kb2.cell 7
        have x1_8 := kb2.cell 8
        have x1_9 := kb2.cell 9
        have x1_10 := kb2.cell 10
        have x1_11 := kb2.cell 11
        simp only [List.getElem?_toArray, List.getElem?_cons_zero, List.getElem?_cons_succ] at x1_0 x1_1 x1_2 x1_3 x1_4 x1_5 x1_6 x1_7 x1_8 x1_9 x1_10 x1_11
        have kc2 := kc.below ((hb1).trans (hb2.mono (hb1).size)) kc.lt
        have y1_0 := kc2.cell 0
        have y1_1 := kc2.cell 1
        have y1_2 := kc2.cell 2
        have y1_3 := kc2.cell 3
        have y1_4 := kc2.cell 4
        have y1_5 := kc2.cell 5
        have y1_6 := kc2.cell 6
        have y1_7 := kc2.cell 7
        have y1_8 := kc2.cell 8
        have y1_9 := kc2.cell 9
        have y1_10 := kc2.cell 10
        have y1_11 := kc2.cell 11
        simp only [List.getElem?_toArray, List.getElem?_cons_zero, List.getElem?_cons_succ] at y1_0 y1_1 y1_2 y1_3 y1_4 y1_5 y1_6 y1_7 y1_8 y1_9 y1_10 y1_11
        go_wp2_with fail
        refine (hc2 _ ((hb1).trans (hb2.mono (hb1).size))).mono ?_
        rintro en w3 ⟨rfl, hb3⟩
        have hB3 := hB2.trans (hb3.mono hB2.size)
        go_wp2
        go_ret
        exact ⟨rfl, hB3⟩
    | false =>
      simp only [Bool.or_true, Bool.true_or, Bool.or_false, Bool.false_or, Bool.and_true, Bool.true_and, Bool.and_false, Bool.false_and] at hR
      subst hR
      go_enter Try.func46, Try.ntmps46
      go_wp2_with fail
      rw [← hV]
      clear hV
      refine (hc0 _ (Below.refl _ _)).mono ?_
      rintro en w1 ⟨rfl, hb1⟩
      have hB1 := hB.trans (hb1.mono hB.size)
      have kb1 := kb.below (hb1) kb.lt
      have x0_0 := kb1.cell 0
      have x0_1 := kb1.cell 1
      have x0_2 := kb1.cell 2
      have x0_3 := kb1.cell 3
      have x0_4 := kb1.cell 4
      have x0_5 := kb1.cell 5
      have x0_6 := kb1.cell 6
      have x0_7 := kb1.cell 7
      have x0_8 := kb1.cell 8
      have x0_9 := kb1.cell 9
      have x0_10 := kb1.cell 10
      have x0_11 := kb1.cell 11
      simp only [List.getElem?_toArray, List.getElem?_cons_zero, List.getElem?_cons_succ] at x0_0 x0_1 x0_2 x0_3 x0_4 x0_5 x0_6 x0_7 x0_8 x0_9 x0_10 x0_11
      have kc1 := kc.below (hb1) kc.lt
      have y0_0 := kc1.cell 0
      have y0_1 := kc1.cell 1
      have y0_2 := kc1.cell 2
      have y0_3 := kc1.cell 3
      have y0_4 := kc1.cell 4
      have y0_5 := kc1.cell 5
      have y0_6 := kc1.cell 6
      have y0_7 := kc1.cell 7
      have y0_8 := kc1.cell 8
      have y0_9 := kc1.cell 9
      have y0_10 := kc1.cell 10
      have y0_11 := kc1.cell 11
      simp only [List.getElem?_toArray, List.getElem?_cons_zero, List.getElem?_cons_succ] at y0_0 y0_1 y0_2 y0_3 y0_4 y0_5 y0_6 y0_7 y0_8 y0_9 y0_10 y0_11
      go_wp2_with fail
      refine (hc1 _ (hb1)).mono ?_
      rintro en w2 ⟨rfl, hb2⟩
      have hB2 := hB1.trans (hb2.mono hB1.size)
      go_wp2
      go_ret
      exact ⟨rfl, hB2⟩
  | false =>
    simp only [Bool.or_true, Bool.true_or, Bool.or_false, Bool.false_or, Bool.and_true, Bool.true_and, Bool.and_false, Bool.false_and] at hR
    subst hR
    go_enter Try.func46, Try.ntmps46
    go_wp2_with fail
    rw [← hV]
    clear hV
    refine (hc0 _ (Below.refl _ _)).mono ?_
    rintro en w1 ⟨rfl, hb1⟩
    have hB1 := hB.trans (hb1.mono hB.size)
    go_wp2
    go_ret
    exact ⟨rfl, hB1⟩
set_option maxRecDepth 100000 in
set_option maxHeartbeats 8000000 in
theorem rmtwin_any (ag0 : Bool) (aX0 : Option Addr) (an0 ac0 : Nat) (ae0 : Int) (ag1 : Bool) (aX1 : Option Addr) (an1 ac1 : Nat) (ae1 : Int) (ag2 : Bool) (aX2 : Option Addr) (an2 ac2 : Nat) (ae2 : Int) (ag3 : Bool) (aX3 : Option Addr) (an3 ac3 : Nat) (ae3 : Int) (m : Ms) (hsm : smM m) (w : World) (ra : RdM w w.heap.size ag0 aX0 an0 ac0 ae0 ag1 aX1 an1 ac1 ae1 ag2 aX2 an2 ac2 ae2 ag3 aX3 an3 ac3 ae3 m) :
    Calls Try.prog 30 #[.agg #[.bool ag0, .slice aX0 an0 ac0, .int .i64 ae0, .bool ag1, .slice aX1 an1 ac1, .int .i64 ae1, .bool ag2, .slice aX2 an2 ac2, .int .i64 ae2, .bool ag3, .slice aX3 an3 ac3, .int .i64 ae3]] w (TwM w ag0 aX0 an0 ac0 ae0 ag1 aX1 an1 ac1 ae1 ag2 aX2 an2 ac2 ae2 ag3 aX3 an3 ac3 ae3 m) := by
  obtain ⟨V, hV⟩ : ∃ V, V = (w.alloc (.cells #[.bool ag0, .slice aX0 an0 ac0, .int .i64 ae0, .bool ag1, .slice aX1 an1 ac1, .int .i64 ae1, .bool ag2, .slice aX2 an2 ac2, .int .i64 ae2, .bool ag3, .slice aX3 an3 ac3, .int .i64 ae3] 26)).alloc (.cells #[.bool false, .slice none 0 0, .int .i64 0, .bool false, .slice none 0 0, .int .i64 0, .bool false, .slice none 0 0, .int .i64 0, .bool false, .slice none 0 0, .int .i64 0] 26) := ⟨_, rfl⟩
  have hB : Below w.heap.size w V := by rw [hV]; exact ((Below.refl w.heap.size w).alloc (Nat.le_refl _) _).alloc (by simp) _
  have kb : Blk V w.heap.size 26 #[.bool ag0, .slice aX0 an0 ac0, .int .i64 ae0, .bool ag1, .slice aX1 an1 ac1, .int .i64 ae1, .bool ag2, .slice aX2 an2 ac2, .int .i64 ae2, .bool ag3, .slice aX3 an3 ac3, .int .i64 ae3] := by rw [hV]; exact (Blk.new w _ _).alloc _
  have kc : Blk V (w.heap.size + 1) 26 #[.bool false, .slice none 0 0, .int .i64 0, .bool false, .slice none 0 0, .int .i64 0, .bool false, .slice none 0 0, .int .i64 0, .bool false, .slice none 0 0, .int .i64 0] := by
    have := Blk.new (w.alloc (.cells #[.bool ag0, .slice aX0 an0 ac0, .int .i64 ae0, .bool ag1, .slice aX1 an1 ac1, .int .i64 ae1, .bool ag2, .slice aX2 an2 ac2, .int .i64 ae2, .bool ag3, .slice aX3 an3 ac3, .int .i64 ae3] 26)) 26 #[.bool false, .slice none 0 0, .int .i64 0, .bool false, .slice none 0 0, .int .i64 0, .bool false, .slice none 0 0, .int .i64 0, .bool false, .slice none 0 0, .int .i64 0]
    rw [World.size_alloc] at this
    rw [hV]; exact this
  have hsV : V.heap.size = w.heap.size + 2 := by rw [hV]; simp
  have hlV : w.heap.size + 2 ≤ V.heap.size := Nat.le_of_eq hsV.symm
  clear hsV
  have SS : ∀ w', Below (w.heap.size + 1) V w' → w'.cell? ⟨w.heap.size, 0, none⟩ = some (.bool ag0) ∧ w'.cell? ⟨w.heap.size, 1, none⟩ = some (.slice aX0 an0 ac0) ∧ w'.cell? ⟨w.heap.size, 2, none⟩ = some (.int .i64 ae0) ∧ w'.cell? ⟨w.heap.size, 3, none⟩ = some (.bool ag1) ∧ w'.cell? ⟨w.heap.size, 4, none⟩ = some (.slice aX1 an1 ac1) ∧ w'.cell? ⟨w.heap.size, 5, none⟩ = some (.int .i64 ae1) ∧ w'.cell? ⟨w.heap.size, 6, none⟩ = some (.bool ag2) ∧ w'.cell? ⟨w.heap.size, 7, none⟩ = some (.slice aX2 an2 ac2) ∧ w'.cell? ⟨w.heap.size, 8, none⟩ = some (.int .i64 ae2) ∧ w'.cell? ⟨w.heap.size, 9, none⟩ = some (.bool ag3) ∧ w'.cell? ⟨w.heap.size, 10, none⟩ = some (.slice aX3 an3 ac3) ∧ w'.cell? ⟨w.heap.size, 11, none⟩ = some (.int .i64 ae3) := by
    intro w' hw
    have k5 := kb.below hw (by omega)
    have c0 := k5.cell 0
    have c1 := k5.cell 1
    have c2 := k5.cell 2
    have c3 := k5.cell 3
    have c4 := k5.cell 4
    have c5 := k5.cell 5
    have c6 := k5.cell 6
    have c7 := k5.cell 7
    have c8 := k5.cell 8
    have c9 := k5.cell 9
    have c10 := k5.cell 10
    have c11 := k5.cell 11
    simp only [List.getElem?_toArray, List.getElem?_cons_zero, List.getElem?_cons_succ] at c0 c1 c2 c3 c4 c5 c6 c7 c8 c9 c10 c11
    exact ⟨c0, c1, c2, c3, c4, c5, c6, c7, c8, c9, c10, c11⟩
  obtain ⟨ea1, ea2, ea3, ea4, ra0⟩ := ra.1
  have hc0 := fun w' (h : Below V.heap.size V w') => rdtwin_any ag0 aX0 an0 ac0 ae0 m.s.ls ea3 (by rw [← ea3]; exact hsm.1) w' ((ra0.below (hB.trans (h.mono hB.size))).more (hB.trans (h.mono hB.size)).size)
  clear ea1 ea2 ea3 ea4
  obtain ⟨ea1, ea2, ea3, ea4, ra1⟩ := ra.2.1
  have hc1 := fun w' (h : Below V.heap.size V w') => rdtwin_any ag1 aX1 an1 ac1 ae1 m.w.ls ea3 (by rw [← ea3]; exact hsm.2.1) w' ((ra1.below (hB.trans (h.mono hB.size))).more (hB.trans (h.mono hB.size)).size)
  clear ea1 ea2 ea3 ea4
  obtain ⟨ea1, ea2, ea3, ea4, ra2⟩ := ra.2.2.1
  have hc2 := fun w' (h : Below V.heap.size V w') => rdtwin_any ag2 aX2 an2 ac2 ae2 m.c.ls ea3 (by rw [← ea3]; exact hsm.2.2.1) w' ((ra2.below (hB.trans (h.mono hB.size))).more (hB.trans (h.mono hB.size)).size)
  clear ea1 ea2 ea3 ea4
  obtain ⟨ea1, ea2, ea3, ea4, ra3⟩ := ra.2.2.2
  have hc3 := fun w' (h : Below V.heap.size V w') => rdtwin_any ag3 aX3 an3 ac3 ae3 m.a.ls ea3 (by rw [← ea3]; exact hsm.2.2.2) w' ((ra3.below (hB.trans (h.mono hB.size))).more (hB.trans (h.mono hB.size)).size)
  clear ea1 ea2 ea3 ea4
  clear ra ra0 ra1 ra2 ra3 hsm
  obtain ⟨z0, z1, z2, z3, z4, z5, z6, z7, z8, z9, z10, z11⟩ := SS V (Below.refl _ _)
  have h0 : Below V.heap.size V V := Below.refl _ _
  go_enter Try.func30, Try.ntmps30
  go_wp2_with fail
  rw [← hV]
  clear hV
  go_region_held3 (fun w' => w'.cell? ⟨w.heap.size, 0, none⟩ = some (.bool ag0) ∧ w'.cell? ⟨w.heap.size, 1, none⟩ = some (.slice aX0 an0 ac0) ∧ w'.cell? ⟨w.heap.size, 2, none⟩ = some (.int .i64 ae0) ∧ w'.cell? ⟨w.heap.size, 3, none⟩ = some (.bool ag1) ∧ w'.cell? ⟨w.heap.size, 4, none⟩ = some (.slice aX1 an1 ac1) ∧ w'.cell? ⟨w.heap.size, 5, none⟩ = some (.int .i64 ae1) ∧ w'.cell? ⟨w.heap.size, 6, none⟩ = some (.bool ag2) ∧ w'.cell? ⟨w.heap.size, 7, none⟩ = some (.slice aX2 an2 ac2) ∧ w'.cell? ⟨w.heap.size, 8, none⟩ = some (.int .i64 ae2) ∧ w'.cell? ⟨w.heap.size, 9, none⟩ = some (.bool ag3) ∧ w'.cell? ⟨w.heap.size, 10, none⟩ = some (.slice aX3 an3 ac3) ∧ w'.cell? ⟨w.heap.size, 11, none⟩ = some (.int .i64 ae3)) ((refine SS _ ?_; (repeat first | with_reducible assumption | with_reducible exact Below.refl _ _ | with_reducible refine Below.drew ?_ | (with_reducible refine Below.setCell ?_ (by first | exact Nat.le_refl _ | (simp only [World.size_alloc, World.size_drew]; omega) | omega) _) | (with_reducible refine Below.alloc ?_ (by first | exact Nat.le_refl _ | (simp only [World.size_alloc, World.size_drew]; omega) | omega) _)))) (first | (go_at_call 59; (with_reducible refine (hc0 _ (by (repeat first | with_reducible assumption | with_reducible exact Below.refl _ _ | with_reducible refine Below.drew ?_ | (with_reducible refine Below.setCell ?_ (by first | exact Nat.le_refl _ | (simp only [World.size_alloc, World.size_drew]; omega) | omega) _) | (with_reducible refine Below.alloc ?_ (by first | exact Nat.le_refl _ | (simp only [World.size_alloc, World.size_drew]; omega) | omega) _)))).mono ?_); rintro en w1 ⟨X0, c0, rfl, hco0, ho0, hb0⟩; have hb0V : Below V.heap.size V w1 := Below.trans (by (repeat first | with_reducible assumption | with_reducible exact Below.refl _ _ | with_reducible refine Below.drew ?_ | (with_reducible refine Below.setCell ?_ (by first | exact Nat.le_refl _ | (simp only [World.size_alloc, World.size_drew]; omega) | omega) _) | (with_reducible refine Below.alloc ?_ (by first | exact Nat.le_refl _ | (simp only [World.size_alloc, World.size_drew]; omega) | omega) _))) (hb0.mono (by first | exact Nat.le_refl _ | (simp only [World.size_alloc, World.size_drew]; omega) | omega)); have hs0 := hb0V.size; have hw0 : Below (w.heap.size + 1) V w1 := hb0V.mono (by omega)) | (go_at_call 59; (with_reducible refine (hc1 _ (by (repeat first | with_reducible assumption | with_reducible exact Below.refl _ _ | with_reducible refine Below.drew ?_ | (with_reducible refine Below.setCell ?_ (by first | exact Nat.le_refl _ | (simp only [World.size_alloc, World.size_drew]; omega) | omega) _) | (with_reducible refine Below.alloc ?_ (by first | exact Nat.le_refl _ | (simp only [World.size_alloc, World.size_drew]; omega) | omega) _)))).mono ?_); rintro en w2 ⟨X1, c1, rfl, hco1, ho1, hb1⟩; have hb1V : Below V.heap.size V w2 := Below.trans (by (repeat first | with_reducible assumption | with_reducible exact Below.refl _ _ | with_reducible refine Below.drew ?_ | (with_reducible refine Below.setCell ?_ (by first | exact Nat.le_refl _ | (simp only [World.size_alloc, World.size_drew]; omega) | omega) _) | (with_reducible refine Below.alloc ?_ (by first | exact Nat.le_refl _ | (simp only [World.size_alloc, World.size_drew]; omega) | omega) _))) (hb1.mono (by first | exact Nat.le_refl _ | (simp only [World.size_alloc, World.size_drew]; omega) | omega)); have hs1 := hb1V.size; have hw1 : Below (w.heap.size + 1) V w2 := hb1V.mono (by omega)) | (go_at_call 59; (with_reducible refine (hc2 _ (by (repeat first | with_reducible assumption | with_reducible exact Below.refl _ _ | with_reducible refine Below.drew ?_ | (with_reducible refine Below.setCell ?_ (by first | exact Nat.le_refl _ | (simp only [World.size_alloc, World.size_drew]; omega) | omega) _) | (with_reducible refine Below.alloc ?_ (by first | exact Nat.le_refl _ | (simp only [World.size_alloc, World.size_drew]; omega) | omega) _)))).mono ?_); rintro en w3 ⟨X2, c2, rfl, hco2, ho2, hb2⟩; have hb2V : Below V.heap.size V w3 := Below.trans (by (repeat first | with_reducible assumption | with_reducible exact Below.refl _ _ | with_reducible refine Below.drew ?_ | (with_reducible refine Below.setCell ?_ (by first | exact Nat.le_refl _ | (simp only [World.size_alloc, World.size_drew]; omega) | omega) _) | (with_reducible refine Below.alloc ?_ (by first | exact Nat.le_refl _ | (simp only [World.size_alloc, World.size_drew]; omega) | omega) _))) (hb2.mono (by first | exact Nat.le_refl _ | (simp only [World.size_alloc, World.size_drew]; omega) | omega)); have hs2 := hb2V.size; have hw2 : Below (w.heap.size + 1) V w3 := hb2V.mono (by omega)) | (go_at_call 59; (with_reducible refine (hc3 _ (by (repeat first | with_reducible assumption | with_reducible exact Below.refl _ _ | with_reducible refine Below.drew ?_ | (with_reducible refine Below.setCell ?_ (by first | exact Nat.le_refl _ | (simp only [World.size_alloc, World.size_drew]; omega) | omega) _) | (with_reducible refine Below.alloc ?_ (by first | exact Nat.le_refl _ | (simp only [World.size_alloc, World.size_drew]; omega) | omega) _)))).mono ?_); rintro en w4 ⟨X3, c3, rfl, hco3, ho3, hb3⟩; have hb3V : Below V.heap.size V w4 := Below.trans (by (repeat first | with_reducible assumption | with_reducible exact Below.refl _ _ | with_reducible refine Below.drew ?_ | (with_reducible refine Below.setCell ?_ (by first | exact Nat.le_refl _ | (simp only [World.size_alloc, World.size_drew]; omega) | omega) _) | (with_reducible refine Below.alloc ?_ (by first | exact Nat.le_refl _ | (simp only [World.size_alloc, World.size_drew]; omega) | omega) _))) (hb3.mono (by first | exact Nat.le_refl _ | (simp only [World.size_alloc, World.size_drew]; omega) | omega)); have hs3 := hb3V.size; have hw3 : Below (w.heap.size + 1) V w4 := hb3V.mono (by omega); have kc4 := kc.below hb3V kc.lt; have y0 := kc4.cell 0; have y1 := kc4.cell 1; have y2 := kc4.cell 2; have y3 := kc4.cell 3; have y4 := kc4.cell 4; have y5 := kc4.cell 5; have y6 := kc4.cell 6; have y7 := kc4.cell 7; have y8 := kc4.cell 8; have y9 := kc4.cell 9; have y10 := kc4.cell 10; have y11 := kc4.cell 11; simp only [List.getElem?_toArray, List.getElem?_cons_zero, List.getElem?_cons_succ] at y0 y1 y2 y3 y4 y5 y6 y7 y8 y9 y10 y11; have yf0 := kc4.frozen 0; have yf1 := kc4.frozen 1; have yf2 := kc4.frozen 2; have yf3 := kc4.frozen 3; have yf4 := kc4.frozen 4; have yf5 := kc4.frozen 5; have yf6 := kc4.frozen 6; have yf7 := kc4.frozen 7; have yf8 := kc4.frozen 8; have yf9 := kc4.frozen 9; have yf10 := kc4.frozen 10; have yf11 := kc4.frozen 11))
  clear z0 z1 z2 z3 z4 z5 z6 z7 z8 z9 z10 z11 hc0 hc1 hc2 hc3 SS kb
  have B5 : Blk ((((((((((((w4.setCell ⟨w.heap.size + 1, 0, none⟩ (.bool ag0)).setCell ⟨w.heap.size + 1, 1, none⟩ (.slice X0 an0 c0)).setCell ⟨w.heap.size + 1, 2, none⟩ (.int .i64 ae0)).setCell ⟨w.heap.size + 1, 3, none⟩ (.bool ag1)).setCell ⟨w.heap.size + 1, 4, none⟩ (.slice X1 an1 c1)).setCell ⟨w.heap.size + 1, 5, none⟩ (.int .i64 ae1)).setCell ⟨w.heap.size + 1, 6, none⟩ (.bool ag2)).setCell ⟨w.heap.size + 1, 7, none⟩ (.slice X2 an2 c2)).setCell ⟨w.heap.size + 1, 8, none⟩ (.int .i64 ae2)).setCell ⟨w.heap.size + 1, 9, none⟩ (.bool ag3)).setCell ⟨w.heap.size + 1, 10, none⟩ (.slice X3 an3 c3)).setCell ⟨w.heap.size + 1, 11, none⟩ (.int .i64 ae3)) (w.heap.size + 1) 26 #[.bool ag0, .slice X0 an0 c0, .int .i64 ae0, .bool ag1, .slice X1 an1 c1, .int .i64 ae1, .bool ag2, .slice X2 an2 c2, .int .i64 ae2, .bool ag3, .slice X3 an3 c3, .int .i64 ae3] := blk12 kc4 (.bool ag0) (.slice X0 an0 c0) (.int .i64 ae0) (.bool ag1) (.slice X1 an1 c1) (.int .i64 ae1) (.bool ag2) (.slice X2 an2 c2) (.int .i64 ae2) (.bool ag3) (.slice X3 an3 c3) (.int .i64 ae3)
  have q0 := B5.cell 0
  have q1 := B5.cell 1
  have q2 := B5.cell 2
  have q3 := B5.cell 3
  have q4 := B5.cell 4
  have q5 := B5.cell 5
  have q6 := B5.cell 6
  have q7 := B5.cell 7
  have q8 := B5.cell 8
  have q9 := B5.cell 9
  have q10 := B5.cell 10
  have q11 := B5.cell 11
  simp only [List.getElem?_toArray, List.getElem?_cons_zero, List.getElem?_cons_succ] at q0 q1 q2 q3 q4 q5 q6 q7 q8 q9 q10 q11
  have hb9 : Below w.heap.size w w4 := hB.trans (hb3V.mono hB.size)
  have hb10 : Below w.heap.size w ((((((((((((w4.setCell ⟨w.heap.size + 1, 0, none⟩ (.bool ag0)).setCell ⟨w.heap.size + 1, 1, none⟩ (.slice X0 an0 c0)).setCell ⟨w.heap.size + 1, 2, none⟩ (.int .i64 ae0)).setCell ⟨w.heap.size + 1, 3, none⟩ (.bool ag1)).setCell ⟨w.heap.size + 1, 4, none⟩ (.slice X1 an1 c1)).setCell ⟨w.heap.size + 1, 5, none⟩ (.int .i64 ae1)).setCell ⟨w.heap.size + 1, 6, none⟩ (.bool ag2)).setCell ⟨w.heap.size + 1, 7, none⟩ (.slice X2 an2 c2)).setCell ⟨w.heap.size + 1, 8, none⟩ (.int .i64 ae2)).setCell ⟨w.heap.size + 1, 9, none⟩ (.bool ag3)).setCell ⟨w.heap.size + 1, 10, none⟩ (.slice X3 an3 c3)).setCell ⟨w.heap.size + 1, 11, none⟩ (.int .i64 ae3)) := Below.setCell (p := ⟨w.heap.size + 1, 11, none⟩) (Below.setCell (p := ⟨w.heap.size + 1, 10, none⟩) (Below.setCell (p := ⟨w.heap.size + 1, 9, none⟩) (Below.setCell (p := ⟨w.heap.size + 1, 8, none⟩) (Below.setCell (p := ⟨w.heap.size + 1, 7, none⟩) (Below.setCell (p := ⟨w.heap.size + 1, 6, none⟩) (Below.setCell (p := ⟨w.heap.size + 1, 5, none⟩) (Below.setCell (p := ⟨w.heap.size + 1, 4, none⟩) (Below.setCell (p := ⟨w.heap.size + 1, 3, none⟩) (Below.setCell (p := ⟨w.heap.size + 1, 2, none⟩) (Below.setCell (p := ⟨w.heap.size + 1, 1, none⟩) (Below.setCell (p := ⟨w.heap.size + 1, 0, none⟩) (hb9) (by simp) _) (by simp) _) (by simp) _) (by simp) _) (by simp) _) (by simp) _) (by simp) _) (by simp) _) (by simp) _) (by simp) _) (by simp) _) (by simp) _
  have hof : ∀ {n : Nat} {X : Option Addr} {xs : List Value}, OwnR w4 V.heap.size 52 X n xs → OwnR ((((((((((((w4.setCell ⟨w.heap.size + 1, 0, none⟩ (.bool ag0)).setCell ⟨w.heap.size + 1, 1, none⟩ (.slice X0 an0 c0)).setCell ⟨w.heap.size + 1, 2, none⟩ (.int .i64 ae0)).setCell ⟨w.heap.size + 1, 3, none⟩ (.bool ag1)).setCell ⟨w.heap.size + 1, 4, none⟩ (.slice X1 an1 c1)).setCell ⟨w.heap.size + 1, 5, none⟩ (.int .i64 ae1)).setCell ⟨w.heap.size + 1, 6, none⟩ (.bool ag2)).setCell ⟨w.heap.size + 1, 7, none⟩ (.slice X2 an2 c2)).setCell ⟨w.heap.size + 1, 8, none⟩ (.int .i64 ae2)).setCell ⟨w.heap.size + 1, 9, none⟩ (.bool ag3)).setCell ⟨w.heap.size + 1, 10, none⟩ (.slice X3 an3 c3)).setCell ⟨w.heap.size + 1, 11, none⟩ (.int .i64 ae3)) w.heap.size 52 X n xs := fun h => OwnR.base_le (OwnR.far (p := ⟨w.heap.size + 1, 11, none⟩) (OwnR.far (p := ⟨w.heap.size + 1, 10, none⟩) (OwnR.far (p := ⟨w.heap.size + 1, 9, none⟩) (OwnR.far (p := ⟨w.heap.size + 1, 8, none⟩) (OwnR.far (p := ⟨w.heap.size + 1, 7, none⟩) (OwnR.far (p := ⟨w.heap.size + 1, 6, none⟩) (OwnR.far (p := ⟨w.heap.size + 1, 5, none⟩) (OwnR.far (p := ⟨w.heap.size + 1, 4, none⟩) (OwnR.far (p := ⟨w.heap.size + 1, 3, none⟩) (OwnR.far (p := ⟨w.heap.size + 1, 2, none⟩) (OwnR.far (p := ⟨w.heap.size + 1, 1, none⟩) (OwnR.far (p := ⟨w.heap.size + 1, 0, none⟩) (h) (by simp; omega) _) (by simp; omega) _) (by simp; omega) _) (by simp; omega) _) (by simp; omega) _) (by simp; omega) _) (by simp; omega) _) (by simp; omega) _) (by simp; omega) _) (by simp; omega) _) (by simp; omega) _) (by simp; omega) _) (by omega)
  have o3 := hof (ho3.base_le hs2)
  have o2 := hof ((ho2.below hb3).base_le hs1)
  have o1 := hof (((ho1.below hb2).below hb3).base_le hs0)
  have o0 := hof (((ho0.below hb1).below hb2).below hb3)
  clear hof B5 y0 yf0 y1 yf1 y2 yf2 y3 yf3 y4 yf4 y5 yf5 y6 yf6 y7 yf7 y8 yf8 y9 yf9 y10 yf10 y11 yf11 kc kc4 hb0 hb1 hb2 hb3 hb0V hb1V hb2V hb3V hw0 hw1 hw2 hw3
  go_wp2
  refine ⟨rfl, .agg #[.bool ag0, .slice X0 an0 c0, .int .i64 ae0, .bool ag1, .slice X1 an1 c1, .int .i64 ae1, .bool ag2, .slice X2 an2 c2, .int .i64 ae2, .bool ag3, .slice X3 an3 c3, .int .i64 ae3], ?_, X0, c0, X1, c1, X2, c2, X3, c3, rfl, ⟨hco0, o0⟩, ⟨hco1, o1⟩, ⟨hco2, o2⟩, ⟨hco3, o3⟩, hb10⟩
  simp [results, Try.f30, go_sem, q0, q1, q2, q3, q4, q5, q6, q7, q8, q9, q10, q11]
end Go.Proofs.Ytjmhefkmpfkpbaa
