/- Flight: may masses be: the reference's answer | Flight: masses that may be: the program's answer | Flight: loads that may be: the program's answer | Flight: loads that may be: the reference's answer | Flight: the load of a number: first, found | Flight: the reference's asked and Place -/
import Derived.OwnWalk
import Derived.Test.YtdmjdpaehnhdoaaDoorLJ
import Derived.Test.YtdmjdpaehnhdoaaDoorKA
import Derived.Test.YtdmjdpaehnhdoaaDoorLH
namespace Go.Proofs.YtdmjdpaehnhdoaaDoor
open Go.ChangeShapes Go.WideShapes Go.ChangeAt Go.RowKit
set_option linter.unusedSimpArgs false
set_option linter.unusedVariables false
def mayd (d : Dy) : Bool := mayD d.neg (d.ls.map Int.ofNat) d.ex
def mayM (m : Ms) : Bool := mayd m.s && (mayd m.w && (mayd m.c && mayd m.a))
theorem ints_u32s (l : List Nat) : ints .u32 l = u32s (l.map Int.ofNat) := by simp [ints, u32s, List.map_map]
theorem rdmay_any (g : Bool) (X : Option Addr) (n c : Nat) (e : Int) (d : Dy) (Q : Bool) (hQ : mayd d = Q) (w : World) (h : RdD w w.heap.size g X n c e d) :
    Calls Tryd.prog 87 #[.agg #[.bool g, .slice X n c, .int .i64 e]] w fun en w' => en = .returned (.bool Q) ∧ Below w.heap.size w w' := by
  obtain ⟨rfl, rfl, h3, h4, h5⟩ := h
  have := dmay_any d.neg X n c (d.ls.map Int.ofNat) (by simpa using h3) (fun x hx => by obtain ⟨y, _, rfl⟩ := List.mem_map.1 hx; simp) d.ex w (by rw [← ints_u32s]; exact h5)
  unfold mayd at hQ
  rw [hQ] at this
  refine this.mono fun en w' hh => ⟨?_, hh.2⟩
  rw [hh.1]
  cases Q <;> rfl
theorem dcheck_d (g : Bool) (X : Option Addr) (n c : Nat) (e : Int) (d : Dy) (Q : Bool) (hQ : mayd d = Q) (w : World) (h : RdD w w.heap.size g X n c e d) :
    Calls Tryd.prog 76 #[.agg #[.bool g, .slice X n c, .int .i64 e]] w fun en w' => en = .returned (.int .i64 (if Q = true then 0 else 8)) ∧ Below w.heap.size w w' := by
  obtain ⟨rfl, rfl, h3, h4, h5⟩ := h
  have := dcheck_any d.neg X n c (d.ls.map Int.ofNat) (by simpa using h3) (fun x hx => by obtain ⟨y, _, rfl⟩ := List.mem_map.1 hx; simp) d.ex w (by rw [← ints_u32s]; exact h5)
  unfold mayd at hQ
  rw [hQ] at this
  refine this.mono fun en w' hh => ⟨?_, hh.2⟩
  rw [hh.1]
  cases Q <;> rfl
set_option maxHeartbeats 8000000 in
theorem rmmay_any (ag0 : Bool) (aX0 : Option Addr) (an0 ac0 : Nat) (ae0 : Int) (ag1 : Bool) (aX1 : Option Addr) (an1 ac1 : Nat) (ae1 : Int) (ag2 : Bool) (aX2 : Option Addr) (an2 ac2 : Nat) (ae2 : Int) (ag3 : Bool) (aX3 : Option Addr) (an3 ac3 : Nat) (ae3 : Int) (m : Ms) (R : Bool) (hR : mayM m = R) (w : World) (ra : RdM w w.heap.size ag0 aX0 an0 ac0 ae0 ag1 aX1 an1 ac1 ae1 ag2 aX2 an2 ac2 ae2 ag3 aX3 an3 ac3 ae3 m) :
    Calls Tryd.prog 60 #[.agg #[.bool ag0, .slice aX0 an0 ac0, .int .i64 ae0, .bool ag1, .slice aX1 an1 ac1, .int .i64 ae1, .bool ag2, .slice aX2 an2 ac2, .int .i64 ae2, .bool ag3, .slice aX3 an3 ac3, .int .i64 ae3]] w fun en w' => en = .returned (.bool R) ∧ Below w.heap.size w w' := by
  obtain ⟨V, hV⟩ : ∃ V, V = w.alloc (.cells #[.bool ag0, .slice aX0 an0 ac0, .int .i64 ae0, .bool ag1, .slice aX1 an1 ac1, .int .i64 ae1, .bool ag2, .slice aX2 an2 ac2, .int .i64 ae2, .bool ag3, .slice aX3 an3 ac3, .int .i64 ae3] 27) := ⟨_, rfl⟩
  have hB : Below w.heap.size w V := by rw [hV]; exact (Below.refl w.heap.size w).alloc (Nat.le_refl _) _
  have kb : Blk V w.heap.size 27 #[.bool ag0, .slice aX0 an0 ac0, .int .i64 ae0, .bool ag1, .slice aX1 an1 ac1, .int .i64 ae1, .bool ag2, .slice aX2 an2 ac2, .int .i64 ae2, .bool ag3, .slice aX3 an3 ac3, .int .i64 ae3] := by rw [hV]; exact Blk.new w _ _
  unfold mayM at hR
  obtain ⟨Q0, hQ0⟩ : ∃ Q, mayd m.s = Q := ⟨_, rfl⟩
  have hc0 := fun w' (h : Below V.heap.size V w') => rdmay_any ag0 aX0 an0 ac0 ae0 m.s Q0 hQ0 w' (ra.1.below (hB.trans (h.mono hB.size)) (hB.trans (h.mono hB.size)).size)
  obtain ⟨Q1, hQ1⟩ : ∃ Q, mayd m.w = Q := ⟨_, rfl⟩
  have hc1 := fun w' (h : Below V.heap.size V w') => rdmay_any ag1 aX1 an1 ac1 ae1 m.w Q1 hQ1 w' (ra.2.1.below (hB.trans (h.mono hB.size)) (hB.trans (h.mono hB.size)).size)
  obtain ⟨Q2, hQ2⟩ : ∃ Q, mayd m.c = Q := ⟨_, rfl⟩
  have hc2 := fun w' (h : Below V.heap.size V w') => rdmay_any ag2 aX2 an2 ac2 ae2 m.c Q2 hQ2 w' (ra.2.2.1.below (hB.trans (h.mono hB.size)) (hB.trans (h.mono hB.size)).size)
  obtain ⟨Q3, hQ3⟩ : ∃ Q, mayd m.a = Q := ⟨_, rfl⟩
  have hc3 := fun w' (h : Below V.heap.size V w') => rdmay_any ag3 aX3 an3 ac3 ae3 m.a Q3 hQ3 w' (ra.2.2.2.below (hB.trans (h.mono hB.size)) (hB.trans (h.mono hB.size)).size)
  rw [hQ0, hQ1, hQ2, hQ3] at hR
  clear hQ0 hQ1 hQ2 hQ3 ra
  cases Q0 with
  | true =>
    cases Q1 with
    | true =>
      cases Q2 with
      | true =>
        cases Q3 with
        | true =>
          simp only [Bool.or_true, Bool.true_or, Bool.or_false, Bool.false_or, Bool.and_true, Bool.true_and, Bool.and_false, Bool.false_and] at hR
          subst hR
          go_enter Tryd.func60, Tryd.ntmps60
          go_wp2_with fail
          rw [← hV]
          clear hV
          refine (hc0 _ (Below.refl _ _)).mono ?_
          rintro en w1 ⟨rfl, hb1⟩
          have hB1 := hB.trans (hb1.mono hB.size)
          have kb1 := kb.below (hb1) kb.lt
          have x0_0 := kb1.cell 0
          have x0_1 := kb1.cell 1
          have x0_2 := kb1.cell 2
          have x0_3 := kb1.cell 3
          have x0_4 := kb1.cell 4
          have x0_5 := kb1.cell 5
          have x0_6 := kb1.cell 6
          have x0_7 := kb1.cell 7
          have x0_8 := kb1.cell 8
          have x0_9 := kb1.cell 9
          have x0_10 := kb1.cell 10
          have x0_11 := kb1.cell 11
          simp only [lgA, lgZ, lgS] at x0_0 x0_1 x0_2 x0_3 x0_4 x0_5 x0_6 x0_7 x0_8 x0_9 x0_10 x0_11
          go_wp2_with fail
          refine (hc1 _ (hb1)).mono ?_
          rintro en w2 ⟨rfl, hb2⟩
          have hB2 := hB1.trans (hb2.mono hB1.size)
          have kb2 := kb.below ((hb1).trans (hb2.mono (hb1).size)) kb.lt
          have x1_0 := kb2.cell 0
          have x1_1 := kb2.cell 1
          have x1_2 := kb2.cell 2
          have x1_3 := kb2.cell 3
          have x1_4 := kb2.cell 4
          have x1_5 := kb2.cell 5
          have x1_6 := kb2.cell 6
          have x1_7 := kb2.cell 7
          have x1_8 := kb2.cell 8
          have x1_9 := kb2.cell 9
          have x1_10 := kb2.cell 10
          have x1_11 := kb2.cell 11
          simp only [lgA, lgZ, lgS] at x1_0 x1_1 x1_2 x1_3 x1_4 x1_5 x1_6 x1_7 x1_8 x1_9 x1_10 x1_11
          go_wp2_with fail
          refine (hc2 _ ((hb1).trans (hb2.mono (hb1).size))).mono ?_
          rintro en w3 ⟨rfl, hb3⟩
          have hB3 := hB2.trans (hb3.mono hB2.size)
          have kb3 := kb.below (((hb1).trans (hb2.mono (hb1).size)).trans (hb3.mono ((hb1).trans (hb2.mono (hb1).size)).size)) kb.lt
          have x2_0 := kb3.cell 0
          have x2_1 := kb3.cell 1
          have x2_2 := kb3.cell 2
          have x2_3 := kb3.cell 3
          have x2_4 := kb3.cell 4
          have x2_5 := kb3.cell 5
          have x2_6 := kb3.cell 6
          have x2_7 := kb3.cell 7
          have x2_8 := kb3.cell 8
          have x2_9 := kb3.cell 9
          have x2_10 := kb3.cell 10
          have x2_11 := kb3.cell 11
          simp only [lgA, lgZ, lgS] at x2_0 x2_1 x2_2 x2_3 x2_4 x2_5 x2_6 x2_7 x2_8 x2_9 x2_10 x2_11
          go_wp2_with fail
          refine (hc3 _ (((hb1).trans (hb2.mono (hb1).size)).trans (hb3.mono ((hb1).trans (hb2.mono (hb1).size)).size))).mono ?_
          rintro en w4 ⟨rfl, hb4⟩
          have hB4 := hB3.trans (hb4.mono hB3.size)
          go_wp2
          go_ret
          exact ⟨rfl, hB4⟩
        | false =>
          simp only [Bool.or_true, Bool.true_or, Bool.or_false, Bool.false_or, Bool.and_true, Bool.true_and, Bool.and_false, Bool.false_and] at hR
          subst hR
          go_enter Tryd.func60, Tryd.ntmps60
          go_wp2_with fail
          rw [← hV]
          clear hV
          refine (hc0 _ (Below.refl _ _)).mono ?_
          rintro en w1 ⟨rfl, hb1⟩
          have hB1 := hB.trans (hb1.mono hB.size)
          have kb1 := kb.below (hb1) kb.lt
          have x0_0 := kb1.cell 0
          have x0_1 := kb1.cell 1
          have x0_2 := kb1.cell 2
          have x0_3 := kb1.cell 3
          have x0_4 := kb1.cell 4
          have x0_5 := kb1.cell 5
          have x0_6 := kb1.cell 6
          have x0_7 := kb1.cell 7
          have x0_8 := kb1.cell 8
          have x0_9 := kb1.cell 9
          have x0_10 := kb1.cell 10
          have x0_11 := kb1.cell 11
          simp only [lgA, lgZ, lgS] at x0_0 x0_1 x0_2 x0_3 x0_4 x0_5 x0_6 x0_7 x0_8 x0_9 x0_10 x0_11
          go_wp2_with fail
          refine (hc1 _ (hb1)).mono ?_
          rintro en w2 ⟨rfl, hb2⟩
          have hB2 := hB1.trans (hb2.mono hB1.size)
          have kb2 := kb.below ((hb1).trans (hb2.mono (hb1).size)) kb.lt
          have x1_0 := kb2.cell 0
          have x1_1 := kb2.cell 1
          have x1_2 := kb2.cell 2
          have x1_3 := kb2.cell 3
          have x1_4 := kb2.cell 4
          have x1_5 := kb2.cell 5
          have x1_6 := kb2.cell 6
          have x1_7 := kb2.cell 7
          have x1_8 := kb2.cell 8
          have x1_9 := kb2.cell 9
          have x1_10 := kb2.cell 10
          have x1_11 := kb2.cell 11
          simp only [lgA, lgZ, lgS] at x1_0 x1_1 x1_2 x1_3 x1_4 x1_5 x1_6 x1_7 x1_8 x1_9 x1_10 x1_11
          go_wp2_with fail
          refine (hc2 _ ((hb1).trans (hb2.mono (hb1).size))).mono ?_
          rintro en w3 ⟨rfl, hb3⟩
          have hB3 := hB2.trans (hb3.mono hB2.size)
          have kb3 := kb.below (((hb1).trans (hb2.mono (hb1).size)).trans (hb3.mono ((hb1).trans (hb2.mono (hb1).size)).size)) kb.lt
          have x2_0 := kb3.cell 0
          have x2_1 := kb3.cell 1
          have x2_2 := kb3.cell 2
          have x2_3 := kb3.cell 3
          have x2_4 := kb3.cell 4
          have x2_5 := kb3.cell 5
          have x2_6 := kb3.cell 6
          have x2_7 := kb3.cell 7
          have x2_8 := kb3.cell 8
          have x2_9 := kb3.cell 9
          have x2_10 := kb3.cell 10
          have x2_11 := kb3.cell 11
          simp only [lgA, lgZ, lgS] at x2_0 x2_1 x2_2 x2_3 x2_4 x2_5 x2_6 x2_7 x2_8 x2_9 x2_10 x2_11
          go_wp2_with fail
          refine (hc3 _ (((hb1).trans (hb2.mono (hb1).size)).trans (hb3.mono ((hb1).trans (hb2.mono (hb1).size)).size))).mono ?_
          rintro en w4 ⟨rfl, hb4⟩
          have hB4 := hB3.trans (hb4.mono hB3.size)
          go_wp2
          go_ret
          exact ⟨rfl, hB4⟩
      | false =>
        simp only [Bool.or_true, Bool.true_or, Bool.or_false, Bool.false_or, Bool.and_true, Bool.true_and, Bool.and_false, Bool.false_and] at hR
        subst hR
        go_enter Tryd.func60, Tryd.ntmps60
        go_wp2_with fail
        rw [← hV]
        clear hV
        refine (hc0 _ (Below.refl _ _)).mono ?_
        rintro en w1 ⟨rfl, hb1⟩
        have hB1 := hB.trans (hb1.mono hB.size)
        have kb1 := kb.below (hb1) kb.lt
        have x0_0 := kb1.cell 0
        have x0_1 := kb1.cell 1
        have x0_2 := kb1.cell 2
        have x0_3 := kb1.cell 3
        have x0_4 := kb1.cell 4
        have x0_5 := kb1.cell 5
        have x0_6 := kb1.cell 6
        have x0_7 := kb1.cell 7
        have x0_8 := kb1.cell 8
        have x0_9 := kb1.cell 9
        have x0_10 := kb1.cell 10
        have x0_11 := kb1.cell 11
        simp only [lgA, lgZ, lgS] at x0_0 x0_1 x0_2 x0_3 x0_4 x0_5 x0_6 x0_7 x0_8 x0_9 x0_10 x0_11
        go_wp2_with fail
        refine (hc1 _ (hb1)).mono ?_
        rintro en w2 ⟨rfl, hb2⟩
        have hB2 := hB1.trans (hb2.mono hB1.size)
        have kb2 := kb.below ((hb1).trans (hb2.mono (hb1).size)) kb.lt
        have x1_0 := kb2.cell 0
        have x1_1 := kb2.cell 1
        have x1_2 := kb2.cell 2
        have x1_3 := kb2.cell 3
        have x1_4 := kb2.cell 4
        have x1_5 := kb2.cell 5
        have x1_6 := kb2.cell 6
        have x1_7 := kb2.cell 7
        have x1_8 := kb2.cell 8
        have x1_9 := kb2.cell 9
        have x1_10 := kb2.cell 10
        have x1_11 := kb2.cell 11
        simp only [lgA, lgZ, lgS] at x1_0 x1_1 x1_2 x1_3 x1_4 x1_5 x1_6 x1_7 x1_8 x1_9 x1_10 x1_11
        go_wp2_with fail
        refine (hc2 _ ((hb1).trans (hb2.mono (hb1).size))).mono ?_
        rintro en w3 ⟨rfl, hb3⟩
        have hB3 := hB2.trans (hb3.mono hB2.size)
        go_wp2
        go_ret
        exact ⟨rfl, hB3⟩
    | false =>
      simp only [Bool.or_true, Bool.true_or, Bool.or_false, Bool.false_or, Bool.and_true, Bool.true_and, Bool.and_false, Bool.false_and] at hR
      subst hR
      go_enter Tryd.func60, Tryd.ntmps60
      go_wp2_with fail
      rw [← hV]
      clear hV
      refine (hc0 _ (Below.refl _ _)).mono ?_
      rintro en w1 ⟨rfl, hb1⟩
      have hB1 := hB.trans (hb1.mono hB.size)
      have kb1 := kb.below (hb1) kb.lt
      have x0_0 := kb1.cell 0
      have x0_1 := kb1.cell 1
      have x0_2 := kb1.cell 2
      have x0_3 := kb1.cell 3
      have x0_4 := kb1.cell 4
      have x0_5 := kb1.cell 5
      have x0_6 := kb1.cell 6
      have x0_7 := kb1.cell 7
      have x0_8 := kb1.cell 8
      have x0_9 := kb1.cell 9
      have x0_10 := kb1.cell 10
      have x0_11 := kb1.cell 11
      simp only [lgA, lgZ, lgS] at x0_0 x0_1 x0_2 x0_3 x0_4 x0_5 x0_6 x0_7 x0_8 x0_9 x0_10 x0_11
      go_wp2_with fail
      refine (hc1 _ (hb1)).mono ?_
      rintro en w2 ⟨rfl, hb2⟩
      have hB2 := hB1.trans (hb2.mono hB1.size)
      go_wp2
      go_ret
      exact ⟨rfl, hB2⟩
  | false =>
    simp only [Bool.or_true, Bool.true_or, Bool.or_false, Bool.false_or, Bool.and_true, Bool.true_and, Bool.and_false, Bool.false_and] at hR
    subst hR
    go_enter Tryd.func60, Tryd.ntmps60
    go_wp2_with fail
    rw [← hV]
    clear hV
    refine (hc0 _ (Below.refl _ _)).mono ?_
    rintro en w1 ⟨rfl, hb1⟩
    have hB1 := hB.trans (hb1.mono hB.size)
    go_wp2
    go_ret
    exact ⟨rfl, hB1⟩
end Go.Proofs.YtdmjdpaehnhdoaaDoor
namespace Go.Proofs.YtdmjdpaehnhdoaaDoor
open Go.Shelf Go.ChangeShapes Go.WideShapes Go.ChangeAt Go.RowKit
set_option linter.unusedSimpArgs false
set_option linter.unusedVariables false
attribute [local go_sem] Oper.semAt_some
set_option maxRecDepth 100000 in
set_option maxHeartbeats 8000000 in
theorem mcheck_any (ag0 : Bool) (aX0 : Option Addr) (an0 ac0 : Nat) (ae0 : Int) (ag1 : Bool) (aX1 : Option Addr) (an1 ac1 : Nat) (ae1 : Int) (ag2 : Bool) (aX2 : Option Addr) (an2 ac2 : Nat) (ae2 : Int) (ag3 : Bool) (aX3 : Option Addr) (an3 ac3 : Nat) (ae3 : Int) (m : Ms) (w : World) (ra : RdM w w.heap.size ag0 aX0 an0 ac0 ae0 ag1 aX1 an1 ac1 ae1 ag2 aX2 an2 ac2 ae2 ag3 aX3 an3 ac3 ae3 m) (R : Bool) (hR : mayM m = R) :
    Calls Tryd.prog 54 #[.agg #[.bool ag0, .slice aX0 an0 ac0, .int .i64 ae0, .bool ag1, .slice aX1 an1 ac1, .int .i64 ae1, .bool ag2, .slice aX2 an2 ac2, .int .i64 ae2, .bool ag3, .slice aX3 an3 ac3, .int .i64 ae3]] w fun en w' => en = .returned (.int .i64 (if R = true then 0 else 8)) ∧ Below w.heap.size w w' := by
  refine (callsIn_wide (n := 6)).1 ?_
  refine callsIn_of_wp_marks Tryd.func54 rfl trivial ?_ rfl
  simp only [Tryd.ntmps54, List.size_toArray, List.length_cons, List.length_nil, Nat.reduceAdd, Nat.reduceSub, Array.replicate_succ, Array.replicate_zero, List.push_toArray, List.append_toArray, List.nil_append, List.cons_append]
  have gra := Lib.hid ra
  have gR := Lib.hid hR
  clear ra hR
  have hpt := parts_any ⟨w.heap.size, 0, none⟩ ⟨w.heap.size, 0, none⟩ ((w.alloc (.cells #[.bool ag0, .slice aX0 an0 ac0, .int .i64 ae0, .bool ag1, .slice aX1 an1 ac1, .int .i64 ae1, .bool ag2, .slice aX2 an2 ac2, .int .i64 ae2, .bool ag3, .slice aX3 an3 ac3, .int .i64 ae3] 27)).alloc (.cells #[.int .i64 0] 37))
  simp only [World.size_alloc] at hpt
  obtain ⟨W5, hW5⟩ : ∃ W5, W5 = ((((w.alloc (.cells #[.bool ag0, .slice aX0 an0 ac0, .int .i64 ae0, .bool ag1, .slice aX1 an1 ac1, .int .i64 ae1, .bool ag2, .slice aX2 an2 ac2, .int .i64 ae2, .bool ag3, .slice aX3 an3 ac3, .int .i64 ae3] 27)).alloc (.cells #[.int .i64 0] 37)).alloc (.cells #[.pointer (some ⟨w.heap.size, 0, none⟩)] 79)).alloc (.cells #[.pointer (some ⟨w.heap.size, 0, none⟩)] 79)) := ⟨_, rfl⟩
  have B0 : Blk W5 w.heap.size 27 #[.bool ag0, .slice aX0 an0 ac0, .int .i64 ae0, .bool ag1, .slice aX1 an1 ac1, .int .i64 ae1, .bool ag2, .slice aX2 an2 ac2, .int .i64 ae2, .bool ag3, .slice aX3 an3 ac3, .int .i64 ae3] := by rw [hW5]; exact (((Blk.new w _ _).alloc _).alloc _).alloc _
  have B2 : Blk W5 (w.heap.size + 1) 37 #[.int .i64 0] := by
    have := ((Blk.new (w.alloc (.cells #[.bool ag0, .slice aX0 an0 ac0, .int .i64 ae0, .bool ag1, .slice aX1 an1 ac1, .int .i64 ae1, .bool ag2, .slice aX2 an2 ac2, .int .i64 ae2, .bool ag3, .slice aX3 an3 ac3, .int .i64 ae3] 27)) 37 #[.int .i64 0]).alloc (.cells #[.pointer (some ⟨w.heap.size, 0, none⟩)] 79)).alloc (.cells #[.pointer (some ⟨w.heap.size, 0, none⟩)] 79)
    rw [World.size_alloc] at this
    rw [hW5]; exact this
  have B3 : Blk W5 (w.heap.size + 2) 79 #[.pointer (some ⟨w.heap.size, 0, none⟩)] := by
    have := (Blk.new ((w.alloc (.cells #[.bool ag0, .slice aX0 an0 ac0, .int .i64 ae0, .bool ag1, .slice aX1 an1 ac1, .int .i64 ae1, .bool ag2, .slice aX2 an2 ac2, .int .i64 ae2, .bool ag3, .slice aX3 an3 ac3, .int .i64 ae3] 27)).alloc (.cells #[.int .i64 0] 37)) 79 #[.pointer (some ⟨w.heap.size, 0, none⟩)]).alloc (.cells #[.pointer (some ⟨w.heap.size, 0, none⟩)] 79)
    simp only [World.size_alloc] at this
    rw [hW5]; exact this
  have B4 : Blk W5 (w.heap.size + 3) 79 #[.pointer (some ⟨w.heap.size, 0, none⟩)] := by
    have := Blk.new (((w.alloc (.cells #[.bool ag0, .slice aX0 an0 ac0, .int .i64 ae0, .bool ag1, .slice aX1 an1 ac1, .int .i64 ae1, .bool ag2, .slice aX2 an2 ac2, .int .i64 ae2, .bool ag3, .slice aX3 an3 ac3, .int .i64 ae3] 27)).alloc (.cells #[.int .i64 0] 37)).alloc (.cells #[.pointer (some ⟨w.heap.size, 0, none⟩)] 79)) 79 #[.pointer (some ⟨w.heap.size, 0, none⟩)]
    simp only [World.size_alloc] at this
    rw [hW5]; exact this
  have hB : Below w.heap.size w W5 := by rw [hW5]; exact ((((Below.refl _ w).alloc (Nat.le_refl _) _).alloc (by simp) _).alloc (by simp; omega) _).alloc (by simp; omega) _
  have sz : W5.heap.size = w.heap.size + 4 := by rw [hW5]; simp
  have gsz := Lib.hid sz
  gi_wp2_with (refine ⟨trivial, ?_⟩; gi_at_call 50; refine (callsIn_wide.2 hpt).mono ?_; rintro e W' ⟨rfl, rfl⟩)
  rw [← hW5]
  clear hW5 hpt sz
  have q3 := B3.cell 0
  have q4 := B4.cell 0
  simp only [List.getElem?_toArray, List.getElem?_cons_zero] at q3 q4
  refine wpIn_rangeFunc_ownF rfl (by omega) (gf := 75) (lb := #[.pointer (some ⟨w.heap.size + 2, 0, none⟩), .pointer (some ⟨w.heap.size + 3, 0, none⟩)]) rfl trivial (enters_of Tryd.func75 (by kernel_rfl) rfl)
    (parts_seq _ _ _ _ _ (by omega) W5 q3 q4) kpM_t (kpM_b (by rw [gsz.out]; omega) (by rw [gsz.out]; omega)) (Below.refl _ _) (fun _ => rfl)
    (fun pre W => (Hid (∀ y ∈ pre, mayd (prt m y.1) = true) ∧ Blk W w.heap.size 27 #[.bool ag0, .slice aX0 an0 ac0, .int .i64 ae0, .bool ag1, .slice aX1 an1 ac1, .int .i64 ae1, .bool ag2, .slice aX2 an2 ac2, .int .i64 ae2, .bool ag3, .slice aX3 an3 ac3, .int .i64 ae3] ∧ Blk W (w.heap.size + 1) 37 #[.int .i64 0] ∧ Blk W (w.heap.size + 2) 79 #[.pointer (some ⟨w.heap.size, 0, none⟩)] ∧ Blk W (w.heap.size + 3) 79 #[.pointer (some ⟨w.heap.size, 0, none⟩)]) ∧ Below w.heap.size w W)
    (fun c pre W => (c = .ret ∧ Hid (mayM m = false) ∧ Blk W (w.heap.size + 1) 37 #[.int .i64 8]) ∧ Below w.heap.size w W)
    (OwnFrom.and (Own.from (fun s A B row hs hg hr => ⟨hs.1, blk_own (β := List P4) _ _ (fun _ => _) s A B row hs.2.1 hg hr, blk_own (β := List P4) _ _ (fun _ => _) s A B row hs.2.2.1 hg hr, blk_own (β := List P4) _ _ (fun _ => _) s A B row hs.2.2.2.1 hg hr, blk_own (β := List P4) _ _ (fun _ => _) s A B row hs.2.2.2.2 hg hr⟩) _) (ownFrom_below (Nat.le_refl _) (by rw [gsz.out]; omega)))
    (fun c => OwnFrom.and (Own.from (fun s A B row hs hg hr => ⟨hs.1, hs.2.1, blk_own (β := List P4) _ _ (fun _ => _) s A B row hs.2.2 hg hr⟩) _) (ownFrom_below (Nat.le_refl _) (by rw [gsz.out]; omega)))
    ⟨⟨Lib.hid (fun y hy => by cases hy), B0, B2, B3, B4⟩, hB⟩
    (fun x => { tmps := #[.agg #[.bool ag0, .slice aX0 an0 ac0, .int .i64 ae0, .bool ag1, .slice aX1 an1 ac1, .int .i64 ae1, .bool ag2, .slice aX2 an2 ac2, .int .i64 ae2, .bool ag3, .slice aX3 an3 ac3, .int .i64 ae3], .pointer (some ⟨w.heap.size, 0, none⟩), .pointer (some ⟨w.heap.size + 1, 0, none⟩), .pointer (some ⟨w.heap.size, 3 * x.1, none⟩), undef, .func (.func 75) #[] #[.pointer (some ⟨w.heap.size + 2, 0, none⟩), .pointer (some ⟨w.heap.size + 3, 0, none⟩)], .pointer (some ⟨w.heap.size, 3 * x.1, none⟩), .pointer (some ⟨w.heap.size, 3 * x.1, none⟩), undef, undef, undef, undef, undef, undef, undef], defers := [] }) ?assign ?body ?done ?stop
  case assign =>
    intro l x W K hK
    gi_wp2
    exact hK
  case body =>
    rintro l pre ⟨i, hi⟩ W ⟨⟨h1, h2, h4, h5, h6⟩, hW⟩ _
    have hi4 : i = 0 ∨ i = 1 ∨ i = 2 ∨ i = 3 := by omega
    rcases hi4 with rfl | rfl | rfl | rfl
    · have x0 := h2.cell 0
      have x1 := h2.cell 1
      have x2 := h2.cell 2
      simp only [lgA, lgZ, lgS] at x0 x1 x2
      obtain ⟨Q, hQ⟩ : ∃ Q, mayd m.s = Q := ⟨_, rfl⟩
      have hd := dcheck_d ag0 aX0 an0 ac0 ae0 m.s Q hQ W (gra.out.1.below hW hW.size)
      have gQ := Lib.hid hQ
      clear hQ
      cases Q with
      | true =>
        gi_wp2_with (refine ⟨trivial, ?_⟩; gi_at_call 76; refine (callsIn_wide.2 hd).mono ?_; rintro e w2 ⟨rfl, hb2⟩)
        have hg : W.grownBy w2 none := ⟨hb2.os, hb2.tape, hb2.output, hb2.size, fun k hk _ => hb2.block k hk⟩
        exact ⟨KeepsOthers.of_grownBy hg (fun j o e ho => by cases e), ⟨hb2.cell (p := ⟨w.heap.size + 2, 0, none⟩) h5.lt, hb2.cell (p := ⟨w.heap.size + 3, 0, none⟩) h6.lt⟩, ⟨Lib.hid (fun y hy => (List.mem_append.1 hy).elim (h1.out y) (fun h => by rw [List.mem_singleton.1 h]; exact gQ.out)), h2.below hb2 h2.lt, h4.below hb2 h4.lt, h5.below hb2 h5.lt, h6.below hb2 h6.lt⟩, hW.trans (hb2.mono hW.size)⟩
      | false =>
        gi_wp2_with (refine ⟨trivial, ?_⟩; gi_at_call 76; refine (callsIn_wide.2 hd).mono ?_; rintro e w2 ⟨rfl, hb2⟩; have d0 := (h4.below hb2 h4.lt).cell 0; have f0 := (h4.below hb2 h4.lt).frozen 0; simp only [List.getElem?_toArray, List.getElem?_cons_zero] at d0)
        have hg : W.grownBy w2 none := ⟨hb2.os, hb2.tape, hb2.output, hb2.size, fun k hk _ => hb2.block k hk⟩
        have h8 := (h4.below hb2 h4.lt).set_ 0 (.int .i64 8)
        simp at h8
        exact ⟨(KeepsOthers.of_grownBy hg (fun j o e ho => by cases e)).trans (KeepsOthers.setCell w2 ⟨w.heap.size + 1, 0, none⟩ _), ⟨rfl, Lib.hid (by unfold mayM; simp [gQ.out]), h8⟩, (hW.trans (hb2.mono hW.size)).setCell (p := ⟨w.heap.size + 1, 0, none⟩) (by simp) _⟩
    · have x0 := h2.cell 3
      have x1 := h2.cell 4
      have x2 := h2.cell 5
      simp only [lgA, lgZ, lgS] at x0 x1 x2
      obtain ⟨Q, hQ⟩ : ∃ Q, mayd m.w = Q := ⟨_, rfl⟩
      have hd := dcheck_d ag1 aX1 an1 ac1 ae1 m.w Q hQ W (gra.out.2.1.below hW hW.size)
      have gQ := Lib.hid hQ
      clear hQ
      cases Q with
      | true =>
        gi_wp2_with (refine ⟨trivial, ?_⟩; gi_at_call 76; refine (callsIn_wide.2 hd).mono ?_; rintro e w2 ⟨rfl, hb2⟩)
        have hg : W.grownBy w2 none := ⟨hb2.os, hb2.tape, hb2.output, hb2.size, fun k hk _ => hb2.block k hk⟩
        exact ⟨KeepsOthers.of_grownBy hg (fun j o e ho => by cases e), ⟨hb2.cell (p := ⟨w.heap.size + 2, 0, none⟩) h5.lt, hb2.cell (p := ⟨w.heap.size + 3, 0, none⟩) h6.lt⟩, ⟨Lib.hid (fun y hy => (List.mem_append.1 hy).elim (h1.out y) (fun h => by rw [List.mem_singleton.1 h]; exact gQ.out)), h2.below hb2 h2.lt, h4.below hb2 h4.lt, h5.below hb2 h5.lt, h6.below hb2 h6.lt⟩, hW.trans (hb2.mono hW.size)⟩
      | false =>
        gi_wp2_with (refine ⟨trivial, ?_⟩; gi_at_call 76; refine (callsIn_wide.2 hd).mono ?_; rintro e w2 ⟨rfl, hb2⟩; have d0 := (h4.below hb2 h4.lt).cell 0; have f0 := (h4.below hb2 h4.lt).frozen 0; simp only [List.getElem?_toArray, List.getElem?_cons_zero] at d0)
        have hg : W.grownBy w2 none := ⟨hb2.os, hb2.tape, hb2.output, hb2.size, fun k hk _ => hb2.block k hk⟩
        have h8 := (h4.below hb2 h4.lt).set_ 0 (.int .i64 8)
        simp at h8
        exact ⟨(KeepsOthers.of_grownBy hg (fun j o e ho => by cases e)).trans (KeepsOthers.setCell w2 ⟨w.heap.size + 1, 0, none⟩ _), ⟨rfl, Lib.hid (by unfold mayM; simp [gQ.out]), h8⟩, (hW.trans (hb2.mono hW.size)).setCell (p := ⟨w.heap.size + 1, 0, none⟩) (by simp) _⟩
    · have x0 := h2.cell 6
      have x1 := h2.cell 7
      have x2 := h2.cell 8
      simp only [lgA, lgZ, lgS] at x0 x1 x2
      obtain ⟨Q, hQ⟩ : ∃ Q, mayd m.c = Q := ⟨_, rfl⟩
      have hd := dcheck_d ag2 aX2 an2 ac2 ae2 m.c Q hQ W (gra.out.2.2.1.below hW hW.size)
      have gQ := Lib.hid hQ
      clear hQ
      cases Q with
      | true =>
        gi_wp2_with (refine ⟨trivial, ?_⟩; gi_at_call 76; refine (callsIn_wide.2 hd).mono ?_; rintro e w2 ⟨rfl, hb2⟩)
        have hg : W.grownBy w2 none := ⟨hb2.os, hb2.tape, hb2.output, hb2.size, fun k hk _ => hb2.block k hk⟩
        exact ⟨KeepsOthers.of_grownBy hg (fun j o e ho => by cases e), ⟨hb2.cell (p := ⟨w.heap.size + 2, 0, none⟩) h5.lt, hb2.cell (p := ⟨w.heap.size + 3, 0, none⟩) h6.lt⟩, ⟨Lib.hid (fun y hy => (List.mem_append.1 hy).elim (h1.out y) (fun h => by rw [List.mem_singleton.1 h]; exact gQ.out)), h2.below hb2 h2.lt, h4.below hb2 h4.lt, h5.below hb2 h5.lt, h6.below hb2 h6.lt⟩, hW.trans (hb2.mono hW.size)⟩
      | false =>
        gi_wp2_with (refine ⟨trivial, ?_⟩; gi_at_call 76; refine (callsIn_wide.2 hd).mono ?_; rintro e w2 ⟨rfl, hb2⟩; have d0 := (h4.below hb2 h4.lt).cell 0; have f0 := (h4.below hb2 h4.lt).frozen 0; simp only [List.getElem?_toArray, List.getElem?_cons_zero] at d0)
        have hg : W.grownBy w2 none := ⟨hb2.os, hb2.tape, hb2.output, hb2.size, fun k hk _ => hb2.block k hk⟩
        have h8 := (h4.below hb2 h4.lt).set_ 0 (.int .i64 8)
        simp at h8
        exact ⟨(KeepsOthers.of_grownBy hg (fun j o e ho => by cases e)).trans (KeepsOthers.setCell w2 ⟨w.heap.size + 1, 0, none⟩ _), ⟨rfl, Lib.hid (by unfold mayM; simp [gQ.out]), h8⟩, (hW.trans (hb2.mono hW.size)).setCell (p := ⟨w.heap.size + 1, 0, none⟩) (by simp) _⟩
    · have x0 := h2.cell 9
      have x1 := h2.cell 10
      have x2 := h2.cell 11
      simp only [lgA, lgZ, lgS] at x0 x1 x2
      obtain ⟨Q, hQ⟩ : ∃ Q, mayd m.a = Q := ⟨_, rfl⟩
      have hd := dcheck_d ag3 aX3 an3 ac3 ae3 m.a Q hQ W (gra.out.2.2.2.below hW hW.size)
      have gQ := Lib.hid hQ
      clear hQ
      cases Q with
      | true =>
        gi_wp2_with (refine ⟨trivial, ?_⟩; gi_at_call 76; refine (callsIn_wide.2 hd).mono ?_; rintro e w2 ⟨rfl, hb2⟩)
        have hg : W.grownBy w2 none := ⟨hb2.os, hb2.tape, hb2.output, hb2.size, fun k hk _ => hb2.block k hk⟩
        exact ⟨KeepsOthers.of_grownBy hg (fun j o e ho => by cases e), ⟨hb2.cell (p := ⟨w.heap.size + 2, 0, none⟩) h5.lt, hb2.cell (p := ⟨w.heap.size + 3, 0, none⟩) h6.lt⟩, ⟨Lib.hid (fun y hy => (List.mem_append.1 hy).elim (h1.out y) (fun h => by rw [List.mem_singleton.1 h]; exact gQ.out)), h2.below hb2 h2.lt, h4.below hb2 h4.lt, h5.below hb2 h5.lt, h6.below hb2 h6.lt⟩, hW.trans (hb2.mono hW.size)⟩
      | false =>
        gi_wp2_with (refine ⟨trivial, ?_⟩; gi_at_call 76; refine (callsIn_wide.2 hd).mono ?_; rintro e w2 ⟨rfl, hb2⟩; have d0 := (h4.below hb2 h4.lt).cell 0; have f0 := (h4.below hb2 h4.lt).frozen 0; simp only [List.getElem?_toArray, List.getElem?_cons_zero] at d0)
        have hg : W.grownBy w2 none := ⟨hb2.os, hb2.tape, hb2.output, hb2.size, fun k hk _ => hb2.block k hk⟩
        have h8 := (h4.below hb2 h4.lt).set_ 0 (.int .i64 8)
        simp at h8
        exact ⟨(KeepsOthers.of_grownBy hg (fun j o e ho => by cases e)).trans (KeepsOthers.setCell w2 ⟨w.heap.size + 1, 0, none⟩ _), ⟨rfl, Lib.hid (by unfold mayM; simp [gQ.out]), h8⟩, (hW.trans (hb2.mono hW.size)).setCell (p := ⟨w.heap.size + 1, 0, none⟩) (by simp) _⟩
  case done =>
    rintro D ys W hD rfl ⟨⟨h1, h2, h4, _, _⟩, hW⟩ hK
    have hmk : mayM m = true := by
      have h := h1.out
      have e0 := h p0 (by simp)
      have e1 := h p1 (by simp)
      have e2 := h p2 (by simp)
      have e3 := h p3 (by simp)
      unfold mayM
      simp only [prt, p0, p1, p2, p3] at e0 e1 e2 e3
      rw [e0, e1, e2, e3]; rfl
    obtain rfl : true = R := by rw [← gR.out]; exact hmk.symm
    clear hmk gR
    have d0 := h4.cell 0
    have f0 := h4.frozen 0
    simp only [List.getElem?_toArray, List.getElem?_cons_zero] at d0
    have hD' : w.heap.size + 4 ≤ D := by rw [gsz.out] at hD; exact hD
    have hDl : D < W.heap.size := (Array.getElem?_eq_some_iff.1 hK).1
    have hK2 := (KeepsOthers.setCell W ⟨w.heap.size + 1, 0, none⟩ (.int .i64 0)).same D _ hK rfl
    have B5 := h4.set_ 0 (.int .i64 0)
    have B6 := B5.grown (grownBy_putObj' _ D (.deferred none)) (by simp; omega)
    have q0 := B6.cell 0
    simp at q0
    clear B5 B6 h1 h2 h4
    gi_wp2
    refine ⟨by simp, .inl ⟨_, _, rfl, run_takeDeferred hK2, ?_⟩⟩
    refine ⟨.int .i64 0, ?_, rfl, (hW.setCell (p := ⟨w.heap.size + 1, 0, none⟩) (by simp) _).trans (belowK_b (w := w) (Nat.le_refl _) _ D _ _ (by omega) hK2 rfl rfl)⟩
    simp [results, Tryd.f54, go_sem, q0]
  case stop =>
    rintro D c pre W hD _ ⟨⟨rfl, h1, h2⟩, hW⟩ hK
    obtain rfl : false = R := by rw [← gR.out]; exact h1.out.symm
    clear gR
    have hDl : D < W.heap.size := (Array.getElem?_eq_some_iff.1 hK).1
    have hD' : w.heap.size + 4 ≤ D := by rw [gsz.out] at hD; exact hD
    have B6 := h2.grown (grownBy_putObj' _ D (.deferred none)) (by simp; omega)
    have q0 := B6.cell 0
    simp at q0
    clear B6 h1 h2
    gi_wp2
    refine ⟨by simp, .inl ⟨_, _, rfl, run_takeDeferred hK, ?_⟩⟩
    refine ⟨.int .i64 8, ?_, rfl, hW.trans (belowK_b (w := w) (Nat.le_refl _) _ D _ _ (by omega) hK rfl rfl)⟩
    simp [results, Tryd.f54, go_sem, q0]
end Go.Proofs.YtdmjdpaehnhdoaaDoor
namespace Go.Proofs.YtdmjdpaehnhdoaaDoor
open Go.ChangeShapes Go.WideShapes Go.ChangeAt Go.RowKit
set_option linter.unusedSimpArgs false
set_option linter.unusedVariables false
def oneF (P : Int) (x : En) : Prop := P < x.nu ∧ x.nu ≤ 1048575 ∧ 0 ≤ x.ep ∧ x.ep ≤ 65535 ∧ 1 ≤ x.cp ∧ x.cp ≤ 16 ∧ mayM x.give = true
def lastN (l : List En) : Nat → Int
  | 0 => -1
  | k + 1 => match l[k]? with
    | some x => x.nu
    | none => -1
/-- Loads that may be. -/
def goodF (l : List En) : Prop := ∀ k x, l[k]? = some x → oneF (lastN l k) x
def ChkF (l : List En) (E : Int) : Prop := (16 < l.length ∧ E = 4) ∨ (l.length ≤ 16 ∧ goodF l ∧ E = 0) ∨ (l.length ≤ 16 ∧ ¬ goodF l ∧ E = 8)
set_option maxRecDepth 100000 in
set_option maxHeartbeats 8000000 in
theorem fcheck_any (A : Option Addr) (n c : Nat) (l : List En) (hm : n ≤ maxLen) (w : World) (h1 : Ens w w.heap.size A n l) : Calls Tryd.prog 32 #[.slice A n c] w fun en w' => ∃ E, en = .returned (.int .i64 E) ∧ ChkF l E ∧ Below w.heap.size w w' := by
  have gln := Lib.hid (ens_len h1)
  by_cases hb : 16 < n
  · have d5 : decide ((16 : Int) < n) = true := decide_eq_true (by omega)
    have d6 : decide (16 < n) = true := decide_eq_true hb
    have g4 : Hid (ChkF l 4) := Lib.hid (.inl ⟨by rw [gln.out]; exact hb, rfl⟩)
    clear h1 hb hm
    go_enter Tryd.func32, Tryd.ntmps32
    go_wp2
    go_ret
    exact ⟨4, rfl, g4.out, Below.refl _ _⟩
  have gn : Hid (l.length ≤ 16) := Lib.hid (by rw [gln.out]; omega)
  have hn : n ≤ 16 := by omega
  have d5 : decide ((16 : Int) < n) = false := decide_eq_false (by omega)
  have d6 : decide (16 < n) = false := decide_eq_false hb
  have hB0 := Below.refl w.heap.size w
  clear hb
  go_enter Tryd.func32, Tryd.ntmps32
  go_wp2
  go_loopw [3, 11] (fun o t wr => ∃ (k : Nat) (P : Int), k ≤ n ∧ o = .int .i64 P ∧ t = .int .i64 (k : Int) ∧ Hid (P = lastN l k) ∧ Hid (∀ j x, j < k → l[j]? = some x → oneF (lastN l j) x) ∧ Below w.heap.size w wr) (fun _ t _ => n - (intOf t).toNat)
  case atStart => exact ⟨0, -1, Nat.zero_le _, rfl, rfl, Lib.hid rfl, Lib.hid (fun j x h => by omega), hB0⟩
  case round =>
    clear hB0
    obtain ⟨k, P, hk, rfl, rfl, gP, h0, hB⟩ := hrel
    by_cases hlt : k < n
    · obtain ⟨ad, nu, ep, cp, ag0, aX0, an0, ac0, ae0, ag1, aX1, an1, ac1, ae1, ag2, aX2, an2, ac2, ae2, ag3, aX3, an3, ac3, ae3, m, rfl, hb1, hl1, hx1, hrel1⟩ := ens_rel h1 hlt
      obtain ⟨a0, a1, a2, a3, a4, a5, a6, a7, a8, a9, a10, a11, a12, a13, a14⟩ := (hrel1 wr hB).2
      have i1 : (0 : Int) ≤ k := by omega
      have i2 : (k : Int) < n := by omega
      have gbad : Hid (¬ oneF P ⟨nu, ep, cp, m⟩ → ChkF l 8) := Lib.hid (fun h => .inr (.inr ⟨gn.out, fun hg => h (by rw [gP.out]; exact hg k _ hl1), rfl⟩))
      have hB1 : Below w.heap.size w (wr.alloc (.cells #[.int .i64 nu, .int .i64 ep, .int .i64 cp, .bool ag0, .slice aX0 an0 ac0, .int .i64 ae0, .bool ag1, .slice aX1 an1 ac1, .int .i64 ae1, .bool ag2, .slice aX2 an2 ac2, .int .i64 ae2, .bool ag3, .slice aX3 an3 ac3, .int .i64 ae3] 48)) := hB.alloc hB.size _
      have hrd : RdM (wr.alloc (.cells #[.int .i64 nu, .int .i64 ep, .int .i64 cp, .bool ag0, .slice aX0 an0 ac0, .int .i64 ae0, .bool ag1, .slice aX1 an1 ac1, .int .i64 ae1, .bool ag2, .slice aX2 an2 ac2, .int .i64 ae2, .bool ag3, .slice aX3 an3 ac3, .int .i64 ae3] 48)) (wr.alloc (.cells #[.int .i64 nu, .int .i64 ep, .int .i64 cp, .bool ag0, .slice aX0 an0 ac0, .int .i64 ae0, .bool ag1, .slice aX1 an1 ac1, .int .i64 ae1, .bool ag2, .slice aX2 an2 ac2, .int .i64 ae2, .bool ag3, .slice aX3 an3 ac3, .int .i64 ae3] 48)).heap.size ag0 aX0 an0 ac0 ae0 ag1 aX1 an1 ac1 ae1 ag2 aX2 an2 ac2 ae2 ag3 aX3 an3 ac3 ae3 m := (hrel1 _ hB1).1
      have gl1 := Lib.hid hl1
      clear hrel1 hx1 h1 hl1 hb1
      by_cases c0 : nu ≤ P
      · have f0 : decide (nu ≤ P) = true := decide_eq_true c0
        have gd := Lib.hid (gbad.out (by unfold oneF; simp only; omega))
        clear c0 hrd gbad h0
        go_wp2
        go_ret
        exact ⟨8, rfl, gd.out, hB1⟩
      have f0 : decide (nu ≤ P) = false := decide_eq_false c0
      by_cases c1 : (1048575 : Int) < nu
      · have f1 : decide ((1048575 : Int) < nu) = true := decide_eq_true c1
        have gd := Lib.hid (gbad.out (by unfold oneF; simp only; omega))
        clear c1 hrd gbad h0
        go_wp2
        go_ret
        exact ⟨8, rfl, gd.out, hB1⟩
      have f1 : decide ((1048575 : Int) < nu) = false := decide_eq_false c1
      by_cases c2 : ep < 0
      · have f2 : decide (ep < 0) = true := decide_eq_true c2
        have gd := Lib.hid (gbad.out (by unfold oneF; simp only; omega))
        clear c2 hrd gbad h0
        go_wp2
        go_ret
        exact ⟨8, rfl, gd.out, hB1⟩
      have f2 : decide (ep < 0) = false := decide_eq_false c2
      by_cases c3 : (65535 : Int) < ep
      · have f3 : decide ((65535 : Int) < ep) = true := decide_eq_true c3
        have gd := Lib.hid (gbad.out (by unfold oneF; simp only; omega))
        clear c3 hrd gbad h0
        go_wp2
        go_ret
        exact ⟨8, rfl, gd.out, hB1⟩
      have f3 : decide ((65535 : Int) < ep) = false := decide_eq_false c3
      by_cases c4 : cp < 1
      · have f4 : decide (cp < 1) = true := decide_eq_true c4
        have gd := Lib.hid (gbad.out (by unfold oneF; simp only; omega))
        clear c4 hrd gbad h0
        go_wp2
        go_ret
        exact ⟨8, rfl, gd.out, hB1⟩
      have f4 : decide (cp < 1) = false := decide_eq_false c4
      by_cases c5 : (16 : Int) < cp
      · have f5 : decide ((16 : Int) < cp) = true := decide_eq_true c5
        have gd := Lib.hid (gbad.out (by unfold oneF; simp only; omega))
        clear c5 hrd gbad h0
        go_wp2
        go_ret
        exact ⟨8, rfl, gd.out, hB1⟩
      have f5 : decide ((16 : Int) < cp) = false := decide_eq_false c5
      obtain ⟨Q, hQ⟩ : ∃ Q, mayM m = Q := ⟨_, rfl⟩
      have hc := mcheck_any ag0 aX0 an0 ac0 ae0 ag1 aX1 an1 ac1 ae1 ag2 aX2 an2 ac2 ae2 ag3 aX3 an3 ac3 ae3 m _ hrd Q hQ
      cases Q with
      | false =>
        have gd := Lib.hid (gbad.out (by unfold oneF; simp only [hQ]; simp))
        clear c0 c1 c2 c3 c4 c5 hrd gbad h0 hQ
        go_wp2_with (go_at_call 54; refine hc.mono ?_; rintro en w6 ⟨rfl, hb6⟩)
        go_ret
        exact ⟨8, rfl, gd.out, hB1.trans (hb6.mono hB1.size)⟩
      | true =>
        have h0' : Hid (∀ j x, j < k + 1 → l[j]? = some x → oneF (lastN l j) x) := Lib.hid (fun j x hj hx => by
          rcases Nat.lt_or_ge j k with h | h
          · exact h0.out j x h hx
          · obtain rfl : j = k := by omega
            rw [gl1.out] at hx
            injection hx with hx
            subst hx
            rw [← gP.out]
            exact ⟨by simp only; omega, by simp only; omega, by simp only; omega, by simp only; omega, by simp only; omega, by simp only; omega, hQ⟩)
        have gP' : Hid (nu = lastN l (k + 1)) := Lib.hid (by simp [lastN, gl1.out])
        have kb := Blk.new wr 48 #[.int .i64 nu, .int .i64 ep, .int .i64 cp, .bool ag0, .slice aX0 an0 ac0, .int .i64 ae0, .bool ag1, .slice aX1 an1 ac1, .int .i64 ae1, .bool ag2, .slice aX2 an2 ac2, .int .i64 ae2, .bool ag3, .slice aX3 an3 ac3, .int .i64 ae3]
        clear c0 c1 c2 c3 c4 c5 hrd gbad h0 hQ
        go_wp2_with (go_at_call 54; refine hc.mono ?_; rintro en w6 ⟨rfl, hb6⟩; have q0 := (kb.below hb6 kb.lt).cell 0; simp only [List.getElem?_toArray, List.getElem?_cons_zero] at q0)
        go_roundw
        case rel => exact ⟨k + 1, nu, by omega, rfl, by go_num, gP', h0', hB1.trans (hb6.mono hB1.size)⟩
        case measure => simp [intOf]; omega
    · obtain rfl : k = n := by omega
      have gd : Hid (ChkF l 0) := Lib.hid (.inr (.inl ⟨gn.out, fun j x hx => h0.out j x (by rw [← gln.out]; exact (List.getElem?_eq_some_iff.1 hx).1) hx, rfl⟩))
      clear h0 h1
      go_wp2
      go_ret
      exact ⟨0, rfl, gd.out, hB⟩
end Go.Proofs.YtdmjdpaehnhdoaaDoor
namespace Go.Proofs.YtdmjdpaehnhdoaaDoor
open Go.ChangeShapes Go.WideShapes Go.ChangeAt Go.RowKit
set_option linter.unusedSimpArgs false
set_option linter.unusedVariables false
theorem lastN_ge (l : List En) : ∀ k, (∀ j x, j < k → l[j]? = some x → oneF (lastN l j) x) → -1 ≤ lastN l k
  | 0, _ => by simp [lastN]
  | k + 1, h => by
    have h1 := lastN_ge l k (fun j x hj hx => h j x (by omega) hx)
    rcases hx : l[k]? with _ | x
    · simp [lastN, hx]
    · have h2 := (h k x (by omega) hx).1
      simp only [lastN, hx]
      omega
set_option maxRecDepth 100000 in
set_option maxHeartbeats 16000000 in
theorem rfcheck_any (A : Option Addr) (n c : Nat) (l : List En) (hm : n ≤ maxLen) (w : World) (h1 : Ens w w.heap.size A n l) : Calls Tryd.prog 33 #[.slice A n c] w fun en w' => ∃ E, en = .returned (.int .i64 E) ∧ ChkF l E ∧ Below w.heap.size w w' := by
  have gln := Lib.hid (ens_len h1)
  by_cases hb : 16 < n
  · have d5 : decide ((16 : Int) < n) = true := decide_eq_true (by omega)
    have d6 : decide (16 < n) = true := decide_eq_true hb
    have g4 : Hid (ChkF l 4) := Lib.hid (.inl ⟨by rw [gln.out]; exact hb, rfl⟩)
    clear h1 hb hm
    go_enter Tryd.func33, Tryd.ntmps33
    go_wp2
    go_ret
    exact ⟨4, rfl, g4.out, Below.refl _ _⟩
  have gn : Hid (l.length ≤ 16) := Lib.hid (by rw [gln.out]; omega)
  have hn : n ≤ 16 := by omega
  have d5 : decide ((16 : Int) < n) = false := decide_eq_false (by omega)
  have d6 : decide (16 < n) = false := decide_eq_false hb
  have hB0 := Below.refl w.heap.size w
  have ge := Lib.hid h1
  clear hb h1
  go_enter Tryd.func33, Tryd.ntmps33
  go_wp2
  go_loopw [3] (fun t wr => ∃ (k : Nat), k ≤ n ∧ t = .int .i64 (k : Int) ∧ Hid (∀ j x, j < k → l[j]? = some x → oneF (lastN l j) x) ∧ Below w.heap.size w wr) (fun t _ => n - (intOf t).toNat)
  case atStart => exact ⟨0, Nat.zero_le _, rfl, Lib.hid (fun j x h => by omega), hB0⟩
  case round =>
    clear hB0
    obtain ⟨k, hk, rfl, h0, hB⟩ := hrel
    by_cases hlt : k < n
    · obtain ⟨ad, nu, ep, cp, ag0, aX0, an0, ac0, ae0, ag1, aX1, an1, ac1, ae1, ag2, aX2, an2, ac2, ae2, ag3, aX3, an3, ac3, ae3, m, rfl, hb1, hl1, hx1, hrel1⟩ := ens_rel ge.out hlt
      obtain ⟨a0, a1, a2, a3, a4, a5, a6, a7, a8, a9, a10, a11, a12, a13, a14⟩ := (hrel1 wr hB).2
      have i1 : (0 : Int) ≤ k := by omega
      have i2 : (k : Int) < n := by omega
      have gge : Hid (-1 ≤ lastN l k) := Lib.hid (lastN_ge l k h0.out)
      have gbad : Hid (¬ oneF (lastN l k) ⟨nu, ep, cp, m⟩ → ChkF l 8) := Lib.hid (fun h => .inr (.inr ⟨gn.out, fun hg => h (hg k _ hl1), rfl⟩))
      have ggd : Hid (oneF (lastN l k) ⟨nu, ep, cp, m⟩ → ∀ j x, j < k + 1 → l[j]? = some x → oneF (lastN l j) x) := Lib.hid (fun hh j x hj hx => by
        rcases Nat.lt_or_ge j k with h | h
        · exact h0.out j x h hx
        · obtain rfl : j = k := by omega
          rw [hl1] at hx
          injection hx with hx
          subst hx
          exact hh)
      obtain ⟨W, hW⟩ : ∃ W, W = wr.alloc (.cells #[.int .i64 nu, .int .i64 ep, .int .i64 cp, .bool ag0, .slice aX0 an0 ac0, .int .i64 ae0, .bool ag1, .slice aX1 an1 ac1, .int .i64 ae1, .bool ag2, .slice aX2 an2 ac2, .int .i64 ae2, .bool ag3, .slice aX3 an3 ac3, .int .i64 ae3] 48) := ⟨_, rfl⟩
      have hBW : Below wr.heap.size wr W := by rw [hW]; exact (Below.refl _ _).alloc (Nat.le_refl _) _
      have kb : Blk W wr.heap.size 48 #[.int .i64 nu, .int .i64 ep, .int .i64 cp, .bool ag0, .slice aX0 an0 ac0, .int .i64 ae0, .bool ag1, .slice aX1 an1 ac1, .int .i64 ae1, .bool ag2, .slice aX2 an2 ac2, .int .i64 ae2, .bool ag3, .slice aX3 an3 ac3, .int .i64 ae3] := by rw [hW]; exact Blk.new wr _ _
      have hB2 : Below w.heap.size w W := hB.trans (hBW.mono hB.size)
      have b0 : ∀ q : Bw W.heap.size W, q.w.cell? ⟨wr.heap.size, 0, none⟩ = some (.int .i64 nu) := fun q => by rw [(kb.below q.h kb.lt).cell]; rfl
      have b1 : ∀ q : Bw W.heap.size W, q.w.cell? ⟨wr.heap.size, 1, none⟩ = some (.int .i64 ep) := fun q => by rw [(kb.below q.h kb.lt).cell]; rfl
      have b2 : ∀ q : Bw W.heap.size W, q.w.cell? ⟨wr.heap.size, 2, none⟩ = some (.int .i64 cp) := fun q => by rw [(kb.below q.h kb.lt).cell]; rfl
      have b3 : ∀ q : Bw W.heap.size W, q.w.cell? ⟨wr.heap.size, 3, none⟩ = some (.bool ag0) := fun q => by rw [(kb.below q.h kb.lt).cell]; rfl
      have b4 : ∀ q : Bw W.heap.size W, q.w.cell? ⟨wr.heap.size, 4, none⟩ = some (.slice aX0 an0 ac0) := fun q => by rw [(kb.below q.h kb.lt).cell]; rfl
      have b5 : ∀ q : Bw W.heap.size W, q.w.cell? ⟨wr.heap.size, 5, none⟩ = some (.int .i64 ae0) := fun q => by rw [(kb.below q.h kb.lt).cell]; rfl
      have b6 : ∀ q : Bw W.heap.size W, q.w.cell? ⟨wr.heap.size, 6, none⟩ = some (.bool ag1) := fun q => by rw [(kb.below q.h kb.lt).cell]; rfl
      have b7 : ∀ q : Bw W.heap.size W, q.w.cell? ⟨wr.heap.size, 7, none⟩ = some (.slice aX1 an1 ac1) := fun q => by rw [(kb.below q.h kb.lt).cell]; rfl
      have b8 : ∀ q : Bw W.heap.size W, q.w.cell? ⟨wr.heap.size, 8, none⟩ = some (.int .i64 ae1) := fun q => by rw [(kb.below q.h kb.lt).cell]; rfl
      have b9 : ∀ q : Bw W.heap.size W, q.w.cell? ⟨wr.heap.size, 9, none⟩ = some (.bool ag2) := fun q => by rw [(kb.below q.h kb.lt).cell]; rfl
      have b10 : ∀ q : Bw W.heap.size W, q.w.cell? ⟨wr.heap.size, 10, none⟩ = some (.slice aX2 an2 ac2) := fun q => by rw [(kb.below q.h kb.lt).cell]; rfl
      have b11 : ∀ q : Bw W.heap.size W, q.w.cell? ⟨wr.heap.size, 11, none⟩ = some (.int .i64 ae2) := fun q => by rw [(kb.below q.h kb.lt).cell]; rfl
      have b12 : ∀ q : Bw W.heap.size W, q.w.cell? ⟨wr.heap.size, 12, none⟩ = some (.bool ag3) := fun q => by rw [(kb.below q.h kb.lt).cell]; rfl
      have b13 : ∀ q : Bw W.heap.size W, q.w.cell? ⟨wr.heap.size, 13, none⟩ = some (.slice aX3 an3 ac3) := fun q => by rw [(kb.below q.h kb.lt).cell]; rfl
      have b14 : ∀ q : Bw W.heap.size W, q.w.cell? ⟨wr.heap.size, 14, none⟩ = some (.int .i64 ae3) := fun q => by rw [(kb.below q.h kb.lt).cell]; rfl
      have hBr := Below.refl W.heap.size W
      have gw : Hid (∀ q : Bw W.heap.size W, Below w.heap.size w q.w) := Lib.hid (fun q => hB2.trans (q.h.mono hB2.size))
      obtain ⟨Q, hQ⟩ : ∃ Q, mayM m = Q := ⟨_, rfl⟩
      have hcm : ∀ q : Bw W.heap.size W, Calls Tryd.prog 60 #[.agg #[.bool ag0, .slice aX0 an0 ac0, .int .i64 ae0, .bool ag1, .slice aX1 an1 ac1, .int .i64 ae1, .bool ag2, .slice aX2 an2 ac2, .int .i64 ae2, .bool ag3, .slice aX3 an3 ac3, .int .i64 ae3]] q.w fun en w' => en = .returned (.bool Q) ∧ ∃ q' : Bw W.heap.size W, w' = q'.w := fun q => Calls.bw (rmmay_any ag0 aX0 an0 ac0 ae0 ag1 aX1 an1 ac1 ae1 ag2 aX2 an2 ac2 ae2 ag3 aX3 an3 ac3 ae3 m Q hQ q.w (hrel1 q.w (gw.out q)).1) (Nat.le_refl _)
      have gQ := Lib.hid hQ
      have gl1 := Lib.hid hl1
      clear hrel1 hx1 hl1 hb1 h0 hB hB2 hBW kb hQ
      by_cases c0 : nu < 0
      · have f0 : decide (nu < 0) = true := decide_eq_true c0
        have gd := Lib.hid (gbad.out (by have := gge.out; unfold oneF; simp only; omega))
        clear c0 gbad ggd gge gQ gl1
        go_wp2_with fail
        rw [← hW]
        clear hW
        refine wp_region_wq W.heap.size W hBr (by kernel_rfl) (by kernel_rfl) ?_
        repeat (first | (refine WQ.yes (by rfl) (fun K hK => ?_); go_simp; first | (refine hK _ ?_; clear hK K) | (apply Exists.intro; refine ⟨fun _ => ?_, hK _ ?_⟩; (exact hcm _); clear hK K)) | (refine WQ.no (by rfl) ?_; (try simp only [Act.put, lsA, lsZ, lsS])))
        refine WQ.nil ?_
        intro pq
        go_wp2
        go_ret
        exact ⟨8, rfl, gd.out, gw.out pq⟩
      have f0 : decide (nu < 0) = false := decide_eq_false c0
      by_cases c1 : (1048575 : Int) < nu
      · have f1 : decide ((1048575 : Int) < nu) = true := decide_eq_true c1
        have gd := Lib.hid (gbad.out (by have := gge.out; unfold oneF; simp only; omega))
        clear c1 gbad ggd gge gQ gl1
        go_wp2_with fail
        rw [← hW]
        clear hW
        refine wp_region_wq W.heap.size W hBr (by kernel_rfl) (by kernel_rfl) ?_
        repeat (first | (refine WQ.yes (by rfl) (fun K hK => ?_); go_simp; first | (refine hK _ ?_; clear hK K) | (apply Exists.intro; refine ⟨fun _ => ?_, hK _ ?_⟩; (exact hcm _); clear hK K)) | (refine WQ.no (by rfl) ?_; (try simp only [Act.put, lsA, lsZ, lsS])))
        refine WQ.nil ?_
        intro pq
        go_wp2
        go_ret
        exact ⟨8, rfl, gd.out, gw.out pq⟩
      have f1 : decide ((1048575 : Int) < nu) = false := decide_eq_false c1
      by_cases c2 : ep < 0
      · have f2 : decide (ep < 0) = true := decide_eq_true c2
        have gd := Lib.hid (gbad.out (by have := gge.out; unfold oneF; simp only; omega))
        clear c2 gbad ggd gge gQ gl1
        go_wp2_with fail
        rw [← hW]
        clear hW
        refine wp_region_wq W.heap.size W hBr (by kernel_rfl) (by kernel_rfl) ?_
        repeat (first | (refine WQ.yes (by rfl) (fun K hK => ?_); go_simp; first | (refine hK _ ?_; clear hK K) | (apply Exists.intro; refine ⟨fun _ => ?_, hK _ ?_⟩; (exact hcm _); clear hK K)) | (refine WQ.no (by rfl) ?_; (try simp only [Act.put, lsA, lsZ, lsS])))
        refine WQ.nil ?_
        intro pq
        go_wp2
        go_ret
        exact ⟨8, rfl, gd.out, gw.out pq⟩
      have f2 : decide (ep < 0) = false := decide_eq_false c2
      by_cases c3 : (65535 : Int) < ep
      · have f3 : decide ((65535 : Int) < ep) = true := decide_eq_true c3
        have gd := Lib.hid (gbad.out (by have := gge.out; unfold oneF; simp only; omega))
        clear c3 gbad ggd gge gQ gl1
        go_wp2_with fail
        rw [← hW]
        clear hW
        refine wp_region_wq W.heap.size W hBr (by kernel_rfl) (by kernel_rfl) ?_
        repeat (first | (refine WQ.yes (by rfl) (fun K hK => ?_); go_simp; first | (refine hK _ ?_; clear hK K) | (apply Exists.intro; refine ⟨fun _ => ?_, hK _ ?_⟩; (exact hcm _); clear hK K)) | (refine WQ.no (by rfl) ?_; (try simp only [Act.put, lsA, lsZ, lsS])))
        refine WQ.nil ?_
        intro pq
        go_wp2
        go_ret
        exact ⟨8, rfl, gd.out, gw.out pq⟩
      have f3 : decide ((65535 : Int) < ep) = false := decide_eq_false c3
      by_cases c4 : cp < 1
      · have f4 : decide (cp < 1) = true := decide_eq_true c4
        have gd := Lib.hid (gbad.out (by have := gge.out; unfold oneF; simp only; omega))
        clear c4 gbad ggd gge gQ gl1
        go_wp2_with fail
        rw [← hW]
        clear hW
        refine wp_region_wq W.heap.size W hBr (by kernel_rfl) (by kernel_rfl) ?_
        repeat (first | (refine WQ.yes (by rfl) (fun K hK => ?_); go_simp; first | (refine hK _ ?_; clear hK K) | (apply Exists.intro; refine ⟨fun _ => ?_, hK _ ?_⟩; (exact hcm _); clear hK K)) | (refine WQ.no (by rfl) ?_; (try simp only [Act.put, lsA, lsZ, lsS])))
        refine WQ.nil ?_
        intro pq
        go_wp2
        go_ret
        exact ⟨8, rfl, gd.out, gw.out pq⟩
      have f4 : decide (cp < 1) = false := decide_eq_false c4
      by_cases c5 : (16 : Int) < cp
      · have f5 : decide ((16 : Int) < cp) = true := decide_eq_true c5
        have gd := Lib.hid (gbad.out (by have := gge.out; unfold oneF; simp only; omega))
        clear c5 gbad ggd gge gQ gl1
        go_wp2_with fail
        rw [← hW]
        clear hW
        refine wp_region_wq W.heap.size W hBr (by kernel_rfl) (by kernel_rfl) ?_
        repeat (first | (refine WQ.yes (by rfl) (fun K hK => ?_); go_simp; first | (refine hK _ ?_; clear hK K) | (apply Exists.intro; refine ⟨fun _ => ?_, hK _ ?_⟩; (exact hcm _); clear hK K)) | (refine WQ.no (by rfl) ?_; (try simp only [Act.put, lsA, lsZ, lsS])))
        refine WQ.nil ?_
        intro pq
        go_wp2
        go_ret
        exact ⟨8, rfl, gd.out, gw.out pq⟩
      have f5 : decide ((16 : Int) < cp) = false := decide_eq_false c5
      cases Q with
      | false =>
        have gd := Lib.hid (gbad.out (by unfold oneF; simp only [gQ.out]; simp))
        clear c0 c1 c2 c3 c4 c5 gbad ggd gge gQ gl1
        go_wp2_with fail
        rw [← hW]
        clear hW
        refine wp_region_wq W.heap.size W hBr (by kernel_rfl) (by kernel_rfl) ?_
        repeat (first | (refine WQ.yes (by rfl) (fun K hK => ?_); go_simp; first | (refine hK _ ?_; clear hK K) | (apply Exists.intro; refine ⟨fun _ => ?_, hK _ ?_⟩; (exact hcm _); clear hK K)) | (refine WQ.no (by rfl) ?_; (try simp only [Act.put, lsA, lsZ, lsS])))
        refine WQ.nil ?_
        intro pq
        go_wp2
        go_ret
        exact ⟨8, rfl, gd.out, gw.out pq⟩
      | true =>
        rcases Nat.eq_zero_or_pos k with h0 | h0
        · have kz : decide ((0 : Int) < k) = false := decide_eq_false (by omega)
          have kz2 : decide (0 < k) = false := decide_eq_false (by omega)
          have gI := Lib.hid (ggd.out (by subst h0; exact ⟨by simp only [lastN]; omega, by simp only; omega, by simp only; omega, by simp only; omega, by simp only; omega, by simp only; omega, gQ.out⟩))
          clear c0 c1 c2 c3 c4 c5 gbad ggd gge gQ gl1 h0
          go_wp2_with fail
          rw [← hW]
          clear hW
          refine wp_region_wq W.heap.size W hBr (by kernel_rfl) (by kernel_rfl) ?_
          repeat (first | (refine WQ.yes (by rfl) (fun K hK => ?_); go_simp; first | (refine hK _ ?_; clear hK K) | (apply Exists.intro; refine ⟨fun _ => ?_, hK _ ?_⟩; (exact hcm _); clear hK K)) | (refine WQ.no (by rfl) ?_; (try simp only [Act.put, lsA, lsZ, lsS])))
          refine WQ.nil ?_
          intro pq
          go_wp2
          go_roundw
          case rel => exact ⟨k + 1, by omega, by go_num, gI, gw.out pq⟩
          case measure => simp [intOf]; omega
        · obtain ⟨j, hkj⟩ : ∃ j, k = j + 1 := ⟨k - 1, by omega⟩
          obtain ⟨ad2, pn, pe, pc, pag0, paX0, pan0, pac0, pae0, pag1, paX1, pan1, pac1, pae1, pag2, paX2, pan2, pac2, pae2, pag3, paX3, pan3, pac3, pae3, pm, e2, hb2, hl2, hx2, hrel2⟩ := ens_rel ge.out (show j < n by omega)
          injection e2 with e2
          subst e2
          have f9 : ∀ q : Bw W.heap.size W, q.w.cell? (ad.add (j * 15)) = some (.int .i64 pn) := fun q => (hrel2 q.w (gw.out q)).2.1
          have gla : Hid (lastN l k = pn) := Lib.hid (by rw [hkj]; simp [lastN, hl2])
          have k1 : (0 : Int) ≤ j := by omega
          have k2 : (j : Int) < n := by omega
          have k3 : decide ((0 : Int) < (k : Int)) = true := decide_eq_true (by omega)
          have k6 : decide (0 < k) = true := decide_eq_true h0
          have k4 : IntKind.i64.wrap ((k : Int) - 1) = j := by rw [hkj]; simp [IntKind.wrap, IntKind.bits, IntKind.signed]; omega
          clear hrel2 hx2 hl2 hb2 hkj h0
          by_cases c7 : nu ≤ pn
          · have f7 : decide (nu ≤ pn) = true := decide_eq_true c7
            have gd := Lib.hid (gbad.out (by have := gla.out; unfold oneF; simp only; omega))
            clear c0 c1 c2 c3 c4 c5 c7 gbad ggd gge gQ gl1 gla
            go_wp2_with fail
            rw [← hW]
            clear hW
            refine wp_region_wq W.heap.size W hBr (by kernel_rfl) (by kernel_rfl) ?_
            repeat (first | (refine WQ.yes (by rfl) (fun K hK => ?_); go_simp; first | (refine hK _ ?_; clear hK K) | (apply Exists.intro; refine ⟨fun _ => ?_, hK _ ?_⟩; (exact hcm _); clear hK K)) | (refine WQ.no (by rfl) ?_; (try simp only [Act.put, lsA, lsZ, lsS])))
            refine WQ.nil ?_
            intro pq
            go_wp2
            go_ret
            exact ⟨8, rfl, gd.out, gw.out pq⟩
          · have f7 : decide (nu ≤ pn) = false := decide_eq_false c7
            have gI := Lib.hid (ggd.out ⟨by simp only; have := gla.out; omega, by simp only; omega, by simp only; omega, by simp only; omega, by simp only; omega, by simp only; omega, gQ.out⟩)
            clear c0 c1 c2 c3 c4 c5 c7 gbad ggd gge gQ gl1 gla
            go_wp2_with fail
            rw [← hW]
            clear hW
            refine wp_region_wq W.heap.size W hBr (by kernel_rfl) (by kernel_rfl) ?_
            repeat (first | (refine WQ.yes (by rfl) (fun K hK => ?_); go_simp; first | (refine hK _ ?_; clear hK K) | (apply Exists.intro; refine ⟨fun _ => ?_, hK _ ?_⟩; (exact hcm _); clear hK K)) | (refine WQ.no (by rfl) ?_; (try simp only [Act.put, lsA, lsZ, lsS])))
            refine WQ.nil ?_
            intro pq
            go_wp2
            go_roundw
            case rel => exact ⟨k + 1, by omega, by go_num, gI, gw.out pq⟩
            case measure => simp [intOf]; omega
    · obtain rfl : k = n := by omega
      have gd : Hid (ChkF l 0) := Lib.hid (.inr (.inl ⟨gn.out, fun j x hx => h0.out j x (by rw [← gln.out]; exact (List.getElem?_eq_some_iff.1 hx).1) hx, rfl⟩))
      clear h0 ge
      go_wp2
      go_ret
      exact ⟨0, rfl, gd.out, hB⟩
end Go.Proofs.YtdmjdpaehnhdoaaDoor
namespace Go.Proofs.YtdmjdpaehnhdoaaDoor
open Go.ChangeShapes Go.WideShapes Go.ChangeAt Go.RowKit
set_option linter.unusedSimpArgs false
set_option linter.unusedVariables false
theorem ChkF.has {l : List En} {E : Int} (h : ChkF l E) : (E = 4 ∧ 16 < l.length) ∨ (E = 0 ∧ l.length ≤ 16 ∧ goodF l) ∨ (E = 8 ∧ l.length ≤ 16 ∧ ¬ goodF l) := by
  rcases h with ⟨h1, h2⟩ | ⟨h1, h2, h3⟩ | ⟨h1, h2, h3⟩
  · exact .inl ⟨h2, h1⟩
  · exact .inr (.inl ⟨h3, h1, h2⟩)
  · exact .inr (.inr ⟨h3, h1, h2⟩)
end Go.Proofs.YtdmjdpaehnhdoaaDoor
namespace Go.Proofs.YtdmjdpaehnhdoaaDoor
open Go.ChangeShapes Go.WideShapes Go.ChangeAt Go.RowKit
set_option linter.unusedSimpArgs false
set_option linter.unusedVariables false
end Go.Proofs.YtdmjdpaehnhdoaaDoor
