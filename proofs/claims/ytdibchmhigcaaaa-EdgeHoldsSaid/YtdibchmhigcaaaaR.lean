/- Edge: the contracts of the reference's functions. -/
import Derived.Test.YtdibchmhigcaaaaH
import Derived.StillTailTactics
import Derived.Deep.QuietTactic
import Derived.BigRegion
namespace Go.Proofs.Ytdibchmhigcaaaa
open Go.ChangeShapes Go.WideShapes Go.ChangeAt Go.RowKit
set_option linter.unusedSimpArgs false
set_option linter.unusedVariables false
set_option maxHeartbeats 4000000 in
theorem may_yes {h : Bool} {a b : Int} (ho : EdgeOK h a b) (w : World) :
    Calls Try.prog 29 #[edg h a b] w fun en w' => en = .returned (.bool true) ∧ Below w.heap.size w w' := by
  rcases ho with ⟨rfl, ha, hb, hab⟩ | ⟨rfl, rfl, rfl⟩
  · have h1 : decide (a ≤ b) = true := decide_eq_true (by omega)
    go_enter Try.func29, Try.ntmps29
    go_wp2_with (first | (go_at_call 26; refine (rvalue_yes ha _).mono ?_; clear ha; rintro en w1 ⟨rfl, rfl⟩) | (go_at_call 26; refine (rvalue_yes hb _).mono ?_; clear hb; rintro en w1 ⟨rfl, rfl⟩))
    go_ret
    exact ⟨rfl, (Below.refl _ _).alloc (Nat.le_refl _) _⟩
  · go_enter Try.func29, Try.ntmps29
    go_wp2
    go_ret
    exact ⟨rfl, (Below.refl _ _).alloc (Nat.le_refl _) _⟩
set_option maxHeartbeats 4000000 in
theorem may_no {h : Bool} {a b : Int} (ho : ¬ EdgeOK h a b) (w : World) :
    Calls Try.prog 29 #[edg h a b] w fun en w' => en = .returned (.bool false) ∧ Below w.heap.size w w' := by
  cases h
  · have hab : ¬ (a = 0 ∧ b = 0) := fun hh => ho (Or.inr ⟨rfl, hh⟩)
    by_cases ha : a = 0
    · subst ha
      have hb : b ≠ 0 := fun hb => hab ⟨rfl, hb⟩
      have hb' : (b == 0) = false := by simpa using hb
      go_enter Try.func29, Try.ntmps29
      go_wp2
      go_ret
      exact ⟨rfl, (Below.refl _ _).alloc (Nat.le_refl _) _⟩
    · have ha' : (a == 0) = false := by simpa using ha
      go_enter Try.func29, Try.ntmps29
      go_wp2
      go_ret
      exact ⟨rfl, (Below.refl _ _).alloc (Nat.le_refl _) _⟩
  · by_cases ha : ValOK a
    · by_cases hb : ValOK b
      · have h1 : decide (a ≤ b) = false := decide_eq_false (fun h2 => ho (Or.inl ⟨rfl, ha, hb, h2⟩))
        go_enter Try.func29, Try.ntmps29
        go_wp2_with (first | (go_at_call 26; refine (rvalue_yes ha _).mono ?_; clear ha; rintro en w1 ⟨rfl, rfl⟩) | (go_at_call 26; refine (rvalue_yes hb _).mono ?_; clear hb; rintro en w1 ⟨rfl, rfl⟩))
        go_ret
        exact ⟨rfl, (Below.refl _ _).alloc (Nat.le_refl _) _⟩
      · go_enter Try.func29, Try.ntmps29
        go_wp2_with (first | (go_at_call 26; refine (rvalue_yes ha _).mono ?_; clear ha; rintro en w1 ⟨rfl, rfl⟩) | (go_at_call 26; refine (rvalue_no hb _).mono ?_; clear hb; rintro en w1 ⟨rfl, rfl⟩))
        go_ret
        exact ⟨rfl, (Below.refl _ _).alloc (Nat.le_refl _) _⟩
    · go_enter Try.func29, Try.ntmps29
      go_wp2_with (first | (go_at_call 26; refine (rvalue_no ha _).mono ?_; clear ha; rintro en w1 ⟨rfl, rfl⟩))
      go_ret
      exact ⟨rfl, (Below.refl _ _).alloc (Nat.le_refl _) _⟩
set_option maxHeartbeats 2000000 in
theorem rcheck_yes {s : St} (hs : s.ok) (w : World) :
    Calls Try.prog 20 #[s.v] w fun en w' => en = .returned (.int .i64 0) ∧ Below w.heap.size w w' := by
  have P0 := Blk.new w 24 #[.bool s.1, .int .i64 s.2.1, .int .i64 s.2.2]
  have hB0 : Below w.heap.size w (w.alloc (.cells #[.bool s.1, .int .i64 s.2.1, .int .i64 s.2.2] 24)) := (Below.refl _ w).alloc (Nat.le_refl _) _
  go_enter Try.func20, Try.ntmps20
  go_wp2_with fail
  refine (may_yes hs _).mono ?_
  rintro en w1 ⟨rfl, hb1⟩
  have hB1 := hB0.trans (hb1.mono (by simp))
  go_wp2
  go_ret
  exact ⟨rfl, hB1⟩
set_option maxHeartbeats 2000000 in
theorem rcheck_no {s : St} (hs : ¬ s.ok) (w : World) :
    Calls Try.prog 20 #[s.v] w fun en w' => en = .returned (.int .i64 8) ∧ Below w.heap.size w w' := by
  have P0 := Blk.new w 24 #[.bool s.1, .int .i64 s.2.1, .int .i64 s.2.2]
  have hB0 : Below w.heap.size w (w.alloc (.cells #[.bool s.1, .int .i64 s.2.1, .int .i64 s.2.2] 24)) := (Below.refl _ w).alloc (Nat.le_refl _) _
  go_enter Try.func20, Try.ntmps20
  go_wp2_with fail
  refine (may_no hs _).mono ?_
  rintro en w1 ⟨rfl, hb1⟩
  have hB1 := hB0.trans (hb1.mono (by simp))
  go_wp2
  go_ret
  exact ⟨rfl, hB1⟩
set_option maxHeartbeats 2000000 in
theorem rof_yes {x : Int} (h : ValOK x) (w : World) :
    Calls Try.prog 15 #[.int .i64 x] w fun en w' => en = .returned (.tuple #[edg true x x, .int .i64 0]) ∧ Below w.heap.size w w' := by
  go_enter Try.func15, Try.ntmps15
  go_wp2_with fail
  refine (rvalue_yes h _).mono ?_
  rintro en w1 ⟨rfl, rfl⟩
  go_wp2
  refine bodyPost_ret (v := .tuple #[edg true x x, .int .i64 0]) (by simp [results, Try.results15, go_sem, World.cell?_alloc_past]) rfl ⟨rfl, ?_⟩
  repeat (first | exact (Below.refl _ w).alloc (Nat.le_refl _) _ | (refine Below.setCell ?_ ?_ _; rotate_left; focus (simp)))
set_option maxHeartbeats 2000000 in
theorem rof_no {x : Int} (h : ¬ ValOK x) (w : World) :
    Calls Try.prog 15 #[.int .i64 x] w fun en w' => en = .returned (.tuple #[edg false 0 0, .int .i64 2]) ∧ Below w.heap.size w w' := by
  go_enter Try.func15, Try.ntmps15
  go_wp2_with fail
  refine (rvalue_no h _).mono ?_
  rintro en w1 ⟨rfl, rfl⟩
  go_wp2
  refine bodyPost_ret (v := .tuple #[edg false 0 0, .int .i64 2]) (by simp [results, Try.results15, go_sem, World.cell?_alloc_past]) rfl ⟨rfl, ?_⟩
  repeat (first | exact (Below.refl _ w).alloc (Nat.le_refl _) _ | (refine Below.setCell ?_ ?_ _; rotate_left; focus (simp)))
set_option maxHeartbeats 4000000 in
theorem rjoin_no1 {s t : St} (hs : ¬ s.ok) (w : World) :
    Calls Try.prog 17 #[s.v, t.v] w fun en w' => en = .returned (.tuple #[edg false 0 0, .int .i64 8]) ∧ Below w.heap.size w w' := by
  have P0 := ((Blk.new w 24 #[.bool s.1, .int .i64 s.2.1, .int .i64 s.2.2]).alloc (.cells #[.bool t.1, .int .i64 t.2.1, .int .i64 t.2.2] 24)).alloc (.cells #[.bool false, .int .i64 0, .int .i64 0] 24)
  have P1 := (Blk.new (w.alloc (.cells #[.bool s.1, .int .i64 s.2.1, .int .i64 s.2.2] 24)) 24 #[.bool t.1, .int .i64 t.2.1, .int .i64 t.2.2]).alloc (.cells #[.bool false, .int .i64 0, .int .i64 0] 24)
  have P2 := Blk.new ((w.alloc (.cells #[.bool s.1, .int .i64 s.2.1, .int .i64 s.2.2] 24)).alloc (.cells #[.bool t.1, .int .i64 t.2.1, .int .i64 t.2.2] 24)) 24 #[.bool false, .int .i64 0, .int .i64 0]
  simp only [World.size_alloc] at P1 P2
  have hB0 : Below w.heap.size w (((w.alloc (.cells #[.bool s.1, .int .i64 s.2.1, .int .i64 s.2.2] 24)).alloc (.cells #[.bool t.1, .int .i64 t.2.1, .int .i64 t.2.2] 24)).alloc (.cells #[.bool false, .int .i64 0, .int .i64 0] 24)) := (((Below.refl _ w).alloc (Nat.le_refl _) _).alloc (by simp) _).alloc (by first | (simp; done) | (simp; omega)) _
  go_enter Try.func17, Try.ntmps17
  go_wp2_with fail
  refine (may_no hs _).mono ?_
  rintro en w1 ⟨rfl, hb1⟩
  have hB1 := hB0.trans (hb1.mono (by simp; omega))
  have Q10 := P0.below hb1 (by first | (simp; done) | (simp; omega))
  have cQ100 := Q10.cell 0
  have fQ100 := Q10.frozen 0
  have cQ101 := Q10.cell 1
  have fQ101 := Q10.frozen 1
  have cQ102 := Q10.cell 2
  have fQ102 := Q10.frozen 2
  simp at cQ100 cQ101 cQ102
  have Q11 := P1.below hb1 (by first | (simp; done) | (simp; omega))
  have cQ110 := Q11.cell 0
  have fQ110 := Q11.frozen 0
  have cQ111 := Q11.cell 1
  have fQ111 := Q11.frozen 1
  have cQ112 := Q11.cell 2
  have fQ112 := Q11.frozen 2
  simp at cQ110 cQ111 cQ112
  have Q12 := P2.below hb1 (by first | (simp; done) | (simp; omega))
  have cQ120 := Q12.cell 0
  have fQ120 := Q12.frozen 0
  have cQ121 := Q12.cell 1
  have fQ121 := Q12.frozen 1
  have cQ122 := Q12.cell 2
  have fQ122 := Q12.frozen 2
  simp at cQ120 cQ121 cQ122
  clear P0 P1 P2
  have B5 := ((Q12.set_ 0 (.bool false)).set_ 1 (.int .i64 0)).set_ 2 (.int .i64 0)
  have q0 := B5.cell 0
  have q1 := B5.cell 1
  have q2 := B5.cell 2
  simp at q0 q1 q2
  go_wp2
  refine bodyPost_ret (v := .tuple #[edg false 0 0, .int .i64 8]) (by simp [results, Try.results17, go_sem, q0, q1, q2]) rfl ⟨rfl, ?_⟩
  exact ((hB1.setCell (p := ⟨w.heap.size + 1 + 1, 0, none⟩) (by simp; omega) _).setCell (p := ⟨w.heap.size + 1 + 1, 1, none⟩) (by simp; omega) _).setCell (p := ⟨w.heap.size + 1 + 1, 2, none⟩) (by simp; omega) _
set_option maxHeartbeats 4000000 in
theorem rjoin_no2 {s t : St} (hs : s.ok) (ht : ¬ t.ok) (w : World) :
    Calls Try.prog 17 #[s.v, t.v] w fun en w' => en = .returned (.tuple #[edg false 0 0, .int .i64 8]) ∧ Below w.heap.size w w' := by
  have P0 := ((Blk.new w 24 #[.bool s.1, .int .i64 s.2.1, .int .i64 s.2.2]).alloc (.cells #[.bool t.1, .int .i64 t.2.1, .int .i64 t.2.2] 24)).alloc (.cells #[.bool false, .int .i64 0, .int .i64 0] 24)
  have P1 := (Blk.new (w.alloc (.cells #[.bool s.1, .int .i64 s.2.1, .int .i64 s.2.2] 24)) 24 #[.bool t.1, .int .i64 t.2.1, .int .i64 t.2.2]).alloc (.cells #[.bool false, .int .i64 0, .int .i64 0] 24)
  have P2 := Blk.new ((w.alloc (.cells #[.bool s.1, .int .i64 s.2.1, .int .i64 s.2.2] 24)).alloc (.cells #[.bool t.1, .int .i64 t.2.1, .int .i64 t.2.2] 24)) 24 #[.bool false, .int .i64 0, .int .i64 0]
  simp only [World.size_alloc] at P1 P2
  have hB0 : Below w.heap.size w (((w.alloc (.cells #[.bool s.1, .int .i64 s.2.1, .int .i64 s.2.2] 24)).alloc (.cells #[.bool t.1, .int .i64 t.2.1, .int .i64 t.2.2] 24)).alloc (.cells #[.bool false, .int .i64 0, .int .i64 0] 24)) := (((Below.refl _ w).alloc (Nat.le_refl _) _).alloc (by simp) _).alloc (by first | (simp; done) | (simp; omega)) _
  go_enter Try.func17, Try.ntmps17
  go_wp2_with fail
  refine (may_yes hs _).mono ?_
  rintro en w1 ⟨rfl, hb1⟩
  have hB1 := hB0.trans (hb1.mono (by simp; omega))
  have Q10 := P0.below hb1 (by first | (simp; done) | (simp; omega))
  have cQ100 := Q10.cell 0
  have fQ100 := Q10.frozen 0
  have cQ101 := Q10.cell 1
  have fQ101 := Q10.frozen 1
  have cQ102 := Q10.cell 2
  have fQ102 := Q10.frozen 2
  simp at cQ100 cQ101 cQ102
  have Q11 := P1.below hb1 (by first | (simp; done) | (simp; omega))
  have cQ110 := Q11.cell 0
  have fQ110 := Q11.frozen 0
  have cQ111 := Q11.cell 1
  have fQ111 := Q11.frozen 1
  have cQ112 := Q11.cell 2
  have fQ112 := Q11.frozen 2
  simp at cQ110 cQ111 cQ112
  have Q12 := P2.below hb1 (by first | (simp; done) | (simp; omega))
  have cQ120 := Q12.cell 0
  have fQ120 := Q12.frozen 0
  have cQ121 := Q12.cell 1
  have fQ121 := Q12.frozen 1
  have cQ122 := Q12.cell 2
  have fQ122 := Q12.frozen 2
  simp at cQ120 cQ121 cQ122
  clear P0 P1 P2
  go_wp2_with fail
  refine (may_no ht _).mono ?_
  rintro en w2 ⟨rfl, hb2⟩
  have hB2 := hB1.trans (hb2.mono hB1.size)
  have Q20 := Q10.below hb2 Q10.lt
  have cQ200 := Q20.cell 0
  have fQ200 := Q20.frozen 0
  have cQ201 := Q20.cell 1
  have fQ201 := Q20.frozen 1
  have cQ202 := Q20.cell 2
  have fQ202 := Q20.frozen 2
  simp at cQ200 cQ201 cQ202
  have Q21 := Q11.below hb2 Q11.lt
  have cQ210 := Q21.cell 0
  have fQ210 := Q21.frozen 0
  have cQ211 := Q21.cell 1
  have fQ211 := Q21.frozen 1
  have cQ212 := Q21.cell 2
  have fQ212 := Q21.frozen 2
  simp at cQ210 cQ211 cQ212
  have Q22 := Q12.below hb2 Q12.lt
  have cQ220 := Q22.cell 0
  have fQ220 := Q22.frozen 0
  have cQ221 := Q22.cell 1
  have fQ221 := Q22.frozen 1
  have cQ222 := Q22.cell 2
  have fQ222 := Q22.frozen 2
  simp at cQ220 cQ221 cQ222
  clear Q10 Q11 Q12 cQ100 fQ100 cQ101 fQ101 cQ102 fQ102 cQ110 fQ110 cQ111 fQ111 cQ112 fQ112 cQ120 fQ120 cQ121 fQ121 cQ122 fQ122
  have B5 := ((Q22.set_ 0 (.bool false)).set_ 1 (.int .i64 0)).set_ 2 (.int .i64 0)
  have q0 := B5.cell 0
  have q1 := B5.cell 1
  have q2 := B5.cell 2
  simp at q0 q1 q2
  go_wp2
  refine bodyPost_ret (v := .tuple #[edg false 0 0, .int .i64 8]) (by simp [results, Try.results17, go_sem, q0, q1, q2]) rfl ⟨rfl, ?_⟩
  exact ((hB2.setCell (p := ⟨w.heap.size + 1 + 1, 0, none⟩) (by simp; omega) _).setCell (p := ⟨w.heap.size + 1 + 1, 1, none⟩) (by simp; omega) _).setCell (p := ⟨w.heap.size + 1 + 1, 2, none⟩) (by simp; omega) _
set_option maxHeartbeats 4000000 in
theorem rin_bad {s : St} {x : Int} (hs : ¬ s.ok) (w : World) :
    Calls Try.prog 18 #[s.v, .int .i64 x] w fun en w' => en = .returned (.tuple #[.bool false, .int .i64 8]) ∧ Below w.heap.size w w' := by
  have P0 := Blk.new w 24 #[.bool s.1, .int .i64 s.2.1, .int .i64 s.2.2]
  have hB0 : Below w.heap.size w (w.alloc (.cells #[.bool s.1, .int .i64 s.2.1, .int .i64 s.2.2] 24)) := (Below.refl _ w).alloc (Nat.le_refl _) _
  go_enter Try.func18, Try.ntmps18
  go_wp2_with fail
  refine (may_no hs _).mono ?_
  rintro en w1 ⟨rfl, hb1⟩
  have hB1 := hB0.trans (hb1.mono (by simp))
  have Q10 := P0.below hb1 (by simp)
  have cQ100 := Q10.cell 0
  have fQ100 := Q10.frozen 0
  have cQ101 := Q10.cell 1
  have fQ101 := Q10.frozen 1
  have cQ102 := Q10.cell 2
  have fQ102 := Q10.frozen 2
  simp at cQ100 cQ101 cQ102
  go_wp2
  go_ret2
  exact ⟨rfl, hB1⟩
set_option maxHeartbeats 4000000 in
theorem rin_arg {s : St} {x : Int} (hs : s.ok) (hx : ¬ ValOK x) (w : World) :
    Calls Try.prog 18 #[s.v, .int .i64 x] w fun en w' => en = .returned (.tuple #[.bool false, .int .i64 2]) ∧ Below w.heap.size w w' := by
  have P0 := Blk.new w 24 #[.bool s.1, .int .i64 s.2.1, .int .i64 s.2.2]
  have hB0 : Below w.heap.size w (w.alloc (.cells #[.bool s.1, .int .i64 s.2.1, .int .i64 s.2.2] 24)) := (Below.refl _ w).alloc (Nat.le_refl _) _
  go_enter Try.func18, Try.ntmps18
  go_wp2_with fail
  refine (may_yes hs _).mono ?_
  rintro en w1 ⟨rfl, hb1⟩
  have hB1 := hB0.trans (hb1.mono (by simp))
  have Q10 := P0.below hb1 (by simp)
  have cQ100 := Q10.cell 0
  have fQ100 := Q10.frozen 0
  have cQ101 := Q10.cell 1
  have fQ101 := Q10.frozen 1
  have cQ102 := Q10.cell 2
  have fQ102 := Q10.frozen 2
  simp at cQ100 cQ101 cQ102
  go_wp2_with fail
  refine (rvalue_no hx _).mono ?_
  rintro en w2 ⟨rfl, rfl⟩
  go_wp2
  go_ret2
  exact ⟨rfl, hB1⟩
set_option maxHeartbeats 4000000 in
theorem rin_none {a b : Int} {x : Int} (hs : EdgeOK false a b) (hx : ValOK x) (w : World) :
    Calls Try.prog 18 #[edg false a b, .int .i64 x] w fun en w' => en = .returned (.tuple #[.bool false, .int .i64 0]) ∧ Below w.heap.size w w' := by
  have P0 := Blk.new w 24 #[.bool false, .int .i64 a, .int .i64 b]
  have hB0 : Below w.heap.size w (w.alloc (.cells #[.bool false, .int .i64 a, .int .i64 b] 24)) := (Below.refl _ w).alloc (Nat.le_refl _) _
  go_enter Try.func18, Try.ntmps18
  go_wp2_with fail
  refine (may_yes hs _).mono ?_
  rintro en w1 ⟨rfl, hb1⟩
  have hB1 := hB0.trans (hb1.mono (by simp))
  have Q10 := P0.below hb1 (by simp)
  have cQ100 := Q10.cell 0
  have fQ100 := Q10.frozen 0
  have cQ101 := Q10.cell 1
  have fQ101 := Q10.frozen 1
  have cQ102 := Q10.cell 2
  have fQ102 := Q10.frozen 2
  simp at cQ100 cQ101 cQ102
  clear hs
  go_wp2_with fail
  refine (rvalue_yes hx _).mono ?_
  rintro en w2 ⟨rfl, rfl⟩
  clear hx
  go_wp2
  go_ret2
  exact ⟨rfl, hB1⟩
set_option maxHeartbeats 4000000 in
theorem rin_below {a b : Int} {x : Int} (hs : EdgeOK true a b) (hx : ValOK x) (h : ¬ a ≤ x) (w : World) :
    Calls Try.prog 18 #[edg true a b, .int .i64 x] w fun en w' => en = .returned (.tuple #[.bool false, .int .i64 0]) ∧ Below w.heap.size w w' := by
  have P0 := Blk.new w 24 #[.bool true, .int .i64 a, .int .i64 b]
  have hB0 : Below w.heap.size w (w.alloc (.cells #[.bool true, .int .i64 a, .int .i64 b] 24)) := (Below.refl _ w).alloc (Nat.le_refl _) _
  have h' : decide (a ≤ x) = false := decide_eq_false h
  clear h
  go_enter Try.func18, Try.ntmps18
  go_wp2_with fail
  refine (may_yes hs _).mono ?_
  rintro en w1 ⟨rfl, hb1⟩
  have hB1 := hB0.trans (hb1.mono (by simp))
  have Q10 := P0.below hb1 (by simp)
  have cQ100 := Q10.cell 0
  have fQ100 := Q10.frozen 0
  have cQ101 := Q10.cell 1
  have fQ101 := Q10.frozen 1
  have cQ102 := Q10.cell 2
  have fQ102 := Q10.frozen 2
  simp at cQ100 cQ101 cQ102
  clear hs
  go_wp2_with fail
  refine (rvalue_yes hx _).mono ?_
  rintro en w2 ⟨rfl, rfl⟩
  clear hx
  go_wp2
  go_ret2
  exact ⟨rfl, hB1⟩
set_option maxHeartbeats 4000000 in
theorem rin_above {a b : Int} {x : Int} (hs : EdgeOK true a b) (hx : ValOK x) (h : a ≤ x) (w : World) :
    Calls Try.prog 18 #[edg true a b, .int .i64 x] w fun en w' => en = .returned (.tuple #[.bool (decide (x ≤ b)), .int .i64 0]) ∧ Below w.heap.size w w' := by
  have P0 := Blk.new w 24 #[.bool true, .int .i64 a, .int .i64 b]
  have hB0 : Below w.heap.size w (w.alloc (.cells #[.bool true, .int .i64 a, .int .i64 b] 24)) := (Below.refl _ w).alloc (Nat.le_refl _) _
  have h' : decide (a ≤ x) = true := decide_eq_true h
  clear h
  go_enter Try.func18, Try.ntmps18
  go_wp2_with fail
  refine (may_yes hs _).mono ?_
  rintro en w1 ⟨rfl, hb1⟩
  have hB1 := hB0.trans (hb1.mono (by simp))
  have Q10 := P0.below hb1 (by simp)
  have cQ100 := Q10.cell 0
  have fQ100 := Q10.frozen 0
  have cQ101 := Q10.cell 1
  have fQ101 := Q10.frozen 1
  have cQ102 := Q10.cell 2
  have fQ102 := Q10.frozen 2
  simp at cQ100 cQ101 cQ102
  clear hs
  go_wp2_with fail
  refine (rvalue_yes hx _).mono ?_
  rintro en w2 ⟨rfl, rfl⟩
  clear hx
  go_wp2
  go_ret2
  exact ⟨rfl, hB1⟩
theorem rin_yes {s : St} {x : Int} (hs : s.ok) (hx : ValOK x) (w : World) :
    Calls Try.prog 18 #[s.v, .int .i64 x] w fun en w' => en = .returned (.tuple #[.bool (inB s x), .int .i64 0]) ∧ Below w.heap.size w w' := by
  obtain ⟨h, a, b⟩ := s
  cases h
  · exact rin_none hs hx w
  · by_cases h : a ≤ x
    · have e : inB (true, a, b) x = decide (x ≤ b) := by simp [inB, h]
      rw [e]
      exact rin_above hs hx h w
    · have e : inB (true, a, b) x = false := by simp [inB]; omega
      rw [e]
      exact rin_below hs hx h w
set_option maxHeartbeats 4000000 in
theorem rwide_bad {s : St} (hs : ¬ s.ok) (w : World) :
    Calls Try.prog 19 #[s.v] w fun en w' => en = .returned (.tuple #[.int .i64 0, .int .i64 8]) ∧ Below w.heap.size w w' := by
  have P0 := Blk.new w 24 #[.bool s.1, .int .i64 s.2.1, .int .i64 s.2.2]
  have hB0 : Below w.heap.size w (w.alloc (.cells #[.bool s.1, .int .i64 s.2.1, .int .i64 s.2.2] 24)) := (Below.refl _ w).alloc (Nat.le_refl _) _
  go_enter Try.func19, Try.ntmps19
  go_wp2_with fail
  refine (may_no hs _).mono ?_
  rintro en w1 ⟨rfl, hb1⟩
  have hB1 := hB0.trans (hb1.mono (by simp))
  have Q10 := P0.below hb1 (by simp)
  have cQ100 := Q10.cell 0
  have fQ100 := Q10.frozen 0
  have cQ101 := Q10.cell 1
  have fQ101 := Q10.frozen 1
  have cQ102 := Q10.cell 2
  have fQ102 := Q10.frozen 2
  simp at cQ100 cQ101 cQ102
  go_wp2
  go_ret2
  exact ⟨rfl, hB1⟩
set_option maxHeartbeats 4000000 in
theorem rwide_none {a b : Int} (hs : EdgeOK false a b) (w : World) :
    Calls Try.prog 19 #[edg false a b] w fun en w' => en = .returned (.tuple #[.int .i64 0, .int .i64 6]) ∧ Below w.heap.size w w' := by
  have P0 := Blk.new w 24 #[.bool false, .int .i64 a, .int .i64 b]
  have hB0 : Below w.heap.size w (w.alloc (.cells #[.bool false, .int .i64 a, .int .i64 b] 24)) := (Below.refl _ w).alloc (Nat.le_refl _) _
  go_enter Try.func19, Try.ntmps19
  go_wp2_with fail
  refine (may_yes hs _).mono ?_
  rintro en w1 ⟨rfl, hb1⟩
  have hB1 := hB0.trans (hb1.mono (by simp))
  have Q10 := P0.below hb1 (by simp)
  have cQ100 := Q10.cell 0
  have fQ100 := Q10.frozen 0
  have cQ101 := Q10.cell 1
  have fQ101 := Q10.frozen 1
  have cQ102 := Q10.cell 2
  have fQ102 := Q10.frozen 2
  simp at cQ100 cQ101 cQ102
  clear hs
  go_wp2
  go_ret2
  exact ⟨rfl, hB1⟩
set_option maxHeartbeats 4000000 in
theorem rwide_yes {a b : Int} (hs : EdgeOK true a b) (w : World) :
    Calls Try.prog 19 #[edg true a b] w fun en w' => en = .returned (.tuple #[.int .i64 (b - a), .int .i64 0]) ∧ Below w.heap.size w w' := by
  have P0 := Blk.new w 24 #[.bool true, .int .i64 a, .int .i64 b]
  have hB0 : Below w.heap.size w (w.alloc (.cells #[.bool true, .int .i64 a, .int .i64 b] 24)) := (Below.refl _ w).alloc (Nat.le_refl _) _
  have hov : ValOK a ∧ ValOK b := by rcases hs with ⟨_, h1, h2, _⟩ | ⟨h1, _⟩ <;> simp_all
  have hw : IntKind.i64.wrap (b - a) = b - a := IntWalk.i64_in _ (by unfold ValOK at hov; omega)
  clear hov
  go_enter Try.func19, Try.ntmps19
  go_wp2_with fail
  refine (may_yes hs _).mono ?_
  rintro en w1 ⟨rfl, hb1⟩
  have hB1 := hB0.trans (hb1.mono (by simp))
  have Q10 := P0.below hb1 (by simp)
  have cQ100 := Q10.cell 0
  have fQ100 := Q10.frozen 0
  have cQ101 := Q10.cell 1
  have fQ101 := Q10.frozen 1
  have cQ102 := Q10.cell 2
  have fQ102 := Q10.frozen 2
  simp at cQ100 cQ101 cQ102
  clear hs
  go_wp2
  go_ret2
  exact ⟨rfl, hB1⟩
end Go.Proofs.Ytdibchmhigcaaaa
