/- Edge: the contracts of Join, In and Wide, and of the reference's functions. -/
import Derived.Test.YtdibchmhigcaaaaF
import Derived.IntWalk
namespace Go.Proofs.Ytdibchmhigcaaaa
open Go.ChangeShapes Go.WideShapes Go.ChangeAt Go.RowKit Go.Shelf
set_option linter.unusedSimpArgs false
set_option linter.unusedVariables false
def jn (s t : St) : St := if s.1 = false then t else if t.1 = false then s else (true, if t.2.1 < s.2.1 then t.2.1 else s.2.1, if s.2.2 < t.2.2 then t.2.2 else s.2.2)
abbrev St.ok (s : St) : Prop := EdgeOK s.1 s.2.1 s.2.2
abbrev St.v (s : St) : Value := edg s.1 s.2.1 s.2.2
theorem fld_ends {s t : St} (hs : s.ok) (ht : t.ok) : fld (vals s.1 s.2.1 s.2.2 ++ vals t.1 t.2.1 t.2.2) = jn s t := by
  obtain ⟨h1, a1, b1⟩ := s
  obtain ⟨h2, a2, b2⟩ := t
  simp only [St.ok, EdgeOK, ValOK] at hs ht
  cases h1 <;> cases h2 <;> simp [fld, stp, vals, jn, putLo, putHi] at * <;> (try omega)
  all_goals (repeat' split)
  all_goals (first | omega | (constructor <;> omega) | skip)
theorem jn_ok {s t : St} (hs : s.ok) (ht : t.ok) : (jn s t).ok := by
  obtain ⟨h1, a1, b1⟩ := s
  obtain ⟨h2, a2, b2⟩ := t
  simp only [St.ok, EdgeOK, ValOK] at *
  cases h1 <;> cases h2 <;> simp [jn] at * <;> (try omega)
  all_goals (repeat' split)
  all_goals omega
set_option maxHeartbeats 4000000 in
theorem join_yes {s t : St} (hs : s.ok) (ht : t.ok) (w : World) :
    Calls Try.prog 16 #[s.v, t.v] w fun en w' => en = .returned (.tuple #[(jn s t).v, .int .i64 0]) ∧ Below w.heap.size w w' := by
  have P0 := ((Blk.new w 24 #[.bool s.1, .int .i64 s.2.1, .int .i64 s.2.2]).alloc (.cells #[.bool t.1, .int .i64 t.2.1, .int .i64 t.2.2] 24)).alloc (.cells #[.bool false, .int .i64 0, .int .i64 0] 24)
  have P1 := (Blk.new (w.alloc (.cells #[.bool s.1, .int .i64 s.2.1, .int .i64 s.2.2] 24)) 24 #[.bool t.1, .int .i64 t.2.1, .int .i64 t.2.2]).alloc (.cells #[.bool false, .int .i64 0, .int .i64 0] 24)
  have P2 := Blk.new ((w.alloc (.cells #[.bool s.1, .int .i64 s.2.1, .int .i64 s.2.2] 24)).alloc (.cells #[.bool t.1, .int .i64 t.2.1, .int .i64 t.2.2] 24)) 24 #[.bool false, .int .i64 0, .int .i64 0]
  simp only [World.size_alloc] at P1 P2
  have hB0 : Below w.heap.size w (((w.alloc (.cells #[.bool s.1, .int .i64 s.2.1, .int .i64 s.2.2] 24)).alloc (.cells #[.bool t.1, .int .i64 t.2.1, .int .i64 t.2.2] 24)).alloc (.cells #[.bool false, .int .i64 0, .int .i64 0] 24)) := (((Below.refl _ w).alloc (Nat.le_refl _) _).alloc (by simp) _).alloc (by first | (simp; done) | (simp; omega)) _
  go_enter Try.func16, Try.ntmps16
  go_wp2_with fail
  refine (check_yes hs _).mono ?_
  rintro en w1 ⟨rfl, hb1⟩
  have hB1 := hB0.trans (hb1.mono (by simp; omega))
  have Q10 := P0.below hb1 (by first | (simp; done) | (simp; omega))
  have cQ100 := Q10.cell 0
  have fQ100 := Q10.frozen 0
  have cQ101 := Q10.cell 1
  have fQ101 := Q10.frozen 1
  have cQ102 := Q10.cell 2
  have fQ102 := Q10.frozen 2
  simp at cQ100 cQ101 cQ102
  have Q11 := P1.below hb1 (by first | (simp; done) | (simp; omega))
  have cQ110 := Q11.cell 0
  have fQ110 := Q11.frozen 0
  have cQ111 := Q11.cell 1
  have fQ111 := Q11.frozen 1
  have cQ112 := Q11.cell 2
  have fQ112 := Q11.frozen 2
  simp at cQ110 cQ111 cQ112
  have Q12 := P2.below hb1 (by first | (simp; done) | (simp; omega))
  have cQ120 := Q12.cell 0
  have fQ120 := Q12.frozen 0
  have cQ121 := Q12.cell 1
  have fQ121 := Q12.frozen 1
  have cQ122 := Q12.cell 2
  have fQ122 := Q12.frozen 2
  simp at cQ120 cQ121 cQ122
  clear P0 P1 P2
  go_wp2_with fail
  refine (check_yes ht _).mono ?_
  rintro en w2 ⟨rfl, hb2⟩
  have hB2 := hB1.trans (hb2.mono hB1.size)
  have Q20 := Q10.below hb2 Q10.lt
  have cQ200 := Q20.cell 0
  have fQ200 := Q20.frozen 0
  have cQ201 := Q20.cell 1
  have fQ201 := Q20.frozen 1
  have cQ202 := Q20.cell 2
  have fQ202 := Q20.frozen 2
  simp at cQ200 cQ201 cQ202
  have Q21 := Q11.below hb2 Q11.lt
  have cQ210 := Q21.cell 0
  have fQ210 := Q21.frozen 0
  have cQ211 := Q21.cell 1
  have fQ211 := Q21.frozen 1
  have cQ212 := Q21.cell 2
  have fQ212 := Q21.frozen 2
  simp at cQ210 cQ211 cQ212
  have Q22 := Q12.below hb2 Q12.lt
  have cQ220 := Q22.cell 0
  have fQ220 := Q22.frozen 0
  have cQ221 := Q22.cell 1
  have fQ221 := Q22.frozen 1
  have cQ222 := Q22.cell 2
  have fQ222 := Q22.frozen 2
  simp at cQ220 cQ221 cQ222
  clear Q10 Q11 Q12 cQ100 fQ100 cQ101 fQ101 cQ102 fQ102 cQ110 fQ110 cQ111 fQ111 cQ112 fQ112 cQ120 fQ120 cQ121 fQ121 cQ122 fQ122
  have hcs : ∀ X : Array Value, X = #[.bool s.1, .int .i64 s.2.1, .int .i64 s.2.2, .bool t.1, .int .i64 t.2.1, .int .i64 t.2.2] → X = X := fun _ _ => rfl
  go_wp2_with fail
  refine (ends_any (some ⟨w2.heap.size, 0, none⟩) 2 2 _).mono ?_
  rintro en w3 ⟨rfl, rfl⟩
  have N1 := (Blk.new w2 24 #[.bool s.1, .int .i64 s.2.1, .int .i64 s.2.2, .bool t.1, .int .i64 t.2.1, .int .i64 t.2.2]).alloc (.cells #[.slice (some ⟨w2.heap.size, 0, none⟩) 2 2] 66)
  have N2 := Blk.new (w2.alloc (.cells #[.bool s.1, .int .i64 s.2.1, .int .i64 s.2.2, .bool t.1, .int .i64 t.2.1, .int .i64 t.2.2] 24)) 66 #[.slice (some ⟨w2.heap.size, 0, none⟩) 2 2]
  rw [World.size_alloc] at N2
  have cN2 : World.cell? _ ⟨w2.heap.size + 1, 0, none⟩ = some (.slice (some ⟨w2.heap.size, 0, none⟩) 2 2) := N2.cell 0
  have hB3 := (hB2.alloc hB2.size (.cells #[.bool s.1, .int .i64 s.2.1, .int .i64 s.2.2, .bool t.1, .int .i64 t.2.1, .int .i64 t.2.2] 24)).alloc (by have := hB2.size; simp; omega) (.cells #[.slice (some ⟨w2.heap.size, 0, none⟩) 2 2] 66)
  go_wp2_with fail
  refine (of_ends (w2.heap.size + 1) w2.heap.size s.1 t.1 s.2.1 s.2.2 t.2.1 t.2.2 _ (by simp) (by simp; omega) cN2 N1).mono ?_
  rintro en w4 ⟨rfl, hb4⟩
  rw [fld_ends hs ht]
  have hB4 := hB3.trans (hb4.mono hB3.size)
  have R2 := ((Q22.alloc (.cells #[.bool s.1, .int .i64 s.2.1, .int .i64 s.2.2, .bool t.1, .int .i64 t.2.1, .int .i64 t.2.2] 24)).alloc (.cells #[.slice (some ⟨w2.heap.size, 0, none⟩) 2 2] 66)).below hb4 (by have := Q22.lt; simp; omega)
  have cR20 := R2.cell 0
  have fR20 := R2.frozen 0
  have cR21 := R2.cell 1
  have fR21 := R2.frozen 1
  have cR22 := R2.cell 2
  have fR22 := R2.frozen 2
  simp at cR20 cR21 cR22
  have B5 := ((R2.set_ 0 (.bool (jn s t).1)).set_ 1 (.int .i64 (jn s t).2.1)).set_ 2 (.int .i64 (jn s t).2.2)
  have q0 := B5.cell 0
  have q1 := B5.cell 1
  have q2 := B5.cell 2
  simp at q0 q1 q2
  clear N1 N2 cN2 Q20 Q21 Q22 hb4 hb1 hb2
  go_wp2
  refine bodyPost_ret (v := .tuple #[(jn s t).v, .int .i64 0]) (by simp [results, Try.results16, go_sem, q0, q1, q2]) rfl ⟨rfl, ?_⟩
  exact ((hB4.setCell (p := ⟨w.heap.size + 1 + 1, 0, none⟩) (by simp; omega) _).setCell (p := ⟨w.heap.size + 1 + 1, 1, none⟩) (by simp; omega) _).setCell (p := ⟨w.heap.size + 1 + 1, 2, none⟩) (by simp; omega) _
set_option maxHeartbeats 4000000 in
theorem join_no1 {s t : St} (hs : ¬ s.ok) (w : World) :
    Calls Try.prog 16 #[s.v, t.v] w fun en w' => en = .returned (.tuple #[edg false 0 0, .int .i64 8]) ∧ Below w.heap.size w w' := by
  have P0 := ((Blk.new w 24 #[.bool s.1, .int .i64 s.2.1, .int .i64 s.2.2]).alloc (.cells #[.bool t.1, .int .i64 t.2.1, .int .i64 t.2.2] 24)).alloc (.cells #[.bool false, .int .i64 0, .int .i64 0] 24)
  have P1 := (Blk.new (w.alloc (.cells #[.bool s.1, .int .i64 s.2.1, .int .i64 s.2.2] 24)) 24 #[.bool t.1, .int .i64 t.2.1, .int .i64 t.2.2]).alloc (.cells #[.bool false, .int .i64 0, .int .i64 0] 24)
  have P2 := Blk.new ((w.alloc (.cells #[.bool s.1, .int .i64 s.2.1, .int .i64 s.2.2] 24)).alloc (.cells #[.bool t.1, .int .i64 t.2.1, .int .i64 t.2.2] 24)) 24 #[.bool false, .int .i64 0, .int .i64 0]
  simp only [World.size_alloc] at P1 P2
  have hB0 : Below w.heap.size w (((w.alloc (.cells #[.bool s.1, .int .i64 s.2.1, .int .i64 s.2.2] 24)).alloc (.cells #[.bool t.1, .int .i64 t.2.1, .int .i64 t.2.2] 24)).alloc (.cells #[.bool false, .int .i64 0, .int .i64 0] 24)) := (((Below.refl _ w).alloc (Nat.le_refl _) _).alloc (by simp) _).alloc (by first | (simp; done) | (simp; omega)) _
  go_enter Try.func16, Try.ntmps16
  go_wp2_with fail
  refine (check_no hs _).mono ?_
  rintro en w1 ⟨rfl, hb1⟩
  have hB1 := hB0.trans (hb1.mono (by simp; omega))
  have Q10 := P0.below hb1 (by first | (simp; done) | (simp; omega))
  have cQ100 := Q10.cell 0
  have fQ100 := Q10.frozen 0
  have cQ101 := Q10.cell 1
  have fQ101 := Q10.frozen 1
  have cQ102 := Q10.cell 2
  have fQ102 := Q10.frozen 2
  simp at cQ100 cQ101 cQ102
  have Q11 := P1.below hb1 (by first | (simp; done) | (simp; omega))
  have cQ110 := Q11.cell 0
  have fQ110 := Q11.frozen 0
  have cQ111 := Q11.cell 1
  have fQ111 := Q11.frozen 1
  have cQ112 := Q11.cell 2
  have fQ112 := Q11.frozen 2
  simp at cQ110 cQ111 cQ112
  have Q12 := P2.below hb1 (by first | (simp; done) | (simp; omega))
  have cQ120 := Q12.cell 0
  have fQ120 := Q12.frozen 0
  have cQ121 := Q12.cell 1
  have fQ121 := Q12.frozen 1
  have cQ122 := Q12.cell 2
  have fQ122 := Q12.frozen 2
  simp at cQ120 cQ121 cQ122
  clear P0 P1 P2
  have B5 := ((Q12.set_ 0 (.bool false)).set_ 1 (.int .i64 0)).set_ 2 (.int .i64 0)
  have q0 := B5.cell 0
  have q1 := B5.cell 1
  have q2 := B5.cell 2
  simp at q0 q1 q2
  go_wp2
  refine bodyPost_ret (v := .tuple #[edg false 0 0, .int .i64 8]) (by simp [results, Try.results16, go_sem, q0, q1, q2]) rfl ⟨rfl, ?_⟩
  exact ((hB1.setCell (p := ⟨w.heap.size + 1 + 1, 0, none⟩) (by simp; omega) _).setCell (p := ⟨w.heap.size + 1 + 1, 1, none⟩) (by simp; omega) _).setCell (p := ⟨w.heap.size + 1 + 1, 2, none⟩) (by simp; omega) _
set_option maxHeartbeats 4000000 in
theorem join_no2 {s t : St} (hs : s.ok) (ht : ¬ t.ok) (w : World) :
    Calls Try.prog 16 #[s.v, t.v] w fun en w' => en = .returned (.tuple #[edg false 0 0, .int .i64 8]) ∧ Below w.heap.size w w' := by
  have P0 := ((Blk.new w 24 #[.bool s.1, .int .i64 s.2.1, .int .i64 s.2.2]).alloc (.cells #[.bool t.1, .int .i64 t.2.1, .int .i64 t.2.2] 24)).alloc (.cells #[.bool false, .int .i64 0, .int .i64 0] 24)
  have P1 := (Blk.new (w.alloc (.cells #[.bool s.1, .int .i64 s.2.1, .int .i64 s.2.2] 24)) 24 #[.bool t.1, .int .i64 t.2.1, .int .i64 t.2.2]).alloc (.cells #[.bool false, .int .i64 0, .int .i64 0] 24)
  have P2 := Blk.new ((w.alloc (.cells #[.bool s.1, .int .i64 s.2.1, .int .i64 s.2.2] 24)).alloc (.cells #[.bool t.1, .int .i64 t.2.1, .int .i64 t.2.2] 24)) 24 #[.bool false, .int .i64 0, .int .i64 0]
  simp only [World.size_alloc] at P1 P2
  have hB0 : Below w.heap.size w (((w.alloc (.cells #[.bool s.1, .int .i64 s.2.1, .int .i64 s.2.2] 24)).alloc (.cells #[.bool t.1, .int .i64 t.2.1, .int .i64 t.2.2] 24)).alloc (.cells #[.bool false, .int .i64 0, .int .i64 0] 24)) := (((Below.refl _ w).alloc (Nat.le_refl _) _).alloc (by simp) _).alloc (by first | (simp; done) | (simp; omega)) _
  go_enter Try.func16, Try.ntmps16
  go_wp2_with fail
  refine (check_yes hs _).mono ?_
  rintro en w1 ⟨rfl, hb1⟩
  have hB1 := hB0.trans (hb1.mono (by simp; omega))
  have Q10 := P0.below hb1 (by first | (simp; done) | (simp; omega))
  have cQ100 := Q10.cell 0
  have fQ100 := Q10.frozen 0
  have cQ101 := Q10.cell 1
  have fQ101 := Q10.frozen 1
  have cQ102 := Q10.cell 2
  have fQ102 := Q10.frozen 2
  simp at cQ100 cQ101 cQ102
  have Q11 := P1.below hb1 (by first | (simp; done) | (simp; omega))
  have cQ110 := Q11.cell 0
  have fQ110 := Q11.frozen 0
  have cQ111 := Q11.cell 1
  have fQ111 := Q11.frozen 1
  have cQ112 := Q11.cell 2
  have fQ112 := Q11.frozen 2
  simp at cQ110 cQ111 cQ112
  have Q12 := P2.below hb1 (by first | (simp; done) | (simp; omega))
  have cQ120 := Q12.cell 0
  have fQ120 := Q12.frozen 0
  have cQ121 := Q12.cell 1
  have fQ121 := Q12.frozen 1
  have cQ122 := Q12.cell 2
  have fQ122 := Q12.frozen 2
  simp at cQ120 cQ121 cQ122
  clear P0 P1 P2
  go_wp2_with fail
  refine (check_no ht _).mono ?_
  rintro en w2 ⟨rfl, hb2⟩
  have hB2 := hB1.trans (hb2.mono hB1.size)
  have Q20 := Q10.below hb2 Q10.lt
  have cQ200 := Q20.cell 0
  have fQ200 := Q20.frozen 0
  have cQ201 := Q20.cell 1
  have fQ201 := Q20.frozen 1
  have cQ202 := Q20.cell 2
  have fQ202 := Q20.frozen 2
  simp at cQ200 cQ201 cQ202
  have Q21 := Q11.below hb2 Q11.lt
  have cQ210 := Q21.cell 0
  have fQ210 := Q21.frozen 0
  have cQ211 := Q21.cell 1
  have fQ211 := Q21.frozen 1
  have cQ212 := Q21.cell 2
  have fQ212 := Q21.frozen 2
  simp at cQ210 cQ211 cQ212
  have Q22 := Q12.below hb2 Q12.lt
  have cQ220 := Q22.cell 0
  have fQ220 := Q22.frozen 0
  have cQ221 := Q22.cell 1
  have fQ221 := Q22.frozen 1
  have cQ222 := Q22.cell 2
  have fQ222 := Q22.frozen 2
  simp at cQ220 cQ221 cQ222
  clear Q10 Q11 Q12 cQ100 fQ100 cQ101 fQ101 cQ102 fQ102 cQ110 fQ110 cQ111 fQ111 cQ112 fQ112 cQ120 fQ120 cQ121 fQ121 cQ122 fQ122
  have B5 := ((Q22.set_ 0 (.bool false)).set_ 1 (.int .i64 0)).set_ 2 (.int .i64 0)
  have q0 := B5.cell 0
  have q1 := B5.cell 1
  have q2 := B5.cell 2
  simp at q0 q1 q2
  go_wp2
  refine bodyPost_ret (v := .tuple #[edg false 0 0, .int .i64 8]) (by simp [results, Try.results16, go_sem, q0, q1, q2]) rfl ⟨rfl, ?_⟩
  exact ((hB2.setCell (p := ⟨w.heap.size + 1 + 1, 0, none⟩) (by simp; omega) _).setCell (p := ⟨w.heap.size + 1 + 1, 1, none⟩) (by simp; omega) _).setCell (p := ⟨w.heap.size + 1 + 1, 2, none⟩) (by simp; omega) _
set_option maxHeartbeats 4000000 in
theorem in_bad {s : St} {x : Int} (hs : ¬ s.ok) (w : World) :
    Calls Try.prog 12 #[s.v, .int .i64 x] w fun en w' => en = .returned (.tuple #[.bool false, .int .i64 8]) ∧ Below w.heap.size w w' := by
  have P0 := Blk.new w 24 #[.bool s.1, .int .i64 s.2.1, .int .i64 s.2.2]
  have hB0 : Below w.heap.size w (w.alloc (.cells #[.bool s.1, .int .i64 s.2.1, .int .i64 s.2.2] 24)) := (Below.refl _ w).alloc (Nat.le_refl _) _
  go_enter Try.func12, Try.ntmps12
  go_wp2_with fail
  refine (check_no hs _).mono ?_
  rintro en w1 ⟨rfl, hb1⟩
  have hB1 := hB0.trans (hb1.mono (by simp))
  have Q10 := P0.below hb1 (by simp)
  have cQ100 := Q10.cell 0
  have fQ100 := Q10.frozen 0
  have cQ101 := Q10.cell 1
  have fQ101 := Q10.frozen 1
  have cQ102 := Q10.cell 2
  have fQ102 := Q10.frozen 2
  simp at cQ100 cQ101 cQ102
  go_wp2
  go_ret2
  exact ⟨rfl, hB1⟩
set_option maxHeartbeats 4000000 in
theorem in_arg {s : St} {x : Int} (hs : s.ok) (hx : ¬ ValOK x) (w : World) :
    Calls Try.prog 12 #[s.v, .int .i64 x] w fun en w' => en = .returned (.tuple #[.bool false, .int .i64 2]) ∧ Below w.heap.size w w' := by
  have P0 := Blk.new w 24 #[.bool s.1, .int .i64 s.2.1, .int .i64 s.2.2]
  have hB0 : Below w.heap.size w (w.alloc (.cells #[.bool s.1, .int .i64 s.2.1, .int .i64 s.2.2] 24)) := (Below.refl _ w).alloc (Nat.le_refl _) _
  go_enter Try.func12, Try.ntmps12
  go_wp2_with fail
  refine (check_yes hs _).mono ?_
  rintro en w1 ⟨rfl, hb1⟩
  have hB1 := hB0.trans (hb1.mono (by simp))
  have Q10 := P0.below hb1 (by simp)
  have cQ100 := Q10.cell 0
  have fQ100 := Q10.frozen 0
  have cQ101 := Q10.cell 1
  have fQ101 := Q10.frozen 1
  have cQ102 := Q10.cell 2
  have fQ102 := Q10.frozen 2
  simp at cQ100 cQ101 cQ102
  go_wp2_with fail
  refine (value_no hx _).mono ?_
  rintro en w2 ⟨rfl, rfl⟩
  go_wp2
  go_ret2
  exact ⟨rfl, hB1⟩
set_option maxHeartbeats 4000000 in
theorem in_none {a b : Int} {x : Int} (hs : EdgeOK false a b) (hx : ValOK x) (w : World) :
    Calls Try.prog 12 #[edg false a b, .int .i64 x] w fun en w' => en = .returned (.tuple #[.bool false, .int .i64 0]) ∧ Below w.heap.size w w' := by
  have P0 := Blk.new w 24 #[.bool false, .int .i64 a, .int .i64 b]
  have hB0 : Below w.heap.size w (w.alloc (.cells #[.bool false, .int .i64 a, .int .i64 b] 24)) := (Below.refl _ w).alloc (Nat.le_refl _) _
  go_enter Try.func12, Try.ntmps12
  go_wp2_with fail
  refine (check_yes hs _).mono ?_
  rintro en w1 ⟨rfl, hb1⟩
  have hB1 := hB0.trans (hb1.mono (by simp))
  have Q10 := P0.below hb1 (by simp)
  have cQ100 := Q10.cell 0
  have fQ100 := Q10.frozen 0
  have cQ101 := Q10.cell 1
  have fQ101 := Q10.frozen 1
  have cQ102 := Q10.cell 2
  have fQ102 := Q10.frozen 2
  simp at cQ100 cQ101 cQ102
  clear hs
  go_wp2_with fail
  refine (value_yes hx _).mono ?_
  rintro en w2 ⟨rfl, rfl⟩
  clear hx
  go_wp2
  go_ret2
  exact ⟨rfl, hB1⟩
set_option maxHeartbeats 4000000 in
theorem in_below {a b : Int} {x : Int} (hs : EdgeOK true a b) (hx : ValOK x) (h : ¬ a ≤ x) (w : World) :
    Calls Try.prog 12 #[edg true a b, .int .i64 x] w fun en w' => en = .returned (.tuple #[.bool false, .int .i64 0]) ∧ Below w.heap.size w w' := by
  have P0 := Blk.new w 24 #[.bool true, .int .i64 a, .int .i64 b]
  have hB0 : Below w.heap.size w (w.alloc (.cells #[.bool true, .int .i64 a, .int .i64 b] 24)) := (Below.refl _ w).alloc (Nat.le_refl _) _
  have h' : decide (a ≤ x) = false := decide_eq_false h
  clear h
  go_enter Try.func12, Try.ntmps12
  go_wp2_with fail
  refine (check_yes hs _).mono ?_
  rintro en w1 ⟨rfl, hb1⟩
  have hB1 := hB0.trans (hb1.mono (by simp))
  have Q10 := P0.below hb1 (by simp)
  have cQ100 := Q10.cell 0
  have fQ100 := Q10.frozen 0
  have cQ101 := Q10.cell 1
  have fQ101 := Q10.frozen 1
  have cQ102 := Q10.cell 2
  have fQ102 := Q10.frozen 2
  simp at cQ100 cQ101 cQ102
  clear hs
  go_wp2_with fail
  refine (value_yes hx _).mono ?_
  rintro en w2 ⟨rfl, rfl⟩
  clear hx
  go_wp2
  go_ret2
  exact ⟨rfl, hB1⟩
set_option maxHeartbeats 4000000 in
theorem in_above {a b : Int} {x : Int} (hs : EdgeOK true a b) (hx : ValOK x) (h : a ≤ x) (w : World) :
    Calls Try.prog 12 #[edg true a b, .int .i64 x] w fun en w' => en = .returned (.tuple #[.bool (decide (x ≤ b)), .int .i64 0]) ∧ Below w.heap.size w w' := by
  have P0 := Blk.new w 24 #[.bool true, .int .i64 a, .int .i64 b]
  have hB0 : Below w.heap.size w (w.alloc (.cells #[.bool true, .int .i64 a, .int .i64 b] 24)) := (Below.refl _ w).alloc (Nat.le_refl _) _
  have h' : decide (a ≤ x) = true := decide_eq_true h
  clear h
  go_enter Try.func12, Try.ntmps12
  go_wp2_with fail
  refine (check_yes hs _).mono ?_
  rintro en w1 ⟨rfl, hb1⟩
  have hB1 := hB0.trans (hb1.mono (by simp))
  have Q10 := P0.below hb1 (by simp)
  have cQ100 := Q10.cell 0
  have fQ100 := Q10.frozen 0
  have cQ101 := Q10.cell 1
  have fQ101 := Q10.frozen 1
  have cQ102 := Q10.cell 2
  have fQ102 := Q10.frozen 2
  simp at cQ100 cQ101 cQ102
  clear hs
  go_wp2_with fail
  refine (value_yes hx _).mono ?_
  rintro en w2 ⟨rfl, rfl⟩
  clear hx
  go_wp2
  go_ret2
  exact ⟨rfl, hB1⟩
def inB (s : St) (x : Int) : Bool := s.1 && (decide (s.2.1 ≤ x) && decide (x ≤ s.2.2))
theorem in_yes {s : St} {x : Int} (hs : s.ok) (hx : ValOK x) (w : World) :
    Calls Try.prog 12 #[s.v, .int .i64 x] w fun en w' => en = .returned (.tuple #[.bool (inB s x), .int .i64 0]) ∧ Below w.heap.size w w' := by
  obtain ⟨h, a, b⟩ := s
  cases h
  · exact in_none hs hx w
  · by_cases h : a ≤ x
    · have e : inB (true, a, b) x = decide (x ≤ b) := by simp [inB, h]
      rw [e]
      exact in_above hs hx h w
    · have e : inB (true, a, b) x = false := by simp [inB]; omega
      rw [e]
      exact in_below hs hx h w
set_option maxHeartbeats 4000000 in
theorem wide_bad {s : St} (hs : ¬ s.ok) (w : World) :
    Calls Try.prog 11 #[s.v] w fun en w' => en = .returned (.tuple #[.int .i64 0, .int .i64 8]) ∧ Below w.heap.size w w' := by
  have P0 := Blk.new w 24 #[.bool s.1, .int .i64 s.2.1, .int .i64 s.2.2]
  have hB0 : Below w.heap.size w (w.alloc (.cells #[.bool s.1, .int .i64 s.2.1, .int .i64 s.2.2] 24)) := (Below.refl _ w).alloc (Nat.le_refl _) _
  go_enter Try.func11, Try.ntmps11
  go_wp2_with fail
  refine (check_no hs _).mono ?_
  rintro en w1 ⟨rfl, hb1⟩
  have hB1 := hB0.trans (hb1.mono (by simp))
  have Q10 := P0.below hb1 (by simp)
  have cQ100 := Q10.cell 0
  have fQ100 := Q10.frozen 0
  have cQ101 := Q10.cell 1
  have fQ101 := Q10.frozen 1
  have cQ102 := Q10.cell 2
  have fQ102 := Q10.frozen 2
  simp at cQ100 cQ101 cQ102
  go_wp2
  go_ret2
  exact ⟨rfl, hB1⟩
set_option maxHeartbeats 4000000 in
theorem wide_none {a b : Int} (hs : EdgeOK false a b) (w : World) :
    Calls Try.prog 11 #[edg false a b] w fun en w' => en = .returned (.tuple #[.int .i64 0, .int .i64 6]) ∧ Below w.heap.size w w' := by
  have P0 := Blk.new w 24 #[.bool false, .int .i64 a, .int .i64 b]
  have hB0 : Below w.heap.size w (w.alloc (.cells #[.bool false, .int .i64 a, .int .i64 b] 24)) := (Below.refl _ w).alloc (Nat.le_refl _) _
  go_enter Try.func11, Try.ntmps11
  go_wp2_with fail
  refine (check_yes hs _).mono ?_
  rintro en w1 ⟨rfl, hb1⟩
  have hB1 := hB0.trans (hb1.mono (by simp))
  have Q10 := P0.below hb1 (by simp)
  have cQ100 := Q10.cell 0
  have fQ100 := Q10.frozen 0
  have cQ101 := Q10.cell 1
  have fQ101 := Q10.frozen 1
  have cQ102 := Q10.cell 2
  have fQ102 := Q10.frozen 2
  simp at cQ100 cQ101 cQ102
  clear hs
  go_wp2
  go_ret2
  exact ⟨rfl, hB1⟩
set_option maxHeartbeats 4000000 in
theorem wide_yes {a b : Int} (hs : EdgeOK true a b) (w : World) :
    Calls Try.prog 11 #[edg true a b] w fun en w' => en = .returned (.tuple #[.int .i64 (b - a), .int .i64 0]) ∧ Below w.heap.size w w' := by
  have P0 := Blk.new w 24 #[.bool true, .int .i64 a, .int .i64 b]
  have hB0 : Below w.heap.size w (w.alloc (.cells #[.bool true, .int .i64 a, .int .i64 b] 24)) := (Below.refl _ w).alloc (Nat.le_refl _) _
  have hov : ValOK a ∧ ValOK b := by rcases hs with ⟨_, h1, h2, _⟩ | ⟨h1, _⟩ <;> simp_all
  have hw : IntKind.i64.wrap (b - a) = b - a := IntWalk.i64_in _ (by unfold ValOK at hov; omega)
  clear hov
  go_enter Try.func11, Try.ntmps11
  go_wp2_with fail
  refine (check_yes hs _).mono ?_
  rintro en w1 ⟨rfl, hb1⟩
  have hB1 := hB0.trans (hb1.mono (by simp))
  have Q10 := P0.below hb1 (by simp)
  have cQ100 := Q10.cell 0
  have fQ100 := Q10.frozen 0
  have cQ101 := Q10.cell 1
  have fQ101 := Q10.frozen 1
  have cQ102 := Q10.cell 2
  have fQ102 := Q10.frozen 2
  simp at cQ100 cQ101 cQ102
  clear hs
  go_wp2
  go_ret2
  exact ⟨rfl, hB1⟩
end Go.Proofs.Ytdibchmhigcaaaa
