/- Edge: the contracts of the reference's functions: joined edges; each as a function of numbers. -/
import Derived.Test.YtdibchmhigcaaaaR
import Derived.StillTailTactics
import Derived.Deep.QuietTactic
import Derived.BigRegion
namespace Go.Proofs.Ytdibchmhigcaaaa
open Go.ChangeShapes Go.WideShapes Go.ChangeAt Go.RowKit
set_option linter.unusedSimpArgs false
set_option linter.unusedVariables false
set_option maxHeartbeats 2000000 in
theorem joined_l {a1 b1 a2 b2 : Int} {h2 : Bool} (w : World) :
    Calls Try.prog 27 #[edg false a1 b1, edg h2 a2 b2] w fun en w' => en = .returned (edg h2 a2 b2) ∧ Below w.heap.size w w' := by
  go_enter Try.func27, Try.ntmps27
  go_wp2
  refine bodyPost_ret (v := edg h2 a2 b2) (by simp [results, Try.results27, go_sem]) rfl ⟨rfl, ?_⟩
  exact (((Below.refl _ w).alloc (Nat.le_refl _) _).alloc (by simp) _).alloc (by first | (simp; done) | (simp; omega)) _
set_option maxHeartbeats 2000000 in
theorem joined_r {a1 b1 a2 b2 : Int} (w : World) :
    Calls Try.prog 27 #[edg true a1 b1, edg false a2 b2] w fun en w' => en = .returned (edg true a1 b1) ∧ Below w.heap.size w w' := by
  go_enter Try.func27, Try.ntmps27
  go_wp2
  refine bodyPost_ret (v := edg true a1 b1) (by simp [results, Try.results27, go_sem]) rfl ⟨rfl, ?_⟩
  exact (((Below.refl _ w).alloc (Nat.le_refl _) _).alloc (by simp) _).alloc (by first | (simp; done) | (simp; omega)) _
def mn (a x : Int) : Int := if x < a then x else a
def mx (a x : Int) : Int := if a < x then x else a
set_option maxHeartbeats 2000000 in
theorem joined_b {a1 b1 a2 b2 : Int} (w : World) :
    Calls Try.prog 27 #[edg true a1 b1, edg true a2 b2] w fun en w' => en = .returned (edg true (mn a1 a2) (mx b1 b2)) ∧ Below w.heap.size w w' := by
  go_enter Try.func27, Try.ntmps27
  go_wp2
  all_goals
    first | rw [show mn a1 a2 = a2 from if_pos (by omega)] | rw [show mn a1 a2 = a1 from if_neg (by omega)]
    first | rw [show mx b1 b2 = b2 from if_pos (by omega)] | rw [show mx b1 b2 = b1 from if_neg (by omega)]
    refine bodyPost_ret (v := _) (by simp [results, Try.results27, go_sem]) rfl ⟨rfl, ?_⟩
    exact (((Below.refl _ w).alloc (Nat.le_refl _) _).alloc (by simp) _).alloc (by first | (simp; done) | (simp; omega)) _
theorem joined_any (s t : St) (w : World) : Calls Try.prog 27 #[s.v, t.v] w fun en w' => en = .returned (jn s t).v ∧ Below w.heap.size w w' := by
  obtain ⟨h1, a1, b1⟩ := s
  obtain ⟨h2, a2, b2⟩ := t
  cases h1
  · exact joined_l w
  · cases h2
    · exact joined_r w
    · exact joined_b w
set_option maxHeartbeats 4000000 in
theorem rjoin_yes {s t : St} (hs : s.ok) (ht : t.ok) (w : World) :
    Calls Try.prog 17 #[s.v, t.v] w fun en w' => en = .returned (.tuple #[(jn s t).v, .int .i64 0]) ∧ Below w.heap.size w w' := by
  have P0 := ((Blk.new w 24 #[.bool s.1, .int .i64 s.2.1, .int .i64 s.2.2]).alloc (.cells #[.bool t.1, .int .i64 t.2.1, .int .i64 t.2.2] 24)).alloc (.cells #[.bool false, .int .i64 0, .int .i64 0] 24)
  have P1 := (Blk.new (w.alloc (.cells #[.bool s.1, .int .i64 s.2.1, .int .i64 s.2.2] 24)) 24 #[.bool t.1, .int .i64 t.2.1, .int .i64 t.2.2]).alloc (.cells #[.bool false, .int .i64 0, .int .i64 0] 24)
  have P2 := Blk.new ((w.alloc (.cells #[.bool s.1, .int .i64 s.2.1, .int .i64 s.2.2] 24)).alloc (.cells #[.bool t.1, .int .i64 t.2.1, .int .i64 t.2.2] 24)) 24 #[.bool false, .int .i64 0, .int .i64 0]
  simp only [World.size_alloc] at P1 P2
  have hB0 : Below w.heap.size w (((w.alloc (.cells #[.bool s.1, .int .i64 s.2.1, .int .i64 s.2.2] 24)).alloc (.cells #[.bool t.1, .int .i64 t.2.1, .int .i64 t.2.2] 24)).alloc (.cells #[.bool false, .int .i64 0, .int .i64 0] 24)) := (((Below.refl _ w).alloc (Nat.le_refl _) _).alloc (by simp) _).alloc (by first | (simp; done) | (simp; omega)) _
  go_enter Try.func17, Try.ntmps17
  go_wp2_with fail
  refine (may_yes hs _).mono ?_
  rintro en w1 ⟨rfl, hb1⟩
  have hB1 := hB0.trans (hb1.mono (by simp; omega))
  have Q10 := P0.below hb1 (by first | (simp; done) | (simp; omega))
  have cQ100 := Q10.cell 0
  have fQ100 := Q10.frozen 0
  have cQ101 := Q10.cell 1
  have fQ101 := Q10.frozen 1
  have cQ102 := Q10.cell 2
  have fQ102 := Q10.frozen 2
  simp at cQ100 cQ101 cQ102
  have Q11 := P1.below hb1 (by first | (simp; done) | (simp; omega))
  have cQ110 := Q11.cell 0
  have fQ110 := Q11.frozen 0
  have cQ111 := Q11.cell 1
  have fQ111 := Q11.frozen 1
  have cQ112 := Q11.cell 2
  have fQ112 := Q11.frozen 2
  simp at cQ110 cQ111 cQ112
  have Q12 := P2.below hb1 (by first | (simp; done) | (simp; omega))
  have cQ120 := Q12.cell 0
  have fQ120 := Q12.frozen 0
  have cQ121 := Q12.cell 1
  have fQ121 := Q12.frozen 1
  have cQ122 := Q12.cell 2
  have fQ122 := Q12.frozen 2
  simp at cQ120 cQ121 cQ122
  clear P0 P1 P2
  go_wp2_with fail
  refine (may_yes ht _).mono ?_
  rintro en w2 ⟨rfl, hb2⟩
  have hB2 := hB1.trans (hb2.mono hB1.size)
  have Q20 := Q10.below hb2 Q10.lt
  have cQ200 := Q20.cell 0
  have fQ200 := Q20.frozen 0
  have cQ201 := Q20.cell 1
  have fQ201 := Q20.frozen 1
  have cQ202 := Q20.cell 2
  have fQ202 := Q20.frozen 2
  simp at cQ200 cQ201 cQ202
  have Q21 := Q11.below hb2 Q11.lt
  have cQ210 := Q21.cell 0
  have fQ210 := Q21.frozen 0
  have cQ211 := Q21.cell 1
  have fQ211 := Q21.frozen 1
  have cQ212 := Q21.cell 2
  have fQ212 := Q21.frozen 2
  simp at cQ210 cQ211 cQ212
  have Q22 := Q12.below hb2 Q12.lt
  have cQ220 := Q22.cell 0
  have fQ220 := Q22.frozen 0
  have cQ221 := Q22.cell 1
  have fQ221 := Q22.frozen 1
  have cQ222 := Q22.cell 2
  have fQ222 := Q22.frozen 2
  simp at cQ220 cQ221 cQ222
  clear Q10 Q11 Q12 cQ100 fQ100 cQ101 fQ101 cQ102 fQ102 cQ110 fQ110 cQ111 fQ111 cQ112 fQ112 cQ120 fQ120 cQ121 fQ121 cQ122 fQ122
  go_wp2_with fail
  refine (joined_any s t _).mono ?_
  rintro en w3 ⟨rfl, hb3⟩
  have hB3 := hB2.trans (hb3.mono hB2.size)
  have R2 := Q22.below hb3 Q22.lt
  have cR20 := R2.cell 0
  have fR20 := R2.frozen 0
  have cR21 := R2.cell 1
  have fR21 := R2.frozen 1
  have cR22 := R2.cell 2
  have fR22 := R2.frozen 2
  simp at cR20 cR21 cR22
  have B5 := ((R2.set_ 0 (.bool (jn s t).1)).set_ 1 (.int .i64 (jn s t).2.1)).set_ 2 (.int .i64 (jn s t).2.2)
  have q0 := B5.cell 0
  have q1 := B5.cell 1
  have q2 := B5.cell 2
  simp at q0 q1 q2
  clear Q20 Q21 Q22 hb3 hb1 hb2 hs ht
  go_wp2
  refine bodyPost_ret (v := .tuple #[(jn s t).v, .int .i64 0]) (by simp [results, Try.results17, go_sem, q0, q1, q2]) rfl ⟨rfl, ?_⟩
  exact ((hB3.setCell (p := ⟨w.heap.size + 1 + 1, 0, none⟩) (by simp; omega) _).setCell (p := ⟨w.heap.size + 1 + 1, 1, none⟩) (by simp; omega) _).setCell (p := ⟨w.heap.size + 1 + 1, 2, none⟩) (by simp; omega) _
theorem rcheck_any (s : St) (w : World) : Calls Try.prog 20 #[s.v] w fun en w' => en = .returned (.int .i64 (chkE s)) ∧ Below w.heap.size w w' := by
  unfold chkE
  by_cases h : St.ok s
  · rw [if_pos h]; exact rcheck_yes h w
  · rw [if_neg h]; exact rcheck_no h w
theorem rof_one (x : Int) (w : World) : Calls Try.prog 15 #[.int .i64 x] w fun en w' => en = .returned (.tuple #[(ofS x).v, .int .i64 (ofE x)]) ∧ Below w.heap.size w w' := by
  unfold ofS ofE
  by_cases h : ValOK x
  · rw [if_pos h, if_pos h]; exact rof_yes h w
  · rw [if_neg h, if_neg h]; exact rof_no h w
theorem rjoin_any (s t : St) (w : World) : Calls Try.prog 17 #[s.v, t.v] w fun en w' => en = .returned (.tuple #[(joinS s t).v, .int .i64 (joinE s t)]) ∧ Below w.heap.size w w' := by
  unfold joinS joinE
  by_cases hs : St.ok s
  · by_cases ht : St.ok t
    · rw [if_pos ⟨hs, ht⟩, if_pos ⟨hs, ht⟩]; exact rjoin_yes hs ht w
    · rw [if_neg (fun h => ht h.2), if_neg (fun h => ht h.2)]; exact rjoin_no2 hs ht w
  · rw [if_neg (fun h => hs h.1), if_neg (fun h => hs h.1)]; exact rjoin_no1 hs w
theorem rin_any (s : St) (x : Int) (w : World) : Calls Try.prog 18 #[s.v, .int .i64 x] w fun en w' => en = .returned (.tuple #[.bool (inS s x), .int .i64 (inE s x)]) ∧ Below w.heap.size w w' := by
  unfold inS inE
  by_cases hs : St.ok s
  · by_cases hx : ValOK x
    · rw [if_pos ⟨hs, hx⟩, if_pos hs, if_pos hx]; exact rin_yes hs hx w
    · rw [if_neg (fun h => hx h.2), if_pos hs, if_neg hx]; exact rin_arg hs hx w
  · rw [if_neg (fun h => hs h.1), if_neg hs]; exact rin_bad hs w
theorem rwide_any (s : St) (w : World) : Calls Try.prog 19 #[s.v] w fun en w' => en = .returned (.tuple #[.int .i64 (wideS s), .int .i64 (wideE s)]) ∧ Below w.heap.size w w' := by
  unfold wideS wideE
  by_cases hs : St.ok s
  · obtain ⟨h, a, b⟩ := s
    cases h
    · rw [if_neg (fun h => by cases h.2), if_pos hs, if_neg (fun h => by cases h)]; exact rwide_none hs w
    · rw [if_pos ⟨hs, rfl⟩, if_pos hs, if_pos rfl]; exact rwide_yes hs w
  · rw [if_neg (fun h => hs h.1), if_neg hs]; exact rwide_bad hs w
end Go.Proofs.Ytdibchmhigcaaaa
