/- Limb's Door: the walk of the law LimbSums. -/
import Derived.Test.YtaklmkjldmbleaaDoorAl
namespace Go.Proofs.YtaklmkjldmbleaaDoor
open Go.ChangeShapes Go.WideShapes Go.ChangeAt Go.RowKit
set_option linter.unusedSimpArgs false
set_option linter.unusedVariables false
theorem z2_of {C : Int} {l : Nat} (h : C = 0 ↔ l = 0) : ((C == 0) != ((l : Int) == 0)) = false := by
  by_cases h1 : C = 0
  · rw [h.1 h1, h1]; rfl
  · have h2 : ¬ l = 0 := fun h3 => h1 (h.2 h3)
    rw [beq_eq_false_iff_ne.2 h1, beq_eq_false_iff_ne.2 (show (l : Int) ≠ 0 by omega)]
    rfl
set_option maxRecDepth 100000 in
set_option maxHeartbeats 16000000 in
theorem LimbSums.walk (A A2 A3 : Option Addr) (n n2 n3 c c2 c3 : Nat) (a b d : List Nat) (hn : a.length = n) (hn2 : b.length = n2) (hn3 : d.length = n3) (hnc : n ≤ c) (hnc2 : n2 ≤ c2) (hnc3 : n3 ≤ c3) (ha : ∀ x ∈ a, x < 4294967296) (hb : ∀ x ∈ b, x < 4294967296) (hd : ∀ x ∈ d, x < 4294967296) (w : World) (ra : Reads w w.heap.size 1 A n (ints .u32 a)) (rb : Reads w w.heap.size 1 A2 n2 (ints .u32 b)) (rd : Reads w w.heap.size 1 A3 n3 (ints .u32 d)) (hT : Tab w) :
    Calls Tryd.prog 4 #[.slice A n c, .slice A2 n2 c2, .slice A3 n3 c3] w fun e w' => e = .returned (.bool true) ∧ Below w.heap.size w w' := by
  have bw := Below.refl w.heap.size w
  have hal := alive_any w hT
  by_cases h1 : 42 < n
  · have g1 := fun w' => great_any A n c true (decide_eq_true (by omega)) w'
    clear ra rb rd ha hb hd hn hn2 hn3 hT h1
    go_enter Tryd.func4, Tryd.ntmps4
    go_wp2_with fail
    refine hal.mono ?_
    rintro e v1 ⟨rfl, hb⟩
    replace bw := bw.trans (hb.mono bw.size)
    clear hb hal
    go_wp2_with fail
    refine (g1 _).mono ?_
    rintro e v2 ⟨rfl, rfl⟩
    go_wp2
    go_ret
    exact ⟨rfl, bw⟩
  have g1 := fun w' => great_any A n c false (decide_eq_false (by omega)) w'
  by_cases h2 : 42 < n2
  · have g2 := fun w' => great_any A2 n2 c2 true (decide_eq_true (by omega)) w'
    clear ra rb rd ha hb hd hn hn2 hn3 hT h2
    go_enter Tryd.func4, Tryd.ntmps4
    go_wp2_with fail
    refine hal.mono ?_
    rintro e v1 ⟨rfl, hb⟩
    replace bw := bw.trans (hb.mono bw.size)
    clear hb hal
    go_wp2_with fail
    refine (g1 _).mono ?_
    rintro e v2 ⟨rfl, rfl⟩
    go_wp2_with fail
    refine (g2 _).mono ?_
    rintro e v3 ⟨rfl, rfl⟩
    go_wp2
    go_ret
    exact ⟨rfl, bw⟩
  have g2 := fun w' => great_any A2 n2 c2 false (decide_eq_false (by omega)) w'
  by_cases h3 : 42 < n3
  · have g3 := fun w' => great_any A3 n3 c3 true (decide_eq_true (by omega)) w'
    clear ra rb rd ha hb hd hn hn2 hn3 hT h3
    go_enter Tryd.func4, Tryd.ntmps4
    go_wp2_with fail
    refine hal.mono ?_
    rintro e v1 ⟨rfl, hb⟩
    replace bw := bw.trans (hb.mono bw.size)
    clear hb hal
    go_wp2_with fail
    refine (g1 _).mono ?_
    rintro e v2 ⟨rfl, rfl⟩
    go_wp2_with fail
    refine (g2 _).mono ?_
    rintro e v3 ⟨rfl, rfl⟩
    go_wp2_with fail
    refine (g3 _).mono ?_
    rintro e v4 ⟨rfl, rfl⟩
    go_wp2
    go_ret
    exact ⟨rfl, bw⟩
  have g3 := fun w' => great_any A3 n3 c3 false (decide_eq_false (by omega)) w'
  have n42 : n ≤ 42 := by omega
  have m42 : n2 ≤ 42 := by omega
  have k42 : n3 ≤ 42 := by omega
  have gn := Lib.hid hn
  have gn2 := Lib.hid hn2
  have gn3 := Lib.hid hn3
  have gha := Lib.hid ha
  have ghb := Lib.hid hb
  have ghd := Lib.hid hd
  obtain ⟨⟨L, E⟩, hA1⟩ : ∃ R, addS a b = R := ⟨_, rfl⟩
  obtain ⟨⟨P, E2⟩, hA2⟩ : ∃ R, mulS a b = R := ⟨_, rfl⟩
  have hA1' : addS b a = (L, E) := by rw [addS_comm]; exact hA1
  have hA2' : mulS b a = (P, E2) := by rw [mulS_comm]; exact hA2
  have hLl : ∀ x ∈ L, x < 4294967296 := by have := addS_lt a b; rw [hA1] at this; exact this
  obtain ⟨⟨S, E3⟩, hA3⟩ : ∃ R, mulS L d = R := ⟨_, rfl⟩
  obtain ⟨⟨T, E4⟩, hA4⟩ : ∃ R, mulS a d = R := ⟨_, rfl⟩
  obtain ⟨⟨U, E5⟩, hA5⟩ : ∃ R, mulS b d = R := ⟨_, rfl⟩
  have hTl : ∀ x ∈ T, x < 4294967296 := by have := mulS_lt a d; rw [hA4] at this; exact this
  have hUl : ∀ x ∈ U, x < 4294967296 := by have := mulS_lt b d; rw [hA5] at this; exact this
  obtain ⟨⟨V, E6⟩, hA6⟩ : ∃ R, addS T U = R := ⟨_, rfl⟩
  obtain ⟨m1, hm1⟩ : ∃ m, L.length = m := ⟨_, rfl⟩
  obtain ⟨m2, hm2⟩ : ∃ m, P.length = m := ⟨_, rfl⟩
  obtain ⟨m3, hm3⟩ : ∃ m, S.length = m := ⟨_, rfl⟩
  obtain ⟨m4, hm4⟩ : ∃ m, T.length = m := ⟨_, rfl⟩
  obtain ⟨m5, hm5⟩ : ∃ m, U.length = m := ⟨_, rfl⟩
  obtain ⟨m6, hm6⟩ : ∃ m, V.length = m := ⟨_, rfl⟩
  have l1 : m1 ≤ 40 := by have := addS_len a b; rw [hA1] at this; rw [← hm1]; exact this
  have l2 : m2 ≤ 40 := by have := mulS_len a b; rw [hA2] at this; rw [← hm2]; exact this
  have l3 : m3 ≤ 40 := by have := mulS_len L d; rw [hA3] at this; rw [← hm3]; exact this
  have l4 : m4 ≤ 40 := by have := mulS_len a d; rw [hA4] at this; rw [← hm4]; exact this
  have l5 : m5 ≤ 40 := by have := mulS_len b d; rw [hA5] at this; rw [← hm5]; exact this
  have l6 : m6 ≤ 40 := by have := addS_len T U; rw [hA6] at this; rw [← hm6]; exact this
  have gback := Lib.hid (fun h : E = 0 => sums_back (b := b) ha (h ▸ hA1))
  have gmul := Lib.hid (fun (h0 : E = 0) (h1 : E3 = 0) (h2 : E4 = 0) (h3 : E5 = 0) (h4 : E6 = 0) => sums_mul (h0 ▸ hA1) (h1 ▸ hA3) (h2 ▸ hA4) (h3 ▸ hA5) (h4 ▸ hA6))
  have q1 := Lib.hid hA1
  have q1' := Lib.hid hA1'
  have q2 := Lib.hid hA2
  have q2' := Lib.hid hA2'
  have q3 := Lib.hid hA3
  have q4 := Lib.hid hA4
  have q5 := Lib.hid hA5
  have q6 := Lib.hid hA6
  have gm1 := Lib.hid hm1
  have gm2 := Lib.hid hm2
  have gm3 := Lib.hid hm3
  have gm4 := Lib.hid hm4
  have gm5 := Lib.hid hm5
  have gm6 := Lib.hid hm6
  have gL := Lib.hid hLl
  have gT := Lib.hid hTl
  have gU := Lib.hid hUl
  have y1 : (E != E) = false := by simp
  have y2 : (E2 != E2) = false := by simp
  clear hA1 hA1' hA2 hA2' hA3 hA4 hA5 hA6 hm1 hm2 hm3 hm4 hm5 hm6 hLl hTl hUl hn hn2 hn3 ha hb hd h1 h2 h3
  go_enter Tryd.func4, Tryd.ntmps4
  go_wp2_with fail
  refine (hal).mono ?_
  rintro en v1 ⟨rfl, hb⟩
  replace ra := (ra.below hb).more hb.size
  replace rb := (rb.below hb).more hb.size
  replace rd := (rd.below hb).more hb.size
  replace bw := bw.trans (hb.mono bw.size)
  clear hb
  clear hal hT
  go_wp2_with fail
  refine (g1 _).mono ?_
  rintro en v1 ⟨rfl, rfl⟩
  go_wp2_with fail
  refine (g2 _).mono ?_
  rintro en v1 ⟨rfl, rfl⟩
  go_wp2_with fail
  refine (g3 _).mono ?_
  rintro en v1 ⟨rfl, rfl⟩
  go_wp2_with fail
  clear g1 g2 g3
  refine (addR gm1.out A A2 c c2 gn.out gn2.out gha.out ghb.out _ ra rb q1.out).mono ?_
  rintro en v2 ⟨X1, x1, rfl, hx1, rx1, hb⟩
  replace ra := (ra.below hb).more hb.size
  replace rb := (rb.below hb).more hb.size
  replace rd := (rd.below hb).more hb.size
  replace bw := bw.trans (hb.mono bw.size)
  clear hb
  go_wp2_with fail
  refine (addR gm1.out A2 A c2 c gn2.out gn.out ghb.out gha.out _ rb ra q1'.out).mono ?_
  rintro en v3 ⟨X2, x2, rfl, hx2, rx2, hb⟩
  replace ra := (ra.below hb).more hb.size
  replace rb := (rb.below hb).more hb.size
  replace rd := (rd.below hb).more hb.size
  replace rx1 := (rx1.below hb).more hb.size
  replace bw := bw.trans (hb.mono bw.size)
  clear hb
  go_wp2_with fail
  refine (mulR gm2.out A A2 c c2 gn.out gn2.out gha.out ghb.out _ ra rb q2.out).mono ?_
  rintro en v4 ⟨X3, x3, rfl, hx3, rx3, hb⟩
  replace ra := (ra.below hb).more hb.size
  replace rb := (rb.below hb).more hb.size
  replace rd := (rd.below hb).more hb.size
  replace rx1 := (rx1.below hb).more hb.size
  replace rx2 := (rx2.below hb).more hb.size
  replace bw := bw.trans (hb.mono bw.size)
  clear hb
  go_wp2_with fail
  refine (mulR gm2.out A2 A c2 c gn2.out gn.out ghb.out gha.out _ rb ra q2'.out).mono ?_
  rintro en v5 ⟨X4, x4, rfl, hx4, rx4, hb⟩
  replace ra := (ra.below hb).more hb.size
  replace rb := (rb.below hb).more hb.size
  replace rd := (rd.below hb).more hb.size
  replace rx1 := (rx1.below hb).more hb.size
  replace rx2 := (rx2.below hb).more hb.size
  replace rx3 := (rx3.below hb).more hb.size
  replace bw := bw.trans (hb.mono bw.size)
  clear hb
  go_wp2_with fail
  refine (sameR X1 X2 x1 x2 gm1.out gm1.out _ rx1 rx2 (Q := true) (by omega) (by omega) (decide_eq_true rfl)).mono ?_
  rintro en v6 ⟨rfl, hb⟩
  replace ra := (ra.below hb).more hb.size
  replace rb := (rb.below hb).more hb.size
  replace rd := (rd.below hb).more hb.size
  replace rx1 := (rx1.below hb).more hb.size
  replace rx2 := (rx2.below hb).more hb.size
  replace rx3 := (rx3.below hb).more hb.size
  replace rx4 := (rx4.below hb).more hb.size
  replace bw := bw.trans (hb.mono bw.size)
  clear hb
  go_wp2_with fail
  refine (sameR X3 X4 x3 x4 gm2.out gm2.out _ rx3 rx4 (Q := true) (by omega) (by omega) (decide_eq_true rfl)).mono ?_
  rintro en v7 ⟨rfl, hb⟩
  replace ra := (ra.below hb).more hb.size
  replace rb := (rb.below hb).more hb.size
  replace rd := (rd.below hb).more hb.size
  replace rx1 := (rx1.below hb).more hb.size
  replace rx2 := (rx2.below hb).more hb.size
  replace rx3 := (rx3.below hb).more hb.size
  replace rx4 := (rx4.below hb).more hb.size
  replace bw := bw.trans (hb.mono bw.size)
  clear hb
  clear rx2 rx3 rx4
  by_cases h0 : E = 0
  · subst h0
    obtain ⟨hsb, C, hcp, hC0, hCz⟩ := gback.out rfl
    have q7 := Lib.hid hsb
    have q8 := Lib.hid hcp
    have z1 : decide (C < 0) = false := decide_eq_false (by omega)
    have z2 : ((C == 0) != ((n2 : Int) == 0)) = false := z2_of (by rw [← gn2.out]; exact hCz)
    have z3 : ((C == 0) == ((n2 : Int) == 0)) = true := by have h := z2; rw [bne, Bool.not_eq_false'] at h; exact h
    clear hsb hcp hC0 hCz gback y1
    go_wp2_with fail
    refine (subR gn.out X1 A2 x1 c2 gm1.out gn2.out gL.out ghb.out _ rx1 rb q7.out).mono ?_
    rintro en v8 ⟨X2, x2, rfl, hx2, rx2, hb⟩
    replace ra := (ra.below hb).more hb.size
    replace rb := (rb.below hb).more hb.size
    replace rd := (rd.below hb).more hb.size
    replace rx1 := (rx1.below hb).more hb.size
    replace bw := bw.trans (hb.mono bw.size)
    clear hb
    go_wp2_with fail
    refine (cmpR X1 A x1 c gm1.out gn.out gL.out gha.out _ rx1 ra q8.out).mono ?_
    rintro en v9 ⟨rfl, hb⟩
    replace ra := (ra.below hb).more hb.size
    replace rb := (rb.below hb).more hb.size
    replace rd := (rd.below hb).more hb.size
    replace rx1 := (rx1.below hb).more hb.size
    replace rx2 := (rx2.below hb).more hb.size
    replace bw := bw.trans (hb.mono bw.size)
    clear hb
    go_wp2_with fail
    refine (sameR X2 A x2 c gn.out gn.out _ rx2 ra (Q := true) (by omega) (by omega) (decide_eq_true rfl)).mono ?_
    rintro en v10 ⟨rfl, hb⟩
    replace ra := (ra.below hb).more hb.size
    replace rb := (rb.below hb).more hb.size
    replace rd := (rd.below hb).more hb.size
    replace rx1 := (rx1.below hb).more hb.size
    replace rx2 := (rx2.below hb).more hb.size
    replace bw := bw.trans (hb.mono bw.size)
    clear hb
    go_wp2_with fail
    refine (mulR gm3.out X1 A3 x1 c3 gm1.out gn3.out gL.out ghd.out _ rx1 rd q3.out).mono ?_
    rintro en v11 ⟨X5, x5, rfl, hx5, rx5, hb⟩
    replace ra := (ra.below hb).more hb.size
    replace rb := (rb.below hb).more hb.size
    replace rd := (rd.below hb).more hb.size
    replace rx1 := (rx1.below hb).more hb.size
    replace rx2 := (rx2.below hb).more hb.size
    replace bw := bw.trans (hb.mono bw.size)
    clear hb
    go_wp2_with fail
    refine (mulR gm4.out A A3 c c3 gn.out gn3.out gha.out ghd.out _ ra rd q4.out).mono ?_
    rintro en v12 ⟨X6, x6, rfl, hx6, rx6, hb⟩
    replace ra := (ra.below hb).more hb.size
    replace rb := (rb.below hb).more hb.size
    replace rd := (rd.below hb).more hb.size
    replace rx1 := (rx1.below hb).more hb.size
    replace rx2 := (rx2.below hb).more hb.size
    replace rx5 := (rx5.below hb).more hb.size
    replace bw := bw.trans (hb.mono bw.size)
    clear hb
    go_wp2_with fail
    refine (mulR gm5.out A2 A3 c2 c3 gn2.out gn3.out ghb.out ghd.out _ rb rd q5.out).mono ?_
    rintro en v13 ⟨X7, x7, rfl, hx7, rx7, hb⟩
    replace ra := (ra.below hb).more hb.size
    replace rb := (rb.below hb).more hb.size
    replace rd := (rd.below hb).more hb.size
    replace rx1 := (rx1.below hb).more hb.size
    replace rx2 := (rx2.below hb).more hb.size
    replace rx5 := (rx5.below hb).more hb.size
    replace rx6 := (rx6.below hb).more hb.size
    replace bw := bw.trans (hb.mono bw.size)
    clear hb
    go_wp2_with fail
    refine (addR gm6.out X6 X7 x6 x7 gm4.out gm5.out gT.out gU.out _ rx6 rx7 q6.out).mono ?_
    rintro en v14 ⟨X8, x8, rfl, hx8, rx8, hb⟩
    replace ra := (ra.below hb).more hb.size
    replace rb := (rb.below hb).more hb.size
    replace rd := (rd.below hb).more hb.size
    replace rx1 := (rx1.below hb).more hb.size
    replace rx2 := (rx2.below hb).more hb.size
    replace rx5 := (rx5.below hb).more hb.size
    replace rx6 := (rx6.below hb).more hb.size
    replace rx7 := (rx7.below hb).more hb.size
    replace bw := bw.trans (hb.mono bw.size)
    clear hb
    by_cases kE3 : E3 = 0
    rotate_left
    · have z3 : (E3 != 0) = true := bne_iff_ne.2 kE3
      clear gmul
      go_wp2
      go_ret
      exact ⟨rfl, bw⟩
    subst kE3
    by_cases kE4 : E4 = 0
    rotate_left
    · have z3 : (E4 != 0) = true := bne_iff_ne.2 kE4
      clear gmul
      go_wp2
      go_ret
      exact ⟨rfl, bw⟩
    subst kE4
    by_cases kE5 : E5 = 0
    rotate_left
    · have z3 : (E5 != 0) = true := bne_iff_ne.2 kE5
      clear gmul
      go_wp2
      go_ret
      exact ⟨rfl, bw⟩
    subst kE5
    by_cases kE6 : E6 = 0
    rotate_left
    · have z3 : (E6 != 0) = true := bne_iff_ne.2 kE6
      clear gmul
      go_wp2
      go_ret
      exact ⟨rfl, bw⟩
    subst kE6
    obtain hSV := gmul.out (by first | trivial | rfl) (by first | trivial | rfl) (by first | trivial | rfl) (by first | trivial | rfl) (by first | trivial | rfl)
    go_wp2_with fail
    subst hSV
    have hm36 : m6 = m3 := by rw [← gm6.out, ← gm3.out]
    refine (sameR X5 X8 x5 x8 gm3.out gm6.out _ rx5 rx8 (Q := true) (by omega) (by omega) (decide_eq_true rfl)).mono ?_
    rintro en v30 ⟨rfl, hb⟩
    replace bw := bw.trans (hb.mono bw.size)
    clear hm36
    go_wp2
    go_ret
    exact ⟨rfl, bw⟩
  · have y3 : (E == 0) = false := beq_eq_false_iff_ne.2 h0
    have y4 : (E != 0) = true := bne_iff_ne.2 h0
    clear gback gmul y1
    go_wp2_with fail
    refine (mulR gm3.out X1 A3 x1 c3 gm1.out gn3.out gL.out ghd.out _ rx1 rd q3.out).mono ?_
    rintro en v8 ⟨X5, x5, rfl, hx5, rx5, hb⟩
    replace ra := (ra.below hb).more hb.size
    replace rb := (rb.below hb).more hb.size
    replace rd := (rd.below hb).more hb.size
    replace rx1 := (rx1.below hb).more hb.size
    replace bw := bw.trans (hb.mono bw.size)
    clear hb
    go_wp2_with fail
    refine (mulR gm4.out A A3 c c3 gn.out gn3.out gha.out ghd.out _ ra rd q4.out).mono ?_
    rintro en v9 ⟨X6, x6, rfl, hx6, rx6, hb⟩
    replace ra := (ra.below hb).more hb.size
    replace rb := (rb.below hb).more hb.size
    replace rd := (rd.below hb).more hb.size
    replace rx1 := (rx1.below hb).more hb.size
    replace rx5 := (rx5.below hb).more hb.size
    replace bw := bw.trans (hb.mono bw.size)
    clear hb
    go_wp2_with fail
    refine (mulR gm5.out A2 A3 c2 c3 gn2.out gn3.out ghb.out ghd.out _ rb rd q5.out).mono ?_
    rintro en v10 ⟨X7, x7, rfl, hx7, rx7, hb⟩
    replace ra := (ra.below hb).more hb.size
    replace rb := (rb.below hb).more hb.size
    replace rd := (rd.below hb).more hb.size
    replace rx1 := (rx1.below hb).more hb.size
    replace rx5 := (rx5.below hb).more hb.size
    replace rx6 := (rx6.below hb).more hb.size
    replace bw := bw.trans (hb.mono bw.size)
    clear hb
    go_wp2_with fail
    refine (addR gm6.out X6 X7 x6 x7 gm4.out gm5.out gT.out gU.out _ rx6 rx7 q6.out).mono ?_
    rintro en v11 ⟨X8, x8, rfl, hx8, rx8, hb⟩
    replace ra := (ra.below hb).more hb.size
    replace rb := (rb.below hb).more hb.size
    replace rd := (rd.below hb).more hb.size
    replace rx1 := (rx1.below hb).more hb.size
    replace rx5 := (rx5.below hb).more hb.size
    replace rx6 := (rx6.below hb).more hb.size
    replace rx7 := (rx7.below hb).more hb.size
    replace bw := bw.trans (hb.mono bw.size)
    clear hb
    go_wp2
    go_ret
    exact ⟨rfl, bw⟩
end Go.Proofs.YtaklmkjldmbleaaDoor
