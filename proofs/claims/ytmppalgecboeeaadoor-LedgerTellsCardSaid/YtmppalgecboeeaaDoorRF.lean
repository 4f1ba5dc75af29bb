/- Door: the reference's ledger: Check, asked, Clean, Zero -/
import Derived.Test.YtmppalgecboeeaaDoorRE
import Derived.Test.YtmppalgecboeeaaDoorEF
import Derived.Test.YtmppalgecboeeaaDoorLK
namespace Go.Proofs.YtmppalgecboeeaaDoor
open Go.ChangeShapes Go.WideShapes Go.ChangeAt Go.RowKit
set_option linter.unusedSimpArgs false
set_option linter.unusedVariables false
open Go.Shelf
set_option maxRecDepth 100000
set_option maxHeartbeats 8000000 in
theorem rgcheck_any (A : Option Addr) (n c : Nat) (l : List En) (hm : n ≤ 8300) (w : World) (h1 : Ens w w.heap.size A n l) : Calls Tryd.prog 22 #[.slice A n c] w fun en w' => en = .returned (.int .i64 (chkL l)) ∧ Below w.heap.size w w' := by
  have gln := Lib.hid (ens_len h1)
  by_cases hb : 8192 < n
  · have d5 : decide ((8192 : Int) < n) = true := decide_eq_true (by omega)
    have d6 : decide (8192 < n) = true := decide_eq_true hb
    have g4 : Hid (4 = chkL l) := Lib.hid (by unfold chkL; rw [if_pos (by rw [gln.out]; exact hb)])
    clear h1 hb hm
    go_enter Tryd.func22, Tryd.ntmps22
    go_wp2
    go_ret
    exact ⟨by rw [← g4.out]; rfl, Below.refl _ _⟩
  have gn : Hid (¬ 8192 < l.length) := Lib.hid (by rw [gln.out]; omega)
  have d5 : decide ((8192 : Int) < n) = false := decide_eq_false (by omega)
  have d6 : decide (8192 < n) = false := decide_eq_false hb
  have hB0 := Below.refl w.heap.size w
  have g8 : Hid (∀ x ∈ l, goodE x = false → 8 = chkL l) := Lib.hid (fun x hx hg => by
    unfold chkL
    rw [if_neg gn.out, if_neg]
    intro h
    rw [List.all_eq_true.1 h x hx] at hg
    cases hg)
  have gh1 := Lib.hid h1
  clear hb h1
  go_enter Tryd.func22, Tryd.ntmps22
  go_wp2
  go_loopw [3] (fun t wr => ∃ (k : Nat), k ≤ n ∧ t = .int .i64 (k : Int) ∧ Hid (∀ j x, j < k → l[j]? = some x → goodE x = true) ∧ Below w.heap.size w wr) (fun t _ => n - (intOf t).toNat)
  case atStart => exact ⟨0, Nat.zero_le _, rfl, Lib.hid (fun j x h => by omega), hB0⟩
  case round =>
    clear hB0
    obtain ⟨k, hk, rfl, h0, hB⟩ := hrel
    by_cases hlt : k < n
    · obtain ⟨ad, ep, why, ag0, aX0, an0, ac0, ae0, ag1, aX1, an1, ac1, ae1, ag2, aX2, an2, ac2, ae2, ag3, aX3, an3, ac3, ae3, m, rfl, hb1, hl1, hx1, hrel1⟩ := ens_rel gh1.out hlt
      obtain ⟨a0, a1, a2, a3, a4, a5, a6, a7, a8, a9, a10, a11, a12, a13⟩ := (hrel1 wr hB).2
      have i1 : (0 : Int) ≤ k := by omega
      have i2 : (k : Int) < n := by omega
      have gl1 := Lib.hid hl1
      have g8' : goodE ⟨ep, why, m⟩ = false → 8 = chkL l := g8.out _ (List.mem_of_getElem? hl1)
      obtain ⟨Q, hQ⟩ : ∃ Q, mayM m = Q := ⟨_, rfl⟩
      clear hx1 hl1 hb1
      by_cases h1 : ep < 0
      · have dh1 : decide (ep < 0) = true := decide_eq_true h1
        have e8 := g8' (by
            have e : eraN ep = false := by
              unfold eraN
              simp only [Bool.and_eq_false_iff, decide_eq_false_iff_not]
              omega
            simp [goodE, e])
        clear g8'
        replace e8 := Lib.hid e8
        go_wp2
        go_ret
        exact ⟨by rw [← e8.out]; rfl, hB⟩
      have dh1 : decide (ep < 0) = false := decide_eq_false h1
      by_cases h2 : 65535 < ep
      · have dh2 : decide (65535 < ep) = true := decide_eq_true h2
        have e8 := g8' (by
            have e : eraN ep = false := by
              unfold eraN
              simp only [Bool.and_eq_false_iff, decide_eq_false_iff_not]
              omega
            simp [goodE, e])
        clear g8'
        replace e8 := Lib.hid e8
        go_wp2
        go_ret
        exact ⟨by rw [← e8.out]; rfl, hB⟩
      have dh2 : decide (65535 < ep) = false := decide_eq_false h2
      by_cases h3 : why < 1
      · have dh3 : decide (why < 1) = true := decide_eq_true h3
        have e8 := g8' (by
            have e : knK why = false := by
              unfold knK
              simp only [Bool.and_eq_false_iff, decide_eq_false_iff_not]
              omega
            simp [goodE, e])
        clear g8'
        replace e8 := Lib.hid e8
        go_wp2
        go_ret
        exact ⟨by rw [← e8.out]; rfl, hB⟩
      have dh3 : decide (why < 1) = false := decide_eq_false h3
      by_cases h4 : 6 < why
      · have dh4 : decide (6 < why) = true := decide_eq_true h4
        have e8 := g8' (by
            have e : knK why = false := by
              unfold knK
              simp only [Bool.and_eq_false_iff, decide_eq_false_iff_not]
              omega
            simp [goodE, e])
        clear g8'
        replace e8 := Lib.hid e8
        go_wp2
        go_ret
        exact ⟨by rw [← e8.out]; rfl, hB⟩
      have dh4 : decide (6 < why) = false := decide_eq_false h4
      have hmy := rmmay_any ag0 aX0 an0 ac0 ae0 ag1 aX1 an1 ac1 ae1 ag2 aX2 an2 ac2 ae2 ag3 aX3 an3 ac3 ae3 m Q hQ wr (hrel1 wr hB).1
      have gQ := Lib.hid hQ
      clear hQ
      go_wp2_with fail
      refine hmy.mono ?_
      rintro en w2 ⟨rfl, hb2⟩
      clear hmy
      have hB2 := hB.trans (hb2.mono hB.size)
      clear a0 a1 a2 a3 a4 a5 a6 a7 a8 a9 a10 a11 a12 a13 hrel1
      cases Q with
      | false =>
        have e8 := Lib.hid (g8' (by simp [goodE, gQ.out]))
        clear g8'
        go_wp2
        go_ret
        exact ⟨by rw [← e8.out]; rfl, hB2⟩
      | true =>
        have h0' : Hid (∀ j x, j < k + 1 → l[j]? = some x → goodE x = true) := Lib.hid (fun j x hj hx => by
          rcases Nat.lt_or_ge j k with h | h
          · exact h0.out j x h hx
          · obtain rfl : j = k := by omega
            rw [gl1.out] at hx
            injection hx with hx
            subst hx
            have e1 : eraN ep = true := by unfold eraN; rw [decide_eq_true (show (0 : Int) ≤ ep by omega), decide_eq_true (show ep ≤ 65535 by omega)]; rfl
            have e2 : knK why = true := by unfold knK; rw [decide_eq_true (show (1 : Int) ≤ why by omega), decide_eq_true (show why ≤ 6 by omega)]; rfl
            simp [goodE, e1, e2, gQ.out])
        clear g8' h0 gl1 dh1 dh2 dh3 dh4 h1 h2 h3 h4
        go_wp2
        go_roundw
        case rel => exact ⟨k + 1, by omega, by go_num, h0', hB2⟩
        case measure => simp [intOf]; omega
    · obtain rfl : k = n := by omega
      have g0 : Hid (0 = chkL l) := Lib.hid (by
        unfold chkL
        rw [if_neg gn.out, if_pos]
        rw [List.all_eq_true]
        intro x hx
        obtain ⟨j, hj⟩ := List.mem_iff_getElem?.1 hx
        exact h0.out j x (by have h2 := (List.getElem?_eq_some_iff.1 hj).1; have h3 := gln.out; omega) hj)
      go_wp2
      go_ret
      exact ⟨by rw [← g0.out]; rfl, hB⟩
set_option maxHeartbeats 8000000 in
theorem rasked_any (A : Option Addr) (n c : Nat) (l : List En) (hm : n ≤ 8300) (w : World) (h : Ens w w.heap.size A n l) (N y : Int) : Calls Tryd.prog 35 #[.slice A n c, .int .i64 N, .int .u8 y] w fun en w' => en = .returned (.int .i64 (askL l N y)) ∧ Below w.heap.size w w' := by
  have hc := rgcheck_any A n c l hm w h
  obtain ⟨E, hE⟩ : ∃ E, chkL l = E := ⟨_, rfl⟩
  rw [hE] at hc
  have ga : Hid (askL l N y = if E ≠ 0 then E else if (eraN N && knK y) = true then 0 else 2) := Lib.hid (by unfold askL; rw [hE])
  clear hE h
  go_enter Tryd.func35, Tryd.ntmps35
  go_wp2_with fail
  refine hc.mono ?_
  rintro en w1 ⟨rfl, hb1⟩
  clear hc
  by_cases h0 : E ≠ 0
  · have t0 : (E != 0) = true := bne_iff_ne.2 h0
    replace ga := Lib.hid (ga.out.trans (if_pos h0))
    clear h0
    go_wp2
    go_ret
    exact ⟨ret_int ga.out.symm, hb1⟩
  replace ga := Lib.hid (ga.out.trans (if_neg h0))
  obtain rfl : E = 0 := Decidable.not_not.1 h0
  clear h0
  by_cases h1 : N < 0
  · have dh1 : decide (N < 0) = true := decide_eq_true h1
    have e2 : Hid (askL l N y = 2) := Lib.hid (ga.out.trans (if_neg (by
        unfold eraN knK
        simp only [Bool.and_eq_true, decide_eq_true_eq]
        omega)))
    clear ga
    go_wp2
    go_ret
    exact ⟨ret_int e2.out.symm, hb1⟩
  have dh1 : decide (N < 0) = false := decide_eq_false h1
  by_cases h2 : 65535 < N
  · have dh2 : decide (65535 < N) = true := decide_eq_true h2
    have e2 : Hid (askL l N y = 2) := Lib.hid (ga.out.trans (if_neg (by
        unfold eraN knK
        simp only [Bool.and_eq_true, decide_eq_true_eq]
        omega)))
    clear ga
    go_wp2
    go_ret
    exact ⟨ret_int e2.out.symm, hb1⟩
  have dh2 : decide (65535 < N) = false := decide_eq_false h2
  by_cases h3 : y < 1
  · have dh3 : decide (y < 1) = true := decide_eq_true h3
    have e2 : Hid (askL l N y = 2) := Lib.hid (ga.out.trans (if_neg (by
        unfold eraN knK
        simp only [Bool.and_eq_true, decide_eq_true_eq]
        omega)))
    clear ga
    go_wp2
    go_ret
    exact ⟨ret_int e2.out.symm, hb1⟩
  have dh3 : decide (y < 1) = false := decide_eq_false h3
  by_cases h4 : 6 < y
  · have dh4 : decide (6 < y) = true := decide_eq_true h4
    have e2 : Hid (askL l N y = 2) := Lib.hid (ga.out.trans (if_neg (by
        unfold eraN knK
        simp only [Bool.and_eq_true, decide_eq_true_eq]
        omega)))
    clear ga
    go_wp2
    go_ret
    exact ⟨ret_int e2.out.symm, hb1⟩
  have dh4 : decide (6 < y) = false := decide_eq_false h4
  have e0 : Hid (askL l N y = 0) := Lib.hid (ga.out.trans (if_pos (by
      unfold eraN knK
      simp only [Bool.and_eq_true, decide_eq_true_eq]
      omega)))
  clear ga
  go_wp2
  go_ret
  exact ⟨ret_int e0.out.symm, hb1⟩
set_option maxHeartbeats 8000000 in
theorem rclean_any (A : Option Addr) (n c : Nat) (l : List En) (hm : n ≤ 8300) (w : World) (h1 : Ens w w.heap.size A n l) (N : Int) : Calls Tryd.prog 18 #[.slice A n c, .int .i64 N] w fun en w' => en = .returned (.tuple #[.bool (if askL l N 1 = 0 then clnL l N else false), .int .i64 (askL l N 1)]) ∧ Below w.heap.size w w' := by
  have gln := Lib.hid (ens_len h1)
  have hc := rasked_any A n c l hm w h1 N 1
  obtain ⟨E, hE⟩ : ∃ E, askL l N 1 = E := ⟨_, rfl⟩
  rw [hE] at hc ⊢
  obtain ⟨RR, hRR⟩ : ∃ RR, (if E = 0 then clnL l N else false) = RR := ⟨_, rfl⟩
  rw [hRR]
  have gRR := Lib.hid hRR
  have gh1 := Lib.hid h1
  clear h1 hE hRR
  go_enter Tryd.func18, Tryd.ntmps18
  go_wp2_with fail
  refine hc.mono ?_
  rintro en w1 ⟨rfl, hb1⟩
  clear hc
  by_cases h0 : E = 0
  rotate_left
  · have t0 : (E != 0) = true := bne_iff_ne.2 h0
    obtain rfl : RR = false := by rw [← gRR.out, if_neg h0]
    clear h0
    go_wp2
    go_ret2
    exact ⟨rfl, hb1⟩
  subst h0
  have gR : Hid (clnL l N = RR) := Lib.hid (by rw [← gRR.out, if_pos rfl])
  clear gRR
  have gB0 := Lib.hid hb1
  clear hb1
  go_wp2
  go_loopw [7] (fun t wr => ∃ (k : Nat), k ≤ n ∧ t = .int .i64 (k : Int) ∧ Hid (∀ j x, j < k → l[j]? = some x → ¬ x.ep = N) ∧ Hid (Below w.heap.size w wr)) (fun t _ => n - (intOf t).toNat)
  case atStart => exact ⟨0, Nat.zero_le _, rfl, Lib.hid (fun j x h => by omega), gB0⟩
  case round =>
    clear gB0
    obtain ⟨k, hk, rfl, h0, gB⟩ := hrel
    by_cases hlt : k < n
    · obtain ⟨ad, ep, why, ag0, aX0, an0, ac0, ae0, ag1, aX1, an1, ac1, ae1, ag2, aX2, an2, ac2, ae2, ag3, aX3, an3, ac3, ae3, m, rfl, hb1, hl1, hx1, hrel1⟩ := ens_rel gh1.out hlt
      obtain ⟨a0, a1, a2, a3, a4, a5, a6, a7, a8, a9, a10, a11, a12, a13⟩ := (hrel1 wr gB.out).2
      have i1 : (0 : Int) ≤ k := by omega
      have i2 : (k : Int) < n := by omega
      have gl1 := Lib.hid hl1
      clear hx1 hl1 hb1 hrel1
      by_cases he : ep = N
      · have t1 : (ep == N) = true := beq_iff_eq.2 he
        have e1 : RR = false := by
          rw [← gR.out]
          unfold clnL
          have ha : l.any (fun x => x.ep == N) = true := List.any_eq_true.2 ⟨⟨ep, why, m⟩, List.mem_of_getElem? gl1.out, beq_iff_eq.2 he⟩
          rw [ha]
          rfl
        subst e1
        clear he
        go_wp2
        go_ret2
        exact ⟨rfl, gB.out⟩
      · have t1 : (ep == N) = false := beq_eq_false_iff_ne.2 he
        have h0' : Hid (∀ j x, j < k + 1 → l[j]? = some x → ¬ x.ep = N) := Lib.hid (fun j x hj hx => by
          rcases Nat.lt_or_ge j k with h | h
          · exact h0.out j x h hx
          · obtain rfl : j = k := by omega
            rw [gl1.out] at hx
            injection hx with hx
            subst hx
            exact he)
        clear he h0 gl1
        go_wp2
        go_roundw
        case rel => exact ⟨k + 1, by omega, by go_num, h0', gB⟩
        case measure => simp [intOf]; omega
    · obtain rfl : k = n := by omega
      have e1 : RR = true := by
        rw [← gR.out]
        unfold clnL
        have : l.any (fun x => x.ep == N) = false := by
          rw [List.any_eq_false]
          intro x hx
          obtain ⟨j, hj⟩ := List.mem_iff_getElem?.1 hx
          have := h0.out j x (by have h2 := (List.getElem?_eq_some_iff.1 hj).1; have h3 := gln.out; omega) hj
          simpa using this
        rw [this]
        rfl
      subst e1
      go_wp2
      go_ret2
      exact ⟨rfl, gB.out⟩
/-- Whether a mass has no limbs. -/
def zrM (m : Ms) : Bool := decide (m.s.ls.length = 0) && (decide (m.w.ls.length = 0) && (decide (m.c.ls.length = 0) && decide (m.a.ls.length = 0)))
theorem zrM_may {m : Ms} (h : mayM m = true) : zrM m = decide (m = zM) := by
  obtain ⟨h1, h2, h3, h4⟩ := mayM_each h
  have k : ∀ d : Dy, mayd d = true → (d.ls.length = 0 ↔ d = zdy) := fun d hd => ⟨fun e => (mayd_parts hd).2.2.2.2.1 (List.length_eq_zero_iff.1 e), fun e => by rw [e]; rfl⟩
  unfold zrM
  rw [Bool.eq_iff_iff]
  simp only [Bool.and_eq_true, decide_eq_true_eq]
  rw [k _ h1, k _ h2, k _ h3, k _ h4]
  constructor
  · rintro ⟨a, b, c, d⟩
    obtain ⟨s, w, c', a'⟩ := m
    simp only at a b c d
    subst a b c d
    rfl
  · rintro rfl
    exact ⟨rfl, rfl, rfl, rfl⟩
set_option maxHeartbeats 8000000 in
theorem rzero_any (o : MB) (R : Bool) (hR : zrM o.m = R) (w : World) : Calls Tryd.prog 37 #[.agg #[.bool o.m.s.neg, .slice o.X0 o.m.s.ls.length o.c0, .int .i64 o.m.s.ex, .bool o.m.w.neg, .slice o.X1 o.m.w.ls.length o.c1, .int .i64 o.m.w.ex, .bool o.m.c.neg, .slice o.X2 o.m.c.ls.length o.c2, .int .i64 o.m.c.ex, .bool o.m.a.neg, .slice o.X3 o.m.a.ls.length o.c3, .int .i64 o.m.a.ex]] w fun en w' => en = .returned (.bool R) ∧ Below w.heap.size w w' := by
  obtain ⟨V, hV⟩ : ∃ V, V = w.alloc (.cells #[.bool o.m.s.neg, .slice o.X0 o.m.s.ls.length o.c0, .int .i64 o.m.s.ex, .bool o.m.w.neg, .slice o.X1 o.m.w.ls.length o.c1, .int .i64 o.m.w.ex, .bool o.m.c.neg, .slice o.X2 o.m.c.ls.length o.c2, .int .i64 o.m.c.ex, .bool o.m.a.neg, .slice o.X3 o.m.a.ls.length o.c3, .int .i64 o.m.a.ex] 27) := ⟨_, rfl⟩
  have hB : Below w.heap.size w V := by rw [hV]; exact (Below.refl _ w).alloc (Nat.le_refl _) _
  have kb : Blk V w.heap.size 27 #[.bool o.m.s.neg, .slice o.X0 o.m.s.ls.length o.c0, .int .i64 o.m.s.ex, .bool o.m.w.neg, .slice o.X1 o.m.w.ls.length o.c1, .int .i64 o.m.w.ex, .bool o.m.c.neg, .slice o.X2 o.m.c.ls.length o.c2, .int .i64 o.m.c.ex, .bool o.m.a.neg, .slice o.X3 o.m.a.ls.length o.c3, .int .i64 o.m.a.ex] := by rw [hV]; exact Blk.new w _ _
  have z0 : V.cell? ⟨w.heap.size, 0, none⟩ = some (.bool o.m.s.neg) := by rw [kb.cell]; rfl
  have z1 : V.cell? ⟨w.heap.size, 1, none⟩ = some (.slice o.X0 o.m.s.ls.length o.c0) := by rw [kb.cell]; rfl
  have z2 : V.cell? ⟨w.heap.size, 2, none⟩ = some (.int .i64 o.m.s.ex) := by rw [kb.cell]; rfl
  have z3 : V.cell? ⟨w.heap.size, 3, none⟩ = some (.bool o.m.w.neg) := by rw [kb.cell]; rfl
  have z4 : V.cell? ⟨w.heap.size, 4, none⟩ = some (.slice o.X1 o.m.w.ls.length o.c1) := by rw [kb.cell]; rfl
  have z5 : V.cell? ⟨w.heap.size, 5, none⟩ = some (.int .i64 o.m.w.ex) := by rw [kb.cell]; rfl
  have z6 : V.cell? ⟨w.heap.size, 6, none⟩ = some (.bool o.m.c.neg) := by rw [kb.cell]; rfl
  have z7 : V.cell? ⟨w.heap.size, 7, none⟩ = some (.slice o.X2 o.m.c.ls.length o.c2) := by rw [kb.cell]; rfl
  have z8 : V.cell? ⟨w.heap.size, 8, none⟩ = some (.int .i64 o.m.c.ex) := by rw [kb.cell]; rfl
  have z9 : V.cell? ⟨w.heap.size, 9, none⟩ = some (.bool o.m.a.neg) := by rw [kb.cell]; rfl
  have z10 : V.cell? ⟨w.heap.size, 10, none⟩ = some (.slice o.X3 o.m.a.ls.length o.c3) := by rw [kb.cell]; rfl
  have z11 : V.cell? ⟨w.heap.size, 11, none⟩ = some (.int .i64 o.m.a.ex) := by rw [kb.cell]; rfl
  clear kb
  unfold zrM at hR
  obtain ⟨n0, h0⟩ : ∃ n, o.m.s.ls.length = n := ⟨_, rfl⟩
  obtain ⟨n1, h1⟩ : ∃ n, o.m.w.ls.length = n := ⟨_, rfl⟩
  obtain ⟨n2, h2⟩ : ∃ n, o.m.c.ls.length = n := ⟨_, rfl⟩
  obtain ⟨n3, h3⟩ : ∃ n, o.m.a.ls.length = n := ⟨_, rfl⟩
  rw [h0, h1, h2, h3] at hR
  rw [h0, h1, h2, h3] at hV
  rw [h0] at z1
  rw [h1] at z4
  rw [h2] at z7
  rw [h3] at z10
  rw [h0, h1, h2, h3]
  clear h0 h1 h2 h3
  by_cases e0 : n0 = 0
  rotate_left
  · have d0 : ((n0 : Int) == 0) = false := beq_eq_false_iff_ne.2 (by omega)
    obtain rfl : R = false := by rw [← hR]; simp [e0]
    clear hR e0
    go_enter Tryd.func37, Tryd.ntmps37
    go_upto_region 1 with (fail)
    rw [← hV]
    clear hV
    go_wp2
    go_ret
    exact ⟨rfl, hB⟩
  have d0 : ((n0 : Int) == 0) = true := beq_iff_eq.2 (by omega)
  by_cases e1 : n1 = 0
  rotate_left
  · have d1 : ((n1 : Int) == 0) = false := beq_eq_false_iff_ne.2 (by omega)
    obtain rfl : R = false := by rw [← hR]; simp [e1]
    clear hR e0 e1
    go_enter Tryd.func37, Tryd.ntmps37
    go_upto_region 1 with (fail)
    rw [← hV]
    clear hV
    go_wp2
    go_ret
    exact ⟨rfl, hB⟩
  have d1 : ((n1 : Int) == 0) = true := beq_iff_eq.2 (by omega)
  by_cases e2 : n2 = 0
  rotate_left
  · have d2 : ((n2 : Int) == 0) = false := beq_eq_false_iff_ne.2 (by omega)
    obtain rfl : R = false := by rw [← hR]; simp [e2]
    clear hR e0 e1 e2
    go_enter Tryd.func37, Tryd.ntmps37
    go_upto_region 1 with (fail)
    rw [← hV]
    clear hV
    go_wp2
    go_ret
    exact ⟨rfl, hB⟩
  have d2 : ((n2 : Int) == 0) = true := beq_iff_eq.2 (by omega)
  by_cases e3 : n3 = 0
  rotate_left
  · have d3 : ((n3 : Int) == 0) = false := beq_eq_false_iff_ne.2 (by omega)
    obtain rfl : R = false := by rw [← hR]; simp [e3]
    clear hR e0 e1 e2 e3
    go_enter Tryd.func37, Tryd.ntmps37
    go_upto_region 1 with (fail)
    rw [← hV]
    clear hV
    go_wp2
    go_ret
    exact ⟨rfl, hB⟩
  have d3 : ((n3 : Int) == 0) = true := beq_iff_eq.2 (by omega)
  obtain rfl : R = true := by rw [← hR]; simp [e0, e1, e2, e3]
  clear hR e0 e1 e2 e3
  go_enter Tryd.func37, Tryd.ntmps37
  go_upto_region 1 with (fail)
  rw [← hV]
  clear hV
  go_wp2
  go_ret
  exact ⟨rfl, hB⟩
end Go.Proofs.YtmppalgecboeeaaDoor
