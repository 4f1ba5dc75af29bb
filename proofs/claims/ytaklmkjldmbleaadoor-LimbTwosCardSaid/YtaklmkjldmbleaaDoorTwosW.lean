/- Limb's Door: the walk of the law LimbTwos. -/
import Derived.Test.YtaklmkjldmbleaaDoorAl
import Derived.Test.YtaklmkjldmbleaaDoorP2
namespace Go.Proofs.YtaklmkjldmbleaaDoor
open Go.ChangeShapes Go.WideShapes Go.ChangeAt Go.RowKit
set_option linter.unusedSimpArgs false
set_option linter.unusedVariables false
theorem u64_pow {k : Nat} (hk : k < 64) : IntKind.u64.wrap ((2 : Int) ^ k) = (((2 : Nat) ^ k : Nat) : Int) := by
  have h : (2 : Nat) ^ k < 18446744073709551616 := Nat.lt_of_lt_of_le (Nat.pow_lt_pow_right (by omega) hk) (by decide)
  have e : (2 : Int) ^ k = (((2 : Nat) ^ k : Nat) : Int) := by simp
  rw [e]
  generalize (2 : Nat) ^ k = P at h ⊢
  exact IntWalk.u64_in _ ⟨by omega, by omega⟩
theorem ret_and {p q : Bool} (h : p = q) : Ending.returned (.bool p) = .returned (.bool q) := by rw [h]
set_option maxRecDepth 100000 in
set_option maxHeartbeats 16000000 in
theorem LimbTwos.walk (A : Option Addr) (n c : Nat) (a : List Nat) (k : Int) (hk64 : k < 9223372036854775808) (hn : a.length = n) (hnc : n ≤ c) (ha : ∀ x ∈ a, x < 4294967296) (w : World) (ra : Reads w w.heap.size 1 A n (ints .u32 a)) (hT : Tab w) :
    Calls Tryd.prog 6 #[.slice A n c, .int .i64 k] w fun e w' => e = .returned (.bool true) ∧ Below w.heap.size w w' := by
  have bw := Below.refl w.heap.size w
  have hal := alive_any w hT
  by_cases h1 : 42 < n
  · have g1 := fun w' => great_any A n c true (decide_eq_true (by omega)) w'
    clear ra ha hn hT h1
    go_enter Tryd.func6, Tryd.ntmps6
    go_wp2_with fail
    refine hal.mono ?_
    rintro e v1 ⟨rfl, hb⟩
    replace bw := bw.trans (hb.mono bw.size)
    clear hb hal
    go_wp2_with fail
    refine (g1 _).mono ?_
    rintro e v2 ⟨rfl, rfl⟩
    go_wp2
    go_ret
    exact ⟨rfl, bw⟩
  have g1 := fun w' => great_any A n c false (decide_eq_false (by omega)) w'
  have n42 : n ≤ 42 := by omega
  have gn := Lib.hid hn
  have gha := Lib.hid ha
  obtain ⟨x, E, hA1⟩ : ∃ x E, leftS a k = (x, E) := ⟨_, _, rfl⟩
  obtain ⟨m1, hm1⟩ : ∃ m, x.length = m := ⟨_, rfl⟩
  have q1 := Lib.hid hA1
  have gm1 := Lib.hid hm1
  have gk := Lib.hid hk64
  cases hbo : mayB a
  · obtain ⟨hl, hlow, hE⟩ := bad_low hbo k
    obtain ⟨hx, rfl⟩ := Prod.mk.inj (hl.symm.trans hA1)
    subst hx
    have e0 : 0 = m1 := hm1
    subst e0
    have g5 := Lib.hid hlow
    have g6 := Lib.hid hE
    clear hA1 hm1 hn ha h1 hbo hl hlow hE hk64
    go_enter Tryd.func6, Tryd.ntmps6
    go_wp2_with fail
    refine (hal).mono ?_
    rintro en v1 ⟨rfl, hb⟩
    replace hT := hT.below hb hT.2
    replace ra := (ra.below hb).more hb.size
    replace bw := bw.trans (hb.mono bw.size)
    clear hb
    clear hal
    go_wp2_with fail
    refine (g1 _).mono ?_
    rintro en v1 ⟨rfl, rfl⟩
    go_wp2_with fail
    clear g1
    refine (leftR gm1.out A c gn.out gha.out _ ra q1.out).mono ?_
    rintro en v2 ⟨X1, x1, rfl, hx1, rx, hb⟩
    replace hT := hT.below hb hT.2
    replace ra := (ra.below hb).more hb.size
    replace bw := bw.trans (hb.mono bw.size)
    clear hb
    go_wp2_with fail
    refine (lowR A c gn.out gha.out _ ra hT g5.out).mono ?_
    rintro en v3 ⟨rfl, hb⟩
    replace hT := hT.below hb hT.2
    replace ra := (ra.below hb).more hb.size
    replace rx := (rx.below hb).more hb.size
    replace bw := bw.trans (hb.mono bw.size)
    clear hb
    go_wp2_with fail
    have hq := check_any A n c _ a gn.out _ ra
    rw [g6.out] at hq
    refine hq.mono ?_
    rintro en v20 ⟨rfl, rfl⟩
    clear hq
    go_wp2
    go_ret
    exact ⟨rfl, bw⟩
  obtain ⟨hlow, ⟨o, hro, ho40, hodd⟩, ht⟩ := odd_any ha hbo
  obtain ⟨t, hte⟩ : ∃ t, lowN (val 4294967296 a) = t := ⟨_, rfl⟩
  rw [hte] at hlow hro ht
  obtain ⟨mo, hmo⟩ : ∃ m, o.length = m := ⟨_, rfl⟩
  have lo : mo ≤ 40 := by omega
  have g5 := Lib.hid hlow
  have g7 := Lib.hid hro
  have gmo := Lib.hid hmo
  have ght := Lib.hid ht
  have god : Hid (n = 0 ∨ ∃ y r, o = y :: r ∧ y < 4294967296 ∧ y % 2 = 1) := Lib.hid (by rw [← hn]; exact hodd)
  clear hlow hro hmo ht hodd hte ho40
  rcases Nat.eq_zero_or_pos n with hz | hz
  · have z1 : ((n : Int) == 0) = true := by rw [hz]; rfl
    have z2 : (n == 0) = true := by rw [hz]; rfl
    have d1 : decide ((0 : Int) < n) = false := decide_eq_false (by omega)
    have d2 : decide (0 < n) = false := decide_eq_false (by omega)
    clear god
    by_cases h0 : E = 0
    · subst h0
      obtain ⟨_, hk0, _, _⟩ := leftS_ok hA1
      obtain ⟨k, rfl⟩ : ∃ j : Nat, k = (j : Int) := ⟨k.toNat, by omega⟩
      obtain ⟨hxl, hx40, hri, ⟨M, N, hM, hN, hMN, hM0, hM1⟩, hsm⟩ := twos ha hA1
      have l1 : m1 ≤ 40 := by omega
      have gx := Lib.hid hxl
      have gr := Lib.hid hri
      have gM := Lib.hid hM
      have gN := Lib.hid hN
      have y5 : decide ((0 : Int) ≤ k) = true := decide_eq_true (by omega)
      clear hz
      have k64 : (k : Int) < 9223372036854775808 := hk64
      clear hxl hri hM hN hMN hx40
      by_cases hk : k < 63
      · obtain ⟨p, hp, hpl, hp2, hpm⟩ := hsm hk
        obtain ⟨mp, hmp⟩ : ∃ m, p.length = m := ⟨_, rfl⟩
        have lp : mp ≤ 2 := by omega
        have t63 : decide ((k : Int) < 63) = true := decide_eq_true (by omega)
        have t64 : decide (k < 63) = true := decide_eq_true (by omega)
        have gp := Lib.hid hp
        have gpl := Lib.hid hpl
        have gpm := Lib.hid hpm
        have gmp := Lib.hid hmp
        have hpw : (2 : Nat) ^ k < 18446744073709551616 := Nat.lt_of_lt_of_le (Nat.pow_lt_pow_right (by omega) hk) (by decide)
        obtain ⟨P2, hP2⟩ : ∃ P, (2 : Nat) ^ k = P := ⟨_, rfl⟩
        rw [hP2] at hpw
        have gP2 := Lib.hid hP2
        have gpw := Lib.hid hpw
        have gw : Hid (IntKind.u64.wrap ((2 : Int) ^ k) = ((P2 : Nat) : Int)) := Lib.hid (by have h := u64_pow (show k < 64 by omega); rw [hP2] at h; exact h)
        clear hp hpl hpm hmp hp2 hpw hP2
        clear hsm hA1 hm1 hn ha h1 hbo
        go_enter Tryd.func6, Tryd.ntmps6
        go_wp2_with fail
        refine (hal).mono ?_
        rintro en v1 ⟨rfl, hb⟩
        replace hT := hT.below hb hT.2
        replace ra := (ra.below hb).more hb.size
        replace bw := bw.trans (hb.mono bw.size)
        clear hb
        clear hal
        go_wp2_with fail
        refine (g1 _).mono ?_
        rintro en v1 ⟨rfl, rfl⟩
        go_wp2_with fail
        clear g1
        refine (leftR gm1.out A c gn.out gha.out _ ra q1.out).mono ?_
        rintro en v2 ⟨X1, x1, rfl, hx1, rx, hb⟩
        replace hT := hT.below hb hT.2
        replace ra := (ra.below hb).more hb.size
        replace bw := bw.trans (hb.mono bw.size)
        clear hb
        go_wp2_with fail
        refine (rightR gn.out X1 x1 gm1.out gx.out _ rx gk.out hx1 gr.out).mono ?_
        rintro en v3 ⟨X2, x2, rfl, hx2, rb, hb⟩
        replace hT := hT.below hb hT.2
        replace ra := (ra.below hb).more hb.size
        replace rx := (rx.below hb).more hb.size
        replace bw := bw.trans (hb.mono bw.size)
        clear hb
        go_wp2_with fail
        refine (bitsR A c gn.out gha.out _ ra gM.out).mono ?_
        rintro en v4 ⟨rfl, hb⟩
        replace hT := hT.below hb hT.2
        replace ra := (ra.below hb).more hb.size
        replace rx := (rx.below hb).more hb.size
        replace rb := (rb.below hb).more hb.size
        replace bw := bw.trans (hb.mono bw.size)
        clear hb
        go_wp2_with fail
        refine (bitsR X1 x1 gm1.out gx.out _ rx gN.out).mono ?_
        rintro en v5 ⟨rfl, hb⟩
        replace hT := hT.below hb hT.2
        replace ra := (ra.below hb).more hb.size
        replace rx := (rx.below hb).more hb.size
        replace rb := (rb.below hb).more hb.size
        replace bw := bw.trans (hb.mono bw.size)
        clear hb
        go_wp2_with fail
        refine (sameR X2 A x2 c gn.out gn.out _ rb ra (Q := true) (by omega) (by omega) (decide_eq_true rfl)).mono ?_
        rintro en v6 ⟨rfl, hb⟩
        replace hT := hT.below hb hT.2
        replace ra := (ra.below hb).more hb.size
        replace rx := (rx.below hb).more hb.size
        replace rb := (rb.below hb).more hb.size
        replace bw := bw.trans (hb.mono bw.size)
        clear hb
        clear rb
        go_wp2_with fail
        rw [show IntKind.u64.wrap ((2 : Int) ^ k) = ((P2 : Nat) : Int) from gw.out]
        refine (ofR (x := P2) gpw.out (by rw [← gP2.out]; exact gp.out) gmp.out _).mono ?_
        rintro en v7 ⟨Xp, rfl, rp, hb⟩
        replace hT := hT.below hb hT.2
        replace ra := (ra.below hb).more hb.size
        replace rx := (rx.below hb).more hb.size
        replace bw := bw.trans (hb.mono bw.size)
        clear hb
        go_wp2_with fail
        refine (mulR gm1.out A Xp c mp gn.out gmp.out gha.out gpl.out _ ra rp gpm.out).mono ?_
        rintro en v8 ⟨X3, x3, rfl, hx3, r3, hb⟩
        replace hT := hT.below hb hT.2
        replace ra := (ra.below hb).more hb.size
        replace rx := (rx.below hb).more hb.size
        replace rp := (rp.below hb).more hb.size
        replace bw := bw.trans (hb.mono bw.size)
        clear hb
        go_wp2_with fail
        refine (sameR X1 X3 x1 x3 gm1.out gm1.out _ rx r3 (Q := true) (by omega) (by omega) (decide_eq_true rfl)).mono ?_
        rintro en v9 ⟨rfl, hb⟩
        replace hT := hT.below hb hT.2
        replace ra := (ra.below hb).more hb.size
        replace rx := (rx.below hb).more hb.size
        replace rp := (rp.below hb).more hb.size
        replace r3 := (r3.below hb).more hb.size
        replace bw := bw.trans (hb.mono bw.size)
        clear hb
        go_wp2_with fail
        refine (lowR A c gn.out gha.out _ ra hT g5.out).mono ?_
        rintro en v10 ⟨rfl, hb⟩
        replace hT := hT.below hb hT.2
        replace ra := (ra.below hb).more hb.size
        replace rx := (rx.below hb).more hb.size
        replace rp := (rp.below hb).more hb.size
        replace r3 := (r3.below hb).more hb.size
        replace bw := bw.trans (hb.mono bw.size)
        clear hb
        go_wp2_with fail
        refine (rightR gmo.out A c gn.out gha.out _ ra (by have := ght.out; omega) hnc g7.out).mono ?_
        rintro en v11 ⟨Xo, xo, rfl, hxo, ro, hb⟩
        replace hT := hT.below hb hT.2
        replace ra := (ra.below hb).more hb.size
        replace rx := (rx.below hb).more hb.size
        replace rp := (rp.below hb).more hb.size
        replace r3 := (r3.below hb).more hb.size
        replace bw := bw.trans (hb.mono bw.size)
        clear hb
        go_wp2
        go_ret
        exact ⟨rfl, bw⟩
      · have t63 : decide ((k : Int) < 63) = false := decide_eq_false (by omega)
        have t64 : decide (k < 63) = false := decide_eq_false (by omega)
        clear hsm hA1 hm1 hn ha h1 hbo
        go_enter Tryd.func6, Tryd.ntmps6
        go_wp2_with fail
        refine (hal).mono ?_
        rintro en v1 ⟨rfl, hb⟩
        replace hT := hT.below hb hT.2
        replace ra := (ra.below hb).more hb.size
        replace bw := bw.trans (hb.mono bw.size)
        clear hb
        clear hal
        go_wp2_with fail
        refine (g1 _).mono ?_
        rintro en v1 ⟨rfl, rfl⟩
        go_wp2_with fail
        clear g1
        refine (leftR gm1.out A c gn.out gha.out _ ra q1.out).mono ?_
        rintro en v2 ⟨X1, x1, rfl, hx1, rx, hb⟩
        replace hT := hT.below hb hT.2
        replace ra := (ra.below hb).more hb.size
        replace bw := bw.trans (hb.mono bw.size)
        clear hb
        go_wp2_with fail
        refine (rightR gn.out X1 x1 gm1.out gx.out _ rx gk.out hx1 gr.out).mono ?_
        rintro en v3 ⟨X2, x2, rfl, hx2, rb, hb⟩
        replace hT := hT.below hb hT.2
        replace ra := (ra.below hb).more hb.size
        replace rx := (rx.below hb).more hb.size
        replace bw := bw.trans (hb.mono bw.size)
        clear hb
        go_wp2_with fail
        refine (bitsR A c gn.out gha.out _ ra gM.out).mono ?_
        rintro en v4 ⟨rfl, hb⟩
        replace hT := hT.below hb hT.2
        replace ra := (ra.below hb).more hb.size
        replace rx := (rx.below hb).more hb.size
        replace rb := (rb.below hb).more hb.size
        replace bw := bw.trans (hb.mono bw.size)
        clear hb
        go_wp2_with fail
        refine (bitsR X1 x1 gm1.out gx.out _ rx gN.out).mono ?_
        rintro en v5 ⟨rfl, hb⟩
        replace hT := hT.below hb hT.2
        replace ra := (ra.below hb).more hb.size
        replace rx := (rx.below hb).more hb.size
        replace rb := (rb.below hb).more hb.size
        replace bw := bw.trans (hb.mono bw.size)
        clear hb
        go_wp2_with fail
        refine (sameR X2 A x2 c gn.out gn.out _ rb ra (Q := true) (by omega) (by omega) (decide_eq_true rfl)).mono ?_
        rintro en v6 ⟨rfl, hb⟩
        replace hT := hT.below hb hT.2
        replace ra := (ra.below hb).more hb.size
        replace rx := (rx.below hb).more hb.size
        replace rb := (rb.below hb).more hb.size
        replace bw := bw.trans (hb.mono bw.size)
        clear hb
        clear rb
        go_wp2_with fail
        refine (lowR A c gn.out gha.out _ ra hT g5.out).mono ?_
        rintro en v7 ⟨rfl, hb⟩
        replace hT := hT.below hb hT.2
        replace ra := (ra.below hb).more hb.size
        replace rx := (rx.below hb).more hb.size
        replace bw := bw.trans (hb.mono bw.size)
        clear hb
        go_wp2_with fail
        refine (rightR gmo.out A c gn.out gha.out _ ra (by have := ght.out; omega) hnc g7.out).mono ?_
        rintro en v8 ⟨Xo, xo, rfl, hxo, ro, hb⟩
        replace hT := hT.below hb hT.2
        replace ra := (ra.below hb).more hb.size
        replace rx := (rx.below hb).more hb.size
        replace bw := bw.trans (hb.mono bw.size)
        clear hb
        go_wp2
        go_ret
        exact ⟨rfl, bw⟩
    · clear hz
      have y3 : (E == 0) = false := beq_eq_false_iff_ne.2 h0
      clear hA1 hm1 hn ha h1 hbo h0 hk64
      go_enter Tryd.func6, Tryd.ntmps6
      go_wp2_with fail
      refine (hal).mono ?_
      rintro en v1 ⟨rfl, hb⟩
      replace hT := hT.below hb hT.2
      replace ra := (ra.below hb).more hb.size
      replace bw := bw.trans (hb.mono bw.size)
      clear hb
      clear hal
      go_wp2_with fail
      refine (g1 _).mono ?_
      rintro en v1 ⟨rfl, rfl⟩
      go_wp2_with fail
      clear g1
      refine (leftR gm1.out A c gn.out gha.out _ ra q1.out).mono ?_
      rintro en v2 ⟨X1, x1, rfl, hx1, rx, hb⟩
      replace hT := hT.below hb hT.2
      replace ra := (ra.below hb).more hb.size
      replace bw := bw.trans (hb.mono bw.size)
      clear hb
      go_wp2_with fail
      refine (lowR A c gn.out gha.out _ ra hT g5.out).mono ?_
      rintro en v3 ⟨rfl, hb⟩
      replace hT := hT.below hb hT.2
      replace ra := (ra.below hb).more hb.size
      replace rx := (rx.below hb).more hb.size
      replace bw := bw.trans (hb.mono bw.size)
      clear hb
      go_wp2_with fail
      refine (rightR gmo.out A c gn.out gha.out _ ra (by have := ght.out; omega) hnc g7.out).mono ?_
      rintro en v4 ⟨Xo, xo, rfl, hxo, ro, hb⟩
      replace hT := hT.below hb hT.2
      replace ra := (ra.below hb).more hb.size
      replace rx := (rx.below hb).more hb.size
      replace bw := bw.trans (hb.mono bw.size)
      clear hb
      go_wp2
      go_ret
      exact ⟨rfl, bw⟩
  · have z1 : ((n : Int) == 0) = false := by (simp <;> omega)
    have z2 : (n == 0) = false := by (simp <;> omega)
    have d1 : decide ((0 : Int) < n) = true := decide_eq_true (by omega)
    have d2 : decide (0 < n) = true := decide_eq_true hz
    replace god : Hid (∃ y r, o = y :: r ∧ y < 4294967296 ∧ y % 2 = 1) := Lib.hid (god.out.resolve_left (by omega))
    by_cases h0 : E = 0
    · subst h0
      obtain ⟨_, hk0, _, _⟩ := leftS_ok hA1
      obtain ⟨k, rfl⟩ : ∃ j : Nat, k = (j : Int) := ⟨k.toNat, by omega⟩
      obtain ⟨hxl, hx40, hri, ⟨M, N, hM, hN, hMN, hM0, hM1⟩, hsm⟩ := twos ha hA1
      have l1 : m1 ≤ 40 := by omega
      have gx := Lib.hid hxl
      have gr := Lib.hid hri
      have gM := Lib.hid hM
      have gN := Lib.hid hN
      have y5 : decide ((0 : Int) ≤ k) = true := decide_eq_true (by omega)
      have hk1280 := leftS_small hA1 (by omega)
      have y6 : (N != M + k) = false := by rw [hMN (by omega)]; simp
      clear hz
      have k64 : (k : Int) < 9223372036854775808 := hk64
      clear hxl hri hM hN hMN hx40
      by_cases hk : k < 63
      · obtain ⟨p, hp, hpl, hp2, hpm⟩ := hsm hk
        obtain ⟨mp, hmp⟩ : ∃ m, p.length = m := ⟨_, rfl⟩
        have lp : mp ≤ 2 := by omega
        have t63 : decide ((k : Int) < 63) = true := decide_eq_true (by omega)
        have t64 : decide (k < 63) = true := decide_eq_true (by omega)
        have gp := Lib.hid hp
        have gpl := Lib.hid hpl
        have gpm := Lib.hid hpm
        have gmp := Lib.hid hmp
        have hpw : (2 : Nat) ^ k < 18446744073709551616 := Nat.lt_of_lt_of_le (Nat.pow_lt_pow_right (by omega) hk) (by decide)
        obtain ⟨P2, hP2⟩ : ∃ P, (2 : Nat) ^ k = P := ⟨_, rfl⟩
        rw [hP2] at hpw
        have gP2 := Lib.hid hP2
        have gpw := Lib.hid hpw
        have gw : Hid (IntKind.u64.wrap ((2 : Int) ^ k) = ((P2 : Nat) : Int)) := Lib.hid (by have h := u64_pow (show k < 64 by omega); rw [hP2] at h; exact h)
        clear hp hpl hpm hmp hp2 hpw hP2
        clear hsm hA1 hm1 hn ha h1 hbo
        go_enter Tryd.func6, Tryd.ntmps6
        go_wp2_with fail
        refine (hal).mono ?_
        rintro en v1 ⟨rfl, hb⟩
        replace hT := hT.below hb hT.2
        replace ra := (ra.below hb).more hb.size
        replace bw := bw.trans (hb.mono bw.size)
        clear hb
        clear hal
        go_wp2_with fail
        refine (g1 _).mono ?_
        rintro en v1 ⟨rfl, rfl⟩
        go_wp2_with fail
        clear g1
        refine (leftR gm1.out A c gn.out gha.out _ ra q1.out).mono ?_
        rintro en v2 ⟨X1, x1, rfl, hx1, rx, hb⟩
        replace hT := hT.below hb hT.2
        replace ra := (ra.below hb).more hb.size
        replace bw := bw.trans (hb.mono bw.size)
        clear hb
        go_wp2_with fail
        refine (rightR gn.out X1 x1 gm1.out gx.out _ rx gk.out hx1 gr.out).mono ?_
        rintro en v3 ⟨X2, x2, rfl, hx2, rb, hb⟩
        replace hT := hT.below hb hT.2
        replace ra := (ra.below hb).more hb.size
        replace rx := (rx.below hb).more hb.size
        replace bw := bw.trans (hb.mono bw.size)
        clear hb
        go_wp2_with fail
        refine (bitsR A c gn.out gha.out _ ra gM.out).mono ?_
        rintro en v4 ⟨rfl, hb⟩
        replace hT := hT.below hb hT.2
        replace ra := (ra.below hb).more hb.size
        replace rx := (rx.below hb).more hb.size
        replace rb := (rb.below hb).more hb.size
        replace bw := bw.trans (hb.mono bw.size)
        clear hb
        go_wp2_with fail
        refine (bitsR X1 x1 gm1.out gx.out _ rx gN.out).mono ?_
        rintro en v5 ⟨rfl, hb⟩
        replace hT := hT.below hb hT.2
        replace ra := (ra.below hb).more hb.size
        replace rx := (rx.below hb).more hb.size
        replace rb := (rb.below hb).more hb.size
        replace bw := bw.trans (hb.mono bw.size)
        clear hb
        go_wp2_with fail
        refine (sameR X2 A x2 c gn.out gn.out _ rb ra (Q := true) (by omega) (by omega) (decide_eq_true rfl)).mono ?_
        rintro en v6 ⟨rfl, hb⟩
        replace hT := hT.below hb hT.2
        replace ra := (ra.below hb).more hb.size
        replace rx := (rx.below hb).more hb.size
        replace rb := (rb.below hb).more hb.size
        replace bw := bw.trans (hb.mono bw.size)
        clear hb
        clear rb
        go_wp2_with fail
        rw [show IntKind.u64.wrap ((2 : Int) ^ k) = ((P2 : Nat) : Int) from gw.out]
        refine (ofR (x := P2) gpw.out (by rw [← gP2.out]; exact gp.out) gmp.out _).mono ?_
        rintro en v7 ⟨Xp, rfl, rp, hb⟩
        replace hT := hT.below hb hT.2
        replace ra := (ra.below hb).more hb.size
        replace rx := (rx.below hb).more hb.size
        replace bw := bw.trans (hb.mono bw.size)
        clear hb
        go_wp2_with fail
        refine (mulR gm1.out A Xp c mp gn.out gmp.out gha.out gpl.out _ ra rp gpm.out).mono ?_
        rintro en v8 ⟨X3, x3, rfl, hx3, r3, hb⟩
        replace hT := hT.below hb hT.2
        replace ra := (ra.below hb).more hb.size
        replace rx := (rx.below hb).more hb.size
        replace rp := (rp.below hb).more hb.size
        replace bw := bw.trans (hb.mono bw.size)
        clear hb
        go_wp2_with fail
        refine (sameR X1 X3 x1 x3 gm1.out gm1.out _ rx r3 (Q := true) (by omega) (by omega) (decide_eq_true rfl)).mono ?_
        rintro en v9 ⟨rfl, hb⟩
        replace hT := hT.below hb hT.2
        replace ra := (ra.below hb).more hb.size
        replace rx := (rx.below hb).more hb.size
        replace rp := (rp.below hb).more hb.size
        replace r3 := (r3.below hb).more hb.size
        replace bw := bw.trans (hb.mono bw.size)
        clear hb
        go_wp2_with fail
        refine (lowR A c gn.out gha.out _ ra hT g5.out).mono ?_
        rintro en v10 ⟨rfl, hb⟩
        replace hT := hT.below hb hT.2
        replace ra := (ra.below hb).more hb.size
        replace rx := (rx.below hb).more hb.size
        replace rp := (rp.below hb).more hb.size
        replace r3 := (r3.below hb).more hb.size
        replace bw := bw.trans (hb.mono bw.size)
        clear hb
        go_wp2_with fail
        refine (rightR gmo.out A c gn.out gha.out _ ra (by have := ght.out; omega) hnc g7.out).mono ?_
        rintro en v11 ⟨Xo, xo, rfl, hxo, ro, hb⟩
        replace hT := hT.below hb hT.2
        replace ra := (ra.below hb).more hb.size
        replace rx := (rx.below hb).more hb.size
        replace rp := (rp.below hb).more hb.size
        replace r3 := (r3.below hb).more hb.size
        replace bw := bw.trans (hb.mono bw.size)
        clear hb
        obtain ⟨y, r, hy, hy1, hy2⟩ := god.out
        have hmo0 : 0 < mo := by rw [← gmo.out, hy]; simp
        obtain ⟨ad, rfl, hab, cA⟩ := at_ints gmo.out ro hmo0
        have hy0 : o.getD 0 0 = y := by rw [hy]; rfl
        rw [hy0] at cA
        have z3 : decide ((0 : Int) < mo) = true := decide_eq_true (by omega)
        have z4 : decide (0 < mo) = true := decide_eq_true hmo0
        have z5 : (((y : Int) % 2) == 1) = true := by rw [show (y : Int) % 2 = 1 by omega]; rfl
        have z6 : (((y : Int).tmod 2) == 1) = true := by rw [Int.tmod_eq_emod_of_nonneg (by omega), show (y : Int) % 2 = 1 by omega]; rfl
        have i2 : (0 : Int) < mo := by omega
        rw [show ad.add 0 = ad by unfold Addr.add; simp] at cA
        clear hy0 hy god hy2 ro
        go_wp2
        go_ret
        exact ⟨rfl, bw⟩
      · have t63 : decide ((k : Int) < 63) = false := decide_eq_false (by omega)
        have t64 : decide (k < 63) = false := decide_eq_false (by omega)
        clear hsm hA1 hm1 hn ha h1 hbo
        go_enter Tryd.func6, Tryd.ntmps6
        go_wp2_with fail
        refine (hal).mono ?_
        rintro en v1 ⟨rfl, hb⟩
        replace hT := hT.below hb hT.2
        replace ra := (ra.below hb).more hb.size
        replace bw := bw.trans (hb.mono bw.size)
        clear hb
        clear hal
        go_wp2_with fail
        refine (g1 _).mono ?_
        rintro en v1 ⟨rfl, rfl⟩
        go_wp2_with fail
        clear g1
        refine (leftR gm1.out A c gn.out gha.out _ ra q1.out).mono ?_
        rintro en v2 ⟨X1, x1, rfl, hx1, rx, hb⟩
        replace hT := hT.below hb hT.2
        replace ra := (ra.below hb).more hb.size
        replace bw := bw.trans (hb.mono bw.size)
        clear hb
        go_wp2_with fail
        refine (rightR gn.out X1 x1 gm1.out gx.out _ rx gk.out hx1 gr.out).mono ?_
        rintro en v3 ⟨X2, x2, rfl, hx2, rb, hb⟩
        replace hT := hT.below hb hT.2
        replace ra := (ra.below hb).more hb.size
        replace rx := (rx.below hb).more hb.size
        replace bw := bw.trans (hb.mono bw.size)
        clear hb
        go_wp2_with fail
        refine (bitsR A c gn.out gha.out _ ra gM.out).mono ?_
        rintro en v4 ⟨rfl, hb⟩
        replace hT := hT.below hb hT.2
        replace ra := (ra.below hb).more hb.size
        replace rx := (rx.below hb).more hb.size
        replace rb := (rb.below hb).more hb.size
        replace bw := bw.trans (hb.mono bw.size)
        clear hb
        go_wp2_with fail
        refine (bitsR X1 x1 gm1.out gx.out _ rx gN.out).mono ?_
        rintro en v5 ⟨rfl, hb⟩
        replace hT := hT.below hb hT.2
        replace ra := (ra.below hb).more hb.size
        replace rx := (rx.below hb).more hb.size
        replace rb := (rb.below hb).more hb.size
        replace bw := bw.trans (hb.mono bw.size)
        clear hb
        go_wp2_with fail
        refine (sameR X2 A x2 c gn.out gn.out _ rb ra (Q := true) (by omega) (by omega) (decide_eq_true rfl)).mono ?_
        rintro en v6 ⟨rfl, hb⟩
        replace hT := hT.below hb hT.2
        replace ra := (ra.below hb).more hb.size
        replace rx := (rx.below hb).more hb.size
        replace rb := (rb.below hb).more hb.size
        replace bw := bw.trans (hb.mono bw.size)
        clear hb
        clear rb
        go_wp2_with fail
        refine (lowR A c gn.out gha.out _ ra hT g5.out).mono ?_
        rintro en v7 ⟨rfl, hb⟩
        replace hT := hT.below hb hT.2
        replace ra := (ra.below hb).more hb.size
        replace rx := (rx.below hb).more hb.size
        replace bw := bw.trans (hb.mono bw.size)
        clear hb
        go_wp2_with fail
        refine (rightR gmo.out A c gn.out gha.out _ ra (by have := ght.out; omega) hnc g7.out).mono ?_
        rintro en v8 ⟨Xo, xo, rfl, hxo, ro, hb⟩
        replace hT := hT.below hb hT.2
        replace ra := (ra.below hb).more hb.size
        replace rx := (rx.below hb).more hb.size
        replace bw := bw.trans (hb.mono bw.size)
        clear hb
        obtain ⟨y, r, hy, hy1, hy2⟩ := god.out
        have hmo0 : 0 < mo := by rw [← gmo.out, hy]; simp
        obtain ⟨ad, rfl, hab, cA⟩ := at_ints gmo.out ro hmo0
        have hy0 : o.getD 0 0 = y := by rw [hy]; rfl
        rw [hy0] at cA
        have z3 : decide ((0 : Int) < mo) = true := decide_eq_true (by omega)
        have z4 : decide (0 < mo) = true := decide_eq_true hmo0
        have z5 : (((y : Int) % 2) == 1) = true := by rw [show (y : Int) % 2 = 1 by omega]; rfl
        have z6 : (((y : Int).tmod 2) == 1) = true := by rw [Int.tmod_eq_emod_of_nonneg (by omega), show (y : Int) % 2 = 1 by omega]; rfl
        have i2 : (0 : Int) < mo := by omega
        rw [show ad.add 0 = ad by unfold Addr.add; simp] at cA
        clear hy0 hy god hy2 ro
        go_wp2
        go_ret
        exact ⟨rfl, bw⟩
    · clear hz
      have y3 : (E == 0) = false := beq_eq_false_iff_ne.2 h0
      clear hA1 hm1 hn ha h1 hbo h0 hk64
      go_enter Tryd.func6, Tryd.ntmps6
      go_wp2_with fail
      refine (hal).mono ?_
      rintro en v1 ⟨rfl, hb⟩
      replace hT := hT.below hb hT.2
      replace ra := (ra.below hb).more hb.size
      replace bw := bw.trans (hb.mono bw.size)
      clear hb
      clear hal
      go_wp2_with fail
      refine (g1 _).mono ?_
      rintro en v1 ⟨rfl, rfl⟩
      go_wp2_with fail
      clear g1
      refine (leftR gm1.out A c gn.out gha.out _ ra q1.out).mono ?_
      rintro en v2 ⟨X1, x1, rfl, hx1, rx, hb⟩
      replace hT := hT.below hb hT.2
      replace ra := (ra.below hb).more hb.size
      replace bw := bw.trans (hb.mono bw.size)
      clear hb
      go_wp2_with fail
      refine (lowR A c gn.out gha.out _ ra hT g5.out).mono ?_
      rintro en v3 ⟨rfl, hb⟩
      replace hT := hT.below hb hT.2
      replace ra := (ra.below hb).more hb.size
      replace rx := (rx.below hb).more hb.size
      replace bw := bw.trans (hb.mono bw.size)
      clear hb
      go_wp2_with fail
      refine (rightR gmo.out A c gn.out gha.out _ ra (by have := ght.out; omega) hnc g7.out).mono ?_
      rintro en v4 ⟨Xo, xo, rfl, hxo, ro, hb⟩
      replace hT := hT.below hb hT.2
      replace ra := (ra.below hb).more hb.size
      replace rx := (rx.below hb).more hb.size
      replace bw := bw.trans (hb.mono bw.size)
      clear hb
      obtain ⟨y, r, hy, hy1, hy2⟩ := god.out
      have hmo0 : 0 < mo := by rw [← gmo.out, hy]; simp
      obtain ⟨ad, rfl, hab, cA⟩ := at_ints gmo.out ro hmo0
      have hy0 : o.getD 0 0 = y := by rw [hy]; rfl
      rw [hy0] at cA
      have z3 : decide ((0 : Int) < mo) = true := decide_eq_true (by omega)
      have z4 : decide (0 < mo) = true := decide_eq_true hmo0
      have z5 : (((y : Int) % 2) == 1) = true := by rw [show (y : Int) % 2 = 1 by omega]; rfl
      have z6 : (((y : Int).tmod 2) == 1) = true := by rw [Int.tmod_eq_emod_of_nonneg (by omega), show (y : Int) % 2 = 1 by omega]; rfl
      have i2 : (0 : Int) < mo := by omega
      rw [show ad.add 0 = ad by unfold Addr.add; simp] at cA
      clear hy0 hy god hy2 ro
      go_wp2
      go_ret
      exact ⟨rfl, bw⟩
end Go.Proofs.YtaklmkjldmbleaaDoor
