/- Seen: the walk of the law SeenFirst. -/
import Derived.Test.YtocnmdnicoahnaaH
namespace Go.Proofs.Ytocnmdnicoahnaa.SeenFirst
open Go.ChangeShapes Go.WideShapes Go.ChangeAt Go.RowKit
set_option linter.unusedSimpArgs false
set_option linter.unusedVariables false
set_option maxHeartbeats 4000000 in
theorem walk (A : Option Addr) (n c : Nat) (l : List Int) (hn : l.length = n) (w : World) (hR : Reads w w.heap.size 1 A n (ints l)) :
    Calls Try.prog 3 #[.slice A n c] w fun en w' => en = .returned (.bool true) ∧ Below w.heap.size w w' := by
  have hgr := great_any A n c
  by_cases hG : 200 < n ∧ n < 4096 ∨ 4100 < n
  · rw [decide_eq_true hG] at hgr
    clear hG
    go_enter Try.func3, Try.ntmps3
    go_wp2_with fail
    refine (alive_any _).mono ?_
    rintro en w1 ⟨rfl, hb1⟩
    go_wp2_with fail
    refine (hgr _).mono ?_
    rintro en w2 ⟨rfl, rfl⟩
    clear hgr hR
    go_wp2
    go_ret
    exact ⟨rfl, hb1⟩
  rw [decide_eq_false hG] at hgr
  clear hG
  obtain ⟨e, he⟩ : ∃ e, chkL l = e := ⟨_, rfl⟩
  by_cases h0 : e = 0
  · subst h0
    have hm4 : n ≤ 4096 := by have := (chk_zero he).1; omega
    go_enter Try.func3, Try.ntmps3
    go_wp2_with fail
    refine (alive_any _).mono ?_
    rintro en w1 ⟨rfl, hb1⟩
    go_wp2_with fail
    refine (hgr _).mono ?_
    rintro en w2 ⟨rfl, rfl⟩
    go_wp2_with fail
    refine (first_yes A n c l hn he _ ((hR.below hb1).more hb1.size)).mono ?_
    rintro en w3 ⟨k, hk, rfl, hb3⟩
    have hB3 := hb1.trans (hb3.mono hb1.size)
    have hR3 := hR.below hB3
    obtain ⟨hk1, hk2, hk3⟩ := hk
    rw [hn] at hk1 hk3
    have y1 : decide ((k : Int) < 0) = false := by simp
    have y2 : decide ((n : Int) < k) = false := by simp; omega
    by_cases hkn : k < n
    · obtain ⟨ad, hA, hab, cA⟩ := reads_at hn hR3 hkn
      have y3 : decide ((k : Int) < n) = true := by simp; omega
      have i1 : (0 : Int) ≤ k := by omega
      have i2 : (k : Int) < n := by omega
      have y4 : (l.getD k 0 == (k : Int)) = false := by
        have := hk3 hkn
        exact beq_eq_false_iff_ne.mpr (by omega)
      subst hA
      generalize hx : l.getD k 0 = x at *
      clear hx hgr hb3 hk3 he
      go_wp2
      go_loopw [6] (fun i wr => ∃ j : Nat, j ≤ k ∧ i = .int .i64 j ∧ wr = w3) (fun i wr => k - (intOf i).toNat)
      case atStart => exact ⟨0, by omega, rfl, rfl⟩
      case round =>
        obtain ⟨j, hj, rfl, rfl⟩ := hrel
        by_cases hlt : j < k
        · obtain ⟨ad', hA', hab', cA'⟩ := reads_at hn hR3 (show j < n by omega)
          injection hA' with hA'
          subst hA'
          rw [hk2 j hlt] at cA'
          have j1 : (0 : Int) ≤ j := by omega
          have j2 : (j : Int) < n := by omega
          go_wp2
          go_roundw
          case rel => exact ⟨j + 1, by omega, by go_num, by first | rfl | trivial⟩
          case measure => simp [intOf]; omega
        · obtain rfl : j = k := by omega
          go_wp2
          go_ret
          exact ⟨rfl, hB3⟩
    · have y3 : decide ((k : Int) < n) = false := by simp; omega
      clear hgr hb3 hk3 he
      go_wp2
      go_loopw [6] (fun i wr => ∃ j : Nat, j ≤ k ∧ i = .int .i64 j ∧ wr = w3) (fun i wr => k - (intOf i).toNat)
      case atStart => exact ⟨0, by omega, rfl, rfl⟩
      case round =>
        obtain ⟨j, hj, rfl, rfl⟩ := hrel
        by_cases hlt : j < k
        · obtain ⟨ad', hA', hab', cA'⟩ := reads_at hn hR3 (show j < n by omega)
          subst hA'
          rw [hk2 j hlt] at cA'
          have j1 : (0 : Int) ≤ j := by omega
          have j2 : (j : Int) < n := by omega
          go_wp2
          go_roundw
          case rel => exact ⟨j + 1, by omega, by go_num, by first | rfl | trivial⟩
          case measure => simp [intOf]; omega
        · obtain rfl : j = k := by omega
          go_wp2
          go_ret
          exact ⟨rfl, hB3⟩
  · have d1 : (e != 0) = true := by simpa using h0
    go_enter Try.func3, Try.ntmps3
    go_wp2_with fail
    refine (alive_any _).mono ?_
    rintro en w1 ⟨rfl, hb1⟩
    go_wp2_with fail
    refine (hgr _).mono ?_
    rintro en w2 ⟨rfl, rfl⟩
    go_wp2_with fail
    refine (first_no A n c l hn e he d1 _ ((hR.below hb1).more hb1.size)).mono ?_
    rintro en w3 ⟨rfl, hb3⟩
    have hB3 := hb1.trans (hb3.mono hb1.size)
    go_wp2_with fail
    refine (check_any A n c w.heap.size l hn _ (hR.below hB3)).mono ?_
    rintro en w4 ⟨rfl, rfl⟩
    rw [he]
    have d2 : (e == e) = true := by simp
    clear hR hgr hb3 he
    go_wp2
    go_ret
    exact ⟨rfl, hB3⟩
end Go.Proofs.Ytocnmdnicoahnaa.SeenFirst
