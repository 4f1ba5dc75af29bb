/- Mail: two rows of descriptors, compared -/
import Derived.Test.YtjmhefkmpfkpbaaPB
import Derived.Deep.QuietTactic
import Derived.BigQuiet
namespace Go.Proofs.Ytjmhefkmpfkpbaa
open Go.ChangeShapes Go.WideShapes Go.ChangeAt Go.RowKit
set_option linter.unusedSimpArgs false
set_option linter.unusedVariables false
set_option maxHeartbeats 4000000 in
theorem dequal_any (A A2 : Option Addr) (n n2 c c2 B B2 : Nat) (a b : List Tm) (hm : n ≤ 100000) (w : World) (hR : Tms w B A n a) (hR2 : Tms w B2 A2 n2 b) :
    Calls Try.prog 58 #[.slice A n c, .slice A2 n2 c2] w fun en w' => en = .returned (.bool (decide (a = b))) ∧ ∃ m, w' = w.drewN m := by
  have hn := hR.1
  have hn2 := hR2.1
  by_cases hlen : n = n2
  · subst hlen
    have no : ∀ k, k < n → tz a k ≠ tz b k → decide (a = b) = false := fun k _ h => decide_eq_false (fun e => h (by rw [e]))
    have yes : (∀ k, k < n → tz a k = tz b k) → decide (a = b) = true := fun h => decide_eq_true (by
      apply List.ext_getElem (by omega)
      intro i h1 h2
      have := h i (by omega)
      rwa [tz_some (List.getElem?_eq_getElem h1), tz_some (List.getElem?_eq_getElem h2)] at this)
    obtain ⟨R, hRr⟩ : ∃ R, decide (a = b) = R := ⟨_, rfl⟩
    rw [hRr] at no yes ⊢
    have gno := Lib.hid no
    have gyes := Lib.hid yes
    have gR := Lib.hid hR
    have gR2 := Lib.hid hR2
    have t1 : ((n : Int) != n) = false := by simp
    clear no yes hRr hn hn2 hR hR2
    go_enter Try.func58, Try.ntmps58
    go_wp2
    go_loopw [13] (fun t wr => ∃ k m : Nat, k ≤ n ∧ t = .int .i64 (k : Int) ∧ Hid (∀ j, j < k → tz a j = tz b j) ∧ wr = w.drewN m) (fun t _ => n - (intOf t).toNat)
    case atStart => exact ⟨0, 0, Nat.zero_le _, rfl, Lib.hid (fun j h1 => by omega), rfl⟩
    case round =>
      obtain ⟨k, m, hk, rfl, h0, rfl⟩ := hrel
      by_cases hlt : k < n
      · obtain ⟨ad, rfl, hab, hc⟩ := gR.out.at_ hlt
        obtain ⟨ad2, rfl, hab2, hc2⟩ := gR2.out.at_ hlt
        obtain ⟨a0, a1⟩ := hc w (Below.refl _ _)
        obtain ⟨b0, b1⟩ := hc2 w (Below.refl _ _)
        have i1 : (0 : Int) ≤ k := by omega
        have i2 : (k : Int) < n := by omega
        obtain ⟨x, hx⟩ : ∃ x, tz a k = x := ⟨_, rfl⟩
        obtain ⟨y, hy⟩ : ∃ y, tz b k = y := ⟨_, rfl⟩
        rw [hx] at a0 a1
        rw [hy] at b0 b1
        by_cases h : x = y
        · subst h
          have h0' : Hid (∀ i, i < k + 1 → tz a i = tz b i) := Lib.hid (fun i h1 => by
            rcases Nat.lt_or_ge i k with h3 | h3
            · exact h0.out i h3
            · rw [show i = k by omega, hx, hy])
          obtain ⟨x1, x2⟩ := x
          simp only at a0 a1 b0 b1
          clear hx hy gR gR2 gno gyes h0 hc hc2
          go_wp2_with fail
          go_quiet (fail)
          go_wp2
          go_roundw
          case rel => exact ⟨k + 1, _, by omega, by go_num, h0', rfl⟩
          case measure => simp [intOf] <;> omega
        · obtain rfl := gno.out k hlt (by rw [hx, hy]; exact h)
          obtain ⟨x1, x2⟩ := x
          obtain ⟨y1, y2⟩ := y
          simp only at a0 a1 b0 b1
          have h12 : ¬ (x1 = y1 ∧ x2 = y2) := fun e => h (by rw [e.1, e.2])
          obtain ⟨q1, hq1⟩ : ∃ q, (x1 == y1) = q := ⟨_, rfl⟩
          obtain ⟨q2, hq2⟩ : ∃ q, (x2 == y2) = q := ⟨_, rfl⟩
          have hqq : (q1 && q2) = false := by
            rw [← hq1, ← hq2]
            simp only [Bool.and_eq_false_iff, beq_eq_false_iff_ne]
            by_cases e : x1 = y1
            · exact .inr (fun e2 => h12 ⟨e, e2⟩)
            · exact .inl e
          clear hx hy gR gR2 gyes h0 gno hc hc2 h h12
          cases q1 <;> cases q2
          case true.true => cases hqq
          all_goals
            clear hqq
            go_wp2_with fail
            go_quiet (fail)
            go_wp2
            go_ret
            refine ⟨rfl, ?_⟩
            simp only [World.drewN_drewN]
            exact ⟨_, rfl⟩
      · obtain rfl : k = n := by omega
        obtain rfl := gyes.out h0.out
        clear gR gR2 gno gyes h0
        go_wp2
        go_ret
        exact ⟨rfl, m, rfl⟩
  · rw [decide_eq_false (show ¬ a = b from fun e => hlen (by rw [← hn, ← hn2, e]))]
    have t1 : ((n : Int) != n2) = true := by simp; omega
    have t2 : (n != n2) = true := by simpa using hlen
    clear hR hR2 hn hn2
    go_enter Try.func58, Try.ntmps58
    go_wp2
    go_ret
    exact ⟨rfl, 0, rfl⟩
theorem descsame_any (A A2 : Option Addr) (n n2 c c2 B B2 : Nat) (a b : List Tm) (hm : n ≤ 100000) (w : World) (hR : Tms w B A n a) (hR2 : Tms w B2 A2 n2 b) (R : Bool) (hRR : decide (a = b) = R) :
    Calls Try.prog 28 #[.slice A n c, .slice A2 n2 c2] w fun en w' => en = .returned (.bool R) ∧ ∃ m, w' = w.drewN m := by
  have h := dequal_any A A2 n n2 c c2 B B2 a b hm w hR hR2
  rw [hRR] at h
  clear hR hR2 hRR
  go_enter Try.func28, Try.ntmps28
  go_wp2_with fail
  refine h.mono ?_
  rintro en w1 ⟨rfl, m, rfl⟩
  go_wp2
  go_ret
  exact ⟨rfl, m, rfl⟩
end Go.Proofs.Ytjmhefkmpfkpbaa
