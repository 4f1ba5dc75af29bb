/- Mail: least tags that may be -/
import Derived.Test.YtjmhefkmpfkpbaaPC
import Derived.Test.YtjmhefkmpfkpbaaMA
namespace Go.Proofs.Ytjmhefkmpfkpbaa
open Go.ChangeShapes Go.WideShapes Go.ChangeAt Go.RowKit
set_option linter.unusedSimpArgs false
set_option linter.unusedVariables false
/-- Numbers that rise. -/
def rises (l : List Nat) : Prop := ∀ i, i + 1 < l.length → l.getD i 0 < l.getD (i + 1) 0
set_option maxHeartbeats 4000000 in
theorem least_any (A : Option Addr) (n c B : Nat) (l : List Nat) (hn : l.length = n) (hm : n ≤ 100000) (w : World) (hR : Reads w B 1 A n (ints .u32 l)) :
    Calls Try.prog 44 #[.slice A n c] w fun en w' => ∃ R : Bool, en = .returned (.bool R) ∧ (R = true ↔ (rises l ∧ l.length ≤ 8)) ∧ ∃ m, w' = w.drewN m := by
  have gn := Lib.hid hn
  have gR := Lib.hid hR
  clear hn hR
  go_enter Try.func44, Try.ntmps44
  go_wp2
  go_loopw [3] (fun t wr => ∃ K m : Nat, 1 ≤ K ∧ K ≤ n + 1 ∧ t = .int .i64 (K : Int) ∧ Hid (∀ j, j + 1 < K → j + 1 < n → l.getD j 0 < l.getD (j + 1) 0) ∧ wr = w.drewN m) (fun t _ => n + 1 - (intOf t).toNat)
  case atStart => exact ⟨1, 0, Nat.le_refl _, by omega, rfl, Lib.hid (fun j h1 => by omega), rfl⟩
  case round =>
    obtain ⟨K, m, hK1, hk, rfl, h0, rfl⟩ := hrel
    by_cases hlt : K < n
    · obtain ⟨k, hkK⟩ : ∃ k, K = k + 1 := ⟨K - 1, by omega⟩
      obtain ⟨ad, rfl, hab, cA⟩ := at_ints gn.out gR.out hlt
      obtain ⟨ad2, e2, hab2, cA2⟩ := at_ints gn.out gR.out (show k < n by omega)
      injection e2 with e2
      subst e2
      have i1 : (0 : Int) ≤ (K : Int) := by omega
      have i2 : (K : Int) < n := by omega
      have i3 : (0 : Int) ≤ k := by omega
      have i4 : (k : Int) < n := by omega
      have w1 : IntKind.i64.wrap ((K : Int) - 1) = k := by rw [show (K : Int) - 1 = k by omega]; exact IntWalk.i64_in _ (by omega)
      obtain ⟨x, hx⟩ : ∃ x, l.getD K 0 = x := ⟨_, rfl⟩
      obtain ⟨y, hy⟩ : ∃ y, l.getD k 0 = y := ⟨_, rfl⟩
      rw [hx] at cA
      rw [hy] at cA2
      by_cases h : x ≤ y
      · have t1 : decide ((x : Int) ≤ y) = true := decide_eq_true (by omega)
        have t2 : decide (x ≤ y) = true := decide_eq_true h
        have gno : Hid (¬ rises l) := Lib.hid (fun hr => by have := hr k (by rw [gn.out]; omega); rw [← hkK, hx, hy] at this; omega)
        have gk := Lib.hid hkK
        clear hx hy h0 gR hkK hK1
        go_wp2_with fail
        go_quiet (fail)
        go_wp2
        go_ret
        refine ⟨false, rfl, ⟨(fun h => by cases h), fun h => absurd h.1 gno.out⟩, ?_⟩
        simp only [World.drewN_drewN]
        exact ⟨_, rfl⟩
      · have t1 : decide ((x : Int) ≤ y) = false := decide_eq_false (by omega)
        have t2 : decide (x ≤ y) = false := decide_eq_false h
        have h0' : Hid (∀ j, j + 1 < K + 1 → j + 1 < n → l.getD j 0 < l.getD (j + 1) 0) := Lib.hid (fun i h1 h2 => by
          rcases Nat.lt_or_ge i k with h3 | h3
          · exact h0.out i (by omega) h2
          · rw [show i = k by omega, ← hkK, hx, hy]; omega)
        have gk := Lib.hid hkK
        clear hx hy h0 h hkK
        go_wp2_with fail
        go_quiet (fail)
        go_wp2
        go_roundw
        case rel => exact ⟨K + 1, _, by omega, by omega, by go_num, h0', rfl⟩
        case measure => simp [intOf] <;> omega
    · have gr : Hid (rises l) := Lib.hid (fun i hi => h0.out i (by have := gn.out; omega) (by have := gn.out; omega))
      obtain ⟨R, hR⟩ : ∃ R, decide (n ≤ 8) = R := ⟨_, rfl⟩
      have hR2 : decide ((n : Int) ≤ 8) = R := by rw [← hR]; simp; omega
      have gRR := Lib.hid hR
      clear h0
      cases R
      all_goals
        go_wp2
        go_ret
        refine ⟨_, rfl, ?_, m, rfl⟩
        have := gRR.out
        have h2 := gn.out
        have h3 := gr.out
        simp at this
        simp [h3, h2]
        try omega
end Go.Proofs.Ytjmhefkmpfkpbaa
