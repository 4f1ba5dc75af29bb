/- Frame, plain: sums tell a byte, and its place: two contents that differ in one byte, or in two neighbours, have other sums. -/
import Derived.Test.YtjmhefkmpfkpbaaPlain
namespace Go.Proofs.Ytjmhefkmpfkpbaa
open Go

theorem half_xor (a b : Nat) : (a ^^^ b) / 2 = a / 2 ^^^ b / 2 := by
  have := Nat.shiftRight_xor_distrib (a := a) (b := b) (i := 1)
  simpa [Nat.shiftRight_eq_div_pow] using this
theorem step_xor (a b : Nat) : step (a ^^^ b) = step a ^^^ step b := by
  unfold step
  rw [half_xor]
  have hm : (a ^^^ b) % 2 = (a % 2) ^^^ (b % 2) := Nat.xor_mod_two_pow (n := 1)
  rcases Nat.mod_two_eq_zero_or_one a with ha | ha <;> rcases Nat.mod_two_eq_zero_or_one b with hb | hb <;> rw [hm, ha, hb] <;> simp
  · ac_rfl
  · ac_rfl
  · rw [Nat.xor_assoc (a / 2), ← Nat.xor_assoc 3988292384 (b / 2), Nat.xor_comm 3988292384 (b / 2), Nat.xor_assoc, Nat.xor_self, Nat.xor_zero]
theorem steps_xor (n a b : Nat) : steps n (a ^^^ b) = steps n a ^^^ steps n b := by
  induction n generalizing a b with
  | zero => rfl
  | succ n ih => rw [steps, step_xor, ih, steps, steps]
theorem step_zero {w : Nat} (h : w < 4294967296) (h0 : step w = 0) : w = 0 := by
  unfold step at h0
  rcases Nat.mod_two_eq_zero_or_one w with hw | hw
  · rw [if_neg (by omega), Nat.xor_zero] at h0
    omega
  · rw [if_pos hw] at h0
    have : w / 2 = 3988292384 := by
      have h2 := congrArg (· ^^^ 3988292384) h0
      simpa [Nat.xor_assoc] using h2
    omega
theorem steps_zero {w : Nat} (h : w < 4294967296) (n : Nat) (h0 : steps n w = 0) : w = 0 := by
  induction n generalizing w with
  | zero => exact h0
  | succ n ih => exact step_zero h (ih (step_lt h) h0)
theorem word_cons (w b : Nat) (l : List Nat) : word w (b :: l) = word (feed w b) l := rfl
end Go.Proofs.Ytjmhefkmpfkpbaa
