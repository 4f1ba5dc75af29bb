/- Frame: bits turned within 32 in a row change the sum: of lists, no program in sight. -/
import Derived.Test.YtjmhefkmpfkpbaaBackP
import Derived.Test.YtjmhefkmpfkpbaaMoves
namespace Go.Proofs.Ytjmhefkmpfkpbaa
open Go.ChangeShapes Go.WideShapes Go.ChangeAt Go.RowKit
set_option linter.unusedSimpArgs false
set_option linter.unusedVariables false
/-- The number of which a list's bytes are the digits, the lowest first. -/
def bval : List Nat → Nat
  | [] => 0
  | b :: l => b + 256 * bval l
theorem add_xor {i b : Nat} (hb : b < 2 ^ i) (m : Nat) : 2 ^ i * m + b = (2 ^ i * m) ^^^ b := by
  rw [Nat.two_pow_add_eq_or_of_lt hb]
  apply Nat.eq_of_testBit_eq
  intro j
  rw [Nat.testBit_or, Nat.testBit_xor, Nat.testBit_two_pow_mul]
  by_cases h : j ≥ i
  · have : b.testBit j = false := Nat.testBit_lt_two_pow (Nat.lt_of_lt_of_le hb (Nat.pow_le_pow_right (by omega) h))
    simp [this]
  · simp [h]
theorem mul_xor (i a b : Nat) : 2 ^ i * (a ^^^ b) = (2 ^ i * a) ^^^ (2 ^ i * b) := by
  apply Nat.eq_of_testBit_eq
  intro j
  rw [Nat.testBit_xor, Nat.testBit_two_pow_mul, Nat.testBit_two_pow_mul, Nat.testBit_two_pow_mul, Nat.testBit_xor]
  by_cases h : j ≥ i <;> simp [h]
theorem bval_cons {b : Nat} (hb : b < 256) (l : List Nat) : bval (b :: l) = b ^^^ (2 ^ 8 * bval l) := by
  have := add_xor (i := 8) (b := b) (by omega) (bval l)
  rw [Nat.xor_comm, ← this]
  show b + 256 * bval l = _
  omega
theorem steps_pow (k x : Nat) : steps k (2 ^ k * x) = x := by
  induction k with
  | zero => simp [steps]
  | succ k ih =>
    show steps k (step (2 ^ (k + 1) * x)) = x
    have e : step (2 ^ (k + 1) * x) = 2 ^ k * x := by
      unfold step
      rw [Nat.pow_succ, Nat.mul_comm (2 ^ k) 2, Nat.mul_assoc]
      simp
    rw [e, ih]
theorem word_val {l : List Nat} (hl : ∀ b ∈ l, b < 256) : ∀ w, word w l = steps (8 * l.length) (w ^^^ bval l) := by
  induction l with
  | nil => intro w; simp [word, bval, steps]
  | cons b l ih =>
    intro w
    rw [word_cons, ih (fun x hx => hl x (List.mem_cons_of_mem _ hx)), bval_cons (hl b (by simp)), List.length_cons,
      show 8 * (l.length + 1) = 8 * l.length + 8 by omega, steps_add, ← Nat.xor_assoc, steps_xor 8, steps_pow]
    rfl
theorem val_inj : ∀ {l m : List Nat}, l.length = m.length → (∀ b ∈ l, b < 256) → (∀ b ∈ m, b < 256) → bval l = bval m → l = m := by
  intro l
  induction l with
  | nil => intro m h _ _ _; exact (List.eq_nil_of_length_eq_zero h.symm).symm
  | cons b l ih =>
    intro m h hl hm he
    cases m with
    | nil => simp at h
    | cons c m =>
      have hb := hl b (by simp)
      have hc := hm c (by simp)
      simp only [bval] at he
      have e1 : b = c := by omega
      have e2 : bval l = bval m := by omega
      rw [e1, ih (by simpa using h) (fun x hx => hl x (List.mem_cons_of_mem _ hx)) (fun x hx => hm x (List.mem_cons_of_mem _ hx)) e2]
theorem flip_lt {b r : Nat} (hb : b < 256) (hr : r < 8) : b ^^^ 2 ^ r < 256 :=
  Nat.xor_lt_two_pow (n := 8) (by omega) (Nat.pow_lt_pow_right (by omega) hr)
theorem val_flip : ∀ {l : List Nat} {i r : Nat}, i < l.length → r < 8 → (∀ b ∈ l, b < 256) → bval (l.set i (l.getD i 0 ^^^ 2 ^ r)) = bval l ^^^ 2 ^ (8 * i + r) := by
  intro l
  induction l with
  | nil => intro i r h; simp at h
  | cons b l ih =>
    intro i r hi hr hl
    have hb := hl b (by simp)
    cases i with
    | zero =>
      simp only [List.set_cons_zero, List.getD_cons_zero]
      rw [bval_cons (flip_lt hb hr), bval_cons hb, Nat.mul_zero, Nat.zero_add, Nat.xor_assoc, Nat.xor_assoc, Nat.xor_comm (2 ^ r)]
    | succ i =>
      simp only [List.set_cons_succ, List.getD_cons_succ]
      rw [bval_cons hb, bval_cons hb, ih (by simpa using hi) hr (fun x hx => hl x (List.mem_cons_of_mem _ hx)), mul_xor, ← Nat.pow_add, Nat.xor_assoc,
        show 8 + (8 * i + r) = 8 * (i + 1) + r by omega]
theorem mask_more (m j at_ : Nat) (hb : m / 2 ^ j % 2 = 1) : (m % 2 ^ (j + 1)) * 2 ^ at_ = ((m % 2 ^ j) * 2 ^ at_) ^^^ 2 ^ (at_ + j) := by
  have hlt : (m % 2 ^ j) * 2 ^ at_ < 2 ^ (at_ + j) := by
    rw [Nat.pow_add, Nat.mul_comm (2 ^ at_)]
    exact Nat.mul_lt_mul_of_pos_right (Nat.mod_lt _ (Nat.two_pow_pos j)) (Nat.two_pow_pos at_)
  rw [Nat.mod_pow_succ, hb, Nat.mul_one, Nat.xor_comm]
  have := add_xor hlt 1
  rw [Nat.mul_one] at this
  rw [← this, Nat.add_mul, Nat.add_comm, Nat.pow_add, Nat.mul_comm (2 ^ j)]
theorem mask_same (m j : Nat) (hb : m / 2 ^ j % 2 ≠ 1) : m % 2 ^ (j + 1) = m % 2 ^ j := by
  rw [Nat.mod_pow_succ, show m / 2 ^ j % 2 = 0 by omega, Nat.mul_zero, Nat.add_zero]
theorem mask_set (m j : Nat) (hb : m / 2 ^ j % 2 = 1) : m % 2 ^ (j + 1) ≠ 0 := by
  rw [Nat.mod_pow_succ, hb, Nat.mul_one]
  have := Nat.two_pow_pos j
  omega
/-- The sum is the right one. -/
def SumOK (l : List Nat) : Prop := l.drop (l.length - 4) = told (crc (l.take (l.length - 4)))
theorem val_told {s : Nat} (hs : s < 4294967296) : bval (told s) = s := by
  simp only [told, bval]
  omega
theorem sum_word {l : List Nat} (hl : ∀ b ∈ l, b < 256) (h4 : 4 ≤ l.length) (h : SumOK l) : word 4294967295 l = steps 32 4294967295 := by
  have hp : ∀ b ∈ l.take (l.length - 4), b < 256 := fun b hb => hl b (List.mem_of_mem_take hb)
  have hc := crc_lt (l.take (l.length - 4))
  have hw := word_lt (w := 4294967295) (by omega) hp
  rw [← List.take_append_drop (l.length - 4) l, word_append, h, word_val (told_lt hc), val_told hc]
  have e : (told (crc (l.take (l.length - 4)))).length = 4 := rfl
  rw [e]
  congr 1
  unfold crc
  rw [← ones_xor _ hw, Nat.xor_comm 4294967295, ← Nat.xor_assoc, Nat.xor_self, Nat.zero_xor]
theorem burst {l m : List Nat} {at_ M : Nat} (hlm : m.length = l.length) (hl : ∀ b ∈ l, b < 256) (hm : ∀ b ∈ m, b < 256) (h4 : 4 ≤ l.length) (hs : SumOK l) (ht : SumOK m)
    (hM : M < 4294967296) (hat : at_ ≤ 8 * l.length) (hv : bval m = bval l ^^^ (M * 2 ^ at_)) : M = 0 := by
  have e1 := sum_word hl h4 hs
  have e2 := sum_word hm (by omega) ht
  rw [word_val hl] at e1
  rw [word_val hm, hlm, hv, ← Nat.xor_assoc, steps_xor, e1] at e2
  have e3 : steps (8 * l.length) (M * 2 ^ at_) = 0 := by
    have := congrArg (fun x => steps 32 4294967295 ^^^ x) e2
    simp only [Nat.xor_self] at this
    rw [← Nat.xor_assoc, Nat.xor_self, Nat.zero_xor] at this
    exact this
  rw [show 8 * l.length = (8 * l.length - at_) + at_ by omega, steps_add, Nat.mul_comm M, steps_pow] at e3
  exact steps_zero hM _ e3
end Go.Proofs.Ytjmhefkmpfkpbaa
