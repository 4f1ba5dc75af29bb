/- Ether: plain laws of a mask's bits and of texts that are turned. -/
import Derived.Test.YtbiodoeimbfbnaaDoorD
import Derived.Lib.TrailingZeros
import Derived.Lib.BitFns
import Derived.Lib.ItoaNum
import Derived.Test.YtbiodoeimbfbnaaDoorTz
namespace Go.Proofs.YtbiodoeimbfbnaaDoor
open Go.ChangeShapes Go.WideShapes Go.ChangeAt Go.RowKit
set_option linter.unusedSimpArgs false
set_option linter.unusedVariables false
def bitsOf (m : Nat) : List Nat := (List.range 32).filter (fun j => m.testBit j)
def flipAt (t : List Nat) (p : Nat) : List Nat := t.set (p / 8) (t.getD (p / 8) 0 ^^^ 2 ^ (p % 8))
def turnBy (a : Nat) (t : List Nat) (ks : List Nat) : List Nat := ks.foldl (fun t k => flipAt t (a + k)) t
/-- A text, bits of it turned. -/
def turned (t : List Nat) (a m : Nat) : List Nat := turnBy a t (bitsOf m)
theorem flip_len (t : List Nat) (p : Nat) : (flipAt t p).length = t.length := by unfold flipAt; simp
theorem turnBy_len (a : Nat) : ∀ (ks t : List Nat), (turnBy a t ks).length = t.length
  | [], t => rfl
  | k :: ks, t => by unfold turnBy; rw [List.foldl_cons]; exact (turnBy_len a ks _).trans (flip_len _ _)
theorem turnBy_snoc (a : Nat) (t ks : List Nat) (k : Nat) : turnBy a t (ks ++ [k]) = flipAt (turnBy a t ks) (a + k) := by unfold turnBy; simp
theorem flip_lt {t : List Nat} (h : ∀ b ∈ t, b < 256) (p : Nat) : ∀ b ∈ flipAt t p, b < 256 := by
  intro b hb
  unfold flipAt at hb
  rcases List.mem_or_eq_of_mem_set hb with h1 | h1
  · exact h b h1
  · rw [h1]
    have h2 : t.getD (p / 8) 0 < 256 := getD_lt (by omega) h _
    exact Nat.xor_lt_two_pow (n := 8) (by omega) (Nat.pow_lt_pow_right (by omega) (Nat.mod_lt _ (by omega)))
theorem turnBy_lt (a : Nat) : ∀ (ks : List Nat) {t : List Nat}, (∀ b ∈ t, b < 256) → ∀ b ∈ turnBy a t ks, b < 256
  | [], _, h => h
  | k :: ks, t, h => by
    unfold turnBy
    rw [List.foldl_cons]
    exact turnBy_lt a ks (flip_lt h _)
/-- The bits up to k. -/
def upTo (m k : Nat) : List Nat := (List.range k).filter (fun j => m.testBit j)
theorem upTo_succ (m k : Nat) : upTo m (k + 1) = if m.testBit k then upTo m k ++ [k] else upTo m k := by
  unfold upTo
  rw [List.range_succ, List.filter_append]
  cases h : m.testBit k <;> simp [h]
theorem filter_low (p : Nat → Bool) (t : Nat) (ht : p t = true) (hlow : ∀ j, j < t → p j = false) : ∀ n, t < n → (List.range n).filter p = t :: (List.range n).filter (fun j => p j && decide (j ≠ t))
  | 0, h => by omega
  | n + 1, h => by
    rw [List.range_succ, List.filter_append, List.filter_append]
    rcases Nat.lt_or_ge t n with h1 | h1
    · rw [filter_low p t ht hlow n h1, List.cons_append]
      congr 2
      have hn : ¬ n = t := by omega
      simp [List.filter_cons, hn]
    · have e : t = n := by omega
      subst e
      have h2 : (List.range t).filter p = [] := List.filter_eq_nil_iff.2 (fun j hj => by rw [hlow j (List.mem_range.1 hj)]; decide)
      have h3 : (List.range t).filter (fun j => p j && decide (j ≠ t)) = [] := List.filter_eq_nil_iff.2 (fun j hj => by rw [hlow j (List.mem_range.1 hj)]; simp)
      rw [h2, h3]
      simp [List.filter_cons, ht]
theorem low_bits {m t q : Nat} (h : m = 2 ^ t * (2 * q + 1)) : m.testBit t = true ∧ (∀ j, j < t → m.testBit j = false) ∧ ∀ j, (m &&& (m - 1)).testBit j = (m.testBit j && decide (j ≠ t)) := by
  have h1 : m.testBit t = true := by
    rw [h, Nat.testBit_two_pow_mul]
    simp
  have h2 : ∀ j, j < t → m.testBit j = false := by
    intro j hj
    rw [h, Nat.testBit_two_pow_mul]
    simp
    omega
  refine ⟨h1, h2, fun j => ?_⟩
  rw [Nat.testBit_and]
  have hm1 : m - 1 = 2 ^ t * (2 * q) + (2 ^ t - 1) := by
    rw [h, Nat.mul_add]
    have := Nat.pow_pos (n := t) (show 0 < 2 by omega)
    omega
  have hlt : 2 ^ t - 1 < 2 ^ t := by have := Nat.pow_pos (n := t) (show 0 < 2 by omega); omega
  rcases Nat.lt_trichotomy j t with hj | hj | hj
  · rw [h2 j hj]; rfl
  · subst hj
    have : (m - 1).testBit j = false := by
      rw [hm1, Nat.testBit_eq_decide_div_mod_eq, Nat.mul_add_div (Nat.pow_pos (by omega)), Nat.div_eq_of_lt hlt]
      simp
    rw [this]
    simp
  · have h3 : (m - 1).testBit j = m.testBit j := by
      have hd : (m - 1) / 2 ^ j = m / 2 ^ j := by
        obtain ⟨d, rfl⟩ : ∃ d, j = t + 1 + d := ⟨j - t - 1, by omega⟩
        rw [Nat.pow_add, ← Nat.div_div_eq_div_mul, ← Nat.div_div_eq_div_mul]
        congr 1
        rw [hm1, h, Nat.pow_succ, Nat.mul_comm (2 ^ t) 2, Nat.mul_comm 2 (2 ^ t), ← Nat.div_div_eq_div_mul, ← Nat.div_div_eq_div_mul, Nat.mul_add_div (Nat.pow_pos (by omega)), Nat.div_eq_of_lt hlt, Nat.mul_div_cancel_left _ (Nat.pow_pos (by omega))]
        omega
      rw [Nat.testBit_eq_decide_div_mod_eq, Nat.testBit_eq_decide_div_mod_eq, hd]
    rw [h3]
    have : decide (j ≠ t) = true := decide_eq_true (by omega)
    rw [this]
    simp
theorem bits_step {m : Nat} (hm : m < 4294967296) (h0 : m ≠ 0) : bitsOf m = Lib.ctz 32 m :: bitsOf (m &&& (m - 1)) ∧ Lib.ctz 32 m < 32 ∧ m.testBit (Lib.ctz 32 m) = true ∧ m &&& (m - 1) < m := by
  obtain ⟨q, hq, hc⟩ := Lib.ctzFrom_spec 32 m (by omega) hm
  have e : Lib.ctz 32 m = Lib.ctzFrom 32 m := by simp [Lib.ctz, h0]
  rw [e]
  obtain ⟨h1, h2, h3⟩ := low_bits hq
  refine ⟨?_, hc, h1, Nat.lt_of_le_of_lt Nat.and_le_right (by omega)⟩
  unfold bitsOf
  rw [filter_low (fun j => m.testBit j) _ h1 h2 32 hc]
  congr 1
  apply List.filter_congr
  intro j hj
  exact (h3 j).symm
theorem bits_zero : bitsOf 0 = [] := by unfold bitsOf; exact List.filter_eq_nil_iff.2 (fun j _ => by simp)
/-- Do the bits of a mask, from a bit on, lie in a text of n bytes? -/
def fitB (n : Nat) (a : Int) (m : Nat) : Bool := decide (m ≠ 0 ∧ 0 ≤ a ∧ a + Lib.bitLen m ≤ 8 * n)
theorem len_bits {m : Nat} (hm : m < 4294967296) (h0 : m ≠ 0) : 1 ≤ Lib.bitLen m ∧ Lib.bitLen m ≤ 32 ∧ m.testBit (Lib.bitLen m - 1) = true ∧ ∀ k, m.testBit k = true → k < Lib.bitLen m := by
  obtain ⟨b1, b2, b3⟩ := Lib.bitLenAux_bounds 64 m (by omega) h0
  have e : Lib.bitLen m = Lib.bitLenAux 64 m := rfl
  rw [← e] at b1 b2 b3
  obtain ⟨L, hL⟩ : ∃ L, Lib.bitLen m = L + 1 := ⟨Lib.bitLen m - 1, by omega⟩
  rw [hL] at b1 b2 b3 ⊢
  rw [Nat.add_sub_cancel] at b2 ⊢
  refine ⟨by omega, ?_, ?_, ?_⟩
  · rcases Nat.lt_or_ge L 32 with h | h
    · omega
    · have := Nat.pow_le_pow_right (show 0 < 2 by omega) h
      omega
  · rw [Nat.testBit_eq_decide_div_mod_eq]
    have : m / 2 ^ L = 1 := by
      rw [Nat.pow_succ] at b3
      apply Nat.le_antisymm
      · have := (Nat.div_lt_iff_lt_mul (Nat.pow_pos (n := L) (show 0 < 2 by omega))).2 (show m < 2 * 2 ^ L by omega)
        omega
      · exact (Nat.le_div_iff_mul_le (Nat.pow_pos (by omega))).2 (by omega)
    rw [this]
    rfl
  · intro k hk
    rcases Nat.lt_or_ge k (L + 1) with h | h
    · exact h
    · have := Nat.pow_le_pow_right (show 0 < 2 by omega) h
      rw [Nat.testBit_lt_two_pow (by omega)] at hk
      cases hk
theorem fit_iff {n m : Nat} {a : Int} (hm : m < 4294967296) (h0 : m ≠ 0) (ha : 0 ≤ a) : fitB n a m = true ↔ (a < 8 * n ∧ ∀ k : Nat, k < 32 → m.testBit k = true → (k : Int) < 8 * n - a) := by
  obtain ⟨h1, h2, h3, h4⟩ := len_bits hm h0
  unfold fitB
  rw [decide_eq_true_eq]
  constructor
  · rintro ⟨_, _, h⟩
    refine ⟨by omega, fun k hk hb => ?_⟩
    have := h4 k hb
    omega
  · rintro ⟨h5, h6⟩
    refine ⟨h0, ha, ?_⟩
    have := h6 (Lib.bitLen m - 1) (by omega) h3
    omega
theorem fit_bits {n m : Nat} {a : Int} (hm : m < 4294967296) (h : fitB n a m = true) : ∀ k, m.testBit k = true → a + k < 8 * n := by
  intro k hk
  have h' := h
  unfold fitB at h'
  simp only [decide_eq_true_eq] at h'
  have := (len_bits hm h'.1).2.2.2 k hk
  omega
end Go.Proofs.YtbiodoeimbfbnaaDoor
