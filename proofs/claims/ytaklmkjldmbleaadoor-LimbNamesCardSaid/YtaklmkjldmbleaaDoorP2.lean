/- Limb's Door: plain laws of shifts. -/
import Derived.Test.YtaklmkjldmbleaaDoorQ
namespace Go.Proofs.YtaklmkjldmbleaaDoor
open Go.ChangeShapes Go.WideShapes Go.ChangeAt Go.RowKit
set_option linter.unusedSimpArgs false
set_option linter.unusedVariables false
theorem bl_zero : bl 0 = 0 := by unfold bl; rw [dig_zero]; rfl
theorem bl_shift {N : Nat} (h : 0 < N) (k : Nat) : bl (N * 2 ^ k) = bl N + k := by
  have h1 := Nat.log2_self_le (n := N) (by omega)
  have h2 := Nat.lt_log2_self (n := N)
  rw [bl_eq h1 h2, bl_eq (k := N.log2 + k), Nat.add_right_comm]
  · rw [Nat.pow_add]
    exact Nat.mul_le_mul_right _ h1
  · rw [Nat.add_right_comm, Nat.pow_add]
    exact (Nat.mul_lt_mul_right (Nat.pow_pos (by omega))).2 h2
theorem leftS_ok {a x : List Nat} {k : Int} (h : leftS a k = (x, 0)) : mayB a = true ∧ 0 ≤ k ∧ x = dig 4294967296 (val 4294967296 a * 2 ^ k.toNat) ∧ x.length ≤ 40 := by
  unfold leftS at h
  split at h
  · rename_i hm
    split at h
    · injection h with _ h
      exact absurd h (by decide)
    · rename_i hk
      split at h
      · rename_i hl
        injection h with h _
        rw [List.eq_nil_of_length_eq_zero hl, val_nil, Nat.zero_mul, dig_zero]
        exact ⟨by rw [← List.eq_nil_of_length_eq_zero hl]; exact hm, by omega, h.symm, by rw [← h]; simp⟩
      · split at h
        · injection h with _ h
          exact absurd h (by decide)
        · obtain ⟨h1, h2⟩ := overS_ok h
          exact ⟨hm, by omega, h1, h2⟩
  · injection h with _ h
    exact absurd h (by decide)
theorem leftS_small {a x : List Nat} {k : Int} (h : leftS a k = (x, 0)) (hl : 0 < a.length) : k ≤ 1280 := by
  unfold leftS at h
  split at h
  · split at h
    · injection h with _ h
      exact absurd h (by decide)
    · split at h
      · omega
      · split at h
        · injection h with _ h
          exact absurd h (by decide)
        · omega
  · injection h with _ h
    exact absurd h (by decide)
/-- What a shift to the left leaves. -/
theorem twos {a x : List Nat} {k : Nat} (ha : ∀ y ∈ a, y < 4294967296) (h : leftS a (k : Int) = (x, 0)) : (∀ y ∈ x, y < 4294967296) ∧ x.length ≤ 40 ∧ rightS x (k : Int) = (a, 0) ∧ (∃ M N : Int, bitsS a = (M, 0) ∧ bitsS x = (N, 0) ∧ (0 < a.length → N = M + k) ∧ 0 ≤ M ∧ M ≤ 100000) ∧ (k < 63 → ∃ p, dig 4294967296 (2 ^ k) = p ∧ (∀ y ∈ p, y < 4294967296) ∧ p.length ≤ 2 ∧ mulS a p = (x, 0)) := by
  obtain ⟨hm, _, hx, h40⟩ := leftS_ok h
  rw [Int.toNat_natCast] at hx
  have hmx : mayB x = true := by rw [hx] at h40 ⊢; exact mayB_dig h40
  have hv : val 4294967296 x = val 4294967296 a * 2 ^ k := by rw [hx, val_dig (by omega)]
  refine ⟨by rw [hx]; exact dig_lt (by omega) _, h40, ?_, ⟨_, _, by unfold bitsS; rw [if_pos hm], by unfold bitsS; rw [if_pos hmx], ?_, by omega, ?_⟩, ?_⟩
  · unfold rightS
    rw [if_pos hmx, if_neg (by omega), hv, Int.toNat_natCast, Nat.mul_div_cancel _ (Nat.pow_pos (by omega)), ← canon_eq (by omega) ha (mayB_canon hm)]
  · intro hl
    have h0 := canon_val_pos (B := 4294967296) (by omega) (mayB_canon hm) hl
    rw [hv, bl_shift h0]
    omega
  · have := dig2_len (n := a.length) (Nat.le_refl _) ha
    have h4 := mayB_len hm
    unfold bl
    omega
  · intro hk
    have hp : (2 : Nat) ^ k < 4294967296 ^ 2 := by
      rw [pow32]
      exact Nat.pow_lt_pow_right (by omega) (by omega)
    refine ⟨_, rfl, dig_lt (by omega) _, dig_len_le (by omega) hp, ?_⟩
    unfold mulS
    rw [show both a (dig 4294967296 (2 ^ k)) = true by
      unfold both
      rw [hm, mayB_dig (Nat.le_trans (dig_len_le (by omega) hp) (by omega))]; rfl, if_pos rfl, val_dig (by omega)]
    unfold overS
    rw [← hx, if_pos h40]
theorem div_low {v t m : Nat} (h : v = 2 ^ t * (2 * m + 1)) : v / 2 ^ t = 2 * m + 1 := by
  rw [h, Nat.mul_div_cancel_left _ (Nat.pow_pos (by omega))]
theorem odd_any {a : List Nat} (ha : ∀ y ∈ a, y < 4294967296) (hm : mayB a = true) : lowS a = (((lowN (val 4294967296 a) : Nat) : Int), 0) ∧ (∃ o, rightS a ((lowN (val 4294967296 a) : Nat) : Int) = (o, 0) ∧ o.length ≤ 40 ∧ (a.length = 0 ∨ ∃ y r, o = y :: r ∧ y < 4294967296 ∧ y % 2 = 1)) ∧ lowN (val 4294967296 a) < 100000 := by
  have h4 := mayB_len hm
  have hva := Nat.lt_of_lt_of_le (val_lt ha) (show _ ≤ 4294967296 ^ 40 from Nat.pow_le_pow_right (by omega) h4)
  refine ⟨by unfold lowS; rw [if_pos hm], ⟨_, by unfold rightS; rw [if_pos hm, if_neg (by omega)], dig_len_le (by omega) (Nat.lt_of_le_of_lt (Nat.div_le_self _ _) hva), ?_⟩, ?_⟩
  · rw [Int.toNat_natCast]
    rcases Nat.eq_zero_or_pos a.length with h | h
    · exact Or.inl h
    · right
      have h0 := canon_val_pos (B := 4294967296) (by omega) (mayB_canon hm) h
      obtain ⟨m, hm2⟩ := lowN_spec h0
      have hd : val 4294967296 a / 2 ^ lowN (val 4294967296 a) = 2 * m + 1 := by
        exact div_low hm2
      rw [hd, dig_pos (by omega) (by omega)]
      exact ⟨_, _, rfl, Nat.mod_lt _ (by omega), by omega⟩
  · rcases Nat.eq_zero_or_pos (val 4294967296 a) with h0 | h0
    · rw [h0]
      decide
    · obtain ⟨m, hm2⟩ := lowN_spec h0
      have h1 : 2 ^ lowN (val 4294967296 a) ≤ val 4294967296 a := by
        conv => rhs; rw [hm2]
        exact Nat.le_mul_of_pos_right _ (by omega)
      have h2 := Nat.lt_of_le_of_lt h1 hva
      rw [pow32] at h2
      obtain ⟨E, hE⟩ : ∃ E, 32 * 40 = E := ⟨_, rfl⟩
      rw [hE] at h2
      have := (Nat.pow_lt_pow_iff_right (a := 2) (by omega)).1 h2
      omega
theorem bad_low {a : List Nat} (hm : mayB a = false) (k : Int) : leftS a k = ([], 8) ∧ lowS a = (0, 8) ∧ mayE a = 8 := by
  unfold leftS lowS mayE
  rw [hm]
  exact ⟨rfl, rfl, rfl⟩
end Go.Proofs.YtaklmkjldmbleaaDoor
