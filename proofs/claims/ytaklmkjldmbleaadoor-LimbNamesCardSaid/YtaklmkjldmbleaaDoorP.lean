/- Limb's Door: plain laws of sums, products, quotients and shifts. -/
import Derived.Test.YtaklmkjldmbleaaDoorH
import Derived.Test.YtaklmkjldmbleaaDoorW
namespace Go.Proofs.YtaklmkjldmbleaaDoor
open Go.ChangeShapes Go.WideShapes Go.ChangeAt Go.RowKit
set_option linter.unusedSimpArgs false
set_option linter.unusedVariables false
theorem both_comm (a b : List Nat) : both a b = both b a := Bool.and_comm _ _
theorem addS_comm (a b : List Nat) : addS a b = addS b a := by unfold addS; rw [both_comm a b, Nat.add_comm]
theorem mulS_comm (a b : List Nat) : mulS a b = mulS b a := by unfold mulS; rw [both_comm a b, Nat.mul_comm]
theorem overS_ok {N : Nat} {L : List Nat} (h : overS N = (L, 0)) : L = dig 4294967296 N ∧ L.length ≤ 40 := by
  unfold overS at h
  split at h
  · rename_i h1
    injection h with h _
    subst h
    exact ⟨rfl, h1⟩
  · injection h with _ h
    exact absurd h (by decide)
theorem overS_lt (N : Nat) : ∀ x ∈ (overS N).1, x < 4294967296 := by
  unfold overS
  split
  · exact dig_lt (by omega) N
  · intro x hx; cases hx
theorem overS_fit {N : Nat} (h : N < 4294967296 ^ 40) : overS N = (dig 4294967296 N, 0) := by
  unfold overS
  rw [if_pos (dig_len_le (by omega) h)]
theorem mayB_dig {N : Nat} (h : (dig 4294967296 N).length ≤ 40) : mayB (dig 4294967296 N) = true := by
  unfold mayB
  exact decide_eq_true ⟨h, dig_canon (by omega) N⟩
theorem both_true {a b : List Nat} (h : both a b = true) : mayB a = true ∧ mayB b = true := by
  unfold both at h
  simpa using h
theorem addS_ok {a b L : List Nat} (h : addS a b = (L, 0)) : both a b = true ∧ L = dig 4294967296 (val 4294967296 a + val 4294967296 b) ∧ L.length ≤ 40 := by
  unfold addS at h
  split at h
  · rename_i h1
    exact ⟨h1, overS_ok h⟩
  · injection h with _ h
    exact absurd h (by decide)
theorem mulS_ok {a b L : List Nat} (h : mulS a b = (L, 0)) : both a b = true ∧ L = dig 4294967296 (val 4294967296 a * val 4294967296 b) ∧ L.length ≤ 40 := by
  unfold mulS at h
  split at h
  · rename_i h1
    exact ⟨h1, overS_ok h⟩
  · injection h with _ h
    exact absurd h (by decide)
theorem addS_lt (a b : List Nat) : ∀ x ∈ (addS a b).1, x < 4294967296 := by
  unfold addS
  split
  · exact overS_lt _
  · intro x hx; cases hx
theorem mulS_lt (a b : List Nat) : ∀ x ∈ (mulS a b).1, x < 4294967296 := by
  unfold mulS
  split
  · exact overS_lt _
  · intro x hx; cases hx
theorem mulS_len (a b : List Nat) : (mulS a b).1.length ≤ 40 := by unfold mulS; split; exact over_len _; simp
theorem val_zero_len {b : List Nat} (h : mayB b = true) : val 4294967296 b = 0 ↔ b.length = 0 := by
  constructor
  · intro h0
    rcases Nat.eq_zero_or_pos b.length with h1 | h1
    · exact h1
    · have := canon_val_pos (B := 4294967296) (by omega) (mayB_canon h) h1
      omega
  · intro h0
    rw [List.eq_nil_of_length_eq_zero h0, val_nil]
/-- A difference undoes a sum; a sum is not below. -/
theorem sums_back {a b L : List Nat} (ha : ∀ x ∈ a, x < 4294967296) (h : addS a b = (L, 0)) : subS L b = (a, 0) ∧ ∃ C : Int, cmpS L a = (C, 0) ∧ 0 ≤ C ∧ (C = 0 ↔ b.length = 0) := by
  obtain ⟨hb, hL, h40⟩ := addS_ok h
  obtain ⟨h1, h2⟩ := both_true hb
  have hmL : mayB L = true := by rw [hL] at h40 ⊢; exact mayB_dig h40
  have hv : val 4294967296 L = val 4294967296 a + val 4294967296 b := by rw [hL, val_dig (by omega)]
  have hz := val_zero_len h2
  refine ⟨?_, ?_⟩
  · unfold subS
    rw [show both L b = true by unfold both; rw [hmL, h2]; rfl, if_pos rfl, hv, if_neg (by omega), Nat.add_sub_cancel, ← canon_eq (by omega) ha (mayB_canon h1)]
  · refine ⟨cmpI (val 4294967296 L) (val 4294967296 a), ?_, ?_⟩
    · unfold cmpS
      rw [show both L a = true by unfold both; rw [hmL, h1]; rfl, if_pos rfl]
    · rw [hv]
      unfold cmpI
      rw [if_neg (by omega)]
      by_cases h0 : val 4294967296 b = 0
      · rw [if_neg (by omega)]
        exact ⟨by omega, fun _ => hz.1 h0, fun _ => rfl⟩
      · rw [if_pos (by omega)]
        exact ⟨by omega, fun h => absurd h (by decide), fun h => absurd (hz.2 h) h0⟩
/-- A product by a sum is the sum of products. -/
theorem sums_mul {a b c L s t u v : List Nat} (h : addS a b = (L, 0)) (h1 : mulS L c = (s, 0)) (h2 : mulS a c = (t, 0)) (h3 : mulS b c = (u, 0)) (h4 : addS t u = (v, 0)) : s = v := by
  obtain ⟨_, hL, _⟩ := addS_ok h
  obtain ⟨_, hs, _⟩ := mulS_ok h1
  obtain ⟨_, ht, _⟩ := mulS_ok h2
  obtain ⟨_, hu, _⟩ := mulS_ok h3
  obtain ⟨_, hv, _⟩ := addS_ok h4
  rw [hs, hv, hL, ht, hu, val_dig (by omega), val_dig (by omega), val_dig (by omega), Nat.add_mul]
theorem divS_bad {a b q r : List Nat} {e : Int} (h : divS a b = (q, r, e)) (he : e ≠ 0) : q = [] ∧ r = [] := by
  unfold divS at h
  split at h
  · split at h
    · injection h with h1 h
      injection h with h2 h
      exact ⟨h1.symm, h2.symm⟩
    · injection h with h1 h
      injection h with h2 h
      exact absurd h.symm he
  · injection h with h1 h
    injection h with h2 h
    exact ⟨h1.symm, h2.symm⟩
/-- Quotient and rest make the number. -/
theorem parts {a b q r : List Nat} (ha : ∀ x ∈ a, x < 4294967296) (h : divS a b = (q, r, 0)) : (∀ x ∈ q, x < 4294967296) ∧ (∀ x ∈ r, x < 4294967296) ∧ q.length ≤ 40 ∧ r.length ≤ 40 ∧ cmpS r b = (-1, 0) ∧ ∃ p, mulS q b = (p, 0) ∧ (∀ x ∈ p, x < 4294967296) ∧ p.length ≤ 40 ∧ addS p r = (a, 0) := by
  unfold divS at h
  split at h
  · rename_i hb
    split at h
    · injection h with h1 h
      injection h with h2 h
      exact absurd h (by decide)
    · rename_i hl
      injection h with h1 h
      injection h with h2 h
      obtain ⟨m1, m2⟩ := both_true hb
      have hvb : 0 < val 4294967296 b := canon_val_pos (by omega) (mayB_canon m2) (by omega)
      have hva := Nat.lt_of_lt_of_le (val_lt ha) (show _ ≤ 4294967296 ^ 40 from Nat.pow_le_pow_right (by omega) (mayB_len m1))
      have hq40 : q.length ≤ 40 := by rw [← h1]; exact dig_len_le (by omega) (Nat.lt_of_le_of_lt (Nat.div_le_self _ _) hva)
      have hr40 : r.length ≤ 40 := by rw [← h2]; exact dig_len_le (by omega) (Nat.lt_of_le_of_lt (Nat.mod_le _ _) hva)
      have mq : mayB q = true := by rw [← h1] at hq40 ⊢; exact mayB_dig hq40
      have mr : mayB r = true := by rw [← h2] at hr40 ⊢; exact mayB_dig hr40
      have vq : val 4294967296 q = val 4294967296 a / val 4294967296 b := by rw [← h1, val_dig (by omega)]
      have vr : val 4294967296 r = val 4294967296 a % val 4294967296 b := by rw [← h2, val_dig (by omega)]
      have hle : val 4294967296 a / val 4294967296 b * val 4294967296 b ≤ val 4294967296 a := Nat.div_mul_le_self _ _
      have hp := overS_fit (Nat.lt_of_le_of_lt hle hva)
      have hp40 : (dig 4294967296 (val 4294967296 a / val 4294967296 b * val 4294967296 b)).length ≤ 40 := dig_len_le (by omega) (Nat.lt_of_le_of_lt hle hva)
      refine ⟨by rw [← h1]; exact dig_lt (by omega) _, by rw [← h2]; exact dig_lt (by omega) _, hq40, hr40, ?_, dig 4294967296 (val 4294967296 a / val 4294967296 b * val 4294967296 b), ?_, dig_lt (by omega) _, hp40, ?_⟩
      · unfold cmpS
        rw [show both r b = true by unfold both; rw [mr, m2]; rfl, if_pos rfl, vr]
        unfold cmpI
        rw [if_pos (Nat.mod_lt _ hvb)]
      · unfold mulS
        rw [show both q b = true by unfold both; rw [mq, m2]; rfl, if_pos rfl, vq, hp]
      · unfold addS
        rw [show both (dig 4294967296 (val 4294967296 a / val 4294967296 b * val 4294967296 b)) r = true by unfold both; rw [mr, mayB_dig hp40]; rfl, if_pos rfl, val_dig (by omega), vr, Nat.mul_comm, Nat.div_add_mod, overS_fit hva, ← canon_eq (by omega) ha (mayB_canon m1)]
  · injection h with h1 h
    injection h with h2 h
    exact absurd h (by decide)
end Go.Proofs.YtaklmkjldmbleaaDoor
