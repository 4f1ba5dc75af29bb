/- Dyads: what they are worth; the one form of a worth (plain) | Door: digits of a number shifted to the right; how long it is (plain) -/
import Derived.Test.YtdmjdpaehnhdoaaDoorDL
import Derived.Test.YtdmjdpaehnhdoaaDoorLKM
namespace Go.Proofs.YtdmjdpaehnhdoaaDoor
open Go.ChangeShapes Go.WideShapes Go.ChangeAt Go.RowKit
set_option linter.unusedSimpArgs false
set_option linter.unusedVariables false
/-- How often 2 goes into a number, so often at most. -/
def tzk : Nat → Nat → Nat
  | 0, _ => 0
  | k + 1, n => if n % 2 = 0 then tzk k (n / 2) + 1 else 0
theorem tzk_le : ∀ k n, tzk k n ≤ k
  | 0, _ => Nat.le_refl _
  | k + 1, n => by
    unfold tzk
    split
    · have := tzk_le k (n / 2); omega
    · omega
theorem tzk_mul (k n : Nat) : ∀ j, tzk (k + j) (n * 2 ^ j) = tzk k n + j
  | 0 => by simp
  | j + 1 => by
    rw [← Nat.add_assoc]
    have e : n * 2 ^ (j + 1) = n * 2 ^ j * 2 := by rw [Nat.pow_succ, Nat.mul_assoc]
    rw [tzk, e, if_pos (Nat.mul_mod_left _ _), Nat.mul_div_cancel _ (by decide), tzk_mul k n j, Nat.add_assoc]
theorem tzk_odd {k m : Nat} (h : k = 0 ∨ m % 2 = 1) : tzk k m = 0 := by
  cases k with
  | zero => rfl
  | succ k =>
    rw [tzk, if_neg]
    omega
theorem tzk_uniq {k n m t : Nat} (h : n = m * 2 ^ t) (ht : t ≤ k) (ho : t = k ∨ m % 2 = 1) : tzk k n = t := by
  have h1 := tzk_mul (k - t) m t
  rw [show k - t + t = k by omega, ← h, tzk_odd (ho.imp (fun e => by omega) id)] at h1
  omega
theorem tzk_dvd : ∀ k n, n = n / 2 ^ tzk k n * 2 ^ tzk k n
  | 0, n => by simp [tzk]
  | k + 1, n => by
    unfold tzk
    split
    · rename_i h
      have := tzk_dvd k (n / 2)
      rw [Nat.pow_succ, Nat.mul_comm (2 ^ tzk k (n / 2)) 2, ← Nat.div_div_eq_div_mul, Nat.mul_comm 2, ← Nat.mul_assoc, ← this]
      omega
    · simp
theorem tzk_end (k n : Nat) : tzk k n = k ∨ (n / 2 ^ tzk k n) % 2 = 1 := by
  induction k generalizing n with
  | zero => exact .inl rfl
  | succ k ih =>
    unfold tzk
    split
    · rename_i h
      rcases ih (n / 2) with h1 | h1
      · exact .inl (by rw [h1])
      · refine .inr ?_
        rw [Nat.pow_succ, Nat.mul_comm (2 ^ tzk k (n / 2)) 2, ← Nat.div_div_eq_div_mul]
        exact h1
    · refine .inr ?_
      simp
      omega
abbrev LB : Nat := 4294967296
def okd (d : Dy) : Prop := mayd d = true ∧ ∀ x ∈ d.ls, x < LB
def zdy : Dy := ⟨false, [], 0⟩
/-- A number at an exponent as a dyad of one form, if it may be. -/
def formE (neg : Bool) (V e : Nat) : Option Dy :=
  if V = 0 then some zdy else if 40 < (dig LB (V / 2 ^ tzk e V)).length then none else some ⟨neg, dig LB (V / 2 ^ tzk e V), ((e - tzk e V : Nat) : Int)⟩
def sgn (neg : Bool) (n : Nat) : Int := if neg then -(n : Int) else (n : Int)
/-- A dyad's worth, in parts of 2^-1024. -/
def worth (d : Dy) : Int := sgn d.neg (val LB d.ls * 2 ^ (1024 - d.ex.toNat))
def form (z : Int) : Option Dy := formE (decide (z < 0)) z.natAbs 1024
theorem sgn_abs (neg : Bool) (n : Nat) : (sgn neg n).natAbs = n := by unfold sgn; cases neg <;> simp
theorem sgn_neg {neg : Bool} {n : Nat} (h : 0 < n) : decide (sgn neg n < 0) = neg := by unfold sgn; cases neg <;> simp <;> omega
theorem formE_up {neg : Bool} {V e : Nat} (he : e ≤ 1024) : formE neg V e = form (sgn neg (V * 2 ^ (1024 - e))) := by
  unfold form
  rw [sgn_abs]
  have hp : 0 < 2 ^ (1024 - e) := Nat.pow_pos (by decide)
  rcases Nat.eq_zero_or_pos V with h | h
  · subst h
    unfold formE
    rw [if_pos rfl, if_pos (by simp)]
  · have hpos : 0 < V * 2 ^ (1024 - e) := Nat.mul_pos h hp
    rw [sgn_neg hpos]
    have hl := tzk_mul e V (1024 - e)
    rw [show e + (1024 - e) = 1024 by omega] at hl
    unfold formE
    rw [if_neg (show ¬ V = 0 by omega), if_neg (show ¬ V * 2 ^ (1024 - e) = 0 by omega), hl, Nat.pow_add, Nat.mul_div_mul_right _ _ hp, show 1024 - (tzk e V + (1024 - e)) = e - tzk e V by omega]
theorem val_mod2 : ∀ l : List Nat, val LB l % 2 = l.getD 0 0 % 2
  | [] => rfl
  | x :: r => by
    rw [val_cons, List.getD_cons_zero]
    show (x + 4294967296 * val LB r) % 2 = x % 2
    omega
theorem mayd_parts {d : Dy} (h : mayd d = true) : d.ls.length ≤ 40 ∧ Canon d.ls ∧ 0 ≤ d.ex ∧ d.ex ≤ 1024 ∧ (d.ls = [] → d = zdy) ∧ (d.ls ≠ [] → d.ex = 0 ∨ d.ls.getD 0 0 % 2 = 1) := by
  unfold mayd mayD mayL at h
  simp only [Bool.and_eq_true, decide_eq_true_eq, List.length_map] at h
  obtain ⟨⟨h1, h2⟩, h3, h4, h5, h6⟩ := h
  have g : ∀ i, (d.ls.map Int.ofNat).getD i 0 = ((d.ls.getD i 0 : Nat) : Int) := fun i => by
    simp only [List.getD_eq_getElem?_getD, List.getElem?_map]
    cases d.ls[i]? <;> rfl
  refine ⟨h1, ?_, h3, h4, ?_, ?_⟩
  · unfold Canon
    rcases h2 with h2 | h2
    · exact .inl h2
    · rw [g] at h2
      exact .inr (fun e => h2 (by rw [e]; rfl))
  · intro e
    obtain ⟨a, b⟩ := h5 (by rw [e]; rfl)
    obtain ⟨ng, ls, ex⟩ := d
    simp only at e a b
    subst e a b
    rfl
  · intro e
    rcases h6 (by intro h; exact e (List.length_eq_zero_iff.1 h)) with h | h
    · exact .inl h
    · refine .inr ?_
      rw [g, Int.tmod_eq_emod_of_nonneg (Int.natCast_nonneg _)] at h
      omega
theorem mayd_of {d : Dy} (h1 : d.ls.length ≤ 40) (h2 : Canon d.ls) (h3 : 0 ≤ d.ex) (h4 : d.ex ≤ 1024) (h5 : d.ls ≠ []) (h6 : d.ex = 0 ∨ d.ls.getD 0 0 % 2 = 1) : mayd d = true := by
  unfold mayd mayD mayL
  have g : ∀ i, (d.ls.map Int.ofNat).getD i 0 = ((d.ls.getD i 0 : Nat) : Int) := fun i => by
    simp only [List.getD_eq_getElem?_getD, List.getElem?_map]
    cases d.ls[i]? <;> rfl
  have hl : d.ls.length ≠ 0 := fun h => h5 (List.length_eq_zero_iff.1 h)
  simp only [Bool.and_eq_true, decide_eq_true_eq, List.length_map, g]
  refine ⟨⟨h1, ?_⟩, h3, h4, fun h => absurd h hl, fun _ => ?_⟩
  · rcases h2 with h2 | h2
    · exact .inl h2
    · exact .inr (by omega)
  · rcases h6 with h | h
    · exact .inl h
    · refine .inr ?_
      rw [Int.tmod_eq_emod_of_nonneg (Int.natCast_nonneg _)]
      omega
theorem worth_zero : worth zdy = 0 := by
  unfold worth
  rw [show val LB zdy.ls = 0 from rfl, Nat.zero_mul]
  rfl
/-- What is formed may be, and is worth what it was formed of. -/
theorem form_ok {z : Int} {d : Dy} (h : form z = some d) : okd d ∧ worth d = z := by
  unfold form formE at h
  split at h
  · rename_i hz
    injection h with h
    subst h
    refine ⟨⟨by decide, fun x hx => by cases hx⟩, ?_⟩
    rw [worth_zero]
    omega
  · rename_i hz
    split at h
    · cases h
    · rename_i hl
      injection h with h
      subst h
      have hd := tzk_dvd 1024 z.natAbs
      have hle := tzk_le 1024 z.natAbs
      have hen := tzk_end 1024 z.natAbs
      generalize tzk 1024 z.natAbs = t at *
      have hq : 0 < z.natAbs / 2 ^ t := by
        rcases Nat.eq_zero_or_pos (z.natAbs / 2 ^ t) with h | h
        · rw [h] at hd; omega
        · exact h
      have hv := val_dig (B := LB) (by decide) (z.natAbs / 2 ^ t)
      refine ⟨⟨mayd_of (by show (dig LB _).length ≤ 40; omega) (dig_canon (by decide) _) (by show (0 : Int) ≤ ((1024 - t : Nat) : Int); omega) (by show ((1024 - t : Nat) : Int) ≤ 1024; omega) ?_ ?_, dig_lt (by decide) _⟩, ?_⟩
      · show dig LB _ ≠ []
        intro e
        rw [e] at hv
        simp [val] at hv
        omega
      · show ((1024 - t : Nat) : Int) = 0 ∨ (dig LB _).getD 0 0 % 2 = 1
        rw [← val_mod2, hv]
        omega
      · unfold worth
        simp only
        rw [hv, show 1024 - (((1024 - t : Nat) : Int)).toNat = t by omega, ← hd]
        unfold sgn
        by_cases hn : z < 0
        · rw [decide_eq_true hn]; simp; omega
        · rw [decide_eq_false hn]; simp; omega
/-- The sum of two dyads, if it may be. -/
def addD (a b : Dy) : Option Dy := form (worth a + worth b)
end Go.Proofs.YtdmjdpaehnhdoaaDoor
namespace Go.Proofs.YtdmjdpaehnhdoaaDoor
open Go.ChangeShapes Go.WideShapes Go.ChangeAt Go.RowKit
set_option linter.unusedSimpArgs false
set_option linter.unusedVariables false
theorem dig_at : ∀ (i N : Nat), (dig LB N).getD i 0 = N / LB ^ i % LB
  | i, 0 => by rw [dig_zero, Nat.zero_div]; rfl
  | 0, N + 1 => by rw [dig_pos (by decide) (Nat.succ_pos N), List.getD_cons_zero, Nat.pow_zero, Nat.div_one]
  | i + 1, N + 1 => by rw [dig_pos (by decide) (Nat.succ_pos N), List.getD_cons_succ, dig_at i, Nat.div_div_eq_div_mul, ← Nat.pow_succ']
theorem len_dig {N : Nat} (h : 0 < N) : (dig LB N).length = (bl N + 31) / 32 := by
  obtain ⟨m, hm⟩ : ∃ m, (bl N + 31) / 32 = m := ⟨_, rfl⟩
  rw [hm]
  have h1 := bl_lt N
  have h2 := bl_ge h
  have hb : 0 < bl N := by
    rcases Nat.eq_zero_or_pos (bl N) with e | e
    · rw [e] at h1; omega
    · exact e
  have a : N < LB ^ m := by
    rw [pow32]
    exact Nat.lt_of_lt_of_le h1 (Nat.pow_le_pow_right (by decide) (by omega))
  have b : LB ^ (m - 1) ≤ N := by
    rw [pow32]
    exact Nat.le_trans (Nat.pow_le_pow_right (by decide) (by omega)) h2
  have := dig_len_le (B := LB) (by decide) a
  have := dig_len_gt (B := LB) (by decide) b
  omega
theorem bl_shift {V t : Nat} (h : 0 < V) (ht : t < bl V) : bl (V / 2 ^ t) = bl V - t := by
  have h1 := bl_lt V
  have h2 := bl_ge h
  obtain ⟨k, hk⟩ : ∃ k, bl V - t = k + 1 := ⟨bl V - t - 1, by omega⟩
  rw [hk]
  have hp : 0 < 2 ^ t := Nat.pow_pos (by decide)
  refine bl_eq ?_ ?_
  · rw [Nat.le_div_iff_mul_le hp, ← Nat.pow_add, show k + t = bl V - 1 by omega]
    exact h2
  · rw [Nat.div_lt_iff_lt_mul hp, ← Nat.pow_add, show k + 1 + t = bl V by omega]
    exact h1
theorem tzk_min {e V : Nat} (h : 0 < V) : tzk e V = min (lowN V) e := by
  obtain ⟨m, hm⟩ := lowN_spec h
  rcases Nat.le_total (lowN V) e with h1 | h1
  · rw [Nat.min_eq_left h1]
    exact tzk_uniq (m := 2 * m + 1) (by conv => lhs; rw [hm]; rw [Nat.mul_comm]) h1 (.inr (by omega))
  · rw [Nat.min_eq_right h1]
    refine tzk_uniq (m := (2 * m + 1) * 2 ^ (lowN V - e)) ?_ (Nat.le_refl _) (.inl rfl)
    rw [Nat.mul_assoc, ← Nat.pow_add, show lowN V - e + e = lowN V by omega, Nat.mul_comm]
    exact hm
theorem lowN_lt {V : Nat} (h : 0 < V) : lowN V < bl V := by
  obtain ⟨m, hm⟩ := lowN_spec h
  have h1 := bl_lt V
  rcases Nat.lt_or_ge (lowN V) (bl V) with h2 | h2
  · exact h2
  · have h3 := Nat.pow_le_pow_right (show 0 < 2 by decide) h2
    have h4 : 2 ^ lowN V ≤ V := by
      conv => rhs; rw [hm]
      exact Nat.le_mul_of_pos_right _ (by omega)
    omega
theorem val_two {a : List Nat} (ha : ∀ x ∈ a, x < LB) (k : Nat) : val LB (a.drop k) % (LB * LB) = a.getD (k + 1) 0 * LB + a.getD k 0 := by
  have x1 := getD_lt (B := LB) (by decide) ha k
  have x2 := getD_lt (B := LB) (by decide) ha (k + 1)
  have step : ∀ j, val LB (a.drop j) = a.getD j 0 + LB * val LB (a.drop (j + 1)) := fun j => by
    rcases Nat.lt_or_ge j a.length with h | h
    · rw [List.drop_eq_getElem_cons h, val_cons, List.getD_eq_getElem?_getD, List.getElem?_eq_getElem h]; rfl
    · rw [List.drop_eq_nil_of_le h, List.drop_eq_nil_of_le (by omega), List.getD_eq_getElem?_getD, List.getElem?_eq_none h, val_nil]; rfl
  have e : val LB (a.drop k) = (a.getD (k + 1) 0 * LB + a.getD k 0) + LB * LB * val LB (a.drop (k + 1 + 1)) := by
    rw [step k, step (k + 1), Nat.mul_add, ← Nat.mul_assoc, Nat.mul_comm LB (a.getD (k + 1) 0)]
    omega
  rw [e, Nat.add_mul_mod_self_left, Nat.mod_eq_of_lt]
  have : a.getD (k + 1) 0 * LB + LB ≤ LB * LB := by
    rw [← Nat.succ_mul]
    exact Nat.mul_le_mul_right _ x2
  omega
theorem at_dig {a : List Nat} (ha : ∀ x ∈ a, x < LB) (i q r : Nat) (hr : r < 32) : shr1 (a.getD (i + q) 0) (a.getD (i + q + 1) 0) r = (dig LB (val LB a / 2 ^ (32 * q + r))).getD i 0 := by
  have x1 := getD_lt (B := LB) (by decide) ha (i + q)
  rw [dig_at, ← shr1_run x1 hr, ← val_two ha, drop_val ha]
  have e : val LB a / 2 ^ (32 * q + r) / LB ^ i = val LB a / LB ^ (i + q) / 2 ^ r := by
    rw [Nat.div_div_eq_div_mul, Nat.div_div_eq_div_mul, Nat.pow_add, ← pow32, Nat.pow_add]
    congr 1
    rw [Nat.mul_comm (LB ^ i), Nat.mul_assoc, Nat.mul_comm (2 ^ r), Nat.mul_assoc]
  rw [e]
  generalize val LB a / LB ^ (i + q) = T
  have hB : LB = 2 ^ r * 2 ^ (32 - r) := by rw [← Nat.pow_add, show r + (32 - r) = 32 by omega]
  have hT : T = T % (LB * LB) + 2 ^ r * (2 ^ (32 - r) * LB * (T / (LB * LB))) := by
    have h1 := Nat.mod_add_div T (LB * LB)
    have h2 : 2 ^ r * (2 ^ (32 - r) * LB * (T / (LB * LB))) = LB * LB * (T / (LB * LB)) := by
      rw [← Nat.mul_assoc, ← Nat.mul_assoc, ← hB]
    omega
  conv => rhs; rw [hT]
  rw [Nat.add_mul_div_left _ _ (Nat.pow_pos (by decide)), Nat.mul_comm (2 ^ (32 - r)) LB, Nat.mul_assoc, Nat.add_mul_mod_self_left]
theorem ends_low {a : List Nat} {f : Nat} (hf : f < a.length) (h0 : ∀ i, i < f → a.getD i 0 = 0) (hx : a.getD f 0 ≠ 0) (ha : ∀ x ∈ a, x < LB) : lowN (val LB a) = 32 * f + Lib.ctz 32 (a.getD f 0) :=
  low_at h0 hf rfl hx (getD_lt (by decide) ha f)
theorem ends_high {a : List Nat} {m : Nat} (hm : m < a.length) (h0 : ∀ i, m < i → i < a.length → a.getD i 0 = 0) (hx : a.getD m 0 ≠ 0) (ha : ∀ x ∈ a, x < LB) : bl (val LB a) = 32 * m + Lib.bitLen (a.getD m 0) := by
  have h1 := take_all_zero (B := LB) (l := a) (m := m + 1) (by omega) (fun k hk hl => h0 k (by omega) hl)
  have h2 : (a.take (m + 1)).getD m 0 = a.getD m 0 := by
    rw [List.getD_eq_getElem?_getD, List.getD_eq_getElem?_getD, List.getElem?_take, if_pos (by omega)]
  rw [← h1]
  exact bl_top (n := m) (by rw [List.length_take]; omega) (fun x hx => ha x (List.mem_of_mem_take hx)) h2 hx
theorem val_pos {a : List Nat} {m : Nat} (hm : m < a.length) (hx : a.getD m 0 ≠ 0) : 0 < val LB a := by
  have h := val_drop_split LB a m
  have e : val LB (a.drop m) = a.getD m 0 + LB * val LB (a.drop (m + 1)) := by
    rw [List.drop_eq_getElem_cons hm, val_cons, List.getD_eq_getElem?_getD, List.getElem?_eq_getElem hm]; rfl
  have h1 : 0 < val LB (a.drop m) := by rw [e]; omega
  have h2 : 0 < LB ^ min m a.length * val LB (a.drop m) := Nat.mul_pos (Nat.pow_pos (by decide)) h1
  omega
end Go.Proofs.YtdmjdpaehnhdoaaDoor
