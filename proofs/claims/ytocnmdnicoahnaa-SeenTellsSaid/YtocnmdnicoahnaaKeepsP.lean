/- Seen: what a number that was put turns: of lists, no program in sight. -/
import Derived.Test.YtocnmdnicoahnaaG
namespace Go.Proofs.Ytocnmdnicoahnaa
open Go.ChangeShapes Go.WideShapes Go.ChangeAt Go.RowKit
set_option linter.unusedSimpArgs false
set_option linter.unusedVariables false
theorem ins_mem {l : List Int} {k : Nat} {t o : Int} : o ∈ ins l k t ↔ o ∈ l ∨ o = t := by
  have e : o ∈ l ↔ o ∈ l.take k ∨ o ∈ l.drop k := by
    conv => lhs; rw [← List.take_append_drop k l]
    exact List.mem_append
  unfold ins
  rw [List.mem_append, List.mem_cons, e]
  constructor
  · rintro (h | h | h)
    · exact Or.inl (Or.inl h)
    · exact Or.inr h
    · exact Or.inl (Or.inr h)
  · rintro ((h | h) | h)
    · exact Or.inl h
    · exact Or.inr (Or.inr h)
    · exact Or.inr (Or.inl h)
theorem ins_lo {l : List Int} {k i : Nat} {t : Int} (hk : k ≤ l.length) (h : i < k) : (ins l k t).getD i 0 = l.getD i 0 := by
  unfold ins
  rw [List.getD_eq_getElem?_getD, List.getD_eq_getElem?_getD, List.getElem?_append_left (by simp; omega), List.getElem?_take_of_lt h]
theorem ins_at {l : List Int} {k : Nat} {t : Int} (hk : k ≤ l.length) : (ins l k t).getD k 0 = t := by
  unfold ins
  have hlt : (l.take k).length = k := by simp; omega
  rw [List.getD_eq_getElem?_getD, List.getElem?_append_right (by omega), hlt, Nat.sub_self]
  rfl
theorem ins_hi {l : List Int} {k i : Nat} {t : Int} (hk : k ≤ l.length) (h : k ≤ i) : (ins l k t).getD (i + 1) 0 = l.getD i 0 := by
  unfold ins
  have hlt : (l.take k).length = k := by simp; omega
  rw [List.getD_eq_getElem?_getD, List.getD_eq_getElem?_getD, List.getElem?_append_right (by omega), hlt, show i + 1 - k = (i - k) + 1 by omega, List.getElem?_cons_succ, List.getElem?_drop, show k + (i - k) = i by omega]
theorem ins_good {l : List Int} {k : Nat} {t : Int} (hg : Good l l.length) (hb : IsBelow l t k) (hno : t ∉ l) (h0 : 0 ≤ t) (h1 : t ≤ 1048575) : Good (ins l k t) (l.length + 1) := by
  obtain ⟨hk, hlo, hhi⟩ := hb
  have hne : ∀ i, i < l.length → l.getD i 0 ≠ t := fun i hi e => hno (mem_getD.mpr ⟨i, hi, e⟩)
  intro j hj
  rcases Nat.lt_trichotomy j k with h | h | h
  · have := hg j (by omega)
    rw [ins_lo hk h]
    refine ⟨?_, this.2⟩
    unfold prev at *
    split
    · rename_i hj0
      rw [if_pos hj0] at this
      exact this.1
    · rename_i hj0
      rw [if_neg hj0] at this
      rw [ins_lo hk (by omega)]
      exact this.1
  · subst h
    rw [ins_at hk]
    refine ⟨?_, h1⟩
    unfold prev
    split
    · omega
    · rw [ins_lo hk (by omega)]
      exact hlo _ (by omega)
  · obtain ⟨i, rfl⟩ : ∃ i, j = i + 1 := ⟨j - 1, by omega⟩
    rw [ins_hi hk (by omega), prev_succ]
    have hi := hg i (by omega)
    refine ⟨?_, hi.2⟩
    rcases Nat.lt_or_ge k i with h2 | h2
    · obtain ⟨m, rfl⟩ : ∃ m, i = m + 1 := ⟨i - 1, by omega⟩
      rw [ins_hi hk (by omega)]
      have := hi.1
      rw [prev_succ] at this
      exact this
    · obtain rfl : i = k := by omega
      rw [ins_at hk]
      have h3 := hhi i (Nat.le_refl _) (by omega)
      have h4 := hne i (by omega)
      omega
theorem ins_chk {l : List Int} {k : Nat} {t : Int} (hc : chkL l = 0) (hn : l.length < 4096) (hb : IsBelow l t k) (hno : t ∉ l) (h0 : 0 ≤ t) (h1 : t ≤ 1048575) : chkL (ins l k t) = 0 := by
  obtain ⟨hm, hg⟩ := chk_zero hc
  unfold chkL
  rw [ins_len hb.1, if_neg (by omega), if_pos (ins_good hg hb hno h0 h1)]
theorem below_one {l : List Int} {t : Int} {a b : Nat} (ha : IsBelow l t a) (hb : IsBelow l t b) : a = b := by
  rcases Nat.lt_trichotomy a b with h | h | h
  · have h1 := hb.2.1 a h
    have h2 := ha.2.2 a (Nat.le_refl _) (by have := hb.1; omega)
    omega
  · exact h
  · have h1 := ha.2.1 b h
    have h2 := hb.2.2 b (Nat.le_refl _) (by have := ha.1; omega)
    omega
theorem below_ins {l : List Int} {t o : Int} {k c : Nat} (hb : IsBelow l t k) (hc : IsBelow l o c) : IsBelow (ins l k t) o (c + if t < o then 1 else 0) := by
  obtain ⟨hk, hlo, hhi⟩ := hb
  obtain ⟨hc0, hcl, hch⟩ := hc
  unfold IsBelow
  rw [ins_len hk]
  have get : ∀ i, i < l.length + 1 → (ins l k t).getD i 0 = if i < k then l.getD i 0 else if i = k then t else l.getD (i - 1) 0 := fun i hi => by
    split
    · exact ins_lo hk (by assumption)
    · split
      · rename_i h; subst h; exact ins_at hk
      · obtain ⟨m, rfl⟩ : ∃ m, i = m + 1 := ⟨i - 1, by omega⟩
        rw [ins_hi hk (by omega)]
        simp
  by_cases hto : t < o
  · rw [if_pos hto]
    have hkc : k ≤ c := by
      rcases Nat.lt_or_ge c k with h | h
      · have h1 := hlo c h
        have h2 := hch c (Nat.le_refl _) (by omega)
        omega
      · exact h
    refine ⟨by omega, fun i hi => ?_, fun i h1 h2 => ?_⟩
    · rw [get i (by omega)]
      split
      · exact hcl i (by omega)
      · split
        · exact hto
        · exact hcl (i - 1) (by omega)
    · rw [get i h2, if_neg (by omega), if_neg (by omega)]
      exact hch (i - 1) (by omega) (by omega)
  · rw [if_neg hto, Nat.add_zero]
    have hkc : c ≤ k := by
      rcases Nat.lt_or_ge k c with h | h
      · have h1 := hcl k h
        have h2 := hhi k (Nat.le_refl _) (by omega)
        omega
      · exact h
    refine ⟨by omega, fun i hi => ?_, fun i h1 h2 => ?_⟩
    · rw [get i (by omega), if_pos (by omega)]
      exact hcl i hi
    · rw [get i h2]
      split
      · exact hch i h1 (by omega)
      · split
        · omega
        · exact hch (i - 1) (by omega) (by omega)
end Go.Proofs.Ytocnmdnicoahnaa
