/- Ether: what spoiling leaves and what it changes, in plain Lean. -/
import Derived.Test.YtbiodoeimbfbnaaDoorP
namespace Go.Proofs.YtbiodoeimbfbnaaDoor
open Go.ChangeShapes Go.WideShapes Go.ChangeAt Go.RowKit
set_option linter.unusedSimpArgs false
set_option linter.unusedVariables false
/-- A text's bit. -/
def bt (t : List Nat) (j : Nat) : Bool := (t.getD (j / 8) 0).testBit (j % 8)
theorem bt_flip {t : List Nat} {q : Nat} (hq : q / 8 < t.length) (j : Nat) : bt (flipAt t q) j = (bt t j ^^ decide (j = q)) := by
  unfold bt flipAt
  by_cases h : q / 8 = j / 8
  · rw [h, List.getD_eq_getElem?_getD, List.getElem?_set_self (by omega)]
    simp only [Option.getD_some, Nat.testBit_xor, Nat.testBit_two_pow]
    congr 1
    exact decide_eq_decide.2 (by omega)
  · rw [List.getD_eq_getElem?_getD, List.getElem?_set_ne h, ← List.getD_eq_getElem?_getD, decide_eq_false (show ¬ j = q by intro e; exact h (by rw [e]))]
    simp
theorem bt_turn (p k0 : Nat) : ∀ (ks t : List Nat), k0 ∉ ks → (∀ k ∈ ks, p + k < 8 * t.length) → bt (turnBy p t ks) (p + k0) = bt t (p + k0)
  | [], _, _, _ => rfl
  | k :: ks, t, hn, hf => by
    have h1 : p + k < 8 * t.length := hf k (by simp)
    have e : turnBy p t (k :: ks) = turnBy p (flipAt t (p + k)) ks := rfl
    rw [e, bt_turn p k0 ks _ (fun h => hn (by simp [h])) (fun k' hk' => by rw [flip_len]; exact hf k' (by simp [hk'])), bt_flip (by omega), decide_eq_false (show ¬ p + k0 = p + k by intro e; exact hn (by rw [show k0 = k by omega]; simp))]
    simp
theorem turned_ne {t : List Nat} {p m : Nat} (hm : m < 4294967296) (h0 : m ≠ 0) (hf : ∀ k, m.testBit k = true → p + k < 8 * t.length) : turned t p m ≠ t := by
  intro e
  have hn : (bitsOf m).Nodup := List.Nodup.sublist List.filter_sublist List.nodup_range
  have hin : ∀ k ∈ bitsOf m, m.testBit k = true := fun k hk => (List.mem_filter.1 hk).2
  obtain ⟨hs, _⟩ := bits_step hm h0
  have e1 : bt (turned t p m) (p + Lib.ctz 32 m) = bt t (p + Lib.ctz 32 m) := by rw [e]
  unfold turned at e1
  generalize Lib.ctz 32 m = k0 at hs e1
  rw [hs] at e1 hn hin
  have h1 : p + k0 < 8 * t.length := hf k0 (hin k0 (by simp))
  have e2 : turnBy p t (k0 :: bitsOf (m &&& (m - 1))) = turnBy p (flipAt t (p + k0)) (bitsOf (m &&& (m - 1))) := rfl
  rw [e2, bt_turn p k0 _ _ (List.nodup_cons.1 hn).1 (fun k hk => by rw [flip_len]; exact hf k (hin k (by simp [hk]))), bt_flip (by omega)] at e1
  simp at e1
theorem chk_mem {l : List Cp} (h : chkE l = 0) {x : Cp} (hx : x ∈ l) : mayOf x = true := by
  unfold chkE at h
  split at h
  · exact absurd h (by decide)
  · split at h
    · rename_i h1
      exact List.all_eq_true.1 h1 x hx
    · exact absurd h (by decide)
theorem chk_of {l : List Cp} (hl : l.length ≤ 16) (h : ∀ x ∈ l, mayOf x = true) : chkE l = 0 := by
  unfold chkE
  rw [if_neg (by omega), if_pos (List.all_eq_true.2 h)]
theorem chk_set {l : List Cp} {k : Nat} {c c' : Cp} (h : chkE l = 0) (hc : l[k]? = some c) (hm : mayOf c' = mayOf c) : chkE (l.set k c') = 0 := by
  refine chk_of (by rw [List.length_set]; exact chk_len h) (fun x hx => ?_)
  rcases List.mem_or_eq_of_mem_set hx with h1 | h1
  · exact chk_mem h h1
  · subst h1
    rw [hm]
    exact chk_mem h (List.mem_of_getElem? hc)
/-- What it is for spoiling to come off. -/
theorem spl_ok {l S : List Cp} {i a : Int} {m : Nat} {E : Int} (h : splS l i a m = (S, E)) : (E ≠ 0 ∧ S = []) ∨ (E = 0 ∧ ∃ (k p : Nat) (num dn : Int) (txt : List Nat), i = k ∧ a = p ∧ l[k]? = some ⟨num, dn, txt, false⟩ ∧ k < l.length ∧ chkE l = 0 ∧ fitB txt.length (p : Int) m = true ∧ S = l.set k ⟨num, dn, turned txt p m, true⟩) := by
  by_cases hE : chkE l = 0
  rotate_left
  · rw [spl_err rfl hE] at h
    injection h with h1 h2
    exact Or.inl ⟨by rw [← h2]; exact hE, h1.symm⟩
  by_cases hi : i < 0 ∨ (l.length : Int) ≤ i
  · rw [spl_out hE hi] at h
    injection h with h1 h2
    exact Or.inl ⟨by rw [← h2]; decide, h1.symm⟩
  obtain ⟨k, rfl⟩ : ∃ k : Nat, i = k := ⟨i.toNat, by omega⟩
  obtain ⟨x, hx⟩ : ∃ x, l[k]? = some x := ⟨_, List.getElem?_eq_getElem (by omega)⟩
  rw [spl_in hE hx] at h
  split at h
  · rename_i hf
    split at h
    · injection h with h1 h2
      exact Or.inl ⟨by rw [← h2]; decide, h1.symm⟩
    · rename_i hs
      injection h with h1 h2
      obtain ⟨num, dn, txt, sp⟩ := x
      have hsp : sp = false := by simpa using hs
      subst hsp
      have ha : 0 ≤ a := by unfold fitB at hf; simp only [decide_eq_true_eq] at hf; exact hf.2.1
      obtain ⟨p, rfl⟩ : ∃ p : Nat, a = p := ⟨a.toNat, by omega⟩
      exact Or.inr ⟨h2.symm, k, p, num, dn, txt, rfl, rfl, hx, by omega, hE, hf, by rw [← h1]; rfl⟩
  · injection h with h1 h2
    exact Or.inl ⟨by rw [← h2]; decide, h1.symm⟩
section
variable {l : List Cp} {k p m : Nat} {num dn : Int} {txt : List Nat}
theorem spl_twice (hE : chkE l = 0) (hk : l[k]? = some ⟨num, dn, txt, false⟩) (hkl : k < l.length) (hf : fitB txt.length (p : Int) m = true) : splS (l.set k ⟨num, dn, turned txt p m, true⟩) (k : Int) (p : Int) m = ([], 12) := by
  rw [spl_in (chk_set hE hk (by unfold mayOf; simp only [turned_len])) (c := ⟨num, dn, turned txt p m, true⟩) (by rw [List.getElem?_set_self hkl]), if_pos (by simp only [turned_len]; exact hf), if_pos rfl]
theorem dbl_of (hE : chkE l = 0) {c : Cp} (hk : l[k]? = some c) : dblS l (k : Int) = if l.length = 16 then ([], 9) else (l ++ [c], 0) := by
  rw [dbl_in hE hk]
  unfold sndS
  rw [if_pos hE, if_pos (chk_mem hE (List.mem_of_getElem? hk))]
theorem chk_more (hE : chkE l = 0) {c : Cp} (hk : l[k]? = some c) (h16 : l.length ≠ 16) : chkE (l ++ [c]) = 0 := by
  refine chk_of (by have := chk_len hE; simp; omega) (fun x hx => ?_)
  rcases List.mem_append.1 hx with h | h
  · exact chk_mem hE h
  · rw [List.mem_singleton.1 h]
    exact chk_mem hE (List.mem_of_getElem? hk)
theorem spl_double (hE : chkE l = 0) (hk : l[k]? = some ⟨num, dn, txt, false⟩) (hkl : k < l.length) (hf : fitB txt.length (p : Int) m = true) (h16 : l.length ≠ 16) : splS (l ++ [⟨num, dn, txt, false⟩]) (k : Int) (p : Int) m = (l.set k ⟨num, dn, turned txt p m, true⟩ ++ [⟨num, dn, txt, false⟩], 0) := by
  rw [spl_in (chk_more hE hk h16) (c := ⟨num, dn, txt, false⟩) (by rw [List.getElem?_append_left hkl]; exact hk), if_pos hf, if_neg (by simp)]
  rw [show (p : Int).toNat = p by simp, List.set_append_left _ _ hkl]
end
end Go.Proofs.YtbiodoeimbfbnaaDoor
