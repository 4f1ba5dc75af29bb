/- Frame: a slice of bytes turned into a string; parts of a slice that reads as a list. -/
import Derived.Test.YtjmhefkmpfkpbaaSumW
import Derived.Test.YtjmhefkmpfkpbaaKA
import Derived.Laws.IdiomStrings
import Derived.Lib.BufferRead
import Derived.Laws.Strings
namespace Go.Proofs.Ytjmhefkmpfkpbaa
open Go.ChangeShapes Go.WideShapes Go.ChangeAt Go.RowKit
set_option linter.unusedSimpArgs false
theorem Reads.take_ {w : World} {B n k : Nat} {A : Option Addr} {xs : List Value} (h : Reads w B 1 A n xs) (hk : k ≤ n) : Reads w B 1 A k (xs.take k) := by
  refine ⟨by have := h.1; simp; omega, fun hp => ?_⟩
  obtain ⟨ad, e, hb, hc⟩ := h.2 (by omega)
  refine ⟨ad, e, hb, fun j u hu => hc j u ?_⟩
  rw [List.getElem?_take] at hu
  split at hu
  · exact hu
  · cases hu
/-- The string of bytes. -/
def strOf (l : List Nat) : ByteArray := ⟨(l.map UInt8.ofNat).toArray⟩
theorem strOf_inj {l m : List Nat} (hl : ∀ b ∈ l, b < 256) (hm : ∀ b ∈ m, b < 256) : ((strOf l).toList == (strOf m).toList) = decide (l = m) := by
  have e : ∀ k : List Nat, (strOf k).toList = k.map UInt8.ofNat := fun k => by simp [strOf]
  rw [e, e]
  by_cases h : l = m
  · subst h; simp
  · rw [decide_eq_false h, beq_eq_false_iff_ne]
    intro hh
    apply h
    have := congrArg (List.map UInt8.toNat) hh
    simp only [List.map_map] at this
    have e2 : ∀ k : List Nat, (∀ b ∈ k, b < 256) → k.map (UInt8.toNat ∘ UInt8.ofNat) = k := fun k hk => by
      conv => rhs; rw [← List.map_id k]
      apply List.map_congr_left
      intro b hb
      simp [UInt8.toNat_ofNat', Nat.mod_eq_of_lt (hk b hb)]
    rwa [e2 l hl, e2 m hm] at this
theorem conv_str {w : World} {B n c : Nat} {A : Option Addr} {l : List Nat} (hn : l.length = n) (hl : ∀ b ∈ l, b < 256) (h : Reads w B 1 A n (bytes l)) :
    (convert 34 9 (.slice A n c)).run Try.prog w = .ok (.string (strOf l)) w := by
  subst hn
  rcases A with _ | ad
  · have h0 : l.length = 0 := by
      rcases Nat.eq_zero_or_pos l.length with h0 | h0
      · exact h0
      · obtain ⟨ad, e, _⟩ := h.2 h0; cases e
    have hn : l = [] := List.eq_nil_of_length_eq_zero h0
    subst hn
    exact Lib.run_convert_nil_bytes w 34 9 5 c Try.underlying34 Try.underlying5 Try.underlying9
  · have hc : ∀ j u, (bytes l)[j]? = some u → w.cell? (ad.add j) = some u := by
      intro j u hu
      rcases Nat.eq_zero_or_pos l.length with h0 | h0
      · have hn : l = [] := List.eq_nil_of_length_eq_zero h0
        subst hn
        simp at hu
      · obtain ⟨ad', e, _, hc⟩ := h.2 h0
        injection e with e
        subst e
        exact hc j u hu
    have := run_convert_bytes_back (P := Try.prog) w 34 9 5 ad c (l.map UInt8.ofNat) Try.underlying34 Try.underlying5 Try.underlying9 (fun j hj => by
      have hj' : j < l.length := by simpa using hj
      have hb := hl l[j] (List.getElem_mem hj')
      rw [hc j (.int .u8 (l[j] : Int)) (by simp [List.getElem?_eq_getElem hj'])]
      simp [UInt8.toNat_ofNat', Nat.mod_eq_of_lt hb])
    simpa [strOf] using this
end Go.Proofs.Ytjmhefkmpfkpbaa
