/- Edge: what is in the edge of numbers lies between two of them: of lists, no program in sight. -/
import Derived.Test.YtdibchmhigcaaaaOrderW
import Derived.Test.YtdibchmhigcaaaaT
namespace Go.Proofs.Ytdibchmhigcaaaa.EdgeHolds
open Go.ChangeShapes Go.WideShapes Go.ChangeAt Go.RowKit
open EdgeOrder (jn_assoc js je)
set_option linter.unusedSimpArgs false
set_option linter.unusedVariables false
theorem fld_has (l : List Int) : (l = [] ∧ fld l = (false, 0, 0)) ∨ (l ≠ [] ∧ (fld l).1 = true) := by
  rcases List.eq_nil_or_concat l with h | ⟨r, x, h⟩
  · exact Or.inl ⟨h, by rw [h]; rfl⟩
  · refine Or.inr ⟨by rw [h]; simp, ?_⟩
    rw [h, List.concat_eq_append, fld_snoc]
    rfl
theorem jn_fld_nil (l : List Int) : jn (fld l) (false, 0, 0) = fld l := by
  rcases fld_has l with ⟨_, h⟩ | ⟨_, h⟩
  · rw [h]; rfl
  · unfold jn
    rw [if_neg (by rw [h]; simp), if_pos rfl]
theorem fld_append (l : List Int) : ∀ m : List Int, fld (l ++ m) = jn (fld l) (fld m) := by
  suffices h : ∀ (n : Nat) (m : List Int), m.length = n → fld (l ++ m) = jn (fld l) (fld m) from fun m => h _ m rfl
  intro n
  induction n with
  | zero =>
    intro m hm
    have : m = [] := List.eq_nil_of_length_eq_zero hm
    subst this
    rw [List.append_nil]
    exact (jn_fld_nil l).symm
  | succ n ih =>
    intro m hm
    rcases List.eq_nil_or_concat m with h | ⟨r, x, h⟩
    · subst h; simp at hm
    · rw [List.concat_eq_append] at h
      subst h
      simp at hm
      rw [← List.append_assoc, fld_snoc, fld_snoc, ih r hm, ← jn_one, ← jn_one, jn_assoc]
/-- The least and the greatest. -/
theorem fld_ends_of (l : List Int) (h : l ≠ []) : ∃ a b, fld l = (true, a, b) ∧ a ∈ l ∧ b ∈ l ∧ ∀ y ∈ l, a ≤ y ∧ y ≤ b := by
  suffices hh : ∀ (n : Nat) (m : List Int), m.length = n → m ≠ [] → ∃ a b, fld m = (true, a, b) ∧ a ∈ m ∧ b ∈ m ∧ ∀ y ∈ m, a ≤ y ∧ y ≤ b from hh _ l rfl h
  intro n
  induction n with
  | zero => intro m hm hne; exact absurd (List.eq_nil_of_length_eq_zero hm) hne
  | succ n ih =>
    intro m hm hne
    rcases List.eq_nil_or_concat m with h | ⟨r, x, h⟩
    · exact absurd h hne
    · rw [List.concat_eq_append] at h
      subst h
      simp at hm
      rw [fld_snoc]
      by_cases hr : r = []
      · subst hr
        exact ⟨x, x, by simp [fld, stp, putLo, putHi], by simp, by simp, by simp⟩
      · obtain ⟨a, b, e, ha, hb, hy⟩ := ih r hm hr
        have hab := (hy b hb).1
        rw [e]
        refine ⟨if x < a then x else a, if b < x then x else b, by simp [stp, putLo, putHi], ?_, ?_, ?_⟩
        · split
          · simp
          · simp [ha]
        · split
          · simp
          · simp [hb]
        · intro y hy'
          rcases List.mem_append.mp hy' with h | h
          · have := hy y h
            constructor <;> split <;> omega
          · simp at h
            subst h
            constructor <;> split <;> omega
theorem fld_ok {l : List Int} (h : AllOK l) : St.ok (fld l) := by
  rcases fld_has l with ⟨_, e⟩ | ⟨hne, _⟩
  · rw [e]; exact Or.inr ⟨rfl, rfl, rfl⟩
  · obtain ⟨a, b, e, ha, hb, hy⟩ := fld_ends_of l hne
    rw [e]
    exact Or.inl ⟨rfl, h a ha, h b hb, (hy b hb).1⟩
def dB (l : List Int) (x : Int) : Bool := decide (∃ y ∈ l, y ≤ x)
def dA (l : List Int) (x : Int) : Bool := decide (∃ y ∈ l, x ≤ y)
theorem in_mem {l : List Int} (h : AllOK l) {y : Int} (hy : y ∈ l) : inS (fld l) y = true ∧ inE (fld l) y = 0 := by
  have hne : l ≠ [] := by intro e; subst e; simp at hy
  obtain ⟨a, b, e, ha, hb, hb2⟩ := fld_ends_of l hne
  have := hb2 y hy
  refine ⟨?_, ?_⟩
  · unfold inS
    rw [if_pos ⟨fld_ok h, h y hy⟩, e]
    simp [inB]
    omega
  · unfold inE
    rw [if_pos (fld_ok h), if_pos (h y hy)]
theorem in_val {l : List Int} (h : AllOK l) {x : Int} (hx : ValOK x) : inS (fld l) x = (dB l x && dA l x) ∧ inE (fld l) x = 0 := by
  refine ⟨?_, ?_⟩
  · unfold inS
    rw [if_pos ⟨fld_ok h, hx⟩]
    rcases fld_has l with ⟨hl, e⟩ | ⟨hne, _⟩
    · rw [e]; subst hl; simp [inB, dB]
    · obtain ⟨a, b, e, ha, hb, hb2⟩ := fld_ends_of l hne
      rw [e, Bool.eq_iff_iff]
      simp only [inB, dB, dA, Bool.and_eq_true, decide_eq_true_eq, true_and]
      constructor
      · exact fun hh => ⟨⟨a, ha, hh.1⟩, ⟨b, hb, hh.2⟩⟩
      · rintro ⟨⟨y, hy, h1⟩, ⟨z, hz, h2⟩⟩
        have := hb2 y hy
        have := hb2 z hz
        omega
  · unfold inE
    rw [if_pos (fld_ok h), if_pos hx]
theorem in_arg_ {l : List Int} (h : AllOK l) {x : Int} (hx : ¬ ValOK x) : inS (fld l) x = false ∧ inE (fld l) x = 2 := by
  refine ⟨?_, ?_⟩
  · unfold inS
    rw [if_neg (fun hh => hx hh.2)]
  · unfold inE
    rw [if_pos (fld_ok h), if_neg hx]
theorem dB_snoc (l : List Int) (y x : Int) : dB (l ++ [y]) x = (dB l x || decide (y ≤ x)) := by
  rw [Bool.eq_iff_iff]
  simp only [dB, Bool.or_eq_true, decide_eq_true_eq, List.mem_append, List.mem_singleton]
  constructor
  · rintro ⟨z, hz | rfl, hh⟩
    · exact Or.inl ⟨z, hz, hh⟩
    · exact Or.inr hh
  · rintro (⟨z, hz, hh⟩ | hh)
    · exact ⟨z, Or.inl hz, hh⟩
    · exact ⟨y, Or.inr rfl, hh⟩
theorem dA_snoc (l : List Int) (y x : Int) : dA (l ++ [y]) x = (dA l x || decide (x ≤ y)) := by
  rw [Bool.eq_iff_iff]
  simp only [dA, Bool.or_eq_true, decide_eq_true_eq, List.mem_append, List.mem_singleton]
  constructor
  · rintro ⟨z, hz | rfl, hh⟩
    · exact Or.inl ⟨z, hz, hh⟩
    · exact Or.inr hh
  · rintro (⟨z, hz, hh⟩ | hh)
    · exact ⟨z, Or.inl hz, hh⟩
    · exact ⟨y, Or.inr rfl, hh⟩
theorem all_yes_ {l : List Int} (h : AllOK l) : allS l = fld l ∧ allE l = 0 := ⟨if_pos h, if_pos h⟩
theorem all_no_ {l : List Int} (h : ¬ AllOK l) : allS l = (false, 0, 0) ∧ allE l = 2 := ⟨if_neg h, if_neg h⟩
theorem ok_take {l : List Int} (h : AllOK l) (k : Nat) : AllOK (l.take k) := fun y hy => h y (List.mem_of_mem_take hy)
theorem ok_drop {l : List Int} (h : AllOK l) (k : Nat) : AllOK (l.drop k) := fun y hy => h y (List.mem_of_mem_drop hy)
theorem ok_parts {l : List Int} {k : Nat} (h1 : AllOK (l.take k)) (h2 : AllOK (l.drop k)) : AllOK l := fun y hy => by
  rw [← List.take_append_drop k l] at hy
  rcases List.mem_append.mp hy with h | h
  · exact h1 y h
  · exact h2 y h
theorem join_parts {l : List Int} (k : Nat) (h : AllOK l) : joinS (fld (l.take k)) (fld (l.drop k)) = fld l ∧ joinE (fld (l.take k)) (fld (l.drop k)) = 0 := by
  have e : jn (fld (l.take k)) (fld (l.drop k)) = fld l := by rw [← fld_append, List.take_append_drop]
  exact ⟨js (fld_ok (ok_take h k)) (fld_ok (ok_drop h k)) e, je (fld_ok (ok_take h k)) (fld_ok (ok_drop h k))⟩
end Go.Proofs.Ytdibchmhigcaaaa.EdgeHolds
