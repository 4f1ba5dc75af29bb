/- Seen: two lists that may be and that have the same numbers are one. -/
import Derived.Test.YtocnmdnicoahnaaKeepsP
namespace Go.Proofs.Ytocnmdnicoahnaa
open Go.ChangeShapes Go.WideShapes Go.ChangeAt Go.RowKit
set_option linter.unusedSimpArgs false
set_option linter.unusedVariables false
theorem good_pre {a b : List Int} (ha : Good a a.length) (hb : Good b b.length) (h : ∀ x, x ∈ a ↔ x ∈ b) : ∀ k, k < a.length → k < b.length → (∀ j, j < k → a.getD j 0 = b.getD j 0) → a.getD k 0 = b.getD k 0 := by
  intro k h1 h2 hj
  have side : ∀ {a b : List Int}, Good a a.length → Good b b.length → (∀ x, x ∈ a → x ∈ b) → k < a.length → k < b.length → (∀ j, j < k → a.getD j 0 = b.getD j 0) → ¬ a.getD k 0 < b.getD k 0 := by
    intro a b ha hb h h1 h2 hj hlt
    obtain ⟨i, hi, e⟩ := mem_getD.mp (h _ (mem_getD.mpr ⟨k, h1, rfl⟩))
    rcases Nat.lt_or_ge i k with hik | hik
    · have h3 := good_gap ha (Nat.le_of_lt hik) h1
      rw [hj i hik] at h3
      omega
    · have h3 := good_gap hb hik hi
      omega
  have h3 := side ha hb (fun x hx => (h x).mp hx) h1 h2 hj
  have h4 := side hb ha (fun x hx => (h x).mpr hx) h2 h1 (fun j hj' => (hj j hj').symm)
  omega
theorem good_all {a b : List Int} (ha : Good a a.length) (hb : Good b b.length) (h : ∀ x, x ∈ a ↔ x ∈ b) : ∀ k, k < a.length → k < b.length → a.getD k 0 = b.getD k 0 := by
  intro k
  induction k using Nat.strongRecOn with
  | _ k ih => exact fun h1 h2 => good_pre ha hb h k h1 h2 (fun j hj => ih j hj (by omega) (by omega))
theorem good_len {a b : List Int} (ha : Good a a.length) (hb : Good b b.length) (h : ∀ x, x ∈ a ↔ x ∈ b) : a.length ≤ b.length := by
  rcases Nat.lt_or_ge b.length a.length with hlt | hge
  · obtain ⟨i, hi, e⟩ := mem_getD.mp ((h _).mp (mem_getD.mpr ⟨b.length, hlt, rfl⟩))
    have h1 := good_all ha hb h i (by omega) hi
    have h2 := good_gap ha (Nat.le_of_lt hi) hlt
    omega
  · exact hge
theorem good_eq {a b : List Int} (ha : Good a a.length) (hb : Good b b.length) (h : ∀ x, x ∈ a ↔ x ∈ b) : a = b := by
  have hl : a.length = b.length := Nat.le_antisymm (good_len ha hb h) (good_len hb ha fun x => (h x).symm)
  refine List.ext_getElem hl fun k h1 h2 => ?_
  have := good_all ha hb h k h1 h2
  rw [List.getD_eq_getElem?_getD, List.getD_eq_getElem?_getD, List.getElem?_eq_getElem h1, List.getElem?_eq_getElem h2] at this
  exact this
/-- The list p may be, and has just the numbers of S that may be. -/
def Got (p : List Int) (S : Int → Prop) : Prop := chkL p = 0 ∧ ∀ x, x ∈ p ↔ S x ∧ 0 ≤ x ∧ x ≤ 1048575
theorem Got.congr {p : List Int} {S T : Int → Prop} (h : Got p S) (hST : ∀ x, S x ↔ T x) : Got p T := ⟨h.1, fun x => by rw [h.2 x, hST x]⟩
theorem got_nil : Got [] (fun _ => False) := ⟨by decide, fun x => by simp⟩
theorem got_eq {a b : List Int} {S T : Int → Prop} (ha : Got a S) (hb : Got b T) (h : ∀ x, S x ↔ T x) : a = b :=
  good_eq (chk_zero ha.1).2 (chk_zero hb.1).2 fun x => by rw [ha.2 x, hb.2 x, h x]
theorem put_step (A : Option Addr) (n c : Nat) (l : List Int) (hn : l.length = n) (hm : n < 4096) (t : Int) (S : Int → Prop) (hg : Got l S) (w : World) (hR : Reads w w.heap.size 1 A n (ints l)) :
    Calls Try.prog 12 #[.slice A n c, .int .i64 t] w fun en w' => ∃ A' m c' e, en = .returned (.tuple #[.slice A' m c', .int .i64 e]) ∧ Below w.heap.size w w' ∧
      (((e == 0) = true ∧ ∃ l', l'.length = m ∧ m = n + 1 ∧ Reads w' w'.heap.size 1 A' m (ints l') ∧ Got l' (fun x => S x ∨ x = t)) ∨ ((e == 0) = false ∧ Got l (fun x => S x ∨ x = t))) := by
  by_cases h : askE l t = 0
  · obtain ⟨h0, t0, t1⟩ := ask_zero h
    by_cases hin : t ∈ l
    · refine (put_again A n c l hn t h hin w hR).mono ?_
      rintro en w' ⟨rfl, hb⟩
      refine ⟨_, _, _, _, rfl, hb, .inr ⟨rfl, h0, fun x => ?_⟩⟩
      rw [hg.2 x]
      constructor
      · rintro ⟨h1, h2⟩; exact ⟨.inl h1, h2⟩
      · rintro ⟨h1 | rfl, h2⟩
        · exact ⟨h1, h2⟩
        · exact (hg.2 _).mp hin
    · refine (put_yes A n c l hn t h hin hm w hR).mono ?_
      rintro en w' ⟨k, A', c', hk, rfl, hc, hR', hb⟩
      refine ⟨_, _, _, _, rfl, hb, .inl ⟨rfl, _, ?_, rfl, hR', ins_chk h0 (by omega) hk hin t0 t1, fun x => ?_⟩⟩
      · rw [ins_len hk.1, hn]
      · rw [ins_mem, hg.2 x]
        constructor
        · rintro (⟨h1, h2⟩ | rfl)
          · exact ⟨.inl h1, h2⟩
          · exact ⟨.inr rfl, t0, t1⟩
        · rintro ⟨h1 | rfl, h2⟩
          · exact .inl ⟨h1, h2⟩
          · exact .inr rfl
  · refine (put_err A n c l hn t _ rfl (by simpa using h) w hR).mono ?_
    rintro en w' ⟨rfl, hb⟩
    refine ⟨_, _, _, _, rfl, hb, .inr ⟨by simpa using h, hg.1, fun x => ?_⟩⟩
    have ht : ¬ (0 ≤ t ∧ t ≤ 1048575) := fun h2 => h (by unfold askE; rw [if_pos hg.1, if_neg (by omega)])
    rw [hg.2 x]
    constructor
    · rintro ⟨h1, h2⟩; exact ⟨.inl h1, h2⟩
    · rintro ⟨h1 | rfl, h2⟩
      · exact ⟨h1, h2⟩
      · exact (ht h2).elim
end Go.Proofs.Ytocnmdnicoahnaa
