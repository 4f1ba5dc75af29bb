/- Seen: the contract of Has. -/
import Derived.Test.YtocnmdnicoahnaaC
import Derived.Lib.Hide
namespace Go.Proofs.Ytocnmdnicoahnaa
open Go.ChangeShapes Go.WideShapes Go.ChangeAt Go.RowKit
set_option linter.unusedSimpArgs false
set_option linter.unusedVariables false
/-- Is a number there? -/
def hasB (l : List Int) (t : Int) : Bool := decide (t ∈ l)
theorem mem_getD {l : List Int} {t : Int} : t ∈ l ↔ ∃ i, i < l.length ∧ l.getD i 0 = t := by
  constructor
  · intro h
    obtain ⟨i, hi, e⟩ := List.mem_iff_getElem.mp h
    exact ⟨i, hi, by simp [List.getD_eq_getElem?_getD, List.getElem?_eq_getElem hi, e]⟩
  · rintro ⟨i, hi, e⟩
    rw [List.getD_eq_getElem?_getD, List.getElem?_eq_getElem hi] at e
    simp at e
    rw [← e]
    exact List.getElem_mem hi
theorem below_has {l : List Int} {t : Int} {k : Nat} (hg : Good l l.length) (h : IsBelow l t k) : t ∈ l ↔ k < l.length ∧ l.getD k 0 = t := by
  rw [mem_getD]
  constructor
  · rintro ⟨i, hi, e⟩
    rcases Nat.lt_or_ge i k with h2 | h2
    · have := h.2.1 i h2
      omega
    · have h3 := good_gap hg h2 hi
      have h4 := h.2.2 k (Nat.le_refl _) (by omega)
      have h5 : i = k := by omega
      subst h5
      exact ⟨hi, e⟩
  · rintro ⟨hk, e⟩
    exact ⟨k, hk, e⟩
theorem ask_zero {l : List Int} {t : Int} (h : askE l t = 0) : chkL l = 0 ∧ 0 ≤ t ∧ t ≤ 1048575 := by
  unfold askE at h
  split at h
  · split at h
    · cases h
    · exact ⟨by assumption, by omega, by omega⟩
  · contradiction
set_option maxHeartbeats 2000000 in
theorem has_no (A : Option Addr) (n c : Nat) (l : List Int) (hn : l.length = n) (t e : Int) (h : askE l t = e) (he : (e != 0) = true) (he' : (e == 0) = false) (w : World) (hR : Reads w w.heap.size 1 A n (ints l)) :
    Calls Try.prog 13 #[.slice A n c, .int .i64 t] w fun en w' => en = .returned (.tuple #[.bool false, .int .i64 e]) ∧ Below w.heap.size w w' := by
  go_enter Try.func13, Try.ntmps13
  go_wp2_with fail
  refine (below_no A n c l hn t e h he _ hR).mono ?_
  rintro en w1 ⟨rfl, hb⟩
  clear hR h
  go_wp2
  go_ret2
  exact ⟨rfl, hb⟩
set_option maxHeartbeats 2000000 in
theorem has_yes (A : Option Addr) (n c : Nat) (l : List Int) (hn : l.length = n) (t : Int) (h : askE l t = 0) (w : World) (hR : Reads w w.heap.size 1 A n (ints l)) :
    Calls Try.prog 13 #[.slice A n c, .int .i64 t] w fun en w' => en = .returned (.tuple #[.bool (hasB l t), .int .i64 0]) ∧ Below w.heap.size w w' := by
  obtain ⟨h0, _, _⟩ := ask_zero h
  obtain ⟨hm, hg⟩ := chk_zero h0
  go_enter Try.func13, Try.ntmps13
  go_wp2_with fail
  refine (below_yes A n c l hn t h _ hR).mono ?_
  rintro en w1 ⟨k, hk, rfl, hb⟩
  have hin := below_has hg hk
  have hkn := hk.1
  rw [hn] at hin hkn hm
  have hR1 := hR.below hb
  by_cases h1 : k < n
  · obtain ⟨ad, rfl, hab, cA⟩ := reads_at hn hR1 h1
    have i1 : (0 : Int) ≤ k := by omega
    have i2 : (k : Int) < n := by omega
    have i3 : decide ((k : Int) < n) = true := decide_eq_true i2
    by_cases h2 : l.getD k 0 = t
    · have hH : hasB l t = true := decide_eq_true (hin.mpr ⟨h1, h2⟩)
      have d : (l.getD k 0 == t) = true := by simpa using h2
      generalize l.getD k 0 = x at *
      have HH := Lib.hid hH
      clear hH
      clear hin hk hg h hR hR1 h2
      go_wp2
      go_ret2
      exact ⟨by rw [HH.out]; rfl, hb⟩
    · have hH : hasB l t = false := decide_eq_false (fun hh => h2 (hin.mp hh).2)
      have d : (l.getD k 0 == t) = false := by simpa using h2
      generalize l.getD k 0 = x at *
      have HH := Lib.hid hH
      clear hH
      clear hin hk hg h hR hR1 h2
      go_wp2
      go_ret2
      exact ⟨by rw [HH.out]; rfl, hb⟩
  · have hH : hasB l t = false := decide_eq_false (fun hh => h1 (hin.mp hh).1)
    have i3 : decide ((k : Int) < n) = false := by simp; omega
    have HH := Lib.hid hH
    clear hH
    clear hin hk hg h hR hR1
    go_wp2
    go_ret2
    exact ⟨by rw [HH.out]; rfl, hb⟩
end Go.Proofs.Ytocnmdnicoahnaa
