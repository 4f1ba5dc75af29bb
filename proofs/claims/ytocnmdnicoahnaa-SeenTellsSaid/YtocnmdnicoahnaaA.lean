/- Seen: what a list may be, and the contract of Check. -/
import Derived.Test.YtocnmdnicoahnaaProg
import Derived.Test.YtocnmdnicoahnaaKit3
import Derived.Test.YtocnmdnicoahnaaKit2
namespace Go.Proofs.Ytocnmdnicoahnaa
open Go.ChangeShapes Go.WideShapes Go.ChangeAt Go.RowKit
set_option linter.unusedSimpArgs false
set_option linter.unusedVariables false
abbrev ints (l : List Int) : List Value := l.map (Value.int .i64)
/-- The number ahead of place k. -/
def prev (l : List Int) (k : Nat) : Int := if k = 0 then -1 else l.getD (k - 1) 0
/-- The first k numbers may be. -/
def Good (l : List Int) (k : Nat) : Prop := ∀ j, j < k → prev l j < l.getD j 0 ∧ l.getD j 0 ≤ 1048575
theorem prev_succ (l : List Int) (k : Nat) : prev l (k + 1) = l.getD k 0 := by simp [prev]
theorem good_more {l : List Int} {k : Nat} (h : Good l k) (h1 : prev l k < l.getD k 0) (h2 : l.getD k 0 ≤ 1048575) : Good l (k + 1) := fun j hj => by
  rcases Nat.lt_or_ge j k with h' | h'
  · exact h j h'
  · obtain rfl : j = k := by omega
    exact ⟨h1, h2⟩
theorem reads_at {w : World} {B n k : Nat} {A : Option Addr} {l : List Int} (hn : l.length = n) (hR : Reads w B 1 A n (ints l)) (hk : k < n) : ∃ ad, A = some ad ∧ ad.block < B ∧ w.cell? (ad.add k) = some (.int .i64 (l.getD k 0)) := by
  obtain ⟨ad, u, hA, hb, hu, hc⟩ := hR.at_ hk
  refine ⟨ad, hA, hb, ?_⟩
  rw [hc]
  rw [List.getElem?_map, List.getElem?_eq_getElem (by omega)] at hu
  simp only [Option.map_some] at hu
  rw [← hu]
  simp [List.getD_eq_getElem?_getD, List.getElem?_eq_getElem (show k < l.length by omega)]
set_option maxHeartbeats 1000000 in
theorem check_many (A : Option Addr) (n c : Nat) (h : 4096 < n) (w : World) : Calls Try.prog 11 #[.slice A n c] w fun en w' => en = .returned (.int .i64 4) ∧ w = w' := by
  have d : decide ((4096 : Int) < n) = true := by simp; omega
  go_enter Try.func11, Try.ntmps11
  go_wp2
  go_ret
  exact ⟨rfl, rfl⟩
set_option maxHeartbeats 1000000 in
theorem check_all (A : Option Addr) (n c B : Nat) (l : List Int) (hn : l.length = n) (hm : n ≤ 4096) (w : World) (hR : Reads w B 1 A n (ints l)) :
    Calls Try.prog 11 #[.slice A n c] w fun en w' => ((Good l n ∧ en = .returned (.int .i64 0)) ∨ (¬ Good l n ∧ en = .returned (.int .i64 8))) ∧ w = w' := by
  have d : decide ((4096 : Int) < n) = false := by simp; omega
  go_enter Try.func11, Try.ntmps11
  go_wp2
  go_loop [3, 11] (fun u i => ∃ k : Nat, k ≤ n ∧ i = .int .i64 k ∧ u = .int .i64 (prev l k) ∧ Good l k) (fun _ i => n - (intOf i).toNat)
  case atStart => exact ⟨0, by omega, rfl, rfl, fun j hj => by omega⟩
  case round =>
    obtain ⟨k, hk, rfl, rfl, hg⟩ := hrel
    by_cases hlt : k < n
    · obtain ⟨ad, rfl, hab, cA⟩ := reads_at hn hR hlt
      have hp := prev_succ l k
      have hgm := good_more hg
      have hbad : (l.getD k 0 ≤ prev l k ∨ 1048575 < l.getD k 0) → ¬ Good l n := fun h hG => by
        have := hG k hlt
        omega
      generalize l.getD k 0 = x at *
      generalize prev l k = y at *
      by_cases h1 : x ≤ y
      · have d1 : decide (x ≤ y) = true := decide_eq_true h1
        have hno := hbad (Or.inl h1)
        clear hbad hgm hp hg
        go_wp2
        go_ret
        first | exact ⟨Or.inr ⟨hno, rfl⟩, rfl⟩ | exact ⟨rfl, rfl⟩
      · have d1 : decide (x ≤ y) = false := decide_eq_false h1
        by_cases h2 : 1048575 < x
        · have d2 : decide (1048575 < x) = true := decide_eq_true h2
          have hno := hbad (Or.inr h2)
          clear hbad hgm hp hg
          go_wp2
          go_ret
          first | exact ⟨Or.inr ⟨hno, rfl⟩, rfl⟩ | exact ⟨rfl, rfl⟩
        · have d2 : decide (1048575 < x) = false := decide_eq_false h2
          have hg2 := hgm (by omega) (by omega)
          clear hbad hgm hg
          go_wp2
          go_round
          case rel => exact ⟨k + 1, by omega, by go_num, by rw [hp], hg2⟩
          case measure => simp [intOf]; omega
    · obtain rfl : k = n := by omega
      go_wp2
      go_ret
      first | exact ⟨Or.inl ⟨hg, rfl⟩, rfl⟩ | exact ⟨rfl, rfl⟩
theorem check_yes (A : Option Addr) (n c B : Nat) (l : List Int) (hn : l.length = n) (hm : n ≤ 4096) (hg : Good l n) (w : World) (hR : Reads w B 1 A n (ints l)) :
    Calls Try.prog 11 #[.slice A n c] w fun en w' => en = .returned (.int .i64 0) ∧ w = w' := by
  refine (check_all A n c B l hn hm w hR).mono ?_
  rintro en w' ⟨⟨_, rfl⟩ | ⟨h, _⟩, rfl⟩
  · exact ⟨rfl, rfl⟩
  · exact absurd hg h
theorem check_no (A : Option Addr) (n c B : Nat) (l : List Int) (hn : l.length = n) (hm : n ≤ 4096) (hg : ¬ Good l n) (w : World) (hR : Reads w B 1 A n (ints l)) :
    Calls Try.prog 11 #[.slice A n c] w fun en w' => en = .returned (.int .i64 8) ∧ w = w' := by
  refine (check_all A n c B l hn hm w hR).mono ?_
  rintro en w' ⟨⟨h, _⟩ | ⟨_, rfl⟩, rfl⟩
  · exact absurd h hg
  · exact ⟨rfl, rfl⟩
end Go.Proofs.Ytocnmdnicoahnaa
