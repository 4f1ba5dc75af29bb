/- Seen: the contracts of First, asked, Below and Has. -/
import Derived.Test.YtocnmdnicoahnaaB
namespace Go.Proofs.Ytocnmdnicoahnaa
open Go.ChangeShapes Go.WideShapes Go.ChangeAt Go.RowKit
set_option linter.unusedSimpArgs false
set_option linter.unusedVariables false
instance (l : List Int) (k : Nat) : Decidable (Good l k) := by unfold Good; infer_instance
def chkL (l : List Int) : Int := if 4096 < l.length then 4 else if Good l l.length then 0 else 8
theorem good_gap {l : List Int} {n : Nat} (h : Good l n) : ∀ {i j : Nat}, i ≤ j → j < n → l.getD i 0 + ((j : Int) - i) ≤ l.getD j 0 := by
  intro i j hij
  induction j with
  | zero =>
    intro hj
    obtain rfl : i = 0 := by omega
    omega
  | succ j ih =>
    intro hj
    rcases Nat.lt_or_ge i (j + 1) with h2 | h2
    · have h3 := ih (by omega) (by omega)
      have h4 := (h (j + 1) hj).1
      rw [prev_succ] at h4
      omega
    · obtain rfl : i = j + 1 := by omega
      omega
theorem good_ge {l : List Int} {n i : Nat} (h : Good l n) (hi : i < n) : (i : Int) ≤ l.getD i 0 := by
  have h0 := (h 0 (by omega)).1
  have h1 := good_gap h (Nat.zero_le i) hi
  simp [prev] at h0
  simp at h1
  have : l.getD 0 0 = l.getD 0 0 := rfl
  simp only [List.getD_eq_getElem?_getD] at *
  omega
theorem check_any (A : Option Addr) (n c B : Nat) (l : List Int) (hn : l.length = n) (w : World) (hR : Reads w B 1 A n (ints l)) :
    Calls Try.prog 11 #[.slice A n c] w fun en w' => en = .returned (.int .i64 (chkL l)) ∧ w = w' := by
  unfold chkL
  rw [hn]
  by_cases h : 4096 < n
  · rw [if_pos h]; exact check_many A n c h w
  · rw [if_neg h]
    by_cases hg : Good l n
    · rw [if_pos hg]; exact check_yes A n c B l hn (by omega) hg w hR
    · rw [if_neg hg]; exact check_no A n c B l hn (by omega) hg w hR
theorem chk_zero {l : List Int} (h : chkL l = 0) : l.length ≤ 4096 ∧ Good l l.length := by
  unfold chkL at h
  split at h
  · cases h
  · split at h
    · exact ⟨by omega, by assumption⟩
    · cases h
/-- All below k are there, and k is not. -/
def IsFirst (l : List Int) (k : Nat) : Prop := k ≤ l.length ∧ (∀ i, i < k → l.getD i 0 = i) ∧ (k < l.length → (k : Int) < l.getD k 0)
set_option maxHeartbeats 2000000 in
theorem first_yes (A : Option Addr) (n c : Nat) (l : List Int) (hn : l.length = n) (h : chkL l = 0) (w : World) (hR : Reads w w.heap.size 1 A n (ints l)) :
    Calls Try.prog 10 #[.slice A n c] w fun en w' => ∃ k, IsFirst l k ∧ en = .returned (.tuple #[.int .i64 (k : Nat), .int .i64 0]) ∧ Below w.heap.size w w' := by
  obtain ⟨hm, hg⟩ := chk_zero h
  rw [hn] at hm hg
  have B0 := Blk.new w 22 #[.slice A n c]
  have hB0 : Below w.heap.size w (w.alloc (.cells #[.slice A n c] 22)) := (Below.refl _ w).alloc (Nat.le_refl _) _
  have hR0 := hR.below hB0
  go_enter Try.func10, Try.ntmps10
  go_wp2_with fail
  refine (check_any A n c w.heap.size l hn _ hR0).mono ?_
  rintro en w1 ⟨rfl, rfl⟩
  rw [h]
  go_wp2_with fail
  refine (place_above A n c w.heap.size w.heap.size l hn hm (fun i j hij hj hi => by have := good_gap hg hij hj; omega) _ hR0 (B0.cell 0)).mono ?_
  rintro en w1 ⟨k, hk, hlo, hhi, rfl, m, rfl⟩
  have hF : IsFirst l k := ⟨by omega, fun i hi => by have := good_ge hg (show i < n by omega); have := hlo i hi; omega, fun hkl => hhi k (by omega) (by omega)⟩
  clear hlo hhi hR hR0 hg
  go_wp2
  go_ret2
  exact ⟨k, hF, rfl, below_drewN hB0 _⟩
set_option maxHeartbeats 2000000 in
theorem first_no (A : Option Addr) (n c : Nat) (l : List Int) (hn : l.length = n) (e : Int) (h : chkL l = e) (he : (e != 0) = true) (w : World) (hR : Reads w w.heap.size 1 A n (ints l)) :
    Calls Try.prog 10 #[.slice A n c] w fun en w' => en = .returned (.tuple #[.int .i64 0, .int .i64 e]) ∧ Below w.heap.size w w' := by
  have hB0 : Below w.heap.size w (w.alloc (.cells #[.slice A n c] 22)) := (Below.refl _ w).alloc (Nat.le_refl _) _
  have hR0 := hR.below hB0
  go_enter Try.func10, Try.ntmps10
  go_wp2_with fail
  refine (check_any A n c w.heap.size l hn _ hR0).mono ?_
  rintro en w1 ⟨rfl, rfl⟩
  rw [h]
  clear hR hR0 h
  go_wp2
  go_ret2
  exact ⟨rfl, hB0⟩
def askE (l : List Int) (t : Int) : Int := if chkL l = 0 then (if t < 0 ∨ 1048575 < t then 2 else 0) else chkL l
set_option maxHeartbeats 2000000 in
theorem asked_any (A : Option Addr) (n c B : Nat) (l : List Int) (hn : l.length = n) (t : Int) (w : World) (hR : Reads w B 1 A n (ints l)) :
    Calls Try.prog 28 #[.slice A n c, .int .i64 t] w fun en w' => en = .returned (.int .i64 (askE l t)) ∧ w = w' := by
  unfold askE
  by_cases h : chkL l = 0
  · rw [if_pos h]
    by_cases h1 : t < 0
    · rw [if_pos (Or.inl h1)]
      have d1 : decide (t < 0) = true := decide_eq_true h1
      go_enter Try.func28, Try.ntmps28
      go_wp2_with fail
      refine (check_any A n c B l hn _ hR).mono ?_
      rintro en w1 ⟨rfl, rfl⟩
      rw [h]
      clear hR h
      go_wp2
      go_ret
      exact ⟨rfl, rfl⟩
    · have d1 : decide (t < 0) = false := decide_eq_false h1
      by_cases h2 : 1048575 < t
      · rw [if_pos (Or.inr h2)]
        have d2 : decide (1048575 < t) = true := decide_eq_true h2
        go_enter Try.func28, Try.ntmps28
        go_wp2_with fail
        refine (check_any A n c B l hn _ hR).mono ?_
        rintro en w1 ⟨rfl, rfl⟩
        rw [h]
        clear hR h
        go_wp2
        go_ret
        exact ⟨rfl, rfl⟩
      · rw [if_neg (by omega)]
        have d2 : decide (1048575 < t) = false := decide_eq_false h2
        go_enter Try.func28, Try.ntmps28
        go_wp2_with fail
        refine (check_any A n c B l hn _ hR).mono ?_
        rintro en w1 ⟨rfl, rfl⟩
        rw [h]
        clear hR h
        go_wp2
        go_ret
        exact ⟨rfl, rfl⟩
  · rw [if_neg h]
    have d : (chkL l != 0) = true := by simpa using h
    generalize hc : chkL l = e at *
    go_enter Try.func28, Try.ntmps28
    go_wp2_with fail
    refine (check_any A n c B l hn _ hR).mono ?_
    rintro en w1 ⟨rfl, rfl⟩
    rw [hc]
    clear hR h hc
    go_wp2
    go_ret
    exact ⟨rfl, rfl⟩
/-- k numbers are below t. -/
def IsBelow (l : List Int) (t : Int) (k : Nat) : Prop := k ≤ l.length ∧ (∀ i, i < k → l.getD i 0 < t) ∧ (∀ i, k ≤ i → i < l.length → t ≤ l.getD i 0)
set_option maxHeartbeats 2000000 in
theorem below_yes (A : Option Addr) (n c : Nat) (l : List Int) (hn : l.length = n) (t : Int) (h : askE l t = 0) (w : World) (hR : Reads w w.heap.size 1 A n (ints l)) :
    Calls Try.prog 16 #[.slice A n c, .int .i64 t] w fun en w' => ∃ k, IsBelow l t k ∧ en = .returned (.tuple #[.int .i64 (k : Nat), .int .i64 0]) ∧ Below w.heap.size w w' := by
  have h0 : chkL l = 0 := by
    unfold askE at h
    split at h
    · assumption
    · assumption
  obtain ⟨hm, hg⟩ := chk_zero h0
  rw [hn] at hm hg
  have B0 := (Blk.new w 22 #[.slice A n c]).alloc (.cells #[.int .i64 t] 3)
  have B1 := Blk.new (w.alloc (.cells #[.slice A n c] 22)) 3 #[.int .i64 t]
  rw [World.size_alloc] at B1
  have hB0 : Below w.heap.size w ((w.alloc (.cells #[.slice A n c] 22)).alloc (.cells #[.int .i64 t] 3)) := ((Below.refl _ w).alloc (Nat.le_refl _) _).alloc (by simp) _
  have hR0 := hR.below hB0
  go_enter Try.func16, Try.ntmps16
  go_wp2_with fail
  refine (asked_any A n c w.heap.size l hn t _ hR0).mono ?_
  rintro en w1 ⟨rfl, rfl⟩
  rw [h]
  go_wp2_with fail
  refine (place_atleast A n c w.heap.size w.heap.size l hn hm (w.heap.size + 1) t (fun i j hij hj hi => by have := good_gap hg hij hj; omega) _ hR0 (B0.cell 0) (B1.cell 0)).mono ?_
  rintro en w1 ⟨k, hk, hlo, hhi, rfl, m, rfl⟩
  have hF : IsBelow l t k := ⟨by omega, hlo, fun i h1 h2 => hhi i h1 (by omega)⟩
  clear hlo hhi hR hR0 hg
  go_wp2
  go_ret2
  exact ⟨k, hF, rfl, below_drewN hB0 _⟩
set_option maxHeartbeats 2000000 in
theorem below_no (A : Option Addr) (n c : Nat) (l : List Int) (hn : l.length = n) (t e : Int) (h : askE l t = e) (he : (e != 0) = true) (w : World) (hR : Reads w w.heap.size 1 A n (ints l)) :
    Calls Try.prog 16 #[.slice A n c, .int .i64 t] w fun en w' => en = .returned (.tuple #[.int .i64 0, .int .i64 e]) ∧ Below w.heap.size w w' := by
  have hB0 : Below w.heap.size w ((w.alloc (.cells #[.slice A n c] 22)).alloc (.cells #[.int .i64 t] 3)) := ((Below.refl _ w).alloc (Nat.le_refl _) _).alloc (by simp) _
  have hR0 := hR.below hB0
  go_enter Try.func16, Try.ntmps16
  go_wp2_with fail
  refine (asked_any A n c w.heap.size l hn t _ hR0).mono ?_
  rintro en w1 ⟨rfl, rfl⟩
  rw [h]
  clear hR hR0 h
  go_wp2
  go_ret2
  exact ⟨rfl, hB0⟩
end Go.Proofs.Ytocnmdnicoahnaa
