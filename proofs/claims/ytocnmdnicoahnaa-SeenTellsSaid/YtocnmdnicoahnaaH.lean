/- Seen: Same, Great, the laws' helper alive, and the walk of the law SeenFirst. -/
import Derived.Test.YtocnmdnicoahnaaG
namespace Go.Proofs.Ytocnmdnicoahnaa
open Go.ChangeShapes Go.WideShapes Go.ChangeAt Go.RowKit
set_option linter.unusedSimpArgs false
set_option linter.unusedVariables false
set_option maxHeartbeats 2000000 in
theorem same_yes (A A2 : Option Addr) (n c c2 B B2 : Nat) (l : List Int) (hn : l.length = n) (hm : n ≤ 100000) (w : World) (hR : Reads w B 1 A n (ints l)) (hR2 : Reads w B2 1 A2 n (ints l)) :
    Calls Try.prog 19 #[.slice A n c, .slice A2 n c2] w fun en w' => en = .returned (.bool true) ∧ ∃ m, w' = w.drewN m := by
  go_enter Try.func19, Try.ntmps19
  go_wp2
  go_loopw [5] (fun i wr => ∃ k m : Nat, k ≤ n ∧ i = .int .i64 k ∧ wr = w.drewN m) (fun i wr => n - (intOf i).toNat)
  case atStart => exact ⟨0, 0, by omega, rfl, rfl⟩
  case round =>
    obtain ⟨k, m, hk, rfl, rfl⟩ := hrel
    by_cases hlt : k < n
    · obtain ⟨ad, rfl, hab, cA⟩ := reads_at hn hR hlt
      obtain ⟨ad2, rfl, hab2, cA2⟩ := reads_at hn hR2 hlt
      have i1 : (0 : Int) ≤ k := by omega
      have i2 : (k : Int) < n := by omega
      generalize l.getD k 0 = x at *
      go_wp2_with fail
      go_quiet (fail)
      go_wp2
      go_roundw
      case rel => exact ⟨k + 1, _, by omega, by go_num, rfl⟩
      case measure => simp [intOf]; omega
    · obtain rfl : k = n := by omega
      go_wp2
      go_ret
      exact ⟨rfl, m, rfl⟩
set_option maxHeartbeats 1000000 in
theorem great_any (A : Option Addr) (n c : Nat) (w : World) :
    Calls Try.prog 9 #[.slice A n c] w fun en w' => en = .returned (.bool (decide (200 < n ∧ n < 4096 ∨ 4100 < n))) ∧ w = w' := by
  have hc : (200 < n ∧ n < 4096) ∨ (200 < n ∧ ¬ n < 4096) ∨ ¬ 200 < n := by omega
  have hc2 : 4100 < n ∨ ¬ 4100 < n := by omega
  rcases hc with ⟨h1, h2⟩ | ⟨h1, h2⟩ | h1 <;> rcases hc2 with h3 | h3
  all_goals
    have d1 : decide ((200 : Int) < n) = decide (200 < n) := by simp; omega
    have d2 : decide ((n : Int) < 4096) = decide (n < 4096) := by simp; omega
    have d3 : decide ((4100 : Int) < n) = decide (4100 < n) := by simp; omega
    try rw [decide_eq_true h1] at d1
    try rw [decide_eq_false h1] at d1
    try rw [decide_eq_true h2] at d2
    try rw [decide_eq_false h2] at d2
    try rw [decide_eq_true h3] at d3
    try rw [decide_eq_false h3] at d3
    go_enter Try.func9, Try.ntmps9
    go_wp2
    go_ret
    exact ⟨ret_bool (by first | exact (decide_eq_true (by omega)).symm | exact (decide_eq_false (by omega)).symm), rfl⟩
theorem k146 {k : Nat} (h : IsBelow [1, 4, 6] 5 k) : k = 2 := by
  obtain ⟨h1, h2, h3⟩ := h
  have a := h2 2
  have b := h3 0
  have c := h3 1
  simp at h1 a b c
  omega
theorem k1456 {k : Nat} (h : IsBelow [1, 4, 5, 6] 5 k) : k = 2 := by
  obtain ⟨h1, h2, h3⟩ := h
  have a := h2 2
  have b := h3 0
  have c := h3 1
  simp at h1 a b c
  omega
theorem k013 {k : Nat} (h : IsFirst [0, 1, 3] k) : k = 2 := by
  obtain ⟨h1, h2, h3⟩ := h
  have a := h2 2
  rcases Nat.lt_or_ge k 2 with h | h
  · have h4 := h3 (by simp; omega)
    have : k = 0 ∨ k = 1 := by omega
    rcases this with rfl | rfl <;> simp at h4
  · rcases Nat.lt_or_ge 2 k with h5 | h5
    · have := a h5
      simp at this
    · omega
theorem new3 (w : World) (xs : List Int) (n : Nat) (hn : xs.length = n) : Reads (w.alloc (.cells (ints xs).toArray 3)) (w.alloc (.cells (ints xs).toArray 3)).heap.size 1 (some ⟨w.heap.size, 0, none⟩) n (ints xs) := by
  have := reads_new w (ints xs) 3 n (by simpa using hn)
  rw [World.size_alloc]
  exact this
set_option maxHeartbeats 4000000 in
theorem alive_any (w : World) : Calls Try.prog 8 #[] w fun en w' => en = .returned (.bool true) ∧ Below w.heap.size w w' := by
  have hB0 : Below w.heap.size w (w.alloc (.cells (ints [1, 4, 6]).toArray 3)) := (Below.refl _ w).alloc (Nat.le_refl _) _
  go_enter Try.func8, Try.ntmps8
  go_wp2_with fail
  refine (put_yes (some ⟨w.heap.size, 0, none⟩) 3 3 [1, 4, 6] rfl 5 (by decide) (by decide) (by omega) (w.alloc (.cells (ints [1, 4, 6]).toArray 3)) (new3 w [1, 4, 6] 3 rfl)).mono ?_
  rintro en w1 ⟨k, A1, c1, hk, rfl, hc1, hR1, hb1⟩
  obtain rfl := k146 hk
  have hR1 : Reads w1 w1.heap.size 1 A1 4 (ints [1, 4, 5, 6]) := hR1
  have hB1 := hB0.trans (hb1.mono hB0.size)
  clear hk hb1
  go_wp2_with fail
  refine (below_yes A1 4 c1 [1, 4, 5, 6] rfl 5 (by decide) _ hR1).mono ?_
  rintro en w2 ⟨k, hk, rfl, hb2⟩
  obtain rfl := k1456 hk
  have hB2 := hB1.trans (hb2.mono hB1.size)
  have hR2 := hR1.below hb2
  clear hk
  go_wp2_with fail
  refine (first_yes (some ⟨w2.heap.size, 0, none⟩) 3 3 [0, 1, 3] rfl (by decide) (w2.alloc (.cells (ints [0, 1, 3]).toArray 3)) (new3 w2 [0, 1, 3] 3 rfl)).mono ?_
  rintro en w3 ⟨k, hk, rfl, hb3⟩
  obtain rfl := k013 hk
  have hBx := hB2.alloc hB2.size (.cells (ints [0, 1, 3]).toArray 3)
  have hB3 := hBx.trans (hb3.mono hBx.size)
  have hz3 : w2.heap.size ≤ w3.heap.size := by have := hb3.size; rw [World.size_alloc] at this; omega
  have hR3 := (((hR2.more hb2.size).alloc (Nat.le_refl _) (.cells (ints [0, 1, 3]).toArray 3)).below (hb3.mono (by rw [World.size_alloc]; omega)))
  clear hk
  go_wp2_with fail
  refine (put_again (some ⟨w3.heap.size, 0, none⟩) 2 2 [1, 4] rfl 4 (by decide) (by decide) (w3.alloc (.cells (ints [1, 4]).toArray 3)) (new3 w3 [1, 4] 2 rfl)).mono ?_
  rintro en w4 ⟨rfl, hb4⟩
  have hBy := hB3.alloc hB3.size (.cells (ints [1, 4]).toArray 3)
  have hB4 := hBy.trans (hb4.mono hBy.size)
  have hR4 := ((hR3.more hz3).alloc (Nat.le_refl _) (.cells (ints [1, 4]).toArray 3)).below (hb4.mono (by rw [World.size_alloc]; omega))
  have hz4 : w3.heap.size ≤ w4.heap.size := by have := hb4.size; rw [World.size_alloc] at this; omega
  have hR5 := (hR4.more hz4).alloc (Nat.le_refl _) (.cells (ints [1, 4, 5, 6]).toArray 3)
  have hB5 := hB4.alloc hB4.size (.cells (ints [1, 4, 5, 6]).toArray 3)
  clear hR1 hR2 hR3 hR4 hb2 hb3 hb4
  go_wp2_with fail
  refine (same_yes A1 (some ⟨w4.heap.size, 0, none⟩) 4 c1 4 _ _ [1, 4, 5, 6] rfl (by omega) (w4.alloc (.cells (ints [1, 4, 5, 6]).toArray 3)) hR5 (new3 w4 [1, 4, 5, 6] 4 rfl)).mono ?_
  rintro en w5 ⟨rfl, m, rfl⟩
  clear hR5
  go_wp2
  go_ret
  exact ⟨rfl, below_drewN hB5 _⟩
end Go.Proofs.Ytocnmdnicoahnaa
