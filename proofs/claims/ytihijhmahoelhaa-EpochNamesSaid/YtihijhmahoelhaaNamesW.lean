/- Epoch: the walk of the law EpochNames. -/
import Derived.Test.YtihijhmahoelhaaH
namespace Go.Proofs.Ytihijhmahoelhaa.EpochNames
open Go.ChangeShapes Go.WideShapes Go.ChangeAt Go.RowKit
set_option linter.unusedSimpArgs false
theorem c1 (w : World) : Calls Try.prog 11 #[clk 1 0 0 65535 65536] w fun en w' => en = .returned (.tuple #[clk 1 1 0 65535 65536, .bool false, .int .i64 0]) ∧ Below w.heap.size w w' := by
  have e : K.tick ⟨1, 0, 0, 65535, 65536⟩ = (⟨1, 1, 0, 65535, 65536⟩, false, 0) := by kernel_rfl
  have := tick_any ⟨1, 0, 0, 65535, 65536⟩ w
  rw [e] at this
  exact this

theorem c2 (w : World) : Calls Try.prog 11 #[clk 1 1 0 65535 65536] w fun en w' => en = .returned (.tuple #[clk 1 2 0 65535 65536, .bool false, .int .i64 0]) ∧ Below w.heap.size w w' := by
  have e : K.tick ⟨1, 1, 0, 65535, 65536⟩ = (⟨1, 2, 0, 65535, 65536⟩, false, 0) := by kernel_rfl
  have := tick_any ⟨1, 1, 0, 65535, 65536⟩ w
  rw [e] at this
  exact this

theorem c3 (w : World) : Calls Try.prog 17 #[clk 1 2 0 65535 65536] w fun en w' => en = .returned (.tuple #[.int .i64 0, .int .i64 6]) ∧ Below w.heap.size w w' := by
  have e : K.left ⟨1, 2, 0, 65535, 65536⟩ = (0, 6) := by kernel_rfl
  have := left_any ⟨1, 2, 0, 65535, 65536⟩ w
  rw [e] at this
  exact this

theorem c4 (w : World) : Calls Try.prog 15 #[clk 1 0 0 65535 65536] w fun en w' => en = .returned (.tuple #[.bool false, .int .i64 0]) ∧ Below w.heap.size w w' := by
  have e : K.in_ ⟨1, 0, 0, 65535, 65536⟩ = (false, 0) := by kernel_rfl
  have := in_any ⟨1, 0, 0, 65535, 65536⟩ w
  rw [e] at this
  exact this

theorem c5 (w : World) : Calls Try.prog 11 #[clk 3 2147483647 2147483647 0 0] w fun en w' => en = .returned (.tuple #[clk 0 0 0 0 0, .bool false, .int .i64 10]) ∧ Below w.heap.size w w' := by
  have e : K.tick ⟨3, 2147483647, 2147483647, 0, 0⟩ = (⟨0, 0, 0, 0, 0⟩, false, 10) := by kernel_rfl
  have := tick_any ⟨3, 2147483647, 2147483647, 0, 0⟩ w
  rw [e] at this
  exact this

theorem c6 (w : World) : Calls Try.prog 13 #[clk 1 2 0 65535 65536, .int .i64 65536] w fun en w' => en = .returned (.tuple #[clk 0 0 0 0 0, .bool false, .int .i64 2]) ∧ Below w.heap.size w w' := by
  have e : K.hear ⟨1, 2, 0, 65535, 65536⟩ 65536 = (⟨0, 0, 0, 0, 0⟩, false, 2) := by kernel_rfl
  have := hear_any ⟨1, 2, 0, 65535, 65536⟩ 65536 w
  rw [e] at this
  exact this

set_option maxHeartbeats 2000000 in
theorem walk (w : World) : Calls Try.prog 8 #[] w fun en w' => en = .returned (.bool true) ∧ Below w.heap.size w w' := by
  go_enter Try.func8, Try.ntmps8
  go_wp2_with fail
  refine (new_no (by decide) _).mono ?_
  rintro en w1 ⟨rfl, hb1⟩
  have hz1 := hb1.size
  (try simp at hz1)
  go_wp2_with fail
  refine (new_no (by decide) _).mono ?_
  rintro en w2 ⟨rfl, hb2⟩
  have hz2 := hb2.size
  (try simp at hz2)
  go_wp2_with fail
  refine (new_yes (by decide) _).mono ?_
  rintro en w3 ⟨rfl, hb3⟩
  have hz3 := hb3.size
  (try simp at hz3)
  go_wp2_with fail
  refine (c1 _).mono ?_
  rintro en w4 ⟨rfl, hb4⟩
  have hz4 := hb4.size
  (try simp at hz4)
  (have hc4last : ∀ o, w4.cell? ⟨w3.heap.size, o, none⟩ = _ := fun o => hb4.cell (p := ⟨w3.heap.size, o, none⟩) (by first | exact Nat.le_refl _ | omega | (simp; done) | (simp; omega)); (try simp at hc4last); have hl4last : w3.heap.size < w4.heap.size := (by omega); have hf4last : ∀ o, w4.frozen? ⟨w3.heap.size, o, none⟩ = _ := fun o => hb4.frozen (p := ⟨w3.heap.size, o, none⟩) (by first | exact Nat.le_refl _ | omega | (simp; done) | (simp; omega)); (try simp at hf4last))
  go_wp2_with fail
  refine (c2 _).mono ?_
  rintro en w5 ⟨rfl, hb5⟩
  have hz5 := hb5.size
  (try simp at hz5)
  (have hc5last : ∀ o, w5.cell? ⟨w3.heap.size, o, none⟩ = _ := fun o => hb5.cell (p := ⟨w3.heap.size, o, none⟩) (by first | exact Nat.le_refl _ | omega | (simp; done) | (simp; omega)); (try simp [World.cell?_alloc_past, World.frozen?_alloc_past, hc4last, hf4last, hl4last] at hc5last); have hl5last : w3.heap.size < w5.heap.size := (by omega); have hf5last : ∀ o, w5.frozen? ⟨w3.heap.size, o, none⟩ = _ := fun o => hb5.frozen (p := ⟨w3.heap.size, o, none⟩) (by first | exact Nat.le_refl _ | omega | (simp; done) | (simp; omega)); (try simp [World.cell?_alloc_past, World.frozen?_alloc_past, hc4last, hf4last, hl4last] at hf5last); have hc5a : ∀ o, w5.cell? ⟨w4.heap.size, o, none⟩ = _ := fun o => hb5.cell (p := ⟨w4.heap.size, o, none⟩) (by first | exact Nat.le_refl _ | omega | (simp; done) | (simp; omega)); (try simp [World.cell?_alloc_past, World.frozen?_alloc_past, hc4last, hf4last, hl4last] at hc5a); have hl5a : w4.heap.size < w5.heap.size := (by omega); have hf5a : ∀ o, w5.frozen? ⟨w4.heap.size, o, none⟩ = _ := fun o => hb5.frozen (p := ⟨w4.heap.size, o, none⟩) (by first | exact Nat.le_refl _ | omega | (simp; done) | (simp; omega)); (try simp [World.cell?_alloc_past, World.frozen?_alloc_past, hc4last, hf4last, hl4last] at hf5a))
  clear hc4last hf4last hl4last
  go_wp2_with fail
  refine (c3 _).mono ?_
  rintro en w6 ⟨rfl, hb6⟩
  have hz6 := hb6.size
  (try simp at hz6)
  (have hc6last : ∀ o, w6.cell? ⟨w3.heap.size, o, none⟩ = _ := fun o => hb6.cell (p := ⟨w3.heap.size, o, none⟩) (by first | exact Nat.le_refl _ | omega | (simp; done) | (simp; omega)); (try simp [World.cell?_alloc_past, World.frozen?_alloc_past, hc5last, hf5last, hl5last, hc5a, hf5a, hl5a] at hc6last); have hl6last : w3.heap.size < w6.heap.size := (by omega); have hf6last : ∀ o, w6.frozen? ⟨w3.heap.size, o, none⟩ = _ := fun o => hb6.frozen (p := ⟨w3.heap.size, o, none⟩) (by first | exact Nat.le_refl _ | omega | (simp; done) | (simp; omega)); (try simp [World.cell?_alloc_past, World.frozen?_alloc_past, hc5last, hf5last, hl5last, hc5a, hf5a, hl5a] at hf6last); have hc6b : ∀ o, w6.cell? ⟨w5.heap.size, o, none⟩ = _ := fun o => hb6.cell (p := ⟨w5.heap.size, o, none⟩) (by first | exact Nat.le_refl _ | omega | (simp; done) | (simp; omega)); (try simp [World.cell?_alloc_past, World.frozen?_alloc_past, hc5last, hf5last, hl5last, hc5a, hf5a, hl5a] at hc6b); have hl6b : w5.heap.size < w6.heap.size := (by omega); have hf6b : ∀ o, w6.frozen? ⟨w5.heap.size, o, none⟩ = _ := fun o => hb6.frozen (p := ⟨w5.heap.size, o, none⟩) (by first | exact Nat.le_refl _ | omega | (simp; done) | (simp; omega)); (try simp [World.cell?_alloc_past, World.frozen?_alloc_past, hc5last, hf5last, hl5last, hc5a, hf5a, hl5a] at hf6b))
  clear hc5last hf5last hl5last hc5a hf5a hl5a
  go_wp2_with fail
  refine (c4 _).mono ?_
  rintro en w7 ⟨rfl, hb7⟩
  have hz7 := hb7.size
  (try simp at hz7)
  (have hc7last : ∀ o, w7.cell? ⟨w3.heap.size, o, none⟩ = _ := fun o => hb7.cell (p := ⟨w3.heap.size, o, none⟩) (by first | exact Nat.le_refl _ | omega | (simp; done) | (simp; omega)); (try simp [World.cell?_alloc_past, World.frozen?_alloc_past, hc6last, hf6last, hl6last, hc6b, hf6b, hl6b] at hc7last); have hl7last : w3.heap.size < w7.heap.size := (by omega); have hf7last : ∀ o, w7.frozen? ⟨w3.heap.size, o, none⟩ = _ := fun o => hb7.frozen (p := ⟨w3.heap.size, o, none⟩) (by first | exact Nat.le_refl _ | omega | (simp; done) | (simp; omega)); (try simp [World.cell?_alloc_past, World.frozen?_alloc_past, hc6last, hf6last, hl6last, hc6b, hf6b, hl6b] at hf7last); have hc7b : ∀ o, w7.cell? ⟨w5.heap.size, o, none⟩ = _ := fun o => hb7.cell (p := ⟨w5.heap.size, o, none⟩) (by first | exact Nat.le_refl _ | omega | (simp; done) | (simp; omega)); (try simp [World.cell?_alloc_past, World.frozen?_alloc_past, hc6last, hf6last, hl6last, hc6b, hf6b, hl6b] at hc7b); have hl7b : w5.heap.size < w7.heap.size := (by omega); have hf7b : ∀ o, w7.frozen? ⟨w5.heap.size, o, none⟩ = _ := fun o => hb7.frozen (p := ⟨w5.heap.size, o, none⟩) (by first | exact Nat.le_refl _ | omega | (simp; done) | (simp; omega)); (try simp [World.cell?_alloc_past, World.frozen?_alloc_past, hc6last, hf6last, hl6last, hc6b, hf6b, hl6b] at hf7b))
  clear hc6last hf6last hl6last hc6b hf6b hl6b
  go_wp2_with fail
  refine (c5 _).mono ?_
  rintro en w8 ⟨rfl, hb8⟩
  have hz8 := hb8.size
  (try simp at hz8)
  (have hc8b : ∀ o, w8.cell? ⟨w5.heap.size, o, none⟩ = _ := fun o => hb8.cell (p := ⟨w5.heap.size, o, none⟩) (by first | exact Nat.le_refl _ | omega | (simp; done) | (simp; omega)); (try simp [World.cell?_alloc_past, World.frozen?_alloc_past, hc7last, hf7last, hl7last, hc7b, hf7b, hl7b] at hc8b); have hl8b : w5.heap.size < w8.heap.size := (by omega); have hf8b : ∀ o, w8.frozen? ⟨w5.heap.size, o, none⟩ = _ := fun o => hb8.frozen (p := ⟨w5.heap.size, o, none⟩) (by first | exact Nat.le_refl _ | omega | (simp; done) | (simp; omega)); (try simp [World.cell?_alloc_past, World.frozen?_alloc_past, hc7last, hf7last, hl7last, hc7b, hf7b, hl7b] at hf8b))
  clear hc7last hf7last hl7last hc7b hf7b hl7b
  go_wp2_with fail
  refine (c6 _).mono ?_
  rintro en w9 ⟨rfl, hb9⟩
  have hz9 := hb9.size
  (try simp at hz9)
  (have hc9b : ∀ o, w9.cell? ⟨w5.heap.size, o, none⟩ = _ := fun o => hb9.cell (p := ⟨w5.heap.size, o, none⟩) (by first | exact Nat.le_refl _ | omega | (simp; done) | (simp; omega)); (try simp [World.cell?_alloc_past, World.frozen?_alloc_past, hc8b, hf8b, hl8b] at hc9b); have hl9b : w5.heap.size < w9.heap.size := (by omega); have hf9b : ∀ o, w9.frozen? ⟨w5.heap.size, o, none⟩ = _ := fun o => hb9.frozen (p := ⟨w5.heap.size, o, none⟩) (by first | exact Nat.le_refl _ | omega | (simp; done) | (simp; omega)); (try simp [World.cell?_alloc_past, World.frozen?_alloc_past, hc8b, hf8b, hl8b] at hf9b))
  clear hc8b hf8b hl8b
  go_wp2_with fail
  refine (check_no (by decide) _).mono ?_
  rintro en w10 ⟨rfl, hb10⟩
  have hz10 := hb10.size
  (try simp at hz10)
  (have hc10b : ∀ o, w10.cell? ⟨w5.heap.size, o, none⟩ = _ := fun o => hb10.cell (p := ⟨w5.heap.size, o, none⟩) (by first | exact Nat.le_refl _ | omega | (simp; done) | (simp; omega)); (try simp [World.cell?_alloc_past, World.frozen?_alloc_past, hc9b, hf9b, hl9b] at hc10b); have hl10b : w5.heap.size < w10.heap.size := (by omega); have hf10b : ∀ o, w10.frozen? ⟨w5.heap.size, o, none⟩ = _ := fun o => hb10.frozen (p := ⟨w5.heap.size, o, none⟩) (by first | exact Nat.le_refl _ | omega | (simp; done) | (simp; omega)); (try simp [World.cell?_alloc_past, World.frozen?_alloc_past, hc9b, hf9b, hl9b] at hf10b))
  clear hc9b hf9b hl9b
  go_wp2_with fail
  refine (check_no (by decide) _).mono ?_
  rintro en w11 ⟨rfl, hb11⟩
  have hz11 := hb11.size
  (try simp at hz11)
  (have hc11b : ∀ o, w11.cell? ⟨w5.heap.size, o, none⟩ = _ := fun o => hb11.cell (p := ⟨w5.heap.size, o, none⟩) (by first | exact Nat.le_refl _ | omega | (simp; done) | (simp; omega)); (try simp [World.cell?_alloc_past, World.frozen?_alloc_past, hc10b, hf10b, hl10b] at hc11b); have hl11b : w5.heap.size < w11.heap.size := (by omega); have hf11b : ∀ o, w11.frozen? ⟨w5.heap.size, o, none⟩ = _ := fun o => hb11.frozen (p := ⟨w5.heap.size, o, none⟩) (by first | exact Nat.le_refl _ | omega | (simp; done) | (simp; omega)); (try simp [World.cell?_alloc_past, World.frozen?_alloc_past, hc10b, hf10b, hl10b] at hf11b))
  clear hc10b hf10b hl10b
  go_wp2_with fail
  refine (check_no (by decide) _).mono ?_
  rintro en w12 ⟨rfl, hb12⟩
  have hz12 := hb12.size
  (try simp at hz12)
  (have hc12b : ∀ o, w12.cell? ⟨w5.heap.size, o, none⟩ = _ := fun o => hb12.cell (p := ⟨w5.heap.size, o, none⟩) (by first | exact Nat.le_refl _ | omega | (simp; done) | (simp; omega)); (try simp [World.cell?_alloc_past, World.frozen?_alloc_past, hc11b, hf11b, hl11b] at hc12b); have hl12b : w5.heap.size < w12.heap.size := (by omega); have hf12b : ∀ o, w12.frozen? ⟨w5.heap.size, o, none⟩ = _ := fun o => hb12.frozen (p := ⟨w5.heap.size, o, none⟩) (by first | exact Nat.le_refl _ | omega | (simp; done) | (simp; omega)); (try simp [World.cell?_alloc_past, World.frozen?_alloc_past, hc11b, hf11b, hl11b] at hf12b))
  clear hc11b hf11b hl11b
  go_wp2_with fail
  refine (alive_any _).mono ?_
  rintro en w13 ⟨rfl, hb13⟩
  have hz13 := hb13.size
  (try simp at hz13)
  (have hc13b : ∀ o, w13.cell? ⟨w5.heap.size, o, none⟩ = _ := fun o => hb13.cell (p := ⟨w5.heap.size, o, none⟩) (by first | exact Nat.le_refl _ | omega | (simp; done) | (simp; omega)); (try simp [World.cell?_alloc_past, World.frozen?_alloc_past, hc12b, hf12b, hl12b] at hc13b); have hl13b : w5.heap.size < w13.heap.size := (by omega); have hf13b : ∀ o, w13.frozen? ⟨w5.heap.size, o, none⟩ = _ := fun o => hb13.frozen (p := ⟨w5.heap.size, o, none⟩) (by first | exact Nat.le_refl _ | omega | (simp; done) | (simp; omega)); (try simp [World.cell?_alloc_past, World.frozen?_alloc_past, hc12b, hf12b, hl12b] at hf13b))
  clear hc12b hf12b hl12b
  go_wp2
  go_ret
  refine ⟨rfl, ?_⟩
  repeat (first | (with_reducible exact Below.refl _ _) | (with_reducible refine Below.drew ?_) | (with_reducible refine below_drewN ?_ _) | ((with_reducible refine Below.setCell ?_ ?_ _); rotate_left; focus (first | exact Nat.le_refl _ | omega | (simp; done) | (simp; omega))) | ((with_reducible refine Below.alloc ?_ ?_ _); rotate_left; focus (first | exact Nat.le_refl _ | omega | (simp; done) | (simp; omega))) | ((with_reducible refine Below.trans ?_ (Below.mono hb1 ?_)); rotate_left; focus (first | exact Nat.le_refl _ | omega | (simp; done) | (simp; omega))) | ((with_reducible refine Below.trans ?_ (Below.mono hb2 ?_)); rotate_left; focus (first | exact Nat.le_refl _ | omega | (simp; done) | (simp; omega))) | ((with_reducible refine Below.trans ?_ (Below.mono hb3 ?_)); rotate_left; focus (first | exact Nat.le_refl _ | omega | (simp; done) | (simp; omega))) | ((with_reducible refine Below.trans ?_ (Below.mono hb4 ?_)); rotate_left; focus (first | exact Nat.le_refl _ | omega | (simp; done) | (simp; omega))) | ((with_reducible refine Below.trans ?_ (Below.mono hb5 ?_)); rotate_left; focus (first | exact Nat.le_refl _ | omega | (simp; done) | (simp; omega))) | ((with_reducible refine Below.trans ?_ (Below.mono hb6 ?_)); rotate_left; focus (first | exact Nat.le_refl _ | omega | (simp; done) | (simp; omega))) | ((with_reducible refine Below.trans ?_ (Below.mono hb7 ?_)); rotate_left; focus (first | exact Nat.le_refl _ | omega | (simp; done) | (simp; omega))) | ((with_reducible refine Below.trans ?_ (Below.mono hb8 ?_)); rotate_left; focus (first | exact Nat.le_refl _ | omega | (simp; done) | (simp; omega))) | ((with_reducible refine Below.trans ?_ (Below.mono hb9 ?_)); rotate_left; focus (first | exact Nat.le_refl _ | omega | (simp; done) | (simp; omega))) | ((with_reducible refine Below.trans ?_ (Below.mono hb10 ?_)); rotate_left; focus (first | exact Nat.le_refl _ | omega | (simp; done) | (simp; omega))) | ((with_reducible refine Below.trans ?_ (Below.mono hb11 ?_)); rotate_left; focus (first | exact Nat.le_refl _ | omega | (simp; done) | (simp; omega))) | ((with_reducible refine Below.trans ?_ (Below.mono hb12 ?_)); rotate_left; focus (first | exact Nat.le_refl _ | omega | (simp; done) | (simp; omega))) | ((with_reducible refine Below.trans ?_ (Below.mono hb13 ?_)); rotate_left; focus (first | exact Nat.le_refl _ | omega | (simp; done) | (simp; omega))))
end Go.Proofs.Ytihijhmahoelhaa.EpochNames
