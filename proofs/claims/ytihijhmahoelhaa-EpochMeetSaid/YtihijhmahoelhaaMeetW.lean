/- Epoch: the walk of the law EpochMeet. -/
import Derived.Test.YtihijhmahoelhaaH
namespace Go.Proofs.Ytihijhmahoelhaa.EpochMeet
open Go.ChangeShapes Go.WideShapes Go.ChangeAt Go.RowKit
set_option linter.unusedSimpArgs false
set_option maxHeartbeats 2000000 in
theorem bad1 {c o : K} (h : ¬ c.ok) (w : World) : Calls Try.prog 6 #[clk c.l c.t c.s c.e c.f, clk o.l o.t o.s o.e o.f] w fun en w' => en = .returned (.bool true) ∧ Below w.heap.size w w' := by
  go_enter Try.func6, Try.ntmps6
  go_wp2_with fail
  refine (alive_any _).mono ?_
  rintro en w1 ⟨rfl, hb1⟩
  have hz1 := hb1.size
  (try simp at hz1)
  (have hc1c : ∀ o, w1.cell? ⟨w.heap.size, o, none⟩ = _ := fun o => hb1.cell (p := ⟨w.heap.size, o, none⟩) (by first | exact Nat.le_refl _ | omega | (simp; done) | (simp; omega)); (try simp at hc1c); have hl1c : w.heap.size < w1.heap.size := (by omega); have hf1c : ∀ o, w1.frozen? ⟨w.heap.size, o, none⟩ = _ := fun o => hb1.frozen (p := ⟨w.heap.size, o, none⟩) (by first | exact Nat.le_refl _ | omega | (simp; done) | (simp; omega)); (try simp at hf1c); have hc1o : ∀ o, w1.cell? ⟨w.heap.size + 1, o, none⟩ = _ := fun o => hb1.cell (p := ⟨w.heap.size + 1, o, none⟩) (by first | exact Nat.le_refl _ | omega | (simp; done) | (simp; omega)); (try simp at hc1o); have hl1o : w.heap.size + 1 < w1.heap.size := (by omega); have hf1o : ∀ o, w1.frozen? ⟨w.heap.size + 1, o, none⟩ = _ := fun o => hb1.frozen (p := ⟨w.heap.size + 1, o, none⟩) (by first | exact Nat.le_refl _ | omega | (simp; done) | (simp; omega)); (try simp at hf1o))
  go_wp2_with fail
  refine (check_no h _).mono ?_
  rintro en w2 ⟨rfl, hb2⟩
  have hz2 := hb2.size
  (try simp at hz2)
  (have hc2c : ∀ o, w2.cell? ⟨w.heap.size, o, none⟩ = _ := fun o => hb2.cell (p := ⟨w.heap.size, o, none⟩) (by first | exact Nat.le_refl _ | omega | (simp; done) | (simp; omega)); (try simp [World.cell?_alloc_past, World.frozen?_alloc_past, hc1c, hf1c, hl1c, hc1o, hf1o, hl1o] at hc2c); have hl2c : w.heap.size < w2.heap.size := (by omega); have hf2c : ∀ o, w2.frozen? ⟨w.heap.size, o, none⟩ = _ := fun o => hb2.frozen (p := ⟨w.heap.size, o, none⟩) (by first | exact Nat.le_refl _ | omega | (simp; done) | (simp; omega)); (try simp [World.cell?_alloc_past, World.frozen?_alloc_past, hc1c, hf1c, hl1c, hc1o, hf1o, hl1o] at hf2c); have hc2o : ∀ o, w2.cell? ⟨w.heap.size + 1, o, none⟩ = _ := fun o => hb2.cell (p := ⟨w.heap.size + 1, o, none⟩) (by first | exact Nat.le_refl _ | omega | (simp; done) | (simp; omega)); (try simp [World.cell?_alloc_past, World.frozen?_alloc_past, hc1c, hf1c, hl1c, hc1o, hf1o, hl1o] at hc2o); have hl2o : w.heap.size + 1 < w2.heap.size := (by omega); have hf2o : ∀ o, w2.frozen? ⟨w.heap.size + 1, o, none⟩ = _ := fun o => hb2.frozen (p := ⟨w.heap.size + 1, o, none⟩) (by first | exact Nat.le_refl _ | omega | (simp; done) | (simp; omega)); (try simp [World.cell?_alloc_past, World.frozen?_alloc_past, hc1c, hf1c, hl1c, hc1o, hf1o, hl1o] at hf2o))
  clear hc1c hf1c hl1c hc1o hf1o hl1o
  go_wp2
  go_ret
  refine ⟨rfl, ?_⟩
  repeat (first | (with_reducible exact Below.refl _ _) | (with_reducible refine Below.drew ?_) | (with_reducible refine below_drewN ?_ _) | ((with_reducible refine Below.setCell ?_ ?_ _); rotate_left; focus (first | exact Nat.le_refl _ | omega | (simp; done) | (simp; omega))) | ((with_reducible refine Below.alloc ?_ ?_ _); rotate_left; focus (first | exact Nat.le_refl _ | omega | (simp; done) | (simp; omega))) | ((with_reducible refine Below.trans ?_ (Below.mono hb1 ?_)); rotate_left; focus (first | exact Nat.le_refl _ | omega | (simp; done) | (simp; omega))) | ((with_reducible refine Below.trans ?_ (Below.mono hb2 ?_)); rotate_left; focus (first | exact Nat.le_refl _ | omega | (simp; done) | (simp; omega))))

set_option maxHeartbeats 2000000 in
theorem bad2 {c o : K} (h : c.ok) (h2 : ¬ o.ok) (w : World) : Calls Try.prog 6 #[clk c.l c.t c.s c.e c.f, clk o.l o.t o.s o.e o.f] w fun en w' => en = .returned (.bool true) ∧ Below w.heap.size w w' := by
  go_enter Try.func6, Try.ntmps6
  go_wp2_with fail
  refine (alive_any _).mono ?_
  rintro en w1 ⟨rfl, hb1⟩
  have hz1 := hb1.size
  (try simp at hz1)
  (have hc1c : ∀ o, w1.cell? ⟨w.heap.size, o, none⟩ = _ := fun o => hb1.cell (p := ⟨w.heap.size, o, none⟩) (by first | exact Nat.le_refl _ | omega | (simp; done) | (simp; omega)); (try simp at hc1c); have hl1c : w.heap.size < w1.heap.size := (by omega); have hf1c : ∀ o, w1.frozen? ⟨w.heap.size, o, none⟩ = _ := fun o => hb1.frozen (p := ⟨w.heap.size, o, none⟩) (by first | exact Nat.le_refl _ | omega | (simp; done) | (simp; omega)); (try simp at hf1c); have hc1o : ∀ o, w1.cell? ⟨w.heap.size + 1, o, none⟩ = _ := fun o => hb1.cell (p := ⟨w.heap.size + 1, o, none⟩) (by first | exact Nat.le_refl _ | omega | (simp; done) | (simp; omega)); (try simp at hc1o); have hl1o : w.heap.size + 1 < w1.heap.size := (by omega); have hf1o : ∀ o, w1.frozen? ⟨w.heap.size + 1, o, none⟩ = _ := fun o => hb1.frozen (p := ⟨w.heap.size + 1, o, none⟩) (by first | exact Nat.le_refl _ | omega | (simp; done) | (simp; omega)); (try simp at hf1o))
  go_wp2_with fail
  refine (check_yes h _).mono ?_
  rintro en w2 ⟨rfl, hb2⟩
  have hz2 := hb2.size
  (try simp at hz2)
  (have hc2c : ∀ o, w2.cell? ⟨w.heap.size, o, none⟩ = _ := fun o => hb2.cell (p := ⟨w.heap.size, o, none⟩) (by first | exact Nat.le_refl _ | omega | (simp; done) | (simp; omega)); (try simp [World.cell?_alloc_past, World.frozen?_alloc_past, hc1c, hf1c, hl1c, hc1o, hf1o, hl1o] at hc2c); have hl2c : w.heap.size < w2.heap.size := (by omega); have hf2c : ∀ o, w2.frozen? ⟨w.heap.size, o, none⟩ = _ := fun o => hb2.frozen (p := ⟨w.heap.size, o, none⟩) (by first | exact Nat.le_refl _ | omega | (simp; done) | (simp; omega)); (try simp [World.cell?_alloc_past, World.frozen?_alloc_past, hc1c, hf1c, hl1c, hc1o, hf1o, hl1o] at hf2c); have hc2o : ∀ o, w2.cell? ⟨w.heap.size + 1, o, none⟩ = _ := fun o => hb2.cell (p := ⟨w.heap.size + 1, o, none⟩) (by first | exact Nat.le_refl _ | omega | (simp; done) | (simp; omega)); (try simp [World.cell?_alloc_past, World.frozen?_alloc_past, hc1c, hf1c, hl1c, hc1o, hf1o, hl1o] at hc2o); have hl2o : w.heap.size + 1 < w2.heap.size := (by omega); have hf2o : ∀ o, w2.frozen? ⟨w.heap.size + 1, o, none⟩ = _ := fun o => hb2.frozen (p := ⟨w.heap.size + 1, o, none⟩) (by first | exact Nat.le_refl _ | omega | (simp; done) | (simp; omega)); (try simp [World.cell?_alloc_past, World.frozen?_alloc_past, hc1c, hf1c, hl1c, hc1o, hf1o, hl1o] at hf2o))
  clear hc1c hf1c hl1c hc1o hf1o hl1o
  go_wp2_with fail
  refine (check_no h2 _).mono ?_
  rintro en w3 ⟨rfl, hb3⟩
  have hz3 := hb3.size
  (try simp at hz3)
  (have hc3c : ∀ o, w3.cell? ⟨w.heap.size, o, none⟩ = _ := fun o => hb3.cell (p := ⟨w.heap.size, o, none⟩) (by first | exact Nat.le_refl _ | omega | (simp; done) | (simp; omega)); (try simp [World.cell?_alloc_past, World.frozen?_alloc_past, hc2c, hf2c, hl2c, hc2o, hf2o, hl2o] at hc3c); have hl3c : w.heap.size < w3.heap.size := (by omega); have hf3c : ∀ o, w3.frozen? ⟨w.heap.size, o, none⟩ = _ := fun o => hb3.frozen (p := ⟨w.heap.size, o, none⟩) (by first | exact Nat.le_refl _ | omega | (simp; done) | (simp; omega)); (try simp [World.cell?_alloc_past, World.frozen?_alloc_past, hc2c, hf2c, hl2c, hc2o, hf2o, hl2o] at hf3c); have hc3o : ∀ o, w3.cell? ⟨w.heap.size + 1, o, none⟩ = _ := fun o => hb3.cell (p := ⟨w.heap.size + 1, o, none⟩) (by first | exact Nat.le_refl _ | omega | (simp; done) | (simp; omega)); (try simp [World.cell?_alloc_past, World.frozen?_alloc_past, hc2c, hf2c, hl2c, hc2o, hf2o, hl2o] at hc3o); have hl3o : w.heap.size + 1 < w3.heap.size := (by omega); have hf3o : ∀ o, w3.frozen? ⟨w.heap.size + 1, o, none⟩ = _ := fun o => hb3.frozen (p := ⟨w.heap.size + 1, o, none⟩) (by first | exact Nat.le_refl _ | omega | (simp; done) | (simp; omega)); (try simp [World.cell?_alloc_past, World.frozen?_alloc_past, hc2c, hf2c, hl2c, hc2o, hf2o, hl2o] at hf3o))
  clear hc2c hf2c hl2c hc2o hf2o hl2o
  go_wp2
  go_ret
  refine ⟨rfl, ?_⟩
  repeat (first | (with_reducible exact Below.refl _ _) | (with_reducible refine Below.drew ?_) | (with_reducible refine below_drewN ?_ _) | ((with_reducible refine Below.setCell ?_ ?_ _); rotate_left; focus (first | exact Nat.le_refl _ | omega | (simp; done) | (simp; omega))) | ((with_reducible refine Below.alloc ?_ ?_ _); rotate_left; focus (first | exact Nat.le_refl _ | omega | (simp; done) | (simp; omega))) | ((with_reducible refine Below.trans ?_ (Below.mono hb1 ?_)); rotate_left; focus (first | exact Nat.le_refl _ | omega | (simp; done) | (simp; omega))) | ((with_reducible refine Below.trans ?_ (Below.mono hb2 ?_)); rotate_left; focus (first | exact Nat.le_refl _ | omega | (simp; done) | (simp; omega))) | ((with_reducible refine Below.trans ?_ (Below.mono hb3 ?_)); rotate_left; focus (first | exact Nat.le_refl _ | omega | (simp; done) | (simp; omega))))

set_option maxHeartbeats 2000000 in
theorem up1 {c o : K} (h : c.ok) (h2 : o.ok) (h3 : c.e < o.e) (w : World) : Calls Try.prog 6 #[clk c.l c.t c.s c.e c.f, clk o.l o.t o.s o.e o.f] w fun en w' => en = .returned (.bool true) ∧ Below w.heap.size w w' := by
  obtain ⟨b1, b2, b3, b4, b5, b6, b7, b8, b9⟩ := ok_bounds h
  obtain ⟨d1, d2, d3, d4, d5, d6, d7, d8, d9⟩ := ok_bounds h2
  have x1 : (decide (c.e < o.e)) = true := by simpa using h3
  have x2 : (decide (o.e < c.e)) = false := by simp; omega
  go_enter Try.func6, Try.ntmps6
  go_wp2_with fail
  refine (alive_any _).mono ?_
  rintro en w1 ⟨rfl, hb1⟩
  have hz1 := hb1.size
  (try simp at hz1)
  (have hc1c : ∀ o, w1.cell? ⟨w.heap.size, o, none⟩ = _ := fun o => hb1.cell (p := ⟨w.heap.size, o, none⟩) (by first | exact Nat.le_refl _ | omega | (simp; done) | (simp; omega)); (try simp at hc1c); have hl1c : w.heap.size < w1.heap.size := (by omega); have hf1c : ∀ o, w1.frozen? ⟨w.heap.size, o, none⟩ = _ := fun o => hb1.frozen (p := ⟨w.heap.size, o, none⟩) (by first | exact Nat.le_refl _ | omega | (simp; done) | (simp; omega)); (try simp at hf1c); have hc1o : ∀ o, w1.cell? ⟨w.heap.size + 1, o, none⟩ = _ := fun o => hb1.cell (p := ⟨w.heap.size + 1, o, none⟩) (by first | exact Nat.le_refl _ | omega | (simp; done) | (simp; omega)); (try simp at hc1o); have hl1o : w.heap.size + 1 < w1.heap.size := (by omega); have hf1o : ∀ o, w1.frozen? ⟨w.heap.size + 1, o, none⟩ = _ := fun o => hb1.frozen (p := ⟨w.heap.size + 1, o, none⟩) (by first | exact Nat.le_refl _ | omega | (simp; done) | (simp; omega)); (try simp at hf1o))
  go_wp2_with fail
  refine (check_yes h _).mono ?_
  rintro en w2 ⟨rfl, hb2⟩
  have hz2 := hb2.size
  (try simp at hz2)
  (have hc2c : ∀ o, w2.cell? ⟨w.heap.size, o, none⟩ = _ := fun o => hb2.cell (p := ⟨w.heap.size, o, none⟩) (by first | exact Nat.le_refl _ | omega | (simp; done) | (simp; omega)); (try simp [World.cell?_alloc_past, World.frozen?_alloc_past, hc1c, hf1c, hl1c, hc1o, hf1o, hl1o] at hc2c); have hl2c : w.heap.size < w2.heap.size := (by omega); have hf2c : ∀ o, w2.frozen? ⟨w.heap.size, o, none⟩ = _ := fun o => hb2.frozen (p := ⟨w.heap.size, o, none⟩) (by first | exact Nat.le_refl _ | omega | (simp; done) | (simp; omega)); (try simp [World.cell?_alloc_past, World.frozen?_alloc_past, hc1c, hf1c, hl1c, hc1o, hf1o, hl1o] at hf2c); have hc2o : ∀ o, w2.cell? ⟨w.heap.size + 1, o, none⟩ = _ := fun o => hb2.cell (p := ⟨w.heap.size + 1, o, none⟩) (by first | exact Nat.le_refl _ | omega | (simp; done) | (simp; omega)); (try simp [World.cell?_alloc_past, World.frozen?_alloc_past, hc1c, hf1c, hl1c, hc1o, hf1o, hl1o] at hc2o); have hl2o : w.heap.size + 1 < w2.heap.size := (by omega); have hf2o : ∀ o, w2.frozen? ⟨w.heap.size + 1, o, none⟩ = _ := fun o => hb2.frozen (p := ⟨w.heap.size + 1, o, none⟩) (by first | exact Nat.le_refl _ | omega | (simp; done) | (simp; omega)); (try simp [World.cell?_alloc_past, World.frozen?_alloc_past, hc1c, hf1c, hl1c, hc1o, hf1o, hl1o] at hf2o))
  clear hc1c hf1c hl1c hc1o hf1o hl1o
  go_wp2_with fail
  refine (check_yes h2 _).mono ?_
  rintro en w3 ⟨rfl, hb3⟩
  have hz3 := hb3.size
  (try simp at hz3)
  (have hc3c : ∀ o, w3.cell? ⟨w.heap.size, o, none⟩ = _ := fun o => hb3.cell (p := ⟨w.heap.size, o, none⟩) (by first | exact Nat.le_refl _ | omega | (simp; done) | (simp; omega)); (try simp [World.cell?_alloc_past, World.frozen?_alloc_past, hc2c, hf2c, hl2c, hc2o, hf2o, hl2o] at hc3c); have hl3c : w.heap.size < w3.heap.size := (by omega); have hf3c : ∀ o, w3.frozen? ⟨w.heap.size, o, none⟩ = _ := fun o => hb3.frozen (p := ⟨w.heap.size, o, none⟩) (by first | exact Nat.le_refl _ | omega | (simp; done) | (simp; omega)); (try simp [World.cell?_alloc_past, World.frozen?_alloc_past, hc2c, hf2c, hl2c, hc2o, hf2o, hl2o] at hf3c); have hc3o : ∀ o, w3.cell? ⟨w.heap.size + 1, o, none⟩ = _ := fun o => hb3.cell (p := ⟨w.heap.size + 1, o, none⟩) (by first | exact Nat.le_refl _ | omega | (simp; done) | (simp; omega)); (try simp [World.cell?_alloc_past, World.frozen?_alloc_past, hc2c, hf2c, hl2c, hc2o, hf2o, hl2o] at hc3o); have hl3o : w.heap.size + 1 < w3.heap.size := (by omega); have hf3o : ∀ o, w3.frozen? ⟨w.heap.size + 1, o, none⟩ = _ := fun o => hb3.frozen (p := ⟨w.heap.size + 1, o, none⟩) (by first | exact Nat.le_refl _ | omega | (simp; done) | (simp; omega)); (try simp [World.cell?_alloc_past, World.frozen?_alloc_past, hc2c, hf2c, hl2c, hc2o, hf2o, hl2o] at hf3o))
  clear hc2c hf2c hl2c hc2o hf2o hl2o
  go_wp2_with fail
  refine (hear_up h d6 d7 h3 _).mono ?_
  rintro en w4 ⟨rfl, hb4⟩
  have hz4 := hb4.size
  (try simp at hz4)
  (have hc4c : ∀ o, w4.cell? ⟨w.heap.size, o, none⟩ = _ := fun o => hb4.cell (p := ⟨w.heap.size, o, none⟩) (by first | exact Nat.le_refl _ | omega | (simp; done) | (simp; omega)); (try simp [World.cell?_alloc_past, World.frozen?_alloc_past, hc3c, hf3c, hl3c, hc3o, hf3o, hl3o] at hc4c); have hl4c : w.heap.size < w4.heap.size := (by omega); have hf4c : ∀ o, w4.frozen? ⟨w.heap.size, o, none⟩ = _ := fun o => hb4.frozen (p := ⟨w.heap.size, o, none⟩) (by first | exact Nat.le_refl _ | omega | (simp; done) | (simp; omega)); (try simp [World.cell?_alloc_past, World.frozen?_alloc_past, hc3c, hf3c, hl3c, hc3o, hf3o, hl3o] at hf4c); have hc4o : ∀ o, w4.cell? ⟨w.heap.size + 1, o, none⟩ = _ := fun o => hb4.cell (p := ⟨w.heap.size + 1, o, none⟩) (by first | exact Nat.le_refl _ | omega | (simp; done) | (simp; omega)); (try simp [World.cell?_alloc_past, World.frozen?_alloc_past, hc3c, hf3c, hl3c, hc3o, hf3o, hl3o] at hc4o); have hl4o : w.heap.size + 1 < w4.heap.size := (by omega); have hf4o : ∀ o, w4.frozen? ⟨w.heap.size + 1, o, none⟩ = _ := fun o => hb4.frozen (p := ⟨w.heap.size + 1, o, none⟩) (by first | exact Nat.le_refl _ | omega | (simp; done) | (simp; omega)); (try simp [World.cell?_alloc_past, World.frozen?_alloc_past, hc3c, hf3c, hl3c, hc3o, hf3o, hl3o] at hf4o))
  clear hc3c hf3c hl3c hc3o hf3o hl3o
  go_wp2_with fail
  refine (hear_same h2 b6 b7 (Int.le_of_lt h3) _).mono ?_
  rintro en w5 ⟨rfl, hb5⟩
  have hz5 := hb5.size
  (try simp at hz5)
  (have hc5c : ∀ o, w5.cell? ⟨w.heap.size, o, none⟩ = _ := fun o => hb5.cell (p := ⟨w.heap.size, o, none⟩) (by first | exact Nat.le_refl _ | omega | (simp; done) | (simp; omega)); (try simp [World.cell?_alloc_past, World.frozen?_alloc_past, hc4c, hf4c, hl4c, hc4o, hf4o, hl4o] at hc5c); have hl5c : w.heap.size < w5.heap.size := (by omega); have hf5c : ∀ o, w5.frozen? ⟨w.heap.size, o, none⟩ = _ := fun o => hb5.frozen (p := ⟨w.heap.size, o, none⟩) (by first | exact Nat.le_refl _ | omega | (simp; done) | (simp; omega)); (try simp [World.cell?_alloc_past, World.frozen?_alloc_past, hc4c, hf4c, hl4c, hc4o, hf4o, hl4o] at hf5c); have hc5o : ∀ o, w5.cell? ⟨w.heap.size + 1, o, none⟩ = _ := fun o => hb5.cell (p := ⟨w.heap.size + 1, o, none⟩) (by first | exact Nat.le_refl _ | omega | (simp; done) | (simp; omega)); (try simp [World.cell?_alloc_past, World.frozen?_alloc_past, hc4c, hf4c, hl4c, hc4o, hf4o, hl4o] at hc5o); have hl5o : w.heap.size + 1 < w5.heap.size := (by omega); have hf5o : ∀ o, w5.frozen? ⟨w.heap.size + 1, o, none⟩ = _ := fun o => hb5.frozen (p := ⟨w.heap.size + 1, o, none⟩) (by first | exact Nat.le_refl _ | omega | (simp; done) | (simp; omega)); (try simp [World.cell?_alloc_past, World.frozen?_alloc_past, hc4c, hf4c, hl4c, hc4o, hf4o, hl4o] at hf5o); have hc5a : ∀ o, w5.cell? ⟨w4.heap.size, o, none⟩ = _ := fun o => hb5.cell (p := ⟨w4.heap.size, o, none⟩) (by first | exact Nat.le_refl _ | omega | (simp; done) | (simp; omega)); (try simp [World.cell?_alloc_past, World.frozen?_alloc_past, hc4c, hf4c, hl4c, hc4o, hf4o, hl4o] at hc5a); have hl5a : w4.heap.size < w5.heap.size := (by omega); have hf5a : ∀ o, w5.frozen? ⟨w4.heap.size, o, none⟩ = _ := fun o => hb5.frozen (p := ⟨w4.heap.size, o, none⟩) (by first | exact Nat.le_refl _ | omega | (simp; done) | (simp; omega)); (try simp [World.cell?_alloc_past, World.frozen?_alloc_past, hc4c, hf4c, hl4c, hc4o, hf4o, hl4o] at hf5a))
  clear hc4c hf4c hl4c hc4o hf4o hl4o
  go_wp2
  go_ret
  refine ⟨by simp; try omega, ?_⟩
  repeat (first | (with_reducible exact Below.refl _ _) | (with_reducible refine Below.drew ?_) | (with_reducible refine below_drewN ?_ _) | ((with_reducible refine Below.setCell ?_ ?_ _); rotate_left; focus (first | exact Nat.le_refl _ | omega | (simp; done) | (simp; omega))) | ((with_reducible refine Below.alloc ?_ ?_ _); rotate_left; focus (first | exact Nat.le_refl _ | omega | (simp; done) | (simp; omega))) | ((with_reducible refine Below.trans ?_ (Below.mono hb1 ?_)); rotate_left; focus (first | exact Nat.le_refl _ | omega | (simp; done) | (simp; omega))) | ((with_reducible refine Below.trans ?_ (Below.mono hb2 ?_)); rotate_left; focus (first | exact Nat.le_refl _ | omega | (simp; done) | (simp; omega))) | ((with_reducible refine Below.trans ?_ (Below.mono hb3 ?_)); rotate_left; focus (first | exact Nat.le_refl _ | omega | (simp; done) | (simp; omega))) | ((with_reducible refine Below.trans ?_ (Below.mono hb4 ?_)); rotate_left; focus (first | exact Nat.le_refl _ | omega | (simp; done) | (simp; omega))) | ((with_reducible refine Below.trans ?_ (Below.mono hb5 ?_)); rotate_left; focus (first | exact Nat.le_refl _ | omega | (simp; done) | (simp; omega))))

set_option maxHeartbeats 2000000 in
theorem up2 {c o : K} (h : c.ok) (h2 : o.ok) (h3 : o.e < c.e) (w : World) : Calls Try.prog 6 #[clk c.l c.t c.s c.e c.f, clk o.l o.t o.s o.e o.f] w fun en w' => en = .returned (.bool true) ∧ Below w.heap.size w w' := by
  obtain ⟨b1, b2, b3, b4, b5, b6, b7, b8, b9⟩ := ok_bounds h
  obtain ⟨d1, d2, d3, d4, d5, d6, d7, d8, d9⟩ := ok_bounds h2
  have x1 : (decide (o.e < c.e)) = true := by simpa using h3
  have x2 : (decide (c.e < o.e)) = false := by simp; omega
  go_enter Try.func6, Try.ntmps6
  go_wp2_with fail
  refine (alive_any _).mono ?_
  rintro en w1 ⟨rfl, hb1⟩
  have hz1 := hb1.size
  (try simp at hz1)
  (have hc1c : ∀ o, w1.cell? ⟨w.heap.size, o, none⟩ = _ := fun o => hb1.cell (p := ⟨w.heap.size, o, none⟩) (by first | exact Nat.le_refl _ | omega | (simp; done) | (simp; omega)); (try simp at hc1c); have hl1c : w.heap.size < w1.heap.size := (by omega); have hf1c : ∀ o, w1.frozen? ⟨w.heap.size, o, none⟩ = _ := fun o => hb1.frozen (p := ⟨w.heap.size, o, none⟩) (by first | exact Nat.le_refl _ | omega | (simp; done) | (simp; omega)); (try simp at hf1c); have hc1o : ∀ o, w1.cell? ⟨w.heap.size + 1, o, none⟩ = _ := fun o => hb1.cell (p := ⟨w.heap.size + 1, o, none⟩) (by first | exact Nat.le_refl _ | omega | (simp; done) | (simp; omega)); (try simp at hc1o); have hl1o : w.heap.size + 1 < w1.heap.size := (by omega); have hf1o : ∀ o, w1.frozen? ⟨w.heap.size + 1, o, none⟩ = _ := fun o => hb1.frozen (p := ⟨w.heap.size + 1, o, none⟩) (by first | exact Nat.le_refl _ | omega | (simp; done) | (simp; omega)); (try simp at hf1o))
  go_wp2_with fail
  refine (check_yes h _).mono ?_
  rintro en w2 ⟨rfl, hb2⟩
  have hz2 := hb2.size
  (try simp at hz2)
  (have hc2c : ∀ o, w2.cell? ⟨w.heap.size, o, none⟩ = _ := fun o => hb2.cell (p := ⟨w.heap.size, o, none⟩) (by first | exact Nat.le_refl _ | omega | (simp; done) | (simp; omega)); (try simp [World.cell?_alloc_past, World.frozen?_alloc_past, hc1c, hf1c, hl1c, hc1o, hf1o, hl1o] at hc2c); have hl2c : w.heap.size < w2.heap.size := (by omega); have hf2c : ∀ o, w2.frozen? ⟨w.heap.size, o, none⟩ = _ := fun o => hb2.frozen (p := ⟨w.heap.size, o, none⟩) (by first | exact Nat.le_refl _ | omega | (simp; done) | (simp; omega)); (try simp [World.cell?_alloc_past, World.frozen?_alloc_past, hc1c, hf1c, hl1c, hc1o, hf1o, hl1o] at hf2c); have hc2o : ∀ o, w2.cell? ⟨w.heap.size + 1, o, none⟩ = _ := fun o => hb2.cell (p := ⟨w.heap.size + 1, o, none⟩) (by first | exact Nat.le_refl _ | omega | (simp; done) | (simp; omega)); (try simp [World.cell?_alloc_past, World.frozen?_alloc_past, hc1c, hf1c, hl1c, hc1o, hf1o, hl1o] at hc2o); have hl2o : w.heap.size + 1 < w2.heap.size := (by omega); have hf2o : ∀ o, w2.frozen? ⟨w.heap.size + 1, o, none⟩ = _ := fun o => hb2.frozen (p := ⟨w.heap.size + 1, o, none⟩) (by first | exact Nat.le_refl _ | omega | (simp; done) | (simp; omega)); (try simp [World.cell?_alloc_past, World.frozen?_alloc_past, hc1c, hf1c, hl1c, hc1o, hf1o, hl1o] at hf2o))
  clear hc1c hf1c hl1c hc1o hf1o hl1o
  go_wp2_with fail
  refine (check_yes h2 _).mono ?_
  rintro en w3 ⟨rfl, hb3⟩
  have hz3 := hb3.size
  (try simp at hz3)
  (have hc3c : ∀ o, w3.cell? ⟨w.heap.size, o, none⟩ = _ := fun o => hb3.cell (p := ⟨w.heap.size, o, none⟩) (by first | exact Nat.le_refl _ | omega | (simp; done) | (simp; omega)); (try simp [World.cell?_alloc_past, World.frozen?_alloc_past, hc2c, hf2c, hl2c, hc2o, hf2o, hl2o] at hc3c); have hl3c : w.heap.size < w3.heap.size := (by omega); have hf3c : ∀ o, w3.frozen? ⟨w.heap.size, o, none⟩ = _ := fun o => hb3.frozen (p := ⟨w.heap.size, o, none⟩) (by first | exact Nat.le_refl _ | omega | (simp; done) | (simp; omega)); (try simp [World.cell?_alloc_past, World.frozen?_alloc_past, hc2c, hf2c, hl2c, hc2o, hf2o, hl2o] at hf3c); have hc3o : ∀ o, w3.cell? ⟨w.heap.size + 1, o, none⟩ = _ := fun o => hb3.cell (p := ⟨w.heap.size + 1, o, none⟩) (by first | exact Nat.le_refl _ | omega | (simp; done) | (simp; omega)); (try simp [World.cell?_alloc_past, World.frozen?_alloc_past, hc2c, hf2c, hl2c, hc2o, hf2o, hl2o] at hc3o); have hl3o : w.heap.size + 1 < w3.heap.size := (by omega); have hf3o : ∀ o, w3.frozen? ⟨w.heap.size + 1, o, none⟩ = _ := fun o => hb3.frozen (p := ⟨w.heap.size + 1, o, none⟩) (by first | exact Nat.le_refl _ | omega | (simp; done) | (simp; omega)); (try simp [World.cell?_alloc_past, World.frozen?_alloc_past, hc2c, hf2c, hl2c, hc2o, hf2o, hl2o] at hf3o))
  clear hc2c hf2c hl2c hc2o hf2o hl2o
  go_wp2_with fail
  refine (hear_same h d6 d7 (Int.le_of_lt h3) _).mono ?_
  rintro en w4 ⟨rfl, hb4⟩
  have hz4 := hb4.size
  (try simp at hz4)
  (have hc4c : ∀ o, w4.cell? ⟨w.heap.size, o, none⟩ = _ := fun o => hb4.cell (p := ⟨w.heap.size, o, none⟩) (by first | exact Nat.le_refl _ | omega | (simp; done) | (simp; omega)); (try simp [World.cell?_alloc_past, World.frozen?_alloc_past, hc3c, hf3c, hl3c, hc3o, hf3o, hl3o] at hc4c); have hl4c : w.heap.size < w4.heap.size := (by omega); have hf4c : ∀ o, w4.frozen? ⟨w.heap.size, o, none⟩ = _ := fun o => hb4.frozen (p := ⟨w.heap.size, o, none⟩) (by first | exact Nat.le_refl _ | omega | (simp; done) | (simp; omega)); (try simp [World.cell?_alloc_past, World.frozen?_alloc_past, hc3c, hf3c, hl3c, hc3o, hf3o, hl3o] at hf4c); have hc4o : ∀ o, w4.cell? ⟨w.heap.size + 1, o, none⟩ = _ := fun o => hb4.cell (p := ⟨w.heap.size + 1, o, none⟩) (by first | exact Nat.le_refl _ | omega | (simp; done) | (simp; omega)); (try simp [World.cell?_alloc_past, World.frozen?_alloc_past, hc3c, hf3c, hl3c, hc3o, hf3o, hl3o] at hc4o); have hl4o : w.heap.size + 1 < w4.heap.size := (by omega); have hf4o : ∀ o, w4.frozen? ⟨w.heap.size + 1, o, none⟩ = _ := fun o => hb4.frozen (p := ⟨w.heap.size + 1, o, none⟩) (by first | exact Nat.le_refl _ | omega | (simp; done) | (simp; omega)); (try simp [World.cell?_alloc_past, World.frozen?_alloc_past, hc3c, hf3c, hl3c, hc3o, hf3o, hl3o] at hf4o))
  clear hc3c hf3c hl3c hc3o hf3o hl3o
  go_wp2_with fail
  refine (hear_up h2 b6 b7 h3 _).mono ?_
  rintro en w5 ⟨rfl, hb5⟩
  have hz5 := hb5.size
  (try simp at hz5)
  (have hc5c : ∀ o, w5.cell? ⟨w.heap.size, o, none⟩ = _ := fun o => hb5.cell (p := ⟨w.heap.size, o, none⟩) (by first | exact Nat.le_refl _ | omega | (simp; done) | (simp; omega)); (try simp [World.cell?_alloc_past, World.frozen?_alloc_past, hc4c, hf4c, hl4c, hc4o, hf4o, hl4o] at hc5c); have hl5c : w.heap.size < w5.heap.size := (by omega); have hf5c : ∀ o, w5.frozen? ⟨w.heap.size, o, none⟩ = _ := fun o => hb5.frozen (p := ⟨w.heap.size, o, none⟩) (by first | exact Nat.le_refl _ | omega | (simp; done) | (simp; omega)); (try simp [World.cell?_alloc_past, World.frozen?_alloc_past, hc4c, hf4c, hl4c, hc4o, hf4o, hl4o] at hf5c); have hc5o : ∀ o, w5.cell? ⟨w.heap.size + 1, o, none⟩ = _ := fun o => hb5.cell (p := ⟨w.heap.size + 1, o, none⟩) (by first | exact Nat.le_refl _ | omega | (simp; done) | (simp; omega)); (try simp [World.cell?_alloc_past, World.frozen?_alloc_past, hc4c, hf4c, hl4c, hc4o, hf4o, hl4o] at hc5o); have hl5o : w.heap.size + 1 < w5.heap.size := (by omega); have hf5o : ∀ o, w5.frozen? ⟨w.heap.size + 1, o, none⟩ = _ := fun o => hb5.frozen (p := ⟨w.heap.size + 1, o, none⟩) (by first | exact Nat.le_refl _ | omega | (simp; done) | (simp; omega)); (try simp [World.cell?_alloc_past, World.frozen?_alloc_past, hc4c, hf4c, hl4c, hc4o, hf4o, hl4o] at hf5o); have hc5a : ∀ o, w5.cell? ⟨w4.heap.size, o, none⟩ = _ := fun o => hb5.cell (p := ⟨w4.heap.size, o, none⟩) (by first | exact Nat.le_refl _ | omega | (simp; done) | (simp; omega)); (try simp [World.cell?_alloc_past, World.frozen?_alloc_past, hc4c, hf4c, hl4c, hc4o, hf4o, hl4o] at hc5a); have hl5a : w4.heap.size < w5.heap.size := (by omega); have hf5a : ∀ o, w5.frozen? ⟨w4.heap.size, o, none⟩ = _ := fun o => hb5.frozen (p := ⟨w4.heap.size, o, none⟩) (by first | exact Nat.le_refl _ | omega | (simp; done) | (simp; omega)); (try simp [World.cell?_alloc_past, World.frozen?_alloc_past, hc4c, hf4c, hl4c, hc4o, hf4o, hl4o] at hf5a))
  clear hc4c hf4c hl4c hc4o hf4o hl4o
  go_wp2
  go_ret
  refine ⟨by simp; try omega, ?_⟩
  repeat (first | (with_reducible exact Below.refl _ _) | (with_reducible refine Below.drew ?_) | (with_reducible refine below_drewN ?_ _) | ((with_reducible refine Below.setCell ?_ ?_ _); rotate_left; focus (first | exact Nat.le_refl _ | omega | (simp; done) | (simp; omega))) | ((with_reducible refine Below.alloc ?_ ?_ _); rotate_left; focus (first | exact Nat.le_refl _ | omega | (simp; done) | (simp; omega))) | ((with_reducible refine Below.trans ?_ (Below.mono hb1 ?_)); rotate_left; focus (first | exact Nat.le_refl _ | omega | (simp; done) | (simp; omega))) | ((with_reducible refine Below.trans ?_ (Below.mono hb2 ?_)); rotate_left; focus (first | exact Nat.le_refl _ | omega | (simp; done) | (simp; omega))) | ((with_reducible refine Below.trans ?_ (Below.mono hb3 ?_)); rotate_left; focus (first | exact Nat.le_refl _ | omega | (simp; done) | (simp; omega))) | ((with_reducible refine Below.trans ?_ (Below.mono hb4 ?_)); rotate_left; focus (first | exact Nat.le_refl _ | omega | (simp; done) | (simp; omega))) | ((with_reducible refine Below.trans ?_ (Below.mono hb5 ?_)); rotate_left; focus (first | exact Nat.le_refl _ | omega | (simp; done) | (simp; omega))))

set_option maxHeartbeats 2000000 in
theorem eq0 {l t s e f l' t' s' f' : Int} (h : ClkOK l t s e f) (h2 : ClkOK l' t' s' e f') (w : World) : Calls Try.prog 6 #[clk l t s e f, clk l' t' s' e f'] w fun en w' => en = .returned (.bool true) ∧ Below w.heap.size w w' := by
  obtain ⟨b1, b2, b3, b4, b5, b6, b7, b8, b9⟩ := ok_bounds h
  go_enter Try.func6, Try.ntmps6
  go_wp2_with fail
  refine (alive_any _).mono ?_
  rintro en w1 ⟨rfl, hb1⟩
  have hz1 := hb1.size
  (try simp at hz1)
  (have hc1c : ∀ o, w1.cell? ⟨w.heap.size, o, none⟩ = _ := fun o => hb1.cell (p := ⟨w.heap.size, o, none⟩) (by first | exact Nat.le_refl _ | omega | (simp; done) | (simp; omega)); (try simp at hc1c); have hl1c : w.heap.size < w1.heap.size := (by omega); have hf1c : ∀ o, w1.frozen? ⟨w.heap.size, o, none⟩ = _ := fun o => hb1.frozen (p := ⟨w.heap.size, o, none⟩) (by first | exact Nat.le_refl _ | omega | (simp; done) | (simp; omega)); (try simp at hf1c); have hc1o : ∀ o, w1.cell? ⟨w.heap.size + 1, o, none⟩ = _ := fun o => hb1.cell (p := ⟨w.heap.size + 1, o, none⟩) (by first | exact Nat.le_refl _ | omega | (simp; done) | (simp; omega)); (try simp at hc1o); have hl1o : w.heap.size + 1 < w1.heap.size := (by omega); have hf1o : ∀ o, w1.frozen? ⟨w.heap.size + 1, o, none⟩ = _ := fun o => hb1.frozen (p := ⟨w.heap.size + 1, o, none⟩) (by first | exact Nat.le_refl _ | omega | (simp; done) | (simp; omega)); (try simp at hf1o))
  go_wp2_with fail
  refine (check_yes h _).mono ?_
  rintro en w2 ⟨rfl, hb2⟩
  have hz2 := hb2.size
  (try simp at hz2)
  (have hc2c : ∀ o, w2.cell? ⟨w.heap.size, o, none⟩ = _ := fun o => hb2.cell (p := ⟨w.heap.size, o, none⟩) (by first | exact Nat.le_refl _ | omega | (simp; done) | (simp; omega)); (try simp [World.cell?_alloc_past, World.frozen?_alloc_past, hc1c, hf1c, hl1c, hc1o, hf1o, hl1o] at hc2c); have hl2c : w.heap.size < w2.heap.size := (by omega); have hf2c : ∀ o, w2.frozen? ⟨w.heap.size, o, none⟩ = _ := fun o => hb2.frozen (p := ⟨w.heap.size, o, none⟩) (by first | exact Nat.le_refl _ | omega | (simp; done) | (simp; omega)); (try simp [World.cell?_alloc_past, World.frozen?_alloc_past, hc1c, hf1c, hl1c, hc1o, hf1o, hl1o] at hf2c); have hc2o : ∀ o, w2.cell? ⟨w.heap.size + 1, o, none⟩ = _ := fun o => hb2.cell (p := ⟨w.heap.size + 1, o, none⟩) (by first | exact Nat.le_refl _ | omega | (simp; done) | (simp; omega)); (try simp [World.cell?_alloc_past, World.frozen?_alloc_past, hc1c, hf1c, hl1c, hc1o, hf1o, hl1o] at hc2o); have hl2o : w.heap.size + 1 < w2.heap.size := (by omega); have hf2o : ∀ o, w2.frozen? ⟨w.heap.size + 1, o, none⟩ = _ := fun o => hb2.frozen (p := ⟨w.heap.size + 1, o, none⟩) (by first | exact Nat.le_refl _ | omega | (simp; done) | (simp; omega)); (try simp [World.cell?_alloc_past, World.frozen?_alloc_past, hc1c, hf1c, hl1c, hc1o, hf1o, hl1o] at hf2o))
  clear hc1c hf1c hl1c hc1o hf1o hl1o
  go_wp2_with fail
  refine (check_yes h2 _).mono ?_
  rintro en w3 ⟨rfl, hb3⟩
  have hz3 := hb3.size
  (try simp at hz3)
  (have hc3c : ∀ o, w3.cell? ⟨w.heap.size, o, none⟩ = _ := fun o => hb3.cell (p := ⟨w.heap.size, o, none⟩) (by first | exact Nat.le_refl _ | omega | (simp; done) | (simp; omega)); (try simp [World.cell?_alloc_past, World.frozen?_alloc_past, hc2c, hf2c, hl2c, hc2o, hf2o, hl2o] at hc3c); have hl3c : w.heap.size < w3.heap.size := (by omega); have hf3c : ∀ o, w3.frozen? ⟨w.heap.size, o, none⟩ = _ := fun o => hb3.frozen (p := ⟨w.heap.size, o, none⟩) (by first | exact Nat.le_refl _ | omega | (simp; done) | (simp; omega)); (try simp [World.cell?_alloc_past, World.frozen?_alloc_past, hc2c, hf2c, hl2c, hc2o, hf2o, hl2o] at hf3c); have hc3o : ∀ o, w3.cell? ⟨w.heap.size + 1, o, none⟩ = _ := fun o => hb3.cell (p := ⟨w.heap.size + 1, o, none⟩) (by first | exact Nat.le_refl _ | omega | (simp; done) | (simp; omega)); (try simp [World.cell?_alloc_past, World.frozen?_alloc_past, hc2c, hf2c, hl2c, hc2o, hf2o, hl2o] at hc3o); have hl3o : w.heap.size + 1 < w3.heap.size := (by omega); have hf3o : ∀ o, w3.frozen? ⟨w.heap.size + 1, o, none⟩ = _ := fun o => hb3.frozen (p := ⟨w.heap.size + 1, o, none⟩) (by first | exact Nat.le_refl _ | omega | (simp; done) | (simp; omega)); (try simp [World.cell?_alloc_past, World.frozen?_alloc_past, hc2c, hf2c, hl2c, hc2o, hf2o, hl2o] at hf3o))
  clear hc2c hf2c hl2c hc2o hf2o hl2o
  go_wp2_with fail
  refine (hear_same (c := ⟨l, t, s, e, f⟩) h b6 b7 (Int.le_refl _) _).mono ?_
  rintro en w4 ⟨rfl, hb4⟩
  have hz4 := hb4.size
  (try simp at hz4)
  (have hc4c : ∀ o, w4.cell? ⟨w.heap.size, o, none⟩ = _ := fun o => hb4.cell (p := ⟨w.heap.size, o, none⟩) (by first | exact Nat.le_refl _ | omega | (simp; done) | (simp; omega)); (try simp [World.cell?_alloc_past, World.frozen?_alloc_past, hc3c, hf3c, hl3c, hc3o, hf3o, hl3o] at hc4c); have hl4c : w.heap.size < w4.heap.size := (by omega); have hf4c : ∀ o, w4.frozen? ⟨w.heap.size, o, none⟩ = _ := fun o => hb4.frozen (p := ⟨w.heap.size, o, none⟩) (by first | exact Nat.le_refl _ | omega | (simp; done) | (simp; omega)); (try simp [World.cell?_alloc_past, World.frozen?_alloc_past, hc3c, hf3c, hl3c, hc3o, hf3o, hl3o] at hf4c); have hc4o : ∀ o, w4.cell? ⟨w.heap.size + 1, o, none⟩ = _ := fun o => hb4.cell (p := ⟨w.heap.size + 1, o, none⟩) (by first | exact Nat.le_refl _ | omega | (simp; done) | (simp; omega)); (try simp [World.cell?_alloc_past, World.frozen?_alloc_past, hc3c, hf3c, hl3c, hc3o, hf3o, hl3o] at hc4o); have hl4o : w.heap.size + 1 < w4.heap.size := (by omega); have hf4o : ∀ o, w4.frozen? ⟨w.heap.size + 1, o, none⟩ = _ := fun o => hb4.frozen (p := ⟨w.heap.size + 1, o, none⟩) (by first | exact Nat.le_refl _ | omega | (simp; done) | (simp; omega)); (try simp [World.cell?_alloc_past, World.frozen?_alloc_past, hc3c, hf3c, hl3c, hc3o, hf3o, hl3o] at hf4o))
  clear hc3c hf3c hl3c hc3o hf3o hl3o
  go_wp2_with fail
  refine (hear_same (c := ⟨l', t', s', e, f'⟩) h2 b6 b7 (Int.le_refl _) _).mono ?_
  rintro en w5 ⟨rfl, hb5⟩
  have hz5 := hb5.size
  (try simp at hz5)
  (have hc5c : ∀ o, w5.cell? ⟨w.heap.size, o, none⟩ = _ := fun o => hb5.cell (p := ⟨w.heap.size, o, none⟩) (by first | exact Nat.le_refl _ | omega | (simp; done) | (simp; omega)); (try simp [World.cell?_alloc_past, World.frozen?_alloc_past, hc4c, hf4c, hl4c, hc4o, hf4o, hl4o] at hc5c); have hl5c : w.heap.size < w5.heap.size := (by omega); have hf5c : ∀ o, w5.frozen? ⟨w.heap.size, o, none⟩ = _ := fun o => hb5.frozen (p := ⟨w.heap.size, o, none⟩) (by first | exact Nat.le_refl _ | omega | (simp; done) | (simp; omega)); (try simp [World.cell?_alloc_past, World.frozen?_alloc_past, hc4c, hf4c, hl4c, hc4o, hf4o, hl4o] at hf5c); have hc5o : ∀ o, w5.cell? ⟨w.heap.size + 1, o, none⟩ = _ := fun o => hb5.cell (p := ⟨w.heap.size + 1, o, none⟩) (by first | exact Nat.le_refl _ | omega | (simp; done) | (simp; omega)); (try simp [World.cell?_alloc_past, World.frozen?_alloc_past, hc4c, hf4c, hl4c, hc4o, hf4o, hl4o] at hc5o); have hl5o : w.heap.size + 1 < w5.heap.size := (by omega); have hf5o : ∀ o, w5.frozen? ⟨w.heap.size + 1, o, none⟩ = _ := fun o => hb5.frozen (p := ⟨w.heap.size + 1, o, none⟩) (by first | exact Nat.le_refl _ | omega | (simp; done) | (simp; omega)); (try simp [World.cell?_alloc_past, World.frozen?_alloc_past, hc4c, hf4c, hl4c, hc4o, hf4o, hl4o] at hf5o); have hc5a : ∀ o, w5.cell? ⟨w4.heap.size, o, none⟩ = _ := fun o => hb5.cell (p := ⟨w4.heap.size, o, none⟩) (by first | exact Nat.le_refl _ | omega | (simp; done) | (simp; omega)); (try simp [World.cell?_alloc_past, World.frozen?_alloc_past, hc4c, hf4c, hl4c, hc4o, hf4o, hl4o] at hc5a); have hl5a : w4.heap.size < w5.heap.size := (by omega); have hf5a : ∀ o, w5.frozen? ⟨w4.heap.size, o, none⟩ = _ := fun o => hb5.frozen (p := ⟨w4.heap.size, o, none⟩) (by first | exact Nat.le_refl _ | omega | (simp; done) | (simp; omega)); (try simp [World.cell?_alloc_past, World.frozen?_alloc_past, hc4c, hf4c, hl4c, hc4o, hf4o, hl4o] at hf5a))
  clear hc4c hf4c hl4c hc4o hf4o hl4o
  go_wp2
  go_ret
  refine ⟨by simp, ?_⟩
  repeat (first | (with_reducible exact Below.refl _ _) | (with_reducible refine Below.drew ?_) | (with_reducible refine below_drewN ?_ _) | ((with_reducible refine Below.setCell ?_ ?_ _); rotate_left; focus (first | exact Nat.le_refl _ | omega | (simp; done) | (simp; omega))) | ((with_reducible refine Below.alloc ?_ ?_ _); rotate_left; focus (first | exact Nat.le_refl _ | omega | (simp; done) | (simp; omega))) | ((with_reducible refine Below.trans ?_ (Below.mono hb1 ?_)); rotate_left; focus (first | exact Nat.le_refl _ | omega | (simp; done) | (simp; omega))) | ((with_reducible refine Below.trans ?_ (Below.mono hb2 ?_)); rotate_left; focus (first | exact Nat.le_refl _ | omega | (simp; done) | (simp; omega))) | ((with_reducible refine Below.trans ?_ (Below.mono hb3 ?_)); rotate_left; focus (first | exact Nat.le_refl _ | omega | (simp; done) | (simp; omega))) | ((with_reducible refine Below.trans ?_ (Below.mono hb4 ?_)); rotate_left; focus (first | exact Nat.le_refl _ | omega | (simp; done) | (simp; omega))) | ((with_reducible refine Below.trans ?_ (Below.mono hb5 ?_)); rotate_left; focus (first | exact Nat.le_refl _ | omega | (simp; done) | (simp; omega))))

theorem walk (c o : K) (w : World) : Calls Try.prog 6 #[clk c.l c.t c.s c.e c.f, clk o.l o.t o.s o.e o.f] w fun en w' => en = .returned (.bool true) ∧ Below w.heap.size w w' := by
  by_cases h : c.ok
  · by_cases h2 : o.ok
    · by_cases h3 : c.e < o.e
      · exact up1 h h2 h3 w
      · by_cases h4 : o.e < c.e
        · exact up2 h h2 h4 w
        · have he : c.e = o.e := by omega
          have h' := h
          unfold K.ok at h'
          rw [he] at h' ⊢
          exact eq0 h' h2 w
    · exact bad2 h h2 w
  · exact bad1 h w
end Go.Proofs.Ytihijhmahoelhaa.EpochMeet
