/- Epoch: the laws' helper 'alive': the chapter's examples hold. -/
import Derived.Test.YtihijhmahoelhaaG
namespace Go.Proofs.Ytihijhmahoelhaa
open Go.ChangeShapes Go.WideShapes Go.ChangeAt Go.RowKit
set_option linter.unusedSimpArgs false

/-- What a clock that may be makes of an epoch that may be. -/
theorem hear_up {c : K} (h : c.ok) {x : Int} (h0 : 0 ≤ x) (h1 : x ≤ 65535) (h2 : c.e < x) (w : World) : Calls Try.prog 13 #[clk c.l c.t c.s c.e c.f, .int .i64 x] w fun en w' => en = .returned (.tuple #[clk c.l c.t c.t x c.f, .bool true, .int .i64 0]) ∧ Below w.heap.size w w' := by
  have e : c.hear x = (⟨c.l, c.t, c.t, x, c.f⟩, true, 0) := by
    unfold K.hear K.heard; rw [if_pos h, if_neg (by omega), if_pos h2]
  have := hear_any c x w
  rw [e] at this
  exact this
theorem hear_same {c : K} (h : c.ok) {x : Int} (h0 : 0 ≤ x) (h1 : x ≤ 65535) (h2 : x ≤ c.e) (w : World) : Calls Try.prog 13 #[clk c.l c.t c.s c.e c.f, .int .i64 x] w fun en w' => en = .returned (.tuple #[clk c.l c.t c.s c.e c.f, .bool false, .int .i64 0]) ∧ Below w.heap.size w w' := by
  have e : c.hear x = (c, false, 0) := by
    unfold K.hear K.heard; rw [if_pos h, if_neg (by omega), if_neg (by omega)]
  have := hear_any c x w
  rw [e] at this
  exact this
theorem ticked_two (w : World) : Calls Try.prog 22 #[clk 3 0 0 5 0, .int .i64 2] w fun en w' => en = .returned (.tuple #[clk 3 2 0 5 0, .int .i64 0, .bool true]) ∧ Below w.heap.size w w' := by
  have e : K.ticks (2 : Int).toNat ⟨3, 0, 0, 5, 0⟩ 0 = (⟨3, 2, 0, 5, 0⟩, 0, true) := by kernel_rfl
  have := ticked_loop ⟨3, 0, 0, 5, 0⟩ 2 (by omega) w
  rw [e] at this
  exact this
theorem left_one (w : World) : Calls Try.prog 17 #[clk 3 2 0 5 0] w fun en w' => en = .returned (.tuple #[.int .i64 1, .int .i64 0]) ∧ Below w.heap.size w w' := by
  have e : K.left ⟨3, 2, 0, 5, 0⟩ = (1, 0) := by kernel_rfl
  have := left_any ⟨3, 2, 0, 5, 0⟩ w
  rw [e] at this
  exact this
theorem tick_third (w : World) : Calls Try.prog 11 #[clk 3 2 0 5 0] w fun en w' => en = .returned (.tuple #[clk 3 3 3 6 0, .bool true, .int .i64 0]) ∧ Below w.heap.size w w' := by
  have e : K.tick ⟨3, 2, 0, 5, 0⟩ = (⟨3, 3, 3, 6, 0⟩, true, 0) := by kernel_rfl
  have := tick_any ⟨3, 2, 0, 5, 0⟩ w
  rw [e] at this
  exact this

set_option maxHeartbeats 2000000 in
theorem alive_any (w : World) : Calls Try.prog 21 #[] w fun en w' => en = .returned (.bool true) ∧ Below w.heap.size w w' := by
  go_enter Try.func21, Try.ntmps21
  go_wp2_with fail
  refine (new_yes (by decide) _).mono ?_
  rintro en w1 ⟨rfl, hb1⟩
  have hz1 := hb1.size
  (try simp at hz1)
  go_wp2_with fail
  refine (ticked_two _).mono ?_
  rintro en w2 ⟨rfl, hb2⟩
  have hz2 := hb2.size
  (try simp at hz2)
  (have hc2c : ∀ o, w2.cell? ⟨w1.heap.size, o, none⟩ = _ := fun o => hb2.cell (p := ⟨w1.heap.size, o, none⟩) (by first | exact Nat.le_refl _ | omega | (simp; done) | (simp; omega)); (try simp at hc2c); have hl2c : w1.heap.size < w2.heap.size := (by omega); have hf2c : ∀ o, w2.frozen? ⟨w1.heap.size, o, none⟩ = _ := fun o => hb2.frozen (p := ⟨w1.heap.size, o, none⟩) (by first | exact Nat.le_refl _ | omega | (simp; done) | (simp; omega)); (try simp at hf2c))
  go_wp2_with fail
  refine (left_one _).mono ?_
  rintro en w3 ⟨rfl, hb3⟩
  have hz3 := hb3.size
  (try simp at hz3)
  (have hc3a : ∀ o, w3.cell? ⟨w2.heap.size, o, none⟩ = _ := fun o => hb3.cell (p := ⟨w2.heap.size, o, none⟩) (by first | exact Nat.le_refl _ | omega | (simp; done) | (simp; omega)); (try simp [World.cell?_alloc_past, World.frozen?_alloc_past, hc2c, hf2c, hl2c] at hc3a); have hl3a : w2.heap.size < w3.heap.size := (by omega); have hf3a : ∀ o, w3.frozen? ⟨w2.heap.size, o, none⟩ = _ := fun o => hb3.frozen (p := ⟨w2.heap.size, o, none⟩) (by first | exact Nat.le_refl _ | omega | (simp; done) | (simp; omega)); (try simp [World.cell?_alloc_past, World.frozen?_alloc_past, hc2c, hf2c, hl2c] at hf3a))
  clear hc2c hf2c hl2c
  go_wp2_with fail
  refine (tick_third _).mono ?_
  rintro en w4 ⟨rfl, hb4⟩
  have hz4 := hb4.size
  (try simp at hz4)
  clear hc3a hf3a hl3a
  go_wp2_with fail
  refine (hear_up (c := ⟨3, 3, 3, 6, 0⟩) (by decide) (by decide) (by decide) (by decide) _).mono ?_
  rintro en w5 ⟨rfl, hb5⟩
  have hz5 := hb5.size
  (try simp at hz5)
  (have hc5b : ∀ o, w5.cell? ⟨w4.heap.size, o, none⟩ = _ := fun o => hb5.cell (p := ⟨w4.heap.size, o, none⟩) (by first | exact Nat.le_refl _ | omega | (simp; done) | (simp; omega)); (try simp at hc5b); have hl5b : w4.heap.size < w5.heap.size := (by omega); have hf5b : ∀ o, w5.frozen? ⟨w4.heap.size, o, none⟩ = _ := fun o => hb5.frozen (p := ⟨w4.heap.size, o, none⟩) (by first | exact Nat.le_refl _ | omega | (simp; done) | (simp; omega)); (try simp at hf5b))
  go_wp2_with fail
  refine (hear_same (c := ⟨3, 3, 3, 9, 0⟩) (by decide) (by decide) (by decide) (by decide) _).mono ?_
  rintro en w6 ⟨rfl, hb6⟩
  have hz6 := hb6.size
  (try simp at hz6)
  (have hc6b : ∀ o, w6.cell? ⟨w4.heap.size, o, none⟩ = _ := fun o => hb6.cell (p := ⟨w4.heap.size, o, none⟩) (by first | exact Nat.le_refl _ | omega | (simp; done) | (simp; omega)); (try simp [World.cell?_alloc_past, World.frozen?_alloc_past, hc5b, hf5b, hl5b] at hc6b); have hl6b : w4.heap.size < w6.heap.size := (by omega); have hf6b : ∀ o, w6.frozen? ⟨w4.heap.size, o, none⟩ = _ := fun o => hb6.frozen (p := ⟨w4.heap.size, o, none⟩) (by first | exact Nat.le_refl _ | omega | (simp; done) | (simp; omega)); (try simp [World.cell?_alloc_past, World.frozen?_alloc_past, hc5b, hf5b, hl5b] at hf6b); have hc6d : ∀ o, w6.cell? ⟨w5.heap.size, o, none⟩ = _ := fun o => hb6.cell (p := ⟨w5.heap.size, o, none⟩) (by first | exact Nat.le_refl _ | omega | (simp; done) | (simp; omega)); (try simp [World.cell?_alloc_past, World.frozen?_alloc_past, hc5b, hf5b, hl5b] at hc6d); have hl6d : w5.heap.size < w6.heap.size := (by omega); have hf6d : ∀ o, w6.frozen? ⟨w5.heap.size, o, none⟩ = _ := fun o => hb6.frozen (p := ⟨w5.heap.size, o, none⟩) (by first | exact Nat.le_refl _ | omega | (simp; done) | (simp; omega)); (try simp [World.cell?_alloc_past, World.frozen?_alloc_past, hc5b, hf5b, hl5b] at hf6d))
  clear hc5b hf5b hl5b
  go_wp2
  go_ret
  refine ⟨rfl, ?_⟩
  repeat (first | (with_reducible exact Below.refl _ _) | (with_reducible refine Below.drew ?_) | (with_reducible refine below_drewN ?_ _) | ((with_reducible refine Below.setCell ?_ ?_ _); rotate_left; focus (first | exact Nat.le_refl _ | omega | (simp; done) | (simp; omega))) | ((with_reducible refine Below.alloc ?_ ?_ _); rotate_left; focus (first | exact Nat.le_refl _ | omega | (simp; done) | (simp; omega))) | ((with_reducible refine Below.trans ?_ (Below.mono hb1 ?_)); rotate_left; focus (first | exact Nat.le_refl _ | omega | (simp; done) | (simp; omega))) | ((with_reducible refine Below.trans ?_ (Below.mono hb2 ?_)); rotate_left; focus (first | exact Nat.le_refl _ | omega | (simp; done) | (simp; omega))) | ((with_reducible refine Below.trans ?_ (Below.mono hb3 ?_)); rotate_left; focus (first | exact Nat.le_refl _ | omega | (simp; done) | (simp; omega))) | ((with_reducible refine Below.trans ?_ (Below.mono hb4 ?_)); rotate_left; focus (first | exact Nat.le_refl _ | omega | (simp; done) | (simp; omega))) | ((with_reducible refine Below.trans ?_ (Below.mono hb5 ?_)); rotate_left; focus (first | exact Nat.le_refl _ | omega | (simp; done) | (simp; omega))) | ((with_reducible refine Below.trans ?_ (Below.mono hb6 ?_)); rotate_left; focus (first | exact Nat.le_refl _ | omega | (simp; done) | (simp; omega))))
end Go.Proofs.Ytihijhmahoelhaa
