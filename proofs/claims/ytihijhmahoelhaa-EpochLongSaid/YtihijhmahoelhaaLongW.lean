/- Epoch: the walk of the law EpochLong. -/
import Derived.Test.YtihijhmahoelhaaH
namespace Go.Proofs.Ytihijhmahoelhaa.EpochLong
open Go.ChangeShapes Go.WideShapes Go.ChangeAt Go.RowKit
set_option linter.unusedSimpArgs false

theorem ticks_few : ∀ (j : Nat) (c : K) (u : Int), c.ok → c.e < 65535 → c.t + j - c.s < c.l → c.t + j ≤ 2147483647 → K.ticks j c u = (⟨c.l, c.t + j, c.s, c.e, c.f⟩, u, true)
  | 0, c, u, _, _, _, _ => by simp [K.ticks]
  | j + 1, c, u, h, he, hj, hm => by
    have hb := ok_bounds h
    have ht : c.tick = (⟨c.l, c.t + 1, c.s, c.e, c.f⟩, false, 0) := by
      unfold K.tick K.ticked
      rw [if_pos h, if_neg (by omega), if_neg (by omega)]
    have hok : K.ok ⟨c.l, c.t + 1, c.s, c.e, c.f⟩ := by
      unfold K.ok ClkOK at *; dsimp only; omega
    rw [K.ticks, ht]
    simp only [if_true, Bool.false_eq_true, if_false]
    rw [ticks_few j ⟨c.l, c.t + 1, c.s, c.e, c.f⟩ u hok he (by dsimp only; omega) (by dsimp only; omega)]
    dsimp only
    rw [show c.t + 1 + (j : Int) = c.t + ((j + 1 : Nat) : Int) by omega]
theorem few {l t s e f : Int} (h : ClkOK l t s e f) (h1 : e < 65535) (h2 : t ≤ 2147480000) (w : World) :
    Calls Try.prog 22 #[clk l t s e f, .int .i64 (l - (t - s) - 1)] w fun en w' => en = .returned (.tuple #[clk l (s + l - 1) s e f, .int .i64 0, .bool true]) ∧ Below w.heap.size w w' := by
  have hb := ok_bounds h
  have hx : t - s < l := by unfold ClkOK at h; omega
  have e1 : K.ticks (l - (t - s) - 1).toNat ⟨l, t, s, e, f⟩ 0 = (⟨l, s + l - 1, s, e, f⟩, 0, true) := by
    rw [ticks_few _ ⟨l, t, s, e, f⟩ 0 h h1 (by dsimp only; omega) (by dsimp only; omega)]
    dsimp only
    rw [show t + ((l - (t - s) - 1).toNat : Int) = s + l - 1 by omega]
  have := ticked_loop ⟨l, t, s, e, f⟩ (l - (t - s) - 1) (by omega) w
  rw [e1] at this
  exact this
theorem last {l t s e f : Int} (h : ClkOK l t s e f) (h1 : e < 65535) (h2 : t ≤ 2147480000) (w : World) :
    Calls Try.prog 22 #[clk l (s + l - 1) s e f, .int .i64 1] w fun en w' => en = .returned (.tuple #[clk l (s + l) (s + l) (e + 1) f, .int .i64 1, .bool true]) ∧ Below w.heap.size w w' := by
  have hb := ok_bounds h
  have hok : ClkOK l (s + l - 1) s e f := by unfold ClkOK at *; omega
  have ht : K.tick ⟨l, s + l - 1, s, e, f⟩ = (⟨l, s + l, s + l, e + 1, f⟩, true, 0) := by
    unfold K.tick K.ticked
    dsimp only
    rw [if_pos hok, if_neg (by omega), if_pos (by omega), show s + l - 1 + 1 = s + l by omega]
  have e1 : K.ticks (1 : Int).toNat ⟨l, s + l - 1, s, e, f⟩ 0 = (⟨l, s + l, s + l, e + 1, f⟩, 1, true) := by
    show K.ticks (0 + 1) _ 0 = _
    rw [K.ticks, ht]
    rfl
  have := ticked_loop ⟨l, s + l - 1, s, e, f⟩ 1 (by omega) w
  rw [e1] at this
  exact this

set_option maxHeartbeats 2000000 in
theorem bad {l t s e f : Int} (h : ¬ ClkOK l t s e f) (w : World) : Calls Try.prog 7 #[clk l t s e f] w fun en w' => en = .returned (.bool true) ∧ Below w.heap.size w w' := by
  go_enter Try.func7, Try.ntmps7
  go_wp2_with fail
  refine (alive_any _).mono ?_
  rintro en w1 ⟨rfl, hb1⟩
  have hz1 := hb1.size
  (try simp at hz1)
  (have hc1c : ∀ o, w1.cell? ⟨w.heap.size, o, none⟩ = _ := fun o => hb1.cell (p := ⟨w.heap.size, o, none⟩) (by first | exact Nat.le_refl _ | omega | (simp; done) | (simp; omega)); (try simp at hc1c); have hl1c : w.heap.size < w1.heap.size := (by omega); have hf1c : ∀ o, w1.frozen? ⟨w.heap.size, o, none⟩ = _ := fun o => hb1.frozen (p := ⟨w.heap.size, o, none⟩) (by first | exact Nat.le_refl _ | omega | (simp; done) | (simp; omega)); (try simp at hf1c))
  go_wp2_with fail
  refine (left_bad (c := ⟨l, t, s, e, f⟩) h _).mono ?_
  rintro en w2 ⟨rfl, hb2⟩
  have hz2 := hb2.size
  (try simp at hz2)
  (have hc2c : ∀ o, w2.cell? ⟨w.heap.size, o, none⟩ = _ := fun o => hb2.cell (p := ⟨w.heap.size, o, none⟩) (by first | exact Nat.le_refl _ | omega | (simp; done) | (simp; omega)); (try simp [World.cell?_alloc_past, World.frozen?_alloc_past, hc1c, hf1c, hl1c] at hc2c); have hl2c : w.heap.size < w2.heap.size := (by omega); have hf2c : ∀ o, w2.frozen? ⟨w.heap.size, o, none⟩ = _ := fun o => hb2.frozen (p := ⟨w.heap.size, o, none⟩) (by first | exact Nat.le_refl _ | omega | (simp; done) | (simp; omega)); (try simp [World.cell?_alloc_past, World.frozen?_alloc_past, hc1c, hf1c, hl1c] at hf2c))
  clear hc1c hf1c hl1c
  go_wp2
  go_ret
  refine ⟨rfl, ?_⟩
  repeat (first | (with_reducible exact Below.refl _ _) | (with_reducible refine Below.drew ?_) | (with_reducible refine below_drewN ?_ _) | ((with_reducible refine Below.setCell ?_ ?_ _); rotate_left; focus (first | exact Nat.le_refl _ | omega | (simp; done) | (simp; omega))) | ((with_reducible refine Below.alloc ?_ ?_ _); rotate_left; focus (first | exact Nat.le_refl _ | omega | (simp; done) | (simp; omega))) | ((with_reducible refine Below.trans ?_ (Below.mono hb1 ?_)); rotate_left; focus (first | exact Nat.le_refl _ | omega | (simp; done) | (simp; omega))) | ((with_reducible refine Below.trans ?_ (Below.mono hb2 ?_)); rotate_left; focus (first | exact Nat.le_refl _ | omega | (simp; done) | (simp; omega))))

set_option maxHeartbeats 2000000 in
theorem end_ {l t s e f : Int} (h : ClkOK l t s e f) (h1 : (e == 65535) = true) (w : World) : Calls Try.prog 7 #[clk l t s e f] w fun en w' => en = .returned (.bool true) ∧ Below w.heap.size w w' := by
  go_enter Try.func7, Try.ntmps7
  go_wp2_with fail
  refine (alive_any _).mono ?_
  rintro en w1 ⟨rfl, hb1⟩
  have hz1 := hb1.size
  (try simp at hz1)
  (have hc1c : ∀ o, w1.cell? ⟨w.heap.size, o, none⟩ = _ := fun o => hb1.cell (p := ⟨w.heap.size, o, none⟩) (by first | exact Nat.le_refl _ | omega | (simp; done) | (simp; omega)); (try simp at hc1c); have hl1c : w.heap.size < w1.heap.size := (by omega); have hf1c : ∀ o, w1.frozen? ⟨w.heap.size, o, none⟩ = _ := fun o => hb1.frozen (p := ⟨w.heap.size, o, none⟩) (by first | exact Nat.le_refl _ | omega | (simp; done) | (simp; omega)); (try simp at hf1c))
  go_wp2_with fail
  refine (left_last (c := ⟨l, t, s, e, f⟩) h h1 _).mono ?_
  rintro en w2 ⟨rfl, hb2⟩
  have hz2 := hb2.size
  (try simp at hz2)
  (have hc2c : ∀ o, w2.cell? ⟨w.heap.size, o, none⟩ = _ := fun o => hb2.cell (p := ⟨w.heap.size, o, none⟩) (by first | exact Nat.le_refl _ | omega | (simp; done) | (simp; omega)); (try simp [World.cell?_alloc_past, World.frozen?_alloc_past, hc1c, hf1c, hl1c] at hc2c); have hl2c : w.heap.size < w2.heap.size := (by omega); have hf2c : ∀ o, w2.frozen? ⟨w.heap.size, o, none⟩ = _ := fun o => hb2.frozen (p := ⟨w.heap.size, o, none⟩) (by first | exact Nat.le_refl _ | omega | (simp; done) | (simp; omega)); (try simp [World.cell?_alloc_past, World.frozen?_alloc_past, hc1c, hf1c, hl1c] at hf2c))
  clear hc1c hf1c hl1c
  go_wp2
  go_ret
  refine ⟨rfl, ?_⟩
  repeat (first | (with_reducible exact Below.refl _ _) | (with_reducible refine Below.drew ?_) | (with_reducible refine below_drewN ?_ _) | ((with_reducible refine Below.setCell ?_ ?_ _); rotate_left; focus (first | exact Nat.le_refl _ | omega | (simp; done) | (simp; omega))) | ((with_reducible refine Below.alloc ?_ ?_ _); rotate_left; focus (first | exact Nat.le_refl _ | omega | (simp; done) | (simp; omega))) | ((with_reducible refine Below.trans ?_ (Below.mono hb1 ?_)); rotate_left; focus (first | exact Nat.le_refl _ | omega | (simp; done) | (simp; omega))) | ((with_reducible refine Below.trans ?_ (Below.mono hb2 ?_)); rotate_left; focus (first | exact Nat.le_refl _ | omega | (simp; done) | (simp; omega))))

set_option maxHeartbeats 2000000 in
theorem late {l t s e f : Int} (h : ClkOK l t s e f) (h1 : (e == 65535) = false) (h2 : 2147480000 < t) (w : World) : Calls Try.prog 7 #[clk l t s e f] w fun en w' => en = .returned (.bool true) ∧ Below w.heap.size w w' := by
  go_enter Try.func7, Try.ntmps7
  go_wp2_with fail
  refine (alive_any _).mono ?_
  rintro en w1 ⟨rfl, hb1⟩
  have hz1 := hb1.size
  (try simp at hz1)
  (have hc1c : ∀ o, w1.cell? ⟨w.heap.size, o, none⟩ = _ := fun o => hb1.cell (p := ⟨w.heap.size, o, none⟩) (by first | exact Nat.le_refl _ | omega | (simp; done) | (simp; omega)); (try simp at hc1c); have hl1c : w.heap.size < w1.heap.size := (by omega); have hf1c : ∀ o, w1.frozen? ⟨w.heap.size, o, none⟩ = _ := fun o => hb1.frozen (p := ⟨w.heap.size, o, none⟩) (by first | exact Nat.le_refl _ | omega | (simp; done) | (simp; omega)); (try simp at hf1c))
  go_wp2_with fail
  refine (left_go (c := ⟨l, t, s, e, f⟩) h h1 _).mono ?_
  rintro en w2 ⟨rfl, hb2⟩
  have hz2 := hb2.size
  (try simp at hz2)
  (have hc2c : ∀ o, w2.cell? ⟨w.heap.size, o, none⟩ = _ := fun o => hb2.cell (p := ⟨w.heap.size, o, none⟩) (by first | exact Nat.le_refl _ | omega | (simp; done) | (simp; omega)); (try simp [World.cell?_alloc_past, World.frozen?_alloc_past, hc1c, hf1c, hl1c] at hc2c); have hl2c : w.heap.size < w2.heap.size := (by omega); have hf2c : ∀ o, w2.frozen? ⟨w.heap.size, o, none⟩ = _ := fun o => hb2.frozen (p := ⟨w.heap.size, o, none⟩) (by first | exact Nat.le_refl _ | omega | (simp; done) | (simp; omega)); (try simp [World.cell?_alloc_past, World.frozen?_alloc_past, hc1c, hf1c, hl1c] at hf2c))
  clear hc1c hf1c hl1c
  go_wp2
  go_ret
  refine ⟨rfl, ?_⟩
  repeat (first | (with_reducible exact Below.refl _ _) | (with_reducible refine Below.drew ?_) | (with_reducible refine below_drewN ?_ _) | ((with_reducible refine Below.setCell ?_ ?_ _); rotate_left; focus (first | exact Nat.le_refl _ | omega | (simp; done) | (simp; omega))) | ((with_reducible refine Below.alloc ?_ ?_ _); rotate_left; focus (first | exact Nat.le_refl _ | omega | (simp; done) | (simp; omega))) | ((with_reducible refine Below.trans ?_ (Below.mono hb1 ?_)); rotate_left; focus (first | exact Nat.le_refl _ | omega | (simp; done) | (simp; omega))) | ((with_reducible refine Below.trans ?_ (Below.mono hb2 ?_)); rotate_left; focus (first | exact Nat.le_refl _ | omega | (simp; done) | (simp; omega))))

set_option maxHeartbeats 2000000 in
theorem go1 {l t s e f : Int} (h : ClkOK l t s e f) (h1 : (e == 65535) = false) (h2 : t ≤ 2147480000) (h3 : e < 65535) (h4 : (e + 1 == 65535) = true) (w : World) : Calls Try.prog 7 #[clk l t s e f] w fun en w' => en = .returned (.bool true) ∧ Below w.heap.size w w' := by
  obtain ⟨b1, b2, b3, b4, b5, b6, b7, b8, b9⟩ := ok_bounds h
  have x1 : t - s < l := by unfold ClkOK at h; omega
  have hok : ClkOK l (s + l) (s + l) (e + 1) f := by unfold ClkOK at *; omega
  go_enter Try.func7, Try.ntmps7
  go_wp2_with fail
  refine (alive_any _).mono ?_
  rintro en w1 ⟨rfl, hb1⟩
  have hz1 := hb1.size
  (try simp at hz1)
  (have hc1c : ∀ o, w1.cell? ⟨w.heap.size, o, none⟩ = _ := fun o => hb1.cell (p := ⟨w.heap.size, o, none⟩) (by first | exact Nat.le_refl _ | omega | (simp; done) | (simp; omega)); (try simp at hc1c); have hl1c : w.heap.size < w1.heap.size := (by omega); have hf1c : ∀ o, w1.frozen? ⟨w.heap.size, o, none⟩ = _ := fun o => hb1.frozen (p := ⟨w.heap.size, o, none⟩) (by first | exact Nat.le_refl _ | omega | (simp; done) | (simp; omega)); (try simp at hf1c))
  go_wp2_with fail
  refine (left_go (c := ⟨l, t, s, e, f⟩) h h1 _).mono ?_
  rintro en w2 ⟨rfl, hb2⟩
  have hz2 := hb2.size
  (try simp at hz2)
  (have hc2c : ∀ o, w2.cell? ⟨w.heap.size, o, none⟩ = _ := fun o => hb2.cell (p := ⟨w.heap.size, o, none⟩) (by first | exact Nat.le_refl _ | omega | (simp; done) | (simp; omega)); (try simp [World.cell?_alloc_past, World.frozen?_alloc_past, hc1c, hf1c, hl1c] at hc2c); have hl2c : w.heap.size < w2.heap.size := (by omega); have hf2c : ∀ o, w2.frozen? ⟨w.heap.size, o, none⟩ = _ := fun o => hb2.frozen (p := ⟨w.heap.size, o, none⟩) (by first | exact Nat.le_refl _ | omega | (simp; done) | (simp; omega)); (try simp [World.cell?_alloc_past, World.frozen?_alloc_past, hc1c, hf1c, hl1c] at hf2c))
  clear hc1c hf1c hl1c
  go_wp2_with fail
  refine (few h h3 h2 _).mono ?_
  rintro en w3 ⟨rfl, hb3⟩
  have hz3 := hb3.size
  (try simp at hz3)
  (have hc3c : ∀ o, w3.cell? ⟨w.heap.size, o, none⟩ = _ := fun o => hb3.cell (p := ⟨w.heap.size, o, none⟩) (by first | exact Nat.le_refl _ | omega | (simp; done) | (simp; omega)); (try simp [World.cell?_alloc_past, World.frozen?_alloc_past, hc2c, hf2c, hl2c] at hc3c); have hl3c : w.heap.size < w3.heap.size := (by omega); have hf3c : ∀ o, w3.frozen? ⟨w.heap.size, o, none⟩ = _ := fun o => hb3.frozen (p := ⟨w.heap.size, o, none⟩) (by first | exact Nat.le_refl _ | omega | (simp; done) | (simp; omega)); (try simp [World.cell?_alloc_past, World.frozen?_alloc_past, hc2c, hf2c, hl2c] at hf3c))
  clear hc2c hf2c hl2c
  go_wp2_with fail
  refine (last h h3 h2 _).mono ?_
  rintro en w4 ⟨rfl, hb4⟩
  have hz4 := hb4.size
  (try simp at hz4)
  (have hc4c : ∀ o, w4.cell? ⟨w.heap.size, o, none⟩ = _ := fun o => hb4.cell (p := ⟨w.heap.size, o, none⟩) (by first | exact Nat.le_refl _ | omega | (simp; done) | (simp; omega)); (try simp [World.cell?_alloc_past, World.frozen?_alloc_past, hc3c, hf3c, hl3c] at hc4c); have hl4c : w.heap.size < w4.heap.size := (by omega); have hf4c : ∀ o, w4.frozen? ⟨w.heap.size, o, none⟩ = _ := fun o => hb4.frozen (p := ⟨w.heap.size, o, none⟩) (by first | exact Nat.le_refl _ | omega | (simp; done) | (simp; omega)); (try simp [World.cell?_alloc_past, World.frozen?_alloc_past, hc3c, hf3c, hl3c] at hf4c); have hc4a : ∀ o, w4.cell? ⟨w3.heap.size, o, none⟩ = _ := fun o => hb4.cell (p := ⟨w3.heap.size, o, none⟩) (by first | exact Nat.le_refl _ | omega | (simp; done) | (simp; omega)); (try simp [World.cell?_alloc_past, World.frozen?_alloc_past, hc3c, hf3c, hl3c] at hc4a); have hl4a : w3.heap.size < w4.heap.size := (by omega); have hf4a : ∀ o, w4.frozen? ⟨w3.heap.size, o, none⟩ = _ := fun o => hb4.frozen (p := ⟨w3.heap.size, o, none⟩) (by first | exact Nat.le_refl _ | omega | (simp; done) | (simp; omega)); (try simp [World.cell?_alloc_past, World.frozen?_alloc_past, hc3c, hf3c, hl3c] at hf4a))
  clear hc3c hf3c hl3c
  go_wp2_with fail
  refine (left_last (c := ⟨l, s + l, s + l, e + 1, f⟩) hok h4 _).mono ?_
  rintro en w5 ⟨rfl, hb5⟩
  have hz5 := hb5.size
  (try simp at hz5)
  (have hc5c : ∀ o, w5.cell? ⟨w.heap.size, o, none⟩ = _ := fun o => hb5.cell (p := ⟨w.heap.size, o, none⟩) (by first | exact Nat.le_refl _ | omega | (simp; done) | (simp; omega)); (try simp [World.cell?_alloc_past, World.frozen?_alloc_past, hc4c, hf4c, hl4c, hc4a, hf4a, hl4a] at hc5c); have hl5c : w.heap.size < w5.heap.size := (by omega); have hf5c : ∀ o, w5.frozen? ⟨w.heap.size, o, none⟩ = _ := fun o => hb5.frozen (p := ⟨w.heap.size, o, none⟩) (by first | exact Nat.le_refl _ | omega | (simp; done) | (simp; omega)); (try simp [World.cell?_alloc_past, World.frozen?_alloc_past, hc4c, hf4c, hl4c, hc4a, hf4a, hl4a] at hf5c); have hc5b : ∀ o, w5.cell? ⟨w4.heap.size, o, none⟩ = _ := fun o => hb5.cell (p := ⟨w4.heap.size, o, none⟩) (by first | exact Nat.le_refl _ | omega | (simp; done) | (simp; omega)); (try simp [World.cell?_alloc_past, World.frozen?_alloc_past, hc4c, hf4c, hl4c, hc4a, hf4a, hl4a] at hc5b); have hl5b : w4.heap.size < w5.heap.size := (by omega); have hf5b : ∀ o, w5.frozen? ⟨w4.heap.size, o, none⟩ = _ := fun o => hb5.frozen (p := ⟨w4.heap.size, o, none⟩) (by first | exact Nat.le_refl _ | omega | (simp; done) | (simp; omega)); (try simp [World.cell?_alloc_past, World.frozen?_alloc_past, hc4c, hf4c, hl4c, hc4a, hf4a, hl4a] at hf5b))
  clear hc4c hf4c hl4c hc4a hf4a hl4a
  go_wp2
  go_ret
  refine ⟨by first | rfl | (simp; done) | (simp; omega), ?_⟩
  repeat (first | (with_reducible exact Below.refl _ _) | (with_reducible refine Below.drew ?_) | (with_reducible refine below_drewN ?_ _) | ((with_reducible refine Below.setCell ?_ ?_ _); rotate_left; focus (first | exact Nat.le_refl _ | omega | (simp; done) | (simp; omega))) | ((with_reducible refine Below.alloc ?_ ?_ _); rotate_left; focus (first | exact Nat.le_refl _ | omega | (simp; done) | (simp; omega))) | ((with_reducible refine Below.trans ?_ (Below.mono hb1 ?_)); rotate_left; focus (first | exact Nat.le_refl _ | omega | (simp; done) | (simp; omega))) | ((with_reducible refine Below.trans ?_ (Below.mono hb2 ?_)); rotate_left; focus (first | exact Nat.le_refl _ | omega | (simp; done) | (simp; omega))) | ((with_reducible refine Below.trans ?_ (Below.mono hb3 ?_)); rotate_left; focus (first | exact Nat.le_refl _ | omega | (simp; done) | (simp; omega))) | ((with_reducible refine Below.trans ?_ (Below.mono hb4 ?_)); rotate_left; focus (first | exact Nat.le_refl _ | omega | (simp; done) | (simp; omega))) | ((with_reducible refine Below.trans ?_ (Below.mono hb5 ?_)); rotate_left; focus (first | exact Nat.le_refl _ | omega | (simp; done) | (simp; omega))))

set_option maxHeartbeats 2000000 in
theorem go2 {l t s e f : Int} (h : ClkOK l t s e f) (h1 : (e == 65535) = false) (h2 : t ≤ 2147480000) (h3 : e < 65535) (h4 : (e + 1 == 65535) = false) (w : World) : Calls Try.prog 7 #[clk l t s e f] w fun en w' => en = .returned (.bool true) ∧ Below w.heap.size w w' := by
  obtain ⟨b1, b2, b3, b4, b5, b6, b7, b8, b9⟩ := ok_bounds h
  have x1 : t - s < l := by unfold ClkOK at h; omega
  have hok : ClkOK l (s + l) (s + l) (e + 1) f := by unfold ClkOK at *; omega
  go_enter Try.func7, Try.ntmps7
  go_wp2_with fail
  refine (alive_any _).mono ?_
  rintro en w1 ⟨rfl, hb1⟩
  have hz1 := hb1.size
  (try simp at hz1)
  (have hc1c : ∀ o, w1.cell? ⟨w.heap.size, o, none⟩ = _ := fun o => hb1.cell (p := ⟨w.heap.size, o, none⟩) (by first | exact Nat.le_refl _ | omega | (simp; done) | (simp; omega)); (try simp at hc1c); have hl1c : w.heap.size < w1.heap.size := (by omega); have hf1c : ∀ o, w1.frozen? ⟨w.heap.size, o, none⟩ = _ := fun o => hb1.frozen (p := ⟨w.heap.size, o, none⟩) (by first | exact Nat.le_refl _ | omega | (simp; done) | (simp; omega)); (try simp at hf1c))
  go_wp2_with fail
  refine (left_go (c := ⟨l, t, s, e, f⟩) h h1 _).mono ?_
  rintro en w2 ⟨rfl, hb2⟩
  have hz2 := hb2.size
  (try simp at hz2)
  (have hc2c : ∀ o, w2.cell? ⟨w.heap.size, o, none⟩ = _ := fun o => hb2.cell (p := ⟨w.heap.size, o, none⟩) (by first | exact Nat.le_refl _ | omega | (simp; done) | (simp; omega)); (try simp [World.cell?_alloc_past, World.frozen?_alloc_past, hc1c, hf1c, hl1c] at hc2c); have hl2c : w.heap.size < w2.heap.size := (by omega); have hf2c : ∀ o, w2.frozen? ⟨w.heap.size, o, none⟩ = _ := fun o => hb2.frozen (p := ⟨w.heap.size, o, none⟩) (by first | exact Nat.le_refl _ | omega | (simp; done) | (simp; omega)); (try simp [World.cell?_alloc_past, World.frozen?_alloc_past, hc1c, hf1c, hl1c] at hf2c))
  clear hc1c hf1c hl1c
  go_wp2_with fail
  refine (few h h3 h2 _).mono ?_
  rintro en w3 ⟨rfl, hb3⟩
  have hz3 := hb3.size
  (try simp at hz3)
  (have hc3c : ∀ o, w3.cell? ⟨w.heap.size, o, none⟩ = _ := fun o => hb3.cell (p := ⟨w.heap.size, o, none⟩) (by first | exact Nat.le_refl _ | omega | (simp; done) | (simp; omega)); (try simp [World.cell?_alloc_past, World.frozen?_alloc_past, hc2c, hf2c, hl2c] at hc3c); have hl3c : w.heap.size < w3.heap.size := (by omega); have hf3c : ∀ o, w3.frozen? ⟨w.heap.size, o, none⟩ = _ := fun o => hb3.frozen (p := ⟨w.heap.size, o, none⟩) (by first | exact Nat.le_refl _ | omega | (simp; done) | (simp; omega)); (try simp [World.cell?_alloc_past, World.frozen?_alloc_past, hc2c, hf2c, hl2c] at hf3c))
  clear hc2c hf2c hl2c
  go_wp2_with fail
  refine (last h h3 h2 _).mono ?_
  rintro en w4 ⟨rfl, hb4⟩
  have hz4 := hb4.size
  (try simp at hz4)
  (have hc4c : ∀ o, w4.cell? ⟨w.heap.size, o, none⟩ = _ := fun o => hb4.cell (p := ⟨w.heap.size, o, none⟩) (by first | exact Nat.le_refl _ | omega | (simp; done) | (simp; omega)); (try simp [World.cell?_alloc_past, World.frozen?_alloc_past, hc3c, hf3c, hl3c] at hc4c); have hl4c : w.heap.size < w4.heap.size := (by omega); have hf4c : ∀ o, w4.frozen? ⟨w.heap.size, o, none⟩ = _ := fun o => hb4.frozen (p := ⟨w.heap.size, o, none⟩) (by first | exact Nat.le_refl _ | omega | (simp; done) | (simp; omega)); (try simp [World.cell?_alloc_past, World.frozen?_alloc_past, hc3c, hf3c, hl3c] at hf4c); have hc4a : ∀ o, w4.cell? ⟨w3.heap.size, o, none⟩ = _ := fun o => hb4.cell (p := ⟨w3.heap.size, o, none⟩) (by first | exact Nat.le_refl _ | omega | (simp; done) | (simp; omega)); (try simp [World.cell?_alloc_past, World.frozen?_alloc_past, hc3c, hf3c, hl3c] at hc4a); have hl4a : w3.heap.size < w4.heap.size := (by omega); have hf4a : ∀ o, w4.frozen? ⟨w3.heap.size, o, none⟩ = _ := fun o => hb4.frozen (p := ⟨w3.heap.size, o, none⟩) (by first | exact Nat.le_refl _ | omega | (simp; done) | (simp; omega)); (try simp [World.cell?_alloc_past, World.frozen?_alloc_past, hc3c, hf3c, hl3c] at hf4a))
  clear hc3c hf3c hl3c
  go_wp2_with fail
  refine (left_go (c := ⟨l, s + l, s + l, e + 1, f⟩) hok h4 _).mono ?_
  rintro en w5 ⟨rfl, hb5⟩
  have hz5 := hb5.size
  (try simp at hz5)
  (have hc5c : ∀ o, w5.cell? ⟨w.heap.size, o, none⟩ = _ := fun o => hb5.cell (p := ⟨w.heap.size, o, none⟩) (by first | exact Nat.le_refl _ | omega | (simp; done) | (simp; omega)); (try simp [World.cell?_alloc_past, World.frozen?_alloc_past, hc4c, hf4c, hl4c, hc4a, hf4a, hl4a] at hc5c); have hl5c : w.heap.size < w5.heap.size := (by omega); have hf5c : ∀ o, w5.frozen? ⟨w.heap.size, o, none⟩ = _ := fun o => hb5.frozen (p := ⟨w.heap.size, o, none⟩) (by first | exact Nat.le_refl _ | omega | (simp; done) | (simp; omega)); (try simp [World.cell?_alloc_past, World.frozen?_alloc_past, hc4c, hf4c, hl4c, hc4a, hf4a, hl4a] at hf5c); have hc5b : ∀ o, w5.cell? ⟨w4.heap.size, o, none⟩ = _ := fun o => hb5.cell (p := ⟨w4.heap.size, o, none⟩) (by first | exact Nat.le_refl _ | omega | (simp; done) | (simp; omega)); (try simp [World.cell?_alloc_past, World.frozen?_alloc_past, hc4c, hf4c, hl4c, hc4a, hf4a, hl4a] at hc5b); have hl5b : w4.heap.size < w5.heap.size := (by omega); have hf5b : ∀ o, w5.frozen? ⟨w4.heap.size, o, none⟩ = _ := fun o => hb5.frozen (p := ⟨w4.heap.size, o, none⟩) (by first | exact Nat.le_refl _ | omega | (simp; done) | (simp; omega)); (try simp [World.cell?_alloc_past, World.frozen?_alloc_past, hc4c, hf4c, hl4c, hc4a, hf4a, hl4a] at hf5b))
  clear hc4c hf4c hl4c hc4a hf4a hl4a
  go_wp2
  go_ret
  refine ⟨by first | rfl | (simp; done) | (simp; omega), ?_⟩
  repeat (first | (with_reducible exact Below.refl _ _) | (with_reducible refine Below.drew ?_) | (with_reducible refine below_drewN ?_ _) | ((with_reducible refine Below.setCell ?_ ?_ _); rotate_left; focus (first | exact Nat.le_refl _ | omega | (simp; done) | (simp; omega))) | ((with_reducible refine Below.alloc ?_ ?_ _); rotate_left; focus (first | exact Nat.le_refl _ | omega | (simp; done) | (simp; omega))) | ((with_reducible refine Below.trans ?_ (Below.mono hb1 ?_)); rotate_left; focus (first | exact Nat.le_refl _ | omega | (simp; done) | (simp; omega))) | ((with_reducible refine Below.trans ?_ (Below.mono hb2 ?_)); rotate_left; focus (first | exact Nat.le_refl _ | omega | (simp; done) | (simp; omega))) | ((with_reducible refine Below.trans ?_ (Below.mono hb3 ?_)); rotate_left; focus (first | exact Nat.le_refl _ | omega | (simp; done) | (simp; omega))) | ((with_reducible refine Below.trans ?_ (Below.mono hb4 ?_)); rotate_left; focus (first | exact Nat.le_refl _ | omega | (simp; done) | (simp; omega))) | ((with_reducible refine Below.trans ?_ (Below.mono hb5 ?_)); rotate_left; focus (first | exact Nat.le_refl _ | omega | (simp; done) | (simp; omega))))

theorem walk (l t s e f : Int) (w : World) : Calls Try.prog 7 #[clk l t s e f] w fun en w' => en = .returned (.bool true) ∧ Below w.heap.size w w' := by
  by_cases h : ClkOK l t s e f
  · have hb := ok_bounds h
    by_cases h1 : e = 65535
    · exact end_ h (by simpa using h1) w
    · by_cases h2 : t ≤ 2147480000
      · by_cases h4 : e + 1 = 65535
        · exact go1 h (by simpa using h1) h2 (by omega) (by simpa using h4) w
        · exact go2 h (by simpa using h1) h2 (by omega) (by simpa using h4) w
      · exact late h (by simpa using h1) (by omega) w
  · exact bad h w
end Go.Proofs.Ytihijhmahoelhaa.EpochLong
