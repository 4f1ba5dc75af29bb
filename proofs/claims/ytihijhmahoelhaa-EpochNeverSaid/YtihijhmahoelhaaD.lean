/- Epoch: contracts of Tick, Hear, In and Left of the program. -/
import Derived.Test.YtihijhmahoelhaaC
import Derived.WalkSpells
import Derived.Lib.Hide
import Derived.StillTailTactics
import Derived.Deep.QuietTactic
import Derived.BigQuiet
namespace Go.Proofs.Ytihijhmahoelhaa
open Go.ChangeShapes Go.WideShapes Go.ChangeAt Go.RowKit
set_option maxHeartbeats 1000000 in
theorem tick_bad {c : K} (h : ¬ c.ok) (w : World) :
    Calls Try.prog 11 #[clk c.l c.t c.s c.e c.f] w fun en w' => en = .returned (.tuple #[clk 0 0 0 0 0, .bool false, .int .i64 8]) ∧ Below w.heap.size w w' := by
  go_enter Try.func11, Try.ntmps11
  go_wp2_with (first | (go_at_call 19; refine (check_no h _).mono ?_; rintro en w1 ⟨rfl, hb⟩; have hz := hb.size; (try simp at hz); have hc0 : ∀ o, w1.cell? ⟨w.heap.size, o, none⟩ = _ := fun o => hb.cell (p := ⟨w.heap.size, o, none⟩) (by first | exact Nat.le_refl _ | omega | (simp; done) | (simp; omega)); (try simp at hc0); have hl0 : w.heap.size < w1.heap.size := (by omega); have hf0 : ∀ o, w1.frozen? ⟨w.heap.size, o, none⟩ = _ := fun o => hb.frozen (p := ⟨w.heap.size, o, none⟩) (by first | exact Nat.le_refl _ | omega | (simp; done) | (simp; omega)); (try simp at hf0); have hc1 : ∀ o, w1.cell? ⟨w.heap.size + 1, o, none⟩ = _ := fun o => hb.cell (p := ⟨w.heap.size + 1, o, none⟩) (by first | exact Nat.le_refl _ | omega | (simp; done) | (simp; omega)); (try simp at hc1); have hl1 : w.heap.size + 1 < w1.heap.size := (by omega); have hf1 : ∀ o, w1.frozen? ⟨w.heap.size + 1, o, none⟩ = _ := fun o => hb.frozen (p := ⟨w.heap.size + 1, o, none⟩) (by first | exact Nat.le_refl _ | omega | (simp; done) | (simp; omega)); (try simp at hf1)) | go_in)
  refine bodyPost_ret (v := .tuple #[clk 0 0 0 0 0, .bool false, .int .i64 8]) (by simp [results, Try.results11, go_sem, hc1]) rfl ⟨rfl, ?_⟩
  repeat (first | (with_reducible exact Below.refl _ _) | (with_reducible refine Below.drew ?_) | (with_reducible refine below_drewN ?_ _) | ((with_reducible refine Below.setCell ?_ ?_ _); rotate_left; focus (first | exact Nat.le_refl _ | omega | (simp; done) | (simp; omega))) | ((with_reducible refine Below.alloc ?_ ?_ _); rotate_left; focus (first | exact Nat.le_refl _ | omega | (simp; done) | (simp; omega))) | ((with_reducible refine Below.trans ?_ (Below.mono hb ?_)); rotate_left; focus (first | exact Nat.le_refl _ | omega | (simp; done) | (simp; omega))))

set_option maxHeartbeats 1000000 in
theorem tick_over {c : K} (h : c.ok) (h1 : (c.t == 2147483647) = true) (w : World) :
    Calls Try.prog 11 #[clk c.l c.t c.s c.e c.f] w fun en w' => en = .returned (.tuple #[clk 0 0 0 0 0, .bool false, .int .i64 10]) ∧ Below w.heap.size w w' := by
  go_enter Try.func11, Try.ntmps11
  go_wp2_with (first | (go_at_call 19; refine (check_yes h _).mono ?_; rintro en w1 ⟨rfl, hb⟩; have hz := hb.size; (try simp at hz); have hc0 : ∀ o, w1.cell? ⟨w.heap.size, o, none⟩ = _ := fun o => hb.cell (p := ⟨w.heap.size, o, none⟩) (by first | exact Nat.le_refl _ | omega | (simp; done) | (simp; omega)); (try simp at hc0); have hl0 : w.heap.size < w1.heap.size := (by omega); have hf0 : ∀ o, w1.frozen? ⟨w.heap.size, o, none⟩ = _ := fun o => hb.frozen (p := ⟨w.heap.size, o, none⟩) (by first | exact Nat.le_refl _ | omega | (simp; done) | (simp; omega)); (try simp at hf0); have hc1 : ∀ o, w1.cell? ⟨w.heap.size + 1, o, none⟩ = _ := fun o => hb.cell (p := ⟨w.heap.size + 1, o, none⟩) (by first | exact Nat.le_refl _ | omega | (simp; done) | (simp; omega)); (try simp at hc1); have hl1 : w.heap.size + 1 < w1.heap.size := (by omega); have hf1 : ∀ o, w1.frozen? ⟨w.heap.size + 1, o, none⟩ = _ := fun o => hb.frozen (p := ⟨w.heap.size + 1, o, none⟩) (by first | exact Nat.le_refl _ | omega | (simp; done) | (simp; omega)); (try simp at hf1)) | go_in)
  refine bodyPost_ret (v := .tuple #[clk 0 0 0 0 0, .bool false, .int .i64 10]) (by simp [results, Try.results11, go_sem, hc1]) rfl ⟨rfl, ?_⟩
  repeat (first | (with_reducible exact Below.refl _ _) | (with_reducible refine Below.drew ?_) | (with_reducible refine below_drewN ?_ _) | ((with_reducible refine Below.setCell ?_ ?_ _); rotate_left; focus (first | exact Nat.le_refl _ | omega | (simp; done) | (simp; omega))) | ((with_reducible refine Below.alloc ?_ ?_ _); rotate_left; focus (first | exact Nat.le_refl _ | omega | (simp; done) | (simp; omega))) | ((with_reducible refine Below.trans ?_ (Below.mono hb ?_)); rotate_left; focus (first | exact Nat.le_refl _ | omega | (simp; done) | (simp; omega))))

set_option maxHeartbeats 1000000 in
theorem tick_go {c : K} (h : c.ok) (h1 : (c.t == 2147483647) = false) (w : World) :
    Calls Try.prog 11 #[clk c.l c.t c.s c.e c.f] w fun en w' => en = .returned (.tuple #[c.ticked.1.v, .bool c.ticked.2, .int .i64 0]) ∧ Below w.heap.size w w' := by
  go_enter Try.func11, Try.ntmps11
  go_wp2_with (first | (go_at_call 19; refine (check_yes h _).mono ?_; rintro en w1 ⟨rfl, hb⟩; have hz := hb.size; (try simp at hz); have hc0 : ∀ o, w1.cell? ⟨w.heap.size, o, none⟩ = _ := fun o => hb.cell (p := ⟨w.heap.size, o, none⟩) (by first | exact Nat.le_refl _ | omega | (simp; done) | (simp; omega)); (try simp at hc0); have hl0 : w.heap.size < w1.heap.size := (by omega); have hf0 : ∀ o, w1.frozen? ⟨w.heap.size, o, none⟩ = _ := fun o => hb.frozen (p := ⟨w.heap.size, o, none⟩) (by first | exact Nat.le_refl _ | omega | (simp; done) | (simp; omega)); (try simp at hf0); have hc1 : ∀ o, w1.cell? ⟨w.heap.size + 1, o, none⟩ = _ := fun o => hb.cell (p := ⟨w.heap.size + 1, o, none⟩) (by first | exact Nat.le_refl _ | omega | (simp; done) | (simp; omega)); (try simp at hc1); have hl1 : w.heap.size + 1 < w1.heap.size := (by omega); have hf1 : ∀ o, w1.frozen? ⟨w.heap.size + 1, o, none⟩ = _ := fun o => hb.frozen (p := ⟨w.heap.size + 1, o, none⟩) (by first | exact Nat.le_refl _ | omega | (simp; done) | (simp; omega)); (try simp at hf1)) | (go_at_call 24; refine (after_tick_any c h _).mono ?_; rintro en w2 ⟨rfl, hb2⟩; have hz2 := hb2.size; (try simp at hz2); have hc20 : ∀ o, w2.cell? ⟨w.heap.size + 1, o, none⟩ = _ := fun o => hb2.cell (p := ⟨w.heap.size + 1, o, none⟩) (by first | exact Nat.le_refl _ | omega | (simp; done) | (simp; omega)); (try simp at hc20); have hl20 : w.heap.size + 1 < w2.heap.size := (by omega); have hf20 : ∀ o, w2.frozen? ⟨w.heap.size + 1, o, none⟩ = _ := fun o => hb2.frozen (p := ⟨w.heap.size + 1, o, none⟩) (by first | exact Nat.le_refl _ | omega | (simp; done) | (simp; omega)); (try simp at hf20)) | go_in)
  refine bodyPost_ret (v := .tuple #[c.ticked.1.v, .bool c.ticked.2, .int .i64 0]) (by simp [results, Try.results11, go_sem, hc20, hc1]) rfl ⟨rfl, ?_⟩
  repeat (first | (with_reducible exact Below.refl _ _) | (with_reducible refine Below.drew ?_) | (with_reducible refine below_drewN ?_ _) | ((with_reducible refine Below.setCell ?_ ?_ _); rotate_left; focus (first | exact Nat.le_refl _ | omega | (simp; done) | (simp; omega))) | ((with_reducible refine Below.alloc ?_ ?_ _); rotate_left; focus (first | exact Nat.le_refl _ | omega | (simp; done) | (simp; omega))) | ((with_reducible refine Below.trans ?_ (Below.mono hb ?_)); rotate_left; focus (first | exact Nat.le_refl _ | omega | (simp; done) | (simp; omega))) | ((with_reducible refine Below.trans ?_ (Below.mono hb2 ?_)); rotate_left; focus (first | exact Nat.le_refl _ | omega | (simp; done) | (simp; omega))))

theorem tick_any (c : K) (w : World) : Calls Try.prog 11 #[clk c.l c.t c.s c.e c.f] w fun en w' => en = .returned (.tuple #[c.tick.1.v, .bool c.tick.2.1, .int .i64 c.tick.2.2]) ∧ Below w.heap.size w w' := by
  unfold K.tick
  by_cases h : c.ok
  · rw [if_pos h]
    by_cases h1 : c.t = 2147483647
    · rw [if_pos h1]; exact tick_over h (by simpa using h1) w
    · rw [if_neg h1]; exact tick_go h (by simpa using h1) w
  · rw [if_neg h]; exact tick_bad h w

set_option maxHeartbeats 1000000 in
theorem hear_bad {c : K} (h : ¬ c.ok) (x : Int) (w : World) :
    Calls Try.prog 13 #[clk c.l c.t c.s c.e c.f, .int .i64 x] w fun en w' => en = .returned (.tuple #[clk 0 0 0 0 0, .bool false, .int .i64 8]) ∧ Below w.heap.size w w' := by
  go_enter Try.func13, Try.ntmps13
  go_wp2_with (first | (go_at_call 19; refine (check_no h _).mono ?_; rintro en w1 ⟨rfl, hb⟩; have hz := hb.size; (try simp at hz); have hc0 : ∀ o, w1.cell? ⟨w.heap.size, o, none⟩ = _ := fun o => hb.cell (p := ⟨w.heap.size, o, none⟩) (by first | exact Nat.le_refl _ | omega | (simp; done) | (simp; omega)); (try simp at hc0); have hl0 : w.heap.size < w1.heap.size := (by omega); have hf0 : ∀ o, w1.frozen? ⟨w.heap.size, o, none⟩ = _ := fun o => hb.frozen (p := ⟨w.heap.size, o, none⟩) (by first | exact Nat.le_refl _ | omega | (simp; done) | (simp; omega)); (try simp at hf0); have hc1 : ∀ o, w1.cell? ⟨w.heap.size + 1, o, none⟩ = _ := fun o => hb.cell (p := ⟨w.heap.size + 1, o, none⟩) (by first | exact Nat.le_refl _ | omega | (simp; done) | (simp; omega)); (try simp at hc1); have hl1 : w.heap.size + 1 < w1.heap.size := (by omega); have hf1 : ∀ o, w1.frozen? ⟨w.heap.size + 1, o, none⟩ = _ := fun o => hb.frozen (p := ⟨w.heap.size + 1, o, none⟩) (by first | exact Nat.le_refl _ | omega | (simp; done) | (simp; omega)); (try simp at hf1)) | go_in)
  refine bodyPost_ret (v := .tuple #[clk 0 0 0 0 0, .bool false, .int .i64 8]) (by simp [results, Try.results13, go_sem, hc1]) rfl ⟨rfl, ?_⟩
  repeat (first | (with_reducible exact Below.refl _ _) | (with_reducible refine Below.drew ?_) | (with_reducible refine below_drewN ?_ _) | ((with_reducible refine Below.setCell ?_ ?_ _); rotate_left; focus (first | exact Nat.le_refl _ | omega | (simp; done) | (simp; omega))) | ((with_reducible refine Below.alloc ?_ ?_ _); rotate_left; focus (first | exact Nat.le_refl _ | omega | (simp; done) | (simp; omega))) | ((with_reducible refine Below.trans ?_ (Below.mono hb ?_)); rotate_left; focus (first | exact Nat.le_refl _ | omega | (simp; done) | (simp; omega))))

set_option maxHeartbeats 1000000 in
theorem hear_low {c : K} (h : c.ok) {x : Int} (h1 : x < 0) (w : World) :
    Calls Try.prog 13 #[clk c.l c.t c.s c.e c.f, .int .i64 x] w fun en w' => en = .returned (.tuple #[clk 0 0 0 0 0, .bool false, .int .i64 2]) ∧ Below w.heap.size w w' := by
  go_enter Try.func13, Try.ntmps13
  go_wp2_with (first | (go_at_call 19; refine (check_yes h _).mono ?_; rintro en w1 ⟨rfl, hb⟩; have hz := hb.size; (try simp at hz); have hc0 : ∀ o, w1.cell? ⟨w.heap.size, o, none⟩ = _ := fun o => hb.cell (p := ⟨w.heap.size, o, none⟩) (by first | exact Nat.le_refl _ | omega | (simp; done) | (simp; omega)); (try simp at hc0); have hl0 : w.heap.size < w1.heap.size := (by omega); have hf0 : ∀ o, w1.frozen? ⟨w.heap.size, o, none⟩ = _ := fun o => hb.frozen (p := ⟨w.heap.size, o, none⟩) (by first | exact Nat.le_refl _ | omega | (simp; done) | (simp; omega)); (try simp at hf0); have hc1 : ∀ o, w1.cell? ⟨w.heap.size + 1, o, none⟩ = _ := fun o => hb.cell (p := ⟨w.heap.size + 1, o, none⟩) (by first | exact Nat.le_refl _ | omega | (simp; done) | (simp; omega)); (try simp at hc1); have hl1 : w.heap.size + 1 < w1.heap.size := (by omega); have hf1 : ∀ o, w1.frozen? ⟨w.heap.size + 1, o, none⟩ = _ := fun o => hb.frozen (p := ⟨w.heap.size + 1, o, none⟩) (by first | exact Nat.le_refl _ | omega | (simp; done) | (simp; omega)); (try simp at hf1)) | go_in)
  refine bodyPost_ret (v := .tuple #[clk 0 0 0 0 0, .bool false, .int .i64 2]) (by simp [results, Try.results13, go_sem, hc1]) rfl ⟨rfl, ?_⟩
  repeat (first | (with_reducible exact Below.refl _ _) | (with_reducible refine Below.drew ?_) | (with_reducible refine below_drewN ?_ _) | ((with_reducible refine Below.setCell ?_ ?_ _); rotate_left; focus (first | exact Nat.le_refl _ | omega | (simp; done) | (simp; omega))) | ((with_reducible refine Below.alloc ?_ ?_ _); rotate_left; focus (first | exact Nat.le_refl _ | omega | (simp; done) | (simp; omega))) | ((with_reducible refine Below.trans ?_ (Below.mono hb ?_)); rotate_left; focus (first | exact Nat.le_refl _ | omega | (simp; done) | (simp; omega))))

set_option maxHeartbeats 1000000 in
theorem hear_high {c : K} (h : c.ok) {x : Int} (h1 : 0 ≤ x) (h2 : 65535 < x) (w : World) :
    Calls Try.prog 13 #[clk c.l c.t c.s c.e c.f, .int .i64 x] w fun en w' => en = .returned (.tuple #[clk 0 0 0 0 0, .bool false, .int .i64 2]) ∧ Below w.heap.size w w' := by
  go_enter Try.func13, Try.ntmps13
  go_wp2_with (first | (go_at_call 19; refine (check_yes h _).mono ?_; rintro en w1 ⟨rfl, hb⟩; have hz := hb.size; (try simp at hz); have hc0 : ∀ o, w1.cell? ⟨w.heap.size, o, none⟩ = _ := fun o => hb.cell (p := ⟨w.heap.size, o, none⟩) (by first | exact Nat.le_refl _ | omega | (simp; done) | (simp; omega)); (try simp at hc0); have hl0 : w.heap.size < w1.heap.size := (by omega); have hf0 : ∀ o, w1.frozen? ⟨w.heap.size, o, none⟩ = _ := fun o => hb.frozen (p := ⟨w.heap.size, o, none⟩) (by first | exact Nat.le_refl _ | omega | (simp; done) | (simp; omega)); (try simp at hf0); have hc1 : ∀ o, w1.cell? ⟨w.heap.size + 1, o, none⟩ = _ := fun o => hb.cell (p := ⟨w.heap.size + 1, o, none⟩) (by first | exact Nat.le_refl _ | omega | (simp; done) | (simp; omega)); (try simp at hc1); have hl1 : w.heap.size + 1 < w1.heap.size := (by omega); have hf1 : ∀ o, w1.frozen? ⟨w.heap.size + 1, o, none⟩ = _ := fun o => hb.frozen (p := ⟨w.heap.size + 1, o, none⟩) (by first | exact Nat.le_refl _ | omega | (simp; done) | (simp; omega)); (try simp at hf1)) | go_in)
  refine bodyPost_ret (v := .tuple #[clk 0 0 0 0 0, .bool false, .int .i64 2]) (by simp [results, Try.results13, go_sem, hc1]) rfl ⟨rfl, ?_⟩
  repeat (first | (with_reducible exact Below.refl _ _) | (with_reducible refine Below.drew ?_) | (with_reducible refine below_drewN ?_ _) | ((with_reducible refine Below.setCell ?_ ?_ _); rotate_left; focus (first | exact Nat.le_refl _ | omega | (simp; done) | (simp; omega))) | ((with_reducible refine Below.alloc ?_ ?_ _); rotate_left; focus (first | exact Nat.le_refl _ | omega | (simp; done) | (simp; omega))) | ((with_reducible refine Below.trans ?_ (Below.mono hb ?_)); rotate_left; focus (first | exact Nat.le_refl _ | omega | (simp; done) | (simp; omega))))

set_option maxHeartbeats 1000000 in
theorem hear_go {c : K} (h : c.ok) {x : Int} (h1 : 0 ≤ x) (h2 : x ≤ 65535) (w : World) :
    Calls Try.prog 13 #[clk c.l c.t c.s c.e c.f, .int .i64 x] w fun en w' => en = .returned (.tuple #[(c.heard x).1.v, .bool (c.heard x).2, .int .i64 0]) ∧ Below w.heap.size w w' := by
  go_enter Try.func13, Try.ntmps13
  go_wp2_with (first | (go_at_call 19; refine (check_yes h _).mono ?_; rintro en w1 ⟨rfl, hb⟩; have hz := hb.size; (try simp at hz); have hc0 : ∀ o, w1.cell? ⟨w.heap.size, o, none⟩ = _ := fun o => hb.cell (p := ⟨w.heap.size, o, none⟩) (by first | exact Nat.le_refl _ | omega | (simp; done) | (simp; omega)); (try simp at hc0); have hl0 : w.heap.size < w1.heap.size := (by omega); have hf0 : ∀ o, w1.frozen? ⟨w.heap.size, o, none⟩ = _ := fun o => hb.frozen (p := ⟨w.heap.size, o, none⟩) (by first | exact Nat.le_refl _ | omega | (simp; done) | (simp; omega)); (try simp at hf0); have hc1 : ∀ o, w1.cell? ⟨w.heap.size + 1, o, none⟩ = _ := fun o => hb.cell (p := ⟨w.heap.size + 1, o, none⟩) (by first | exact Nat.le_refl _ | omega | (simp; done) | (simp; omega)); (try simp at hc1); have hl1 : w.heap.size + 1 < w1.heap.size := (by omega); have hf1 : ∀ o, w1.frozen? ⟨w.heap.size + 1, o, none⟩ = _ := fun o => hb.frozen (p := ⟨w.heap.size + 1, o, none⟩) (by first | exact Nat.le_refl _ | omega | (simp; done) | (simp; omega)); (try simp at hf1)) | (go_at_call 24; refine (after_hear_any c x _).mono ?_; rintro en w2 ⟨rfl, hb2⟩; have hz2 := hb2.size; (try simp at hz2); have hc20 : ∀ o, w2.cell? ⟨w.heap.size + 1, o, none⟩ = _ := fun o => hb2.cell (p := ⟨w.heap.size + 1, o, none⟩) (by first | exact Nat.le_refl _ | omega | (simp; done) | (simp; omega)); (try simp at hc20); have hl20 : w.heap.size + 1 < w2.heap.size := (by omega); have hf20 : ∀ o, w2.frozen? ⟨w.heap.size + 1, o, none⟩ = _ := fun o => hb2.frozen (p := ⟨w.heap.size + 1, o, none⟩) (by first | exact Nat.le_refl _ | omega | (simp; done) | (simp; omega)); (try simp at hf20)) | go_in)
  refine bodyPost_ret (v := .tuple #[(c.heard x).1.v, .bool (c.heard x).2, .int .i64 0]) (by simp [results, Try.results13, go_sem, hc20, hc1]) rfl ⟨rfl, ?_⟩
  repeat (first | (with_reducible exact Below.refl _ _) | (with_reducible refine Below.drew ?_) | (with_reducible refine below_drewN ?_ _) | ((with_reducible refine Below.setCell ?_ ?_ _); rotate_left; focus (first | exact Nat.le_refl _ | omega | (simp; done) | (simp; omega))) | ((with_reducible refine Below.alloc ?_ ?_ _); rotate_left; focus (first | exact Nat.le_refl _ | omega | (simp; done) | (simp; omega))) | ((with_reducible refine Below.trans ?_ (Below.mono hb ?_)); rotate_left; focus (first | exact Nat.le_refl _ | omega | (simp; done) | (simp; omega))) | ((with_reducible refine Below.trans ?_ (Below.mono hb2 ?_)); rotate_left; focus (first | exact Nat.le_refl _ | omega | (simp; done) | (simp; omega))))

theorem hear_any (c : K) (x : Int) (w : World) : Calls Try.prog 13 #[clk c.l c.t c.s c.e c.f, .int .i64 x] w fun en w' => en = .returned (.tuple #[(c.hear x).1.v, .bool (c.hear x).2.1, .int .i64 (c.hear x).2.2]) ∧ Below w.heap.size w w' := by
  unfold K.hear
  by_cases h : c.ok
  · rw [if_pos h]
    by_cases h1 : x < 0 ∨ 65535 < x
    · rw [if_pos h1]
      by_cases h2 : x < 0
      · exact hear_low h h2 w
      · exact hear_high h (by omega) (by omega) w
    · rw [if_neg h1]; exact hear_go h (by omega) (by omega) w
  · rw [if_neg h]; exact hear_bad h x w

set_option maxHeartbeats 1000000 in
theorem in_yes {c : K} (h : c.ok) (w : World) :
    Calls Try.prog 15 #[clk c.l c.t c.s c.e c.f] w fun en w' => en = .returned (.tuple #[.bool (decide (c.f ≤ c.e)), .int .i64 0]) ∧ Below w.heap.size w w' := by
  go_enter Try.func15, Try.ntmps15
  go_wp2_with (first | (go_at_call 19; refine (check_yes h _).mono ?_; rintro en w1 ⟨rfl, hb⟩; have hz := hb.size; (try simp at hz); have hc0 : ∀ o, w1.cell? ⟨w.heap.size, o, none⟩ = _ := fun o => hb.cell (p := ⟨w.heap.size, o, none⟩) (by first | exact Nat.le_refl _ | omega | (simp; done) | (simp; omega)); (try simp at hc0); have hl0 : w.heap.size < w1.heap.size := (by omega); have hf0 : ∀ o, w1.frozen? ⟨w.heap.size, o, none⟩ = _ := fun o => hb.frozen (p := ⟨w.heap.size, o, none⟩) (by first | exact Nat.le_refl _ | omega | (simp; done) | (simp; omega)); (try simp at hf0)) | go_in)
  go_ret2
  refine ⟨rfl, ?_⟩
  repeat (first | (with_reducible exact Below.refl _ _) | (with_reducible refine Below.drew ?_) | (with_reducible refine below_drewN ?_ _) | ((with_reducible refine Below.setCell ?_ ?_ _); rotate_left; focus (first | exact Nat.le_refl _ | omega | (simp; done) | (simp; omega))) | ((with_reducible refine Below.alloc ?_ ?_ _); rotate_left; focus (first | exact Nat.le_refl _ | omega | (simp; done) | (simp; omega))) | ((with_reducible refine Below.trans ?_ (Below.mono hb ?_)); rotate_left; focus (first | exact Nat.le_refl _ | omega | (simp; done) | (simp; omega))))

set_option maxHeartbeats 1000000 in
theorem in_no {c : K} (h : ¬ c.ok) (w : World) :
    Calls Try.prog 15 #[clk c.l c.t c.s c.e c.f] w fun en w' => en = .returned (.tuple #[.bool false, .int .i64 8]) ∧ Below w.heap.size w w' := by
  go_enter Try.func15, Try.ntmps15
  go_wp2_with (first | (go_at_call 19; refine (check_no h _).mono ?_; rintro en w1 ⟨rfl, hb⟩; have hz := hb.size; (try simp at hz); have hc0 : ∀ o, w1.cell? ⟨w.heap.size, o, none⟩ = _ := fun o => hb.cell (p := ⟨w.heap.size, o, none⟩) (by first | exact Nat.le_refl _ | omega | (simp; done) | (simp; omega)); (try simp at hc0); have hl0 : w.heap.size < w1.heap.size := (by omega); have hf0 : ∀ o, w1.frozen? ⟨w.heap.size, o, none⟩ = _ := fun o => hb.frozen (p := ⟨w.heap.size, o, none⟩) (by first | exact Nat.le_refl _ | omega | (simp; done) | (simp; omega)); (try simp at hf0)) | go_in)
  go_ret2
  refine ⟨rfl, ?_⟩
  repeat (first | (with_reducible exact Below.refl _ _) | (with_reducible refine Below.drew ?_) | (with_reducible refine below_drewN ?_ _) | ((with_reducible refine Below.setCell ?_ ?_ _); rotate_left; focus (first | exact Nat.le_refl _ | omega | (simp; done) | (simp; omega))) | ((with_reducible refine Below.alloc ?_ ?_ _); rotate_left; focus (first | exact Nat.le_refl _ | omega | (simp; done) | (simp; omega))) | ((with_reducible refine Below.trans ?_ (Below.mono hb ?_)); rotate_left; focus (first | exact Nat.le_refl _ | omega | (simp; done) | (simp; omega))))

theorem in_any (c : K) (w : World) : Calls Try.prog 15 #[clk c.l c.t c.s c.e c.f] w fun en w' => en = .returned (.tuple #[.bool c.in_.1, .int .i64 c.in_.2]) ∧ Below w.heap.size w w' := by
  unfold K.in_
  by_cases h : c.ok
  · rw [if_pos h]; exact in_yes h w
  · rw [if_neg h]; exact in_no h w

set_option maxHeartbeats 1000000 in
theorem left_bad {c : K} (h : ¬ c.ok) (w : World) :
    Calls Try.prog 17 #[clk c.l c.t c.s c.e c.f] w fun en w' => en = .returned (.tuple #[.int .i64 0, .int .i64 8]) ∧ Below w.heap.size w w' := by
  go_enter Try.func17, Try.ntmps17
  go_wp2_with (first | (go_at_call 19; refine (check_no h _).mono ?_; rintro en w1 ⟨rfl, hb⟩; have hz := hb.size; (try simp at hz); have hc0 : ∀ o, w1.cell? ⟨w.heap.size, o, none⟩ = _ := fun o => hb.cell (p := ⟨w.heap.size, o, none⟩) (by first | exact Nat.le_refl _ | omega | (simp; done) | (simp; omega)); (try simp at hc0); have hl0 : w.heap.size < w1.heap.size := (by omega); have hf0 : ∀ o, w1.frozen? ⟨w.heap.size, o, none⟩ = _ := fun o => hb.frozen (p := ⟨w.heap.size, o, none⟩) (by first | exact Nat.le_refl _ | omega | (simp; done) | (simp; omega)); (try simp at hf0)) | go_in)
  go_ret2
  refine ⟨rfl, ?_⟩
  repeat (first | (with_reducible exact Below.refl _ _) | (with_reducible refine Below.drew ?_) | (with_reducible refine below_drewN ?_ _) | ((with_reducible refine Below.setCell ?_ ?_ _); rotate_left; focus (first | exact Nat.le_refl _ | omega | (simp; done) | (simp; omega))) | ((with_reducible refine Below.alloc ?_ ?_ _); rotate_left; focus (first | exact Nat.le_refl _ | omega | (simp; done) | (simp; omega))) | ((with_reducible refine Below.trans ?_ (Below.mono hb ?_)); rotate_left; focus (first | exact Nat.le_refl _ | omega | (simp; done) | (simp; omega))))

set_option maxHeartbeats 1000000 in
theorem left_last {c : K} (h : c.ok) (h1 : (c.e == 65535) = true) (w : World) :
    Calls Try.prog 17 #[clk c.l c.t c.s c.e c.f] w fun en w' => en = .returned (.tuple #[.int .i64 0, .int .i64 6]) ∧ Below w.heap.size w w' := by
  go_enter Try.func17, Try.ntmps17
  go_wp2_with (first | (go_at_call 19; refine (check_yes h _).mono ?_; rintro en w1 ⟨rfl, hb⟩; have hz := hb.size; (try simp at hz); have hc0 : ∀ o, w1.cell? ⟨w.heap.size, o, none⟩ = _ := fun o => hb.cell (p := ⟨w.heap.size, o, none⟩) (by first | exact Nat.le_refl _ | omega | (simp; done) | (simp; omega)); (try simp at hc0); have hl0 : w.heap.size < w1.heap.size := (by omega); have hf0 : ∀ o, w1.frozen? ⟨w.heap.size, o, none⟩ = _ := fun o => hb.frozen (p := ⟨w.heap.size, o, none⟩) (by first | exact Nat.le_refl _ | omega | (simp; done) | (simp; omega)); (try simp at hf0)) | go_in)
  go_ret2
  refine ⟨rfl, ?_⟩
  repeat (first | (with_reducible exact Below.refl _ _) | (with_reducible refine Below.drew ?_) | (with_reducible refine below_drewN ?_ _) | ((with_reducible refine Below.setCell ?_ ?_ _); rotate_left; focus (first | exact Nat.le_refl _ | omega | (simp; done) | (simp; omega))) | ((with_reducible refine Below.alloc ?_ ?_ _); rotate_left; focus (first | exact Nat.le_refl _ | omega | (simp; done) | (simp; omega))) | ((with_reducible refine Below.trans ?_ (Below.mono hb ?_)); rotate_left; focus (first | exact Nat.le_refl _ | omega | (simp; done) | (simp; omega))))

set_option maxHeartbeats 1000000 in
theorem left_go {c : K} (h : c.ok) (h1 : (c.e == 65535) = false) (w : World) :
    Calls Try.prog 17 #[clk c.l c.t c.s c.e c.f] w fun en w' => en = .returned (.tuple #[.int .i64 (c.l - (c.t - c.s)), .int .i64 0]) ∧ Below w.heap.size w w' := by
  obtain ⟨b1, b2, b3, b4, b5, b6, b7, b8, b9⟩ := ok_bounds h
  go_enter Try.func17, Try.ntmps17
  go_wp2_with (first | (go_at_call 19; refine (check_yes h _).mono ?_; rintro en w1 ⟨rfl, hb⟩; have hz := hb.size; (try simp at hz); have hc0 : ∀ o, w1.cell? ⟨w.heap.size, o, none⟩ = _ := fun o => hb.cell (p := ⟨w.heap.size, o, none⟩) (by first | exact Nat.le_refl _ | omega | (simp; done) | (simp; omega)); (try simp at hc0); have hl0 : w.heap.size < w1.heap.size := (by omega); have hf0 : ∀ o, w1.frozen? ⟨w.heap.size, o, none⟩ = _ := fun o => hb.frozen (p := ⟨w.heap.size, o, none⟩) (by first | exact Nat.le_refl _ | omega | (simp; done) | (simp; omega)); (try simp at hf0)) | go_in)
  go_ret2
  refine ⟨rfl, ?_⟩
  repeat (first | (with_reducible exact Below.refl _ _) | (with_reducible refine Below.drew ?_) | (with_reducible refine below_drewN ?_ _) | ((with_reducible refine Below.setCell ?_ ?_ _); rotate_left; focus (first | exact Nat.le_refl _ | omega | (simp; done) | (simp; omega))) | ((with_reducible refine Below.alloc ?_ ?_ _); rotate_left; focus (first | exact Nat.le_refl _ | omega | (simp; done) | (simp; omega))) | ((with_reducible refine Below.trans ?_ (Below.mono hb ?_)); rotate_left; focus (first | exact Nat.le_refl _ | omega | (simp; done) | (simp; omega))))

theorem left_any (c : K) (w : World) : Calls Try.prog 17 #[clk c.l c.t c.s c.e c.f] w fun en w' => en = .returned (.tuple #[.int .i64 c.left.1, .int .i64 c.left.2]) ∧ Below w.heap.size w w' := by
  unfold K.left
  by_cases h : c.ok
  · rw [if_pos h]
    by_cases h1 : c.e = 65535
    · rw [if_pos h1]; exact left_last h (by simpa using h1) w
    · rw [if_neg h1]; exact left_go h (by simpa using h1) w
  · rw [if_neg h]; exact left_bad h w
end Go.Proofs.Ytihijhmahoelhaa
