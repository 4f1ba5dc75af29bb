/- Epoch: the plain description of a clock; contracts of New and of the document's New. -/
import Derived.Test.YtihijhmahoelhaaA
import Derived.WalkSpells
import Derived.Lib.Hide
import Derived.StillTailTactics
import Derived.Deep.QuietTactic
import Derived.BigQuiet
namespace Go.Proofs.Ytihijhmahoelhaa
open Go.ChangeShapes Go.WideShapes Go.ChangeAt Go.RowKit

structure K where
  l : Int
  t : Int
  s : Int
  e : Int
  f : Int
abbrev K.v (c : K) : Value := clk c.l c.t c.s c.e c.f
abbrev K.ok (c : K) : Prop := ClkOK c.l c.t c.s c.e c.f
def K.zero : K := ⟨0, 0, 0, 0, 0⟩
def K.new (a b d : Int) : K × Int := if ClkOK a 0 0 b d then (⟨a, 0, 0, b, d⟩, 0) else (.zero, 2)
def K.ticked (c : K) : K × Bool := if c.l ≤ c.t + 1 - c.s ∧ c.e < 65535 then (⟨c.l, c.t + 1, c.t + 1, c.e + 1, c.f⟩, true) else (⟨c.l, c.t + 1, c.s, c.e, c.f⟩, false)
def K.tick (c : K) : K × Bool × Int := if c.ok then (if c.t = 2147483647 then (.zero, false, 10) else (c.ticked.1, c.ticked.2, 0)) else (.zero, false, 8)
def K.heard (c : K) (x : Int) : K × Bool := if c.e < x then (⟨c.l, c.t, c.t, x, c.f⟩, true) else (c, false)
def K.hear (c : K) (x : Int) : K × Bool × Int := if c.ok then (if x < 0 ∨ 65535 < x then (.zero, false, 2) else ((c.heard x).1, (c.heard x).2, 0)) else (.zero, false, 8)
def K.in_ (c : K) : Bool × Int := if c.ok then (decide (c.f ≤ c.e), 0) else (false, 8)
def K.left (c : K) : Int × Int := if c.ok then (if c.e = 65535 then (0, 6) else (c.l - (c.t - c.s), 0)) else (0, 8)

theorem may_yes {l t s e f : Int} (h : ClkOK l t s e f) (w : World) : Calls Try.prog 23 #[clk l t s e f] w fun en w' => en = .returned (.bool true) ∧ Below w.heap.size w w' := by
  rw [← (may_iff.2 h : mayB l t s e f = true)]; exact may_any _ _ _ _ _ w
theorem may_no {l t s e f : Int} (h : ¬ ClkOK l t s e f) (w : World) : Calls Try.prog 23 #[clk l t s e f] w fun en w' => en = .returned (.bool false) ∧ Below w.heap.size w w' := by
  rw [← (decide_eq_false h : mayB l t s e f = false)]; exact may_any _ _ _ _ _ w
theorem ok_bounds {l t s e f : Int} (h : ClkOK l t s e f) : 1 ≤ l ∧ l ≤ 64 ∧ 0 ≤ s ∧ s ≤ t ∧ t ≤ 2147483647 ∧ 0 ≤ e ∧ e ≤ 65535 ∧ 0 ≤ f ∧ f ≤ 65536 := by
  unfold ClkOK at h; omega

set_option maxHeartbeats 1000000 in
theorem new_yes {a b d : Int} (h : ClkOK a 0 0 b d) (w : World) :
    Calls Try.prog 9 #[.int .i64 a, .int .i64 b, .int .i64 d] w fun en w' => en = .returned (.tuple #[clk a 0 0 b d, .int .i64 0]) ∧ Below w.heap.size w w' := by
  go_enter Try.func9, Try.ntmps9
  go_wp2_with (first | (go_at_call 19; refine (check_yes h _).mono ?_; rintro en w1 ⟨rfl, hb⟩; have hz := hb.size; try simp at hz; have hc0 : ∀ o, w1.cell? ⟨w.heap.size, o, none⟩ = _ := fun o => hb.cell (p := ⟨w.heap.size, o, none⟩) (by first | exact Nat.le_refl _ | (simp; done) | (simp; omega)); simp at hc0; have hf0 : ∀ o, w1.frozen? ⟨w.heap.size, o, none⟩ = _ := fun o => hb.frozen (p := ⟨w.heap.size, o, none⟩) (by first | exact Nat.le_refl _ | (simp; done) | (simp; omega)); simp at hf0; have hc1 : ∀ o, w1.cell? ⟨w.heap.size + 1, o, none⟩ = _ := fun o => hb.cell (p := ⟨w.heap.size + 1, o, none⟩) (by first | exact Nat.le_refl _ | (simp; done) | (simp; omega)); simp at hc1; have hf1 : ∀ o, w1.frozen? ⟨w.heap.size + 1, o, none⟩ = _ := fun o => hb.frozen (p := ⟨w.heap.size + 1, o, none⟩) (by first | exact Nat.le_refl _ | (simp; done) | (simp; omega)); simp at hf1) | go_in)
  refine bodyPost_ret (v := .tuple #[clk a 0 0 b d, .int .i64 0]) (by simp [results, Try.results9, go_sem, hc0]) rfl ⟨rfl, ?_⟩
  repeat (first | (with_reducible exact Below.refl _ _) | (with_reducible refine Below.drew ?_) | (with_reducible refine below_drewN ?_ _) | ((with_reducible refine Below.setCell ?_ ?_ _); rotate_left; focus (first | exact Nat.le_refl _ | (simp; done) | (simp; omega))) | ((with_reducible refine Below.alloc ?_ ?_ _); rotate_left; focus (first | exact Nat.le_refl _ | (simp; done) | (simp; omega))) | ((with_reducible refine Below.trans ?_ (Below.mono hb ?_)); rotate_left; focus (first | exact Nat.le_refl _ | (simp; done) | (simp; omega))))

set_option maxHeartbeats 1000000 in
theorem new_no {a b d : Int} (h : ¬ ClkOK a 0 0 b d) (w : World) :
    Calls Try.prog 9 #[.int .i64 a, .int .i64 b, .int .i64 d] w fun en w' => en = .returned (.tuple #[clk 0 0 0 0 0, .int .i64 2]) ∧ Below w.heap.size w w' := by
  go_enter Try.func9, Try.ntmps9
  go_wp2_with (first | (go_at_call 19; refine (check_no h _).mono ?_; rintro en w1 ⟨rfl, hb⟩; have hz := hb.size; try simp at hz; have hc0 : ∀ o, w1.cell? ⟨w.heap.size, o, none⟩ = _ := fun o => hb.cell (p := ⟨w.heap.size, o, none⟩) (by first | exact Nat.le_refl _ | (simp; done) | (simp; omega)); simp at hc0; have hf0 : ∀ o, w1.frozen? ⟨w.heap.size, o, none⟩ = _ := fun o => hb.frozen (p := ⟨w.heap.size, o, none⟩) (by first | exact Nat.le_refl _ | (simp; done) | (simp; omega)); simp at hf0; have hc1 : ∀ o, w1.cell? ⟨w.heap.size + 1, o, none⟩ = _ := fun o => hb.cell (p := ⟨w.heap.size + 1, o, none⟩) (by first | exact Nat.le_refl _ | (simp; done) | (simp; omega)); simp at hc1; have hf1 : ∀ o, w1.frozen? ⟨w.heap.size + 1, o, none⟩ = _ := fun o => hb.frozen (p := ⟨w.heap.size + 1, o, none⟩) (by first | exact Nat.le_refl _ | (simp; done) | (simp; omega)); simp at hf1) | go_in)
  refine bodyPost_ret (v := .tuple #[clk 0 0 0 0 0, .int .i64 2]) (by simp [results, Try.results9, go_sem, hc0]) rfl ⟨rfl, ?_⟩
  repeat (first | (with_reducible exact Below.refl _ _) | (with_reducible refine Below.drew ?_) | (with_reducible refine below_drewN ?_ _) | ((with_reducible refine Below.setCell ?_ ?_ _); rotate_left; focus (first | exact Nat.le_refl _ | (simp; done) | (simp; omega))) | ((with_reducible refine Below.alloc ?_ ?_ _); rotate_left; focus (first | exact Nat.le_refl _ | (simp; done) | (simp; omega))) | ((with_reducible refine Below.trans ?_ (Below.mono hb ?_)); rotate_left; focus (first | exact Nat.le_refl _ | (simp; done) | (simp; omega))))

set_option maxHeartbeats 1000000 in
theorem rnew_yes {a b d : Int} (h : ClkOK a 0 0 b d) (w : World) :
    Calls Try.prog 10 #[.int .i64 a, .int .i64 b, .int .i64 d] w fun en w' => en = .returned (.tuple #[clk a 0 0 b d, .int .i64 0]) ∧ Below w.heap.size w w' := by
  go_enter Try.func10, Try.ntmps10
  go_wp2_with (first | (go_at_call 23; refine (may_yes h _).mono ?_; rintro en w1 ⟨rfl, hb⟩; have hz := hb.size; try simp at hz; have hc0 : ∀ o, w1.cell? ⟨w.heap.size, o, none⟩ = _ := fun o => hb.cell (p := ⟨w.heap.size, o, none⟩) (by first | exact Nat.le_refl _ | (simp; done) | (simp; omega)); simp at hc0; have hf0 : ∀ o, w1.frozen? ⟨w.heap.size, o, none⟩ = _ := fun o => hb.frozen (p := ⟨w.heap.size, o, none⟩) (by first | exact Nat.le_refl _ | (simp; done) | (simp; omega)); simp at hf0; have hc1 : ∀ o, w1.cell? ⟨w.heap.size + 1, o, none⟩ = _ := fun o => hb.cell (p := ⟨w.heap.size + 1, o, none⟩) (by first | exact Nat.le_refl _ | (simp; done) | (simp; omega)); simp at hc1; have hf1 : ∀ o, w1.frozen? ⟨w.heap.size + 1, o, none⟩ = _ := fun o => hb.frozen (p := ⟨w.heap.size + 1, o, none⟩) (by first | exact Nat.le_refl _ | (simp; done) | (simp; omega)); simp at hf1) | go_in)
  refine bodyPost_ret (v := .tuple #[clk a 0 0 b d, .int .i64 0]) (by simp [results, Try.results10, go_sem, hc0]) rfl ⟨rfl, ?_⟩
  repeat (first | (with_reducible exact Below.refl _ _) | (with_reducible refine Below.drew ?_) | (with_reducible refine below_drewN ?_ _) | ((with_reducible refine Below.setCell ?_ ?_ _); rotate_left; focus (first | exact Nat.le_refl _ | (simp; done) | (simp; omega))) | ((with_reducible refine Below.alloc ?_ ?_ _); rotate_left; focus (first | exact Nat.le_refl _ | (simp; done) | (simp; omega))) | ((with_reducible refine Below.trans ?_ (Below.mono hb ?_)); rotate_left; focus (first | exact Nat.le_refl _ | (simp; done) | (simp; omega))))

set_option maxHeartbeats 1000000 in
theorem rnew_no {a b d : Int} (h : ¬ ClkOK a 0 0 b d) (w : World) :
    Calls Try.prog 10 #[.int .i64 a, .int .i64 b, .int .i64 d] w fun en w' => en = .returned (.tuple #[clk 0 0 0 0 0, .int .i64 2]) ∧ Below w.heap.size w w' := by
  go_enter Try.func10, Try.ntmps10
  go_wp2_with (first | (go_at_call 23; refine (may_no h _).mono ?_; rintro en w1 ⟨rfl, hb⟩; have hz := hb.size; try simp at hz; have hc0 : ∀ o, w1.cell? ⟨w.heap.size, o, none⟩ = _ := fun o => hb.cell (p := ⟨w.heap.size, o, none⟩) (by first | exact Nat.le_refl _ | (simp; done) | (simp; omega)); simp at hc0; have hf0 : ∀ o, w1.frozen? ⟨w.heap.size, o, none⟩ = _ := fun o => hb.frozen (p := ⟨w.heap.size, o, none⟩) (by first | exact Nat.le_refl _ | (simp; done) | (simp; omega)); simp at hf0; have hc1 : ∀ o, w1.cell? ⟨w.heap.size + 1, o, none⟩ = _ := fun o => hb.cell (p := ⟨w.heap.size + 1, o, none⟩) (by first | exact Nat.le_refl _ | (simp; done) | (simp; omega)); simp at hc1; have hf1 : ∀ o, w1.frozen? ⟨w.heap.size + 1, o, none⟩ = _ := fun o => hb.frozen (p := ⟨w.heap.size + 1, o, none⟩) (by first | exact Nat.le_refl _ | (simp; done) | (simp; omega)); simp at hf1) | go_in)
  refine bodyPost_ret (v := .tuple #[clk 0 0 0 0 0, .int .i64 2]) (by simp [results, Try.results10, go_sem, hc0]) rfl ⟨rfl, ?_⟩
  repeat (first | (with_reducible exact Below.refl _ _) | (with_reducible refine Below.drew ?_) | (with_reducible refine below_drewN ?_ _) | ((with_reducible refine Below.setCell ?_ ?_ _); rotate_left; focus (first | exact Nat.le_refl _ | (simp; done) | (simp; omega))) | ((with_reducible refine Below.alloc ?_ ?_ _); rotate_left; focus (first | exact Nat.le_refl _ | (simp; done) | (simp; omega))) | ((with_reducible refine Below.trans ?_ (Below.mono hb ?_)); rotate_left; focus (first | exact Nat.le_refl _ | (simp; done) | (simp; omega))))


theorem new_any (a b d : Int) (w : World) : Calls Try.prog 9 #[.int .i64 a, .int .i64 b, .int .i64 d] w fun en w' => en = .returned (.tuple #[(K.new a b d).1.v, .int .i64 (K.new a b d).2]) ∧ Below w.heap.size w w' := by
  unfold K.new
  by_cases h : ClkOK a 0 0 b d
  · rw [if_pos h]; exact new_yes h w
  · rw [if_neg h]; exact new_no h w
theorem rnew_any (a b d : Int) (w : World) : Calls Try.prog 10 #[.int .i64 a, .int .i64 b, .int .i64 d] w fun en w' => en = .returned (.tuple #[(K.new a b d).1.v, .int .i64 (K.new a b d).2]) ∧ Below w.heap.size w w' := by
  unfold K.new
  by_cases h : ClkOK a 0 0 b d
  · rw [if_pos h]; exact rnew_yes h w
  · rw [if_neg h]; exact rnew_no h w
end Go.Proofs.Ytihijhmahoelhaa
