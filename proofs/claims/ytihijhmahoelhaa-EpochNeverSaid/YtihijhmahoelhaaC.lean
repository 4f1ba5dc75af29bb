/- Epoch: contracts of a step of a clock: a tick, and what is heard, of the program and of the document. -/
import Derived.Test.YtihijhmahoelhaaB
import Derived.WalkSpells
import Derived.Lib.Hide
import Derived.StillTailTactics
import Derived.Deep.QuietTactic
import Derived.BigQuiet
namespace Go.Proofs.Ytihijhmahoelhaa
open Go.ChangeShapes Go.WideShapes Go.ChangeAt Go.RowKit
set_option maxHeartbeats 1000000 in
theorem run_turn {l t s e f : Int} (hb0 : 1 ≤ l ∧ l ≤ 64 ∧ 0 ≤ s ∧ s ≤ t ∧ t ≤ 2147483647 ∧ 0 ≤ e ∧ e ≤ 65535 ∧ 0 ≤ f ∧ f ≤ 65536) (h1 : l ≤ t + 1 - s) (h2 : e < 65535) (w : World) (B : Nat)
   (c0 : w.cell? ⟨B, 0, none⟩ = some (.int .i64 l)) (c1 : w.cell? ⟨B, 1, none⟩ = some (.int .i64 t)) (c2 : w.cell? ⟨B, 2, none⟩ = some (.int .i64 s)) (c3 : w.cell? ⟨B, 3, none⟩ = some (.int .i64 e))
   (f1 : w.frozen? ⟨B, 1, none⟩ = false) (f2 : w.frozen? ⟨B, 2, none⟩ = false) (f3 : w.frozen? ⟨B, 3, none⟩ = false) :
    Calls Try.prog 25 #[.pointer (some ⟨B, 0, none⟩), .int .i64 0] w fun en w' => en = .returned (.bool true) ∧ w' = (((w.setCell ⟨B, 1, none⟩ (.int .i64 (t + 1))).setCell ⟨B, 3, none⟩ (.int .i64 (e + 1))).setCell ⟨B, 2, none⟩ (.int .i64 (t + 1))).drew := by
  obtain ⟨b1, b2, b3, b4, b5, b6, b7, b8, b9⟩ := hb0
  have hwr : IntKind.i64.wrap (t + 1 - s) = t + 1 - s := IntWalk.i64_in _ (by omega)
  have hwe : IntKind.i64.wrap (e + 1) = e + 1 := IntWalk.i64_in _ (by omega)
  have hd1 : decide (l ≤ t + 1 - s) = true := by simpa using h1
  have hd2 : decide (e < 65535) = true := by simpa using h2
  have k0 : (w.setCell ⟨B, 1, none⟩ (.int .i64 (t+1))).cell? ⟨B, 0, none⟩ = some (.int .i64 l) := by simp [World.cell?_setCell_other, c0]
  have k1 : (w.setCell ⟨B, 1, none⟩ (.int .i64 (t+1))).cell? ⟨B, 1, none⟩ = some (.int .i64 (t+1)) := World.cell?_setCell_same _ _ _ c1
  have k2 : (w.setCell ⟨B, 1, none⟩ (.int .i64 (t+1))).cell? ⟨B, 2, none⟩ = some (.int .i64 s) := by simp [World.cell?_setCell_other, c2]
  have k3 : (w.setCell ⟨B, 1, none⟩ (.int .i64 (t+1))).cell? ⟨B, 3, none⟩ = some (.int .i64 e) := by simp [World.cell?_setCell_other, c3]
  have g2 : (w.setCell ⟨B, 1, none⟩ (.int .i64 (t+1))).frozen? ⟨B, 2, none⟩ = false := by simp [f2]
  have g3 : (w.setCell ⟨B, 1, none⟩ (.int .i64 (t+1))).frozen? ⟨B, 3, none⟩ = false := by simp [f3]
  go_enter Try.func25, Try.ntmps25
  go_wp2
  generalize hW : w.setCell ⟨B, 1, none⟩ (.int .i64 (t+1)) = W0 at *
  have HW := Lib.hid hW
  clear hW
  refine wp_region_still_tail 33 (by kernel_rfl) (by kernel_rfl) ?_
  change wpStill Try.prog _ W0.drew (fun a' => wpList Try.prog _ _ _ a' W0.drew) _ _
  simp only [List.take_succ_cons, List.take_zero, List.drop_succ_cons, List.drop_zero]
  repeat still_step
  refine wpStill_nil ?_
  go_wp2
  go_ret
  exact ⟨rfl, by rw [← HW.out]⟩


def Stayed (w : World) (B : Nat) (t : Int) (en : Ending) (w' : World) : Prop := en = .returned (.bool false) ∧ ∃ n, w' = (w.setCell ⟨B, 1, none⟩ (.int .i64 (t + 1))).drewN n
set_option maxHeartbeats 1000000 in
theorem run_long {l t s e f : Int} (hb0 : 1 ≤ l ∧ l ≤ 64 ∧ 0 ≤ s ∧ s ≤ t ∧ t ≤ 2147483647 ∧ 0 ≤ e ∧ e ≤ 65535 ∧ 0 ≤ f ∧ f ≤ 65536) (h1 : t + 1 - s < l) (w : World) (B : Nat)
   (c0 : w.cell? ⟨B, 0, none⟩ = some (.int .i64 l)) (c1 : w.cell? ⟨B, 1, none⟩ = some (.int .i64 t)) (c2 : w.cell? ⟨B, 2, none⟩ = some (.int .i64 s)) (c3 : w.cell? ⟨B, 3, none⟩ = some (.int .i64 e))
   (f1 : w.frozen? ⟨B, 1, none⟩ = false) :
    Calls Try.prog 25 #[.pointer (some ⟨B, 0, none⟩), .int .i64 0] w (Stayed w B t) := by
  obtain ⟨b1, b2, b3, b4, b5, b6, b7, b8, b9⟩ := hb0
  have hwr : IntKind.i64.wrap (t + 1 - s) = t + 1 - s := IntWalk.i64_in _ (by omega)
  have hwe : IntKind.i64.wrap (e + 1) = e + 1 := IntWalk.i64_in _ (by omega)
  have hd1 : decide (l ≤ t + 1 - s) = false := by simpa using h1
  have k0 : (w.setCell ⟨B, 1, none⟩ (.int .i64 (t+1))).cell? ⟨B, 0, none⟩ = some (.int .i64 l) := by simp [World.cell?_setCell_other, c0]
  have k1 : (w.setCell ⟨B, 1, none⟩ (.int .i64 (t+1))).cell? ⟨B, 1, none⟩ = some (.int .i64 (t+1)) := World.cell?_setCell_same _ _ _ c1
  have k2 : (w.setCell ⟨B, 1, none⟩ (.int .i64 (t+1))).cell? ⟨B, 2, none⟩ = some (.int .i64 s) := by simp [World.cell?_setCell_other, c2]
  have k3 : (w.setCell ⟨B, 1, none⟩ (.int .i64 (t+1))).cell? ⟨B, 3, none⟩ = some (.int .i64 e) := by simp [World.cell?_setCell_other, c3]
  go_enter Try.func25, Try.ntmps25
  go_wp2
  go_quiet (fail)
  go_wp2
  go_ret
  exact ⟨rfl, _, rfl⟩

set_option maxHeartbeats 1000000 in
theorem run_last {l t s e f : Int} (hb0 : 1 ≤ l ∧ l ≤ 64 ∧ 0 ≤ s ∧ s ≤ t ∧ t ≤ 2147483647 ∧ 0 ≤ e ∧ e ≤ 65535 ∧ 0 ≤ f ∧ f ≤ 65536) (h1 : l ≤ t + 1 - s) (h2 : 65535 ≤ e) (w : World) (B : Nat)
   (c0 : w.cell? ⟨B, 0, none⟩ = some (.int .i64 l)) (c1 : w.cell? ⟨B, 1, none⟩ = some (.int .i64 t)) (c2 : w.cell? ⟨B, 2, none⟩ = some (.int .i64 s)) (c3 : w.cell? ⟨B, 3, none⟩ = some (.int .i64 e))
   (f1 : w.frozen? ⟨B, 1, none⟩ = false) :
    Calls Try.prog 25 #[.pointer (some ⟨B, 0, none⟩), .int .i64 0] w (Stayed w B t) := by
  obtain ⟨b1, b2, b3, b4, b5, b6, b7, b8, b9⟩ := hb0
  have hwr : IntKind.i64.wrap (t + 1 - s) = t + 1 - s := IntWalk.i64_in _ (by omega)
  have hwe : IntKind.i64.wrap (e + 1) = e + 1 := IntWalk.i64_in _ (by omega)
  have hd1 : decide (l ≤ t + 1 - s) = true := by simpa using h1
  have hd2 : decide (e < 65535) = false := by simpa using h2
  have k0 : (w.setCell ⟨B, 1, none⟩ (.int .i64 (t+1))).cell? ⟨B, 0, none⟩ = some (.int .i64 l) := by simp [World.cell?_setCell_other, c0]
  have k1 : (w.setCell ⟨B, 1, none⟩ (.int .i64 (t+1))).cell? ⟨B, 1, none⟩ = some (.int .i64 (t+1)) := World.cell?_setCell_same _ _ _ c1
  have k2 : (w.setCell ⟨B, 1, none⟩ (.int .i64 (t+1))).cell? ⟨B, 2, none⟩ = some (.int .i64 s) := by simp [World.cell?_setCell_other, c2]
  have k3 : (w.setCell ⟨B, 1, none⟩ (.int .i64 (t+1))).cell? ⟨B, 3, none⟩ = some (.int .i64 e) := by simp [World.cell?_setCell_other, c3]
  go_enter Try.func25, Try.ntmps25
  go_wp2
  go_quiet (fail)
  go_wp2
  go_ret
  exact ⟨rfl, _, rfl⟩

set_option maxHeartbeats 1000000 in
theorem after_tick_turn {l t s e f : Int} (hb0 : 1 ≤ l ∧ l ≤ 64 ∧ 0 ≤ s ∧ s ≤ t ∧ t ≤ 2147483647 ∧ 0 ≤ e ∧ e ≤ 65535 ∧ 0 ≤ f ∧ f ≤ 65536) (h1 : l ≤ t + 1 - s) (h2 : e < 65535) (w : World) :
    Calls Try.prog 24 #[clk l t s e f, .func (.func 25) #[] #[], .int .i64 0] w fun en w' => en = .returned (.tuple #[clk l (t + 1) (t + 1) (e + 1) f, .bool true, .int .i64 0]) ∧ Below w.heap.size w w' := by
  go_enter Try.func24, Try.ntmps24
  go_wp2_with (first | (go_at_call 25; refine (run_turn hb0 h1 h2 _ _ (by go_simp) (by go_simp) (by go_simp) (by go_simp) (by go_simp) (by go_simp) (by go_simp)).mono ?_; rintro en w' ⟨rfl, rfl⟩) | go_in)
  refine bodyPost_ret (v := .tuple #[clk l (t + 1) (t + 1) (e + 1) f, .bool true, .int .i64 0]) (by simp [results, Try.results24, go_sem]) rfl ⟨rfl, ?_⟩
  repeat (first | (with_reducible exact Below.refl _ _) | (with_reducible refine Below.drew ?_) | (with_reducible refine below_drewN ?_ _) | ((with_reducible refine Below.setCell ?_ ?_ _); rotate_left; focus (first | exact Nat.le_refl _ | (simp; done) | (simp; omega))) | ((with_reducible refine Below.alloc ?_ ?_ _); rotate_left; focus (first | exact Nat.le_refl _ | (simp; done) | (simp; omega))) | ((with_reducible refine Below.trans ?_ (Below.mono hb ?_)); rotate_left; focus (first | exact Nat.le_refl _ | (simp; done) | (simp; omega))))

set_option maxHeartbeats 1000000 in
theorem after_tick_long {l t s e f : Int} (hb0 : 1 ≤ l ∧ l ≤ 64 ∧ 0 ≤ s ∧ s ≤ t ∧ t ≤ 2147483647 ∧ 0 ≤ e ∧ e ≤ 65535 ∧ 0 ≤ f ∧ f ≤ 65536) (h1 : t + 1 - s < l) (w : World) :
    Calls Try.prog 24 #[clk l t s e f, .func (.func 25) #[] #[], .int .i64 0] w fun en w' => en = .returned (.tuple #[clk l (t + 1) s e f, .bool false, .int .i64 0]) ∧ Below w.heap.size w w' := by
  go_enter Try.func24, Try.ntmps24
  go_wp2_with (first | (go_at_call 25; refine (run_long hb0 h1 _ _ (by go_simp) (by go_simp) (by go_simp) (by go_simp) (by go_simp)).mono ?_; rintro en w' ⟨rfl, nq, rfl⟩) | go_in)
  refine bodyPost_ret (v := .tuple #[clk l (t + 1) s e f, .bool false, .int .i64 0]) (by simp [results, Try.results24, go_sem]) rfl ⟨rfl, ?_⟩
  repeat (first | (with_reducible exact Below.refl _ _) | (with_reducible refine Below.drew ?_) | (with_reducible refine below_drewN ?_ _) | ((with_reducible refine Below.setCell ?_ ?_ _); rotate_left; focus (first | exact Nat.le_refl _ | (simp; done) | (simp; omega))) | ((with_reducible refine Below.alloc ?_ ?_ _); rotate_left; focus (first | exact Nat.le_refl _ | (simp; done) | (simp; omega))) | ((with_reducible refine Below.trans ?_ (Below.mono hb ?_)); rotate_left; focus (first | exact Nat.le_refl _ | (simp; done) | (simp; omega))))

set_option maxHeartbeats 1000000 in
theorem after_tick_last {l t s e f : Int} (hb0 : 1 ≤ l ∧ l ≤ 64 ∧ 0 ≤ s ∧ s ≤ t ∧ t ≤ 2147483647 ∧ 0 ≤ e ∧ e ≤ 65535 ∧ 0 ≤ f ∧ f ≤ 65536) (h1 : l ≤ t + 1 - s) (h2 : 65535 ≤ e) (w : World) :
    Calls Try.prog 24 #[clk l t s e f, .func (.func 25) #[] #[], .int .i64 0] w fun en w' => en = .returned (.tuple #[clk l (t + 1) s e f, .bool false, .int .i64 0]) ∧ Below w.heap.size w w' := by
  go_enter Try.func24, Try.ntmps24
  go_wp2_with (first | (go_at_call 25; refine (run_last hb0 h1 h2 _ _ (by go_simp) (by go_simp) (by go_simp) (by go_simp) (by go_simp)).mono ?_; rintro en w' ⟨rfl, nq, rfl⟩) | go_in)
  refine bodyPost_ret (v := .tuple #[clk l (t + 1) s e f, .bool false, .int .i64 0]) (by simp [results, Try.results24, go_sem]) rfl ⟨rfl, ?_⟩
  repeat (first | (with_reducible exact Below.refl _ _) | (with_reducible refine Below.drew ?_) | (with_reducible refine below_drewN ?_ _) | ((with_reducible refine Below.setCell ?_ ?_ _); rotate_left; focus (first | exact Nat.le_refl _ | (simp; done) | (simp; omega))) | ((with_reducible refine Below.alloc ?_ ?_ _); rotate_left; focus (first | exact Nat.le_refl _ | (simp; done) | (simp; omega))) | ((with_reducible refine Below.trans ?_ (Below.mono hb ?_)); rotate_left; focus (first | exact Nat.le_refl _ | (simp; done) | (simp; omega))))

set_option maxHeartbeats 1000000 in
theorem ticked_turn {l t s e f : Int} (hb0 : 1 ≤ l ∧ l ≤ 64 ∧ 0 ≤ s ∧ s ≤ t ∧ t ≤ 2147483647 ∧ 0 ≤ e ∧ e ≤ 65535 ∧ 0 ≤ f ∧ f ≤ 65536) (h1 : l ≤ t + 1 - s) (h2 : e < 65535) (w : World) :
    Calls Try.prog 26 #[clk l t s e f] w fun en w' => en = .returned (.tuple #[clk l (t + 1) (t + 1) (e + 1) f, .bool true]) ∧ Below w.heap.size w w' := by
  obtain ⟨b1, b2, b3, b4, b5, b6, b7, b8, b9⟩ := hb0
  go_enter Try.func26, Try.ntmps26
  go_wp2
  refine bodyPost_ret (v := .tuple #[clk l (t + 1) (t + 1) (e + 1) f, .bool true]) (by simp [results, Try.results26, go_sem]) rfl ⟨rfl, ?_⟩
  repeat (first | (with_reducible exact Below.refl _ _) | (with_reducible refine Below.drew ?_) | (with_reducible refine below_drewN ?_ _) | ((with_reducible refine Below.setCell ?_ ?_ _); rotate_left; focus (first | exact Nat.le_refl _ | (simp; done) | (simp; omega))) | ((with_reducible refine Below.alloc ?_ ?_ _); rotate_left; focus (first | exact Nat.le_refl _ | (simp; done) | (simp; omega))) | ((with_reducible refine Below.trans ?_ (Below.mono hb ?_)); rotate_left; focus (first | exact Nat.le_refl _ | (simp; done) | (simp; omega))))

set_option maxHeartbeats 1000000 in
theorem ticked_long {l t s e f : Int} (hb0 : 1 ≤ l ∧ l ≤ 64 ∧ 0 ≤ s ∧ s ≤ t ∧ t ≤ 2147483647 ∧ 0 ≤ e ∧ e ≤ 65535 ∧ 0 ≤ f ∧ f ≤ 65536) (h1 : t + 1 - s < l) (w : World) :
    Calls Try.prog 26 #[clk l t s e f] w fun en w' => en = .returned (.tuple #[clk l (t + 1) s e f, .bool false]) ∧ Below w.heap.size w w' := by
  obtain ⟨b1, b2, b3, b4, b5, b6, b7, b8, b9⟩ := hb0
  go_enter Try.func26, Try.ntmps26
  go_wp2
  refine bodyPost_ret (v := .tuple #[clk l (t + 1) s e f, .bool false]) (by simp [results, Try.results26, go_sem]) rfl ⟨rfl, ?_⟩
  repeat (first | (with_reducible exact Below.refl _ _) | (with_reducible refine Below.drew ?_) | (with_reducible refine below_drewN ?_ _) | ((with_reducible refine Below.setCell ?_ ?_ _); rotate_left; focus (first | exact Nat.le_refl _ | (simp; done) | (simp; omega))) | ((with_reducible refine Below.alloc ?_ ?_ _); rotate_left; focus (first | exact Nat.le_refl _ | (simp; done) | (simp; omega))) | ((with_reducible refine Below.trans ?_ (Below.mono hb ?_)); rotate_left; focus (first | exact Nat.le_refl _ | (simp; done) | (simp; omega))))

set_option maxHeartbeats 1000000 in
theorem ticked_last {l t s e f : Int} (hb0 : 1 ≤ l ∧ l ≤ 64 ∧ 0 ≤ s ∧ s ≤ t ∧ t ≤ 2147483647 ∧ 0 ≤ e ∧ e ≤ 65535 ∧ 0 ≤ f ∧ f ≤ 65536) (h1 : l ≤ t + 1 - s) (h2 : 65535 ≤ e) (w : World) :
    Calls Try.prog 26 #[clk l t s e f] w fun en w' => en = .returned (.tuple #[clk l (t + 1) s e f, .bool false]) ∧ Below w.heap.size w w' := by
  obtain ⟨b1, b2, b3, b4, b5, b6, b7, b8, b9⟩ := hb0
  go_enter Try.func26, Try.ntmps26
  go_wp2
  refine bodyPost_ret (v := .tuple #[clk l (t + 1) s e f, .bool false]) (by simp [results, Try.results26, go_sem]) rfl ⟨rfl, ?_⟩
  repeat (first | (with_reducible exact Below.refl _ _) | (with_reducible refine Below.drew ?_) | (with_reducible refine below_drewN ?_ _) | ((with_reducible refine Below.setCell ?_ ?_ _); rotate_left; focus (first | exact Nat.le_refl _ | (simp; done) | (simp; omega))) | ((with_reducible refine Below.alloc ?_ ?_ _); rotate_left; focus (first | exact Nat.le_refl _ | (simp; done) | (simp; omega))) | ((with_reducible refine Below.trans ?_ (Below.mono hb ?_)); rotate_left; focus (first | exact Nat.le_refl _ | (simp; done) | (simp; omega))))

set_option maxHeartbeats 1000000 in
theorem after_hear_up {l t s e f x : Int} (h1 : e < x) (w : World) :
    Calls Try.prog 24 #[clk l t s e f, .func (.func 27) #[] #[], .int .i64 x] w fun en w' => en = .returned (.tuple #[clk l t t x f, .bool true, .int .i64 0]) ∧ Below w.heap.size w w' := by
  go_enter Try.func24, Try.ntmps24
  go_wp2
  refine bodyPost_ret (v := .tuple #[clk l t t x f, .bool true, .int .i64 0]) (by simp [results, Try.results24, go_sem]) rfl ⟨rfl, ?_⟩
  repeat (first | (with_reducible exact Below.refl _ _) | (with_reducible refine Below.drew ?_) | (with_reducible refine below_drewN ?_ _) | ((with_reducible refine Below.setCell ?_ ?_ _); rotate_left; focus (first | exact Nat.le_refl _ | (simp; done) | (simp; omega))) | ((with_reducible refine Below.alloc ?_ ?_ _); rotate_left; focus (first | exact Nat.le_refl _ | (simp; done) | (simp; omega))) | ((with_reducible refine Below.trans ?_ (Below.mono hb ?_)); rotate_left; focus (first | exact Nat.le_refl _ | (simp; done) | (simp; omega))))

set_option maxHeartbeats 1000000 in
theorem after_hear_not {l t s e f x : Int} (h1 : x ≤ e) (w : World) :
    Calls Try.prog 24 #[clk l t s e f, .func (.func 27) #[] #[], .int .i64 x] w fun en w' => en = .returned (.tuple #[clk l t s e f, .bool false, .int .i64 0]) ∧ Below w.heap.size w w' := by
  go_enter Try.func24, Try.ntmps24
  go_wp2
  refine bodyPost_ret (v := .tuple #[clk l t s e f, .bool false, .int .i64 0]) (by simp [results, Try.results24, go_sem]) rfl ⟨rfl, ?_⟩
  repeat (first | (with_reducible exact Below.refl _ _) | (with_reducible refine Below.drew ?_) | (with_reducible refine below_drewN ?_ _) | ((with_reducible refine Below.setCell ?_ ?_ _); rotate_left; focus (first | exact Nat.le_refl _ | (simp; done) | (simp; omega))) | ((with_reducible refine Below.alloc ?_ ?_ _); rotate_left; focus (first | exact Nat.le_refl _ | (simp; done) | (simp; omega))) | ((with_reducible refine Below.trans ?_ (Below.mono hb ?_)); rotate_left; focus (first | exact Nat.le_refl _ | (simp; done) | (simp; omega))))

set_option maxHeartbeats 1000000 in
theorem heard_up {l t s e f x : Int} (h1 : e < x) (w : World) :
    Calls Try.prog 28 #[clk l t s e f, .int .i64 x] w fun en w' => en = .returned (.tuple #[clk l t t x f, .bool true]) ∧ Below w.heap.size w w' := by
  go_enter Try.func28, Try.ntmps28
  go_wp2
  refine bodyPost_ret (v := .tuple #[clk l t t x f, .bool true]) (by simp [results, Try.results28, go_sem]) rfl ⟨rfl, ?_⟩
  repeat (first | (with_reducible exact Below.refl _ _) | (with_reducible refine Below.drew ?_) | (with_reducible refine below_drewN ?_ _) | ((with_reducible refine Below.setCell ?_ ?_ _); rotate_left; focus (first | exact Nat.le_refl _ | (simp; done) | (simp; omega))) | ((with_reducible refine Below.alloc ?_ ?_ _); rotate_left; focus (first | exact Nat.le_refl _ | (simp; done) | (simp; omega))) | ((with_reducible refine Below.trans ?_ (Below.mono hb ?_)); rotate_left; focus (first | exact Nat.le_refl _ | (simp; done) | (simp; omega))))

set_option maxHeartbeats 1000000 in
theorem heard_not {l t s e f x : Int} (h1 : x ≤ e) (w : World) :
    Calls Try.prog 28 #[clk l t s e f, .int .i64 x] w fun en w' => en = .returned (.tuple #[clk l t s e f, .bool false]) ∧ Below w.heap.size w w' := by
  go_enter Try.func28, Try.ntmps28
  go_wp2
  refine bodyPost_ret (v := .tuple #[clk l t s e f, .bool false]) (by simp [results, Try.results28, go_sem]) rfl ⟨rfl, ?_⟩
  repeat (first | (with_reducible exact Below.refl _ _) | (with_reducible refine Below.drew ?_) | (with_reducible refine below_drewN ?_ _) | ((with_reducible refine Below.setCell ?_ ?_ _); rotate_left; focus (first | exact Nat.le_refl _ | (simp; done) | (simp; omega))) | ((with_reducible refine Below.alloc ?_ ?_ _); rotate_left; focus (first | exact Nat.le_refl _ | (simp; done) | (simp; omega))) | ((with_reducible refine Below.trans ?_ (Below.mono hb ?_)); rotate_left; focus (first | exact Nat.le_refl _ | (simp; done) | (simp; omega))))


theorem after_tick_any (c : K) (h : c.ok) (w : World) : Calls Try.prog 24 #[clk c.l c.t c.s c.e c.f, .func (.func 25) #[] #[], .int .i64 0] w fun en w' => en = .returned (.tuple #[c.ticked.1.v, .bool c.ticked.2, .int .i64 0]) ∧ Below w.heap.size w w' := by
  have hb := ok_bounds h
  unfold K.ticked
  by_cases h1 : c.l ≤ c.t + 1 - c.s
  · by_cases h2 : c.e < 65535
    · rw [if_pos ⟨h1, h2⟩]; exact after_tick_turn hb h1 h2 w
    · rw [if_neg (fun hh => h2 hh.2)]; exact after_tick_last hb h1 (by omega) w
  · rw [if_neg (fun hh => h1 hh.1)]; exact after_tick_long hb (by omega) w
theorem ticked_any (c : K) (h : c.ok) (w : World) : Calls Try.prog 26 #[clk c.l c.t c.s c.e c.f] w fun en w' => en = .returned (.tuple #[c.ticked.1.v, .bool c.ticked.2]) ∧ Below w.heap.size w w' := by
  have hb := ok_bounds h
  unfold K.ticked
  by_cases h1 : c.l ≤ c.t + 1 - c.s
  · by_cases h2 : c.e < 65535
    · rw [if_pos ⟨h1, h2⟩]; exact ticked_turn hb h1 h2 w
    · rw [if_neg (fun hh => h2 hh.2)]; exact ticked_last hb h1 (by omega) w
  · rw [if_neg (fun hh => h1 hh.1)]; exact ticked_long hb (by omega) w
theorem after_hear_any (c : K) (x : Int) (w : World) : Calls Try.prog 24 #[clk c.l c.t c.s c.e c.f, .func (.func 27) #[] #[], .int .i64 x] w fun en w' => en = .returned (.tuple #[(c.heard x).1.v, .bool (c.heard x).2, .int .i64 0]) ∧ Below w.heap.size w w' := by
  unfold K.heard
  by_cases h1 : c.e < x
  · rw [if_pos h1]; exact after_hear_up h1 w
  · rw [if_neg h1]; exact after_hear_not (by omega) w
theorem heard_any (c : K) (x : Int) (w : World) : Calls Try.prog 28 #[clk c.l c.t c.s c.e c.f, .int .i64 x] w fun en w' => en = .returned (.tuple #[(c.heard x).1.v, .bool (c.heard x).2]) ∧ Below w.heap.size w w' := by
  unfold K.heard
  by_cases h1 : c.e < x
  · rw [if_pos h1]; exact heard_up h1 w
  · rw [if_neg h1]; exact heard_not (by omega) w
end Go.Proofs.Ytihijhmahoelhaa
