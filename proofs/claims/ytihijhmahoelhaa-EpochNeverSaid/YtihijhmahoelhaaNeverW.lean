/- Epoch: the walk of the law EpochNever. -/
import Derived.Test.YtihijhmahoelhaaH
import Derived.Test.YtihijhmahoelhaaKit3
import Derived.StillTailTactics
import Derived.Deep.QuietTactic
import Derived.BigQuiet
import Derived.Deep.RegionHeld3
import Derived.Deep.DrawnRows
namespace Go.Proofs.Ytihijhmahoelhaa.EpochNever
open Go.ChangeShapes Go.WideShapes Go.ChangeAt Go.RowKit
attribute [local go_sem ↓] Go.wp_at_zero Go.wp_at_succ
set_option linter.unusedSimpArgs false

theorem set_far {w : World} {a i : Nat} {p : Addr} {u : Value} (h : p.block ≠ a) : (w.setCell ⟨a, i, none⟩ u).cell? p = w.cell? p := World.cell?_setCell_other w _ _ _ (fun e => h (by rw [← e]))
theorem set_far2 {w : World} {a b i j : Nat} {u : Value} (h : b ≠ a) : (w.setCell ⟨a, i, none⟩ u).cell? ⟨b, j, none⟩ = w.cell? ⟨b, j, none⟩ := set_far h
theorem ok_turn {d : K} (h : d.ok) (h1 : d.t ≠ 2147483647) (h2 : d.l ≤ d.t + 1 - d.s ∧ d.e < 65535) : K.ok ⟨d.l, d.t + 1, d.t + 1, d.e + 1, d.f⟩ := by
  have hb := ok_bounds h
  unfold K.ok ClkOK; dsimp only; omega
theorem ok_stay {d : K} (h : d.ok) (h1 : d.t ≠ 2147483647) (h2 : ¬ (d.l ≤ d.t + 1 - d.s ∧ d.e < 65535)) : K.ok ⟨d.l, d.t + 1, d.s, d.e, d.f⟩ := by
  have hb := ok_bounds h
  unfold K.ok ClkOK at *; dsimp only; omega
theorem ok_up {d : K} (h : d.ok) {x : Int} (h1 : x ≤ 65535) (h2 : d.e < x) : K.ok ⟨d.l, d.t, d.t, x, d.f⟩ := by
  have hb := ok_bounds h
  unfold K.ok ClkOK at *; dsimp only; omega
theorem tick_turn {d : K} (h : d.ok) (h1 : d.t ≠ 2147483647) (h2 : d.l ≤ d.t + 1 - d.s ∧ d.e < 65535) (w : World) : Calls Try.prog 11 #[clk d.l d.t d.s d.e d.f] w fun en w' => en = .returned (.tuple #[clk d.l (d.t + 1) (d.t + 1) (d.e + 1) d.f, .bool true, .int .i64 0]) ∧ Below w.heap.size w w' := by
  have := tick_go h (by simpa using h1) w
  rw [show d.ticked = (⟨d.l, d.t + 1, d.t + 1, d.e + 1, d.f⟩, true) from by unfold K.ticked; rw [if_pos h2]] at this
  exact this
theorem tick_stay {d : K} (h : d.ok) (h1 : d.t ≠ 2147483647) (h2 : ¬ (d.l ≤ d.t + 1 - d.s ∧ d.e < 65535)) (w : World) : Calls Try.prog 11 #[clk d.l d.t d.s d.e d.f] w fun en w' => en = .returned (.tuple #[clk d.l (d.t + 1) d.s d.e d.f, .bool false, .int .i64 0]) ∧ Below w.heap.size w w' := by
  have := tick_go h (by simpa using h1) w
  rw [show d.ticked = (⟨d.l, d.t + 1, d.s, d.e, d.f⟩, false) from by unfold K.ticked; rw [if_neg h2]] at this
  exact this
theorem hear_far {d : K} (h : d.ok) {x : Int} (h0 : 0 ≤ x) (h1 : 65535 < x) (w : World) : Calls Try.prog 13 #[clk d.l d.t d.s d.e d.f, .int .i64 x] w fun en w' => en = .returned (.tuple #[clk 0 0 0 0 0, .bool false, .int .i64 2]) ∧ Below w.heap.size w w' := hear_high h h0 h1 w

set_option maxRecDepth 100000 in
set_option maxHeartbeats 16000000 in
theorem walk_ok (c : K) (h : c.ok) (A : Option Addr) (cap : Nat) (xs : List Int) (hn : xs.length ≤ 200) (w : World) (hR : Reads w w.heap.size 1 A xs.length (xs.map (Value.int .i64))) :
    Calls Try.prog 5 #[clk c.l c.t c.s c.e c.f, .slice A xs.length cap] w fun en w' => en = .returned (.bool true) ∧ Below w.heap.size w w' := by
  have hnn : decide ((200 : Int) < xs.length) = false := by simp; omega
  go_enter Try.func5, Try.ntmps5
  go_wp2_with fail
  refine (alive_any _).mono ?_
  rintro en w1 ⟨rfl, hb1⟩
  have hz1 := hb1.size
  (try simp at hz1)
  have B1 : Blk w1 w.heap.size 23 c.cells := (Blk.new w 23 c.cells).below hb1 (by simp)
  have cB1 := B1.cell
  have fB1 := B1.frozen
  go_wp2_with fail
  refine (check_yes h _).mono ?_
  rintro en w2 ⟨rfl, hb2⟩
  have hz2 := hb2.size
  have B2 : Blk w2 w.heap.size 23 c.cells := B1.below hb2 B1.lt
  clear cB1 fB1
  have cB2 := B2.cell
  have fB2 := B2.frozen
  have hW2 : Below w.heap.size w w2 := ((((Below.refl _ w).alloc (Nat.le_refl _) _).trans (hb1.mono (by simp)))).trans (hb2.mono (by omega))
  clear hb1 hb2
  go_wp2_with fail
  clear cB2 fB2
  go_loopw [6, 7] (fun u i wr => ∃ (k : Nat) (d : K) (hd : Int), i = .int .i64 k ∧ u = .int .i64 hd ∧ k ≤ xs.length ∧ d.ok ∧ hd ≤ d.e ∧ Blk wr w.heap.size 23 d.cells ∧ Below w.heap.size w wr) (fun _ i _ => xs.length - (intOf i).toNat)
  case atStart => exact ⟨0, c, c.e, rfl, rfl, Nat.zero_le _, h, Int.le_refl _, B2, hW2⟩
  case round =>
    clear B2 hW2 hz1 hz2
    obtain ⟨k, d, hd, rfl, rfl, hk, hok, hhd, hB, hBel⟩ := hrel
    have cB := hB.cell
    have fB := hB.frozen
    have lB := hB.lt
    by_cases hlt : k < xs.length
    · obtain ⟨ad, u, rfl, hab, hu, cA⟩ := (hR.below hBel).at_ hlt
      obtain ⟨x, hx⟩ : ∃ x, u = .int .i64 x := by
        rw [List.getElem?_map, List.getElem?_eq_getElem hlt] at hu
        exact ⟨xs[k], by simpa using hu.symm⟩
      subst hx
      clear hu
      have lA : (ad.add k).block < wr.heap.size := by rw [block_of_add]; omega
      have hkk : (k : Int) < xs.length := by omega
      by_cases hx : x < 0
      · have x1 : decide (0 ≤ x) = false := by simpa using hx
        have x2 : decide (x < 0) = true := by simpa using hx
        by_cases ht : d.t = 2147483647
        · have x3 : (d.t != 2147483647) = false := by simpa using ht
          have ht' : (d.t == 2147483647) = true := by simpa using ht
          clear ht
          go_wp2_with fail
          refine (tick_over hok ht' _).mono ?_
          rintro en w1 ⟨rfl, hb1⟩
          have hz1 := hb1.size
          (try simp at hz1)
          have cB1 : ∀ o, w1.cell? ⟨w.heap.size, o, none⟩ = _ := fun o => hb1.cell (p := ⟨w.heap.size, o, none⟩) lB
          have fB1 : ∀ o, w1.frozen? ⟨w.heap.size, o, none⟩ = _ := fun o => hb1.frozen (p := ⟨w.heap.size, o, none⟩) lB
          simp [cB] at cB1
          simp [fB] at fB1
          have lB1 : w.heap.size < w1.heap.size := by omega
          have cA1 : w1.cell? (ad.add k) = some (.int .i64 x) := (hb1.cell lA).trans cA
          have lA1 : (ad.add k).block < w1.heap.size := by omega
          go_wp2
          go_roundw
          case rel => exact ⟨k + 1, d, hd, by go_num, rfl, by omega, hok, hhd, (hB.below hb1 lB).alloc _, by repeat (first | (with_reducible exact Below.refl _ _) | (with_reducible refine Below.drew ?_) | (with_reducible refine below_drewN ?_ _) | ((with_reducible refine Below.setCell ?_ ?_ _); rotate_left; focus (first | exact Nat.le_refl _ | omega | (simp; done) | (simp; omega))) | ((with_reducible refine Below.alloc ?_ ?_ _); rotate_left; focus (first | exact Nat.le_refl _ | omega | (simp; done) | (simp; omega))) | ((with_reducible refine Below.trans ?_ (Below.mono hb1 ?_)); rotate_left; focus (first | exact Nat.le_refl _ | omega | (simp; done) | (simp; omega))) | (with_reducible exact hBel) | (with_reducible exact hBW))⟩
          case measure => simp [intOf]; omega
        · have x3 : (d.t != 2147483647) = true := by simpa using ht
          by_cases h2 : d.l ≤ d.t + 1 - d.s ∧ d.e < 65535
          · have hto := ok_turn hok ht h2
            have y1 : (d.e + 1 != d.e) = true := by simp; omega
            have y2 : decide (d.e + 1 < d.e) = false := by simp; omega
            have y3 : decide (d.e + 1 < hd) = false := by simp; omega
            have ho : K.ok ⟨d.l, d.t + 1, d.t + 1, d.e + 1, d.f⟩ := hto
            go_wp2_with fail
            refine (tick_turn hok ht h2 _).mono ?_
            rintro en w1 ⟨rfl, hb1⟩
            have hz1 := hb1.size
            (try simp at hz1)
            have cB1 : ∀ o, w1.cell? ⟨w.heap.size, o, none⟩ = _ := fun o => hb1.cell (p := ⟨w.heap.size, o, none⟩) lB
            have fB1 : ∀ o, w1.frozen? ⟨w.heap.size, o, none⟩ = _ := fun o => hb1.frozen (p := ⟨w.heap.size, o, none⟩) lB
            simp [cB] at cB1
            simp [fB] at fB1
            have lB1 : w.heap.size < w1.heap.size := by omega
            have cA1 : w1.cell? (ad.add k) = some (.int .i64 x) := (hb1.cell lA).trans cA
            have lA1 : (ad.add k).block < w1.heap.size := by omega
            go_wp2_with fail
            refine (check_yes ho _).mono ?_
            rintro en w3 ⟨rfl, hb3⟩
            have hz3 := hb3.size
            (try simp at hz3)
            have B8 := (Blk.new w1 23 (K.cells ⟨d.l, d.t + 1, d.t + 1, d.e + 1, d.f⟩)).below hb3 (by simp)
            have B0 := ((hB.below hb1 lB).alloc (.cells (K.cells ⟨d.l, d.t + 1, d.t + 1, d.e + 1, d.f⟩) 23)).below hb3 (by simp; omega)
            clear cB fB cB1 fB1 cA cA1
            have cB8 := B8.cell
            have fB8 := B8.frozen
            have cB0 := B0.cell
            have fB0 := B0.frozen
            go_wp2
            go_roundw
            case rel => exact ⟨k + 1, ⟨d.l, d.t + 1, d.t + 1, d.e + 1, d.f⟩, hd, by go_num, rfl, by omega, ho, by dsimp only; omega, blk_store (d := ⟨d.l, d.t + 1, d.t + 1, d.e + 1, d.f⟩) B0, by repeat (first | (with_reducible exact Below.refl _ _) | (with_reducible refine Below.drew ?_) | (with_reducible refine below_drewN ?_ _) | ((with_reducible refine Below.setCell ?_ ?_ _); rotate_left; focus (first | exact Nat.le_refl _ | omega | (simp; done) | (simp; omega))) | ((with_reducible refine Below.alloc ?_ ?_ _); rotate_left; focus (first | exact Nat.le_refl _ | omega | (simp; done) | (simp; omega))) | ((with_reducible refine Below.trans ?_ (Below.mono hb3 ?_)); rotate_left; focus (first | exact Nat.le_refl _ | omega | (simp; done) | (simp; omega))) | ((with_reducible refine Below.trans ?_ (Below.mono hb1 ?_)); rotate_left; focus (first | exact Nat.le_refl _ | omega | (simp; done) | (simp; omega))) | (with_reducible exact hBel) | (with_reducible exact hBW))⟩
            case measure => simp [intOf]; omega
          · have hto := ok_stay hok ht h2
            have y1 : (d.e != d.e) = false := by simp
            have y2 : decide (d.e < d.e) = false := by simp
            have y3 : decide (d.e < hd) = false := by simp; omega
            have ho : K.ok ⟨d.l, d.t + 1, d.s, d.e, d.f⟩ := hto
            go_wp2_with fail
            refine (tick_stay hok ht h2 _).mono ?_
            rintro en w1 ⟨rfl, hb1⟩
            have hz1 := hb1.size
            (try simp at hz1)
            have cB1 : ∀ o, w1.cell? ⟨w.heap.size, o, none⟩ = _ := fun o => hb1.cell (p := ⟨w.heap.size, o, none⟩) lB
            have fB1 : ∀ o, w1.frozen? ⟨w.heap.size, o, none⟩ = _ := fun o => hb1.frozen (p := ⟨w.heap.size, o, none⟩) lB
            simp [cB] at cB1
            simp [fB] at fB1
            have lB1 : w.heap.size < w1.heap.size := by omega
            have cA1 : w1.cell? (ad.add k) = some (.int .i64 x) := (hb1.cell lA).trans cA
            have lA1 : (ad.add k).block < w1.heap.size := by omega
            go_wp2_with fail
            refine (check_yes ho _).mono ?_
            rintro en w3 ⟨rfl, hb3⟩
            have hz3 := hb3.size
            (try simp at hz3)
            have B8 := (Blk.new w1 23 (K.cells ⟨d.l, d.t + 1, d.s, d.e, d.f⟩)).below hb3 (by simp)
            have B0 := ((hB.below hb1 lB).alloc (.cells (K.cells ⟨d.l, d.t + 1, d.s, d.e, d.f⟩) 23)).below hb3 (by simp; omega)
            clear cB fB cB1 fB1 cA cA1
            have cB8 := B8.cell
            have fB8 := B8.frozen
            have cB0 := B0.cell
            have fB0 := B0.frozen
            go_wp2
            go_roundw
            case rel => exact ⟨k + 1, ⟨d.l, d.t + 1, d.s, d.e, d.f⟩, hd, by go_num, rfl, by omega, ho, by dsimp only; omega, blk_store (d := ⟨d.l, d.t + 1, d.s, d.e, d.f⟩) B0, by repeat (first | (with_reducible exact Below.refl _ _) | (with_reducible refine Below.drew ?_) | (with_reducible refine below_drewN ?_ _) | ((with_reducible refine Below.setCell ?_ ?_ _); rotate_left; focus (first | exact Nat.le_refl _ | omega | (simp; done) | (simp; omega))) | ((with_reducible refine Below.alloc ?_ ?_ _); rotate_left; focus (first | exact Nat.le_refl _ | omega | (simp; done) | (simp; omega))) | ((with_reducible refine Below.trans ?_ (Below.mono hb3 ?_)); rotate_left; focus (first | exact Nat.le_refl _ | omega | (simp; done) | (simp; omega))) | ((with_reducible refine Below.trans ?_ (Below.mono hb1 ?_)); rotate_left; focus (first | exact Nat.le_refl _ | omega | (simp; done) | (simp; omega))) | (with_reducible exact hBel) | (with_reducible exact hBW))⟩
            case measure => simp [intOf]; omega
      · have x1 : decide (0 ≤ x) = true := by simpa using hx
        have x2 : decide (x < 0) = false := by simpa using hx
        have hx0 : 0 ≤ x := by omega
        by_cases hx5 : 65535 < x
        · have x3 : decide (x ≤ 65535) = false := by simpa using hx5
          go_wp2_with fail
          refine (tick_any d _).mono ?_
          rintro en w1 ⟨rfl, hb1⟩
          have hz1 := hb1.size
          (try simp at hz1)
          have cB1 : ∀ o, w1.cell? ⟨w.heap.size, o, none⟩ = _ := fun o => hb1.cell (p := ⟨w.heap.size, o, none⟩) lB
          have fB1 : ∀ o, w1.frozen? ⟨w.heap.size, o, none⟩ = _ := fun o => hb1.frozen (p := ⟨w.heap.size, o, none⟩) lB
          simp [cB] at cB1
          simp [fB] at fB1
          have lB1 : w.heap.size < w1.heap.size := by omega
          have cA1 : w1.cell? (ad.add k) = some (.int .i64 x) := (hb1.cell lA).trans cA
          have lA1 : (ad.add k).block < w1.heap.size := by omega
          go_wp2_with fail
          obtain ⟨W0, hW0⟩ : ∃ W0, W0 = w1.alloc (.cells #[.int .i64 d.tick.1.l, .int .i64 d.tick.1.t, .int .i64 d.tick.1.s, .int .i64 d.tick.1.e, .int .i64 d.tick.1.f] 23) := ⟨_, rfl⟩
          rw [← hW0]
          have B8 : Blk W0 w1.heap.size 23 d.tick.1.cells := by rw [hW0]; exact Blk.new w1 23 d.tick.1.cells
          have B0 : Blk W0 w.heap.size 23 d.cells := by rw [hW0]; exact (hB.below hb1 lB).alloc _
          have cA2 : W0.cell? (ad.add k) = some (.int .i64 x) := by rw [hW0]; exact (World.cell?_alloc_lt _ _ _ lA1).trans cA1
          have lA2 : (ad.add k).block < W0.heap.size := by rw [hW0]; simp; omega
          have hBW : Below w.heap.size w W0 := by
            rw [hW0]
            repeat (first | (with_reducible exact Below.refl _ _) | (with_reducible refine Below.drew ?_) | (with_reducible refine below_drewN ?_ _) | ((with_reducible refine Below.setCell ?_ ?_ _); rotate_left; focus (first | exact Nat.le_refl _ | omega | (simp; done) | (simp; omega))) | ((with_reducible refine Below.alloc ?_ ?_ _); rotate_left; focus (first | exact Nat.le_refl _ | omega | (simp; done) | (simp; omega))) | ((with_reducible refine Below.trans ?_ (Below.mono hb1 ?_)); rotate_left; focus (first | exact Nat.le_refl _ | omega | (simp; done) | (simp; omega))) | (with_reducible exact hBel))
          clear hW0 cB fB cB1 fB1 cA cA1 hB hBel hb1 hz1 lA lB
          have cB8 := B8.cell
          have fB8 := B8.frozen
          have cB0 := B0.cell
          have fB0 := B0.frozen
          have l8 := B8.lt
          have l0 := B0.lt
          have hne := Nat.ne_of_lt lB1
          have hne' := Nat.ne_of_gt lB1
          have hneA := Nat.ne_of_lt lA1
          go_region_held3 (fun w' => w'.cell? ⟨w.heap.size, 0, none⟩ = some (.int .i64 d.l) ∧ w'.cell? ⟨w.heap.size, 1, none⟩ = some (.int .i64 d.t) ∧ w'.cell? ⟨w.heap.size, 2, none⟩ = some (.int .i64 d.s) ∧ w'.cell? ⟨w.heap.size, 3, none⟩ = some (.int .i64 d.e) ∧ w'.cell? ⟨w.heap.size, 4, none⟩ = some (.int .i64 d.f) ∧ w'.cell? (ad.add k) = some (.int .i64 x)) ((simp [set_far2 hne, set_far hneA, cB0, cA2]; done)) (first | (go_at_call 13; refine (hear_far hok hx0 hx5 _).mono ?_; rintro en w2 ⟨rfl, hb2⟩; have hb2' : Below W0.heap.size W0 w2 := ⟨hb2.os, hb2.tape, hb2.output, hb2.size, hb2.block⟩; clear hb2; have B82 := B8.below hb2' l8; have B02 := B0.below hb2' l0; have cA3 : w2.cell? (ad.add k) = some (.int .i64 x) := (hb2'.cell (p := ad.add k) lA2).trans cA2; have lA3 : (ad.add k).block < w2.heap.size := Nat.lt_of_lt_of_le lA2 hb2'.size; have hBW2 : Below w.heap.size w w2 := hBW.trans (hb2'.mono hBW.size); clear cA2 lA2 hBW cB8 fB8 cB0 fB0 B8 B0 l8 l0; have cA2 := cA3; have cB8 := B82.cell; have fB8 := B82.frozen; have cB0 := B02.cell; have fB0 := B02.frozen; have l8 := B82.lt; have l0 := B02.lt))
          go_wp2_with fail
          go_wp2
          go_roundw
          case rel => exact ⟨k + 1, d, hd, by go_num, rfl, by omega, hok, hhd, (((((B02.far (p := ⟨w1.heap.size, 0, none⟩) hne _).far (p := ⟨w1.heap.size, 1, none⟩) hne _).far (p := ⟨w1.heap.size, 2, none⟩) hne _).far (p := ⟨w1.heap.size, 3, none⟩) hne _).far (p := ⟨w1.heap.size, 4, none⟩) hne _), by repeat (first | (with_reducible exact Below.refl _ _) | (with_reducible refine Below.drew ?_) | (with_reducible refine below_drewN ?_ _) | ((with_reducible refine Below.setCell ?_ ?_ _); rotate_left; focus (first | exact Nat.le_refl _ | omega | (simp; done) | (simp; omega))) | ((with_reducible refine Below.alloc ?_ ?_ _); rotate_left; focus (first | exact Nat.le_refl _ | omega | (simp; done) | (simp; omega))) | (with_reducible exact hBW2))⟩
          case measure => simp [intOf]; omega
        · have x3 : decide (x ≤ 65535) = true := by simpa using hx5
          have hx6 : x ≤ 65535 := by omega
          clear hx5
          by_cases hup : d.e < x
          · have hto := ok_up hok hx6 hup
            have y1 : (x != d.e) = true := by simp; omega
            have y2 : decide (x < d.e) = false := by simp; omega
            have y3 : decide (x < x) = false := by simp
            have hhx : hd < x := by omega
            have ho : K.ok ⟨d.l, d.t, d.t, x, d.f⟩ := hto
            go_wp2_with fail
            refine (tick_any d _).mono ?_
            rintro en w1 ⟨rfl, hb1⟩
            have hz1 := hb1.size
            (try simp at hz1)
            have cB1 : ∀ o, w1.cell? ⟨w.heap.size, o, none⟩ = _ := fun o => hb1.cell (p := ⟨w.heap.size, o, none⟩) lB
            have fB1 : ∀ o, w1.frozen? ⟨w.heap.size, o, none⟩ = _ := fun o => hb1.frozen (p := ⟨w.heap.size, o, none⟩) lB
            simp [cB] at cB1
            simp [fB] at fB1
            have lB1 : w.heap.size < w1.heap.size := by omega
            have cA1 : w1.cell? (ad.add k) = some (.int .i64 x) := (hb1.cell lA).trans cA
            have lA1 : (ad.add k).block < w1.heap.size := by omega
            go_wp2_with fail
            obtain ⟨W0, hW0⟩ : ∃ W0, W0 = w1.alloc (.cells #[.int .i64 d.tick.1.l, .int .i64 d.tick.1.t, .int .i64 d.tick.1.s, .int .i64 d.tick.1.e, .int .i64 d.tick.1.f] 23) := ⟨_, rfl⟩
            rw [← hW0]
            have B8 : Blk W0 w1.heap.size 23 d.tick.1.cells := by rw [hW0]; exact Blk.new w1 23 d.tick.1.cells
            have B0 : Blk W0 w.heap.size 23 d.cells := by rw [hW0]; exact (hB.below hb1 lB).alloc _
            have cA2 : W0.cell? (ad.add k) = some (.int .i64 x) := by rw [hW0]; exact (World.cell?_alloc_lt _ _ _ lA1).trans cA1
            have lA2 : (ad.add k).block < W0.heap.size := by rw [hW0]; simp; omega
            have hBW : Below w.heap.size w W0 := by
              rw [hW0]
              repeat (first | (with_reducible exact Below.refl _ _) | (with_reducible refine Below.drew ?_) | (with_reducible refine below_drewN ?_ _) | ((with_reducible refine Below.setCell ?_ ?_ _); rotate_left; focus (first | exact Nat.le_refl _ | omega | (simp; done) | (simp; omega))) | ((with_reducible refine Below.alloc ?_ ?_ _); rotate_left; focus (first | exact Nat.le_refl _ | omega | (simp; done) | (simp; omega))) | ((with_reducible refine Below.trans ?_ (Below.mono hb1 ?_)); rotate_left; focus (first | exact Nat.le_refl _ | omega | (simp; done) | (simp; omega))) | (with_reducible exact hBel))
            clear hW0 cB fB cB1 fB1 cA cA1 hB hBel hb1 hz1 lA lB
            have cB8 := B8.cell
            have fB8 := B8.frozen
            have cB0 := B0.cell
            have fB0 := B0.frozen
            have l8 := B8.lt
            have l0 := B0.lt
            have hne := Nat.ne_of_lt lB1
            have hne' := Nat.ne_of_gt lB1
            have hneA := Nat.ne_of_lt lA1
            go_region_held3 (fun w' => w'.cell? ⟨w.heap.size, 0, none⟩ = some (.int .i64 d.l) ∧ w'.cell? ⟨w.heap.size, 1, none⟩ = some (.int .i64 d.t) ∧ w'.cell? ⟨w.heap.size, 2, none⟩ = some (.int .i64 d.s) ∧ w'.cell? ⟨w.heap.size, 3, none⟩ = some (.int .i64 d.e) ∧ w'.cell? ⟨w.heap.size, 4, none⟩ = some (.int .i64 d.f) ∧ w'.cell? (ad.add k) = some (.int .i64 x)) ((simp [set_far2 hne, set_far hneA, cB0, cA2]; done)) (first | (go_at_call 13; refine (hear_up hok hx0 hx6 hup _).mono ?_; rintro en w2 ⟨rfl, hb2⟩; have hb2' : Below W0.heap.size W0 w2 := ⟨hb2.os, hb2.tape, hb2.output, hb2.size, hb2.block⟩; clear hb2; have B82 := B8.below hb2' l8; have B02 := B0.below hb2' l0; have cA3 : w2.cell? (ad.add k) = some (.int .i64 x) := (hb2'.cell (p := ad.add k) lA2).trans cA2; have lA3 : (ad.add k).block < w2.heap.size := Nat.lt_of_lt_of_le lA2 hb2'.size; have hBW2 : Below w.heap.size w w2 := hBW.trans (hb2'.mono hBW.size); clear cA2 lA2 hBW cB8 fB8 cB0 fB0 B8 B0 l8 l0; have cA2 := cA3; have cB8 := B82.cell; have fB8 := B82.frozen; have cB0 := B02.cell; have fB0 := B02.frozen; have l8 := B82.lt; have l0 := B02.lt))
            go_wp2_with fail
            refine (check_yes ho _).mono ?_
            rintro en w3 ⟨rfl, hb3⟩
            have hz3 := hb3.size
            simp only [World.size_setCell] at hz3
            have B83 := (blk_store (d := ⟨d.l, d.t, d.t, x, d.f⟩) B82).below hb3 (by simp; omega)
            have B03 := (((((B02.far (p := ⟨w1.heap.size, 0, none⟩) hne _).far (p := ⟨w1.heap.size, 1, none⟩) hne _).far (p := ⟨w1.heap.size, 2, none⟩) hne _).far (p := ⟨w1.heap.size, 3, none⟩) hne _).far (p := ⟨w1.heap.size, 4, none⟩) hne _).below hb3 (by simp; omega)
            clear cB8 fB8 cB0 fB0 cA3 lA3 B82 B02
            have cB8 := B83.cell
            have fB8 := B83.frozen
            have cB0 := B03.cell
            have fB0 := B03.frozen
            go_wp2
            go_roundw
            case rel => exact ⟨k + 1, ⟨d.l, d.t, d.t, x, d.f⟩, x, by go_num, by go_num, by omega, ho, by dsimp only; omega, blk_store (d := ⟨d.l, d.t, d.t, x, d.f⟩) B03, by repeat (first | (with_reducible exact Below.refl _ _) | (with_reducible refine Below.drew ?_) | (with_reducible refine below_drewN ?_ _) | ((with_reducible refine Below.setCell ?_ ?_ _); rotate_left; focus (first | exact Nat.le_refl _ | omega | (simp; done) | (simp; omega))) | ((with_reducible refine Below.alloc ?_ ?_ _); rotate_left; focus (first | exact Nat.le_refl _ | omega | (simp; done) | (simp; omega))) | ((with_reducible refine Below.trans ?_ (Below.mono hb3 ?_)); rotate_left; focus (first | exact Nat.le_refl _ | omega | (simp; done) | (simp; omega))) | (with_reducible exact hBW2))⟩
            case measure => simp [intOf]; omega
          · by_cases hhx : hd < x
            · have hle : x ≤ d.e := by omega
              have y1 : (d.e != d.e) = false := by simp
              have y2 : decide (d.e < d.e) = false := by simp
              have y3 : decide (d.e < x) = false := by simp; omega
              have ho : K.ok ⟨d.l, d.t, d.s, d.e, d.f⟩ := hok
              go_wp2_with fail
              refine (tick_any d _).mono ?_
              rintro en w1 ⟨rfl, hb1⟩
              have hz1 := hb1.size
              (try simp at hz1)
              have cB1 : ∀ o, w1.cell? ⟨w.heap.size, o, none⟩ = _ := fun o => hb1.cell (p := ⟨w.heap.size, o, none⟩) lB
              have fB1 : ∀ o, w1.frozen? ⟨w.heap.size, o, none⟩ = _ := fun o => hb1.frozen (p := ⟨w.heap.size, o, none⟩) lB
              simp [cB] at cB1
              simp [fB] at fB1
              have lB1 : w.heap.size < w1.heap.size := by omega
              have cA1 : w1.cell? (ad.add k) = some (.int .i64 x) := (hb1.cell lA).trans cA
              have lA1 : (ad.add k).block < w1.heap.size := by omega
              go_wp2_with fail
              obtain ⟨W0, hW0⟩ : ∃ W0, W0 = w1.alloc (.cells #[.int .i64 d.tick.1.l, .int .i64 d.tick.1.t, .int .i64 d.tick.1.s, .int .i64 d.tick.1.e, .int .i64 d.tick.1.f] 23) := ⟨_, rfl⟩
              rw [← hW0]
              have B8 : Blk W0 w1.heap.size 23 d.tick.1.cells := by rw [hW0]; exact Blk.new w1 23 d.tick.1.cells
              have B0 : Blk W0 w.heap.size 23 d.cells := by rw [hW0]; exact (hB.below hb1 lB).alloc _
              have cA2 : W0.cell? (ad.add k) = some (.int .i64 x) := by rw [hW0]; exact (World.cell?_alloc_lt _ _ _ lA1).trans cA1
              have lA2 : (ad.add k).block < W0.heap.size := by rw [hW0]; simp; omega
              have hBW : Below w.heap.size w W0 := by
                rw [hW0]
                repeat (first | (with_reducible exact Below.refl _ _) | (with_reducible refine Below.drew ?_) | (with_reducible refine below_drewN ?_ _) | ((with_reducible refine Below.setCell ?_ ?_ _); rotate_left; focus (first | exact Nat.le_refl _ | omega | (simp; done) | (simp; omega))) | ((with_reducible refine Below.alloc ?_ ?_ _); rotate_left; focus (first | exact Nat.le_refl _ | omega | (simp; done) | (simp; omega))) | ((with_reducible refine Below.trans ?_ (Below.mono hb1 ?_)); rotate_left; focus (first | exact Nat.le_refl _ | omega | (simp; done) | (simp; omega))) | (with_reducible exact hBel))
              clear hW0 cB fB cB1 fB1 cA cA1 hB hBel hb1 hz1 lA lB
              have cB8 := B8.cell
              have fB8 := B8.frozen
              have cB0 := B0.cell
              have fB0 := B0.frozen
              have l8 := B8.lt
              have l0 := B0.lt
              have hne := Nat.ne_of_lt lB1
              have hne' := Nat.ne_of_gt lB1
              have hneA := Nat.ne_of_lt lA1
              go_region_held3 (fun w' => w'.cell? ⟨w.heap.size, 0, none⟩ = some (.int .i64 d.l) ∧ w'.cell? ⟨w.heap.size, 1, none⟩ = some (.int .i64 d.t) ∧ w'.cell? ⟨w.heap.size, 2, none⟩ = some (.int .i64 d.s) ∧ w'.cell? ⟨w.heap.size, 3, none⟩ = some (.int .i64 d.e) ∧ w'.cell? ⟨w.heap.size, 4, none⟩ = some (.int .i64 d.f) ∧ w'.cell? (ad.add k) = some (.int .i64 x)) ((simp [set_far2 hne, set_far hneA, cB0, cA2]; done)) (first | (go_at_call 13; refine (hear_same hok hx0 hx6 hle _).mono ?_; rintro en w2 ⟨rfl, hb2⟩; have hb2' : Below W0.heap.size W0 w2 := ⟨hb2.os, hb2.tape, hb2.output, hb2.size, hb2.block⟩; clear hb2; have B82 := B8.below hb2' l8; have B02 := B0.below hb2' l0; have cA3 : w2.cell? (ad.add k) = some (.int .i64 x) := (hb2'.cell (p := ad.add k) lA2).trans cA2; have lA3 : (ad.add k).block < w2.heap.size := Nat.lt_of_lt_of_le lA2 hb2'.size; have hBW2 : Below w.heap.size w w2 := hBW.trans (hb2'.mono hBW.size); clear cA2 lA2 hBW cB8 fB8 cB0 fB0 B8 B0 l8 l0; have cA2 := cA3; have cB8 := B82.cell; have fB8 := B82.frozen; have cB0 := B02.cell; have fB0 := B02.frozen; have l8 := B82.lt; have l0 := B02.lt))
              go_wp2_with fail
              refine (check_yes ho _).mono ?_
              rintro en w3 ⟨rfl, hb3⟩
              have hz3 := hb3.size
              simp only [World.size_setCell] at hz3
              have B83 := (blk_store (d := ⟨d.l, d.t, d.s, d.e, d.f⟩) B82).below hb3 (by simp; omega)
              have B03 := (((((B02.far (p := ⟨w1.heap.size, 0, none⟩) hne _).far (p := ⟨w1.heap.size, 1, none⟩) hne _).far (p := ⟨w1.heap.size, 2, none⟩) hne _).far (p := ⟨w1.heap.size, 3, none⟩) hne _).far (p := ⟨w1.heap.size, 4, none⟩) hne _).below hb3 (by simp; omega)
              clear cB8 fB8 cB0 fB0 cA3 lA3 B82 B02
              have cB8 := B83.cell
              have fB8 := B83.frozen
              have cB0 := B03.cell
              have fB0 := B03.frozen
              go_wp2
              go_roundw
              case rel => exact ⟨k + 1, ⟨d.l, d.t, d.s, d.e, d.f⟩, x, by go_num, by go_num, by omega, ho, by dsimp only; omega, blk_store (d := ⟨d.l, d.t, d.s, d.e, d.f⟩) B03, by repeat (first | (with_reducible exact Below.refl _ _) | (with_reducible refine Below.drew ?_) | (with_reducible refine below_drewN ?_ _) | ((with_reducible refine Below.setCell ?_ ?_ _); rotate_left; focus (first | exact Nat.le_refl _ | omega | (simp; done) | (simp; omega))) | ((with_reducible refine Below.alloc ?_ ?_ _); rotate_left; focus (first | exact Nat.le_refl _ | omega | (simp; done) | (simp; omega))) | ((with_reducible refine Below.trans ?_ (Below.mono hb3 ?_)); rotate_left; focus (first | exact Nat.le_refl _ | omega | (simp; done) | (simp; omega))) | (with_reducible exact hBW2))⟩
              case measure => simp [intOf]; omega
            · have hle : x ≤ d.e := by omega
              have y1 : (d.e != d.e) = false := by simp
              have y2 : decide (d.e < d.e) = false := by simp
              have y3 : decide (d.e < hd) = false := by simp; omega
              have ho : K.ok ⟨d.l, d.t, d.s, d.e, d.f⟩ := hok
              go_wp2_with fail
              refine (tick_any d _).mono ?_
              rintro en w1 ⟨rfl, hb1⟩
              have hz1 := hb1.size
              (try simp at hz1)
              have cB1 : ∀ o, w1.cell? ⟨w.heap.size, o, none⟩ = _ := fun o => hb1.cell (p := ⟨w.heap.size, o, none⟩) lB
              have fB1 : ∀ o, w1.frozen? ⟨w.heap.size, o, none⟩ = _ := fun o => hb1.frozen (p := ⟨w.heap.size, o, none⟩) lB
              simp [cB] at cB1
              simp [fB] at fB1
              have lB1 : w.heap.size < w1.heap.size := by omega
              have cA1 : w1.cell? (ad.add k) = some (.int .i64 x) := (hb1.cell lA).trans cA
              have lA1 : (ad.add k).block < w1.heap.size := by omega
              go_wp2_with fail
              obtain ⟨W0, hW0⟩ : ∃ W0, W0 = w1.alloc (.cells #[.int .i64 d.tick.1.l, .int .i64 d.tick.1.t, .int .i64 d.tick.1.s, .int .i64 d.tick.1.e, .int .i64 d.tick.1.f] 23) := ⟨_, rfl⟩
              rw [← hW0]
              have B8 : Blk W0 w1.heap.size 23 d.tick.1.cells := by rw [hW0]; exact Blk.new w1 23 d.tick.1.cells
              have B0 : Blk W0 w.heap.size 23 d.cells := by rw [hW0]; exact (hB.below hb1 lB).alloc _
              have cA2 : W0.cell? (ad.add k) = some (.int .i64 x) := by rw [hW0]; exact (World.cell?_alloc_lt _ _ _ lA1).trans cA1
              have lA2 : (ad.add k).block < W0.heap.size := by rw [hW0]; simp; omega
              have hBW : Below w.heap.size w W0 := by
                rw [hW0]
                repeat (first | (with_reducible exact Below.refl _ _) | (with_reducible refine Below.drew ?_) | (with_reducible refine below_drewN ?_ _) | ((with_reducible refine Below.setCell ?_ ?_ _); rotate_left; focus (first | exact Nat.le_refl _ | omega | (simp; done) | (simp; omega))) | ((with_reducible refine Below.alloc ?_ ?_ _); rotate_left; focus (first | exact Nat.le_refl _ | omega | (simp; done) | (simp; omega))) | ((with_reducible refine Below.trans ?_ (Below.mono hb1 ?_)); rotate_left; focus (first | exact Nat.le_refl _ | omega | (simp; done) | (simp; omega))) | (with_reducible exact hBel))
              clear hW0 cB fB cB1 fB1 cA cA1 hB hBel hb1 hz1 lA lB
              have cB8 := B8.cell
              have fB8 := B8.frozen
              have cB0 := B0.cell
              have fB0 := B0.frozen
              have l8 := B8.lt
              have l0 := B0.lt
              have hne := Nat.ne_of_lt lB1
              have hne' := Nat.ne_of_gt lB1
              have hneA := Nat.ne_of_lt lA1
              go_region_held3 (fun w' => w'.cell? ⟨w.heap.size, 0, none⟩ = some (.int .i64 d.l) ∧ w'.cell? ⟨w.heap.size, 1, none⟩ = some (.int .i64 d.t) ∧ w'.cell? ⟨w.heap.size, 2, none⟩ = some (.int .i64 d.s) ∧ w'.cell? ⟨w.heap.size, 3, none⟩ = some (.int .i64 d.e) ∧ w'.cell? ⟨w.heap.size, 4, none⟩ = some (.int .i64 d.f) ∧ w'.cell? (ad.add k) = some (.int .i64 x)) ((simp [set_far2 hne, set_far hneA, cB0, cA2]; done)) (first | (go_at_call 13; refine (hear_same hok hx0 hx6 hle _).mono ?_; rintro en w2 ⟨rfl, hb2⟩; have hb2' : Below W0.heap.size W0 w2 := ⟨hb2.os, hb2.tape, hb2.output, hb2.size, hb2.block⟩; clear hb2; have B82 := B8.below hb2' l8; have B02 := B0.below hb2' l0; have cA3 : w2.cell? (ad.add k) = some (.int .i64 x) := (hb2'.cell (p := ad.add k) lA2).trans cA2; have lA3 : (ad.add k).block < w2.heap.size := Nat.lt_of_lt_of_le lA2 hb2'.size; have hBW2 : Below w.heap.size w w2 := hBW.trans (hb2'.mono hBW.size); clear cA2 lA2 hBW cB8 fB8 cB0 fB0 B8 B0 l8 l0; have cA2 := cA3; have cB8 := B82.cell; have fB8 := B82.frozen; have cB0 := B02.cell; have fB0 := B02.frozen; have l8 := B82.lt; have l0 := B02.lt))
              go_wp2_with fail
              refine (check_yes ho _).mono ?_
              rintro en w3 ⟨rfl, hb3⟩
              have hz3 := hb3.size
              simp only [World.size_setCell] at hz3
              have B83 := (blk_store (d := ⟨d.l, d.t, d.s, d.e, d.f⟩) B82).below hb3 (by simp; omega)
              have B03 := (((((B02.far (p := ⟨w1.heap.size, 0, none⟩) hne _).far (p := ⟨w1.heap.size, 1, none⟩) hne _).far (p := ⟨w1.heap.size, 2, none⟩) hne _).far (p := ⟨w1.heap.size, 3, none⟩) hne _).far (p := ⟨w1.heap.size, 4, none⟩) hne _).below hb3 (by simp; omega)
              clear cB8 fB8 cB0 fB0 cA3 lA3 B82 B02
              have cB8 := B83.cell
              have fB8 := B83.frozen
              have cB0 := B03.cell
              have fB0 := B03.frozen
              go_wp2
              go_roundw
              case rel => exact ⟨k + 1, ⟨d.l, d.t, d.s, d.e, d.f⟩, hd, by go_num, by go_num, by omega, ho, by dsimp only; omega, blk_store (d := ⟨d.l, d.t, d.s, d.e, d.f⟩) B03, by repeat (first | (with_reducible exact Below.refl _ _) | (with_reducible refine Below.drew ?_) | (with_reducible refine below_drewN ?_ _) | ((with_reducible refine Below.setCell ?_ ?_ _); rotate_left; focus (first | exact Nat.le_refl _ | omega | (simp; done) | (simp; omega))) | ((with_reducible refine Below.alloc ?_ ?_ _); rotate_left; focus (first | exact Nat.le_refl _ | omega | (simp; done) | (simp; omega))) | ((with_reducible refine Below.trans ?_ (Below.mono hb3 ?_)); rotate_left; focus (first | exact Nat.le_refl _ | omega | (simp; done) | (simp; omega))) | (with_reducible exact hBW2))⟩
              case measure => simp [intOf]; omega
    · have x1 : decide ((k : Int) < xs.length) = false := by simp; omega
      go_wp2
      go_ret
      exact ⟨rfl, hBel⟩

set_option maxHeartbeats 2000000 in
theorem walk_bad (c : K) (h : ¬ c.ok) (A : Option Addr) (n cap : Nat) (w : World) :
    Calls Try.prog 5 #[clk c.l c.t c.s c.e c.f, .slice A n cap] w fun en w' => en = .returned (.bool true) ∧ Below w.heap.size w w' := by
  go_enter Try.func5, Try.ntmps5
  go_wp2_with fail
  refine (alive_any _).mono ?_
  rintro en w1 ⟨rfl, hb1⟩
  have hz1 := hb1.size
  (try simp at hz1)
  (have hc1c : ∀ o, w1.cell? ⟨w.heap.size, o, none⟩ = _ := fun o => hb1.cell (p := ⟨w.heap.size, o, none⟩) (by first | exact Nat.le_refl _ | omega | (simp; done) | (simp; omega)); (try simp at hc1c); have hl1c : w.heap.size < w1.heap.size := (by omega); have hf1c : ∀ o, w1.frozen? ⟨w.heap.size, o, none⟩ = _ := fun o => hb1.frozen (p := ⟨w.heap.size, o, none⟩) (by first | exact Nat.le_refl _ | omega | (simp; done) | (simp; omega)); (try simp at hf1c))
  go_wp2_with fail
  refine (check_no h _).mono ?_
  rintro en w2 ⟨rfl, hb2⟩
  have hz2 := hb2.size
  (try simp at hz2)
  (have hc2c : ∀ o, w2.cell? ⟨w.heap.size, o, none⟩ = _ := fun o => hb2.cell (p := ⟨w.heap.size, o, none⟩) (by first | exact Nat.le_refl _ | omega | (simp; done) | (simp; omega)); (try simp [World.cell?_alloc_past, World.frozen?_alloc_past, hc1c, hf1c, hl1c] at hc2c); have hl2c : w.heap.size < w2.heap.size := (by omega); have hf2c : ∀ o, w2.frozen? ⟨w.heap.size, o, none⟩ = _ := fun o => hb2.frozen (p := ⟨w.heap.size, o, none⟩) (by first | exact Nat.le_refl _ | omega | (simp; done) | (simp; omega)); (try simp [World.cell?_alloc_past, World.frozen?_alloc_past, hc1c, hf1c, hl1c] at hf2c))
  clear hc1c hf1c hl1c
  go_wp2
  go_ret
  refine ⟨rfl, ?_⟩
  repeat (first | (with_reducible exact Below.refl _ _) | (with_reducible refine Below.drew ?_) | (with_reducible refine below_drewN ?_ _) | ((with_reducible refine Below.setCell ?_ ?_ _); rotate_left; focus (first | exact Nat.le_refl _ | omega | (simp; done) | (simp; omega))) | ((with_reducible refine Below.alloc ?_ ?_ _); rotate_left; focus (first | exact Nat.le_refl _ | omega | (simp; done) | (simp; omega))) | ((with_reducible refine Below.trans ?_ (Below.mono hb1 ?_)); rotate_left; focus (first | exact Nat.le_refl _ | omega | (simp; done) | (simp; omega))) | ((with_reducible refine Below.trans ?_ (Below.mono hb2 ?_)); rotate_left; focus (first | exact Nat.le_refl _ | omega | (simp; done) | (simp; omega))))
set_option maxHeartbeats 2000000 in
theorem walk_long (c : K) (h : c.ok) (A : Option Addr) (n cap : Nat) (hn : 200 < n) (w : World) :
    Calls Try.prog 5 #[clk c.l c.t c.s c.e c.f, .slice A n cap] w fun en w' => en = .returned (.bool true) ∧ Below w.heap.size w w' := by
  have hnn : decide ((200 : Int) < n) = true := by simp; omega
  go_enter Try.func5, Try.ntmps5
  go_wp2_with fail
  refine (alive_any _).mono ?_
  rintro en w1 ⟨rfl, hb1⟩
  have hz1 := hb1.size
  (try simp at hz1)
  (have hc1c : ∀ o, w1.cell? ⟨w.heap.size, o, none⟩ = _ := fun o => hb1.cell (p := ⟨w.heap.size, o, none⟩) (by first | exact Nat.le_refl _ | omega | (simp; done) | (simp; omega)); (try simp at hc1c); have hl1c : w.heap.size < w1.heap.size := (by omega); have hf1c : ∀ o, w1.frozen? ⟨w.heap.size, o, none⟩ = _ := fun o => hb1.frozen (p := ⟨w.heap.size, o, none⟩) (by first | exact Nat.le_refl _ | omega | (simp; done) | (simp; omega)); (try simp at hf1c))
  go_wp2_with fail
  refine (check_yes h _).mono ?_
  rintro en w2 ⟨rfl, hb2⟩
  have hz2 := hb2.size
  (try simp at hz2)
  (have hc2c : ∀ o, w2.cell? ⟨w.heap.size, o, none⟩ = _ := fun o => hb2.cell (p := ⟨w.heap.size, o, none⟩) (by first | exact Nat.le_refl _ | omega | (simp; done) | (simp; omega)); (try simp [World.cell?_alloc_past, World.frozen?_alloc_past, hc1c, hf1c, hl1c] at hc2c); have hl2c : w.heap.size < w2.heap.size := (by omega); have hf2c : ∀ o, w2.frozen? ⟨w.heap.size, o, none⟩ = _ := fun o => hb2.frozen (p := ⟨w.heap.size, o, none⟩) (by first | exact Nat.le_refl _ | omega | (simp; done) | (simp; omega)); (try simp [World.cell?_alloc_past, World.frozen?_alloc_past, hc1c, hf1c, hl1c] at hf2c))
  clear hc1c hf1c hl1c
  go_wp2
  go_ret
  refine ⟨rfl, ?_⟩
  repeat (first | (with_reducible exact Below.refl _ _) | (with_reducible refine Below.drew ?_) | (with_reducible refine below_drewN ?_ _) | ((with_reducible refine Below.setCell ?_ ?_ _); rotate_left; focus (first | exact Nat.le_refl _ | omega | (simp; done) | (simp; omega))) | ((with_reducible refine Below.alloc ?_ ?_ _); rotate_left; focus (first | exact Nat.le_refl _ | omega | (simp; done) | (simp; omega))) | ((with_reducible refine Below.trans ?_ (Below.mono hb1 ?_)); rotate_left; focus (first | exact Nat.le_refl _ | omega | (simp; done) | (simp; omega))) | ((with_reducible refine Below.trans ?_ (Below.mono hb2 ?_)); rotate_left; focus (first | exact Nat.le_refl _ | omega | (simp; done) | (simp; omega))))
theorem walk (c : K) (A : Option Addr) (n cap : Nat) (xs : List Int) (hx : xs.length = n) (w : World) (hR : Reads w w.heap.size 1 A n (xs.map (Value.int .i64))) :
    Calls Try.prog 5 #[clk c.l c.t c.s c.e c.f, .slice A n cap] w fun en w' => en = .returned (.bool true) ∧ Below w.heap.size w w' := by
  subst hx
  by_cases h : c.ok
  · by_cases hn : xs.length ≤ 200
    · exact walk_ok c h A cap xs hn w hR
    · exact walk_long c h A _ cap (by omega) w
  · exact walk_bad c h A _ cap w
end Go.Proofs.Ytihijhmahoelhaa.EpochNever
