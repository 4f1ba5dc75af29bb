/- Mail: the reference's Dyad on its short roads -/
import Derived.Test.YtjmhefkmpfkpbaaZFS
namespace Go.Proofs.Ytjmhefkmpfkpbaa
open Go.ChangeShapes Go.WideShapes Go.ChangeAt Go.RowKit
set_option linter.unusedSimpArgs false
set_option linter.unusedVariables false
set_option maxRecDepth 100000 in
set_option maxHeartbeats 4000000 in
theorem rdyad_bad (A : Option Addr) (n c : Nat) (p : Int) (hp : rdrE n p = 8) (w : World) :
    Calls Try.prog 94 #[rst A n c p] w fun en w' => en = .returned (.tuple #[rst none 0 0 0, dy false none 0 0 0, .int .i64 8]) ∧ Below w.heap.size w w' := by
  have hB0 := (((Below.refl w.heap.size w).alloc (Nat.le_refl _) (.cells #[.slice A n c, .int .i64 p] 67)).alloc (by rw [World.size_alloc]; omega) (.cells #[.slice none 0 0, .int .i64 0] 67)).alloc (by rw [World.size_alloc, World.size_alloc]; omega) (.cells #[.bool false, .slice none 0 0, .int .i64 0] 24)
  have hx0 := ((Blk.new w 67 #[.slice A n c, .int .i64 p]).alloc (.cells #[.slice none 0 0, .int .i64 0] 67)).alloc (.cells #[.bool false, .slice none 0 0, .int .i64 0] 24)
  have hr0 := (Blk.new (w.alloc (.cells #[.slice A n c, .int .i64 p] 67)) 67 #[.slice none 0 0, .int .i64 0]).alloc (.cells #[.bool false, .slice none 0 0, .int .i64 0] 24)
  have hd0 := Blk.new ((w.alloc (.cells #[.slice A n c, .int .i64 p] 67)).alloc (.cells #[.slice none 0 0, .int .i64 0] 67)) 24 #[.bool false, .slice none 0 0, .int .i64 0]
  rw [World.size_alloc] at hr0
  rw [World.size_alloc, World.size_alloc] at hd0
  have hmy := fun (w : World) => rmay34 A n c p w
  rw [hp] at hmy
  go_enter Try.func94, Try.ntmps94
  go_wp2_with fail
  refine (hmy _).mono ?_
  rintro en w1 ⟨rfl, hb1⟩
  have hB1 := hB0.trans (hb1.mono hB0.size)
  have hx1 := hx0.below hb1 hx0.lt
  have hr1 := hr0.below hb1 hr0.lt
  have hd1 := hd0.below hb1 hd0.lt
  clear hb1 hx0 hr0 hd0 hB0 hmy hp
  have x0 := hx1.cell 0
  have x1 := hx1.cell 1
  have r0 := hr1.cell 0
  have r1 := hr1.cell 1
  have rf0 := hr1.frozen 0
  have rf1 := hr1.frozen 1
  have rlt := hr1.lt
  have d0 := hd1.cell 0
  have d1 := hd1.cell 1
  have df0 := hd1.frozen 0
  have df1 := hd1.frozen 1
  have dlt := hd1.lt
  have d2 := hd1.cell 2
  have df2 := hd1.frozen 2
  go_wp2
  have K := ((((hr1.set_ 0 (.slice none 0 0)).set_ 1 (.int .i64 0)).far (p := ⟨w.heap.size + 1 + 1, 0, none⟩) (by simp) (.bool false)).far (p := ⟨w.heap.size + 1 + 1, 1, none⟩) (by simp) (.slice none 0 0)).far (p := ⟨w.heap.size + 1 + 1, 2, none⟩) (by simp) (.int .i64 0)
  have LL := ((((hd1.far (p := ⟨w.heap.size + 1, 0, none⟩) (by simp) (.slice none 0 0)).far (p := ⟨w.heap.size + 1, 1, none⟩) (by simp) (.int .i64 0)).set_ 0 (.bool false)).set_ 1 (.slice none 0 0)).set_ 2 (.int .i64 0)
  have z0 := K.cell 0
  have z1 := K.cell 1
  have y0 := LL.cell 0
  have y1 := LL.cell 1
  have y2 := LL.cell 2
  simp at z0 z1 y0 y1 y2
  refine bodyPost_ret (v := .tuple #[rst none 0 0 0, dy false none 0 0 0, .int .i64 8]) (by simp [results, Try.results18, go_sem, z0, z1, y0, y1, y2]) rfl ⟨rfl, ?_⟩
  exact ((((hB1.setCell (p := ⟨w.heap.size + 1, 0, none⟩) (by show w.heap.size ≤ w.heap.size + 1; omega) _).setCell (p := ⟨w.heap.size + 1, 1, none⟩) (by show w.heap.size ≤ w.heap.size + 1; omega) _).setCell (p := ⟨w.heap.size + 1 + 1, 0, none⟩) (by show w.heap.size ≤ w.heap.size + 1 + 1; omega) _).setCell (p := ⟨w.heap.size + 1 + 1, 1, none⟩) (by show w.heap.size ≤ w.heap.size + 1 + 1; omega) _).setCell (p := ⟨w.heap.size + 1 + 1, 2, none⟩) (by show w.heap.size ≤ w.heap.size + 1 + 1; omega) _
set_option maxRecDepth 100000 in
set_option maxHeartbeats 4000000 in
theorem rdyad_head (ad : Addr) (n c : Nat) (p : Nat) (hnc : n ≤ c) (h1 : p < n) (h2 : n < p + 4) (w : World) :
    Calls Try.prog 94 #[rst (some ad) n c (p : Int)] w fun en w' => en = .returned (.tuple #[rst none 0 0 0, dy false none 0 0 0, .int .i64 40]) ∧ Below w.heap.size w w' := by
  have e1 : (0 : Int) ≤ p := by omega
  have e2 : (p : Int) ≤ n := by omega
  have e3 : (n : Int) ≤ c := by omega
  have e4 : (p : Int) ≤ c := by omega
  have e5 : ¬ c = p := by omega
  have e6 : c ≠ p := by omega
  have e7 : p ≤ c := by omega
  have e8 : p ≤ n := by omega
  have hp : rdrE n (p : Int) = 0 := if_pos ⟨by omega, by omega⟩
  have d1 : decide (((n - p : Nat) : Int) < 4) = true := decide_eq_true (by omega)
  have d2 : n - p < 4 := by omega
  have hB0 := (((Below.refl w.heap.size w).alloc (Nat.le_refl _) (.cells #[.slice (some ad) n c, .int .i64 (p : Int)] 67)).alloc (by rw [World.size_alloc]; omega) (.cells #[.slice none 0 0, .int .i64 0] 67)).alloc (by rw [World.size_alloc, World.size_alloc]; omega) (.cells #[.bool false, .slice none 0 0, .int .i64 0] 24)
  have hx0 := ((Blk.new w 67 #[.slice (some ad) n c, .int .i64 (p : Int)]).alloc (.cells #[.slice none 0 0, .int .i64 0] 67)).alloc (.cells #[.bool false, .slice none 0 0, .int .i64 0] 24)
  have hr0 := (Blk.new (w.alloc (.cells #[.slice (some ad) n c, .int .i64 (p : Int)] 67)) 67 #[.slice none 0 0, .int .i64 0]).alloc (.cells #[.bool false, .slice none 0 0, .int .i64 0] 24)
  have hd0 := Blk.new ((w.alloc (.cells #[.slice (some ad) n c, .int .i64 (p : Int)] 67)).alloc (.cells #[.slice none 0 0, .int .i64 0] 67)) 24 #[.bool false, .slice none 0 0, .int .i64 0]
  rw [World.size_alloc] at hr0
  rw [World.size_alloc, World.size_alloc] at hd0
  have hmy := fun (w : World) => rmay34 (some ad) n c (p : Int) w
  rw [hp] at hmy
  go_enter Try.func94, Try.ntmps94
  go_wp2_with fail
  refine (hmy _).mono ?_
  rintro en w1 ⟨rfl, hb1⟩
  have hB1 := hB0.trans (hb1.mono hB0.size)
  have hx1 := hx0.below hb1 hx0.lt
  have hr1 := hr0.below hb1 hr0.lt
  have hd1 := hd0.below hb1 hd0.lt
  clear hb1 hx0 hr0 hd0 hB0 hmy hp
  have x0 := hx1.cell 0
  have x1 := hx1.cell 1
  have r0 := hr1.cell 0
  have r1 := hr1.cell 1
  have rf0 := hr1.frozen 0
  have rf1 := hr1.frozen 1
  have rlt := hr1.lt
  have d0 := hd1.cell 0
  have d1 := hd1.cell 1
  have df0 := hd1.frozen 0
  have df1 := hd1.frozen 1
  have dlt := hd1.lt
  have d2 := hd1.cell 2
  have df2 := hd1.frozen 2
  go_wp2
  have K := ((((hr1.set_ 0 (.slice none 0 0)).set_ 1 (.int .i64 0)).far (p := ⟨w.heap.size + 1 + 1, 0, none⟩) (by simp) (.bool false)).far (p := ⟨w.heap.size + 1 + 1, 1, none⟩) (by simp) (.slice none 0 0)).far (p := ⟨w.heap.size + 1 + 1, 2, none⟩) (by simp) (.int .i64 0)
  have LL := ((((hd1.far (p := ⟨w.heap.size + 1, 0, none⟩) (by simp) (.slice none 0 0)).far (p := ⟨w.heap.size + 1, 1, none⟩) (by simp) (.int .i64 0)).set_ 0 (.bool false)).set_ 1 (.slice none 0 0)).set_ 2 (.int .i64 0)
  have z0 := K.cell 0
  have z1 := K.cell 1
  have y0 := LL.cell 0
  have y1 := LL.cell 1
  have y2 := LL.cell 2
  simp at z0 z1 y0 y1 y2
  refine bodyPost_ret (v := .tuple #[rst none 0 0 0, dy false none 0 0 0, .int .i64 40]) (by simp [results, Try.results18, go_sem, z0, z1, y0, y1, y2]) rfl ⟨rfl, ?_⟩
  exact ((((hB1.setCell (p := ⟨w.heap.size + 1, 0, none⟩) (by show w.heap.size ≤ w.heap.size + 1; omega) _).setCell (p := ⟨w.heap.size + 1, 1, none⟩) (by show w.heap.size ≤ w.heap.size + 1; omega) _).setCell (p := ⟨w.heap.size + 1 + 1, 0, none⟩) (by show w.heap.size ≤ w.heap.size + 1 + 1; omega) _).setCell (p := ⟨w.heap.size + 1 + 1, 1, none⟩) (by show w.heap.size ≤ w.heap.size + 1 + 1; omega) _).setCell (p := ⟨w.heap.size + 1 + 1, 2, none⟩) (by show w.heap.size ≤ w.heap.size + 1 + 1; omega) _
set_option maxRecDepth 100000 in
set_option maxHeartbeats 4000000 in
theorem rdyad_end (ad : Addr) (n c : Nat)  (hnc : n ≤ c) (h1 : c ≠ n) (w : World) :
    Calls Try.prog 94 #[rst (some ad) n c (n : Int)] w fun en w' => en = .returned (.tuple #[rst none 0 0 0, dy false none 0 0 0, .int .i64 40]) ∧ Below w.heap.size w w' := by
  have e1 : (0 : Int) ≤ n := by omega
  have e3 : (n : Int) ≤ c := by omega
  have e7 : n ≤ c := by omega
  have e5 : ¬ c = n := by omega
  have hp : rdrE n (n : Int) = 0 := if_pos ⟨by omega, by omega⟩
  have hB0 := (((Below.refl w.heap.size w).alloc (Nat.le_refl _) (.cells #[.slice (some ad) n c, .int .i64 (n : Int)] 67)).alloc (by rw [World.size_alloc]; omega) (.cells #[.slice none 0 0, .int .i64 0] 67)).alloc (by rw [World.size_alloc, World.size_alloc]; omega) (.cells #[.bool false, .slice none 0 0, .int .i64 0] 24)
  have hx0 := ((Blk.new w 67 #[.slice (some ad) n c, .int .i64 (n : Int)]).alloc (.cells #[.slice none 0 0, .int .i64 0] 67)).alloc (.cells #[.bool false, .slice none 0 0, .int .i64 0] 24)
  have hr0 := (Blk.new (w.alloc (.cells #[.slice (some ad) n c, .int .i64 (n : Int)] 67)) 67 #[.slice none 0 0, .int .i64 0]).alloc (.cells #[.bool false, .slice none 0 0, .int .i64 0] 24)
  have hd0 := Blk.new ((w.alloc (.cells #[.slice (some ad) n c, .int .i64 (n : Int)] 67)).alloc (.cells #[.slice none 0 0, .int .i64 0] 67)) 24 #[.bool false, .slice none 0 0, .int .i64 0]
  rw [World.size_alloc] at hr0
  rw [World.size_alloc, World.size_alloc] at hd0
  have hmy := fun (w : World) => rmay34 (some ad) n c (n : Int) w
  rw [hp] at hmy
  go_enter Try.func94, Try.ntmps94
  go_wp2_with fail
  refine (hmy _).mono ?_
  rintro en w1 ⟨rfl, hb1⟩
  have hB1 := hB0.trans (hb1.mono hB0.size)
  have hx1 := hx0.below hb1 hx0.lt
  have hr1 := hr0.below hb1 hr0.lt
  have hd1 := hd0.below hb1 hd0.lt
  clear hb1 hx0 hr0 hd0 hB0 hmy hp
  have x0 := hx1.cell 0
  have x1 := hx1.cell 1
  have r0 := hr1.cell 0
  have r1 := hr1.cell 1
  have rf0 := hr1.frozen 0
  have rf1 := hr1.frozen 1
  have rlt := hr1.lt
  have d0 := hd1.cell 0
  have d1 := hd1.cell 1
  have df0 := hd1.frozen 0
  have df1 := hd1.frozen 1
  have dlt := hd1.lt
  have d2 := hd1.cell 2
  have df2 := hd1.frozen 2
  go_wp2
  have K := ((((hr1.set_ 0 (.slice none 0 0)).set_ 1 (.int .i64 0)).far (p := ⟨w.heap.size + 1 + 1, 0, none⟩) (by simp) (.bool false)).far (p := ⟨w.heap.size + 1 + 1, 1, none⟩) (by simp) (.slice none 0 0)).far (p := ⟨w.heap.size + 1 + 1, 2, none⟩) (by simp) (.int .i64 0)
  have LL := ((((hd1.far (p := ⟨w.heap.size + 1, 0, none⟩) (by simp) (.slice none 0 0)).far (p := ⟨w.heap.size + 1, 1, none⟩) (by simp) (.int .i64 0)).set_ 0 (.bool false)).set_ 1 (.slice none 0 0)).set_ 2 (.int .i64 0)
  have z0 := K.cell 0
  have z1 := K.cell 1
  have y0 := LL.cell 0
  have y1 := LL.cell 1
  have y2 := LL.cell 2
  simp at z0 z1 y0 y1 y2
  refine bodyPost_ret (v := .tuple #[rst none 0 0 0, dy false none 0 0 0, .int .i64 40]) (by simp [results, Try.results18, go_sem, z0, z1, y0, y1, y2]) rfl ⟨rfl, ?_⟩
  exact ((((hB1.setCell (p := ⟨w.heap.size + 1, 0, none⟩) (by show w.heap.size ≤ w.heap.size + 1; omega) _).setCell (p := ⟨w.heap.size + 1, 1, none⟩) (by show w.heap.size ≤ w.heap.size + 1; omega) _).setCell (p := ⟨w.heap.size + 1 + 1, 0, none⟩) (by show w.heap.size ≤ w.heap.size + 1 + 1; omega) _).setCell (p := ⟨w.heap.size + 1 + 1, 1, none⟩) (by show w.heap.size ≤ w.heap.size + 1 + 1; omega) _).setCell (p := ⟨w.heap.size + 1 + 1, 2, none⟩) (by show w.heap.size ≤ w.heap.size + 1 + 1; omega) _
set_option maxRecDepth 100000 in
set_option maxHeartbeats 4000000 in
theorem rdyad_full (ad : Addr) (n : Nat)   (w : World) :
    Calls Try.prog 94 #[rst (some ad) n n (n : Int)] w fun en w' => en = .returned (.tuple #[rst none 0 0 0, dy false none 0 0 0, .int .i64 40]) ∧ Below w.heap.size w w' := by
  have e1 : (0 : Int) ≤ n := by omega
  have hp : rdrE n (n : Int) = 0 := if_pos ⟨by omega, by omega⟩
  have hB0 := (((Below.refl w.heap.size w).alloc (Nat.le_refl _) (.cells #[.slice (some ad) n n, .int .i64 (n : Int)] 67)).alloc (by rw [World.size_alloc]; omega) (.cells #[.slice none 0 0, .int .i64 0] 67)).alloc (by rw [World.size_alloc, World.size_alloc]; omega) (.cells #[.bool false, .slice none 0 0, .int .i64 0] 24)
  have hx0 := ((Blk.new w 67 #[.slice (some ad) n n, .int .i64 (n : Int)]).alloc (.cells #[.slice none 0 0, .int .i64 0] 67)).alloc (.cells #[.bool false, .slice none 0 0, .int .i64 0] 24)
  have hr0 := (Blk.new (w.alloc (.cells #[.slice (some ad) n n, .int .i64 (n : Int)] 67)) 67 #[.slice none 0 0, .int .i64 0]).alloc (.cells #[.bool false, .slice none 0 0, .int .i64 0] 24)
  have hd0 := Blk.new ((w.alloc (.cells #[.slice (some ad) n n, .int .i64 (n : Int)] 67)).alloc (.cells #[.slice none 0 0, .int .i64 0] 67)) 24 #[.bool false, .slice none 0 0, .int .i64 0]
  rw [World.size_alloc] at hr0
  rw [World.size_alloc, World.size_alloc] at hd0
  have hmy := fun (w : World) => rmay34 (some ad) n n (n : Int) w
  rw [hp] at hmy
  go_enter Try.func94, Try.ntmps94
  go_wp2_with fail
  refine (hmy _).mono ?_
  rintro en w1 ⟨rfl, hb1⟩
  have hB1 := hB0.trans (hb1.mono hB0.size)
  have hx1 := hx0.below hb1 hx0.lt
  have hr1 := hr0.below hb1 hr0.lt
  have hd1 := hd0.below hb1 hd0.lt
  clear hb1 hx0 hr0 hd0 hB0 hmy hp
  have x0 := hx1.cell 0
  have x1 := hx1.cell 1
  have r0 := hr1.cell 0
  have r1 := hr1.cell 1
  have rf0 := hr1.frozen 0
  have rf1 := hr1.frozen 1
  have rlt := hr1.lt
  have d0 := hd1.cell 0
  have d1 := hd1.cell 1
  have df0 := hd1.frozen 0
  have df1 := hd1.frozen 1
  have dlt := hd1.lt
  have d2 := hd1.cell 2
  have df2 := hd1.frozen 2
  go_wp2
  have K := ((((hr1.set_ 0 (.slice none 0 0)).set_ 1 (.int .i64 0)).far (p := ⟨w.heap.size + 1 + 1, 0, none⟩) (by simp) (.bool false)).far (p := ⟨w.heap.size + 1 + 1, 1, none⟩) (by simp) (.slice none 0 0)).far (p := ⟨w.heap.size + 1 + 1, 2, none⟩) (by simp) (.int .i64 0)
  have LL := ((((hd1.far (p := ⟨w.heap.size + 1, 0, none⟩) (by simp) (.slice none 0 0)).far (p := ⟨w.heap.size + 1, 1, none⟩) (by simp) (.int .i64 0)).set_ 0 (.bool false)).set_ 1 (.slice none 0 0)).set_ 2 (.int .i64 0)
  have z0 := K.cell 0
  have z1 := K.cell 1
  have y0 := LL.cell 0
  have y1 := LL.cell 1
  have y2 := LL.cell 2
  simp at z0 z1 y0 y1 y2
  refine bodyPost_ret (v := .tuple #[rst none 0 0 0, dy false none 0 0 0, .int .i64 40]) (by simp [results, Try.results18, go_sem, z0, z1, y0, y1, y2]) rfl ⟨rfl, ?_⟩
  exact ((((hB1.setCell (p := ⟨w.heap.size + 1, 0, none⟩) (by show w.heap.size ≤ w.heap.size + 1; omega) _).setCell (p := ⟨w.heap.size + 1, 1, none⟩) (by show w.heap.size ≤ w.heap.size + 1; omega) _).setCell (p := ⟨w.heap.size + 1 + 1, 0, none⟩) (by show w.heap.size ≤ w.heap.size + 1 + 1; omega) _).setCell (p := ⟨w.heap.size + 1 + 1, 1, none⟩) (by show w.heap.size ≤ w.heap.size + 1 + 1; omega) _).setCell (p := ⟨w.heap.size + 1 + 1, 2, none⟩) (by show w.heap.size ≤ w.heap.size + 1 + 1; omega) _
set_option maxRecDepth 100000 in
set_option maxHeartbeats 4000000 in
theorem rdyad_none    (w : World) :
    Calls Try.prog 94 #[rst none 0 0 0] w fun en w' => en = .returned (.tuple #[rst none 0 0 0, dy false none 0 0 0, .int .i64 40]) ∧ Below w.heap.size w w' := by
  have hp : rdrE 0 0 = 0 := rfl
  have hB0 := (((Below.refl w.heap.size w).alloc (Nat.le_refl _) (.cells #[.slice none 0 0, .int .i64 0] 67)).alloc (by rw [World.size_alloc]; omega) (.cells #[.slice none 0 0, .int .i64 0] 67)).alloc (by rw [World.size_alloc, World.size_alloc]; omega) (.cells #[.bool false, .slice none 0 0, .int .i64 0] 24)
  have hx0 := ((Blk.new w 67 #[.slice none 0 0, .int .i64 0]).alloc (.cells #[.slice none 0 0, .int .i64 0] 67)).alloc (.cells #[.bool false, .slice none 0 0, .int .i64 0] 24)
  have hr0 := (Blk.new (w.alloc (.cells #[.slice none 0 0, .int .i64 0] 67)) 67 #[.slice none 0 0, .int .i64 0]).alloc (.cells #[.bool false, .slice none 0 0, .int .i64 0] 24)
  have hd0 := Blk.new ((w.alloc (.cells #[.slice none 0 0, .int .i64 0] 67)).alloc (.cells #[.slice none 0 0, .int .i64 0] 67)) 24 #[.bool false, .slice none 0 0, .int .i64 0]
  rw [World.size_alloc] at hr0
  rw [World.size_alloc, World.size_alloc] at hd0
  have hmy := fun (w : World) => rmay34 none 0 0 0 w
  rw [hp] at hmy
  go_enter Try.func94, Try.ntmps94
  go_wp2_with fail
  refine (hmy _).mono ?_
  rintro en w1 ⟨rfl, hb1⟩
  have hB1 := hB0.trans (hb1.mono hB0.size)
  have hx1 := hx0.below hb1 hx0.lt
  have hr1 := hr0.below hb1 hr0.lt
  have hd1 := hd0.below hb1 hd0.lt
  clear hb1 hx0 hr0 hd0 hB0 hmy hp
  have x0 := hx1.cell 0
  have x1 := hx1.cell 1
  have r0 := hr1.cell 0
  have r1 := hr1.cell 1
  have rf0 := hr1.frozen 0
  have rf1 := hr1.frozen 1
  have rlt := hr1.lt
  have d0 := hd1.cell 0
  have d1 := hd1.cell 1
  have df0 := hd1.frozen 0
  have df1 := hd1.frozen 1
  have dlt := hd1.lt
  have d2 := hd1.cell 2
  have df2 := hd1.frozen 2
  go_wp2
  have K := ((((hr1.set_ 0 (.slice none 0 0)).set_ 1 (.int .i64 0)).far (p := ⟨w.heap.size + 1 + 1, 0, none⟩) (by simp) (.bool false)).far (p := ⟨w.heap.size + 1 + 1, 1, none⟩) (by simp) (.slice none 0 0)).far (p := ⟨w.heap.size + 1 + 1, 2, none⟩) (by simp) (.int .i64 0)
  have LL := ((((hd1.far (p := ⟨w.heap.size + 1, 0, none⟩) (by simp) (.slice none 0 0)).far (p := ⟨w.heap.size + 1, 1, none⟩) (by simp) (.int .i64 0)).set_ 0 (.bool false)).set_ 1 (.slice none 0 0)).set_ 2 (.int .i64 0)
  have z0 := K.cell 0
  have z1 := K.cell 1
  have y0 := LL.cell 0
  have y1 := LL.cell 1
  have y2 := LL.cell 2
  simp at z0 z1 y0 y1 y2
  refine bodyPost_ret (v := .tuple #[rst none 0 0 0, dy false none 0 0 0, .int .i64 40]) (by simp [results, Try.results18, go_sem, z0, z1, y0, y1, y2]) rfl ⟨rfl, ?_⟩
  exact ((((hB1.setCell (p := ⟨w.heap.size + 1, 0, none⟩) (by show w.heap.size ≤ w.heap.size + 1; omega) _).setCell (p := ⟨w.heap.size + 1, 1, none⟩) (by show w.heap.size ≤ w.heap.size + 1; omega) _).setCell (p := ⟨w.heap.size + 1 + 1, 0, none⟩) (by show w.heap.size ≤ w.heap.size + 1 + 1; omega) _).setCell (p := ⟨w.heap.size + 1 + 1, 1, none⟩) (by show w.heap.size ≤ w.heap.size + 1 + 1; omega) _).setCell (p := ⟨w.heap.size + 1 + 1, 2, none⟩) (by show w.heap.size ≤ w.heap.size + 1 + 1; omega) _
set_option maxRecDepth 100000 in
set_option maxHeartbeats 4000000 in
theorem rdyad_short (ad : Addr) (n c : Nat) (p : Nat) (l : List Int) (hn : l.length = n) (hm : n ≤ 100000) (hnc : n ≤ c) (M : Nat) (hM : l.getD (p + 3) 0 = (M : Int)) (hM8 : M < 256) (h1 : p + 4 ≤ n) (h2 : n < p + 4 + 4 * M) (w : World) (hR : Reads w w.heap.size 1 (some ad) n (u8s l)) :
    Calls Try.prog 94 #[rst (some ad) n c (p : Int)] w fun en w' => en = .returned (.tuple #[rst none 0 0 0, dy false none 0 0 0, .int .i64 40]) ∧ Below w.heap.size w w' := by
  have e1 : (0 : Int) ≤ p := by omega
  have e2 : (p : Int) ≤ n := by omega
  have e3 : (n : Int) ≤ c := by omega
  have e4 : (p : Int) ≤ c := by omega
  have e5 : ¬ c = p := by omega
  have e6 : c ≠ p := by omega
  have e7 : p ≤ c := by omega
  have e8 : p ≤ n := by omega
  have e9 : (3 : Int) < ((n - p : Nat) : Int) := by omega
  have e10 : 3 < n - p := by omega
  have hp : rdrE n (p : Int) = 0 := if_pos ⟨by omega, by omega⟩
  have d1 : decide (((n - p : Nat) : Int) < 4) = false := decide_eq_false (by omega)
  have d2 : ¬ n - p < 4 := by omega
  have w1' : IntKind.i64.wrap (4 * (M : Int)) = 4 * (M : Int) := IntWalk.i64_in _ (by omega)
  have w2' : IntKind.i64.wrap (4 + 4 * (M : Int)) = 4 + 4 * (M : Int) := IntWalk.i64_in _ (by omega)
  have d3 : decide (((n - p : Nat) : Int) < 4 + 4 * (M : Int)) = true := decide_eq_true (by omega)
  have hB0 := (((Below.refl w.heap.size w).alloc (Nat.le_refl _) (.cells #[.slice (some ad) n c, .int .i64 (p : Int)] 67)).alloc (by rw [World.size_alloc]; omega) (.cells #[.slice none 0 0, .int .i64 0] 67)).alloc (by rw [World.size_alloc, World.size_alloc]; omega) (.cells #[.bool false, .slice none 0 0, .int .i64 0] 24)
  have hx0 := ((Blk.new w 67 #[.slice (some ad) n c, .int .i64 (p : Int)]).alloc (.cells #[.slice none 0 0, .int .i64 0] 67)).alloc (.cells #[.bool false, .slice none 0 0, .int .i64 0] 24)
  have hr0 := (Blk.new (w.alloc (.cells #[.slice (some ad) n c, .int .i64 (p : Int)] 67)) 67 #[.slice none 0 0, .int .i64 0]).alloc (.cells #[.bool false, .slice none 0 0, .int .i64 0] 24)
  have hd0 := Blk.new ((w.alloc (.cells #[.slice (some ad) n c, .int .i64 (p : Int)] 67)).alloc (.cells #[.slice none 0 0, .int .i64 0] 67)) 24 #[.bool false, .slice none 0 0, .int .i64 0]
  rw [World.size_alloc] at hr0
  rw [World.size_alloc, World.size_alloc] at hd0
  have hmy := fun (w : World) => rmay34 (some ad) n c (p : Int) w
  rw [hp] at hmy
  go_enter Try.func94, Try.ntmps94
  go_wp2_with fail
  refine (hmy _).mono ?_
  rintro en w1 ⟨rfl, hb1⟩
  have hB1 := hB0.trans (hb1.mono hB0.size)
  have hx1 := hx0.below hb1 hx0.lt
  have hr1 := hr0.below hb1 hr0.lt
  have hd1 := hd0.below hb1 hd0.lt
  obtain ⟨ad', hA', _, cA⟩ := at_u8 hn (hR.below hB1) (show p + 3 < n by omega)
  injection hA' with hA'
  subst hA'
  rw [hM] at cA
  have cB : w1.cell? ⟨(ad.add p).block, (ad.add p).off + 3, none⟩ = some (.int .u8 (M : Int)) := by rw [show (⟨(ad.add p).block, (ad.add p).off + 3, none⟩ : Addr) = (ad.add p).add 3 from rfl, add_of_add]; exact cA
  clear hR cA hM hn
  clear hb1 hx0 hr0 hd0 hB0 hmy hp
  have x0 := hx1.cell 0
  have x1 := hx1.cell 1
  have r0 := hr1.cell 0
  have r1 := hr1.cell 1
  have rf0 := hr1.frozen 0
  have rf1 := hr1.frozen 1
  have rlt := hr1.lt
  have d0 := hd1.cell 0
  have d1 := hd1.cell 1
  have df0 := hd1.frozen 0
  have df1 := hd1.frozen 1
  have dlt := hd1.lt
  have d2 := hd1.cell 2
  have df2 := hd1.frozen 2
  go_wp2
  have K := ((((hr1.set_ 0 (.slice none 0 0)).set_ 1 (.int .i64 0)).far (p := ⟨w.heap.size + 1 + 1, 0, none⟩) (by simp) (.bool false)).far (p := ⟨w.heap.size + 1 + 1, 1, none⟩) (by simp) (.slice none 0 0)).far (p := ⟨w.heap.size + 1 + 1, 2, none⟩) (by simp) (.int .i64 0)
  have LL := ((((hd1.far (p := ⟨w.heap.size + 1, 0, none⟩) (by simp) (.slice none 0 0)).far (p := ⟨w.heap.size + 1, 1, none⟩) (by simp) (.int .i64 0)).set_ 0 (.bool false)).set_ 1 (.slice none 0 0)).set_ 2 (.int .i64 0)
  have z0 := K.cell 0
  have z1 := K.cell 1
  have y0 := LL.cell 0
  have y1 := LL.cell 1
  have y2 := LL.cell 2
  simp at z0 z1 y0 y1 y2
  refine bodyPost_ret (v := .tuple #[rst none 0 0 0, dy false none 0 0 0, .int .i64 40]) (by simp [results, Try.results18, go_sem, z0, z1, y0, y1, y2]) rfl ⟨rfl, ?_⟩
  exact ((((hB1.setCell (p := ⟨w.heap.size + 1, 0, none⟩) (by show w.heap.size ≤ w.heap.size + 1; omega) _).setCell (p := ⟨w.heap.size + 1, 1, none⟩) (by show w.heap.size ≤ w.heap.size + 1; omega) _).setCell (p := ⟨w.heap.size + 1 + 1, 0, none⟩) (by show w.heap.size ≤ w.heap.size + 1 + 1; omega) _).setCell (p := ⟨w.heap.size + 1 + 1, 1, none⟩) (by show w.heap.size ≤ w.heap.size + 1 + 1; omega) _).setCell (p := ⟨w.heap.size + 1 + 1, 2, none⟩) (by show w.heap.size ≤ w.heap.size + 1 + 1; omega) _
end Go.Proofs.Ytjmhefkmpfkpbaa
