/- Edge: an edge under way: put takes a value in; told hands the edge out. -/
import Derived.Test.YtdibchmhigcaaaaA
import Derived.StillTailTactics
import Derived.Deep.QuietTactic
import Derived.BigRegion
namespace Go.Proofs.Ytdibchmhigcaaaa
open Go.ChangeShapes Go.WideShapes Go.ChangeAt Go.RowKit
set_option linter.unusedSimpArgs false
theorem grow_set {w w' : World} {g : Nat} (h : w.grownBy w' (some g)) (i : Nat) (v : Value) : w.grownBy (w'.setCell ⟨g, i, none⟩ v) (some g) :=
  ⟨h.os, h.tape, h.output, by rw [World.size_setCell]; exact h.size, fun k hk hne => (Below.heap_setCell w' ⟨g, i, none⟩ v k (fun e => hne (by rw [e]))).trans (h.block k hk hne)⟩
theorem grow_drew {w w' : World} {row : Option Nat} (h : w.grownBy w' row) : w.grownBy w'.drew row := ⟨h.os, h.tape, h.output, h.size, h.block⟩
theorem grow_drewN {w w' : World} {row : Option Nat} (h : w.grownBy w' row) (n : Nat) : w.grownBy (w'.drewN n) row := ⟨h.os, h.tape, h.output, h.size, h.block⟩
/-- What put makes of an edge. -/
def putLo (h : Bool) (a x : Int) : Int := if h = true then (if x < a then x else a) else x
def putHi (h : Bool) (b x : Int) : Int := if h = true then (if b < x then x else b) else x
set_option maxHeartbeats 1000000 in
theorem told_any (g : Nat) (h : Bool) (a b : Int) (w : World) (hB : Blk w g 61 #[.bool h, .int .i64 a, .int .i64 b]) :
    Calls Try.prog 32 #[.pointer (some ⟨g, 0, none⟩)] w fun en w' => en = .returned (edg h a b) ∧ Below w.heap.size w w' := by
  have c0 := hB.cell 0
  have c1 := hB.cell 1
  have c2 := hB.cell 2
  have l := hB.lt
  simp at c0 c1 c2
  go_enter Try.func32, Try.ntmps32
  go_wp2
  refine bodyPost_ret (v := edg h a b) (by simp [results, Try.results32, go_sem]) rfl ⟨rfl, ?_⟩
  exact Below.alloc (Below.refl _ _) (Nat.le_refl _) _
theorem lo_lt {a x : Int} (h : x < a) : putLo true a x = x := by simp [putLo, h]
theorem lo_ge {a x : Int} (h : a ≤ x) : putLo true a x = a := by simp [putLo]; omega
theorem hi_lt {a x : Int} (h : a < x) : putHi true a x = x := by simp [putHi, h]
theorem hi_ge {a x : Int} (h : x ≤ a) : putHi true a x = a := by simp [putHi]; omega
theorem blk3_set {w : World} {g : Nat} {t : TypeId} {v0 v1 v2 u1 u2 : Value} (hB : Blk w g t #[v0, v1, v2]) : Blk ((w.setCell ⟨g, 1, none⟩ u1).setCell ⟨g, 2, none⟩ u2) g t #[v0, u1, u2] := by
  have := (hB.set_ 1 u1).set_ 2 u2
  simpa using this
set_option maxHeartbeats 1000000 in
theorem put_any (g : Nat) (h : Bool) (a b x : Int) (w : World) (hB : Blk w g 61 #[.bool h, .int .i64 a, .int .i64 b]) :
    Calls Try.prog 31 #[.pointer (some ⟨g, 0, none⟩), .int .i64 x] w fun en w' => en = .returned (.tuple #[]) ∧ Blk w' g 61 #[.bool true, .int .i64 (putLo h a x), .int .i64 (putHi h b x)] ∧ w.grownBy w' (some g) := by
  have c0 := hB.cell 0
  have c1 := hB.cell 1
  have c2 := hB.cell 2
  have f0 := hB.frozen 0
  have f1 := hB.frozen 1
  have f2 := hB.frozen 2
  have l := hB.lt
  simp at c0 c1 c2
  cases h
  · have hB1 : Blk (((w.setCell ⟨g, 0, none⟩ (.bool true)).setCell ⟨g, 1, none⟩ (.int .i64 x)).setCell ⟨g, 2, none⟩ (.int .i64 x)) g 61 #[.bool true, .int .i64 x, .int .i64 x] := by
      have := ((hB.set_ 0 (.bool true)).set_ 1 (.int .i64 x)).set_ 2 (.int .i64 x)
      simpa using this
    have hG1 : w.grownBy (((w.setCell ⟨g, 0, none⟩ (.bool true)).setCell ⟨g, 1, none⟩ (.int .i64 x)).setCell ⟨g, 2, none⟩ (.int .i64 x)) (some g) := grow_set (grow_set (grow_set (World.grownBy.refl w _) _ _) _ _) _ _
    go_enter Try.func31, Try.ntmps31
    go_wp2_with fail
    generalize ((w.setCell ⟨g, 0, none⟩ (.bool true)).setCell ⟨g, 1, none⟩ (.int .i64 x)).setCell ⟨g, 2, none⟩ (.int .i64 x) = w1 at *
    have d0 := hB1.cell 0
    have d1 := hB1.cell 1
    have d2 := hB1.cell 2
    have e0 := hB1.frozen 0
    have e1 := hB1.frozen 1
    have e2 := hB1.frozen 2
    have l1 := hB1.lt
    simp at d0 d1 d2
    go_region
    all_goals go_wp2
    all_goals
      go_end0
      refine ⟨rfl, ?_, grow_drew (grow_set (grow_set hG1 _ _) _ _)⟩
      have := blk3_set (u1 := .int .i64 x) (u2 := .int .i64 x) hB1
      rw [show putLo false a x = x by simp [putLo], show putHi false b x = x by simp [putHi]]
      exact this
  · go_enter Try.func31, Try.ntmps31
    go_wp2_with fail
    go_region
    all_goals go_wp2
    all_goals
      go_end0
      refine ⟨rfl, ?_, grow_drew (grow_set (grow_set (World.grownBy.refl w _) _ _) _ _)⟩
      first | rw [lo_lt (by omega)] | rw [lo_ge (by omega)]
      first | rw [hi_lt (by omega)] | rw [hi_ge (by omega)]
      exact blk3_set hB
end Go.Proofs.Ytdibchmhigcaaaa
