/- Timer: an argument that is a timer, opened -/
import Derived.Test.YthageikchniahaaOpenT
import Derived.Lib.SmallJoins
namespace Go.Proofs.Ythageikchniahaa
open Go.ChangeShapes Go.WideShapes Go.ChangeAt Go.RowKit
set_option linter.unusedSimpArgs false
set_option linter.unusedVariables false

open Go.Joins
theorem open_tm {H : Type} {enc : TypeId × Value → H} {W : World} {r : Reach} {b0 : Nat} {v : Value} {d : DataW H} {p : List MemPlace} (hv : Value.okWide Try.prog W r b0 35 v) (h : DataW.Trod enc Try.prog W 0 (fun _ => true) true 35 v d p) :
    ∃ (x y : Int), v = .agg #[.int .i64 x, .int .i64 y] := by
  obtain ⟨c0, c1, y0, y1, m, rfl, _, _, hy0, hy1⟩ := open_agg2 Try.underlying35 (by kernel_rfl) (show Try.prog.cellsOf 35 = 2 by kernel_rfl) hv h
  obtain ⟨x, e0, _, _⟩ := DataW.trod_int Try.underlying3 hy0
  obtain ⟨y, e1, _, _⟩ := DataW.trod_int Try.underlying3 hy1
  simp only [List.cons.injEq, and_true] at e0 e1
  subst e0
  subst e1
  exact ⟨x, y, rfl⟩
end Go.Proofs.Ythageikchniahaa
