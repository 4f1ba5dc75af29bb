/- Flight: may masses be: the reference's answer -/
import Derived.Test.YtjmhefkmpfkpbaaA
import Derived.Test.YtjmhefkmpfkpbaaMDG
namespace Go.Proofs.Ytjmhefkmpfkpbaa
open Go.ChangeShapes Go.WideShapes Go.ChangeAt Go.RowKit
set_option linter.unusedSimpArgs false
set_option linter.unusedVariables false
def mayd (d : Dy) : Bool := mayD d.neg (d.ls.map Int.ofNat) d.ex
def mayM (m : Ms) : Bool := mayd m.s && (mayd m.w && (mayd m.c && mayd m.a))
theorem ints_u32s (l : List Nat) : ints .u32 l = u32s (l.map Int.ofNat) := by simp [ints, u32s, List.map_map]
theorem dcheck_d (g : Bool) (X : Option Addr) (n c : Nat) (e : Int) (d : Dy) (Q : Bool) (hQ : mayd d = Q) (w : World) (h : RdD w w.heap.size g X n c e d) :
    Calls Try.prog 75 #[.agg #[.bool g, .slice X n c, .int .i64 e]] w fun en w' => en = .returned (.int .i64 (if Q = true then 0 else 8)) ∧ Below w.heap.size w w' := by
  obtain ⟨rfl, rfl, h3, h4, h5⟩ := h
  have := dcheck_any d.neg X n c (d.ls.map Int.ofNat) (by simpa using h3) (fun x hx => by obtain ⟨y, _, rfl⟩ := List.mem_map.1 hx; simp) d.ex w (by rw [← ints_u32s]; exact h5)
  unfold mayd at hQ
  rw [hQ] at this
  refine this.mono fun en w' hh => ⟨?_, hh.2⟩
  rw [hh.1]
  cases Q <;> rfl
end Go.Proofs.Ytjmhefkmpfkpbaa
