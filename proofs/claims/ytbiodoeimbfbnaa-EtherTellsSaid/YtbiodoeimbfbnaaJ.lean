/- Ether: the program's Spoil, where it refuses. -/
import Derived.Test.YtbiodoeimbfbnaaI
import Derived.Test.YtbiodoeimbfbnaaE
import Derived.Deep.QuietTactic
import Derived.BigQuiet
namespace Go.Proofs.Ytbiodoeimbfbnaa
open Go.ChangeShapes Go.WideShapes Go.ChangeAt Go.RowKit
set_option linter.unusedSimpArgs false
set_option linter.unusedVariables false
/-- Copies that are answered in memory of the call's own, and an error. -/
def SpOwn (w : World) (R : List Cp × Int) (en : Ending) (w' : World) : Prop := ∃ Ao co, en = .returned (.tuple #[.slice Ao R.1.length co, .int .i64 R.2]) ∧ R.1.length ≤ co ∧ Cps w' w'.heap.size Ao R.1.length R.1 ∧ Wr w' (fun g => w.heap.size ≤ g ∧ g < w'.heap.size) 25 4 Ao R.1.length (R.1.map fds) ∧ Below w.heap.size w w'
theorem spo_nil {w w' : World} (hb : Below w.heap.size w w') (E : Int) : SpOwn w ([], E) (.returned (.tuple #[.slice none 0 0, .int .i64 E])) w' := ⟨none, 0, rfl, Nat.le_refl _, Recs.none_, Wr.none_, hb⟩
end Go.Proofs.Ytbiodoeimbfbnaa
