/-
  No cell of these rows narrows 'for every input' (looked for: loops, veiled, ifaces, maps, wideKeys, modest, calm, conditions, laid).
  DERIVED. THE GIVEN ROWS OF THIS SEAT. 6 by the template 'for every input the law returns true; each argument reads behind the call as it read before'; 0 by the template 'total and deterministic' (their statements: YtihijhmahoelhaaTotals.lean).
  GIVEN WITH THE SEED: the statements are not yours to turn. If you find one false, say at which input.
  Laid BY PROGRAM, IN A SANDBOX (cutbox-rows.mjs): the forced cells as the released guide's own fill.sh prints them over the translation 095c82c623798b8f… (all of the seat's roots in one cut). By AI agents, Wed Nov 11 2026. No macro, syntax, notation, axiom, sorry.
-/
import Derived.Test.YtihijhmahoelhaaChecked
import GoSem.Claim
import GoSem.ClaimJoined
import GoSem.ClaimMapViews
import Derived.JoinedTies
import Derived.KernelRfl
namespace Go.Proofs.Ytihijhmahoelhaa
/- THE CELL 'sum', in the pinned program and in every row, IS THE sha256 OF THE DUMP (.gsa) THAT YtihijhmahoelhaaProg.lean LOADS. Nothing in Lean hashes anything: it is a label: what it is worth is what the hold of that sum in a sandbox is worth. -/
noncomputable def Try.pinned : Pinned := { name := "ytihijhmahoelhaa", sum := "095c82c623798b8f45d97b44e0d861d5e32675f1a1504950016713046a15e16b", checked := Try.checked }
namespace Rows
def none {H : Type} : Left H := { results := [], args := [] }

/-- 'headcountlaw19.EpochBegins': WHATEVER THE INPUT: true; the input reads as it did. -/
def epochBeginsSpec : ChangeSpec := { name := "epochBegins", fn := fun _ => fun
  | [d1, d2, d3] => { results := [.lit (.bool true)], args := [d1, d2, d3] }
  | _ => none }
def epochBeginsRow : OpenClaim := { program := "ytihijhmahoelhaa", sum := "095c82c623798b8f45d97b44e0d861d5e32675f1a1504950016713046a15e16b", func := "headcount/headcountlaw19.EpochBegins", spec := "epochBegins", apart := false }
def EpochBeginsSaid : Prop := epochBeginsRow.holds Try.pinned (OpenSpec.ofChange epochBeginsSpec)

/-- ITS FALSE NEIGHBOUR: 'it returns false'. Refute it at one input. -/
def epochBeginsWrong : ChangeSpec := { name := "epochBegins", fn := fun _ => fun
  | [d1, d2, d3] => { results := [.lit (.bool false)], args := [d1, d2, d3] }
  | _ => none }
def EpochBeginsWrongFalsely : Prop := epochBeginsRow.holds Try.pinned (OpenSpec.ofChange epochBeginsWrong)

/-- 'headcountlaw19.EpochTells': WHATEVER THE INPUT: true; the input reads as it did. -/
def epochTellsSpec : ChangeSpec := { name := "epochTells", fn := fun _ => fun
  | [d1, d2] => { results := [.lit (.bool true)], args := [d1, d2] }
  | _ => none }
def epochTellsRow : OpenClaim := { program := "ytihijhmahoelhaa", sum := "095c82c623798b8f45d97b44e0d861d5e32675f1a1504950016713046a15e16b", func := "headcount/headcountlaw19.EpochTells", spec := "epochTells", unfollowed := true, recurses := true, apart := false }
def EpochTellsSaid : Prop := epochTellsRow.holds Try.pinned (OpenSpec.ofChange epochTellsSpec)

/-- ITS FALSE NEIGHBOUR: 'it returns false'. Refute it at one input. -/
def epochTellsWrong : ChangeSpec := { name := "epochTells", fn := fun _ => fun
  | [d1, d2] => { results := [.lit (.bool false)], args := [d1, d2] }
  | _ => none }
def EpochTellsWrongFalsely : Prop := epochTellsRow.holds Try.pinned (OpenSpec.ofChange epochTellsWrong)

/-- 'headcountlaw19.EpochNever': WHATEVER THE INPUT: true; the input reads as it did. -/
def epochNeverSpec : ChangeSpec := { name := "epochNever", fn := fun _ => fun
  | [d1, d2] => { results := [.lit (.bool true)], args := [d1, d2] }
  | _ => none }
def epochNeverRow : OpenClaim := { program := "ytihijhmahoelhaa", sum := "095c82c623798b8f45d97b44e0d861d5e32675f1a1504950016713046a15e16b", func := "headcount/headcountlaw19.EpochNever", spec := "epochNever", unfollowed := true, recurses := true, apart := false }
def EpochNeverSaid : Prop := epochNeverRow.holds Try.pinned (OpenSpec.ofChange epochNeverSpec)

/-- ITS FALSE NEIGHBOUR: 'it returns false'. Refute it at one input. -/
def epochNeverWrong : ChangeSpec := { name := "epochNever", fn := fun _ => fun
  | [d1, d2] => { results := [.lit (.bool false)], args := [d1, d2] }
  | _ => none }
def EpochNeverWrongFalsely : Prop := epochNeverRow.holds Try.pinned (OpenSpec.ofChange epochNeverWrong)

/-- 'headcountlaw19.EpochMeet': WHATEVER THE INPUT: true; the input reads as it did. -/
def epochMeetSpec : ChangeSpec := { name := "epochMeet", fn := fun _ => fun
  | [d1, d2] => { results := [.lit (.bool true)], args := [d1, d2] }
  | _ => none }
def epochMeetRow : OpenClaim := { program := "ytihijhmahoelhaa", sum := "095c82c623798b8f45d97b44e0d861d5e32675f1a1504950016713046a15e16b", func := "headcount/headcountlaw19.EpochMeet", spec := "epochMeet", unfollowed := true, recurses := true, apart := false }
def EpochMeetSaid : Prop := epochMeetRow.holds Try.pinned (OpenSpec.ofChange epochMeetSpec)

/-- ITS FALSE NEIGHBOUR: 'it returns false'. Refute it at one input. -/
def epochMeetWrong : ChangeSpec := { name := "epochMeet", fn := fun _ => fun
  | [d1, d2] => { results := [.lit (.bool false)], args := [d1, d2] }
  | _ => none }
def EpochMeetWrongFalsely : Prop := epochMeetRow.holds Try.pinned (OpenSpec.ofChange epochMeetWrong)

/-- 'headcountlaw19.EpochLong': WHATEVER THE INPUT: true; the input reads as it did. -/
def epochLongSpec : ChangeSpec := { name := "epochLong", fn := fun _ => fun
  | [d] => { results := [.lit (.bool true)], args := [d] }
  | _ => none }
def epochLongRow : OpenClaim := { program := "ytihijhmahoelhaa", sum := "095c82c623798b8f45d97b44e0d861d5e32675f1a1504950016713046a15e16b", func := "headcount/headcountlaw19.EpochLong", spec := "epochLong", unfollowed := true, recurses := true, apart := false }
def EpochLongSaid : Prop := epochLongRow.holds Try.pinned (OpenSpec.ofChange epochLongSpec)

/-- ITS FALSE NEIGHBOUR: 'it returns false'. Refute it at one input. -/
def epochLongWrong : ChangeSpec := { name := "epochLong", fn := fun _ => fun
  | [d] => { results := [.lit (.bool false)], args := [d] }
  | _ => none }
def EpochLongWrongFalsely : Prop := epochLongRow.holds Try.pinned (OpenSpec.ofChange epochLongWrong)

/-- 'headcountlaw19.EpochNames': WHATEVER THE INPUT: true; the input reads as it did. -/
def epochNamesSpec : ChangeSpec := { name := "epochNames", fn := fun _ => fun
  | [] => { results := [.lit (.bool true)], args := [] }
  | _ => none }
def epochNamesRow : OpenClaim := { program := "ytihijhmahoelhaa", sum := "095c82c623798b8f45d97b44e0d861d5e32675f1a1504950016713046a15e16b", func := "headcount/headcountlaw19.EpochNames", spec := "epochNames", unfollowed := true, recurses := true, apart := false }
def EpochNamesSaid : Prop := epochNamesRow.holds Try.pinned (OpenSpec.ofChange epochNamesSpec)

/-- ITS FALSE NEIGHBOUR: 'it returns false'. Refute it at one input. -/
def epochNamesWrong : ChangeSpec := { name := "epochNames", fn := fun _ => fun
  | [] => { results := [.lit (.bool false)], args := [] }
  | _ => none }
def EpochNamesWrongFalsely : Prop := epochNamesRow.holds Try.pinned (OpenSpec.ofChange epochNamesWrong)

/- THE SECOND FORM. 'bulk': how many values and letters a reading holds, each counted each time it is reached (what is shared counts as often as it is met; a slice's spare places count too). A statement '..UptoSaid' is the law's where the arguments, and the package variables that the reading takes, are together of bulk at most 1048576: NARROWER than '..Said'. Prove '..Said' where nothing that the law and all that it calls make is longer than what came in: it says more and counts as full. Else prove '..UptoSaid'. A law counts once. -/
mutual
def uptoBulk {H : Type} : DataW H → Nat
  | .lit (.string bytes) => bytes.length + 1
  | .lit _ => 1
  | .nil => 1
  | .ptr d => uptoBulk d + 1
  | .slice elems spare => uptoBulkAll elems + uptoBulkAll spare + 1
  | .agg parts => uptoBulkAll parts + 1
  | .iface _ d => uptoBulk d + 1
  | .map entries => uptoBulkEntries entries + 1
  | .held _ => 1
def uptoBulkAll {H : Type} : List (DataW H) → Nat
  | [] => 0
  | d :: r => uptoBulk d + uptoBulkAll r
def uptoBulkEntries {H : Type} : List (Lit × DataW H) → Nat
  | [] => 0
  | x :: r => uptoBulkEntry x + uptoBulkEntries r
def uptoBulkEntry {H : Type} : Lit × DataW H → Nat
  | (.string bytes, d) => bytes.length + uptoBulk d + 1
  | (_, d) => uptoBulk d + 1
 end
def uptoSmall : (H : Type) → List (DataW H) → Bool := fun _ ds => decide (uptoBulkAll ds ≤ 1048576)
def OpenSpec.upto (s : _root_.Go.ChangeSpec) : _root_.Go.OpenSpec := { _root_.Go.OpenSpec.ofChange s with cond := some uptoSmall }

/-- 'headcountlaw19.EpochBegins', WHERE WHAT IT READS IS OF BULK AT MOST 1048576: true; the input reads as it did. -/
def epochBeginsUptoRow : OpenClaim := { program := "ytihijhmahoelhaa", sum := "095c82c623798b8f45d97b44e0d861d5e32675f1a1504950016713046a15e16b", func := "headcount/headcountlaw19.EpochBegins", spec := "epochBegins", apart := false, narrowed := true }
def EpochBeginsUptoSaid : Prop := epochBeginsUptoRow.holds Try.pinned (OpenSpec.upto epochBeginsSpec)

/-- 'headcountlaw19.EpochTells', WHERE WHAT IT READS IS OF BULK AT MOST 1048576: true; the input reads as it did. -/
def epochTellsUptoRow : OpenClaim := { program := "ytihijhmahoelhaa", sum := "095c82c623798b8f45d97b44e0d861d5e32675f1a1504950016713046a15e16b", func := "headcount/headcountlaw19.EpochTells", spec := "epochTells", unfollowed := true, recurses := true, apart := false, narrowed := true }
def EpochTellsUptoSaid : Prop := epochTellsUptoRow.holds Try.pinned (OpenSpec.upto epochTellsSpec)

/-- 'headcountlaw19.EpochNever', WHERE WHAT IT READS IS OF BULK AT MOST 1048576: true; the input reads as it did. -/
def epochNeverUptoRow : OpenClaim := { program := "ytihijhmahoelhaa", sum := "095c82c623798b8f45d97b44e0d861d5e32675f1a1504950016713046a15e16b", func := "headcount/headcountlaw19.EpochNever", spec := "epochNever", unfollowed := true, recurses := true, apart := false, narrowed := true }
def EpochNeverUptoSaid : Prop := epochNeverUptoRow.holds Try.pinned (OpenSpec.upto epochNeverSpec)

/-- 'headcountlaw19.EpochMeet', WHERE WHAT IT READS IS OF BULK AT MOST 1048576: true; the input reads as it did. -/
def epochMeetUptoRow : OpenClaim := { program := "ytihijhmahoelhaa", sum := "095c82c623798b8f45d97b44e0d861d5e32675f1a1504950016713046a15e16b", func := "headcount/headcountlaw19.EpochMeet", spec := "epochMeet", unfollowed := true, recurses := true, apart := false, narrowed := true }
def EpochMeetUptoSaid : Prop := epochMeetUptoRow.holds Try.pinned (OpenSpec.upto epochMeetSpec)

/-- 'headcountlaw19.EpochLong', WHERE WHAT IT READS IS OF BULK AT MOST 1048576: true; the input reads as it did. -/
def epochLongUptoRow : OpenClaim := { program := "ytihijhmahoelhaa", sum := "095c82c623798b8f45d97b44e0d861d5e32675f1a1504950016713046a15e16b", func := "headcount/headcountlaw19.EpochLong", spec := "epochLong", unfollowed := true, recurses := true, apart := false, narrowed := true }
def EpochLongUptoSaid : Prop := epochLongUptoRow.holds Try.pinned (OpenSpec.upto epochLongSpec)

/-- 'headcountlaw19.EpochNames', WHERE WHAT IT READS IS OF BULK AT MOST 1048576: true; the input reads as it did. -/
def epochNamesUptoRow : OpenClaim := { program := "ytihijhmahoelhaa", sum := "095c82c623798b8f45d97b44e0d861d5e32675f1a1504950016713046a15e16b", func := "headcount/headcountlaw19.EpochNames", spec := "epochNames", unfollowed := true, recurses := true, apart := false, narrowed := true }
def EpochNamesUptoSaid : Prop := epochNamesUptoRow.holds Try.pinned (OpenSpec.upto epochNamesSpec)

end Rows
end Go.Proofs.Ytihijhmahoelhaa
