/-
  No cell of these rows narrows 'for every input' (looked for: loops, veiled, ifaces, maps, wideKeys, modest, calm, conditions, laid).
  DERIVED. THE GIVEN ROWS OF THIS SEAT. 5 by the template 'for every input the law returns true; each argument reads behind the call as it read before'; 0 by the template 'total and deterministic' (their statements: YtdibchmhigcaaaaTotals.lean).
  GIVEN WITH THE SEED: the statements are not yours to turn. If you find one false, say at which input.
  Laid BY PROGRAM, IN A SANDBOX (cutbox-rows.mjs): the forced cells as the released guide's own fill.sh prints them over the translation a3f58d0c961202e3… (all of the seat's roots in one cut). By AI agents, Wed Nov 11 2026. No macro, syntax, notation, axiom, sorry.
-/
import Derived.Test.YtdibchmhigcaaaaChecked
import GoSem.Claim
import GoSem.ClaimJoined
import GoSem.ClaimMapViews
import Derived.JoinedTies
import Derived.KernelRfl
namespace Go.Proofs.Ytdibchmhigcaaaa
/- THE CELL 'sum', in the pinned program and in every row, IS THE sha256 OF THE DUMP (.gsa) THAT YtdibchmhigcaaaaProg.lean LOADS. Nothing in Lean hashes anything: it is a label: what it is worth is what the hold of that sum in a sandbox is worth. -/
noncomputable def Try.pinned : Pinned := { name := "ytdibchmhigcaaaa", sum := "a3f58d0c961202e3e233c0e69640183e9e98129f52dc661818a2f1ff5a3e7a07", checked := Try.checked }
namespace Rows
def none {H : Type} : Left H := { results := [], args := [] }

/-- 'headcountlaw17.EdgeAll': WHATEVER THE INPUT: true; the input reads as it did. -/
def edgeAllSpec : ChangeSpec := { name := "edgeAll", fn := fun _ => fun
  | [d] => { results := [.lit (.bool true)], args := [d] }
  | _ => none }
def edgeAllRow : OpenClaim := { program := "ytdibchmhigcaaaa", sum := "a3f58d0c961202e3e233c0e69640183e9e98129f52dc661818a2f1ff5a3e7a07", func := "headcount/headcountlaw17.EdgeAll", spec := "edgeAll", unfollowed := true, recurses := true, apart := false }
def EdgeAllSaid : Prop := edgeAllRow.holds Try.pinned (OpenSpec.ofChange edgeAllSpec)

/-- ITS FALSE NEIGHBOUR: 'it returns false'. Refute it at one input. -/
def edgeAllWrong : ChangeSpec := { name := "edgeAll", fn := fun _ => fun
  | [d] => { results := [.lit (.bool false)], args := [d] }
  | _ => none }
def EdgeAllWrongFalsely : Prop := edgeAllRow.holds Try.pinned (OpenSpec.ofChange edgeAllWrong)

/-- 'headcountlaw17.EdgeNames': WHATEVER THE INPUT: true; the input reads as it did. -/
def edgeNamesSpec : ChangeSpec := { name := "edgeNames", fn := fun _ => fun
  | [] => { results := [.lit (.bool true)], args := [] }
  | _ => none }
def edgeNamesRow : OpenClaim := { program := "ytdibchmhigcaaaa", sum := "a3f58d0c961202e3e233c0e69640183e9e98129f52dc661818a2f1ff5a3e7a07", func := "headcount/headcountlaw17.EdgeNames", spec := "edgeNames", unfollowed := true, recurses := true, apart := false }
def EdgeNamesSaid : Prop := edgeNamesRow.holds Try.pinned (OpenSpec.ofChange edgeNamesSpec)

/-- ITS FALSE NEIGHBOUR: 'it returns false'. Refute it at one input. -/
def edgeNamesWrong : ChangeSpec := { name := "edgeNames", fn := fun _ => fun
  | [] => { results := [.lit (.bool false)], args := [] }
  | _ => none }
def EdgeNamesWrongFalsely : Prop := edgeNamesRow.holds Try.pinned (OpenSpec.ofChange edgeNamesWrong)

/-- 'headcountlaw17.EdgeTells': WHATEVER THE INPUT: true; the input reads as it did. -/
def edgeTellsSpec : ChangeSpec := { name := "edgeTells", fn := fun _ => fun
  | [d1, d2, d3] => { results := [.lit (.bool true)], args := [d1, d2, d3] }
  | _ => none }
def edgeTellsRow : OpenClaim := { program := "ytdibchmhigcaaaa", sum := "a3f58d0c961202e3e233c0e69640183e9e98129f52dc661818a2f1ff5a3e7a07", func := "headcount/headcountlaw17.EdgeTells", spec := "edgeTells", unfollowed := true, recurses := true, apart := false }
def EdgeTellsSaid : Prop := edgeTellsRow.holds Try.pinned (OpenSpec.ofChange edgeTellsSpec)

/-- ITS FALSE NEIGHBOUR: 'it returns false'. Refute it at one input. -/
def edgeTellsWrong : ChangeSpec := { name := "edgeTells", fn := fun _ => fun
  | [d1, d2, d3] => { results := [.lit (.bool false)], args := [d1, d2, d3] }
  | _ => none }
def EdgeTellsWrongFalsely : Prop := edgeTellsRow.holds Try.pinned (OpenSpec.ofChange edgeTellsWrong)

/-- 'headcountlaw17.EdgeOrder': WHATEVER THE INPUT: true; the input reads as it did. -/
def edgeOrderSpec : ChangeSpec := { name := "edgeOrder", fn := fun _ => fun
  | [d1, d2, d3] => { results := [.lit (.bool true)], args := [d1, d2, d3] }
  | _ => none }
def edgeOrderRow : OpenClaim := { program := "ytdibchmhigcaaaa", sum := "a3f58d0c961202e3e233c0e69640183e9e98129f52dc661818a2f1ff5a3e7a07", func := "headcount/headcountlaw17.EdgeOrder", spec := "edgeOrder", unfollowed := true, recurses := true, apart := false }
def EdgeOrderSaid : Prop := edgeOrderRow.holds Try.pinned (OpenSpec.ofChange edgeOrderSpec)

/-- ITS FALSE NEIGHBOUR: 'it returns false'. Refute it at one input. -/
def edgeOrderWrong : ChangeSpec := { name := "edgeOrder", fn := fun _ => fun
  | [d1, d2, d3] => { results := [.lit (.bool false)], args := [d1, d2, d3] }
  | _ => none }
def EdgeOrderWrongFalsely : Prop := edgeOrderRow.holds Try.pinned (OpenSpec.ofChange edgeOrderWrong)

/-- 'headcountlaw17.EdgeHolds': WHATEVER THE INPUT: true; the input reads as it did. -/
def edgeHoldsSpec : ChangeSpec := { name := "edgeHolds", fn := fun _ => fun
  | [d1, d2, d3] => { results := [.lit (.bool true)], args := [d1, d2, d3] }
  | _ => none }
def edgeHoldsRow : OpenClaim := { program := "ytdibchmhigcaaaa", sum := "a3f58d0c961202e3e233c0e69640183e9e98129f52dc661818a2f1ff5a3e7a07", func := "headcount/headcountlaw17.EdgeHolds", spec := "edgeHolds", unfollowed := true, recurses := true, apart := false }
def EdgeHoldsSaid : Prop := edgeHoldsRow.holds Try.pinned (OpenSpec.ofChange edgeHoldsSpec)

/-- ITS FALSE NEIGHBOUR: 'it returns false'. Refute it at one input. -/
def edgeHoldsWrong : ChangeSpec := { name := "edgeHolds", fn := fun _ => fun
  | [d1, d2, d3] => { results := [.lit (.bool false)], args := [d1, d2, d3] }
  | _ => none }
def EdgeHoldsWrongFalsely : Prop := edgeHoldsRow.holds Try.pinned (OpenSpec.ofChange edgeHoldsWrong)

/- THE SECOND FORM. 'bulk': how many values and letters a reading holds, each counted each time it is reached (what is shared counts as often as it is met; a slice's spare places count too). A statement '..UptoSaid' is the law's where the arguments, and the package variables that the reading takes, are together of bulk at most 1048576: NARROWER than '..Said'. Prove '..Said' where nothing that the law and all that it calls make is longer than what came in: it says more and counts as full. Else prove '..UptoSaid'. A law counts once. -/
mutual
def uptoBulk {H : Type} : DataW H → Nat
  | .lit (.string bytes) => bytes.length + 1
  | .lit _ => 1
  | .nil => 1
  | .ptr d => uptoBulk d + 1
  | .slice elems spare => uptoBulkAll elems + uptoBulkAll spare + 1
  | .agg parts => uptoBulkAll parts + 1
  | .iface _ d => uptoBulk d + 1
  | .map entries => uptoBulkEntries entries + 1
  | .held _ => 1
def uptoBulkAll {H : Type} : List (DataW H) → Nat
  | [] => 0
  | d :: r => uptoBulk d + uptoBulkAll r
def uptoBulkEntries {H : Type} : List (Lit × DataW H) → Nat
  | [] => 0
  | x :: r => uptoBulkEntry x + uptoBulkEntries r
def uptoBulkEntry {H : Type} : Lit × DataW H → Nat
  | (.string bytes, d) => bytes.length + uptoBulk d + 1
  | (_, d) => uptoBulk d + 1
 end
def uptoSmall : (H : Type) → List (DataW H) → Bool := fun _ ds => decide (uptoBulkAll ds ≤ 1048576)
def OpenSpec.upto (s : _root_.Go.ChangeSpec) : _root_.Go.OpenSpec := { _root_.Go.OpenSpec.ofChange s with cond := some uptoSmall }

/-- 'headcountlaw17.EdgeAll', WHERE WHAT IT READS IS OF BULK AT MOST 1048576: true; the input reads as it did. -/
def edgeAllUptoRow : OpenClaim := { program := "ytdibchmhigcaaaa", sum := "a3f58d0c961202e3e233c0e69640183e9e98129f52dc661818a2f1ff5a3e7a07", func := "headcount/headcountlaw17.EdgeAll", spec := "edgeAll", unfollowed := true, recurses := true, apart := false, narrowed := true }
def EdgeAllUptoSaid : Prop := edgeAllUptoRow.holds Try.pinned (OpenSpec.upto edgeAllSpec)

/-- 'headcountlaw17.EdgeNames', WHERE WHAT IT READS IS OF BULK AT MOST 1048576: true; the input reads as it did. -/
def edgeNamesUptoRow : OpenClaim := { program := "ytdibchmhigcaaaa", sum := "a3f58d0c961202e3e233c0e69640183e9e98129f52dc661818a2f1ff5a3e7a07", func := "headcount/headcountlaw17.EdgeNames", spec := "edgeNames", unfollowed := true, recurses := true, apart := false, narrowed := true }
def EdgeNamesUptoSaid : Prop := edgeNamesUptoRow.holds Try.pinned (OpenSpec.upto edgeNamesSpec)

/-- 'headcountlaw17.EdgeTells', WHERE WHAT IT READS IS OF BULK AT MOST 1048576: true; the input reads as it did. -/
def edgeTellsUptoRow : OpenClaim := { program := "ytdibchmhigcaaaa", sum := "a3f58d0c961202e3e233c0e69640183e9e98129f52dc661818a2f1ff5a3e7a07", func := "headcount/headcountlaw17.EdgeTells", spec := "edgeTells", unfollowed := true, recurses := true, apart := false, narrowed := true }
def EdgeTellsUptoSaid : Prop := edgeTellsUptoRow.holds Try.pinned (OpenSpec.upto edgeTellsSpec)

/-- 'headcountlaw17.EdgeOrder', WHERE WHAT IT READS IS OF BULK AT MOST 1048576: true; the input reads as it did. -/
def edgeOrderUptoRow : OpenClaim := { program := "ytdibchmhigcaaaa", sum := "a3f58d0c961202e3e233c0e69640183e9e98129f52dc661818a2f1ff5a3e7a07", func := "headcount/headcountlaw17.EdgeOrder", spec := "edgeOrder", unfollowed := true, recurses := true, apart := false, narrowed := true }
def EdgeOrderUptoSaid : Prop := edgeOrderUptoRow.holds Try.pinned (OpenSpec.upto edgeOrderSpec)

/-- 'headcountlaw17.EdgeHolds', WHERE WHAT IT READS IS OF BULK AT MOST 1048576: true; the input reads as it did. -/
def edgeHoldsUptoRow : OpenClaim := { program := "ytdibchmhigcaaaa", sum := "a3f58d0c961202e3e233c0e69640183e9e98129f52dc661818a2f1ff5a3e7a07", func := "headcount/headcountlaw17.EdgeHolds", spec := "edgeHolds", unfollowed := true, recurses := true, apart := false, narrowed := true }
def EdgeHoldsUptoSaid : Prop := edgeHoldsUptoRow.holds Try.pinned (OpenSpec.upto edgeHoldsSpec)

end Rows
end Go.Proofs.Ytdibchmhigcaaaa
