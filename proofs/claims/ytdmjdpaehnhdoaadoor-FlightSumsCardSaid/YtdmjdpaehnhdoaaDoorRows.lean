/-
  NARROWER THAN 'FOR EVERY INPUT', by the rows' own cells (each row's printed sentence says how): FlightSums: laid · FlightWhole: laid · FlightNames: laid.
  DERIVED. THE GIVEN ROWS OF THIS SEAT. 3 by the template 'for every input the law returns true; each argument reads behind the call as it read before'; 0 by the template 'total and deterministic' (their statements: YtdmjdpaehnhdoaaDoorTotals.lean).
  GIVEN WITH THE SEED: the statements are not yours to turn. If you find one false, say at which input.
  Laid BY PROGRAM, IN A SANDBOX (cutbox-rows.mjs): the forced cells as the released guide's own fill.sh prints them over the translation 7a9975fca5c36c79… (all of the seat's roots in one cut). By AI agents, Wed Nov 11 2026. No macro, syntax, notation, axiom, sorry.
-/
import Derived.Test.YtdmjdpaehnhdoaaDoorChecked
import GoSem.Claim
import GoSem.ClaimJoined
import GoSem.ClaimMapViews
import Derived.JoinedTies
import Derived.KernelRfl
namespace Go.Proofs.YtdmjdpaehnhdoaaDoor
/- THE CELL 'sum', in the pinned program and in every row, IS THE sha256 OF THE DUMP (.gsa) THAT YtdmjdpaehnhdoaaDoorProg.lean LOADS. Nothing in Lean hashes anything: it is a label: what it is worth is what the hold of that sum in a sandbox is worth. -/
noncomputable def Tryd.pinned : Pinned := { name := "ytdmjdpaehnhdoaadoor", sum := "7a9975fca5c36c79b83612ca7b9afd2864a2b0b19dfe130774c5103d0e6c80d1", checked := Tryd.checked }
namespace Rows
def none {H : Type} : Left H := { results := [], args := [] }

/- WHAT THE LISTED PACKAGE-LEVEL VARIABLES READ AS WHEN THE CALL BEGINS. Each datum BY PROGRAM (the guide's laid-datum.mjs) off the statement by which the dump's own 'gosem.cut.vars' lays the variable. In a bare row this is a premise. The card (YtdmjdpaehnhdoaaDoorCards.lean) ties it to the program's text. -/
def laid_math_bits_deBruijn32tab {H : Type} : DataW H := .agg [.lit (.int .u8 0), .lit (.int .u8 1), .lit (.int .u8 28), .lit (.int .u8 2), .lit (.int .u8 29), .lit (.int .u8 14), .lit (.int .u8 24), .lit (.int .u8 3), .lit (.int .u8 30), .lit (.int .u8 22), .lit (.int .u8 20), .lit (.int .u8 15), .lit (.int .u8 25), .lit (.int .u8 17), .lit (.int .u8 4), .lit (.int .u8 8), .lit (.int .u8 31), .lit (.int .u8 27), .lit (.int .u8 13), .lit (.int .u8 23), .lit (.int .u8 21), .lit (.int .u8 19), .lit (.int .u8 16), .lit (.int .u8 7), .lit (.int .u8 26), .lit (.int .u8 12), .lit (.int .u8 18), .lit (.int .u8 6), .lit (.int .u8 11), .lit (.int .u8 5), .lit (.int .u8 10), .lit (.int .u8 9)]

/-- 'headcountlaw13.FlightSums': WHATEVER THE INPUT: true; the input reads as it did. -/
def flightSumsSpec : ChangeSpec := { name := "flightSums", fn := fun _ => fun
  | [d1, d2, d3, d4] => { results := [.lit (.bool true)], args := [d1, d2, d3, d4] }
  | _ => none }
def flightSumsRow : OpenClaim := { program := "ytdmjdpaehnhdoaadoor", sum := "7a9975fca5c36c79b83612ca7b9afd2864a2b0b19dfe130774c5103d0e6c80d1", func := "headcount/headcountlaw13.FlightSums", spec := "flightSums", unfollowed := true, recurses := true, named := ["math/bits.deBruijn32tab"], apart := false, laid := [("math/bits.deBruijn32tab", laid_math_bits_deBruijn32tab)] }
def FlightSumsSaid : Prop := flightSumsRow.holds Tryd.pinned (OpenSpec.ofChange flightSumsSpec)

/-- ITS FALSE NEIGHBOUR: 'it returns false'. Refute it at one input. -/
def flightSumsWrong : ChangeSpec := { name := "flightSums", fn := fun _ => fun
  | [d1, d2, d3, d4] => { results := [.lit (.bool false)], args := [d1, d2, d3, d4] }
  | _ => none }
def FlightSumsWrongFalsely : Prop := flightSumsRow.holds Tryd.pinned (OpenSpec.ofChange flightSumsWrong)

/-- 'headcountlaw13.FlightWhole': WHATEVER THE INPUT: true; the input reads as it did. -/
def flightWholeSpec : ChangeSpec := { name := "flightWhole", fn := fun _ => fun
  | [d1, d2, d3, d4] => { results := [.lit (.bool true)], args := [d1, d2, d3, d4] }
  | _ => none }
def flightWholeRow : OpenClaim := { program := "ytdmjdpaehnhdoaadoor", sum := "7a9975fca5c36c79b83612ca7b9afd2864a2b0b19dfe130774c5103d0e6c80d1", func := "headcount/headcountlaw13.FlightWhole", spec := "flightWhole", inPlace := ["slices.overlaps[headcount/api.Load]"], unfollowed := true, recurses := true, named := ["math/bits.deBruijn32tab"], apart := false, laid := [("math/bits.deBruijn32tab", laid_math_bits_deBruijn32tab)] }
def FlightWholeSaid : Prop := flightWholeRow.holds Tryd.pinned (OpenSpec.ofChange flightWholeSpec)

/-- ITS FALSE NEIGHBOUR: 'it returns false'. Refute it at one input. -/
def flightWholeWrong : ChangeSpec := { name := "flightWhole", fn := fun _ => fun
  | [d1, d2, d3, d4] => { results := [.lit (.bool false)], args := [d1, d2, d3, d4] }
  | _ => none }
def FlightWholeWrongFalsely : Prop := flightWholeRow.holds Tryd.pinned (OpenSpec.ofChange flightWholeWrong)

/-- 'headcountlaw13.FlightNames': WHATEVER THE INPUT: true; the input reads as it did. -/
def flightNamesSpec : ChangeSpec := { name := "flightNames", fn := fun _ => fun
  | [] => { results := [.lit (.bool true)], args := [] }
  | _ => none }
def flightNamesRow : OpenClaim := { program := "ytdmjdpaehnhdoaadoor", sum := "7a9975fca5c36c79b83612ca7b9afd2864a2b0b19dfe130774c5103d0e6c80d1", func := "headcount/headcountlaw13.FlightNames", spec := "flightNames", inPlace := ["slices.overlaps[headcount/api.Load]"], unfollowed := true, recurses := true, named := ["math/bits.deBruijn32tab"], apart := false, laid := [("math/bits.deBruijn32tab", laid_math_bits_deBruijn32tab)] }
def FlightNamesSaid : Prop := flightNamesRow.holds Tryd.pinned (OpenSpec.ofChange flightNamesSpec)

/-- ITS FALSE NEIGHBOUR: 'it returns false'. Refute it at one input. -/
def flightNamesWrong : ChangeSpec := { name := "flightNames", fn := fun _ => fun
  | [] => { results := [.lit (.bool false)], args := [] }
  | _ => none }
def FlightNamesWrongFalsely : Prop := flightNamesRow.holds Tryd.pinned (OpenSpec.ofChange flightNamesWrong)

/- THE SECOND FORM. 'bulk': how many values and letters a reading holds, each counted each time it is reached (what is shared counts as often as it is met; a slice's spare places count too). A statement '..UptoSaid' is the law's where the arguments, and the package variables that the reading takes, are together of bulk at most 1048576: NARROWER than '..Said'. Prove '..Said' where nothing that the law and all that it calls make is longer than what came in: it says more and counts as full. Else prove '..UptoSaid'. A law counts once. -/
mutual
def uptoBulk {H : Type} : DataW H → Nat
  | .lit (.string bytes) => bytes.length + 1
  | .lit _ => 1
  | .nil => 1
  | .ptr d => uptoBulk d + 1
  | .slice elems spare => uptoBulkAll elems + uptoBulkAll spare + 1
  | .agg parts => uptoBulkAll parts + 1
  | .iface _ d => uptoBulk d + 1
  | .map entries => uptoBulkEntries entries + 1
  | .held _ => 1
def uptoBulkAll {H : Type} : List (DataW H) → Nat
  | [] => 0
  | d :: r => uptoBulk d + uptoBulkAll r
def uptoBulkEntries {H : Type} : List (Lit × DataW H) → Nat
  | [] => 0
  | x :: r => uptoBulkEntry x + uptoBulkEntries r
def uptoBulkEntry {H : Type} : Lit × DataW H → Nat
  | (.string bytes, d) => bytes.length + uptoBulk d + 1
  | (_, d) => uptoBulk d + 1
 end
def uptoSmall : (H : Type) → List (DataW H) → Bool := fun _ ds => decide (uptoBulkAll ds ≤ 1048576)
def OpenSpec.upto (s : _root_.Go.ChangeSpec) : _root_.Go.OpenSpec := { _root_.Go.OpenSpec.ofChange s with cond := some uptoSmall }

/-- 'headcountlaw13.FlightSums', WHERE WHAT IT READS IS OF BULK AT MOST 1048576: true; the input reads as it did. -/
def flightSumsUptoRow : OpenClaim := { program := "ytdmjdpaehnhdoaadoor", sum := "7a9975fca5c36c79b83612ca7b9afd2864a2b0b19dfe130774c5103d0e6c80d1", func := "headcount/headcountlaw13.FlightSums", spec := "flightSums", unfollowed := true, recurses := true, named := ["math/bits.deBruijn32tab"], apart := false, laid := [("math/bits.deBruijn32tab", laid_math_bits_deBruijn32tab)], narrowed := true }
def FlightSumsUptoSaid : Prop := flightSumsUptoRow.holds Tryd.pinned (OpenSpec.upto flightSumsSpec)

/-- 'headcountlaw13.FlightWhole', WHERE WHAT IT READS IS OF BULK AT MOST 1048576: true; the input reads as it did. -/
def flightWholeUptoRow : OpenClaim := { program := "ytdmjdpaehnhdoaadoor", sum := "7a9975fca5c36c79b83612ca7b9afd2864a2b0b19dfe130774c5103d0e6c80d1", func := "headcount/headcountlaw13.FlightWhole", spec := "flightWhole", inPlace := ["slices.overlaps[headcount/api.Load]"], unfollowed := true, recurses := true, named := ["math/bits.deBruijn32tab"], apart := false, laid := [("math/bits.deBruijn32tab", laid_math_bits_deBruijn32tab)], narrowed := true }
def FlightWholeUptoSaid : Prop := flightWholeUptoRow.holds Tryd.pinned (OpenSpec.upto flightWholeSpec)

/-- 'headcountlaw13.FlightNames', WHERE WHAT IT READS IS OF BULK AT MOST 1048576: true; the input reads as it did. -/
def flightNamesUptoRow : OpenClaim := { program := "ytdmjdpaehnhdoaadoor", sum := "7a9975fca5c36c79b83612ca7b9afd2864a2b0b19dfe130774c5103d0e6c80d1", func := "headcount/headcountlaw13.FlightNames", spec := "flightNames", inPlace := ["slices.overlaps[headcount/api.Load]"], unfollowed := true, recurses := true, named := ["math/bits.deBruijn32tab"], apart := false, laid := [("math/bits.deBruijn32tab", laid_math_bits_deBruijn32tab)], narrowed := true }
def FlightNamesUptoSaid : Prop := flightNamesUptoRow.holds Tryd.pinned (OpenSpec.upto flightNamesSpec)

end Rows
end Go.Proofs.YtdmjdpaehnhdoaaDoor
