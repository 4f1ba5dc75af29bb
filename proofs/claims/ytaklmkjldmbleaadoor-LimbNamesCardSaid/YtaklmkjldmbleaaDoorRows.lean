/-
  NARROWER THAN 'FOR EVERY INPUT', by the rows' own cells (each row's printed sentence says how): LimbShifts: laid · LimbSums: laid · LimbParts: laid · LimbTwos: laid · LimbNames: laid.
  DERIVED. THE GIVEN ROWS OF THIS SEAT. 5 by the template 'for every input the law returns true; each argument reads behind the call as it read before'; 0 by the template 'total and deterministic' (their statements: YtaklmkjldmbleaaDoorTotals.lean).
  GIVEN WITH THE SEED: the statements are not yours to turn. If you find one false, say at which input.
  Laid BY PROGRAM, IN A SANDBOX (cutbox-rows.mjs): the forced cells as the released guide's own fill.sh prints them over the translation 954d3b1b1a5e8c67… (all of the seat's roots in one cut). By AI agents, Wed Nov 11 2026. No macro, syntax, notation, axiom, sorry.
-/
import Derived.Test.YtaklmkjldmbleaaDoorChecked
import GoSem.Claim
import GoSem.ClaimJoined
import GoSem.ClaimMapViews
import Derived.JoinedTies
import Derived.KernelRfl
namespace Go.Proofs.YtaklmkjldmbleaaDoor
/- THE CELL 'sum', in the pinned program and in every row, IS THE sha256 OF THE DUMP (.gsa) THAT YtaklmkjldmbleaaDoorProg.lean LOADS. Nothing in Lean hashes anything: it is a label: what it is worth is what the hold of that sum in a sandbox is worth. -/
noncomputable def Tryd.pinned : Pinned := { name := "ytaklmkjldmbleaadoor", sum := "954d3b1b1a5e8c673227322b3d0e3c1aa21f4f9f5662de65663440eff86f4c4c", checked := Tryd.checked }
namespace Rows
def none {H : Type} : Left H := { results := [], args := [] }

/- WHAT THE LISTED PACKAGE-LEVEL VARIABLES READ AS WHEN THE CALL BEGINS. Each datum BY PROGRAM (the guide's laid-datum.mjs) off the statement by which the dump's own 'gosem.cut.vars' lays the variable. In a bare row this is a premise. The card (YtaklmkjldmbleaaDoorCards.lean) ties it to the program's text. -/
def laid_math_bits_deBruijn32tab {H : Type} : DataW H := .agg [.lit (.int .u8 0), .lit (.int .u8 1), .lit (.int .u8 28), .lit (.int .u8 2), .lit (.int .u8 29), .lit (.int .u8 14), .lit (.int .u8 24), .lit (.int .u8 3), .lit (.int .u8 30), .lit (.int .u8 22), .lit (.int .u8 20), .lit (.int .u8 15), .lit (.int .u8 25), .lit (.int .u8 17), .lit (.int .u8 4), .lit (.int .u8 8), .lit (.int .u8 31), .lit (.int .u8 27), .lit (.int .u8 13), .lit (.int .u8 23), .lit (.int .u8 21), .lit (.int .u8 19), .lit (.int .u8 16), .lit (.int .u8 7), .lit (.int .u8 26), .lit (.int .u8 12), .lit (.int .u8 18), .lit (.int .u8 6), .lit (.int .u8 11), .lit (.int .u8 5), .lit (.int .u8 10), .lit (.int .u8 9)]

/-- 'headcountlaw01.LimbShifts': WHATEVER THE INPUT: true; the input reads as it did. -/
def limbShiftsSpec : ChangeSpec := { name := "limbShifts", fn := fun _ => fun
  | [d1, d2] => { results := [.lit (.bool true)], args := [d1, d2] }
  | _ => none }
def limbShiftsRow : OpenClaim := { program := "ytaklmkjldmbleaadoor", sum := "954d3b1b1a5e8c673227322b3d0e3c1aa21f4f9f5662de65663440eff86f4c4c", func := "headcount/headcountlaw01.LimbShifts", spec := "limbShifts", unfollowed := true, recurses := true, named := ["math/bits.deBruijn32tab"], apart := false, laid := [("math/bits.deBruijn32tab", laid_math_bits_deBruijn32tab)] }
def LimbShiftsSaid : Prop := limbShiftsRow.holds Tryd.pinned (OpenSpec.ofChange limbShiftsSpec)

/-- ITS FALSE NEIGHBOUR: 'it returns false'. Refute it at one input. -/
def limbShiftsWrong : ChangeSpec := { name := "limbShifts", fn := fun _ => fun
  | [d1, d2] => { results := [.lit (.bool false)], args := [d1, d2] }
  | _ => none }
def LimbShiftsWrongFalsely : Prop := limbShiftsRow.holds Tryd.pinned (OpenSpec.ofChange limbShiftsWrong)

/-- 'headcountlaw01.LimbSums': WHATEVER THE INPUT: true; the input reads as it did. -/
def limbSumsSpec : ChangeSpec := { name := "limbSums", fn := fun _ => fun
  | [d1, d2, d3] => { results := [.lit (.bool true)], args := [d1, d2, d3] }
  | _ => none }
def limbSumsRow : OpenClaim := { program := "ytaklmkjldmbleaadoor", sum := "954d3b1b1a5e8c673227322b3d0e3c1aa21f4f9f5662de65663440eff86f4c4c", func := "headcount/headcountlaw01.LimbSums", spec := "limbSums", unfollowed := true, recurses := true, named := ["math/bits.deBruijn32tab"], apart := false, laid := [("math/bits.deBruijn32tab", laid_math_bits_deBruijn32tab)] }
def LimbSumsSaid : Prop := limbSumsRow.holds Tryd.pinned (OpenSpec.ofChange limbSumsSpec)

/-- ITS FALSE NEIGHBOUR: 'it returns false'. Refute it at one input. -/
def limbSumsWrong : ChangeSpec := { name := "limbSums", fn := fun _ => fun
  | [d1, d2, d3] => { results := [.lit (.bool false)], args := [d1, d2, d3] }
  | _ => none }
def LimbSumsWrongFalsely : Prop := limbSumsRow.holds Tryd.pinned (OpenSpec.ofChange limbSumsWrong)

/-- 'headcountlaw01.LimbParts': WHATEVER THE INPUT: true; the input reads as it did. -/
def limbPartsSpec : ChangeSpec := { name := "limbParts", fn := fun _ => fun
  | [d1, d2] => { results := [.lit (.bool true)], args := [d1, d2] }
  | _ => none }
def limbPartsRow : OpenClaim := { program := "ytaklmkjldmbleaadoor", sum := "954d3b1b1a5e8c673227322b3d0e3c1aa21f4f9f5662de65663440eff86f4c4c", func := "headcount/headcountlaw01.LimbParts", spec := "limbParts", unfollowed := true, recurses := true, named := ["math/bits.deBruijn32tab"], apart := false, laid := [("math/bits.deBruijn32tab", laid_math_bits_deBruijn32tab)] }
def LimbPartsSaid : Prop := limbPartsRow.holds Tryd.pinned (OpenSpec.ofChange limbPartsSpec)

/-- ITS FALSE NEIGHBOUR: 'it returns false'. Refute it at one input. -/
def limbPartsWrong : ChangeSpec := { name := "limbParts", fn := fun _ => fun
  | [d1, d2] => { results := [.lit (.bool false)], args := [d1, d2] }
  | _ => none }
def LimbPartsWrongFalsely : Prop := limbPartsRow.holds Tryd.pinned (OpenSpec.ofChange limbPartsWrong)

/-- 'headcountlaw01.LimbTwos': WHATEVER THE INPUT: true; the input reads as it did. -/
def limbTwosSpec : ChangeSpec := { name := "limbTwos", fn := fun _ => fun
  | [d1, d2] => { results := [.lit (.bool true)], args := [d1, d2] }
  | _ => none }
def limbTwosRow : OpenClaim := { program := "ytaklmkjldmbleaadoor", sum := "954d3b1b1a5e8c673227322b3d0e3c1aa21f4f9f5662de65663440eff86f4c4c", func := "headcount/headcountlaw01.LimbTwos", spec := "limbTwos", unfollowed := true, recurses := true, named := ["math/bits.deBruijn32tab"], apart := false, laid := [("math/bits.deBruijn32tab", laid_math_bits_deBruijn32tab)] }
def LimbTwosSaid : Prop := limbTwosRow.holds Tryd.pinned (OpenSpec.ofChange limbTwosSpec)

/-- ITS FALSE NEIGHBOUR: 'it returns false'. Refute it at one input. -/
def limbTwosWrong : ChangeSpec := { name := "limbTwos", fn := fun _ => fun
  | [d1, d2] => { results := [.lit (.bool false)], args := [d1, d2] }
  | _ => none }
def LimbTwosWrongFalsely : Prop := limbTwosRow.holds Tryd.pinned (OpenSpec.ofChange limbTwosWrong)

/-- 'headcountlaw01.LimbNames': WHATEVER THE INPUT: true; the input reads as it did. -/
def limbNamesSpec : ChangeSpec := { name := "limbNames", fn := fun _ => fun
  | [] => { results := [.lit (.bool true)], args := [] }
  | _ => none }
def limbNamesRow : OpenClaim := { program := "ytaklmkjldmbleaadoor", sum := "954d3b1b1a5e8c673227322b3d0e3c1aa21f4f9f5662de65663440eff86f4c4c", func := "headcount/headcountlaw01.LimbNames", spec := "limbNames", unfollowed := true, recurses := true, named := ["math/bits.deBruijn32tab"], apart := false, laid := [("math/bits.deBruijn32tab", laid_math_bits_deBruijn32tab)] }
def LimbNamesSaid : Prop := limbNamesRow.holds Tryd.pinned (OpenSpec.ofChange limbNamesSpec)

/-- ITS FALSE NEIGHBOUR: 'it returns false'. Refute it at one input. -/
def limbNamesWrong : ChangeSpec := { name := "limbNames", fn := fun _ => fun
  | [] => { results := [.lit (.bool false)], args := [] }
  | _ => none }
def LimbNamesWrongFalsely : Prop := limbNamesRow.holds Tryd.pinned (OpenSpec.ofChange limbNamesWrong)

/- THE SECOND FORM. 'bulk': how many values and letters a reading holds, each counted each time it is reached (what is shared counts as often as it is met; a slice's spare places count too). A statement '..UptoSaid' is the law's where the arguments, and the package variables that the reading takes, are together of bulk at most 1048576: NARROWER than '..Said'. Prove '..Said' where nothing that the law and all that it calls make is longer than what came in: it says more and counts as full. Else prove '..UptoSaid'. A law counts once. -/
mutual
def uptoBulk {H : Type} : DataW H → Nat
  | .lit (.string bytes) => bytes.length + 1
  | .lit _ => 1
  | .nil => 1
  | .ptr d => uptoBulk d + 1
  | .slice elems spare => uptoBulkAll elems + uptoBulkAll spare + 1
  | .agg parts => uptoBulkAll parts + 1
  | .iface _ d => uptoBulk d + 1
  | .map entries => uptoBulkEntries entries + 1
  | .held _ => 1
def uptoBulkAll {H : Type} : List (DataW H) → Nat
  | [] => 0
  | d :: r => uptoBulk d + uptoBulkAll r
def uptoBulkEntries {H : Type} : List (Lit × DataW H) → Nat
  | [] => 0
  | x :: r => uptoBulkEntry x + uptoBulkEntries r
def uptoBulkEntry {H : Type} : Lit × DataW H → Nat
  | (.string bytes, d) => bytes.length + uptoBulk d + 1
  | (_, d) => uptoBulk d + 1
 end
def uptoSmall : (H : Type) → List (DataW H) → Bool := fun _ ds => decide (uptoBulkAll ds ≤ 1048576)
def OpenSpec.upto (s : _root_.Go.ChangeSpec) : _root_.Go.OpenSpec := { _root_.Go.OpenSpec.ofChange s with cond := some uptoSmall }

/-- 'headcountlaw01.LimbShifts', WHERE WHAT IT READS IS OF BULK AT MOST 1048576: true; the input reads as it did. -/
def limbShiftsUptoRow : OpenClaim := { program := "ytaklmkjldmbleaadoor", sum := "954d3b1b1a5e8c673227322b3d0e3c1aa21f4f9f5662de65663440eff86f4c4c", func := "headcount/headcountlaw01.LimbShifts", spec := "limbShifts", unfollowed := true, recurses := true, named := ["math/bits.deBruijn32tab"], apart := false, laid := [("math/bits.deBruijn32tab", laid_math_bits_deBruijn32tab)], narrowed := true }
def LimbShiftsUptoSaid : Prop := limbShiftsUptoRow.holds Tryd.pinned (OpenSpec.upto limbShiftsSpec)

/-- 'headcountlaw01.LimbSums', WHERE WHAT IT READS IS OF BULK AT MOST 1048576: true; the input reads as it did. -/
def limbSumsUptoRow : OpenClaim := { program := "ytaklmkjldmbleaadoor", sum := "954d3b1b1a5e8c673227322b3d0e3c1aa21f4f9f5662de65663440eff86f4c4c", func := "headcount/headcountlaw01.LimbSums", spec := "limbSums", unfollowed := true, recurses := true, named := ["math/bits.deBruijn32tab"], apart := false, laid := [("math/bits.deBruijn32tab", laid_math_bits_deBruijn32tab)], narrowed := true }
def LimbSumsUptoSaid : Prop := limbSumsUptoRow.holds Tryd.pinned (OpenSpec.upto limbSumsSpec)

/-- 'headcountlaw01.LimbParts', WHERE WHAT IT READS IS OF BULK AT MOST 1048576: true; the input reads as it did. -/
def limbPartsUptoRow : OpenClaim := { program := "ytaklmkjldmbleaadoor", sum := "954d3b1b1a5e8c673227322b3d0e3c1aa21f4f9f5662de65663440eff86f4c4c", func := "headcount/headcountlaw01.LimbParts", spec := "limbParts", unfollowed := true, recurses := true, named := ["math/bits.deBruijn32tab"], apart := false, laid := [("math/bits.deBruijn32tab", laid_math_bits_deBruijn32tab)], narrowed := true }
def LimbPartsUptoSaid : Prop := limbPartsUptoRow.holds Tryd.pinned (OpenSpec.upto limbPartsSpec)

/-- 'headcountlaw01.LimbTwos', WHERE WHAT IT READS IS OF BULK AT MOST 1048576: true; the input reads as it did. -/
def limbTwosUptoRow : OpenClaim := { program := "ytaklmkjldmbleaadoor", sum := "954d3b1b1a5e8c673227322b3d0e3c1aa21f4f9f5662de65663440eff86f4c4c", func := "headcount/headcountlaw01.LimbTwos", spec := "limbTwos", unfollowed := true, recurses := true, named := ["math/bits.deBruijn32tab"], apart := false, laid := [("math/bits.deBruijn32tab", laid_math_bits_deBruijn32tab)], narrowed := true }
def LimbTwosUptoSaid : Prop := limbTwosUptoRow.holds Tryd.pinned (OpenSpec.upto limbTwosSpec)

/-- 'headcountlaw01.LimbNames', WHERE WHAT IT READS IS OF BULK AT MOST 1048576: true; the input reads as it did. -/
def limbNamesUptoRow : OpenClaim := { program := "ytaklmkjldmbleaadoor", sum := "954d3b1b1a5e8c673227322b3d0e3c1aa21f4f9f5662de65663440eff86f4c4c", func := "headcount/headcountlaw01.LimbNames", spec := "limbNames", unfollowed := true, recurses := true, named := ["math/bits.deBruijn32tab"], apart := false, laid := [("math/bits.deBruijn32tab", laid_math_bits_deBruijn32tab)], narrowed := true }
def LimbNamesUptoSaid : Prop := limbNamesUptoRow.holds Tryd.pinned (OpenSpec.upto limbNamesSpec)

end Rows
end Go.Proofs.YtaklmkjldmbleaaDoor
