/-
  No cell of these rows narrows 'for every input' (looked for: loops, veiled, ifaces, maps, wideKeys, modest, calm, conditions, laid).
  DERIVED. THE GIVEN ROWS OF THIS SEAT. 5 by the template 'for every input the law returns true; each argument reads behind the call as it read before'; 0 by the template 'total and deterministic' (their statements: YtjmhefkmpfkpbaaTotals.lean).
  GIVEN WITH THE SEED: the statements are not yours to turn. If you find one false, say at which input.
  Laid BY PROGRAM, IN A SANDBOX (cutbox-rows.mjs): the forced cells as the released guide's own fill.sh prints them over the translation 97194686f9bc04a7… (all of the seat's roots in one cut). By AI agents, Wed Nov 11 2026. No macro, syntax, notation, axiom, sorry.
-/
import Derived.Test.YtjmhefkmpfkpbaaChecked
import GoSem.Claim
import GoSem.ClaimJoined
import GoSem.ClaimMapViews
import Derived.JoinedTies
import Derived.KernelRfl
namespace Go.Proofs.Ytjmhefkmpfkpbaa
/- THE CELL 'sum', in the pinned program and in every row, IS THE sha256 OF THE DUMP (.gsa) THAT YtjmhefkmpfkpbaaProg.lean LOADS. Nothing in Lean hashes anything: it is a label: what it is worth is what the hold of that sum in a sandbox is worth. -/
noncomputable def Try.pinned : Pinned := { name := "ytjmhefkmpfkpbaa", sum := "97194686f9bc04a72d9e99396a4f0dc1303dd5cafe0a4c25a84617d34038af5d", checked := Try.checked }
namespace Rows
def none {H : Type} : Left H := { results := [], args := [] }

/-- 'headcountlaw10.MailApart': WHATEVER THE INPUT: true; the input reads as it did. -/
def mailApartSpec : ChangeSpec := { name := "mailApart", fn := fun _ => fun
  | [d1, d2] => { results := [.lit (.bool true)], args := [d1, d2] }
  | _ => none }
def mailApartRow : OpenClaim := { program := "ytjmhefkmpfkpbaa", sum := "97194686f9bc04a72d9e99396a4f0dc1303dd5cafe0a4c25a84617d34038af5d", func := "headcount/headcountlaw10.MailApart", spec := "mailApart", unfollowed := true, recurses := true, apart := false }
def MailApartSaid : Prop := mailApartRow.holds Try.pinned (OpenSpec.ofChange mailApartSpec)

/-- ITS FALSE NEIGHBOUR: 'it returns false'. Refute it at one input. -/
def mailApartWrong : ChangeSpec := { name := "mailApart", fn := fun _ => fun
  | [d1, d2] => { results := [.lit (.bool false)], args := [d1, d2] }
  | _ => none }
def MailApartWrongFalsely : Prop := mailApartRow.holds Try.pinned (OpenSpec.ofChange mailApartWrong)

/-- 'headcountlaw10.MailTells': WHATEVER THE INPUT: true; the input reads as it did. -/
def mailTellsSpec : ChangeSpec := { name := "mailTells", fn := fun _ => fun
  | [d1, d2, d3] => { results := [.lit (.bool true)], args := [d1, d2, d3] }
  | _ => none }
def mailTellsRow : OpenClaim := { program := "ytjmhefkmpfkpbaa", sum := "97194686f9bc04a72d9e99396a4f0dc1303dd5cafe0a4c25a84617d34038af5d", func := "headcount/headcountlaw10.MailTells", spec := "mailTells", unfollowed := true, recurses := true, apart := false }
def MailTellsSaid : Prop := mailTellsRow.holds Try.pinned (OpenSpec.ofChange mailTellsSpec)

/-- ITS FALSE NEIGHBOUR: 'it returns false'. Refute it at one input. -/
def mailTellsWrong : ChangeSpec := { name := "mailTells", fn := fun _ => fun
  | [d1, d2, d3] => { results := [.lit (.bool false)], args := [d1, d2, d3] }
  | _ => none }
def MailTellsWrongFalsely : Prop := mailTellsRow.holds Try.pinned (OpenSpec.ofChange mailTellsWrong)

/-- 'headcountlaw10.MailNames': WHATEVER THE INPUT: true; the input reads as it did. -/
def mailNamesSpec : ChangeSpec := { name := "mailNames", fn := fun _ => fun
  | [] => { results := [.lit (.bool true)], args := [] }
  | _ => none }
def mailNamesRow : OpenClaim := { program := "ytjmhefkmpfkpbaa", sum := "97194686f9bc04a72d9e99396a4f0dc1303dd5cafe0a4c25a84617d34038af5d", func := "headcount/headcountlaw10.MailNames", spec := "mailNames", unfollowed := true, recurses := true, apart := false }
def MailNamesSaid : Prop := mailNamesRow.holds Try.pinned (OpenSpec.ofChange mailNamesSpec)

/-- ITS FALSE NEIGHBOUR: 'it returns false'. Refute it at one input. -/
def mailNamesWrong : ChangeSpec := { name := "mailNames", fn := fun _ => fun
  | [] => { results := [.lit (.bool false)], args := [] }
  | _ => none }
def MailNamesWrongFalsely : Prop := mailNamesRow.holds Try.pinned (OpenSpec.ofChange mailNamesWrong)

/-- 'headcountlaw10.MailBack': WHATEVER THE INPUT: true; the input reads as it did. -/
def mailBackSpec : ChangeSpec := { name := "mailBack", fn := fun _ => fun
  | [d1, d2] => { results := [.lit (.bool true)], args := [d1, d2] }
  | _ => none }
def mailBackRow : OpenClaim := { program := "ytjmhefkmpfkpbaa", sum := "97194686f9bc04a72d9e99396a4f0dc1303dd5cafe0a4c25a84617d34038af5d", func := "headcount/headcountlaw10.MailBack", spec := "mailBack", unfollowed := true, recurses := true, apart := false }
def MailBackSaid : Prop := mailBackRow.holds Try.pinned (OpenSpec.ofChange mailBackSpec)

/-- ITS FALSE NEIGHBOUR: 'it returns false'. Refute it at one input. -/
def mailBackWrong : ChangeSpec := { name := "mailBack", fn := fun _ => fun
  | [d1, d2] => { results := [.lit (.bool false)], args := [d1, d2] }
  | _ => none }
def MailBackWrongFalsely : Prop := mailBackRow.holds Try.pinned (OpenSpec.ofChange mailBackWrong)

/-- 'headcountlaw10.MailBursts': WHATEVER THE INPUT: true; the input reads as it did. -/
def mailBurstsSpec : ChangeSpec := { name := "mailBursts", fn := fun _ => fun
  | [d1, d2, d3] => { results := [.lit (.bool true)], args := [d1, d2, d3] }
  | _ => none }
def mailBurstsRow : OpenClaim := { program := "ytjmhefkmpfkpbaa", sum := "97194686f9bc04a72d9e99396a4f0dc1303dd5cafe0a4c25a84617d34038af5d", func := "headcount/headcountlaw10.MailBursts", spec := "mailBursts", unfollowed := true, recurses := true, apart := false }
def MailBurstsSaid : Prop := mailBurstsRow.holds Try.pinned (OpenSpec.ofChange mailBurstsSpec)

/-- ITS FALSE NEIGHBOUR: 'it returns false'. Refute it at one input. -/
def mailBurstsWrong : ChangeSpec := { name := "mailBursts", fn := fun _ => fun
  | [d1, d2, d3] => { results := [.lit (.bool false)], args := [d1, d2, d3] }
  | _ => none }
def MailBurstsWrongFalsely : Prop := mailBurstsRow.holds Try.pinned (OpenSpec.ofChange mailBurstsWrong)

/- THE SECOND FORM. 'bulk': how many values and letters a reading holds, each counted each time it is reached (what is shared counts as often as it is met; a slice's spare places count too). A statement '..UptoSaid' is the law's where the arguments, and the package variables that the reading takes, are together of bulk at most 1048576: NARROWER than '..Said'. Prove '..Said' where nothing that the law and all that it calls make is longer than what came in: it says more and counts as full. Else prove '..UptoSaid'. A law counts once. -/
mutual
def uptoBulk {H : Type} : DataW H → Nat
  | .lit (.string bytes) => bytes.length + 1
  | .lit _ => 1
  | .nil => 1
  | .ptr d => uptoBulk d + 1
  | .slice elems spare => uptoBulkAll elems + uptoBulkAll spare + 1
  | .agg parts => uptoBulkAll parts + 1
  | .iface _ d => uptoBulk d + 1
  | .map entries => uptoBulkEntries entries + 1
  | .held _ => 1
def uptoBulkAll {H : Type} : List (DataW H) → Nat
  | [] => 0
  | d :: r => uptoBulk d + uptoBulkAll r
def uptoBulkEntries {H : Type} : List (Lit × DataW H) → Nat
  | [] => 0
  | x :: r => uptoBulkEntry x + uptoBulkEntries r
def uptoBulkEntry {H : Type} : Lit × DataW H → Nat
  | (.string bytes, d) => bytes.length + uptoBulk d + 1
  | (_, d) => uptoBulk d + 1
 end
def uptoSmall : (H : Type) → List (DataW H) → Bool := fun _ ds => decide (uptoBulkAll ds ≤ 1048576)
def OpenSpec.upto (s : _root_.Go.ChangeSpec) : _root_.Go.OpenSpec := { _root_.Go.OpenSpec.ofChange s with cond := some uptoSmall }

/-- 'headcountlaw10.MailApart', WHERE WHAT IT READS IS OF BULK AT MOST 1048576: true; the input reads as it did. -/
def mailApartUptoRow : OpenClaim := { program := "ytjmhefkmpfkpbaa", sum := "97194686f9bc04a72d9e99396a4f0dc1303dd5cafe0a4c25a84617d34038af5d", func := "headcount/headcountlaw10.MailApart", spec := "mailApart", unfollowed := true, recurses := true, apart := false, narrowed := true }
def MailApartUptoSaid : Prop := mailApartUptoRow.holds Try.pinned (OpenSpec.upto mailApartSpec)

/-- 'headcountlaw10.MailTells', WHERE WHAT IT READS IS OF BULK AT MOST 1048576: true; the input reads as it did. -/
def mailTellsUptoRow : OpenClaim := { program := "ytjmhefkmpfkpbaa", sum := "97194686f9bc04a72d9e99396a4f0dc1303dd5cafe0a4c25a84617d34038af5d", func := "headcount/headcountlaw10.MailTells", spec := "mailTells", unfollowed := true, recurses := true, apart := false, narrowed := true }
def MailTellsUptoSaid : Prop := mailTellsUptoRow.holds Try.pinned (OpenSpec.upto mailTellsSpec)

/-- 'headcountlaw10.MailNames', WHERE WHAT IT READS IS OF BULK AT MOST 1048576: true; the input reads as it did. -/
def mailNamesUptoRow : OpenClaim := { program := "ytjmhefkmpfkpbaa", sum := "97194686f9bc04a72d9e99396a4f0dc1303dd5cafe0a4c25a84617d34038af5d", func := "headcount/headcountlaw10.MailNames", spec := "mailNames", unfollowed := true, recurses := true, apart := false, narrowed := true }
def MailNamesUptoSaid : Prop := mailNamesUptoRow.holds Try.pinned (OpenSpec.upto mailNamesSpec)

/-- 'headcountlaw10.MailBack', WHERE WHAT IT READS IS OF BULK AT MOST 1048576: true; the input reads as it did. -/
def mailBackUptoRow : OpenClaim := { program := "ytjmhefkmpfkpbaa", sum := "97194686f9bc04a72d9e99396a4f0dc1303dd5cafe0a4c25a84617d34038af5d", func := "headcount/headcountlaw10.MailBack", spec := "mailBack", unfollowed := true, recurses := true, apart := false, narrowed := true }
def MailBackUptoSaid : Prop := mailBackUptoRow.holds Try.pinned (OpenSpec.upto mailBackSpec)

/-- 'headcountlaw10.MailBursts', WHERE WHAT IT READS IS OF BULK AT MOST 1048576: true; the input reads as it did. -/
def mailBurstsUptoRow : OpenClaim := { program := "ytjmhefkmpfkpbaa", sum := "97194686f9bc04a72d9e99396a4f0dc1303dd5cafe0a4c25a84617d34038af5d", func := "headcount/headcountlaw10.MailBursts", spec := "mailBursts", unfollowed := true, recurses := true, apart := false, narrowed := true }
def MailBurstsUptoSaid : Prop := mailBurstsUptoRow.holds Try.pinned (OpenSpec.upto mailBurstsSpec)

end Rows
end Go.Proofs.Ytjmhefkmpfkpbaa
