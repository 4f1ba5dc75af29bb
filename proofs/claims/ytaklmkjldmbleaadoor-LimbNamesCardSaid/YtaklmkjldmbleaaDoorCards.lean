/-
  DERIVED. GIVEN WITH THE SEED: THE CARDS: each row of YtaklmkjldmbleaaDoorRows.lean that lists a variable, with what it lists TIED to the program's text (the seventh form; the later family's looks); each row that meets fmt, with fmt's text TOLD by the authors' own Lean function (tested against real Go, not proved from fmt's source: count such statements apart). THE CARD IS WHAT COUNTS. Prove the row's statement (the work); the ties are given (YtaklmkjldmbleaaDoorTie.lean); close each card by the builder's one call (the guide's Derived/Test/ToyasCard.lean, 'card_holds'). Laid BY PROGRAM, IN A SANDBOX (cutbox-door.mjs). By AI agents, Wed Nov 11 2026. No macro, syntax, notation, axiom, sorry.
-/
import Derived.Test.YtaklmkjldmbleaaDoorRows
import GoSem.ClaimSeven
namespace Go.Proofs.YtaklmkjldmbleaaDoor
namespace Rows

/-- THE TIED CARD OF 'headcountlaw01.LimbShifts'. -/
def limbShiftsCard : Claim7 := { stood := { row := limbShiftsRow, standIns := [], harness := (true, "470c112a408166f845474994227505bea61545385bb7b765a1453948c8eb4bf5"), looks := false }, kinds := [], alts := [], laidByText := true, laidKinds := [.data], laidTests := true, laidLooks := .later }
def LimbShiftsCardSaid : Prop := Claim7.holds Tryd.pinned (.plain (OpenSpec.ofChange limbShiftsSpec)) limbShiftsCard

/-- THE TIED CARD OF 'headcountlaw01.LimbSums'. -/
def limbSumsCard : Claim7 := { stood := { row := limbSumsRow, standIns := [], harness := (true, "470c112a408166f845474994227505bea61545385bb7b765a1453948c8eb4bf5"), looks := false }, kinds := [], alts := [], laidByText := true, laidKinds := [.data], laidTests := true, laidLooks := .later }
def LimbSumsCardSaid : Prop := Claim7.holds Tryd.pinned (.plain (OpenSpec.ofChange limbSumsSpec)) limbSumsCard

/-- THE TIED CARD OF 'headcountlaw01.LimbParts'. -/
def limbPartsCard : Claim7 := { stood := { row := limbPartsRow, standIns := [], harness := (true, "470c112a408166f845474994227505bea61545385bb7b765a1453948c8eb4bf5"), looks := false }, kinds := [], alts := [], laidByText := true, laidKinds := [.data], laidTests := true, laidLooks := .later }
def LimbPartsCardSaid : Prop := Claim7.holds Tryd.pinned (.plain (OpenSpec.ofChange limbPartsSpec)) limbPartsCard

/-- THE TIED CARD OF 'headcountlaw01.LimbTwos'. -/
def limbTwosCard : Claim7 := { stood := { row := limbTwosRow, standIns := [], harness := (true, "470c112a408166f845474994227505bea61545385bb7b765a1453948c8eb4bf5"), looks := false }, kinds := [], alts := [], laidByText := true, laidKinds := [.data], laidTests := true, laidLooks := .later }
def LimbTwosCardSaid : Prop := Claim7.holds Tryd.pinned (.plain (OpenSpec.ofChange limbTwosSpec)) limbTwosCard

/-- THE TIED CARD OF 'headcountlaw01.LimbNames'. -/
def limbNamesCard : Claim7 := { stood := { row := limbNamesRow, standIns := [], harness := (true, "470c112a408166f845474994227505bea61545385bb7b765a1453948c8eb4bf5"), looks := false }, kinds := [], alts := [], laidByText := true, laidKinds := [.data], laidTests := true, laidLooks := .later }
def LimbNamesCardSaid : Prop := Claim7.holds Tryd.pinned (.plain (OpenSpec.ofChange limbNamesSpec)) limbNamesCard

/-- THE SECOND FORM's CARD OF 'headcountlaw01.LimbShifts'. -/
def limbShiftsUptoCard : Claim7 := { stood := { row := limbShiftsUptoRow, standIns := [], harness := (true, "470c112a408166f845474994227505bea61545385bb7b765a1453948c8eb4bf5"), looks := false }, kinds := [], alts := [], laidByText := true, laidKinds := [.data], laidTests := true, laidLooks := .later }
def LimbShiftsUptoCardSaid : Prop := Claim7.holds Tryd.pinned (.plain (OpenSpec.upto limbShiftsSpec)) limbShiftsUptoCard

/-- THE SECOND FORM's CARD OF 'headcountlaw01.LimbSums'. -/
def limbSumsUptoCard : Claim7 := { stood := { row := limbSumsUptoRow, standIns := [], harness := (true, "470c112a408166f845474994227505bea61545385bb7b765a1453948c8eb4bf5"), looks := false }, kinds := [], alts := [], laidByText := true, laidKinds := [.data], laidTests := true, laidLooks := .later }
def LimbSumsUptoCardSaid : Prop := Claim7.holds Tryd.pinned (.plain (OpenSpec.upto limbSumsSpec)) limbSumsUptoCard

/-- THE SECOND FORM's CARD OF 'headcountlaw01.LimbParts'. -/
def limbPartsUptoCard : Claim7 := { stood := { row := limbPartsUptoRow, standIns := [], harness := (true, "470c112a408166f845474994227505bea61545385bb7b765a1453948c8eb4bf5"), looks := false }, kinds := [], alts := [], laidByText := true, laidKinds := [.data], laidTests := true, laidLooks := .later }
def LimbPartsUptoCardSaid : Prop := Claim7.holds Tryd.pinned (.plain (OpenSpec.upto limbPartsSpec)) limbPartsUptoCard

/-- THE SECOND FORM's CARD OF 'headcountlaw01.LimbTwos'. -/
def limbTwosUptoCard : Claim7 := { stood := { row := limbTwosUptoRow, standIns := [], harness := (true, "470c112a408166f845474994227505bea61545385bb7b765a1453948c8eb4bf5"), looks := false }, kinds := [], alts := [], laidByText := true, laidKinds := [.data], laidTests := true, laidLooks := .later }
def LimbTwosUptoCardSaid : Prop := Claim7.holds Tryd.pinned (.plain (OpenSpec.upto limbTwosSpec)) limbTwosUptoCard

/-- THE SECOND FORM's CARD OF 'headcountlaw01.LimbNames'. -/
def limbNamesUptoCard : Claim7 := { stood := { row := limbNamesUptoRow, standIns := [], harness := (true, "470c112a408166f845474994227505bea61545385bb7b765a1453948c8eb4bf5"), looks := false }, kinds := [], alts := [], laidByText := true, laidKinds := [.data], laidTests := true, laidLooks := .later }
def LimbNamesUptoCardSaid : Prop := Claim7.holds Tryd.pinned (.plain (OpenSpec.upto limbNamesSpec)) limbNamesUptoCard
end Rows
end Go.Proofs.YtaklmkjldmbleaaDoor
