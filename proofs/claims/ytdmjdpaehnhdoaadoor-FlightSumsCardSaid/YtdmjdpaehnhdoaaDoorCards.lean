/-
  DERIVED. GIVEN WITH THE SEED: THE CARDS: each row of YtdmjdpaehnhdoaaDoorRows.lean that lists a variable, with what it lists TIED to the program's text (the seventh form; the later family's looks); each row that meets fmt, with fmt's text TOLD by the authors' own Lean function (tested against real Go, not proved from fmt's source: count such statements apart). THE CARD IS WHAT COUNTS. Prove the row's statement (the work); the ties are given (YtdmjdpaehnhdoaaDoorTie.lean); close each card by the builder's one call (the guide's Derived/Test/ToyasCard.lean, 'card_holds'). Laid BY PROGRAM, IN A SANDBOX (cutbox-door.mjs). By AI agents, Wed Nov 11 2026. No macro, syntax, notation, axiom, sorry.
-/
import Derived.Test.YtdmjdpaehnhdoaaDoorRows
import GoSem.ClaimSeven
namespace Go.Proofs.YtdmjdpaehnhdoaaDoor
namespace Rows

/-- THE TIED CARD OF 'headcountlaw13.FlightSums'. -/
def flightSumsCard : Claim7 := { stood := { row := flightSumsRow, standIns := [], harness := (true, "a29726eb198ea57c9f25faf3b0a1c2a4b96fc181ea05233ebb9e6e7fd6f419f4"), looks := false }, kinds := [], alts := [], laidByText := true, laidKinds := [.data], laidTests := true, laidLooks := .later }
def FlightSumsCardSaid : Prop := Claim7.holds Tryd.pinned (.plain (OpenSpec.ofChange flightSumsSpec)) flightSumsCard

/-- THE TIED CARD OF 'headcountlaw13.FlightWhole'. -/
def flightWholeCard : Claim7 := { stood := { row := flightWholeRow, standIns := [], harness := (true, "a29726eb198ea57c9f25faf3b0a1c2a4b96fc181ea05233ebb9e6e7fd6f419f4"), looks := false }, kinds := [], alts := [], laidByText := true, laidKinds := [.data], laidTests := true, laidLooks := .later }
def FlightWholeCardSaid : Prop := Claim7.holds Tryd.pinned (.plain (OpenSpec.ofChange flightWholeSpec)) flightWholeCard

/-- THE TIED CARD OF 'headcountlaw13.FlightNames'. -/
def flightNamesCard : Claim7 := { stood := { row := flightNamesRow, standIns := [], harness := (true, "a29726eb198ea57c9f25faf3b0a1c2a4b96fc181ea05233ebb9e6e7fd6f419f4"), looks := false }, kinds := [], alts := [], laidByText := true, laidKinds := [.data], laidTests := true, laidLooks := .later }
def FlightNamesCardSaid : Prop := Claim7.holds Tryd.pinned (.plain (OpenSpec.ofChange flightNamesSpec)) flightNamesCard

/-- THE SECOND FORM's CARD OF 'headcountlaw13.FlightSums'. -/
def flightSumsUptoCard : Claim7 := { stood := { row := flightSumsUptoRow, standIns := [], harness := (true, "a29726eb198ea57c9f25faf3b0a1c2a4b96fc181ea05233ebb9e6e7fd6f419f4"), looks := false }, kinds := [], alts := [], laidByText := true, laidKinds := [.data], laidTests := true, laidLooks := .later }
def FlightSumsUptoCardSaid : Prop := Claim7.holds Tryd.pinned (.plain (OpenSpec.upto flightSumsSpec)) flightSumsUptoCard

/-- THE SECOND FORM's CARD OF 'headcountlaw13.FlightWhole'. -/
def flightWholeUptoCard : Claim7 := { stood := { row := flightWholeUptoRow, standIns := [], harness := (true, "a29726eb198ea57c9f25faf3b0a1c2a4b96fc181ea05233ebb9e6e7fd6f419f4"), looks := false }, kinds := [], alts := [], laidByText := true, laidKinds := [.data], laidTests := true, laidLooks := .later }
def FlightWholeUptoCardSaid : Prop := Claim7.holds Tryd.pinned (.plain (OpenSpec.upto flightWholeSpec)) flightWholeUptoCard

/-- THE SECOND FORM's CARD OF 'headcountlaw13.FlightNames'. -/
def flightNamesUptoCard : Claim7 := { stood := { row := flightNamesUptoRow, standIns := [], harness := (true, "a29726eb198ea57c9f25faf3b0a1c2a4b96fc181ea05233ebb9e6e7fd6f419f4"), looks := false }, kinds := [], alts := [], laidByText := true, laidKinds := [.data], laidTests := true, laidLooks := .later }
def FlightNamesUptoCardSaid : Prop := Claim7.holds Tryd.pinned (.plain (OpenSpec.upto flightNamesSpec)) flightNamesUptoCard
end Rows
end Go.Proofs.YtdmjdpaehnhdoaaDoor
