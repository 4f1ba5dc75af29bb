/-
  DERIVED. GIVEN WITH THE SEED: THE CARDS: each row of YtmppalgecboeeaaDoorRows.lean that lists a variable, with what it lists TIED to the program's text (the seventh form; the later family's looks); each row that meets fmt, with fmt's text TOLD by the authors' own Lean function (tested against real Go, not proved from fmt's source: count such statements apart). THE CARD IS WHAT COUNTS. Prove the row's statement (the work); the ties are given (YtmppalgecboeeaaDoorTie.lean); close each card by the builder's one call (the guide's Derived/Test/ToyasCard.lean, 'card_holds'). Laid BY PROGRAM, IN A SANDBOX (cutbox-door.mjs). By AI agents, Wed Nov 11 2026. No macro, syntax, notation, axiom, sorry.
-/
import Derived.Test.YtmppalgecboeeaaDoorRows
import GoSem.ClaimSeven
namespace Go.Proofs.YtmppalgecboeeaaDoor
namespace Rows

/-- THE TIED CARD OF 'headcountlaw21.LedgerTells'. -/
def ledgerTellsCard : Claim7 := { stood := { row := ledgerTellsRow, standIns := [], harness := (true, "d1bff95a58a48a2aeb3211ac213c7dcbc3806ec0fb4375d7213738f17570bc8e"), looks := false }, kinds := [], alts := [], laidByText := true, laidKinds := [.data], laidTests := true, laidLooks := .later }
def LedgerTellsCardSaid : Prop := Claim7.holds Tryd.pinned (.plain (OpenSpec.ofChange ledgerTellsSpec)) ledgerTellsCard

/-- THE TIED CARD OF 'headcountlaw21.LedgerNames'. -/
def ledgerNamesCard : Claim7 := { stood := { row := ledgerNamesRow, standIns := [], harness := (true, "d1bff95a58a48a2aeb3211ac213c7dcbc3806ec0fb4375d7213738f17570bc8e"), looks := false }, kinds := [], alts := [], laidByText := true, laidKinds := [.data], laidTests := true, laidLooks := .later }
def LedgerNamesCardSaid : Prop := Claim7.holds Tryd.pinned (.plain (OpenSpec.ofChange ledgerNamesSpec)) ledgerNamesCard

/-- THE TIED CARD OF 'headcountlaw21.LedgerKinds'. -/
def ledgerKindsCard : Claim7 := { stood := { row := ledgerKindsRow, standIns := [], harness := (true, "d1bff95a58a48a2aeb3211ac213c7dcbc3806ec0fb4375d7213738f17570bc8e"), looks := false }, kinds := [], alts := [], laidByText := true, laidKinds := [.data], laidTests := true, laidLooks := .later }
def LedgerKindsCardSaid : Prop := Claim7.holds Tryd.pinned (.plain (OpenSpec.ofChange ledgerKindsSpec)) ledgerKindsCard

/-- THE TIED CARD OF 'headcountlaw21.LedgerOwn'. -/
def ledgerOwnCard : Claim7 := { stood := { row := ledgerOwnRow, standIns := [], harness := (true, "d1bff95a58a48a2aeb3211ac213c7dcbc3806ec0fb4375d7213738f17570bc8e"), looks := false }, kinds := [], alts := [], laidByText := true, laidKinds := [.data], laidTests := true, laidLooks := .later }
def LedgerOwnCardSaid : Prop := Claim7.holds Tryd.pinned (.plain (OpenSpec.ofChange ledgerOwnSpec)) ledgerOwnCard

/-- THE SECOND FORM's CARD OF 'headcountlaw21.LedgerTells'. -/
def ledgerTellsUptoCard : Claim7 := { stood := { row := ledgerTellsUptoRow, standIns := [], harness := (true, "d1bff95a58a48a2aeb3211ac213c7dcbc3806ec0fb4375d7213738f17570bc8e"), looks := false }, kinds := [], alts := [], laidByText := true, laidKinds := [.data], laidTests := true, laidLooks := .later }
def LedgerTellsUptoCardSaid : Prop := Claim7.holds Tryd.pinned (.plain (OpenSpec.upto ledgerTellsSpec)) ledgerTellsUptoCard

/-- THE SECOND FORM's CARD OF 'headcountlaw21.LedgerNames'. -/
def ledgerNamesUptoCard : Claim7 := { stood := { row := ledgerNamesUptoRow, standIns := [], harness := (true, "d1bff95a58a48a2aeb3211ac213c7dcbc3806ec0fb4375d7213738f17570bc8e"), looks := false }, kinds := [], alts := [], laidByText := true, laidKinds := [.data], laidTests := true, laidLooks := .later }
def LedgerNamesUptoCardSaid : Prop := Claim7.holds Tryd.pinned (.plain (OpenSpec.upto ledgerNamesSpec)) ledgerNamesUptoCard

/-- THE SECOND FORM's CARD OF 'headcountlaw21.LedgerKinds'. -/
def ledgerKindsUptoCard : Claim7 := { stood := { row := ledgerKindsUptoRow, standIns := [], harness := (true, "d1bff95a58a48a2aeb3211ac213c7dcbc3806ec0fb4375d7213738f17570bc8e"), looks := false }, kinds := [], alts := [], laidByText := true, laidKinds := [.data], laidTests := true, laidLooks := .later }
def LedgerKindsUptoCardSaid : Prop := Claim7.holds Tryd.pinned (.plain (OpenSpec.upto ledgerKindsSpec)) ledgerKindsUptoCard

/-- THE SECOND FORM's CARD OF 'headcountlaw21.LedgerOwn'. -/
def ledgerOwnUptoCard : Claim7 := { stood := { row := ledgerOwnUptoRow, standIns := [], harness := (true, "d1bff95a58a48a2aeb3211ac213c7dcbc3806ec0fb4375d7213738f17570bc8e"), looks := false }, kinds := [], alts := [], laidByText := true, laidKinds := [.data], laidTests := true, laidLooks := .later }
def LedgerOwnUptoCardSaid : Prop := Claim7.holds Tryd.pinned (.plain (OpenSpec.upto ledgerOwnSpec)) ledgerOwnUptoCard
end Rows
end Go.Proofs.YtmppalgecboeeaaDoor
