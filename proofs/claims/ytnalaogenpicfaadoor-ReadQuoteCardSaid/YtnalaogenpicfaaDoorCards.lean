/-
  DERIVED. GIVEN WITH THE SEED: THE CARDS: each row of YtnalaogenpicfaaDoorRows.lean that lists a variable, with what it lists TIED to the program's text (the seventh form; the later family's looks); each row that meets fmt, with fmt's text TOLD by the authors' own Lean function (tested against real Go, not proved from fmt's source: count such statements apart). THE CARD IS WHAT COUNTS. Prove the row's statement (the work); the ties are given (YtnalaogenpicfaaDoorTie.lean); close each card by the builder's one call (the guide's Derived/Test/ToyasCard.lean, 'card_holds'). Laid BY PROGRAM, IN A SANDBOX (cutbox-door.mjs). By AI agents, Wed Nov 11 2026. No macro, syntax, notation, axiom, sorry.
-/
import Derived.Test.YtnalaogenpicfaaDoorRows
import GoSem.ClaimSeven
namespace Go.Proofs.YtnalaogenpicfaaDoor
namespace Rows

/-- THE TIED CARD OF 'grafterykeep.ReadTorn'. -/
def readTornCard : Claim7 := { stood := { row := readTornRow, standIns := [], harness := (true, "6f22c6e02dd33238fcf9453f0d8799ee29cc262ea4a7dd34cca00e45d4c981e3"), looks := true }, kinds := [], alts := [], laidByText := true, laidKinds := [.data, .data, .data, .sentinel, .sentinel], laidTests := true, laidLooks := .later }
def ReadTornCardSaid : Prop := Claim7.holds Tryd.pinned (.plain (OpenSpec.ofChange readTornSpec)) readTornCard

/-- THE TIED CARD OF 'grafterykeep.ReadDeep'. -/
def readDeepCard : Claim7 := { stood := { row := readDeepRow, standIns := [], harness := (true, "6f22c6e02dd33238fcf9453f0d8799ee29cc262ea4a7dd34cca00e45d4c981e3"), looks := true }, kinds := [], alts := [], laidByText := true, laidKinds := [.data, .data, .data, .sentinel, .sentinel], laidTests := true, laidLooks := .later }
def ReadDeepCardSaid : Prop := Claim7.holds Tryd.pinned (.plain (OpenSpec.ofChange readDeepSpec)) readDeepCard

/-- THE TIED CARD OF 'grafterykeep.ReadBlanks'. -/
def readBlanksCard : Claim7 := { stood := { row := readBlanksRow, standIns := [], harness := (true, "6f22c6e02dd33238fcf9453f0d8799ee29cc262ea4a7dd34cca00e45d4c981e3"), looks := true }, kinds := [], alts := [], laidByText := true, laidKinds := [.data, .data, .data, .sentinel, .sentinel], laidTests := true, laidLooks := .later }
def ReadBlanksCardSaid : Prop := Claim7.holds Tryd.pinned (.plain (OpenSpec.ofChange readBlanksSpec)) readBlanksCard

/-- THE TIED CARD OF 'grafterykeep.ReadQuote'. -/
def readQuoteCard : Claim7 := { stood := { row := readQuoteRow, standIns := [], harness := (true, "6f22c6e02dd33238fcf9453f0d8799ee29cc262ea4a7dd34cca00e45d4c981e3"), looks := true }, kinds := [], alts := [], laidByText := true, laidKinds := [.data, .data, .data, .sentinel, .sentinel], laidTests := true, laidLooks := .later }
def ReadQuoteCardSaid : Prop := Claim7.holds Tryd.pinned (.plain (OpenSpec.ofChange readQuoteSpec)) readQuoteCard

/-- THE TIED CARD OF 'grafterykeep.ReadBack'. -/
def readBackCard : Claim7 := { stood := { row := readBackRow, standIns := [], harness := (true, "6f22c6e02dd33238fcf9453f0d8799ee29cc262ea4a7dd34cca00e45d4c981e3"), looks := true }, kinds := [], alts := [], laidByText := true, laidKinds := [.data, .data, .data, .sentinel, .sentinel], laidTests := true, laidLooks := .later }
def ReadBackCardSaid : Prop := Claim7.holds Tryd.pinned (.plain (OpenSpec.ofChange readBackSpec)) readBackCard

/-- THE SECOND FORM's CARD OF 'grafterykeep.ReadTorn'. -/
def readTornUptoCard : Claim7 := { stood := { row := readTornUptoRow, standIns := [], harness := (true, "6f22c6e02dd33238fcf9453f0d8799ee29cc262ea4a7dd34cca00e45d4c981e3"), looks := true }, kinds := [], alts := [], laidByText := true, laidKinds := [.data, .data, .data, .sentinel, .sentinel], laidTests := true, laidLooks := .later }
def ReadTornUptoCardSaid : Prop := Claim7.holds Tryd.pinned (.plain (OpenSpec.upto readTornSpec)) readTornUptoCard

/-- THE SECOND FORM's CARD OF 'grafterykeep.ReadDeep'. -/
def readDeepUptoCard : Claim7 := { stood := { row := readDeepUptoRow, standIns := [], harness := (true, "6f22c6e02dd33238fcf9453f0d8799ee29cc262ea4a7dd34cca00e45d4c981e3"), looks := true }, kinds := [], alts := [], laidByText := true, laidKinds := [.data, .data, .data, .sentinel, .sentinel], laidTests := true, laidLooks := .later }
def ReadDeepUptoCardSaid : Prop := Claim7.holds Tryd.pinned (.plain (OpenSpec.upto readDeepSpec)) readDeepUptoCard

/-- THE SECOND FORM's CARD OF 'grafterykeep.ReadBlanks'. -/
def readBlanksUptoCard : Claim7 := { stood := { row := readBlanksUptoRow, standIns := [], harness := (true, "6f22c6e02dd33238fcf9453f0d8799ee29cc262ea4a7dd34cca00e45d4c981e3"), looks := true }, kinds := [], alts := [], laidByText := true, laidKinds := [.data, .data, .data, .sentinel, .sentinel], laidTests := true, laidLooks := .later }
def ReadBlanksUptoCardSaid : Prop := Claim7.holds Tryd.pinned (.plain (OpenSpec.upto readBlanksSpec)) readBlanksUptoCard

/-- THE SECOND FORM's CARD OF 'grafterykeep.ReadQuote'. -/
def readQuoteUptoCard : Claim7 := { stood := { row := readQuoteUptoRow, standIns := [], harness := (true, "6f22c6e02dd33238fcf9453f0d8799ee29cc262ea4a7dd34cca00e45d4c981e3"), looks := true }, kinds := [], alts := [], laidByText := true, laidKinds := [.data, .data, .data, .sentinel, .sentinel], laidTests := true, laidLooks := .later }
def ReadQuoteUptoCardSaid : Prop := Claim7.holds Tryd.pinned (.plain (OpenSpec.upto readQuoteSpec)) readQuoteUptoCard

/-- THE SECOND FORM's CARD OF 'grafterykeep.ReadBack'. -/
def readBackUptoCard : Claim7 := { stood := { row := readBackUptoRow, standIns := [], harness := (true, "6f22c6e02dd33238fcf9453f0d8799ee29cc262ea4a7dd34cca00e45d4c981e3"), looks := true }, kinds := [], alts := [], laidByText := true, laidKinds := [.data, .data, .data, .sentinel, .sentinel], laidTests := true, laidLooks := .later }
def ReadBackUptoCardSaid : Prop := Claim7.holds Tryd.pinned (.plain (OpenSpec.upto readBackSpec)) readBackUptoCard
end Rows
end Go.Proofs.YtnalaogenpicfaaDoor
