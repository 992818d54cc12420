/-
  DERIVED. GIVEN WITH THE SEED: THE CARDS: each row of YtkbdcpkbmfegdaaGreatDoorRows.lean that lists a variable, with what it lists TIED to the program's text (the seventh form; the later family's looks); each row that meets fmt, with fmt's text TOLD by the authors' own Lean function (tested against real Go, not proved from fmt's source: count such statements apart). THE CARD IS WHAT COUNTS. Prove the row's statement (the work); the ties are given (YtkbdcpkbmfegdaaGreatDoorTie.lean); close each card by the builder's one call (the guide's Derived/Test/ToyasCard.lean, 'card_holds'). Laid BY PROGRAM, IN A SANDBOX (cutbox-door.mjs). By AI agents, Wed Nov 11 2026. No macro, syntax, notation, axiom, sorry.
-/
import Derived.Test.YtkbdcpkbmfegdaaGreatDoorRows
import GoSem.ClaimSeven
namespace Go.Proofs.YtkbdcpkbmfegdaaGreatDoor
namespace Rows

/-- THE TIED CARD OF 'grafterykeep.ShowDeep'. -/
def showDeepCard : Claim7 := { stood := { row := showDeepRow, standIns := [], harness := (true, "9c7797d50b2f6a0634ae2b4a4b992bace07119e22efe636638ebb0522919034a"), looks := true }, kinds := [], alts := [], laidByText := true, laidKinds := [.data, .data, .data, .sentinel, .sentinel, .mapped, .mapped, .mapped, .mapped, .data], laidTests := true, laidLooks := .later }
def ShowDeepCardSaid : Prop := Claim7.holds Tryz.pinned (.plain (OpenSpec.ofChange showDeepSpec)) showDeepCard

/-- THE TIED CARD OF 'grafterykeep.ShowLong'. -/
def showLongCard : Claim7 := { stood := { row := showLongRow, standIns := [], harness := (true, "9c7797d50b2f6a0634ae2b4a4b992bace07119e22efe636638ebb0522919034a"), looks := true }, kinds := [], alts := [], laidByText := true, laidKinds := [.data, .data, .data, .sentinel, .sentinel, .mapped, .mapped, .mapped, .mapped, .data], laidTests := true, laidLooks := .later }
def ShowLongCardSaid : Prop := Claim7.holds Tryz.pinned (.plain (OpenSpec.ofChange showLongSpec)) showLongCard

/-- THE TIED CARD OF 'grafterykeep.UpgradeChain'. -/
def upgradeChainCard : Claim7 := { stood := { row := upgradeChainRow, standIns := [], harness := (true, "9c7797d50b2f6a0634ae2b4a4b992bace07119e22efe636638ebb0522919034a"), looks := true }, kinds := [], alts := [], laidByText := true, laidKinds := [.data, .data, .data, .sentinel, .sentinel, .mapped, .mapped, .mapped, .mapped, .data], laidTests := true, laidLooks := .later }
def UpgradeChainCardSaid : Prop := Claim7.holds Tryz.pinned (.plain (OpenSpec.ofChange upgradeChainSpec)) upgradeChainCard

/-- THE SECOND FORM's CARD OF 'grafterykeep.ShowDeep'. -/
def showDeepUptoCard : Claim7 := { stood := { row := showDeepUptoRow, standIns := [], harness := (true, "9c7797d50b2f6a0634ae2b4a4b992bace07119e22efe636638ebb0522919034a"), looks := true }, kinds := [], alts := [], laidByText := true, laidKinds := [.data, .data, .data, .sentinel, .sentinel, .mapped, .mapped, .mapped, .mapped, .data], laidTests := true, laidLooks := .later }
def ShowDeepUptoCardSaid : Prop := Claim7.holds Tryz.pinned (.plain (OpenSpec.upto showDeepSpec)) showDeepUptoCard

/-- THE SECOND FORM's CARD OF 'grafterykeep.ShowLong'. -/
def showLongUptoCard : Claim7 := { stood := { row := showLongUptoRow, standIns := [], harness := (true, "9c7797d50b2f6a0634ae2b4a4b992bace07119e22efe636638ebb0522919034a"), looks := true }, kinds := [], alts := [], laidByText := true, laidKinds := [.data, .data, .data, .sentinel, .sentinel, .mapped, .mapped, .mapped, .mapped, .data], laidTests := true, laidLooks := .later }
def ShowLongUptoCardSaid : Prop := Claim7.holds Tryz.pinned (.plain (OpenSpec.upto showLongSpec)) showLongUptoCard

/-- THE SECOND FORM's CARD OF 'grafterykeep.UpgradeChain'. -/
def upgradeChainUptoCard : Claim7 := { stood := { row := upgradeChainUptoRow, standIns := [], harness := (true, "9c7797d50b2f6a0634ae2b4a4b992bace07119e22efe636638ebb0522919034a"), looks := true }, kinds := [], alts := [], laidByText := true, laidKinds := [.data, .data, .data, .sentinel, .sentinel, .mapped, .mapped, .mapped, .mapped, .data], laidTests := true, laidLooks := .later }
def UpgradeChainUptoCardSaid : Prop := Claim7.holds Tryz.pinned (.plain (OpenSpec.upto upgradeChainSpec)) upgradeChainUptoCard
end Rows
end Go.Proofs.YtkbdcpkbmfegdaaGreatDoor
