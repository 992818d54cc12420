/-
  DERIVED. GIVEN WITH THE SEED: THE CARDS: each row of YtcmnmceodhambaaGreatDoorRows.lean that lists a variable, with what it lists TIED to the program's text (the seventh form; the later family's looks); each row that meets fmt, with fmt's text TOLD by the authors' own Lean function (tested against real Go, not proved from fmt's source: count such statements apart). THE CARD IS WHAT COUNTS. Prove the row's statement (the work); the ties are given (YtcmnmceodhambaaGreatDoorTie.lean); close each card by the builder's one call (the guide's Derived/Test/ToyasCard.lean, 'card_holds'). Laid BY PROGRAM, IN A SANDBOX (cutbox-door.mjs). By AI agents, Wed Nov 11 2026. No macro, syntax, notation, axiom, sorry.
-/
import Derived.Test.YtcmnmceodhambaaGreatDoorRows
import GoSem.ClaimSeven
namespace Go.Proofs.YtcmnmceodhambaaGreatDoor
namespace Rows

/-- THE TIED CARD OF 'grafterykeep.Anew'. -/
def anewCard : Claim7 := { stood := { row := anewRow, standIns := [], harness := (true, "e8c0873f51e1a5078eb6b88e55d8b2ee81f97f1230f1566e910fa4ee0a11e22d"), looks := true }, kinds := [], alts := [], laidByText := true, laidKinds := [.data, .data, .data, .sentinel, .sentinel, .mapped, .mapped, .mapped, .mapped, .data], laidTests := true, laidLooks := .later }
def AnewCardSaid : Prop := Claim7.holds Tryz.pinned (.plain (OpenSpec.ofChange anewSpec)) anewCard

/-- THE TIED CARD OF 'grafterykeep.GraftKeeps'. -/
def graftKeepsCard : Claim7 := { stood := { row := graftKeepsRow, standIns := [], harness := (true, "e8c0873f51e1a5078eb6b88e55d8b2ee81f97f1230f1566e910fa4ee0a11e22d"), looks := true }, kinds := [], alts := [], laidByText := true, laidKinds := [.data, .data, .data, .sentinel, .sentinel, .mapped, .mapped, .mapped, .mapped, .data], laidTests := true, laidLooks := .later }
def GraftKeepsCardSaid : Prop := Claim7.holds Tryz.pinned (.plain (OpenSpec.ofChange graftKeepsSpec)) graftKeepsCard

/-- THE TIED CARD OF 'grafterykeep.MoveTells'. -/
def moveTellsCard : Claim7 := { stood := { row := moveTellsRow, standIns := [], harness := (true, "e8c0873f51e1a5078eb6b88e55d8b2ee81f97f1230f1566e910fa4ee0a11e22d"), looks := true }, kinds := [], alts := [], laidByText := true, laidKinds := [.data, .data, .data, .sentinel, .sentinel, .mapped, .mapped, .mapped, .mapped, .data], laidTests := true, laidLooks := .later }
def MoveTellsCardSaid : Prop := Claim7.holds Tryz.pinned (.plain (OpenSpec.ofChange moveTellsSpec)) moveTellsCard

/-- THE TIED CARD OF 'grafterykeep.GraftRefused'. -/
def graftRefusedCard : Claim7 := { stood := { row := graftRefusedRow, standIns := [], harness := (true, "e8c0873f51e1a5078eb6b88e55d8b2ee81f97f1230f1566e910fa4ee0a11e22d"), looks := true }, kinds := [], alts := [], laidByText := true, laidKinds := [.data, .data, .data, .sentinel, .sentinel, .mapped, .mapped, .mapped, .mapped, .data], laidTests := true, laidLooks := .later }
def GraftRefusedCardSaid : Prop := Claim7.holds Tryz.pinned (.plain (OpenSpec.ofChange graftRefusedSpec)) graftRefusedCard

/-- THE TIED CARD OF 'grafterykeep.Stale'. -/
def staleCard : Claim7 := { stood := { row := staleRow, standIns := [], harness := (true, "e8c0873f51e1a5078eb6b88e55d8b2ee81f97f1230f1566e910fa4ee0a11e22d"), looks := true }, kinds := [], alts := [], laidByText := true, laidKinds := [.data, .data, .data, .sentinel, .sentinel, .mapped, .mapped, .mapped, .mapped, .data], laidTests := true, laidLooks := .later }
def StaleCardSaid : Prop := Claim7.holds Tryz.pinned (.plain (OpenSpec.ofChange staleSpec)) staleCard

/-- THE TIED CARD OF 'grafterykeep.UpgradeSame'. -/
def upgradeSameCard : Claim7 := { stood := { row := upgradeSameRow, standIns := [], harness := (true, "e8c0873f51e1a5078eb6b88e55d8b2ee81f97f1230f1566e910fa4ee0a11e22d"), looks := true }, kinds := [], alts := [], laidByText := true, laidKinds := [.data, .data, .data, .sentinel, .sentinel, .mapped, .mapped, .mapped, .mapped, .data], laidTests := true, laidLooks := .later }
def UpgradeSameCardSaid : Prop := Claim7.holds Tryz.pinned (.plain (OpenSpec.ofChange upgradeSameSpec)) upgradeSameCard

/-- THE TIED CARD OF 'grafterykeep.UpgradeCycle'. -/
def upgradeCycleCard : Claim7 := { stood := { row := upgradeCycleRow, standIns := [], harness := (true, "e8c0873f51e1a5078eb6b88e55d8b2ee81f97f1230f1566e910fa4ee0a11e22d"), looks := true }, kinds := [], alts := [], laidByText := true, laidKinds := [.data, .data, .data, .sentinel, .sentinel, .mapped, .mapped, .mapped, .mapped, .data], laidTests := true, laidLooks := .later }
def UpgradeCycleCardSaid : Prop := Claim7.holds Tryz.pinned (.plain (OpenSpec.ofChange upgradeCycleSpec)) upgradeCycleCard

/-- THE TIED CARD OF 'grafterykeep.ValuesOnce'. -/
def valuesOnceCard : Claim7 := { stood := { row := valuesOnceRow, standIns := [], harness := (true, "e8c0873f51e1a5078eb6b88e55d8b2ee81f97f1230f1566e910fa4ee0a11e22d"), looks := true }, kinds := [], alts := [], laidByText := true, laidKinds := [.data, .data, .data, .sentinel, .sentinel, .mapped, .mapped, .mapped, .mapped, .data], laidTests := true, laidLooks := .later }
def ValuesOnceCardSaid : Prop := Claim7.holds Tryz.pinned (.plain (OpenSpec.ofChange valuesOnceSpec)) valuesOnceCard

/-- THE TIED CARD OF 'grafterykeep.EnvNow'. -/
def envNowCard : Claim7 := { stood := { row := envNowRow, standIns := [], harness := (true, "e8c0873f51e1a5078eb6b88e55d8b2ee81f97f1230f1566e910fa4ee0a11e22d"), looks := true }, kinds := [], alts := [], laidByText := true, laidKinds := [.data, .data, .data, .sentinel, .sentinel, .mapped, .mapped, .mapped, .mapped, .data], laidTests := true, laidLooks := .later }
def EnvNowCardSaid : Prop := Claim7.holds Tryz.pinned (.plain (OpenSpec.ofChange envNowSpec)) envNowCard

/-- THE TIED CARD OF 'grafterykeep.ShowDeep'. -/
def showDeepCard : Claim7 := { stood := { row := showDeepRow, standIns := [], harness := (true, "e8c0873f51e1a5078eb6b88e55d8b2ee81f97f1230f1566e910fa4ee0a11e22d"), looks := true }, kinds := [], alts := [], laidByText := true, laidKinds := [.data, .data, .data, .sentinel, .sentinel, .mapped, .mapped, .mapped, .mapped, .data], laidTests := true, laidLooks := .later }
def ShowDeepCardSaid : Prop := Claim7.holds Tryz.pinned (.plain (OpenSpec.ofChange showDeepSpec)) showDeepCard

/-- THE TIED CARD OF 'grafterykeep.ShowLong'. -/
def showLongCard : Claim7 := { stood := { row := showLongRow, standIns := [], harness := (true, "e8c0873f51e1a5078eb6b88e55d8b2ee81f97f1230f1566e910fa4ee0a11e22d"), looks := true }, kinds := [], alts := [], laidByText := true, laidKinds := [.data, .data, .data, .sentinel, .sentinel, .mapped, .mapped, .mapped, .mapped, .data], laidTests := true, laidLooks := .later }
def ShowLongCardSaid : Prop := Claim7.holds Tryz.pinned (.plain (OpenSpec.ofChange showLongSpec)) showLongCard

/-- THE TIED CARD OF 'grafterykeep.Mutual'. -/
def mutualCard : Claim7 := { stood := { row := mutualRow, standIns := [], harness := (true, "e8c0873f51e1a5078eb6b88e55d8b2ee81f97f1230f1566e910fa4ee0a11e22d"), looks := true }, kinds := [], alts := [], laidByText := true, laidKinds := [.data, .data, .data, .sentinel, .sentinel, .mapped, .mapped, .mapped, .mapped, .data], laidTests := true, laidLooks := .later }
def MutualCardSaid : Prop := Claim7.holds Tryz.pinned (.plain (OpenSpec.ofChange mutualSpec)) mutualCard

/-- THE SECOND FORM's CARD OF 'grafterykeep.Anew'. -/
def anewUptoCard : Claim7 := { stood := { row := anewUptoRow, standIns := [], harness := (true, "e8c0873f51e1a5078eb6b88e55d8b2ee81f97f1230f1566e910fa4ee0a11e22d"), looks := true }, kinds := [], alts := [], laidByText := true, laidKinds := [.data, .data, .data, .sentinel, .sentinel, .mapped, .mapped, .mapped, .mapped, .data], laidTests := true, laidLooks := .later }
def AnewUptoCardSaid : Prop := Claim7.holds Tryz.pinned (.plain (OpenSpec.upto anewSpec)) anewUptoCard

/-- THE SECOND FORM's CARD OF 'grafterykeep.GraftKeeps'. -/
def graftKeepsUptoCard : Claim7 := { stood := { row := graftKeepsUptoRow, standIns := [], harness := (true, "e8c0873f51e1a5078eb6b88e55d8b2ee81f97f1230f1566e910fa4ee0a11e22d"), looks := true }, kinds := [], alts := [], laidByText := true, laidKinds := [.data, .data, .data, .sentinel, .sentinel, .mapped, .mapped, .mapped, .mapped, .data], laidTests := true, laidLooks := .later }
def GraftKeepsUptoCardSaid : Prop := Claim7.holds Tryz.pinned (.plain (OpenSpec.upto graftKeepsSpec)) graftKeepsUptoCard

/-- THE SECOND FORM's CARD OF 'grafterykeep.MoveTells'. -/
def moveTellsUptoCard : Claim7 := { stood := { row := moveTellsUptoRow, standIns := [], harness := (true, "e8c0873f51e1a5078eb6b88e55d8b2ee81f97f1230f1566e910fa4ee0a11e22d"), looks := true }, kinds := [], alts := [], laidByText := true, laidKinds := [.data, .data, .data, .sentinel, .sentinel, .mapped, .mapped, .mapped, .mapped, .data], laidTests := true, laidLooks := .later }
def MoveTellsUptoCardSaid : Prop := Claim7.holds Tryz.pinned (.plain (OpenSpec.upto moveTellsSpec)) moveTellsUptoCard

/-- THE SECOND FORM's CARD OF 'grafterykeep.GraftRefused'. -/
def graftRefusedUptoCard : Claim7 := { stood := { row := graftRefusedUptoRow, standIns := [], harness := (true, "e8c0873f51e1a5078eb6b88e55d8b2ee81f97f1230f1566e910fa4ee0a11e22d"), looks := true }, kinds := [], alts := [], laidByText := true, laidKinds := [.data, .data, .data, .sentinel, .sentinel, .mapped, .mapped, .mapped, .mapped, .data], laidTests := true, laidLooks := .later }
def GraftRefusedUptoCardSaid : Prop := Claim7.holds Tryz.pinned (.plain (OpenSpec.upto graftRefusedSpec)) graftRefusedUptoCard

/-- THE SECOND FORM's CARD OF 'grafterykeep.Stale'. -/
def staleUptoCard : Claim7 := { stood := { row := staleUptoRow, standIns := [], harness := (true, "e8c0873f51e1a5078eb6b88e55d8b2ee81f97f1230f1566e910fa4ee0a11e22d"), looks := true }, kinds := [], alts := [], laidByText := true, laidKinds := [.data, .data, .data, .sentinel, .sentinel, .mapped, .mapped, .mapped, .mapped, .data], laidTests := true, laidLooks := .later }
def StaleUptoCardSaid : Prop := Claim7.holds Tryz.pinned (.plain (OpenSpec.upto staleSpec)) staleUptoCard

/-- THE SECOND FORM's CARD OF 'grafterykeep.UpgradeSame'. -/
def upgradeSameUptoCard : Claim7 := { stood := { row := upgradeSameUptoRow, standIns := [], harness := (true, "e8c0873f51e1a5078eb6b88e55d8b2ee81f97f1230f1566e910fa4ee0a11e22d"), looks := true }, kinds := [], alts := [], laidByText := true, laidKinds := [.data, .data, .data, .sentinel, .sentinel, .mapped, .mapped, .mapped, .mapped, .data], laidTests := true, laidLooks := .later }
def UpgradeSameUptoCardSaid : Prop := Claim7.holds Tryz.pinned (.plain (OpenSpec.upto upgradeSameSpec)) upgradeSameUptoCard

/-- THE SECOND FORM's CARD OF 'grafterykeep.UpgradeCycle'. -/
def upgradeCycleUptoCard : Claim7 := { stood := { row := upgradeCycleUptoRow, standIns := [], harness := (true, "e8c0873f51e1a5078eb6b88e55d8b2ee81f97f1230f1566e910fa4ee0a11e22d"), looks := true }, kinds := [], alts := [], laidByText := true, laidKinds := [.data, .data, .data, .sentinel, .sentinel, .mapped, .mapped, .mapped, .mapped, .data], laidTests := true, laidLooks := .later }
def UpgradeCycleUptoCardSaid : Prop := Claim7.holds Tryz.pinned (.plain (OpenSpec.upto upgradeCycleSpec)) upgradeCycleUptoCard

/-- THE SECOND FORM's CARD OF 'grafterykeep.ValuesOnce'. -/
def valuesOnceUptoCard : Claim7 := { stood := { row := valuesOnceUptoRow, standIns := [], harness := (true, "e8c0873f51e1a5078eb6b88e55d8b2ee81f97f1230f1566e910fa4ee0a11e22d"), looks := true }, kinds := [], alts := [], laidByText := true, laidKinds := [.data, .data, .data, .sentinel, .sentinel, .mapped, .mapped, .mapped, .mapped, .data], laidTests := true, laidLooks := .later }
def ValuesOnceUptoCardSaid : Prop := Claim7.holds Tryz.pinned (.plain (OpenSpec.upto valuesOnceSpec)) valuesOnceUptoCard

/-- THE SECOND FORM's CARD OF 'grafterykeep.EnvNow'. -/
def envNowUptoCard : Claim7 := { stood := { row := envNowUptoRow, standIns := [], harness := (true, "e8c0873f51e1a5078eb6b88e55d8b2ee81f97f1230f1566e910fa4ee0a11e22d"), looks := true }, kinds := [], alts := [], laidByText := true, laidKinds := [.data, .data, .data, .sentinel, .sentinel, .mapped, .mapped, .mapped, .mapped, .data], laidTests := true, laidLooks := .later }
def EnvNowUptoCardSaid : Prop := Claim7.holds Tryz.pinned (.plain (OpenSpec.upto envNowSpec)) envNowUptoCard

/-- THE SECOND FORM's CARD OF 'grafterykeep.ShowDeep'. -/
def showDeepUptoCard : Claim7 := { stood := { row := showDeepUptoRow, standIns := [], harness := (true, "e8c0873f51e1a5078eb6b88e55d8b2ee81f97f1230f1566e910fa4ee0a11e22d"), looks := true }, kinds := [], alts := [], laidByText := true, laidKinds := [.data, .data, .data, .sentinel, .sentinel, .mapped, .mapped, .mapped, .mapped, .data], laidTests := true, laidLooks := .later }
def ShowDeepUptoCardSaid : Prop := Claim7.holds Tryz.pinned (.plain (OpenSpec.upto showDeepSpec)) showDeepUptoCard

/-- THE SECOND FORM's CARD OF 'grafterykeep.ShowLong'. -/
def showLongUptoCard : Claim7 := { stood := { row := showLongUptoRow, standIns := [], harness := (true, "e8c0873f51e1a5078eb6b88e55d8b2ee81f97f1230f1566e910fa4ee0a11e22d"), looks := true }, kinds := [], alts := [], laidByText := true, laidKinds := [.data, .data, .data, .sentinel, .sentinel, .mapped, .mapped, .mapped, .mapped, .data], laidTests := true, laidLooks := .later }
def ShowLongUptoCardSaid : Prop := Claim7.holds Tryz.pinned (.plain (OpenSpec.upto showLongSpec)) showLongUptoCard

/-- THE SECOND FORM's CARD OF 'grafterykeep.Mutual'. -/
def mutualUptoCard : Claim7 := { stood := { row := mutualUptoRow, standIns := [], harness := (true, "e8c0873f51e1a5078eb6b88e55d8b2ee81f97f1230f1566e910fa4ee0a11e22d"), looks := true }, kinds := [], alts := [], laidByText := true, laidKinds := [.data, .data, .data, .sentinel, .sentinel, .mapped, .mapped, .mapped, .mapped, .data], laidTests := true, laidLooks := .later }
def MutualUptoCardSaid : Prop := Claim7.holds Tryz.pinned (.plain (OpenSpec.upto mutualSpec)) mutualUptoCard
end Rows
end Go.Proofs.YtcmnmceodhambaaGreatDoor
