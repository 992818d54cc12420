/-
  DERIVED. GIVEN WITH THE SEED: THE CARDS: each row of YtildnaomamnkgaaGreatDoorRows.lean that lists a variable, with what it lists TIED to the program's text (the seventh form; the later family's looks); each row that meets fmt, with fmt's text TOLD by the authors' own Lean function (tested against real Go, not proved from fmt's source: count such statements apart). THE CARD IS WHAT COUNTS. Prove the row's statement (the work); the ties are given (YtildnaomamnkgaaGreatDoorTie.lean); close each card by the builder's one call (the guide's Derived/Test/ToyasCard.lean, 'card_holds'). Laid BY PROGRAM, IN A SANDBOX (cutbox-door.mjs). By AI agents, Wed Nov 11 2026. No macro, syntax, notation, axiom, sorry.
-/
import Derived.Test.YtildnaomamnkgaaGreatDoorRows
import GoSem.ClaimSeven
namespace Go.Proofs.YtildnaomamnkgaaGreatDoor
namespace Rows

/-- THE TIED CARD OF 'grafterykeep.FuelExact'. -/
def fuelExactCard : Claim7 := { stood := { row := fuelExactRow, standIns := [], harness := (true, "319e5ba1673487b0cf39c46d67cf0891478f7f80b3c8837617f110480d06146f"), looks := true }, kinds := [], alts := [], laidByText := true, laidKinds := [.data, .data, .data, .sentinel, .sentinel, .mapped, .mapped, .mapped, .mapped, .data], laidTests := true, laidLooks := .later }
def FuelExactCardSaid : Prop := Claim7.holds Tryz.pinned (.plain (OpenSpec.ofChange fuelExactSpec)) fuelExactCard

/-- THE TIED CARD OF 'grafterykeep.RollBack'. -/
def rollBackCard : Claim7 := { stood := { row := rollBackRow, standIns := [], harness := (true, "319e5ba1673487b0cf39c46d67cf0891478f7f80b3c8837617f110480d06146f"), looks := true }, kinds := [], alts := [], laidByText := true, laidKinds := [.data, .data, .data, .sentinel, .sentinel, .mapped, .mapped, .mapped, .mapped, .data], laidTests := true, laidLooks := .later }
def RollBackCardSaid : Prop := Claim7.holds Tryz.pinned (.plain (OpenSpec.ofChange rollBackSpec)) rollBackCard

/-- THE TIED CARD OF 'grafterykeep.Tails'. -/
def tailsCard : Claim7 := { stood := { row := tailsRow, standIns := [], harness := (true, "319e5ba1673487b0cf39c46d67cf0891478f7f80b3c8837617f110480d06146f"), looks := true }, kinds := [], alts := [], laidByText := true, laidKinds := [.data, .data, .data, .sentinel, .sentinel, .mapped, .mapped, .mapped, .mapped, .data], laidTests := true, laidLooks := .later }
def TailsCardSaid : Prop := Claim7.holds Tryz.pinned (.plain (OpenSpec.ofChange tailsSpec)) tailsCard

/-- THE TIED CARD OF 'grafterykeep.Rooms'. -/
def roomsCard : Claim7 := { stood := { row := roomsRow, standIns := [], harness := (true, "319e5ba1673487b0cf39c46d67cf0891478f7f80b3c8837617f110480d06146f"), looks := true }, kinds := [], alts := [], laidByText := true, laidKinds := [.data, .data, .data, .sentinel, .sentinel, .mapped, .mapped, .mapped, .mapped, .data], laidTests := true, laidLooks := .later }
def RoomsCardSaid : Prop := Claim7.holds Tryz.pinned (.plain (OpenSpec.ofChange roomsSpec)) roomsCard

/-- THE TIED CARD OF 'grafterykeep.UpgradeChain'. -/
def upgradeChainCard : Claim7 := { stood := { row := upgradeChainRow, standIns := [], harness := (true, "319e5ba1673487b0cf39c46d67cf0891478f7f80b3c8837617f110480d06146f"), looks := true }, kinds := [], alts := [], laidByText := true, laidKinds := [.data, .data, .data, .sentinel, .sentinel, .mapped, .mapped, .mapped, .mapped, .data], laidTests := true, laidLooks := .later }
def UpgradeChainCardSaid : Prop := Claim7.holds Tryz.pinned (.plain (OpenSpec.ofChange upgradeChainSpec)) upgradeChainCard

/-- THE SECOND FORM's CARD OF 'grafterykeep.FuelExact'. -/
def fuelExactUptoCard : Claim7 := { stood := { row := fuelExactUptoRow, standIns := [], harness := (true, "319e5ba1673487b0cf39c46d67cf0891478f7f80b3c8837617f110480d06146f"), looks := true }, kinds := [], alts := [], laidByText := true, laidKinds := [.data, .data, .data, .sentinel, .sentinel, .mapped, .mapped, .mapped, .mapped, .data], laidTests := true, laidLooks := .later }
def FuelExactUptoCardSaid : Prop := Claim7.holds Tryz.pinned (.plain (OpenSpec.upto fuelExactSpec)) fuelExactUptoCard

/-- THE SECOND FORM's CARD OF 'grafterykeep.RollBack'. -/
def rollBackUptoCard : Claim7 := { stood := { row := rollBackUptoRow, standIns := [], harness := (true, "319e5ba1673487b0cf39c46d67cf0891478f7f80b3c8837617f110480d06146f"), looks := true }, kinds := [], alts := [], laidByText := true, laidKinds := [.data, .data, .data, .sentinel, .sentinel, .mapped, .mapped, .mapped, .mapped, .data], laidTests := true, laidLooks := .later }
def RollBackUptoCardSaid : Prop := Claim7.holds Tryz.pinned (.plain (OpenSpec.upto rollBackSpec)) rollBackUptoCard

/-- THE SECOND FORM's CARD OF 'grafterykeep.Tails'. -/
def tailsUptoCard : Claim7 := { stood := { row := tailsUptoRow, standIns := [], harness := (true, "319e5ba1673487b0cf39c46d67cf0891478f7f80b3c8837617f110480d06146f"), looks := true }, kinds := [], alts := [], laidByText := true, laidKinds := [.data, .data, .data, .sentinel, .sentinel, .mapped, .mapped, .mapped, .mapped, .data], laidTests := true, laidLooks := .later }
def TailsUptoCardSaid : Prop := Claim7.holds Tryz.pinned (.plain (OpenSpec.upto tailsSpec)) tailsUptoCard

/-- THE SECOND FORM's CARD OF 'grafterykeep.Rooms'. -/
def roomsUptoCard : Claim7 := { stood := { row := roomsUptoRow, standIns := [], harness := (true, "319e5ba1673487b0cf39c46d67cf0891478f7f80b3c8837617f110480d06146f"), looks := true }, kinds := [], alts := [], laidByText := true, laidKinds := [.data, .data, .data, .sentinel, .sentinel, .mapped, .mapped, .mapped, .mapped, .data], laidTests := true, laidLooks := .later }
def RoomsUptoCardSaid : Prop := Claim7.holds Tryz.pinned (.plain (OpenSpec.upto roomsSpec)) roomsUptoCard

/-- THE SECOND FORM's CARD OF 'grafterykeep.UpgradeChain'. -/
def upgradeChainUptoCard : Claim7 := { stood := { row := upgradeChainUptoRow, standIns := [], harness := (true, "319e5ba1673487b0cf39c46d67cf0891478f7f80b3c8837617f110480d06146f"), looks := true }, kinds := [], alts := [], laidByText := true, laidKinds := [.data, .data, .data, .sentinel, .sentinel, .mapped, .mapped, .mapped, .mapped, .data], laidTests := true, laidLooks := .later }
def UpgradeChainUptoCardSaid : Prop := Claim7.holds Tryz.pinned (.plain (OpenSpec.upto upgradeChainSpec)) upgradeChainUptoCard
end Rows
end Go.Proofs.YtildnaomamnkgaaGreatDoor
