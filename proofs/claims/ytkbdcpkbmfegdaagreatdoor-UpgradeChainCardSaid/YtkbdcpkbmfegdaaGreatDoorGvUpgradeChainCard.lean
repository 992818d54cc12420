/- The card of UpgradeChain, its facts each by itself. -/
import Derived.Test.YtkbdcpkbmfegdaaGreatDoorGvUpgradeChain
set_option linter.unusedSimpArgs false
set_option linter.unusedVariables false
namespace Go.Proofs.YtkbdcpkbmfegdaaGreatDoor
open Rx Rd Gv Go Go.ChangeShapes Go.WideShapes Go.ChangeAt Go.RowKit
theorem k5a : Rows.upgradeChainRow.wfByText (OpenSpec.ofChange Rows.upgradeChainSpec) = true := by kernel_rfl
theorem k5b : Tryz.pinned.checked.prog.mainIs = some (true, "9c7797d50b2f6a0634ae2b4a4b992bace07119e22efe636638ebb0522919034a".toList) := by kernel_rfl
theorem k5c : true = Tryz.pinned.checked.prog.looks [] := by kernel_rfl
theorem k5d : false = Rows.upgradeChainRow.goesBy Tryz.pinned.checked.prog := by kernel_rfl
theorem k5e : Tryz.prog.funcNamed "graftery/grafterykeep.UpgradeChain" = some 5 := by kernel_rfl
theorem k5f : Tryz.prog.wantsStandIn 3 = false := by kernel_rfl
theorem k5g : Tryz.prog.wantsStandIn 39 = false := by kernel_rfl
theorem upgradeChain_card : Rows.UpgradeChainCardSaid :=
 Claim7.holds_tied_plain_at .later [] [.data, .data, .data, .sentinel, .sentinel, .mapped, .mapped, .mapped, .mapped, .data] true (true, "9c7797d50b2f6a0634ae2b4a4b992bace07119e22efe636638ebb0522919034a") true
  xu (fun _ h => by cases h) k5a (fun _ h => by cases h) upgradeChain_row_tie rfl ⟨rfl, rfl⟩ k5b rfl
  (fun f fn hf hfn => by
   obtain rfl : f = 5 := Option.some.inj (k5e.symm.trans hf) |>.symm
   obtain rfl : fn = Tryz.f5 := (Option.some.inj (Tryz.func5.symm.trans hfn)).symm
   exact ⟨k5c, fun j t ht => by
        rw [Tryz.params5] at ht
        have h3 : t = 3 ∨ t = 39 := by
         rcases j with _ | _ | j
         · left; simpa using ht.symm
         · right; simpa using ht.symm
         · simp at ht
        rcases h3 with rfl | rfl
        · exact k5f
        · exact k5g⟩)
  k5d
end Go.Proofs.YtkbdcpkbmfegdaaGreatDoor
