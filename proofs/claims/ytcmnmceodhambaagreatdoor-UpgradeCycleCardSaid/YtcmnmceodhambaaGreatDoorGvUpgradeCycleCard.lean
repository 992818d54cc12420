/- The card of UpgradeCycle, its facts each by itself. -/
import Derived.Test.YtcmnmceodhambaaGreatDoorGvUpgradeCycle
set_option linter.unusedSimpArgs false
set_option linter.unusedVariables false
namespace Go.Proofs.YtcmnmceodhambaaGreatDoor
open Rx Rd Gv Go Go.ChangeShapes Go.WideShapes Go.ChangeAt Go.RowKit
theorem k9a : Rows.upgradeCycleRow.wfByText (OpenSpec.ofChange Rows.upgradeCycleSpec) = true := by kernel_rfl
theorem k9b : Tryz.pinned.checked.prog.mainIs = some (true, "e8c0873f51e1a5078eb6b88e55d8b2ee81f97f1230f1566e910fa4ee0a11e22d".toList) := by kernel_rfl
theorem k9c : true = Tryz.pinned.checked.prog.looks [] := by kernel_rfl
theorem k9d : false = Rows.upgradeCycleRow.goesBy Tryz.pinned.checked.prog := by kernel_rfl
theorem k9e : Tryz.prog.funcNamed "graftery/grafterykeep.UpgradeCycle" = some 9 := by kernel_rfl
theorem k9f : Tryz.prog.wantsStandIn 3 = false := by kernel_rfl
theorem upgradeCycle_card : Rows.UpgradeCycleCardSaid :=
 Claim7.holds_tied_plain_at .later [] [.data, .data, .data, .sentinel, .sentinel, .mapped, .mapped, .mapped, .mapped, .data] true (true, "e8c0873f51e1a5078eb6b88e55d8b2ee81f97f1230f1566e910fa4ee0a11e22d") true
  sW (fun _ h => by cases h) k9a (fun _ h => by cases h) upgradeCycle_row_tie rfl ⟨rfl, rfl⟩ k9b rfl
  (fun f fn hf hfn => by
   obtain rfl : f = 9 := Option.some.inj (k9e.symm.trans hf) |>.symm
   obtain rfl : fn = Tryz.f9 := (Option.some.inj (Tryz.func9.symm.trans hfn)).symm
   exact ⟨k9c, fun j t ht => by
        rw [Tryz.params9] at ht
        have h3 : t = 3 := by
         rcases j with _ | j
         · simpa using ht.symm
         · simp at ht
        subst h3
        exact k9f⟩)
  k9d
end Go.Proofs.YtcmnmceodhambaaGreatDoor
