/- The card of UpgradeSame, its facts each by itself. -/
import Derived.Test.YtcmnmceodhambaaGreatDoorGvUpgradeSame
set_option linter.unusedSimpArgs false
set_option linter.unusedVariables false
namespace Go.Proofs.YtcmnmceodhambaaGreatDoor
open Rx Rd Gv Go Go.ChangeShapes Go.WideShapes Go.ChangeAt Go.RowKit
theorem k8a : Rows.upgradeSameRow.wfByText (OpenSpec.ofChange Rows.upgradeSameSpec) = true := by kernel_rfl
theorem k8b : Tryz.pinned.checked.prog.mainIs = some (true, "e8c0873f51e1a5078eb6b88e55d8b2ee81f97f1230f1566e910fa4ee0a11e22d".toList) := by kernel_rfl
theorem k8c : true = Tryz.pinned.checked.prog.looks [] := by kernel_rfl
theorem k8d : false = Rows.upgradeSameRow.goesBy Tryz.pinned.checked.prog := by kernel_rfl
theorem k8e : Tryz.prog.funcNamed "graftery/grafterykeep.UpgradeSame" = some 8 := by kernel_rfl
theorem k8f : Tryz.prog.wantsStandIn 3 = false := by kernel_rfl
theorem upgradeSame_card : Rows.UpgradeSameCardSaid :=
 Claim7.holds_tied_plain_at .later [] [.data, .data, .data, .sentinel, .sentinel, .mapped, .mapped, .mapped, .mapped, .data] true (true, "e8c0873f51e1a5078eb6b88e55d8b2ee81f97f1230f1566e910fa4ee0a11e22d") true
  upgradeSame_over (fun _ h => by cases h) k8a (fun _ h => by cases h) upgradeSame_row_tie rfl ⟨rfl, rfl⟩ k8b rfl
  (fun f fn hf hfn => by
   obtain rfl : f = 8 := Option.some.inj (k8e.symm.trans hf) |>.symm
   obtain rfl : fn = Tryz.f8 := (Option.some.inj (Tryz.func8.symm.trans hfn)).symm
   exact ⟨k8c, fun j t ht => by
        rw [Tryz.params8] at ht
        have h3 : t = 3 := by
         rcases j with _ | j
         · simpa using ht.symm
         · simp at ht
        subst h3
        exact k8f⟩)
  k8d
end Go.Proofs.YtcmnmceodhambaaGreatDoor
