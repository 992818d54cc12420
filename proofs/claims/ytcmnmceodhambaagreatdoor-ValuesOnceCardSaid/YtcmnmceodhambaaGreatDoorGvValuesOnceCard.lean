/- The card of ValuesOnce, its facts each by itself. -/
import Derived.Test.YtcmnmceodhambaaGreatDoorGvValuesOnce
set_option linter.unusedSimpArgs false
set_option linter.unusedVariables false
namespace Go.Proofs.YtcmnmceodhambaaGreatDoor
open Rx Rd Gv Go Go.ChangeShapes Go.WideShapes Go.ChangeAt Go.RowKit
theorem k10a : Rows.valuesOnceRow.wfByText (OpenSpec.ofChange Rows.valuesOnceSpec) = true := by kernel_rfl
theorem k10b : Tryz.pinned.checked.prog.mainIs = some (true, "e8c0873f51e1a5078eb6b88e55d8b2ee81f97f1230f1566e910fa4ee0a11e22d".toList) := by kernel_rfl
theorem k10c : true = Tryz.pinned.checked.prog.looks [] := by kernel_rfl
theorem k10d : false = Rows.valuesOnceRow.goesBy Tryz.pinned.checked.prog := by kernel_rfl
theorem k10e : Tryz.prog.funcNamed "graftery/grafterykeep.ValuesOnce" = some 10 := by kernel_rfl
theorem k10f : Tryz.prog.wantsStandIn 3 = false := by kernel_rfl
theorem valuesOnce_card : Rows.ValuesOnceCardSaid :=
 Claim7.holds_tied_plain_at .later [] [.data, .data, .data, .sentinel, .sentinel, .mapped, .mapped, .mapped, .mapped, .data] true (true, "e8c0873f51e1a5078eb6b88e55d8b2ee81f97f1230f1566e910fa4ee0a11e22d") true
  valuesOnce_over (fun _ h => by cases h) k10a (fun _ h => by cases h) valuesOnce_row_tie rfl ⟨rfl, rfl⟩ k10b rfl
  (fun f fn hf hfn => by
   obtain rfl : f = 10 := Option.some.inj (k10e.symm.trans hf) |>.symm
   obtain rfl : fn = Tryz.f10 := (Option.some.inj (Tryz.func10.symm.trans hfn)).symm
   exact ⟨k10c, fun j t ht => by
        rw [Tryz.params10] at ht
        have h3 : t = 3 := by
         rcases j with _ | j
         · simpa using ht.symm
         · simp at ht
        subst h3
        exact k10f⟩)
  k10d
end Go.Proofs.YtcmnmceodhambaaGreatDoor
