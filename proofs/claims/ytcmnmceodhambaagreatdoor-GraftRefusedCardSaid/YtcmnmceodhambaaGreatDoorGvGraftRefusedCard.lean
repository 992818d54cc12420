/- The card of GraftRefused, its facts each by itself. -/
import Derived.Test.YtcmnmceodhambaaGreatDoorGvGraftRefused
set_option linter.unusedSimpArgs false
set_option linter.unusedVariables false
namespace Go.Proofs.YtcmnmceodhambaaGreatDoor
open Rx Rd Gv Go Go.ChangeShapes Go.WideShapes Go.ChangeAt Go.RowKit
theorem k6a : Rows.graftRefusedRow.wfByText (OpenSpec.ofChange Rows.graftRefusedSpec) = true := by kernel_rfl
theorem k6b : Tryz.pinned.checked.prog.mainIs = some (true, "e8c0873f51e1a5078eb6b88e55d8b2ee81f97f1230f1566e910fa4ee0a11e22d".toList) := by kernel_rfl
theorem k6c : true = Tryz.pinned.checked.prog.looks [] := by kernel_rfl
theorem k6d : false = Rows.graftRefusedRow.goesBy Tryz.pinned.checked.prog := by kernel_rfl
theorem k6e : Tryz.prog.funcNamed "graftery/grafterykeep.GraftRefused" = some 6 := by kernel_rfl
theorem k6f : Tryz.prog.wantsStandIn 3 = false := by kernel_rfl
theorem graftRefused_card : Rows.GraftRefusedCardSaid :=
 Claim7.holds_tied_plain_at .later [] [.data, .data, .data, .sentinel, .sentinel, .mapped, .mapped, .mapped, .mapped, .data] true (true, "e8c0873f51e1a5078eb6b88e55d8b2ee81f97f1230f1566e910fa4ee0a11e22d") true
  vw (fun _ h => by cases h) k6a (fun _ h => by cases h) graftRefused_row_tie rfl ⟨rfl, rfl⟩ k6b rfl
  (fun f fn hf hfn => by
   obtain rfl : f = 6 := Option.some.inj (k6e.symm.trans hf) |>.symm
   obtain rfl : fn = Tryz.f6 := (Option.some.inj (Tryz.func6.symm.trans hfn)).symm
   exact ⟨k6c, fun j t ht => by
        rw [Tryz.params6] at ht
        have h3 : t = 3 := by
         rcases j with _ | j
         · simpa using ht.symm
         · simp at ht
        subst h3
        exact k6f⟩)
  k6d
end Go.Proofs.YtcmnmceodhambaaGreatDoor
