/- The card of MoveTells, its facts each by itself. -/
import Derived.Test.YtcmnmceodhambaaGreatDoorGvMoveTells
set_option linter.unusedSimpArgs false
set_option linter.unusedVariables false
namespace Go.Proofs.YtcmnmceodhambaaGreatDoor
open Rx Rd Gv Go Go.ChangeShapes Go.WideShapes Go.ChangeAt Go.RowKit
theorem k5a : Rows.moveTellsRow.wfByText (OpenSpec.ofChange Rows.moveTellsSpec) = true := by kernel_rfl
theorem k5b : Tryz.pinned.checked.prog.mainIs = some (true, "e8c0873f51e1a5078eb6b88e55d8b2ee81f97f1230f1566e910fa4ee0a11e22d".toList) := by kernel_rfl
theorem k5c : true = Tryz.pinned.checked.prog.looks [] := by kernel_rfl
theorem k5d : false = Rows.moveTellsRow.goesBy Tryz.pinned.checked.prog := by kernel_rfl
theorem k5e : Tryz.prog.funcNamed "graftery/grafterykeep.MoveTells" = some 5 := by kernel_rfl
theorem k5f : Tryz.prog.wantsStandIn 3 = false := by kernel_rfl
theorem moveTells_card : Rows.MoveTellsCardSaid :=
 Claim7.holds_tied_plain_at .later [] [.data, .data, .data, .sentinel, .sentinel, .mapped, .mapped, .mapped, .mapped, .data] true (true, "e8c0873f51e1a5078eb6b88e55d8b2ee81f97f1230f1566e910fa4ee0a11e22d") true
  Ac (fun _ h => by cases h) k5a (fun _ h => by cases h) moveTells_row_tie rfl ⟨rfl, rfl⟩ k5b rfl
  (fun f fn hf hfn => by
   obtain rfl : f = 5 := Option.some.inj (k5e.symm.trans hf) |>.symm
   obtain rfl : fn = Tryz.f5 := (Option.some.inj (Tryz.func5.symm.trans hfn)).symm
   exact ⟨k5c, fun j t ht => by
        rw [Tryz.params5] at ht
        have h3 : t = 3 := by
         rcases j with _ | _ | j
         · simpa using ht.symm
         · simpa using ht.symm
         · simp at ht
        subst h3
        exact k5f⟩)
  k5d
end Go.Proofs.YtcmnmceodhambaaGreatDoor
