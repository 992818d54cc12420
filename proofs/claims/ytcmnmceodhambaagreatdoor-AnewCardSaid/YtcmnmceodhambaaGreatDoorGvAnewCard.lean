/- The card of Anew, its facts each by itself. -/
import Derived.Test.YtcmnmceodhambaaGreatDoorGvAnew
set_option linter.unusedSimpArgs false
set_option linter.unusedVariables false
namespace Go.Proofs.YtcmnmceodhambaaGreatDoor
open Rx Rd Gv Go Go.ChangeShapes Go.WideShapes Go.ChangeAt Go.RowKit
theorem k3a : Rows.anewRow.wfByText (OpenSpec.ofChange Rows.anewSpec) = true := by kernel_rfl
theorem k3b : Tryz.pinned.checked.prog.mainIs = some (true, "e8c0873f51e1a5078eb6b88e55d8b2ee81f97f1230f1566e910fa4ee0a11e22d".toList) := by kernel_rfl
theorem k3c : true = Tryz.pinned.checked.prog.looks [] := by kernel_rfl
theorem k3d : false = Rows.anewRow.goesBy Tryz.pinned.checked.prog := by kernel_rfl
theorem k3e : Tryz.prog.funcNamed "graftery/grafterykeep.Anew" = some 3 := by kernel_rfl
theorem k3f : Tryz.prog.wantsStandIn 3 = false := by kernel_rfl
theorem anew_card : Rows.AnewCardSaid :=
 Claim7.holds_tied_plain_at .later [] [.data, .data, .data, .sentinel, .sentinel, .mapped, .mapped, .mapped, .mapped, .data] true (true, "e8c0873f51e1a5078eb6b88e55d8b2ee81f97f1230f1566e910fa4ee0a11e22d") true
  anew_over (fun _ h => by cases h) k3a (fun _ h => by cases h) anew_row_tie rfl ⟨rfl, rfl⟩ k3b rfl
  (fun f fn hf hfn => by
   obtain rfl : f = 3 := Option.some.inj (k3e.symm.trans hf) |>.symm
   obtain rfl : fn = Tryz.f3 := (Option.some.inj (Tryz.func3.symm.trans hfn)).symm
   exact ⟨k3c, fun j t ht => by
        rw [Tryz.params3] at ht
        have h3 : t = 3 := by
         rcases j with _ | _ | j
         · simpa using ht.symm
         · simpa using ht.symm
         · simp at ht
        subst h3
        exact k3f⟩)
  k3d
end Go.Proofs.YtcmnmceodhambaaGreatDoor
