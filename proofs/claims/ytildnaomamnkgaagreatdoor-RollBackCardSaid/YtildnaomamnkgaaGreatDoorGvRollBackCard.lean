/- The card of RollBack, its facts each by itself. -/
import Derived.Test.YtildnaomamnkgaaGreatDoorGvRollBack
set_option linter.unusedSimpArgs false
set_option linter.unusedVariables false
namespace Go.Proofs.YtildnaomamnkgaaGreatDoor
open Rx Rd Gv Go Go.ChangeShapes Go.WideShapes Go.ChangeAt Go.RowKit
theorem k4a : Rows.rollBackRow.wfByText (OpenSpec.ofChange Rows.rollBackSpec) = true := by kernel_rfl
theorem k4b : Tryz.pinned.checked.prog.mainIs = some (true, "319e5ba1673487b0cf39c46d67cf0891478f7f80b3c8837617f110480d06146f".toList) := by kernel_rfl
theorem k4c : true = Tryz.pinned.checked.prog.looks [] := by kernel_rfl
theorem k4d : false = Rows.rollBackRow.goesBy Tryz.pinned.checked.prog := by kernel_rfl
theorem k4e : Tryz.prog.funcNamed "graftery/grafterykeep.RollBack" = some 4 := by kernel_rfl
theorem k4f : Tryz.prog.wantsStandIn 3 = false := by kernel_rfl
theorem rollBack_card : Rows.RollBackCardSaid :=
 Claim7.holds_tied_plain_at .later [] [.data, .data, .data, .sentinel, .sentinel, .mapped, .mapped, .mapped, .mapped, .data] true (true, "319e5ba1673487b0cf39c46d67cf0891478f7f80b3c8837617f110480d06146f") true
  Cm (fun _ h => by cases h) k4a (fun _ h => by cases h) rollBack_row_tie rfl ⟨rfl, rfl⟩ k4b rfl
  (fun f fn hf hfn => by
   obtain rfl : f = 4 := Option.some.inj (k4e.symm.trans hf) |>.symm
   obtain rfl : fn = Tryz.f4 := (Option.some.inj (Tryz.func4.symm.trans hfn)).symm
   exact ⟨k4c, fun j t ht => by
        rw [Tryz.params4] at ht
        have h3 : t = 3 := by
         rcases j with _ | _ | j
         · simpa using ht.symm
         · simpa using ht.symm
         · simp at ht
        subst h3
        exact k4f⟩)
  k4d
end Go.Proofs.YtildnaomamnkgaaGreatDoor
