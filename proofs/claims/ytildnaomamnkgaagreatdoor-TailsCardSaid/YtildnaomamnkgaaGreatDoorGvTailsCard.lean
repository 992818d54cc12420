/- The card of Tails, its facts each by itself. -/
import Derived.Test.YtildnaomamnkgaaGreatDoorGvTails
set_option linter.unusedSimpArgs false
set_option linter.unusedVariables false
namespace Go.Proofs.YtildnaomamnkgaaGreatDoor
open Rx Rd Gv Go Go.ChangeShapes Go.WideShapes Go.ChangeAt Go.RowKit
theorem k5a : Rows.tailsRow.wfByText (OpenSpec.ofChange Rows.tailsSpec) = true := by kernel_rfl
theorem k5b : Tryz.pinned.checked.prog.mainIs = some (true, "319e5ba1673487b0cf39c46d67cf0891478f7f80b3c8837617f110480d06146f".toList) := by kernel_rfl
theorem k5c : true = Tryz.pinned.checked.prog.looks [] := by kernel_rfl
theorem k5d : false = Rows.tailsRow.goesBy Tryz.pinned.checked.prog := by kernel_rfl
theorem k5e : Tryz.prog.funcNamed "graftery/grafterykeep.Tails" = some 5 := by kernel_rfl
theorem k5f : Tryz.prog.wantsStandIn 3 = false := by kernel_rfl
theorem tails_card : Rows.TailsCardSaid :=
 Claim7.holds_tied_plain_at .later [] [.data, .data, .data, .sentinel, .sentinel, .mapped, .mapped, .mapped, .mapped, .data] true (true, "319e5ba1673487b0cf39c46d67cf0891478f7f80b3c8837617f110480d06146f") true
  Kh (fun _ h => by cases h) k5a (fun _ h => by cases h) tails_row_tie rfl ⟨rfl, rfl⟩ k5b rfl
  (fun f fn hf hfn => by
   obtain rfl : f = 5 := Option.some.inj (k5e.symm.trans hf) |>.symm
   obtain rfl : fn = Tryz.f5 := (Option.some.inj (Tryz.func5.symm.trans hfn)).symm
   exact ⟨k5c, fun j t ht => by
        rw [Tryz.params5] at ht
        have h3 : t = 3 := by
         rcases j with _ | j
         · simpa using ht.symm
         · simp at ht
        subst h3
        exact k5f⟩)
  k5d
end Go.Proofs.YtildnaomamnkgaaGreatDoor
