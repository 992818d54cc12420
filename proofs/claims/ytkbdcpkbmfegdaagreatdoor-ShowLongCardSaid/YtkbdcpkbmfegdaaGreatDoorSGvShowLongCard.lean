/- The card of ShowLong, its facts each by itself. -/
import Derived.Test.YtkbdcpkbmfegdaaGreatDoorSGvShowLong
set_option linter.unusedSimpArgs false
set_option linter.unusedVariables false
namespace Go.Proofs.YtkbdcpkbmfegdaaGreatDoor
open Rx Rd Gv Go Go.ChangeShapes Go.WideShapes Go.ChangeAt Go.RowKit
theorem k4a : Rows.showLongRow.wfByText (OpenSpec.ofChange Rows.showLongSpec) = true := by kernel_rfl
theorem k4b : Tryz.pinned.checked.prog.mainIs = some (true, "9c7797d50b2f6a0634ae2b4a4b992bace07119e22efe636638ebb0522919034a".toList) := by kernel_rfl
theorem k4c : true = Tryz.pinned.checked.prog.looks [] := by kernel_rfl
theorem k4d : false = Rows.showLongRow.goesBy Tryz.pinned.checked.prog := by kernel_rfl
theorem k4e : Tryz.prog.funcNamed "graftery/grafterykeep.ShowLong" = some 4 := by kernel_rfl
theorem k4f : Tryz.prog.wantsStandIn 3 = false := by kernel_rfl
theorem showLong_card : Rows.ShowLongCardSaid :=
 Claim7.holds_tied_plain_at .later [] [.data, .data, .data, .sentinel, .sentinel, .mapped, .mapped, .mapped, .mapped, .data] true (true, "9c7797d50b2f6a0634ae2b4a4b992bace07119e22efe636638ebb0522919034a") true
  CB (fun _ h => by cases h) k4a (fun _ h => by cases h) showLong_row_tie rfl ⟨rfl, rfl⟩ k4b rfl
  (fun f fn hf hfn => by
   obtain rfl : f = 4 := Option.some.inj (k4e.symm.trans hf) |>.symm
   obtain rfl : fn = Tryz.f4 := (Option.some.inj (Tryz.func4.symm.trans hfn)).symm
   exact ⟨k4c, fun j t ht => by
        rw [Tryz.params4] at ht
        have h3 : t = 3 := by
         rcases j with _ | j
         · simpa using ht.symm
         · simp at ht
        subst h3
        exact k4f⟩)
  k4d
end Go.Proofs.YtkbdcpkbmfegdaaGreatDoor
