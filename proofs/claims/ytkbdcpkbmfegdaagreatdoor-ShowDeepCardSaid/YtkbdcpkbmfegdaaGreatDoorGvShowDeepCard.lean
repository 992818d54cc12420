/- The card of ShowDeep, its facts each by itself. -/
import Derived.Test.YtkbdcpkbmfegdaaGreatDoorGvShowDeep
set_option linter.unusedSimpArgs false
set_option linter.unusedVariables false
namespace Go.Proofs.YtkbdcpkbmfegdaaGreatDoor
open Rx Rd Gv Go Go.ChangeShapes Go.WideShapes Go.ChangeAt Go.RowKit
theorem k3a : Rows.showDeepRow.wfByText (OpenSpec.ofChange Rows.showDeepSpec) = true := by kernel_rfl
theorem k3b : Tryz.pinned.checked.prog.mainIs = some (true, "9c7797d50b2f6a0634ae2b4a4b992bace07119e22efe636638ebb0522919034a".toList) := by kernel_rfl
theorem k3c : true = Tryz.pinned.checked.prog.looks [] := by kernel_rfl
theorem k3d : false = Rows.showDeepRow.goesBy Tryz.pinned.checked.prog := by kernel_rfl
theorem k3e : Tryz.prog.funcNamed "graftery/grafterykeep.ShowDeep" = some 3 := by kernel_rfl
theorem k3f : Tryz.prog.wantsStandIn 3 = false := by kernel_rfl
theorem showDeep_card : Rows.ShowDeepCardSaid :=
 Claim7.holds_tied_plain_at .later [] [.data, .data, .data, .sentinel, .sentinel, .mapped, .mapped, .mapped, .mapped, .data] true (true, "9c7797d50b2f6a0634ae2b4a4b992bace07119e22efe636638ebb0522919034a") true
  Fw (fun _ h => by cases h) k3a (fun _ h => by cases h) showDeep_row_tie rfl ⟨rfl, rfl⟩ k3b rfl
  (fun f fn hf hfn => by
   obtain rfl : f = 3 := Option.some.inj (k3e.symm.trans hf) |>.symm
   obtain rfl : fn = Tryz.f3 := (Option.some.inj (Tryz.func3.symm.trans hfn)).symm
   exact ⟨k3c, fun j t ht => by
        rw [Tryz.params3] at ht
        have h3 : t = 3 := by
         rcases j with _ | j
         · simpa using ht.symm
         · simp at ht
        subst h3
        exact k3f⟩)
  k3d
end Go.Proofs.YtkbdcpkbmfegdaaGreatDoor
