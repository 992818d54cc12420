/- The card of Mutual, its facts each by itself. -/
import Derived.Test.YtcmnmceodhambaaGreatDoorGvMutual
set_option linter.unusedSimpArgs false
set_option linter.unusedVariables false
namespace Go.Proofs.YtcmnmceodhambaaGreatDoor
open Rx Rd Gv Go Go.ChangeShapes Go.WideShapes Go.ChangeAt Go.RowKit
theorem Yj : Rows.mutualRow.wfByText (OpenSpec.ofChange Rows.mutualSpec) = true := by kernel_rfl
theorem Yw : Tryz.pinned.checked.prog.mainIs = some (true, "e8c0873f51e1a5078eb6b88e55d8b2ee81f97f1230f1566e910fa4ee0a11e22d".toList) := by kernel_rfl
theorem YV : true = Tryz.pinned.checked.prog.looks [] := by kernel_rfl
theorem Ye : false = Rows.mutualRow.goesBy Tryz.pinned.checked.prog := by kernel_rfl
theorem Yl : Tryz.prog.funcNamed "graftery/grafterykeep.Mutual" = some 14 := by kernel_rfl
theorem YA : Tryz.prog.wantsStandIn 3 = false := by kernel_rfl
theorem mutual_card : Rows.MutualCardSaid :=
 Claim7.holds_tied_plain_at .later [] [.data, .data, .data, .sentinel, .sentinel, .mapped, .mapped, .mapped, .mapped, .data] true (true, "e8c0873f51e1a5078eb6b88e55d8b2ee81f97f1230f1566e910fa4ee0a11e22d") true
  Ig (fun _ h => by cases h) Yj (fun _ h => by cases h) mutual_row_tie rfl ⟨rfl, rfl⟩ Yw rfl
  (fun f fn hf hfn => by
   obtain rfl : f = 14 := Option.some.inj (Yl.symm.trans hf) |>.symm
   obtain rfl : fn = Tryz.f14 := (Option.some.inj (Tryz.func14.symm.trans hfn)).symm
   exact ⟨YV, fun j t ht => by
        rw [Tryz.params14] at ht
        have h3 : t = 3 := by
         rcases j with _ | j
         · simpa using ht.symm
         · simp at ht
        subst h3
        exact YA⟩)
  Ye
end Go.Proofs.YtcmnmceodhambaaGreatDoor
