/- The card of EnvNow, its facts each by itself. -/
import Derived.Test.YtcmnmceodhambaaGreatDoorGvEnvNow
set_option linter.unusedSimpArgs false
set_option linter.unusedVariables false
namespace Go.Proofs.YtcmnmceodhambaaGreatDoor
open Rx Rd Gv Go Go.ChangeShapes Go.WideShapes Go.ChangeAt Go.RowKit
theorem Yf : Rows.envNowRow.wfByText (OpenSpec.ofChange Rows.envNowSpec) = true := by kernel_rfl
theorem XY : Tryz.pinned.checked.prog.mainIs = some (true, "e8c0873f51e1a5078eb6b88e55d8b2ee81f97f1230f1566e910fa4ee0a11e22d".toList) := by kernel_rfl
theorem Ya : true = Tryz.pinned.checked.prog.looks [] := by kernel_rfl
theorem Yg : false = Rows.envNowRow.goesBy Tryz.pinned.checked.prog := by kernel_rfl
theorem Yk : Tryz.prog.funcNamed "graftery/grafterykeep.EnvNow" = some 11 := by kernel_rfl
theorem XF : Tryz.prog.wantsStandIn 3 = false := by kernel_rfl
theorem envNow_card : Rows.EnvNowCardSaid :=
 Claim7.holds_tied_plain_at .later [] [.data, .data, .data, .sentinel, .sentinel, .mapped, .mapped, .mapped, .mapped, .data] true (true, "e8c0873f51e1a5078eb6b88e55d8b2ee81f97f1230f1566e910fa4ee0a11e22d") true
  Iy (fun _ h => by cases h) Yf (fun _ h => by cases h) envNow_row_tie rfl ⟨rfl, rfl⟩ XY rfl
  (fun f fn hf hfn => by
   obtain rfl : f = 11 := Option.some.inj (Yk.symm.trans hf) |>.symm
   obtain rfl : fn = Tryz.f11 := (Option.some.inj (Tryz.func11.symm.trans hfn)).symm
   exact ⟨Ya, fun j t ht => by
        rw [Tryz.params11] at ht
        have h3 : t = 3 := by
         rcases j with _ | j
         · simpa using ht.symm
         · simp at ht
        subst h3
        exact XF⟩)
  Yg
end Go.Proofs.YtcmnmceodhambaaGreatDoor
