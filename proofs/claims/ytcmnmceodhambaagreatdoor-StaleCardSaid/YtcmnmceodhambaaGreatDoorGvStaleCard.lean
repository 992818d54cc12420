/- The card of Stale, its facts each by itself. -/
import Derived.Test.YtcmnmceodhambaaGreatDoorGvStale
set_option linter.unusedSimpArgs false
set_option linter.unusedVariables false
namespace Go.Proofs.YtcmnmceodhambaaGreatDoor
open Rx Rd Gv Go Go.ChangeShapes Go.WideShapes Go.ChangeAt Go.RowKit
theorem k7a : Rows.staleRow.wfByText (OpenSpec.ofChange Rows.staleSpec) = true := by kernel_rfl
theorem k7b : Tryz.pinned.checked.prog.mainIs = some (true, "e8c0873f51e1a5078eb6b88e55d8b2ee81f97f1230f1566e910fa4ee0a11e22d".toList) := by kernel_rfl
theorem k7c : true = Tryz.pinned.checked.prog.looks [] := by kernel_rfl
theorem k7d : false = Rows.staleRow.goesBy Tryz.pinned.checked.prog := by kernel_rfl
theorem k7e : Tryz.prog.funcNamed "graftery/grafterykeep.Stale" = some 7 := by kernel_rfl
theorem k7f : Tryz.prog.wantsStandIn 3 = false := by kernel_rfl
theorem stale_card : Rows.StaleCardSaid :=
 Claim7.holds_tied_plain_at .later [] [.data, .data, .data, .sentinel, .sentinel, .mapped, .mapped, .mapped, .mapped, .data] true (true, "e8c0873f51e1a5078eb6b88e55d8b2ee81f97f1230f1566e910fa4ee0a11e22d") true
  Jv (fun _ h => by cases h) k7a (fun _ h => by cases h) stale_row_tie rfl ⟨rfl, rfl⟩ k7b rfl
  (fun f fn hf hfn => by
   obtain rfl : f = 7 := Option.some.inj (k7e.symm.trans hf) |>.symm
   obtain rfl : fn = Tryz.f7 := (Option.some.inj (Tryz.func7.symm.trans hfn)).symm
   exact ⟨k7c, fun j t ht => by
        rw [Tryz.params7] at ht
        have h3 : t = 3 := by
         rcases j with _ | _ | j
         · simpa using ht.symm
         · simpa using ht.symm
         · simp at ht
        subst h3
        exact k7f⟩)
  k7d
end Go.Proofs.YtcmnmceodhambaaGreatDoor
