/- The closed facts of GraftRefused, each by itself. -/
import Derived.Test.YtcmnmceodhambaaGreatDoorGvR
set_option linter.unusedSimpArgs false
set_option linter.unusedVariables false
open Go
namespace Go.Proofs.YtcmnmceodhambaaGreatDoor
noncomputable abbrev c6 := Rows.graftRefusedRow
theorem j6a : c6.wf (OpenSpec.ofChange Rows.graftRefusedSpec) = true := by kernel_rfl
theorem j6b : laidOutB Tryz.pinned.checked.prog = true := by kernel_rfl
theorem j6c : mapsRowed Tryz.pinned.checked.prog = true := by kernel_rfl
theorem j6d : (c6.inPlace == Tryz.pinned.checked.prog.inPlace 6) = true := by kernel_rfl
theorem j6e : (c6.unfollowed == Tryz.pinned.checked.prog.unfollowed 6) = true := by kernel_rfl
theorem j6f : (c6.recurses == Tryz.pinned.checked.prog.recurses 6) = true := by kernel_rfl
theorem j6g : (c6.named == Tryz.pinned.checked.prog.varsNamed 6) = true := by kernel_rfl
theorem j6h : (c6.plainKeys == Tryz.pinned.checked.prog.plainKeys) = true := by kernel_rfl
theorem j6 : joinedFacts Tryz.pinned.checked.prog 6 Tryz.f6 Rows.graftRefusedSpec Rows.graftRefusedRow = true := by
 unfold joinedFacts
 simp only [Bool.and_eq_true]
 repeat' apply And.intro
 all_goals first | with_reducible exact j6a | with_reducible exact j6b | with_reducible exact j6c | with_reducible exact j6d | with_reducible exact j6e | with_reducible exact j6f | with_reducible exact j6g | with_reducible exact j6h | kernel_rfl
end Go.Proofs.YtcmnmceodhambaaGreatDoor
