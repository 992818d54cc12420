/- The closed facts of UpgradeCycle, each by itself. -/
import Derived.Test.YtcmnmceodhambaaGreatDoorGvR
set_option linter.unusedSimpArgs false
set_option linter.unusedVariables false
open Go
namespace Go.Proofs.YtcmnmceodhambaaGreatDoor
noncomputable abbrev c9 := Rows.upgradeCycleRow
theorem j9a : c9.wf (OpenSpec.ofChange Rows.upgradeCycleSpec) = true := by kernel_rfl
theorem j9b : laidOutB Tryz.pinned.checked.prog = true := by kernel_rfl
theorem j9c : mapsRowed Tryz.pinned.checked.prog = true := by kernel_rfl
theorem j9d : (c9.inPlace == Tryz.pinned.checked.prog.inPlace 9) = true := by kernel_rfl
theorem j9e : (c9.unfollowed == Tryz.pinned.checked.prog.unfollowed 9) = true := by kernel_rfl
theorem j9f : (c9.recurses == Tryz.pinned.checked.prog.recurses 9) = true := by kernel_rfl
theorem j9g : (c9.named == Tryz.pinned.checked.prog.varsNamed 9) = true := by kernel_rfl
theorem j9h : (c9.plainKeys == Tryz.pinned.checked.prog.plainKeys) = true := by kernel_rfl
theorem j9 : joinedFacts Tryz.pinned.checked.prog 9 Tryz.f9 Rows.upgradeCycleSpec Rows.upgradeCycleRow = true := by
 unfold joinedFacts
 simp only [Bool.and_eq_true]
 repeat' apply And.intro
 all_goals first | with_reducible exact j9a | with_reducible exact j9b | with_reducible exact j9c | with_reducible exact j9d | with_reducible exact j9e | with_reducible exact j9f | with_reducible exact j9g | with_reducible exact j9h | kernel_rfl
end Go.Proofs.YtcmnmceodhambaaGreatDoor
