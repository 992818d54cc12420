/- The closed facts of UpgradeSame, each by itself. -/
import Derived.Test.YtcmnmceodhambaaGreatDoorGvR
set_option linter.unusedSimpArgs false
set_option linter.unusedVariables false
open Go
namespace Go.Proofs.YtcmnmceodhambaaGreatDoor
noncomputable abbrev c8 := Rows.upgradeSameRow
theorem j8a : c8.wf (OpenSpec.ofChange Rows.upgradeSameSpec) = true := by kernel_rfl
theorem j8b : laidOutB Tryz.pinned.checked.prog = true := by kernel_rfl
theorem j8c : mapsRowed Tryz.pinned.checked.prog = true := by kernel_rfl
theorem j8d : (c8.inPlace == Tryz.pinned.checked.prog.inPlace 8) = true := by kernel_rfl
theorem j8e : (c8.unfollowed == Tryz.pinned.checked.prog.unfollowed 8) = true := by kernel_rfl
theorem j8f : (c8.recurses == Tryz.pinned.checked.prog.recurses 8) = true := by kernel_rfl
theorem j8g : (c8.named == Tryz.pinned.checked.prog.varsNamed 8) = true := by kernel_rfl
theorem j8h : (c8.plainKeys == Tryz.pinned.checked.prog.plainKeys) = true := by kernel_rfl
theorem j8 : joinedFacts Tryz.pinned.checked.prog 8 Tryz.f8 Rows.upgradeSameSpec Rows.upgradeSameRow = true := by
 unfold joinedFacts
 simp only [Bool.and_eq_true]
 repeat' apply And.intro
 all_goals first | with_reducible exact j8a | with_reducible exact j8b | with_reducible exact j8c | with_reducible exact j8d | with_reducible exact j8e | with_reducible exact j8f | with_reducible exact j8g | with_reducible exact j8h | kernel_rfl
end Go.Proofs.YtcmnmceodhambaaGreatDoor
