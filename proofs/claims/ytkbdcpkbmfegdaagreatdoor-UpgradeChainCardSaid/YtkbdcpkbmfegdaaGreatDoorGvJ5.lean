/- The closed facts of UpgradeChain, each by itself. -/
import Derived.Test.YtkbdcpkbmfegdaaGreatDoorGvR
set_option linter.unusedSimpArgs false
set_option linter.unusedVariables false
open Go
namespace Go.Proofs.YtkbdcpkbmfegdaaGreatDoor
noncomputable abbrev c5 := Rows.upgradeChainRow
theorem j5a : c5.wf (OpenSpec.ofChange Rows.upgradeChainSpec) = true := by kernel_rfl
theorem j5b : laidOutB Tryz.pinned.checked.prog = true := by kernel_rfl
theorem j5c : mapsRowed Tryz.pinned.checked.prog = true := by kernel_rfl
theorem j5d : (c5.inPlace == Tryz.pinned.checked.prog.inPlace 5) = true := by kernel_rfl
theorem j5e : (c5.unfollowed == Tryz.pinned.checked.prog.unfollowed 5) = true := by kernel_rfl
theorem j5f : (c5.recurses == Tryz.pinned.checked.prog.recurses 5) = true := by kernel_rfl
theorem j5g : (c5.named == Tryz.pinned.checked.prog.varsNamed 5) = true := by kernel_rfl
theorem j5h : (c5.plainKeys == Tryz.pinned.checked.prog.plainKeys) = true := by kernel_rfl
theorem j5 : joinedFacts Tryz.pinned.checked.prog 5 Tryz.f5 Rows.upgradeChainSpec Rows.upgradeChainRow = true := by
 unfold joinedFacts
 simp only [Bool.and_eq_true]
 repeat' apply And.intro
 all_goals first | with_reducible exact j5a | with_reducible exact j5b | with_reducible exact j5c | with_reducible exact j5d | with_reducible exact j5e | with_reducible exact j5f | with_reducible exact j5g | with_reducible exact j5h | kernel_rfl
end Go.Proofs.YtkbdcpkbmfegdaaGreatDoor
