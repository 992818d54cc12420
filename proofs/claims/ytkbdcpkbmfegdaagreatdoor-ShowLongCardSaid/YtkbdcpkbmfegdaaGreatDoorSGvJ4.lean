/- The closed facts of ShowLong, each by itself. -/
import Derived.Test.YtkbdcpkbmfegdaaGreatDoorSGvR
set_option linter.unusedSimpArgs false
set_option linter.unusedVariables false
open Go
namespace Go.Proofs.YtkbdcpkbmfegdaaGreatDoor
noncomputable abbrev c4 := Rows.showLongRow
theorem j4a : c4.wf (OpenSpec.ofChange Rows.showLongSpec) = true := by kernel_rfl
theorem j4b : laidOutB Tryz.pinned.checked.prog = true := by kernel_rfl
theorem j4c : mapsRowed Tryz.pinned.checked.prog = true := by kernel_rfl
theorem j4d : (c4.inPlace == Tryz.pinned.checked.prog.inPlace 4) = true := by kernel_rfl
theorem j4e : (c4.unfollowed == Tryz.pinned.checked.prog.unfollowed 4) = true := by kernel_rfl
theorem j4f : (c4.recurses == Tryz.pinned.checked.prog.recurses 4) = true := by kernel_rfl
theorem j4g : (c4.named == Tryz.pinned.checked.prog.varsNamed 4) = true := by kernel_rfl
theorem j4h : (c4.plainKeys == Tryz.pinned.checked.prog.plainKeys) = true := by kernel_rfl
theorem j4 : joinedFacts Tryz.pinned.checked.prog 4 Tryz.f4 Rows.showLongSpec Rows.showLongRow = true := by
 unfold joinedFacts
 simp only [Bool.and_eq_true]
 repeat' apply And.intro
 all_goals first | with_reducible exact j4a | with_reducible exact j4b | with_reducible exact j4c | with_reducible exact j4d | with_reducible exact j4e | with_reducible exact j4f | with_reducible exact j4g | with_reducible exact j4h | kernel_rfl
end Go.Proofs.YtkbdcpkbmfegdaaGreatDoor
