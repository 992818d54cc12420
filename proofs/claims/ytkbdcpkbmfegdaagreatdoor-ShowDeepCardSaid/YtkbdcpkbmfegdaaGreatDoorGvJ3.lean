/- The closed facts of ShowDeep, each by itself. -/
import Derived.Test.YtkbdcpkbmfegdaaGreatDoorGvR
set_option linter.unusedSimpArgs false
set_option linter.unusedVariables false
open Go
namespace Go.Proofs.YtkbdcpkbmfegdaaGreatDoor
noncomputable abbrev c3 := Rows.showDeepRow
theorem j3a : c3.wf (OpenSpec.ofChange Rows.showDeepSpec) = true := by kernel_rfl
theorem j3b : laidOutB Tryz.pinned.checked.prog = true := by kernel_rfl
theorem j3c : mapsRowed Tryz.pinned.checked.prog = true := by kernel_rfl
theorem j3d : (c3.inPlace == Tryz.pinned.checked.prog.inPlace 3) = true := by kernel_rfl
theorem j3e : (c3.unfollowed == Tryz.pinned.checked.prog.unfollowed 3) = true := by kernel_rfl
theorem j3f : (c3.recurses == Tryz.pinned.checked.prog.recurses 3) = true := by kernel_rfl
theorem j3g : (c3.named == Tryz.pinned.checked.prog.varsNamed 3) = true := by kernel_rfl
theorem j3h : (c3.plainKeys == Tryz.pinned.checked.prog.plainKeys) = true := by kernel_rfl
theorem j3 : joinedFacts Tryz.pinned.checked.prog 3 Tryz.f3 Rows.showDeepSpec Rows.showDeepRow = true := by
 unfold joinedFacts
 simp only [Bool.and_eq_true]
 repeat' apply And.intro
 all_goals first | with_reducible exact j3a | with_reducible exact j3b | with_reducible exact j3c | with_reducible exact j3d | with_reducible exact j3e | with_reducible exact j3f | with_reducible exact j3g | with_reducible exact j3h | kernel_rfl
end Go.Proofs.YtkbdcpkbmfegdaaGreatDoor
