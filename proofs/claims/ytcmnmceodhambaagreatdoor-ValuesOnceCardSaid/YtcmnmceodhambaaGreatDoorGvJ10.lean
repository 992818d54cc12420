/- The closed facts of ValuesOnce, each by itself. -/
import Derived.Test.YtcmnmceodhambaaGreatDoorGvR
set_option linter.unusedSimpArgs false
set_option linter.unusedVariables false
open Go
namespace Go.Proofs.YtcmnmceodhambaaGreatDoor
noncomputable abbrev c10 := Rows.valuesOnceRow
theorem j10a : c10.wf (OpenSpec.ofChange Rows.valuesOnceSpec) = true := by kernel_rfl
theorem j10b : laidOutB Tryz.pinned.checked.prog = true := by kernel_rfl
theorem j10c : mapsRowed Tryz.pinned.checked.prog = true := by kernel_rfl
theorem j10d : (c10.inPlace == Tryz.pinned.checked.prog.inPlace 10) = true := by kernel_rfl
theorem j10e : (c10.unfollowed == Tryz.pinned.checked.prog.unfollowed 10) = true := by kernel_rfl
theorem j10f : (c10.recurses == Tryz.pinned.checked.prog.recurses 10) = true := by kernel_rfl
theorem j10g : (c10.named == Tryz.pinned.checked.prog.varsNamed 10) = true := by kernel_rfl
theorem j10h : (c10.plainKeys == Tryz.pinned.checked.prog.plainKeys) = true := by kernel_rfl
theorem j10 : joinedFacts Tryz.pinned.checked.prog 10 Tryz.f10 Rows.valuesOnceSpec Rows.valuesOnceRow = true := by
 unfold joinedFacts
 simp only [Bool.and_eq_true]
 repeat' apply And.intro
 all_goals first | with_reducible exact j10a | with_reducible exact j10b | with_reducible exact j10c | with_reducible exact j10d | with_reducible exact j10e | with_reducible exact j10f | with_reducible exact j10g | with_reducible exact j10h | kernel_rfl
end Go.Proofs.YtcmnmceodhambaaGreatDoor
