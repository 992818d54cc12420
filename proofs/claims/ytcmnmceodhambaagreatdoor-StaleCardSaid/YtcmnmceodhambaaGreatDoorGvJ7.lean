/- The closed facts of Stale, each by itself. -/
import Derived.Test.YtcmnmceodhambaaGreatDoorGvR
set_option linter.unusedSimpArgs false
set_option linter.unusedVariables false
open Go
namespace Go.Proofs.YtcmnmceodhambaaGreatDoor
noncomputable abbrev c7 := Rows.staleRow
theorem j7a : c7.wf (OpenSpec.ofChange Rows.staleSpec) = true := by kernel_rfl
theorem j7b : laidOutB Tryz.pinned.checked.prog = true := by kernel_rfl
theorem j7c : mapsRowed Tryz.pinned.checked.prog = true := by kernel_rfl
theorem j7d : (c7.inPlace == Tryz.pinned.checked.prog.inPlace 7) = true := by kernel_rfl
theorem j7e : (c7.unfollowed == Tryz.pinned.checked.prog.unfollowed 7) = true := by kernel_rfl
theorem j7f : (c7.recurses == Tryz.pinned.checked.prog.recurses 7) = true := by kernel_rfl
theorem j7g : (c7.named == Tryz.pinned.checked.prog.varsNamed 7) = true := by kernel_rfl
theorem j7h : (c7.plainKeys == Tryz.pinned.checked.prog.plainKeys) = true := by kernel_rfl
theorem j7 : joinedFacts Tryz.pinned.checked.prog 7 Tryz.f7 Rows.staleSpec Rows.staleRow = true := by
 unfold joinedFacts
 simp only [Bool.and_eq_true]
 repeat' apply And.intro
 all_goals first | with_reducible exact j7a | with_reducible exact j7b | with_reducible exact j7c | with_reducible exact j7d | with_reducible exact j7e | with_reducible exact j7f | with_reducible exact j7g | with_reducible exact j7h | kernel_rfl
end Go.Proofs.YtcmnmceodhambaaGreatDoor
