/- The closed facts of EnvNow, each by itself. -/
import Derived.Test.YtcmnmceodhambaaGreatDoorGvR
set_option linter.unusedSimpArgs false
set_option linter.unusedVariables false
open Go
namespace Go.Proofs.YtcmnmceodhambaaGreatDoor
noncomputable abbrev c11 := Rows.envNowRow
theorem Yc : c11.wf (OpenSpec.ofChange Rows.envNowSpec) = true := by kernel_rfl
theorem XR : laidOutB Tryz.pinned.checked.prog = true := by kernel_rfl
theorem XA : mapsRowed Tryz.pinned.checked.prog = true := by kernel_rfl
theorem XK : (c11.inPlace == Tryz.pinned.checked.prog.inPlace 11) = true := by kernel_rfl
theorem X9 : (c11.unfollowed == Tryz.pinned.checked.prog.unfollowed 11) = true := by kernel_rfl
theorem Yd : (c11.recurses == Tryz.pinned.checked.prog.recurses 11) = true := by kernel_rfl
theorem Yb : (c11.named == Tryz.pinned.checked.prog.varsNamed 11) = true := by kernel_rfl
theorem XM : (c11.plainKeys == Tryz.pinned.checked.prog.plainKeys) = true := by kernel_rfl
theorem j11 : joinedFacts Tryz.pinned.checked.prog 11 Tryz.f11 Rows.envNowSpec Rows.envNowRow = true := by
 unfold joinedFacts
 simp only [Bool.and_eq_true]
 repeat' apply And.intro
 all_goals first | with_reducible exact Yc | with_reducible exact XR | with_reducible exact XA | with_reducible exact XK | with_reducible exact X9 | with_reducible exact Yd | with_reducible exact Yb | with_reducible exact XM | kernel_rfl
end Go.Proofs.YtcmnmceodhambaaGreatDoor
