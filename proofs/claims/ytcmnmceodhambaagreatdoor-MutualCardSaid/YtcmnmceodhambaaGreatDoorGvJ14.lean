/- The closed facts of Mutual, each by itself. -/
import Derived.Test.YtcmnmceodhambaaGreatDoorGvR
set_option linter.unusedSimpArgs false
set_option linter.unusedVariables false
open Go
namespace Go.Proofs.YtcmnmceodhambaaGreatDoor
noncomputable abbrev c14 := Rows.mutualRow
theorem Yi : c14.wf (OpenSpec.ofChange Rows.mutualSpec) = true := by kernel_rfl
theorem Yu : laidOutB Tryz.pinned.checked.prog = true := by kernel_rfl
theorem YG : mapsRowed Tryz.pinned.checked.prog = true := by kernel_rfl
theorem YP : (c14.inPlace == Tryz.pinned.checked.prog.inPlace 14) = true := by kernel_rfl
theorem Yq : (c14.unfollowed == Tryz.pinned.checked.prog.unfollowed 14) = true := by kernel_rfl
theorem Yt : (c14.recurses == Tryz.pinned.checked.prog.recurses 14) = true := by kernel_rfl
theorem Yr : (c14.named == Tryz.pinned.checked.prog.varsNamed 14) = true := by kernel_rfl
theorem Yo : (c14.plainKeys == Tryz.pinned.checked.prog.plainKeys) = true := by kernel_rfl
theorem j14 : joinedFacts Tryz.pinned.checked.prog 14 Tryz.f14 Rows.mutualSpec Rows.mutualRow = true := by
 unfold joinedFacts
 simp only [Bool.and_eq_true]
 repeat' apply And.intro
 all_goals first | with_reducible exact Yi | with_reducible exact Yu | with_reducible exact YG | with_reducible exact YP | with_reducible exact Yq | with_reducible exact Yt | with_reducible exact Yr | with_reducible exact Yo | kernel_rfl
end Go.Proofs.YtcmnmceodhambaaGreatDoor
