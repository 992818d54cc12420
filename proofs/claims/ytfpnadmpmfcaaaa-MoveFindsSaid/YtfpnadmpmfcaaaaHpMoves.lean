/- MoveFinds returns true, whatever the raw things and the number: what was moved is found where it is now, however often it was moved, and a collection leaves the old out. -/
import Derived.Test.YtfpnadmpmfcaaaaHpY
import Derived.Test.YtfpnadmpmfcaaaaHpW
namespace Go.Proofs.Ytfpnadmpmfcaaaa
open Rx Go Go.ChangeShapes Go.WideShapes Go.ChangeAt Go.RowKit

set_option maxRecDepth 100000 in
theorem moveFinds_lifted (os : Os) (started : os.Started) (H : Type) (enc : TypeId × Value → H) :
    ReturnsInHanded {} Try.checked os 9 .any (Rows.moveFindsSpec.pre6 enc Try.prog Try.f9 Rows.moveFindsRow.domain false) (Rows.moveFindsSpec.post enc Try.prog Try.f9 false true false false) := by
  refine returnsInHanded_of_change (C := Try.checked) own started (by kernel_rfl) Try.func9
    (ChangeSpec.witness6 (enc := enc) (C := Try.checked) false ⟨#[], #[.slice none 0 0, .int .i64 0], []⟩ 8 (by kernel_rfl) (by kernel_rfl) (by kernel_rfl) (by kernel_rfl)) ?_
  intro W base args ds gs before hval0 hW hcnd _
  have hval : ∀ (j : Nat) t v, Try.f9.params[j]? = some t → args[j]? = some v → Value.okWide Try.prog W .any base t v := hval0
  have hW' := hW
  obtain ⟨p, q, hA, hV, rfl, hfz, hnd⟩ := hW
  rw [Try.params9] at hA hval
  obtain ⟨v0, vs0, d0, ds0, p0, q0, hargs, rfl, rfl, h0, r0⟩ := trodAll_cons hA
  obtain ⟨v1, vs1, d1, ds1, p1, q1, rfl, rfl, rfl, h1, r1⟩ := trodAll_cons r0
  obtain ⟨rfl, rfl, rfl⟩ := trodAll_nil r1
  obtain rfl : args = #[v0, v1] := by cases args; simp_all
  obtain ⟨a0, g0, _, rep0⟩ := open_raws (hval 0 32 v0 rfl rfl) h0
  obtain ⟨a1, rfl, rfl, rfl, w1⟩ := open_int Try.underlying3 (hval 1 3 v1 rfl rfl) h1
  have g1 := bounds_i64 w1
  refine (law_true (mf_ctr a0 a1) (w := W) (vs := [v0, .int .i64 a1]) ⟨_, _, rfl, rel_rep rep0, _, _, rfl, rel_cell.2 rfl, rfl⟩ ⟨⟨g0, g1⟩, rfl⟩).mono fun e W' ⟨he, hg⟩ => ?_
  subst he
  exact ⟨_, rfl, law_post kids slices_full (by kernel_rfl) hW' hg rfl rfl Try.underlying4 (fun ds h => by
    match ds, h with
    | [d0, d1], _ => rfl)⟩

theorem moveFinds_over : Rows.moveFindsRow.holds Try.pinned (OpenSpec.ofChange Rows.moveFindsSpec) :=
  OpenClaim.holds_of_wide 9 Try.f9 rfl rfl rfl rfl rfl rfl rfl ⟨rfl, rfl, rfl, rfl, rfl⟩ rfl rfl rfl rfl rfl (by kernel_rfl) Try.func9 (by kernel_rfl)
    (of_decide_eq_true (by kernel_rfl)) (by unfold Func.isWrapper; first | (rw [if_pos (by decide +kernel)]; kernel_rfl) | (rw [if_neg (by decide +kernel)]; exact ⟨rfl, rfl⟩))
    (fun os started H enc _ => moveFinds_lifted os started H enc)

theorem moveFinds_holds : Rows.MoveFindsSaid :=
  moveFinds_over
end Go.Proofs.Ytfpnadmpmfcaaaa
