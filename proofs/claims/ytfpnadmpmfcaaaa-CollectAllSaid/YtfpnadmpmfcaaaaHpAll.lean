/- CollectAll returns true, whatever the raw things: without roots nothing is left, with all that was made nothing is gone, and a root that may not be is refused. -/
import Derived.Test.YtfpnadmpmfcaaaaHpY
import Derived.Test.YtfpnadmpmfcaaaaHpO
namespace Go.Proofs.Ytfpnadmpmfcaaaa
open Rx Go Go.ChangeShapes Go.WideShapes Go.ChangeAt Go.RowKit

set_option maxRecDepth 100000 in
theorem collectAll_lifted (os : Os) (started : os.Started) (H : Type) (enc : TypeId × Value → H) :
    ReturnsInHanded {} Try.checked os 6 .any (Rows.collectAllSpec.pre6 enc Try.prog Try.f6 Rows.collectAllRow.domain false) (Rows.collectAllSpec.post enc Try.prog Try.f6 false true false false) := by
  refine returnsInHanded_of_change (C := Try.checked) own started (by kernel_rfl) Try.func6
    (ChangeSpec.witness6 (enc := enc) (C := Try.checked) false ⟨#[], #[.slice none 0 0], []⟩ 8 (by kernel_rfl) (by kernel_rfl) (by kernel_rfl) (by kernel_rfl)) ?_
  intro W base args ds gs before hval0 hW hcnd _
  have hval : ∀ (j : Nat) t v, Try.f6.params[j]? = some t → args[j]? = some v → Value.okWide Try.prog W .any base t v := hval0
  have hW' := hW
  obtain ⟨p, q, hA, hV, rfl, hfz, hnd⟩ := hW
  rw [Try.params6] at hA hval
  obtain ⟨v0, vs0, d0, ds0, p0, q0, hargs, rfl, rfl, h0, r0⟩ := trodAll_cons hA
  obtain ⟨rfl, rfl, rfl⟩ := trodAll_nil r0
  obtain rfl : args = #[v0] := by cases args; simp_all
  obtain ⟨a0, g0, _, rep0⟩ := open_raws (hval 0 32 v0 rfl rfl) h0
  refine (law_true (cal_ctr a0) (w := W) (vs := [v0]) ⟨_, _, rfl, rel_rep rep0, rfl⟩ ⟨g0, rfl⟩).mono fun e W' ⟨he, hg⟩ => ?_
  subst he
  exact ⟨_, rfl, law_post kids slices_full (by kernel_rfl) hW' hg rfl rfl Try.underlying4 (fun ds h => by
    match ds, h with
    | [d0], _ => rfl)⟩

theorem collectAll_over : Rows.collectAllRow.holds Try.pinned (OpenSpec.ofChange Rows.collectAllSpec) :=
  OpenClaim.holds_of_wide 6 Try.f6 rfl rfl rfl rfl rfl rfl rfl ⟨rfl, rfl, rfl, rfl, rfl⟩ rfl rfl rfl rfl rfl (by kernel_rfl) Try.func6 (by kernel_rfl)
    (of_decide_eq_true (by kernel_rfl)) (by unfold Func.isWrapper; first | (rw [if_pos (by decide +kernel)]; kernel_rfl) | (rw [if_neg (by decide +kernel)]; exact ⟨rfl, rfl⟩))
    (fun os started H enc _ => collectAll_lifted os started H enc)

theorem collectAll_holds : Rows.CollectAllSaid :=
  collectAll_over
end Go.Proofs.Ytfpnadmpmfcaaaa
