/- PartsBack returns true, whatever the raw things and the three numbers: what was put on a heap is there; what is changed is changed, and nothing else is. -/
import Derived.Test.YtfpnadmpmfcaaaaHpY
import Derived.Test.YtfpnadmpmfcaaaaHpPb
namespace Go.Proofs.Ytfpnadmpmfcaaaa
open Rx Go Go.ChangeShapes Go.WideShapes Go.ChangeAt Go.RowKit

set_option maxRecDepth 100000 in
theorem partsBack_lifted (os : Os) (started : os.Started) (H : Type) (enc : TypeId × Value → H) :
    ReturnsInHanded {} Try.checked os 7 .any (Rows.partsBackSpec.pre6 enc Try.prog Try.f7 Rows.partsBackRow.domain false) (Rows.partsBackSpec.post enc Try.prog Try.f7 false true false false) := by
  refine returnsInHanded_of_change (C := Try.checked) own started (by kernel_rfl) Try.func7
    (ChangeSpec.witness6 (enc := enc) (C := Try.checked) false ⟨#[], #[.slice none 0 0, .int .i64 0, .int .i64 0, .int .i64 0], []⟩ 8 (by kernel_rfl) (by kernel_rfl) (by kernel_rfl) (by kernel_rfl)) ?_
  intro W base args ds gs before hval0 hW hcnd _
  have hval : ∀ (j : Nat) t v, Try.f7.params[j]? = some t → args[j]? = some v → Value.okWide Try.prog W .any base t v := hval0
  have hW' := hW
  obtain ⟨p, q, hA, hV, rfl, hfz, hnd⟩ := hW
  rw [Try.params7] at hA hval
  obtain ⟨v0, vs0, d0, ds0, p0, q0, hargs, rfl, rfl, h0, r0⟩ := trodAll_cons hA
  obtain ⟨v1, vs1, d1, ds1, p1, q1, rfl, rfl, rfl, h1, r1⟩ := trodAll_cons r0
  obtain ⟨v2, vs2, d2, ds2, p2, q2, rfl, rfl, rfl, h2, r2⟩ := trodAll_cons r1
  obtain ⟨v3, vs3, d3, ds3, p3, q3, rfl, rfl, rfl, h3, r3⟩ := trodAll_cons r2
  obtain ⟨rfl, rfl, rfl⟩ := trodAll_nil r3
  obtain rfl : args = #[v0, v1, v2, v3] := by cases args; simp_all
  obtain ⟨a0, g0, _, rep0⟩ := open_raws (hval 0 32 v0 rfl rfl) h0
  obtain ⟨a1, rfl, rfl, rfl, w1⟩ := open_int Try.underlying3 (hval 1 3 v1 rfl rfl) h1
  have g1 := bounds_i64 w1
  obtain ⟨a2, rfl, rfl, rfl, w2⟩ := open_int Try.underlying3 (hval 2 3 v2 rfl rfl) h2
  have g2 := bounds_i64 w2
  obtain ⟨a3, rfl, rfl, rfl, w3⟩ := open_int Try.underlying3 (hval 3 3 v3 rfl rfl) h3
  have g3 := bounds_i64 w3
  refine (law_true (pb_ctr a0 a1 a2 a3) (w := W) (vs := [v0, .int .i64 a1, .int .i64 a2, .int .i64 a3]) ⟨_, _, rfl, rel_rep rep0, _, _, rfl, rel_cell.2 rfl, _, _, rfl, rel_cell.2 rfl, _, _, rfl, rel_cell.2 rfl, rfl⟩ ⟨⟨g0, g1, g2, g3⟩, rfl⟩).mono fun e W' ⟨he, hg⟩ => ?_
  subst he
  exact ⟨_, rfl, law_post kids slices_full (by kernel_rfl) hW' hg rfl rfl Try.underlying4 (fun ds h => by
    match ds, h with
    | [d0, d1, d2, d3], _ => rfl)⟩

theorem partsBack_over : Rows.partsBackRow.holds Try.pinned (OpenSpec.ofChange Rows.partsBackSpec) :=
  OpenClaim.holds_of_wide 7 Try.f7 rfl rfl rfl rfl rfl rfl rfl ⟨rfl, rfl, rfl, rfl, rfl⟩ rfl rfl rfl rfl rfl (by kernel_rfl) Try.func7 (by kernel_rfl)
    (of_decide_eq_true (by kernel_rfl)) (by unfold Func.isWrapper; first | (rw [if_pos (by decide +kernel)]; kernel_rfl) | (rw [if_neg (by decide +kernel)]; exact ⟨rfl, rfl⟩))
    (fun os started H enc _ => partsBack_lifted os started H enc)

theorem partsBack_holds : Rows.PartsBackSaid :=
  partsBack_over
end Go.Proofs.Ytfpnadmpmfcaaaa
