/- RollBack returns true, whatever the numbers. Printed by lawgen2.py. -/
import Derived.Test.YtildnaomamnkgaaGreatDoorGvPRollBack3
import Derived.Test.YtildnaomamnkgaaGreatDoorGvJ4
set_option linter.unusedSimpArgs false
set_option linter.unusedVariables false
namespace Go.Proofs.YtildnaomamnkgaaGreatDoor
open Rx Rd Gv Go Go.ChangeShapes Go.WideShapes Go.ChangeAt Go.RowKit
set_option maxRecDepth 100000 in
theorem xV (os : Os) (started : os.Started) (H : Type) (enc : TypeId × Value -> H) :
  ReturnsInHanded {} Tryz.checked os 4 .any (fun w args => (Rows.rollBackSpec.pre enc Tryz.prog Tryz.f4 Rows.rollBackRow.domain false w args /\ laidMet Tryz.prog Ia w) /\ sizedMet enc Tryz.prog Tryz.f4 (OpenSpec.ofChange Rows.rollBackSpec) false w args)
   (Rows.rollBackSpec.post enc Tryz.prog Tryz.f4 false true false false) := by
 refine returnsInHanded_of_change_and (C := Tryz.checked) (X := fun w _ => laidMet Tryz.prog Ia w) (fun _ _ _ hh h => h.of_heap hh) Gv.own started (by kernel_rfl) Tryz.func4
  (ChangeSpec.witness_shaped (enc := enc) (C := Tryz.checked) (os := os) (X := fun w _ => laidMet Tryz.prog Ia w) false (World.doorLaid Tryz.prog 400 os) #[.int .i64 0, .int .i64 0] 8 rfl (World.shaped_of_RefB (by kernel_rfl) (by kernel_rfl)) (by kernel_rfl) (by kernel_rfl) (by kernel_rfl) (Cu os _)) ?_
 intro W base args ds gs before hval0 hW _ hsz0 hL _
 clear hsz0
 have hval : ∀ (j : Nat) t v, Tryz.f4.params[j]? = some t -> args[j]? = some v -> Value.okWide Tryz.prog W .any base t v := hval0
 have hW' := hW
 obtain ⟨p, q, hA, hV, rfl, hfz, hnd⟩ := hW
 rw [Tryz.params4] at hA hval
 obtain ⟨v0, vs0, d0, ds0, p0, q0, hargs, rfl, rfl, h0, r0⟩ := trodAll_cons hA
 obtain ⟨v1, vs1, d1, ds1, p1, q1, hargs1, rfl, rfl, h1, r1⟩ := trodAll_cons r0
 obtain ⟨rfl, rfl, rfl⟩ := trodAll_nil r1
 subst hargs1
 obtain rfl : args = #[v0, v1] := by cases args; simp_all
 obtain ⟨a0, rfl, rfl, rfl, w0⟩ := open_int Tryz.underlying3 (hval 0 3 v0 rfl rfl) h0
 obtain ⟨a1, rfl, rfl, rfl, w1⟩ := open_int Tryz.underlying3 (hval 1 3 v1 rfl rfl) h1
 have g0 := bounds_i64 w0
 have g1 := bounds_i64 w1
 refine (Pj (FK a0 a1) (Gx hL) (vs := [.int .i64 a0, .int .i64 a1]) (Pe g0 g1) (FX a0 a1)).mono fun e W' ⟨he, hg⟩ => ?_
 subst he
 exact ⟨_, rfl, Qx Gv.kids Gv.Hw (by kernel_rfl) hW' hg rfl rfl Tryz.underlying4 (fun ds h => by
  match ds, h with
  | [d0, d1], _ => rfl)⟩
theorem Cm : Rows.RollBackSaid :=
 OpenClaim.holds_of_wide 4 Tryz.f4 rfl rfl rfl rfl rfl rfl rfl ⟨rfl, rfl, rfl, rfl, rfl⟩ rfl rfl rfl rfl rfl (by kernel_rfl) Tryz.func4 j4
  (of_decide_eq_true (by kernel_rfl)) (by unfold Func.isWrapper; first | (rw [if_pos (by decide +kernel)]; kernel_rfl) | (rw [if_neg (by decide +kernel)]; exact ⟨rfl, rfl⟩))
  (fun os started H enc _ => xV os started H enc)
end Go.Proofs.YtildnaomamnkgaaGreatDoor
