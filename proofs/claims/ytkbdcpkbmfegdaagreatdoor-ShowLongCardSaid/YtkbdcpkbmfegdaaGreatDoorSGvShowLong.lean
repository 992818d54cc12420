/- ShowLong returns true, whatever the numbers. Printed by lawgen2.py. -/
import Derived.Test.YtkbdcpkbmfegdaaGreatDoorSGvSLx
import Derived.Test.YtkbdcpkbmfegdaaGreatDoorSGvJ4
set_option linter.unusedSimpArgs false
set_option linter.unusedVariables false
namespace Go.Proofs.YtkbdcpkbmfegdaaGreatDoor
open Rx Rd Gv Go Go.ChangeShapes Go.WideShapes Go.ChangeAt Go.RowKit
set_option maxRecDepth 100000 in
theorem xA (os : Os) (started : os.Started) (H : Type) (enc : TypeId × Value -> H) :
  ReturnsInHanded {} Tryz.checked os 4 .any (fun w args => (Rows.showLongSpec.pre enc Tryz.prog Tryz.f4 Rows.showLongRow.domain false w args /\ laidMet Tryz.prog IQ w) /\ sizedMet enc Tryz.prog Tryz.f4 (OpenSpec.ofChange Rows.showLongSpec) false w args)
   (Rows.showLongSpec.post enc Tryz.prog Tryz.f4 false true false false) := by
 refine returnsInHanded_of_change_and (C := Tryz.checked) (X := fun w _ => laidMet Tryz.prog IQ w) (fun _ _ _ hh h => h.of_heap hh) Gv.own started (by kernel_rfl) Tryz.func4
  (ChangeSpec.witness_shaped (enc := enc) (C := Tryz.checked) (os := os) (X := fun w _ => laidMet Tryz.prog IQ w) false (World.doorLaid Tryz.prog 400 os) #[.int .i64 0] 8 rfl (World.shaped_of_RefB (by kernel_rfl) (by kernel_rfl)) (by kernel_rfl) (by kernel_rfl) (by kernel_rfl) (Cq os _)) ?_
 intro W base args ds gs before hval0 hW _ hsz0 hL _
 clear hsz0
 have hval : ∀ (j : Nat) t v, Tryz.f4.params[j]? = some t -> args[j]? = some v -> Value.okWide Tryz.prog W .any base t v := hval0
 have hW' := hW
 obtain ⟨p, q, hA, hV, rfl, hfz, hnd⟩ := hW
 rw [Tryz.params4] at hA hval
 obtain ⟨v0, vs0, d0, ds0, p0, q0, hargs, rfl, rfl, h0, r0⟩ := trodAll_cons hA
 obtain ⟨rfl, rfl, rfl⟩ := trodAll_nil r0
 obtain rfl : args = #[v0] := by cases args; simp_all
 obtain ⟨a0, rfl, rfl, rfl, w0⟩ := open_int Tryz.underlying3 (hval 0 3 v0 rfl rfl) h0
 have g0 := bounds_i64 w0
 refine (Br a0 (vs := [.int .i64 a0]) (FK hL) (Ti g0)).mono fun e W' ⟨he, hg⟩ => ?_
 subst he
 exact ⟨_, rfl, R4 Gv.kids Gv.JB (by kernel_rfl) hW' hg rfl rfl Tryz.underlying4 (fun ds h => by
  match ds, h with
  | [d0], _ => rfl)⟩
theorem CB : Rows.ShowLongSaid :=
 OpenClaim.holds_of_wide 4 Tryz.f4 rfl rfl rfl rfl rfl rfl rfl ⟨rfl, rfl, rfl, rfl, rfl⟩ rfl rfl rfl rfl rfl (by kernel_rfl) Tryz.func4 j4
  (of_decide_eq_true (by kernel_rfl)) (by unfold Func.isWrapper; first | (rw [if_pos (by decide +kernel)]; kernel_rfl) | (rw [if_neg (by decide +kernel)]; exact ⟨rfl, rfl⟩))
  (fun os started H enc _ => xA os started H enc)
end Go.Proofs.YtkbdcpkbmfegdaaGreatDoor
