/- UpgradeChain returns true, whatever the numbers. Printed by lawgen2.py. -/
import Derived.Test.YtkbdcpkbmfegdaaGreatDoorGvUCn1
import Derived.Test.YtkbdcpkbmfegdaaGreatDoorGvJ5
set_option linter.unusedSimpArgs false
set_option linter.unusedVariables false
namespace Go.Proofs.YtkbdcpkbmfegdaaGreatDoor
open Rx Rd Gv Go Go.ChangeShapes Go.WideShapes Go.ChangeAt Go.RowKit
section
variable {H : Type} {enc : TypeId × Value -> H} {w : World} {base : Nat} {spare : Nat -> Bool} {held : Bool}
set_option maxRecDepth 100000 in
theorem aaS {r : Reach} {b0 : Nat} {v : Value} {d : DataW H} {ps : List MemPlace} (hval : Value.okWide Tryz.prog w r b0 39 v) (hd : DataW.Trod enc Tryz.prog w base spare held 39 v d ps) :
  ∃ (N : Nat) (lf : Nat -> Int), rel C0 w (Gv.UC.LL N lf) v := by
 obtain ⟨l, h1, h2, A, c, e, hc, h3⟩ := QE (n := 1) Tryz.underlying39 (by kernel_rfl) (by omega) (fun fuel cs y h => UW Tryz.underlying3 h) hval hd
 refine ⟨l.length, fun i => (l.getD i []).getD 0 0, OW ⟨A, c, e, hc, fun hn => ?_⟩⟩
 obtain ⟨b, off, e1, h⟩ := h3 hn
 refine ⟨b, off, e1, fun i hi j hj => ?_⟩
 obtain ⟨u, c1, c2, c3⟩ := h i hi j hj
 have hj0 : j = 0 := by omega
 subst hj0
 have hm : l.getD i [] ∈ l := by
  rw [List.getD_eq_getElem?_getD, List.getElem?_eq_getElem hi]
  exact List.getElem_mem hi
 obtain ⟨k1, k2⟩ := h1 _ hm
 have key : ∀ ks : List Int, ks.length = 1 -> (∀ k ∈ ks, BF k) -> BF (ks.getD 0 0) := fun ks e1 e2 => by
  match ks, e1 with
  | [a], _ => exact e2 a (by simp)
 exact ⟨u, c1, c2, c3, key _ k1 k2⟩
end
set_option maxRecDepth 100000 in
theorem tY (os : Os) (started : os.Started) (H : Type) (enc : TypeId × Value -> H) :
  ReturnsInHanded {} Tryz.checked os 5 .any (fun w args => (Rows.upgradeChainSpec.pre enc Tryz.prog Tryz.f5 Rows.upgradeChainRow.domain false w args /\ laidMet Tryz.prog J6 w) /\ sizedMet enc Tryz.prog Tryz.f5 (OpenSpec.ofChange Rows.upgradeChainSpec) false w args)
   (Rows.upgradeChainSpec.post enc Tryz.prog Tryz.f5 false true false false) := by
 refine returnsInHanded_of_change_and (C := Tryz.checked) (X := fun w _ => laidMet Tryz.prog J6 w) (fun _ _ _ hh h => h.of_heap hh) Gv.own started (by kernel_rfl) Tryz.func5
  (ChangeSpec.witness_shaped (enc := enc) (C := Tryz.checked) (os := os) (X := fun w _ => laidMet Tryz.prog J6 w) false (World.doorLaid Tryz.prog 400 os) #[.int .i64 0, .slice none 0 0] 8 rfl (World.shaped_of_RefB (by kernel_rfl) (by kernel_rfl)) (by kernel_rfl) (by kernel_rfl) (by kernel_rfl) (D8 os _)) ?_
 intro W base args ds gs before hval0 hW _ hsz0 hL _
 clear hsz0
 have hval : ∀ (j : Nat) t v, Tryz.f5.params[j]? = some t -> args[j]? = some v -> Value.okWide Tryz.prog W .any base t v := hval0
 have hW' := hW
 obtain ⟨p, q, hA, hV, rfl, hfz, hnd⟩ := hW
 rw [Tryz.params5] at hA hval
 obtain ⟨v0, vs0, d0, ds0, p0, q0, hargs, rfl, rfl, h0, r0⟩ := trodAll_cons hA
 obtain ⟨v1, vs1, d1, ds1, p1, q1, hargs1, rfl, rfl, h1, r1⟩ := trodAll_cons r0
 obtain ⟨rfl, rfl, rfl⟩ := trodAll_nil r1
 subst hargs1
 obtain rfl : args = #[v0, v1] := by cases args; simp_all
 obtain ⟨a0, rfl, rfl, rfl, w0⟩ := open_int Tryz.underlying3 (hval 0 3 v0 rfl rfl) h0
 obtain ⟨N, lf, g1⟩ := aaS (hval 1 39 v1 rfl rfl) h1
 have g0 := bounds_i64 w0
 refine (Gv.UC.acB N a0 lf (vs := [.int .i64 a0, v1]) (Hl hL) ⟨_, _, rfl, ⟨rfl, g0⟩, _, _, rfl, g1, rfl⟩).mono fun e W' ⟨he, hg⟩ => ?_
 subst he
 exact ⟨_, rfl, TM Gv.kids Gv.KY (by kernel_rfl) hW' hg rfl rfl Tryz.underlying4 (fun ds h => by
  match ds, h with
  | [d0, d1], _ => rfl)⟩
theorem xu : Rows.UpgradeChainSaid :=
 OpenClaim.holds_of_wide 5 Tryz.f5 rfl rfl rfl rfl rfl rfl rfl ⟨rfl, rfl, rfl, rfl, rfl⟩ rfl rfl rfl rfl rfl (by kernel_rfl) Tryz.func5 j5
  (of_decide_eq_true (by kernel_rfl)) (by unfold Func.isWrapper; first | (rw [if_pos (by decide +kernel)]; kernel_rfl) | (rw [if_neg (by decide +kernel)]; exact ⟨rfl, rfl⟩))
  (fun os started H enc _ => tY os started H enc)
end Go.Proofs.YtkbdcpkbmfegdaaGreatDoor
