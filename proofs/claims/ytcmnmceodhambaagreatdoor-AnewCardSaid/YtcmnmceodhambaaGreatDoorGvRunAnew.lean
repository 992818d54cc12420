/- The run of Anew. Printed by gvgen.py. -/
import Derived.Test.YtcmnmceodhambaaGreatDoorGvUAnew
import Derived.Test.YtcmnmceodhambaaGreatDoorGvPAnew2
import Derived.Test.YtcmnmceodhambaaGreatDoorGvPAnew3
import Derived.Test.YtcmnmceodhambaaGreatDoorGvPAnew4
import Derived.Test.YtcmnmceodhambaaGreatDoorGvPAnew5
import Derived.Test.YtcmnmceodhambaaGreatDoorGvPAnew7
set_option linter.unusedSimpArgs false
set_option linter.unusedVariables false
open Rx Go
namespace Gv
open Rd LAnew
noncomputable def anewX (n m : Int) : TL := [(39, [(17, (e27 n m)), (51, (e57 n m))]), (40, [(29, (e38 n m)), (40, (e45 n m)), (63, (e69 n m)), (75, (e74 n m))])]
def anewQ (n m : Int) : Prop :=
 ((((ByteArray.mk (#[40, 100, 101, 102, 105, 110, 101, 32, 40, 102, 32, 110, 41, 32])).size : Nat) : Int) + (((itoaB (pk100 n)).size : Nat) : Int) ≤ 9223372036854775807) ∧
 (((((ByteArray.mk (#[40, 100, 101, 102, 105, 110, 101, 32, 40, 102, 32, 110, 41, 32])) ++ itoaB (pk100 n)).size : Nat) : Int) + (((ByteArray.mk (#[41, 32, 40, 100, 101, 102, 105, 110, 101, 32, 40, 103, 32, 110, 41, 32, 40, 102, 32, 110, 41, 41, 32, 40, 100, 101, 102, 105, 110, 101, 32, 111, 108, 100, 32, 102, 41, 32, 40, 100, 101, 102, 105, 110, 101, 32, 40, 104, 32, 110, 41, 32, 40, 111, 108, 100, 32, 110, 41, 41])).size : Nat) : Int) ≤ 9223372036854775807) ∧
 ((((ByteArray.mk (#[40, 100, 101, 102, 105, 110, 101, 32, 40, 102, 32, 110, 41, 32])).size : Nat) : Int) + (((itoaB (pk100 m)).size : Nat) : Int) ≤ 9223372036854775807) ∧
 (((((ByteArray.mk (#[40, 100, 101, 102, 105, 110, 101, 32, 40, 102, 32, 110, 41, 32])) ++ itoaB (pk100 m)).size : Nat) : Int) + (((ByteArray.mk (#[41])).size : Nat) : Int) ≤ 9223372036854775807) ∧
 (s7 ++ itoaB (pk100 n) ++ s8 = (ByteArray.mk (#[40, 100, 101, 102, 105, 110, 101, 32, 40, 102, 32, 110, 41, 32])) ++ itoaB (pk100 n) ++ (ByteArray.mk (#[41, 32, 40, 100, 101, 102, 105, 110, 101, 32, 40, 103, 32, 110, 41, 32, 40, 102, 32, 110, 41, 41, 32, 40, 100, 101, 102, 105, 110, 101, 32, 111, 108, 100, 32, 102, 41, 32, 40, 100, 101, 102, 105, 110, 101, 32, 40, 104, 32, 110, 41, 32, 40, 111, 108, 100, 32, 110, 41, 41]))) ∧
 rp (en (pk100 n)) 2 ((s7 ++ itoaB (pk100 m) ++ s9 = (ByteArray.mk (#[40, 100, 101, 102, 105, 110, 101, 32, 40, 102, 32, 110, 41, 32])) ++ itoaB (pk100 m) ++ (ByteArray.mk (#[41]))) ∧
 rp (en (pk100 n)) 2 (rp (en (pk100 m)) 1 (rp (en (pk100 n)) 1 (rp (en (pk100 m)) 1 (((((itoaB (pk100 n)).data.toList == (itoaB (pk100 n)).data.toList) = true → ((((itoaB (pk100 n)).data.toList == (itoaB (pk100 n)).data.toList) = true → ((((itoaB (pk100 m)).data.toList == (itoaB (pk100 m)).data.toList) = true → ((((itoaB (pk100 n)).data.toList == (itoaB (pk100 n)).data.toList) = true → ((SV.kb true : SV) = .kb true)) ∧ (((itoaB (pk100 n)).data.toList == (itoaB (pk100 n)).data.toList) = false → ((SV.kb false : SV) = .kb true)))) ∧ (((itoaB (pk100 m)).data.toList == (itoaB (pk100 m)).data.toList) = false → ((SV.kb false : SV) = .kb true)))) ∧ (((itoaB (pk100 n)).data.toList == (itoaB (pk100 n)).data.toList) = false → ((SV.kb false : SV) = .kb true)))) ∧ (((itoaB (pk100 n)).data.toList == (itoaB (pk100 n)).data.toList) = false → ((SV.kb false : SV) = .kb true))))))))
set_option maxRecDepth 100000 in
theorem anew_run_eq (n m : Int) : (anewQ n m) = (runLT [] (anewX n m) 3 [any n, any m]).holds fun y => y.1 = .kb true := by
 kernel_rfl
set_option maxRecDepth 100000 in
theorem anew_needs (n m : Int) : anewQ n m := by
 obtain ⟨h0, h1, h2, h3, h4, h5, h6, h7⟩ := fx n m
 unfold anewQ
 refine ⟨by simp only [ByteArray.size_append, sz_lit, List.size_toArray, List.length_cons, List.length_nil]; omega, ?_⟩
 refine ⟨by simp only [ByteArray.size_append, sz_lit, List.size_toArray, List.length_cons, List.length_nil]; omega, ?_⟩
 refine ⟨by simp only [ByteArray.size_append, sz_lit, List.size_toArray, List.length_cons, List.length_nil]; omega, ?_⟩
 refine ⟨by simp only [ByteArray.size_append, sz_lit, List.size_toArray, List.length_cons, List.length_nil]; omega, ?_⟩
 refine ⟨rfl, ?_⟩
 refine rp_i rfl _ ?_
 refine ⟨rfl, ?_⟩
 iterate 4 refine rp_i rfl _ ?_
 refine ⟨fun _ => ?_, fun h => absurd ((show ((itoaB (pk100 n)).data.toList == (itoaB (pk100 n)).data.toList) = true by first | exact beq_self_eq_true _ | (rw [beq_iff_eq]; simp only [tl_app, tl_lit, List.append_assoc, List.nil_append]; try kernel_rfl)).symm.trans h) (by decide)⟩
 refine ⟨fun _ => ?_, fun h => absurd ((show ((itoaB (pk100 n)).data.toList == (itoaB (pk100 n)).data.toList) = true by first | exact beq_self_eq_true _ | (rw [beq_iff_eq]; simp only [tl_app, tl_lit, List.append_assoc, List.nil_append]; try kernel_rfl)).symm.trans h) (by decide)⟩
 refine ⟨fun _ => ?_, fun h => absurd ((show ((itoaB (pk100 m)).data.toList == (itoaB (pk100 m)).data.toList) = true by first | exact beq_self_eq_true _ | (rw [beq_iff_eq]; simp only [tl_app, tl_lit, List.append_assoc, List.nil_append]; try kernel_rfl)).symm.trans h) (by decide)⟩
 refine ⟨fun _ => ?_, fun h => absurd ((show ((itoaB (pk100 n)).data.toList == (itoaB (pk100 n)).data.toList) = true by first | exact beq_self_eq_true _ | (rw [beq_iff_eq]; simp only [tl_app, tl_lit, List.append_assoc, List.nil_append]; try kernel_rfl)).symm.trans h) (by decide)⟩
 rfl
theorem anew_tok (n m : Int) : TOk (anewX n m) := (tok_cons (te_cons (t27 n m) (te_cons (t57 n m) te_nil)) (tok_cons (te_cons (t38 n m) (te_cons (t45 n m) (te_cons (t69 n m) (te_cons (t74 n m) te_nil)))) tok_nil))
theorem anew_run (n m : Int) : (runLT [] (anewX n m) 3 [any n, any m]).holds fun y => y.1 = .kb true := by
 rw [← anew_run_eq]
 exact anew_needs n m
end Gv
