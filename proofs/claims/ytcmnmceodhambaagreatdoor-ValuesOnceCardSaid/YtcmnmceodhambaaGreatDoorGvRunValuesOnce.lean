/- The run of ValuesOnce. Printed by gvgen.py. -/
import Derived.Test.YtcmnmceodhambaaGreatDoorGvUValuesOnce
import Derived.Test.YtcmnmceodhambaaGreatDoorGvPValuesOnce2
import Derived.Test.YtcmnmceodhambaaGreatDoorGvPValuesOnce4
import Derived.Test.YtcmnmceodhambaaGreatDoorGvPValuesOnce7
import Derived.Test.YtcmnmceodhambaaGreatDoorGvPValuesOnce8
set_option linter.unusedSimpArgs false
set_option linter.unusedVariables false
open Rx Go
namespace Gv
open Rd LValuesOnce
noncomputable def valuesOnceX (n : Int) : TL := [(39, [(13, (e29 n)), (36, (e56 n))]), (40, [(25, (e38 n)), (50, (e69 n))])]
def valuesOnceQ (n : Int) : Prop :=
 ((((ByteArray.mk (#[40, 100, 101, 102, 105, 110, 101, 32, 120, 32, 40, 102, 32])).size : Nat) : Int) + (((itoaB (pk100 n)).size : Nat) : Int) ≤ 9223372036854775807) ∧
 (((((ByteArray.mk (#[40, 100, 101, 102, 105, 110, 101, 32, 120, 32, 40, 102, 32])) ++ itoaB (pk100 n)).size : Nat) : Int) + (((ByteArray.mk (([41, 41, 32, 40, 100, 101, 102, 105, 110, 101, 32, 121, 32, 40, 102, 32, 120, 41, 41, 32, 40, 100, 101, 102, 105, 110, 101, 32, 40, 102, 32, 110, 41, 32, 40].append [43, 32, 110, 32, 49, 41, 41, 32, 40, 100, 101, 102, 105, 110, 101, 32, 40, 115, 104, 111, 119, 32, 110, 41, 32, 40, 99, 111, 110, 115, 32, 120, 32, 121, 41, 41]).toArray)).size : Nat) : Int) ≤ 9223372036854775807) ∧
 (s11 ++ itoaB (pk100 n) ++ s12 = (ByteArray.mk (#[40, 100, 101, 102, 105, 110, 101, 32, 120, 32, 40, 102, 32])) ++ itoaB (pk100 n) ++ (ByteArray.mk (([41, 41, 32, 40, 100, 101, 102, 105, 110, 101, 32, 121, 32, 40, 102, 32, 120, 41, 41, 32, 40, 100, 101, 102, 105, 110, 101, 32, 40, 102, 32, 110, 41, 32, 40].append [43, 32, 110, 32, 49, 41, 41, 32, 40, 100, 101, 102, 105, 110, 101, 32, 40, 115, 104, 111, 119, 32, 110, 41, 32, 40, 99, 111, 110, 115, 32, 120, 32, 121, 41, 41]).toArray))) ∧
 rp (en (pk100 n + (1 : Int))) 1 (rp (en (pk100 n + (1 : Int) + (1 : Int))) 1 (rp (en (pk100 n)) 1 (rp (en (pk100 n + (1 : Int))) 1 (rp (en (pk100 n + (1 : Int) + (1 : Int))) 2 (rp (en (pk100 n + (1 : Int))) 1 (rp (en (pk100 n)) 1 (rp (en (pk100 n + (1 : Int))) 1 (rp (en (pk100 n + (1 : Int) + (pk100 n + (1 : Int) + (1 : Int)))) 1 (rp (en (pk100 n + (1 : Int) + (1 : Int))) 2 (rp (en (pk100 n + (1 : Int))) 1 (rp (en (pk100 n)) 1 (((((ByteArray.mk (#[40])).size : Nat) : Int) + (((itoaB (pk100 n + 1)).size : Nat) : Int) ≤ 9223372036854775807) ∧
 (((((ByteArray.mk (#[40])) ++ itoaB (pk100 n + 1)).size : Nat) : Int) + (((ByteArray.mk (#[32, 46, 32])).size : Nat) : Int) ≤ 9223372036854775807) ∧
 (((((ByteArray.mk (#[40])) ++ itoaB (pk100 n + 1) ++ (ByteArray.mk (#[32, 46, 32]))).size : Nat) : Int) + (((itoaB (pk100 n + 2)).size : Nat) : Int) ≤ 9223372036854775807) ∧
 (((((ByteArray.mk (#[40])) ++ itoaB (pk100 n + 1) ++ (ByteArray.mk (#[32, 46, 32])) ++ itoaB (pk100 n + 2)).size : Nat) : Int) + (((ByteArray.mk (#[41])).size : Nat) : Int) ≤ 9223372036854775807) ∧
 ((((s13 ++ itoaB (pk100 n + 1) ++ s14 ++ itoaB (pk100 n + 1 + 1) ++ s15).data.toList == ((ByteArray.mk (#[40])) ++ itoaB (pk100 n + 1) ++ (ByteArray.mk (#[32, 46, 32])) ++ itoaB (pk100 n + 2) ++ (ByteArray.mk (#[41]))).data.toList) = true → ((((itoaB (pk100 n + 1 + (pk100 n + 1 + 1))).data.toList == (itoaB (2 * pk100 n + 3)).data.toList) = true → (s13 ++ itoaB (pk100 n + 1) ++ s14 ++ itoaB (pk100 n + 1 + 1) ++ s15 = s13 ++ itoaB (pk100 n + 1) ++ s14 ++ itoaB (pk100 n + 1 + 1) ++ s15) ∧
 (s13 ++ itoaB (pk100 n + 1) ++ s14 ++ itoaB (pk100 n + 1 + 1) ++ s15 = s13 ++ itoaB (pk100 n + 1) ++ s14 ++ itoaB (pk100 n + 1 + 1) ++ s15) ∧
 (itoaB (pk100 n + 1 + (pk100 n + 1 + 1)) = itoaB (pk100 n + 1 + (pk100 n + 1 + 1))) ∧
 qt) ∧ (((itoaB (pk100 n + 1 + (pk100 n + 1 + 1))).data.toList == (itoaB (2 * pk100 n + 3)).data.toList) = false → (s13 ++ itoaB (pk100 n + 1) ++ s14 ++ itoaB (pk100 n + 1 + 1) ++ s15 = s13 ++ itoaB (pk100 n + 1) ++ s14 ++ itoaB (pk100 n + 1 + 1) ++ s15) ∧
 (s13 ++ itoaB (pk100 n + 1) ++ s14 ++ itoaB (pk100 n + 1 + 1) ++ s15 = s13 ++ itoaB (pk100 n + 1) ++ s14 ++ itoaB (pk100 n + 1 + 1) ++ s15) ∧
 (itoaB (pk100 n + 1 + (pk100 n + 1 + 1)) = itoaB (pk100 n + 1 + (pk100 n + 1 + 1))) ∧
 ((SV.kb false : SV) = .kb true)))) ∧ (((s13 ++ itoaB (pk100 n + 1) ++ s14 ++ itoaB (pk100 n + 1 + 1) ++ s15).data.toList == ((ByteArray.mk (#[40])) ++ itoaB (pk100 n + 1) ++ (ByteArray.mk (#[32, 46, 32])) ++ itoaB (pk100 n + 2) ++ (ByteArray.mk (#[41]))).data.toList) = false → (s13 ++ itoaB (pk100 n + 1) ++ s14 ++ itoaB (pk100 n + 1 + 1) ++ s15 = s13 ++ itoaB (pk100 n + 1) ++ s14 ++ itoaB (pk100 n + 1 + 1) ++ s15) ∧
 (s13 ++ itoaB (pk100 n + 1) ++ s14 ++ itoaB (pk100 n + 1 + 1) ++ s15 = s13 ++ itoaB (pk100 n + 1) ++ s14 ++ itoaB (pk100 n + 1 + 1) ++ s15) ∧
 ((SV.kb false : SV) = .kb true)))))))))))))))
set_option maxRecDepth 100000 in
theorem valuesOnce_run_eq (n : Int) : (valuesOnceQ n) = (runLT [] (valuesOnceX n) 10 [any n]).holds fun y => y.1 = .kb true := by
 kernel_rfl
set_option maxRecDepth 100000 in
theorem valuesOnce_needs (n : Int) : valuesOnceQ n := by
 obtain ⟨h0, h1, h2, h3, h4, h5, h6, h7, h8, h9, h10, h11, h12, h13⟩ := fx n
 unfold valuesOnceQ
 refine ⟨by simp only [ByteArray.size_append, sz_lit, List.size_toArray, List.length_cons, List.length_nil, List.append_eq, List.length_append]; omega, ?_⟩
 refine ⟨by simp only [ByteArray.size_append, sz_lit, List.size_toArray, List.length_cons, List.length_nil, List.append_eq, List.length_append]; omega, ?_⟩
 refine ⟨rfl, ?_⟩
 iterate 12 refine rp_i rfl _ ?_
 refine ⟨by simp only [ByteArray.size_append, sz_lit, List.size_toArray, List.length_cons, List.length_nil, List.append_eq, List.length_append]; omega, ?_⟩
 refine ⟨by simp only [ByteArray.size_append, sz_lit, List.size_toArray, List.length_cons, List.length_nil, List.append_eq, List.length_append]; omega, ?_⟩
 refine ⟨by simp only [ByteArray.size_append, sz_lit, List.size_toArray, List.length_cons, List.length_nil, List.append_eq, List.length_append]; omega, ?_⟩
 refine ⟨by simp only [ByteArray.size_append, sz_lit, List.size_toArray, List.length_cons, List.length_nil, List.append_eq, List.length_append]; omega, ?_⟩
 refine ⟨fun _ => ?_, fun h => absurd ((show ((s13 ++ itoaB (pk100 n + 1) ++ s14 ++ itoaB (pk100 n + 1 + 1) ++ s15).data.toList == ((ByteArray.mk (#[40])) ++ itoaB (pk100 n + 1) ++ (ByteArray.mk (#[32, 46, 32])) ++ itoaB (pk100 n + 2) ++ (ByteArray.mk (#[41]))).data.toList) = true by rw [beq_iff_eq]; simp only [show ((pk100 n + 2) : Int) = (pk100 n + 1 + 1) from by omega, tl_app, tl_lit, List.append_assoc, List.nil_append, s13_t, s14_t, s15_t]; try kernel_rfl).symm.trans h) (by decide)⟩
 refine ⟨fun _ => ?_, fun h => absurd ((show ((itoaB (pk100 n + 1 + (pk100 n + 1 + 1))).data.toList == (itoaB (2 * pk100 n + 3)).data.toList) = true by rw [beq_iff_eq]; simp only [show ((2 * pk100 n + 3) : Int) = (pk100 n + 1 + (pk100 n + 1 + 1)) from by omega, tl_app, tl_lit, List.append_assoc, List.nil_append]; try kernel_rfl).symm.trans h) (by decide)⟩
 refine ⟨rfl, ?_⟩
 refine ⟨rfl, ?_⟩
 refine ⟨rfl, ?_⟩
 rfl
theorem valuesOnce_tok (n : Int) : TOk (valuesOnceX n) := (tok_cons (te_cons (t29 n) (te_cons (t56 n) te_nil)) (tok_cons (te_cons (t38 n) (te_cons (t69 n) te_nil)) tok_nil))
theorem valuesOnce_run (n : Int) : (runLT [] (valuesOnceX n) 10 [any n]).holds fun y => y.1 = .kb true := by
 rw [← valuesOnce_run_eq]
 exact valuesOnce_needs n
end Gv
