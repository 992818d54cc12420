/- The run of UpgradeSame. Printed by gvgen.py. -/
import Derived.Test.YtcmnmceodhambaaGreatDoorGvUUpgradeSame
import Derived.Test.YtcmnmceodhambaaGreatDoorGvPUpgradeSame1
import Derived.Test.YtcmnmceodhambaaGreatDoorGvPUpgradeSame3
import Derived.Test.YtcmnmceodhambaaGreatDoorGvPUpgradeSame4
import Derived.Test.YtcmnmceodhambaaGreatDoorGvPUpgradeSame5
set_option linter.unusedSimpArgs false
set_option linter.unusedVariables false
open Rx Go
namespace Gv
open Rd LUpgradeSame
noncomputable def upgradeSameX (n : Int) : TL := [(39, [(14, (e19 n)), (27, (e38 n)), (53, (e52 n))]), (40, [(40, (e49 n)), (57, (e49 n))])]
def upgradeSameQ (n : Int) : Prop :=
 ((((ByteArray.mk (#[40, 114, 101, 99, 111, 114, 100, 32, 112, 32, 97, 41, 32, 40, 100, 101, 102, 105, 110, 101, 32, 120, 32, 40, 112, 32])).size : Nat) : Int) + (((itoaB (pk100 n)).size : Nat) : Int) ≤ 9223372036854775807) ∧
 (((((ByteArray.mk (#[40, 114, 101, 99, 111, 114, 100, 32, 112, 32, 97, 41, 32, 40, 100, 101, 102, 105, 110, 101, 32, 120, 32, 40, 112, 32])) ++ itoaB (pk100 n)).size : Nat) : Int) + (((ByteArray.mk (#[41, 41, 32, 40, 100, 101, 102, 105, 110, 101, 32, 40, 115, 104, 111, 119, 32, 110, 41, 32, 120, 41])).size : Nat) : Int) ≤ 9223372036854775807) ∧
 (s10 ++ itoaB (pk100 n) ++ s11 = (ByteArray.mk (#[40, 114, 101, 99, 111, 114, 100, 32, 112, 32, 97, 41, 32, 40, 100, 101, 102, 105, 110, 101, 32, 120, 32, 40, 112, 32])) ++ itoaB (pk100 n) ++ (ByteArray.mk (#[41, 41, 32, 40, 100, 101, 102, 105, 110, 101, 32, 40, 115, 104, 111, 119, 32, 110, 41, 32, 120, 41]))) ∧
 rp ((pk100 n) = (pk100 n)) 9 (((((itoaB (pk100 n)).data.toList == (itoaB (pk100 n)).data.toList) = true → ((((itoaB (pk100 n)).data.toList == (itoaB (pk100 n)).data.toList) = true → ((SV.kb true : SV) = .kb true)) ∧ (((itoaB (pk100 n)).data.toList == (itoaB (pk100 n)).data.toList) = false → ((SV.kb false : SV) = .kb true)))) ∧ (((itoaB (pk100 n)).data.toList == (itoaB (pk100 n)).data.toList) = false → ((SV.kb false : SV) = .kb true))))
set_option maxRecDepth 100000 in
theorem upgradeSame_run_eq (n : Int) : (upgradeSameQ n) = (runLT [] (upgradeSameX n) 8 [any n]).holds fun y => y.1 = .kb true := by
 kernel_rfl
set_option maxRecDepth 100000 in
theorem upgradeSame_needs (n : Int) : upgradeSameQ n := by
 obtain ⟨hn0, hn1⟩ : 0 ≤ pk100 n ∧ pk100 n < 100 := picked_bounds n (by decide)
 have hnA : (itoaB (pk100 n)).size ≤ 3 := num_size hn0 (by omega)
 have hnP : 0 < (itoaB (pk100 n)).size := num_pos hn0 (by omega)
 unfold upgradeSameQ
 refine ⟨by simp only [ByteArray.size_append, sz_lit, List.size_toArray, List.length_cons, List.length_nil]; omega, ?_⟩
 refine ⟨by simp only [ByteArray.size_append, sz_lit, List.size_toArray, List.length_cons, List.length_nil]; omega, ?_⟩
 refine ⟨rfl, ?_⟩
 refine rp_i rfl 9 ?_
 refine ⟨fun _ => ?_, fun h => absurd ((show ((itoaB (pk100 n)).data.toList == (itoaB (pk100 n)).data.toList) = true by first | exact beq_self_eq_true _ | (rw [beq_iff_eq]; simp only [tl_app, tl_lit, List.append_assoc, List.nil_append]; try kernel_rfl)).symm.trans h) (by decide)⟩
 refine ⟨fun _ => ?_, fun h => absurd ((show ((itoaB (pk100 n)).data.toList == (itoaB (pk100 n)).data.toList) = true by first | exact beq_self_eq_true _ | (rw [beq_iff_eq]; simp only [tl_app, tl_lit, List.append_assoc, List.nil_append]; try kernel_rfl)).symm.trans h) (by decide)⟩
 rfl
theorem upgradeSame_tok (n : Int) : TOk (upgradeSameX n) := (tok_cons (te_cons (t19 n) (te_cons (t38 n) (te_cons (t52 n) te_nil))) (tok_cons (te_cons (t49 n) (te_cons (t49 n) te_nil)) tok_nil))
theorem upgradeSame_run (n : Int) : (runLT [] (upgradeSameX n) 8 [any n]).holds fun y => y.1 = .kb true := by
 rw [← upgradeSame_run_eq]
 exact upgradeSame_needs n
end Gv
