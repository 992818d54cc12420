/- The run of Stale. Printed by gvgen.py. -/
import Derived.Test.YtcmnmceodhambaaGreatDoorGvUStale
import Derived.Test.YtcmnmceodhambaaGreatDoorGvPStale0
import Derived.Test.YtcmnmceodhambaaGreatDoorGvPStale5
import Derived.Test.YtcmnmceodhambaaGreatDoorGvPStale10
import Derived.Test.YtcmnmceodhambaaGreatDoorGvPStale15
set_option linter.unusedSimpArgs false
set_option linter.unusedVariables false
open Rx Go
namespace Gv
open Rd LStale
noncomputable def Im (n m : Int) : TL := [(39, [(24, (e29 n m)), (67, (e72 n m)), (128, (Wv n m))]), (40, [(39, (e44 n m)), (53, (e52 n m)), (86, (e80 n m)), (90, (e92 n m)), (109, (VW n m)), (150, (Ws n m)), (172, (Vk n m))])]
def IB (n m : Int) : Prop :=
 ((((ByteArray.mk (#[40, 114, 101, 99, 111, 114, 100, 32, 112, 32, 97, 32, 98, 41, 32, 40, 100, 101, 102, 105, 110, 101, 32, 120, 32, 40, 112, 32])).size : Nat) : Int) + (((aC (ah n)).size : Nat) : Int) <= 9223372036854775807) /\
 (((((ByteArray.mk (#[40, 114, 101, 99, 111, 114, 100, 32, 112, 32, 97, 32, 98, 41, 32, 40, 100, 101, 102, 105, 110, 101, 32, 120, 32, 40, 112, 32])) ++ aC (ah n)).size : Nat) : Int) + (((ByteArray.mk (#[32])).size : Nat) : Int) <= 9223372036854775807) /\
 (((((ByteArray.mk (#[40, 114, 101, 99, 111, 114, 100, 32, 112, 32, 97, 32, 98, 41, 32, 40, 100, 101, 102, 105, 110, 101, 32, 120, 32, 40, 112, 32])) ++ aC (ah n) ++ (ByteArray.mk (#[32]))).size : Nat) : Int) + (((aC (ah m)).size : Nat) : Int) <= 9223372036854775807) /\
 (((((ByteArray.mk (#[40, 114, 101, 99, 111, 114, 100, 32, 112, 32, 97, 32, 98, 41, 32, 40, 100, 101, 102, 105, 110, 101, 32, 120, 32, 40, 112, 32])) ++ aC (ah n) ++ (ByteArray.mk (#[32])) ++ aC (ah m)).size : Nat) : Int) + (((ByteArray.mk (([41, 41, 32, 40, 100, 101, 102, 105, 110, 101, 32, 40, 102, 32, 110, 41, 32, 40, 112, 45, 97, 32, 120, 41, 41, 32, 40, 100, 101, 102, 105, 110, 101, 32, 40].append [103, 32, 110, 41, 32, 40, 112, 45, 98, 32, 120, 41, 41, 32, 40, 100, 101, 102, 105, 110, 101, 32, 40, 104, 32, 110, 41, 32, 40, 112, 32, 110, 32, 110, 41, 41]).toArray)).size : Nat) : Int) <= 9223372036854775807) /\
 (s16 ++ aC (ah n) ++ s17 ++ aC (ah m) ++ s18 = (ByteArray.mk (#[40, 114, 101, 99, 111, 114, 100, 32, 112, 32, 97, 32, 98, 41, 32, 40, 100, 101, 102, 105, 110, 101, 32, 120, 32, 40, 112, 32])) ++ aC (ah n) ++ (ByteArray.mk (#[32])) ++ aC (ah m) ++ (ByteArray.mk (([41, 41, 32, 40, 100, 101, 102, 105, 110, 101, 32, 40, 102, 32, 110, 41, 32, 40, 112, 45, 97, 32, 120, 41, 41, 32, 40, 100, 101, 102, 105, 110, 101, 32, 40].append [103, 32, 110, 41, 32, 40, 112, 45, 98, 32, 120, 41, 41, 32, 40, 100, 101, 102, 105, 110, 101, 32, 40, 104, 32, 110, 41, 32, 40, 112, 32, 110, 32, 110, 41, 41]).toArray))) /\
 rp (en (ah m)) 1 (rp (en (ah n)) 1 (rp (en (ah m)) 1 (rp (en (ah n)) 1 (rp (en (ah m)) 1 (rp (en (ah n)) 1 (rp (en (ah m)) 1 (rp (en (ah n)) 1 (rp (en (ah m)) 1 (rp (en (ah n)) 1 (rp (en (ah m)) 1 (rp (en (ah n)) 1 (rp (en (ah m)) 1 (rp (en (ah n)) 1 (rp (en (ah m)) 1 (rp (en (ah n)) 1 (rp (en (ah m)) 1 (rp (en (ah n)) 1 (rp (en (ah m)) 1 (rp (en (ah n)) 1 (rp (en (ah m)) 1 (rp (en (ah n)) 1 (rp (en (ah m)) 2 (rp (en (ah n)) 1 (rp (en (ah m)) 2 (rp (en (ah n)) 1 (rp (en (ah m)) 2 (rp (en (ah n)) 1 (rp (en (ah m)) 2 (rp (en (ah n)) 1 (((((aC (ah n)).data.toList == (aC (ah n)).data.toList) = true -> ((((aC (ah m)).data.toList == (aC (ah m)).data.toList) = true -> ((((aC (ah m)).data.toList == (aC (ah m)).data.toList) = true -> ((((aC (ah m)).data.toList == (aC (ah m)).data.toList) = true -> qt) /\ (((aC (ah m)).data.toList == (aC (ah m)).data.toList) = false -> ((SV.kb false : SV) = .kb true)))) /\ (((aC (ah m)).data.toList == (aC (ah m)).data.toList) = false -> ((SV.kb false : SV) = .kb true)))) /\ (((aC (ah m)).data.toList == (aC (ah m)).data.toList) = false -> ((SV.kb false : SV) = .kb true)))) /\ (((aC (ah n)).data.toList == (aC (ah n)).data.toList) = false -> ((SV.kb false : SV) = .kb true)))))))))))))))))))))))))))))))))
set_option maxRecDepth 100000 in
theorem Dp (n m : Int) : (IB n m) = (PG [] (Im n m) 7 [any n, any m]).holds fun y => y.1 = .kb true := by
 kernel_rfl
set_option maxRecDepth 100000 in
theorem GR (n m : Int) : IB n m := by
 obtain ⟨h0, h1, h2, h3, h4, h5, h6, h7, h8, h9⟩ := fx n m
 unfold IB
 refine ⟨by simp only [ByteArray.size_append, bU, List.size_toArray, List.length_cons, List.length_nil, List.append_eq, List.length_append]; omega, ?_⟩
 refine ⟨by simp only [ByteArray.size_append, bU, List.size_toArray, List.length_cons, List.length_nil, List.append_eq, List.length_append]; omega, ?_⟩
 refine ⟨by simp only [ByteArray.size_append, bU, List.size_toArray, List.length_cons, List.length_nil, List.append_eq, List.length_append]; omega, ?_⟩
 refine ⟨by simp only [ByteArray.size_append, bU, List.size_toArray, List.length_cons, List.length_nil, List.append_eq, List.length_append]; omega, ?_⟩
 refine ⟨rfl, ?_⟩
 iterate 30 refine au rfl _ ?_
 refine ⟨fun _ => ?_, fun h => absurd ((show ((aC (ah n)).data.toList == (aC (ah n)).data.toList) = true by first | exact beq_self_eq_true _ | (rw [beq_iff_eq]; simp only [lU, lH, List.append_assoc, List.nil_append]; try kernel_rfl)).symm.trans h) (by decide)⟩
 refine ⟨fun _ => ?_, fun h => absurd ((show ((aC (ah m)).data.toList == (aC (ah m)).data.toList) = true by first | exact beq_self_eq_true _ | (rw [beq_iff_eq]; simp only [lU, lH, List.append_assoc, List.nil_append]; try kernel_rfl)).symm.trans h) (by decide)⟩
 refine ⟨fun _ => ?_, fun h => absurd ((show ((aC (ah m)).data.toList == (aC (ah m)).data.toList) = true by first | exact beq_self_eq_true _ | (rw [beq_iff_eq]; simp only [lU, lH, List.append_assoc, List.nil_append]; try kernel_rfl)).symm.trans h) (by decide)⟩
 refine ⟨fun _ => ?_, fun h => absurd ((show ((aC (ah m)).data.toList == (aC (ah m)).data.toList) = true by first | exact beq_self_eq_true _ | (rw [beq_iff_eq]; simp only [lU, lH, List.append_assoc, List.nil_append]; try kernel_rfl)).symm.trans h) (by decide)⟩
 rfl
theorem Mw (n m : Int) : TOk (Im n m) := (zf (gV (t29 n m) (gV (t72 n m) (gV (t124 n m) aj))) (zf (gV (t44 n m) (gV (t52 n m) (gV (t80 n m) (gV (t92 n m) (gV (WV n m) (gV (t141 n m) (gV (t146 n m) aj))))))) av))
theorem LZ (n m : Int) : (PG [] (Im n m) 7 [any n, any m]).holds fun y => y.1 = .kb true := by
 rw [← Dp]
 exact GR n m
end Gv
