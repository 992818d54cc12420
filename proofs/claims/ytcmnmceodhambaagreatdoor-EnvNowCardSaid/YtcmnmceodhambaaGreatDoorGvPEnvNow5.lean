/- Told parts of EnvNow. Printed by gvgen.py. -/
import Derived.Test.YtcmnmceodhambaaGreatDoorGvUEnvNow
import Derived.Test.YtcmnmceodhambaaGreatDoorGvPEnvNow3
import Derived.Test.YtcmnmceodhambaaGreatDoorGvPEnvNow0
set_option linter.unusedSimpArgs false
set_option linter.unusedVariables false
set_option maxRecDepth 100000
open Rx Go
namespace Gv.LEnvNow
open Gv Rd
theorem t66 (n : Int) : aL prog 30 (e66 n) := aD [] (tk (f := 60) (tc 24 (t49 n) (tc 54 (t49 n) (tc 59 (t49 n) (tc 64 (t49 n) (tc 69 (t49 n) ak))))) (tk (f := 45) (tc 40 (t59 n) ak) (tk (f := 63) (tc 41 (t60 n) ak) (tk (f := 66) (tc 42 (t61 n) (tc 43 (t62 n) (tc 44 (t63 n) (tc 45 (t62 n) (tc 46 (t64 n) (tc 47 (t65 n) (tc 48 (t62 n) (tc 49 (t64 n) (tc 50 (t65 n) (tc 51 (t62 n) ak)))))))))) (tk (f := 127) (tc 54 (t48 n) (tc 59 (t48 n) (tc 64 (t48 n) (tc 69 (t48 n) ak)))) au))))) (by kernel_rfl) (by kernel_rfl) (q := qt)
 rfl
 (by kernel_rfl)
theorem t67 (n : Int) : aL prog 127 (e67 n) := aD [] au (by kernel_rfl) (by kernel_rfl) (q := rp ((.mp (.int .i64) .bool [((0 : Int), true), ((2 : Int), true), ((4 : Int), true)] : Ob) = .mp (.int .i64) .bool [((0 : Int), true), ((2 : Int), true), ((4 : Int), true)]) 1 (qt))
 (dP rfl _ rfl)
 (by kernel_rfl)
theorem t68 (n : Int) : aL prog 60 (e68 n) := aD [] (tk (f := 127) (tc 2 (t67 n) ak) au) (by kernel_rfl) (by kernel_rfl) (q := qt)
 rfl
 (by kernel_rfl)
theorem t69 (n : Int) : aL prog 57 (e69 n) := aD [] (tk (f := 30) (tc 28 (t66 n) ak) (tk (f := 60) (tc 8441 (t49 n) (tc 8509 (t68 n) ak)) au)) (by kernel_rfl) (by kernel_rfl) (q := qt)
 rfl
 (by kernel_rfl)
end Gv.LEnvNow
set_option linter.unusedSimpArgs false
set_option linter.unusedVariables false
set_option maxRecDepth 100000
open Rx Go
namespace Gv.LEnvNow
open Gv Rd
theorem t70 (n : Int) : aL prog 29 (e70 n) := aD [] (tk (f := 30) (tc 28 (t53 n) (tc 461 (t66 n) ak)) (tk (f := 60) (tc 477 (t49 n) ak) (tk (f := 127) (tc 477 (t48 n) ak) (tk (f := 57) (tc 758 (t69 n) ak) au)))) (by kernel_rfl) (by kernel_rfl) (q := qt)
 rfl
 (by kernel_rfl)
end Gv.LEnvNow
set_option linter.unusedSimpArgs false
set_option linter.unusedVariables false
set_option maxRecDepth 100000
open Rx Go
namespace Gv.LEnvNow
open Gv Rd
theorem t71 (n : Int) : aL prog 39 (e71 n) := aD [(20, [(ls [(sy s4), (ls [(sy s13), (sy s7)]), (sy s7)]), (ls [(sy s1), (sy s2), (sy s3), (sy s14)]), (ls [(sy s9), (sy s2), (ls [(sy s10), (sy s3)]), (num 1)])])] (tk (f := 22) (tc 20 (t54 n) ak) (tk (f := 28) (tc 24 (t58 n) ak) (tk (f := 29) (tc 32 (t70 n) ak) au))) (by kernel_rfl) (by kernel_rfl) (q := ((s20 ++ aj 2 ++ s21 ++ aj 2 ++ s22).size <= 3000 /\ kY 400 (s20 ++ aj 2 ++ s21 ++ aj 2 ++ s22) = some (RR.mk (lY ([ls [sy (ByteArray.mk (#[100, 101, 102, 105, 110, 101])), ls [sy (ByteArray.mk (#[102, 50])), sy (ByteArray.mk (#[110]))], sy (ByteArray.mk (#[110]))], ls [sy (ByteArray.mk (#[114, 101, 99, 111, 114, 100])), sy (ByteArray.mk (#[112])), sy (ByteArray.mk (#[97])), sy (ByteArray.mk (#[98, 50]))], ls [sy (ByteArray.mk (#[117, 112, 103, 114, 97, 100, 101])), sy (ByteArray.mk (#[112])), ls [sy (ByteArray.mk (#[119, 97, 115])), sy (ByteArray.mk (#[97]))], num 1]])) 0 0) /\ kU ([ls [sy (ByteArray.mk (#[100, 101, 102, 105, 110, 101])), ls [sy (ByteArray.mk (#[102, 50])), sy (ByteArray.mk (#[110]))], sy (ByteArray.mk (#[110]))], ls [sy (ByteArray.mk (#[114, 101, 99, 111, 114, 100])), sy (ByteArray.mk (#[112])), sy (ByteArray.mk (#[97])), sy (ByteArray.mk (#[98, 50]))], ls [sy (ByteArray.mk (#[117, 112, 103, 114, 97, 100, 101])), sy (ByteArray.mk (#[112])), ls [sy (ByteArray.mk (#[119, 97, 115])), sy (ByteArray.mk (#[97]))], num 1]])) /\
 rp (((dxL [(ls [(sy s4), (ls [(sy s13), (sy s7)]), (sy s7)]), (ls [(sy s1), (sy s2), (sy s3), (sy s14)]), (ls [(sy s9), (sy s2), (ls [(sy s10), (sy s3)]), (num 1)])]) : Nat -> Nat -> Dt) = (dxL [(ls [(sy s4), (ls [(sy s13), (sy s7)]), (sy s7)]), (ls [(sy s1), (sy s2), (sy s3), (sy s14)]), (ls [(sy s9), (sy s2), (ls [(sy s10), (sy s3)]), (num 1)])])) 1 (rp (((dxL []) : Nat -> Nat -> Dt) = (dxL [])) 1 (qt)))
 (by
 obtain ⟨h0, h1, h2, h3, h4, h5, h6, h7, h8, h9⟩ := fx n
 refine ⟨tN (by repeat first | exact Bg | apply sV | apply Jo | exact IG (by kernel_rfl) | exact yR (by omega) (by omega) | exact Gs (by omega) (by omega) (by omega) (by omega)) (by simp only [ByteArray.size_append, aG, List.size_toArray, List.length_cons, List.length_nil, List.append_eq, List.length_append, Hw, IK, GX]; omega) (by (simp only [gD, gH, List.append_assoc, List.nil_append, IE, Ih, HV]) <;> kernel_rfl) (by kernel_rfl) (by kernel_rfl) (by kernel_rfl), ?_⟩
 iterate 2 refine dP rfl _ ?_
 rfl
 )
  (by kernel_rfl)
theorem t72 (n : Int) : aL prog 30 (e72 n) := aD [] (tk (f := 60) (tc 24 (t68 n) (tc 54 (t68 n) (tc 59 (t68 n) (tc 64 (t68 n) (tc 69 (t68 n) ak))))) (tk (f := 45) (tc 40 (t59 n) ak) (tk (f := 63) (tc 41 (t60 n) ak) (tk (f := 66) (tc 42 (t61 n) (tc 43 (t62 n) (tc 44 (t63 n) (tc 45 (t62 n) (tc 46 (t64 n) (tc 47 (t65 n) (tc 48 (t62 n) (tc 49 (t64 n) (tc 50 (t65 n) (tc 51 (t62 n) ak)))))))))) (tk (f := 127) (tc 54 (t67 n) (tc 59 (t67 n) (tc 64 (t67 n) (tc 69 (t67 n) ak)))) au))))) (by kernel_rfl) (by kernel_rfl) (q := qt)
 rfl
 (by kernel_rfl)
theorem t73 (n : Int) : aL prog 22 (e73 n) := aD [] (tk (f := 30) (tc 25 (t72 n) ak) au) (by kernel_rfl) (by kernel_rfl) (q := qt)
 rfl
 (by kernel_rfl)
theorem t75 (n : Int) (hm : aN n 6 = 4) : aL prog 16 (e75 n) := jQ (by decide) (by decide) hm
theorem t76 (n : Int) : aL prog 45 (e76 n) := aD [] au (by kernel_rfl) (by kernel_rfl) (q := qt)
 rfl
 (by kernel_rfl)
theorem t77 (n : Int) : aL prog 28 (e77 n) := aD [] (tk (f := 45) (tc 5 (t76 n) ak) au) (by kernel_rfl) (by kernel_rfl) (q := rp ((D (.arr 4 2 (dxL [(sy s15), (sy s7)])) : SV) = D (.arr 4 2 (dxL [(sy s15), (sy s7)]))) 1 (rp ((D (.arr 4 2 (dxL [(sy s10), (sy s3)])) : SV) = D (.arr 4 2 (dxL [(sy s10), (sy s3)]))) 1 (rp ((D (.arr 4 3 (fun i j => (dxL [(sy s9), (sy s2), (ls [(sy s10), (sy s3)]), (num 1)]) (i + (Rx.z0 (Option.some (1 : Int))).toNat) (j))) : SV) = D (.arr 4 3 (fun i j => (dxL [(sy s9), (sy s2), (ls [(sy s10), (sy s3)]), (num 1)]) (i + (Rx.z0 (Option.some (1 : Int))).toNat) (j)))) 1 (rp (((dxL []) : Nat -> Nat -> Dt) = (dxL [])) 1 (qt)))))
 (dP rfl _ (dP rfl _ (dP rfl _ (dP rfl _ rfl))))
 (by kernel_rfl)
theorem t78 (n : Int) : aL prog 45 (e78 n) := aD [] au (by kernel_rfl) (by kernel_rfl) (q := qt)
 rfl
 (by kernel_rfl)
theorem t79 (n : Int) : aL prog 63 (e79 n) := aD [] au (by kernel_rfl) (by kernel_rfl) (q := qt)
 rfl
 (by kernel_rfl)
theorem t80 (n : Int) : aL prog 66 (e80 n) := aD [] (tk (f := 60) (tc 20 (t9 n) (tc 38 (t9 n) ak)) (tk (f := 127) (tc 20 (t1 n) (tc 38 (t1 n) ak)) au)) (by kernel_rfl) (by kernel_rfl) (q := qt)
 rfl
 (by kernel_rfl)
theorem t81 (n : Int) : aL prog 66 (e81 n) := aD [] au (by kernel_rfl) (by kernel_rfl) (q := qt)
 rfl
 (by kernel_rfl)
theorem t82 (n : Int) : aL prog 66 (e82 n) := aD [] (tk (f := 60) (tc 20 (t9 n) (tc 38 (t9 n) ak)) (tk (f := 127) (tc 20 (t1 n) (tc 38 (t1 n) ak)) au)) (by kernel_rfl) (by kernel_rfl) (q := qt)
 rfl
 (by kernel_rfl)
theorem t83 (n : Int) : aL prog 66 (e83 n) := aD [] au (by kernel_rfl) (by kernel_rfl) (q := qt)
 rfl
 (by kernel_rfl)
theorem t84 (n : Int) : aL prog 66 (e84 n) := aD [] (tk (f := 60) (tc 20 (t9 n) (tc 38 (t9 n) ak)) (tk (f := 127) (tc 20 (t1 n) (tc 38 (t1 n) ak)) au)) (by kernel_rfl) (by kernel_rfl) (q := qt)
 rfl
 (by kernel_rfl)
end Gv.LEnvNow
set_option linter.unusedSimpArgs false
set_option linter.unusedVariables false
open Rx Go
namespace Gv
open Rd LEnvNow
noncomputable def vU (n : Int) : TL := [(16, [(0, (e56 n))]), (39, [(16, (e14 n)), (27, (e33 n)), (44, (e52 n)), (66, (e71 n))]), (22, [(93, (e73 n))])]
def vD (n : Int) : Prop :=
 rp (en (n)) 1 (((((ByteArray.mk (#[40, 100, 101, 102, 105, 110, 101, 32, 40, 102])).size : Nat) : Int) + (((aj 0).size : Nat) : Int) <= 9223372036854775807) /\
 (((((ByteArray.mk (#[40, 100, 101, 102, 105, 110, 101, 32, 40, 102])) ++ aj 0).size : Nat) : Int) + (((ByteArray.mk (#[32, 110, 41, 32, 110, 41, 32, 40, 114, 101, 99, 111, 114, 100, 32, 112, 32, 97, 32, 98])).size : Nat) : Int) <= 9223372036854775807) /\
 (((((ByteArray.mk (#[40, 100, 101, 102, 105, 110, 101, 32, 40, 102])) ++ aj 0 ++ (ByteArray.mk (#[32, 110, 41, 32, 110, 41, 32, 40, 114, 101, 99, 111, 114, 100, 32, 112, 32, 97, 32, 98]))).size : Nat) : Int) + (((aj 0).size : Nat) : Int) <= 9223372036854775807) /\
 (((((ByteArray.mk (#[40, 100, 101, 102, 105, 110, 101, 32, 40, 102])) ++ aj 0 ++ (ByteArray.mk (#[32, 110, 41, 32, 110, 41, 32, 40, 114, 101, 99, 111, 114, 100, 32, 112, 32, 97, 32, 98])) ++ aj 0).size : Nat) : Int) + (((ByteArray.mk (#[41, 32, 40, 117, 112, 103, 114, 97, 100, 101, 32, 112, 32, 40, 119, 97, 115, 32, 97, 41, 32, 49, 41])).size : Nat) : Int) <= 9223372036854775807) /\
 ((((ByteArray.mk (#[40, 100, 101, 102, 105, 110, 101, 32, 40, 102])).size : Nat) : Int) + (((aj 1).size : Nat) : Int) <= 9223372036854775807) /\
 (((((ByteArray.mk (#[40, 100, 101, 102, 105, 110, 101, 32, 40, 102])) ++ aj 1).size : Nat) : Int) + (((ByteArray.mk (#[32, 110, 41, 32, 110, 41, 32, 40, 114, 101, 99, 111, 114, 100, 32, 112, 32, 97, 32, 98])).size : Nat) : Int) <= 9223372036854775807) /\
 (((((ByteArray.mk (#[40, 100, 101, 102, 105, 110, 101, 32, 40, 102])) ++ aj 1 ++ (ByteArray.mk (#[32, 110, 41, 32, 110, 41, 32, 40, 114, 101, 99, 111, 114, 100, 32, 112, 32, 97, 32, 98]))).size : Nat) : Int) + (((aj 1).size : Nat) : Int) <= 9223372036854775807) /\
 (((((ByteArray.mk (#[40, 100, 101, 102, 105, 110, 101, 32, 40, 102])) ++ aj 1 ++ (ByteArray.mk (#[32, 110, 41, 32, 110, 41, 32, 40, 114, 101, 99, 111, 114, 100, 32, 112, 32, 97, 32, 98])) ++ aj 1).size : Nat) : Int) + (((ByteArray.mk (#[41, 32, 40, 117, 112, 103, 114, 97, 100, 101, 32, 112, 32, 40, 119, 97, 115, 32, 97, 41, 32, 49, 41])).size : Nat) : Int) <= 9223372036854775807) /\
 ((((ByteArray.mk (#[40, 100, 101, 102, 105, 110, 101, 32, 40, 102])).size : Nat) : Int) + (((aj 2).size : Nat) : Int) <= 9223372036854775807) /\
 (((((ByteArray.mk (#[40, 100, 101, 102, 105, 110, 101, 32, 40, 102])) ++ aj 2).size : Nat) : Int) + (((ByteArray.mk (#[32, 110, 41, 32, 110, 41, 32, 40, 114, 101, 99, 111, 114, 100, 32, 112, 32, 97, 32, 98])).size : Nat) : Int) <= 9223372036854775807) /\
 (((((ByteArray.mk (#[40, 100, 101, 102, 105, 110, 101, 32, 40, 102])) ++ aj 2 ++ (ByteArray.mk (#[32, 110, 41, 32, 110, 41, 32, 40, 114, 101, 99, 111, 114, 100, 32, 112, 32, 97, 32, 98]))).size : Nat) : Int) + (((aj 2).size : Nat) : Int) <= 9223372036854775807) /\
 (((((ByteArray.mk (#[40, 100, 101, 102, 105, 110, 101, 32, 40, 102])) ++ aj 2 ++ (ByteArray.mk (#[32, 110, 41, 32, 110, 41, 32, 40, 114, 101, 99, 111, 114, 100, 32, 112, 32, 97, 32, 98])) ++ aj 2).size : Nat) : Int) + (((ByteArray.mk (#[41, 32, 40, 117, 112, 103, 114, 97, 100, 101, 32, 112, 32, 40, 119, 97, 115, 32, 97, 41, 32, 49, 41])).size : Nat) : Int) <= 9223372036854775807) /\
 (s20 ++ aj 0 ++ s21 ++ aj 0 ++ s22 = (ByteArray.mk (#[40, 100, 101, 102, 105, 110, 101, 32, 40, 102])) ++ aj 0 ++ (ByteArray.mk (#[32, 110, 41, 32, 110, 41, 32, 40, 114, 101, 99, 111, 114, 100, 32, 112, 32, 97, 32, 98])) ++ aj 0 ++ (ByteArray.mk (#[41, 32, 40, 117, 112, 103, 114, 97, 100, 101, 32, 112, 32, 40, 119, 97, 115, 32, 97, 41, 32, 49, 41]))) /\
 (s20 ++ aj 1 ++ s21 ++ aj 1 ++ s22 = (ByteArray.mk (#[40, 100, 101, 102, 105, 110, 101, 32, 40, 102])) ++ aj 1 ++ (ByteArray.mk (#[32, 110, 41, 32, 110, 41, 32, 40, 114, 101, 99, 111, 114, 100, 32, 112, 32, 97, 32, 98])) ++ aj 1 ++ (ByteArray.mk (#[41, 32, 40, 117, 112, 103, 114, 97, 100, 101, 32, 112, 32, 40, 119, 97, 115, 32, 97, 41, 32, 49, 41]))) /\
 (s20 ++ aj 2 ++ s21 ++ aj 2 ++ s22 = (ByteArray.mk (#[40, 100, 101, 102, 105, 110, 101, 32, 40, 102])) ++ aj 2 ++ (ByteArray.mk (#[32, 110, 41, 32, 110, 41, 32, 40, 114, 101, 99, 111, 114, 100, 32, 112, 32, 97, 32, 98])) ++ aj 2 ++ (ByteArray.mk (#[41, 32, 40, 117, 112, 103, 114, 97, 100, 101, 32, 112, 32, 40, 119, 97, 115, 32, 97, 41, 32, 49, 41]))) /\
 ((((ByteArray.mk (#[102])).size : Nat) : Int) + (((aj 2).size : Nat) : Int) <= 9223372036854775807) /\
 (((s13.data.toList == ((ByteArray.mk (#[102])) ++ aj 2).data.toList) = true -> ((((ByteArray.mk (#[98])).size : Nat) : Int) + (((aj 2).size : Nat) : Int) <= 9223372036854775807) /\
 (((s14.data.toList == ((ByteArray.mk (#[98])) ++ aj 2).data.toList) = true -> qt) /\ ((s14.data.toList == ((ByteArray.mk (#[98])) ++ aj 2).data.toList) = false -> ((SV.kb false : SV) = .kb true)))) /\ ((s13.data.toList == ((ByteArray.mk (#[102])) ++ aj 2).data.toList) = false -> ((SV.kb false : SV) = .kb true))))
set_option maxRecDepth 100000 in
theorem xD (n : Int) : (vD n) = (l6 [] (vU n) 11 [any n]).holds fun y => y.1 = .kb true := by
 kernel_rfl
set_option maxRecDepth 100000 in
theorem Bn (n : Int) (hm : aN n 6 = 3) : vD n := by
 obtain ⟨h0, h1, h2, h3, h4, h5, h6, h7, h8, h9⟩ := fx n
 unfold vD
 refine dP rfl _ ?_
 refine ⟨by simp only [ByteArray.size_append, aG, List.size_toArray, List.length_cons, List.length_nil, List.append_eq, List.length_append]; omega, ?_⟩
 refine ⟨by simp only [ByteArray.size_append, aG, List.size_toArray, List.length_cons, List.length_nil, List.append_eq, List.length_append]; omega, ?_⟩
 refine ⟨by simp only [ByteArray.size_append, aG, List.size_toArray, List.length_cons, List.length_nil, List.append_eq, List.length_append]; omega, ?_⟩
 refine ⟨by simp only [ByteArray.size_append, aG, List.size_toArray, List.length_cons, List.length_nil, List.append_eq, List.length_append]; omega, ?_⟩
 refine ⟨by simp only [ByteArray.size_append, aG, List.size_toArray, List.length_cons, List.length_nil, List.append_eq, List.length_append]; omega, ?_⟩
 refine ⟨by simp only [ByteArray.size_append, aG, List.size_toArray, List.length_cons, List.length_nil, List.append_eq, List.length_append]; omega, ?_⟩
 refine ⟨by simp only [ByteArray.size_append, aG, List.size_toArray, List.length_cons, List.length_nil, List.append_eq, List.length_append]; omega, ?_⟩
 refine ⟨by simp only [ByteArray.size_append, aG, List.size_toArray, List.length_cons, List.length_nil, List.append_eq, List.length_append]; omega, ?_⟩
 refine ⟨by simp only [ByteArray.size_append, aG, List.size_toArray, List.length_cons, List.length_nil, List.append_eq, List.length_append]; omega, ?_⟩
 refine ⟨by simp only [ByteArray.size_append, aG, List.size_toArray, List.length_cons, List.length_nil, List.append_eq, List.length_append]; omega, ?_⟩
 refine ⟨by simp only [ByteArray.size_append, aG, List.size_toArray, List.length_cons, List.length_nil, List.append_eq, List.length_append]; omega, ?_⟩
 refine ⟨by simp only [ByteArray.size_append, aG, List.size_toArray, List.length_cons, List.length_nil, List.append_eq, List.length_append]; omega, ?_⟩
 refine ⟨rfl, ?_⟩
 refine ⟨rfl, ?_⟩
 refine ⟨rfl, ?_⟩
 refine ⟨by simp only [ByteArray.size_append, aG, List.size_toArray, List.length_cons, List.length_nil, List.append_eq, List.length_append]; omega, ?_⟩
 refine ⟨fun _ => ?_, fun h => absurd ((show (s13.data.toList == ((ByteArray.mk (#[102])) ++ aj 2).data.toList) = true by first | exact beq_self_eq_true _ | (rw [beq_iff_eq]; simp only [gD, gH, List.append_assoc, List.nil_append, W9]; try kernel_rfl)).symm.trans h) (by decide)⟩
 refine ⟨by simp only [ByteArray.size_append, aG, List.size_toArray, List.length_cons, List.length_nil, List.append_eq, List.length_append]; omega, ?_⟩
 refine ⟨fun _ => ?_, fun h => absurd ((show (s14.data.toList == ((ByteArray.mk (#[98])) ++ aj 2).data.toList) = true by first | exact beq_self_eq_true _ | (rw [beq_iff_eq]; simp only [gD, gH, List.append_assoc, List.nil_append, WC]; try kernel_rfl)).symm.trans h) (by decide)⟩
 rfl
theorem FV (n : Int) (hm : aN n 6 = 3) : TOk (vU n) := (bO (aR (t56 n hm) ak) (bO (aR (t14 n) (aR (t33 n) (aR (t52 n) (aR (t71 n) ak)))) (bO (aR (t73 n) ak) au)))
theorem EK (n : Int) (hm : aN n 6 = 3) : (l6 [] (vU n) 11 [any n]).holds fun y => y.1 = .kb true := by
 rw [← xD]
 exact Bn n hm
end Gv
