/- Told parts of EnvNow. Printed by gvgen.py. -/
import Derived.Test.YtcmnmceodhambaaGreatDoorGvUEnvNow
import Derived.Test.YtcmnmceodhambaaGreatDoorGvPEnvNow0
set_option linter.unusedSimpArgs false
set_option linter.unusedVariables false
set_option maxRecDepth 100000
open Rx Go
namespace Gv.LEnvNow
open Gv Rd
theorem t47 (n : Int) : aL prog 30 (e47 n) := aD [] (tk (f := 60) (tc 19 (t30 n) (tc 43 (t30 n) (tc 48 (t30 n) (tc 53 (t30 n) ak)))) (tk (f := 45) (tc 32 (t40 n) ak) (tk (f := 63) (tc 33 (t41 n) ak) (tk (f := 66) (tc 34 (t42 n) (tc 35 (t43 n) (tc 36 (t44 n) (tc 37 (t43 n) (tc 38 (t45 n) (tc 39 (t46 n) (tc 40 (t43 n) ak))))))) (tk (f := 127) (tc 43 (t29 n) (tc 48 (t29 n) (tc 53 (t29 n) ak))) au))))) (by kernel_rfl) (by kernel_rfl) (q := qt)
 rfl
 (by kernel_rfl)
theorem t48 (n : Int) : aL prog 127 (e48 n) := aD [] au (by kernel_rfl) (by kernel_rfl) (q := rp ((.mp (.int .i64) .bool [((0 : Int), true), ((2 : Int), true)] : Ob) = .mp (.int .i64) .bool [((0 : Int), true), ((2 : Int), true)]) 1 (qt))
 (dP rfl _ rfl)
 (by kernel_rfl)
theorem t49 (n : Int) : aL prog 60 (e49 n) := aD [] (tk (f := 127) (tc 2 (t48 n) ak) au) (by kernel_rfl) (by kernel_rfl) (q := qt)
 rfl
 (by kernel_rfl)
theorem t50 (n : Int) : aL prog 57 (e50 n) := aD [] (tk (f := 30) (tc 23 (t47 n) ak) (tk (f := 60) (tc 8412 (t30 n) (tc 8480 (t49 n) ak)) au)) (by kernel_rfl) (by kernel_rfl) (q := qt)
 rfl
 (by kernel_rfl)
theorem t51 (n : Int) : aL prog 29 (e51 n) := aD [] (tk (f := 30) (tc 23 (t34 n) (tc 431 (t47 n) ak)) (tk (f := 60) (tc 444 (t30 n) ak) (tk (f := 127) (tc 444 (t29 n) ak) (tk (f := 57) (tc 683 (t50 n) ak) au)))) (by kernel_rfl) (by kernel_rfl) (q := qt)
 rfl
 (by kernel_rfl)
theorem t52 (n : Int) : aL prog 39 (e52 n) := aD [(15, [(ls [(sy s4), (ls [(sy s11), (sy s7)]), (sy s7)]), (ls [(sy s1), (sy s2), (sy s3), (sy s12)]), (ls [(sy s9), (sy s2), (ls [(sy s10), (sy s3)]), (num 1)])])] (tk (f := 22) (tc 15 (t35 n) ak) (tk (f := 28) (tc 19 (t39 n) ak) (tk (f := 29) (tc 27 (t51 n) ak) au))) (by kernel_rfl) (by kernel_rfl) (q := ((s20 ++ aj 1 ++ s21 ++ aj 1 ++ s22).size <= 3000 /\ kY 400 (s20 ++ aj 1 ++ s21 ++ aj 1 ++ s22) = some (RR.mk (lY ([ls [sy (ByteArray.mk (#[100, 101, 102, 105, 110, 101])), ls [sy (ByteArray.mk (#[102, 49])), sy (ByteArray.mk (#[110]))], sy (ByteArray.mk (#[110]))], ls [sy (ByteArray.mk (#[114, 101, 99, 111, 114, 100])), sy (ByteArray.mk (#[112])), sy (ByteArray.mk (#[97])), sy (ByteArray.mk (#[98, 49]))], ls [sy (ByteArray.mk (#[117, 112, 103, 114, 97, 100, 101])), sy (ByteArray.mk (#[112])), ls [sy (ByteArray.mk (#[119, 97, 115])), sy (ByteArray.mk (#[97]))], num 1]])) 0 0) /\ kU ([ls [sy (ByteArray.mk (#[100, 101, 102, 105, 110, 101])), ls [sy (ByteArray.mk (#[102, 49])), sy (ByteArray.mk (#[110]))], sy (ByteArray.mk (#[110]))], ls [sy (ByteArray.mk (#[114, 101, 99, 111, 114, 100])), sy (ByteArray.mk (#[112])), sy (ByteArray.mk (#[97])), sy (ByteArray.mk (#[98, 49]))], ls [sy (ByteArray.mk (#[117, 112, 103, 114, 97, 100, 101])), sy (ByteArray.mk (#[112])), ls [sy (ByteArray.mk (#[119, 97, 115])), sy (ByteArray.mk (#[97]))], num 1]])) /\
 rp (((dxL [(ls [(sy s4), (ls [(sy s11), (sy s7)]), (sy s7)]), (ls [(sy s1), (sy s2), (sy s3), (sy s12)]), (ls [(sy s9), (sy s2), (ls [(sy s10), (sy s3)]), (num 1)])]) : Nat -> Nat -> Dt) = (dxL [(ls [(sy s4), (ls [(sy s11), (sy s7)]), (sy s7)]), (ls [(sy s1), (sy s2), (sy s3), (sy s12)]), (ls [(sy s9), (sy s2), (ls [(sy s10), (sy s3)]), (num 1)])])) 1 (rp (((dxL []) : Nat -> Nat -> Dt) = (dxL [])) 1 (qt)))
 (by
 obtain ⟨h0, h1, h2, h3, h4, h5, h6, h7, h8, h9⟩ := fx n
 refine ⟨tN (by repeat first | exact Bg | apply sV | apply Jo | exact IG (by kernel_rfl) | exact yR (by omega) (by omega) | exact Gs (by omega) (by omega) (by omega) (by omega)) (by simp only [ByteArray.size_append, aG, List.size_toArray, List.length_cons, List.length_nil, List.append_eq, List.length_append, Hw, IK, GX]; omega) (by (simp only [gD, gH, List.append_assoc, List.nil_append, IE, Ih, HV]) <;> kernel_rfl) (by kernel_rfl) (by kernel_rfl) (by kernel_rfl), ?_⟩
 iterate 2 refine dP rfl _ ?_
 rfl
 )
  (by kernel_rfl)
end Gv.LEnvNow
set_option linter.unusedSimpArgs false
set_option linter.unusedVariables false
set_option maxRecDepth 100000
open Rx Go
namespace Gv.LEnvNow
open Gv Rd
theorem t53 (n : Int) : aL prog 30 (e53 n) := aD [] (tk (f := 60) (tc 19 (t49 n) (tc 43 (t49 n) (tc 48 (t49 n) (tc 53 (t49 n) ak)))) (tk (f := 45) (tc 32 (t40 n) ak) (tk (f := 63) (tc 33 (t41 n) ak) (tk (f := 66) (tc 34 (t42 n) (tc 35 (t43 n) (tc 36 (t44 n) (tc 37 (t43 n) (tc 38 (t45 n) (tc 39 (t46 n) (tc 40 (t43 n) ak))))))) (tk (f := 127) (tc 43 (t48 n) (tc 48 (t48 n) (tc 53 (t48 n) ak))) au))))) (by kernel_rfl) (by kernel_rfl) (q := qt)
 rfl
 (by kernel_rfl)
theorem t54 (n : Int) : aL prog 22 (e54 n) := aD [] (tk (f := 30) (tc 20 (t53 n) ak) au) (by kernel_rfl) (by kernel_rfl) (q := qt)
 rfl
 (by kernel_rfl)
theorem t56 (n : Int) (hm : aN n 6 = 3) : aL prog 16 (e56 n) := jQ (by decide) (by decide) hm
theorem t57 (n : Int) : aL prog 45 (e57 n) := aD [] au (by kernel_rfl) (by kernel_rfl) (q := qt)
 rfl
 (by kernel_rfl)
theorem t58 (n : Int) : aL prog 28 (e58 n) := aD [] (tk (f := 45) (tc 5 (t57 n) ak) au) (by kernel_rfl) (by kernel_rfl) (q := rp ((D (.arr 4 2 (dxL [(sy s13), (sy s7)])) : SV) = D (.arr 4 2 (dxL [(sy s13), (sy s7)]))) 1 (rp ((D (.arr 4 2 (dxL [(sy s10), (sy s3)])) : SV) = D (.arr 4 2 (dxL [(sy s10), (sy s3)]))) 1 (rp ((D (.arr 4 3 (fun i j => (dxL [(sy s9), (sy s2), (ls [(sy s10), (sy s3)]), (num 1)]) (i + (Rx.z0 (Option.some (1 : Int))).toNat) (j))) : SV) = D (.arr 4 3 (fun i j => (dxL [(sy s9), (sy s2), (ls [(sy s10), (sy s3)]), (num 1)]) (i + (Rx.z0 (Option.some (1 : Int))).toNat) (j)))) 1 (rp (((dxL []) : Nat -> Nat -> Dt) = (dxL [])) 1 (qt)))))
 (dP rfl _ (dP rfl _ (dP rfl _ (dP rfl _ rfl))))
 (by kernel_rfl)
theorem t59 (n : Int) : aL prog 45 (e59 n) := aD [] au (by kernel_rfl) (by kernel_rfl) (q := qt)
 rfl
 (by kernel_rfl)
theorem t60 (n : Int) : aL prog 63 (e60 n) := aD [] au (by kernel_rfl) (by kernel_rfl) (q := qt)
 rfl
 (by kernel_rfl)
theorem t61 (n : Int) : aL prog 66 (e61 n) := aD [] (tk (f := 60) (tc 20 (t9 n) (tc 38 (t9 n) ak)) (tk (f := 127) (tc 20 (t1 n) (tc 38 (t1 n) ak)) au)) (by kernel_rfl) (by kernel_rfl) (q := qt)
 rfl
 (by kernel_rfl)
theorem t62 (n : Int) : aL prog 66 (e62 n) := aD [] au (by kernel_rfl) (by kernel_rfl) (q := qt)
 rfl
 (by kernel_rfl)
theorem t63 (n : Int) : aL prog 66 (e63 n) := aD [] (tk (f := 60) (tc 20 (t9 n) (tc 38 (t9 n) ak)) (tk (f := 127) (tc 20 (t1 n) (tc 38 (t1 n) ak)) au)) (by kernel_rfl) (by kernel_rfl) (q := qt)
 rfl
 (by kernel_rfl)
theorem t64 (n : Int) : aL prog 66 (e64 n) := aD [] au (by kernel_rfl) (by kernel_rfl) (q := qt)
 rfl
 (by kernel_rfl)
theorem t65 (n : Int) : aL prog 66 (e65 n) := aD [] (tk (f := 60) (tc 20 (t9 n) (tc 38 (t9 n) ak)) (tk (f := 127) (tc 20 (t1 n) (tc 38 (t1 n) ak)) au)) (by kernel_rfl) (by kernel_rfl) (q := qt)
 rfl
 (by kernel_rfl)
end Gv.LEnvNow
set_option linter.unusedSimpArgs false
set_option linter.unusedVariables false
open Rx Go
namespace Gv
open Rd LEnvNow
noncomputable def uS (n : Int) : TL := [(16, [(0, (e37 n))]), (39, [(13, (e14 n)), (24, (e33 n)), (41, (e52 n))]), (22, [(63, (e54 n))])]
def uH (n : Int) : Prop :=
 rp (en (n)) 1 (((((ByteArray.mk (#[40, 100, 101, 102, 105, 110, 101, 32, 40, 102])).size : Nat) : Int) + (((aj 0).size : Nat) : Int) <= 9223372036854775807) /\
 (((((ByteArray.mk (#[40, 100, 101, 102, 105, 110, 101, 32, 40, 102])) ++ aj 0).size : Nat) : Int) + (((ByteArray.mk (#[32, 110, 41, 32, 110, 41, 32, 40, 114, 101, 99, 111, 114, 100, 32, 112, 32, 97, 32, 98])).size : Nat) : Int) <= 9223372036854775807) /\
 (((((ByteArray.mk (#[40, 100, 101, 102, 105, 110, 101, 32, 40, 102])) ++ aj 0 ++ (ByteArray.mk (#[32, 110, 41, 32, 110, 41, 32, 40, 114, 101, 99, 111, 114, 100, 32, 112, 32, 97, 32, 98]))).size : Nat) : Int) + (((aj 0).size : Nat) : Int) <= 9223372036854775807) /\
 (((((ByteArray.mk (#[40, 100, 101, 102, 105, 110, 101, 32, 40, 102])) ++ aj 0 ++ (ByteArray.mk (#[32, 110, 41, 32, 110, 41, 32, 40, 114, 101, 99, 111, 114, 100, 32, 112, 32, 97, 32, 98])) ++ aj 0).size : Nat) : Int) + (((ByteArray.mk (#[41, 32, 40, 117, 112, 103, 114, 97, 100, 101, 32, 112, 32, 40, 119, 97, 115, 32, 97, 41, 32, 49, 41])).size : Nat) : Int) <= 9223372036854775807) /\
 ((((ByteArray.mk (#[40, 100, 101, 102, 105, 110, 101, 32, 40, 102])).size : Nat) : Int) + (((aj 1).size : Nat) : Int) <= 9223372036854775807) /\
 (((((ByteArray.mk (#[40, 100, 101, 102, 105, 110, 101, 32, 40, 102])) ++ aj 1).size : Nat) : Int) + (((ByteArray.mk (#[32, 110, 41, 32, 110, 41, 32, 40, 114, 101, 99, 111, 114, 100, 32, 112, 32, 97, 32, 98])).size : Nat) : Int) <= 9223372036854775807) /\
 (((((ByteArray.mk (#[40, 100, 101, 102, 105, 110, 101, 32, 40, 102])) ++ aj 1 ++ (ByteArray.mk (#[32, 110, 41, 32, 110, 41, 32, 40, 114, 101, 99, 111, 114, 100, 32, 112, 32, 97, 32, 98]))).size : Nat) : Int) + (((aj 1).size : Nat) : Int) <= 9223372036854775807) /\
 (((((ByteArray.mk (#[40, 100, 101, 102, 105, 110, 101, 32, 40, 102])) ++ aj 1 ++ (ByteArray.mk (#[32, 110, 41, 32, 110, 41, 32, 40, 114, 101, 99, 111, 114, 100, 32, 112, 32, 97, 32, 98])) ++ aj 1).size : Nat) : Int) + (((ByteArray.mk (#[41, 32, 40, 117, 112, 103, 114, 97, 100, 101, 32, 112, 32, 40, 119, 97, 115, 32, 97, 41, 32, 49, 41])).size : Nat) : Int) <= 9223372036854775807) /\
 (s20 ++ aj 0 ++ s21 ++ aj 0 ++ s22 = (ByteArray.mk (#[40, 100, 101, 102, 105, 110, 101, 32, 40, 102])) ++ aj 0 ++ (ByteArray.mk (#[32, 110, 41, 32, 110, 41, 32, 40, 114, 101, 99, 111, 114, 100, 32, 112, 32, 97, 32, 98])) ++ aj 0 ++ (ByteArray.mk (#[41, 32, 40, 117, 112, 103, 114, 97, 100, 101, 32, 112, 32, 40, 119, 97, 115, 32, 97, 41, 32, 49, 41]))) /\
 (s20 ++ aj 1 ++ s21 ++ aj 1 ++ s22 = (ByteArray.mk (#[40, 100, 101, 102, 105, 110, 101, 32, 40, 102])) ++ aj 1 ++ (ByteArray.mk (#[32, 110, 41, 32, 110, 41, 32, 40, 114, 101, 99, 111, 114, 100, 32, 112, 32, 97, 32, 98])) ++ aj 1 ++ (ByteArray.mk (#[41, 32, 40, 117, 112, 103, 114, 97, 100, 101, 32, 112, 32, 40, 119, 97, 115, 32, 97, 41, 32, 49, 41]))) /\
 ((((ByteArray.mk (#[102])).size : Nat) : Int) + (((aj 1).size : Nat) : Int) <= 9223372036854775807) /\
 (((s11.data.toList == ((ByteArray.mk (#[102])) ++ aj 1).data.toList) = true -> ((((ByteArray.mk (#[98])).size : Nat) : Int) + (((aj 1).size : Nat) : Int) <= 9223372036854775807) /\
 (((s12.data.toList == ((ByteArray.mk (#[98])) ++ aj 1).data.toList) = true -> qt) /\ ((s12.data.toList == ((ByteArray.mk (#[98])) ++ aj 1).data.toList) = false -> ((SV.kb false : SV) = .kb true)))) /\ ((s11.data.toList == ((ByteArray.mk (#[102])) ++ aj 1).data.toList) = false -> ((SV.kb false : SV) = .kb true))))
set_option maxRecDepth 100000 in
theorem xq (n : Int) : (uH n) = (l6 [] (uS n) 11 [any n]).holds fun y => y.1 = .kb true := by
 kernel_rfl
set_option maxRecDepth 100000 in
theorem yO (n : Int) (hm : aN n 6 = 2) : uH n := by
 obtain ⟨h0, h1, h2, h3, h4, h5, h6, h7, h8, h9⟩ := fx n
 unfold uH
 refine dP rfl _ ?_
 refine ⟨by simp only [ByteArray.size_append, aG, List.size_toArray, List.length_cons, List.length_nil, List.append_eq, List.length_append]; omega, ?_⟩
 refine ⟨by simp only [ByteArray.size_append, aG, List.size_toArray, List.length_cons, List.length_nil, List.append_eq, List.length_append]; omega, ?_⟩
 refine ⟨by simp only [ByteArray.size_append, aG, List.size_toArray, List.length_cons, List.length_nil, List.append_eq, List.length_append]; omega, ?_⟩
 refine ⟨by simp only [ByteArray.size_append, aG, List.size_toArray, List.length_cons, List.length_nil, List.append_eq, List.length_append]; omega, ?_⟩
 refine ⟨by simp only [ByteArray.size_append, aG, List.size_toArray, List.length_cons, List.length_nil, List.append_eq, List.length_append]; omega, ?_⟩
 refine ⟨by simp only [ByteArray.size_append, aG, List.size_toArray, List.length_cons, List.length_nil, List.append_eq, List.length_append]; omega, ?_⟩
 refine ⟨by simp only [ByteArray.size_append, aG, List.size_toArray, List.length_cons, List.length_nil, List.append_eq, List.length_append]; omega, ?_⟩
 refine ⟨by simp only [ByteArray.size_append, aG, List.size_toArray, List.length_cons, List.length_nil, List.append_eq, List.length_append]; omega, ?_⟩
 refine ⟨rfl, ?_⟩
 refine ⟨rfl, ?_⟩
 refine ⟨by simp only [ByteArray.size_append, aG, List.size_toArray, List.length_cons, List.length_nil, List.append_eq, List.length_append]; omega, ?_⟩
 refine ⟨fun _ => ?_, fun h => absurd ((show (s11.data.toList == ((ByteArray.mk (#[102])) ++ aj 1).data.toList) = true by first | exact beq_self_eq_true _ | (rw [beq_iff_eq]; simp only [gD, gH, List.append_assoc, List.nil_append, Wj]; try kernel_rfl)).symm.trans h) (by decide)⟩
 refine ⟨by simp only [ByteArray.size_append, aG, List.size_toArray, List.length_cons, List.length_nil, List.append_eq, List.length_append]; omega, ?_⟩
 refine ⟨fun _ => ?_, fun h => absurd ((show (s12.data.toList == ((ByteArray.mk (#[98])) ++ aj 1).data.toList) = true by first | exact beq_self_eq_true _ | (rw [beq_iff_eq]; simp only [gD, gH, List.append_assoc, List.nil_append, Ww]; try kernel_rfl)).symm.trans h) (by decide)⟩
 rfl
theorem Fq (n : Int) (hm : aN n 6 = 2) : TOk (uS n) := (bO (aR (t37 n hm) ak) (bO (aR (t14 n) (aR (t33 n) (aR (t52 n) ak))) (bO (aR (t54 n) ak) au)))
theorem FU (n : Int) (hm : aN n 6 = 2) : (l6 [] (uS n) 11 [any n]).holds fun y => y.1 = .kb true := by
 rw [← xq]
 exact yO n hm
end Gv
