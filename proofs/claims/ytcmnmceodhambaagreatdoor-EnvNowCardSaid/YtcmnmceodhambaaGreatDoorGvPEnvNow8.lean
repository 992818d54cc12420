/- Told parts of EnvNow. Printed by gvgen.py. -/
import Derived.Test.YtcmnmceodhambaaGreatDoorGvUEnvNow
import Derived.Test.YtcmnmceodhambaaGreatDoorGvPEnvNow5
import Derived.Test.YtcmnmceodhambaaGreatDoorGvPEnvNow0
import Derived.Test.YtcmnmceodhambaaGreatDoorGvPEnvNow3
set_option linter.unusedSimpArgs false
set_option linter.unusedVariables false
set_option maxRecDepth 100000
open Rx Go
namespace Gv.LEnvNow
open Gv Rd
theorem t85 (n : Int) : aL prog 30 (e85 n) := aD [] (tk (f := 60) (tc 29 (t68 n) (tc 65 (t68 n) (tc 70 (t68 n) (tc 75 (t68 n) (tc 80 (t68 n) (tc 85 (t68 n) ak)))))) (tk (f := 45) (tc 48 (t78 n) ak) (tk (f := 63) (tc 49 (t79 n) ak) (tk (f := 66) (tc 50 (t80 n) (tc 51 (t81 n) (tc 52 (t82 n) (tc 53 (t81 n) (tc 54 (t83 n) (tc 55 (t84 n) (tc 56 (t81 n) (tc 57 (t83 n) (tc 58 (t84 n) (tc 59 (t81 n) (tc 60 (t83 n) (tc 61 (t84 n) (tc 62 (t81 n) ak))))))))))))) (tk (f := 127) (tc 65 (t67 n) (tc 70 (t67 n) (tc 75 (t67 n) (tc 80 (t67 n) (tc 85 (t67 n) ak))))) au))))) (by kernel_rfl) (by kernel_rfl) (q := qt)
 rfl
 (by kernel_rfl)
theorem t86 (n : Int) : aL prog 127 (e86 n) := aD [] au (by kernel_rfl) (by kernel_rfl) (q := rp ((.mp (.int .i64) .bool [((0 : Int), true), ((2 : Int), true), ((4 : Int), true), ((6 : Int), true)] : Ob) = .mp (.int .i64) .bool [((0 : Int), true), ((2 : Int), true), ((4 : Int), true), ((6 : Int), true)]) 1 (qt))
 (dP rfl _ rfl)
 (by kernel_rfl)
theorem t87 (n : Int) : aL prog 60 (e87 n) := aD [] (tk (f := 127) (tc 2 (t86 n) ak) au) (by kernel_rfl) (by kernel_rfl) (q := qt)
 rfl
 (by kernel_rfl)
theorem t88 (n : Int) : aL prog 57 (e88 n) := aD [] (tk (f := 30) (tc 33 (t85 n) ak) (tk (f := 60) (tc 8470 (t68 n) (tc 8538 (t87 n) ak)) au)) (by kernel_rfl) (by kernel_rfl) (q := qt)
 rfl
 (by kernel_rfl)
end Gv.LEnvNow
set_option linter.unusedSimpArgs false
set_option linter.unusedVariables false
set_option maxRecDepth 100000
open Rx Go
namespace Gv.LEnvNow
open Gv Rd
theorem t89 (n : Int) : aL prog 29 (e89 n) := aD [] (tk (f := 30) (tc 33 (t72 n) (tc 491 (t85 n) ak)) (tk (f := 60) (tc 510 (t68 n) ak) (tk (f := 127) (tc 510 (t67 n) ak) (tk (f := 57) (tc 833 (t88 n) ak) au)))) (by kernel_rfl) (by kernel_rfl) (q := qt)
 rfl
 (by kernel_rfl)
end Gv.LEnvNow
set_option linter.unusedSimpArgs false
set_option linter.unusedVariables false
set_option maxRecDepth 100000
open Rx Go
namespace Gv.LEnvNow
open Gv Rd
theorem t90 (n : Int) : aL prog 39 (e90 n) := aD [(25, [(ls [(sy s4), (ls [(sy s15), (sy s7)]), (sy s7)]), (ls [(sy s1), (sy s2), (sy s3), (sy s16)]), (ls [(sy s9), (sy s2), (ls [(sy s10), (sy s3)]), (num 1)])])] (tk (f := 22) (tc 25 (t73 n) ak) (tk (f := 28) (tc 29 (t77 n) ak) (tk (f := 29) (tc 37 (t89 n) ak) au))) (by kernel_rfl) (by kernel_rfl) (q := ((s20 ++ aj 3 ++ s21 ++ aj 3 ++ s22).size <= 3000 /\ kY 400 (s20 ++ aj 3 ++ s21 ++ aj 3 ++ s22) = some (RR.mk (lY ([ls [sy (ByteArray.mk (#[100, 101, 102, 105, 110, 101])), ls [sy (ByteArray.mk (#[102, 51])), sy (ByteArray.mk (#[110]))], sy (ByteArray.mk (#[110]))], ls [sy (ByteArray.mk (#[114, 101, 99, 111, 114, 100])), sy (ByteArray.mk (#[112])), sy (ByteArray.mk (#[97])), sy (ByteArray.mk (#[98, 51]))], ls [sy (ByteArray.mk (#[117, 112, 103, 114, 97, 100, 101])), sy (ByteArray.mk (#[112])), ls [sy (ByteArray.mk (#[119, 97, 115])), sy (ByteArray.mk (#[97]))], num 1]])) 0 0) /\ kU ([ls [sy (ByteArray.mk (#[100, 101, 102, 105, 110, 101])), ls [sy (ByteArray.mk (#[102, 51])), sy (ByteArray.mk (#[110]))], sy (ByteArray.mk (#[110]))], ls [sy (ByteArray.mk (#[114, 101, 99, 111, 114, 100])), sy (ByteArray.mk (#[112])), sy (ByteArray.mk (#[97])), sy (ByteArray.mk (#[98, 51]))], ls [sy (ByteArray.mk (#[117, 112, 103, 114, 97, 100, 101])), sy (ByteArray.mk (#[112])), ls [sy (ByteArray.mk (#[119, 97, 115])), sy (ByteArray.mk (#[97]))], num 1]])) /\
 rp (((dxL [(ls [(sy s4), (ls [(sy s15), (sy s7)]), (sy s7)]), (ls [(sy s1), (sy s2), (sy s3), (sy s16)]), (ls [(sy s9), (sy s2), (ls [(sy s10), (sy s3)]), (num 1)])]) : Nat -> Nat -> Dt) = (dxL [(ls [(sy s4), (ls [(sy s15), (sy s7)]), (sy s7)]), (ls [(sy s1), (sy s2), (sy s3), (sy s16)]), (ls [(sy s9), (sy s2), (ls [(sy s10), (sy s3)]), (num 1)])])) 1 (rp (((dxL []) : Nat -> Nat -> Dt) = (dxL [])) 1 (qt)))
 (by
 obtain ⟨h0, h1, h2, h3, h4, h5, h6, h7, h8, h9⟩ := fx n
 refine ⟨tN (by repeat first | exact Bg | apply sV | apply Jo | exact IG (by kernel_rfl) | exact yR (by omega) (by omega) | exact Gs (by omega) (by omega) (by omega) (by omega)) (by simp only [ByteArray.size_append, aG, List.size_toArray, List.length_cons, List.length_nil, List.append_eq, List.length_append, Hw, IK, GX]; omega) (by (simp only [gD, gH, List.append_assoc, List.nil_append, IE, Ih, HV]) <;> kernel_rfl) (by kernel_rfl) (by kernel_rfl) (by kernel_rfl), ?_⟩
 iterate 2 refine dP rfl _ ?_
 rfl
 )
  (by kernel_rfl)
theorem t91 (n : Int) : aL prog 30 (e91 n) := aD [] (tk (f := 60) (tc 29 (t87 n) (tc 65 (t87 n) (tc 70 (t87 n) (tc 75 (t87 n) (tc 80 (t87 n) (tc 85 (t87 n) ak)))))) (tk (f := 45) (tc 48 (t78 n) ak) (tk (f := 63) (tc 49 (t79 n) ak) (tk (f := 66) (tc 50 (t80 n) (tc 51 (t81 n) (tc 52 (t82 n) (tc 53 (t81 n) (tc 54 (t83 n) (tc 55 (t84 n) (tc 56 (t81 n) (tc 57 (t83 n) (tc 58 (t84 n) (tc 59 (t81 n) (tc 60 (t83 n) (tc 61 (t84 n) (tc 62 (t81 n) ak))))))))))))) (tk (f := 127) (tc 65 (t86 n) (tc 70 (t86 n) (tc 75 (t86 n) (tc 80 (t86 n) (tc 85 (t86 n) ak))))) au))))) (by kernel_rfl) (by kernel_rfl) (q := qt)
 rfl
 (by kernel_rfl)
theorem t92 (n : Int) : aL prog 22 (e92 n) := aD [] (tk (f := 30) (tc 30 (t91 n) ak) au) (by kernel_rfl) (by kernel_rfl) (q := qt)
 rfl
 (by kernel_rfl)
theorem t94 (n : Int) (hm : aN n 6 = 5) : aL prog 16 (e94 n) := jQ (by decide) (by decide) hm
theorem t95 (n : Int) : aL prog 45 (e95 n) := aD [] au (by kernel_rfl) (by kernel_rfl) (q := qt)
 rfl
 (by kernel_rfl)
theorem t96 (n : Int) : aL prog 28 (e96 n) := aD [] (tk (f := 45) (tc 5 (t95 n) ak) au) (by kernel_rfl) (by kernel_rfl) (q := rp ((D (.arr 4 2 (dxL [(sy s17), (sy s7)])) : SV) = D (.arr 4 2 (dxL [(sy s17), (sy s7)]))) 1 (rp ((D (.arr 4 2 (dxL [(sy s10), (sy s3)])) : SV) = D (.arr 4 2 (dxL [(sy s10), (sy s3)]))) 1 (rp ((D (.arr 4 3 (fun i j => (dxL [(sy s9), (sy s2), (ls [(sy s10), (sy s3)]), (num 1)]) (i + (Rx.z0 (Option.some (1 : Int))).toNat) (j))) : SV) = D (.arr 4 3 (fun i j => (dxL [(sy s9), (sy s2), (ls [(sy s10), (sy s3)]), (num 1)]) (i + (Rx.z0 (Option.some (1 : Int))).toNat) (j)))) 1 (rp (((dxL []) : Nat -> Nat -> Dt) = (dxL [])) 1 (qt)))))
 (dP rfl _ (dP rfl _ (dP rfl _ (dP rfl _ rfl))))
 (by kernel_rfl)
theorem t97 (n : Int) : aL prog 45 (e97 n) := aD [] au (by kernel_rfl) (by kernel_rfl) (q := qt)
 rfl
 (by kernel_rfl)
theorem t98 (n : Int) : aL prog 63 (e98 n) := aD [] au (by kernel_rfl) (by kernel_rfl) (q := qt)
 rfl
 (by kernel_rfl)
theorem t99 (n : Int) : aL prog 66 (e99 n) := aD [] (tk (f := 60) (tc 20 (t9 n) (tc 38 (t9 n) ak)) (tk (f := 127) (tc 20 (t1 n) (tc 38 (t1 n) ak)) au)) (by kernel_rfl) (by kernel_rfl) (q := qt)
 rfl
 (by kernel_rfl)
theorem xM (n : Int) : aL prog 66 (e100 n) := aD [] au (by kernel_rfl) (by kernel_rfl) (q := qt)
 rfl
 (by kernel_rfl)
end Gv.LEnvNow
set_option linter.unusedSimpArgs false
set_option linter.unusedVariables false
open Rx Go
namespace Gv
open Rd LEnvNow
noncomputable def vY (n : Int) : TL := [(16, [(0, (e75 n))]), (39, [(19, (e14 n)), (30, (e33 n)), (47, (e52 n)), (69, (e71 n)), (96, (e90 n))]), (22, [(128, (e92 n))])]
def uO (n : Int) : Prop :=
 rp (en (n)) 1 (((((ByteArray.mk (#[40, 100, 101, 102, 105, 110, 101, 32, 40, 102])).size : Nat) : Int) + (((aj 0).size : Nat) : Int) <= 9223372036854775807) /\
 (((((ByteArray.mk (#[40, 100, 101, 102, 105, 110, 101, 32, 40, 102])) ++ aj 0).size : Nat) : Int) + (((ByteArray.mk (#[32, 110, 41, 32, 110, 41, 32, 40, 114, 101, 99, 111, 114, 100, 32, 112, 32, 97, 32, 98])).size : Nat) : Int) <= 9223372036854775807) /\
 (((((ByteArray.mk (#[40, 100, 101, 102, 105, 110, 101, 32, 40, 102])) ++ aj 0 ++ (ByteArray.mk (#[32, 110, 41, 32, 110, 41, 32, 40, 114, 101, 99, 111, 114, 100, 32, 112, 32, 97, 32, 98]))).size : Nat) : Int) + (((aj 0).size : Nat) : Int) <= 9223372036854775807) /\
 (((((ByteArray.mk (#[40, 100, 101, 102, 105, 110, 101, 32, 40, 102])) ++ aj 0 ++ (ByteArray.mk (#[32, 110, 41, 32, 110, 41, 32, 40, 114, 101, 99, 111, 114, 100, 32, 112, 32, 97, 32, 98])) ++ aj 0).size : Nat) : Int) + (((ByteArray.mk (#[41, 32, 40, 117, 112, 103, 114, 97, 100, 101, 32, 112, 32, 40, 119, 97, 115, 32, 97, 41, 32, 49, 41])).size : Nat) : Int) <= 9223372036854775807) /\
 ((((ByteArray.mk (#[40, 100, 101, 102, 105, 110, 101, 32, 40, 102])).size : Nat) : Int) + (((aj 1).size : Nat) : Int) <= 9223372036854775807) /\
 (((((ByteArray.mk (#[40, 100, 101, 102, 105, 110, 101, 32, 40, 102])) ++ aj 1).size : Nat) : Int) + (((ByteArray.mk (#[32, 110, 41, 32, 110, 41, 32, 40, 114, 101, 99, 111, 114, 100, 32, 112, 32, 97, 32, 98])).size : Nat) : Int) <= 9223372036854775807) /\
 (((((ByteArray.mk (#[40, 100, 101, 102, 105, 110, 101, 32, 40, 102])) ++ aj 1 ++ (ByteArray.mk (#[32, 110, 41, 32, 110, 41, 32, 40, 114, 101, 99, 111, 114, 100, 32, 112, 32, 97, 32, 98]))).size : Nat) : Int) + (((aj 1).size : Nat) : Int) <= 9223372036854775807) /\
 (((((ByteArray.mk (#[40, 100, 101, 102, 105, 110, 101, 32, 40, 102])) ++ aj 1 ++ (ByteArray.mk (#[32, 110, 41, 32, 110, 41, 32, 40, 114, 101, 99, 111, 114, 100, 32, 112, 32, 97, 32, 98])) ++ aj 1).size : Nat) : Int) + (((ByteArray.mk (#[41, 32, 40, 117, 112, 103, 114, 97, 100, 101, 32, 112, 32, 40, 119, 97, 115, 32, 97, 41, 32, 49, 41])).size : Nat) : Int) <= 9223372036854775807) /\
 ((((ByteArray.mk (#[40, 100, 101, 102, 105, 110, 101, 32, 40, 102])).size : Nat) : Int) + (((aj 2).size : Nat) : Int) <= 9223372036854775807) /\
 (((((ByteArray.mk (#[40, 100, 101, 102, 105, 110, 101, 32, 40, 102])) ++ aj 2).size : Nat) : Int) + (((ByteArray.mk (#[32, 110, 41, 32, 110, 41, 32, 40, 114, 101, 99, 111, 114, 100, 32, 112, 32, 97, 32, 98])).size : Nat) : Int) <= 9223372036854775807) /\
 (((((ByteArray.mk (#[40, 100, 101, 102, 105, 110, 101, 32, 40, 102])) ++ aj 2 ++ (ByteArray.mk (#[32, 110, 41, 32, 110, 41, 32, 40, 114, 101, 99, 111, 114, 100, 32, 112, 32, 97, 32, 98]))).size : Nat) : Int) + (((aj 2).size : Nat) : Int) <= 9223372036854775807) /\
 (((((ByteArray.mk (#[40, 100, 101, 102, 105, 110, 101, 32, 40, 102])) ++ aj 2 ++ (ByteArray.mk (#[32, 110, 41, 32, 110, 41, 32, 40, 114, 101, 99, 111, 114, 100, 32, 112, 32, 97, 32, 98])) ++ aj 2).size : Nat) : Int) + (((ByteArray.mk (#[41, 32, 40, 117, 112, 103, 114, 97, 100, 101, 32, 112, 32, 40, 119, 97, 115, 32, 97, 41, 32, 49, 41])).size : Nat) : Int) <= 9223372036854775807) /\
 ((((ByteArray.mk (#[40, 100, 101, 102, 105, 110, 101, 32, 40, 102])).size : Nat) : Int) + (((aj 3).size : Nat) : Int) <= 9223372036854775807) /\
 (((((ByteArray.mk (#[40, 100, 101, 102, 105, 110, 101, 32, 40, 102])) ++ aj 3).size : Nat) : Int) + (((ByteArray.mk (#[32, 110, 41, 32, 110, 41, 32, 40, 114, 101, 99, 111, 114, 100, 32, 112, 32, 97, 32, 98])).size : Nat) : Int) <= 9223372036854775807) /\
 (((((ByteArray.mk (#[40, 100, 101, 102, 105, 110, 101, 32, 40, 102])) ++ aj 3 ++ (ByteArray.mk (#[32, 110, 41, 32, 110, 41, 32, 40, 114, 101, 99, 111, 114, 100, 32, 112, 32, 97, 32, 98]))).size : Nat) : Int) + (((aj 3).size : Nat) : Int) <= 9223372036854775807) /\
 (((((ByteArray.mk (#[40, 100, 101, 102, 105, 110, 101, 32, 40, 102])) ++ aj 3 ++ (ByteArray.mk (#[32, 110, 41, 32, 110, 41, 32, 40, 114, 101, 99, 111, 114, 100, 32, 112, 32, 97, 32, 98])) ++ aj 3).size : Nat) : Int) + (((ByteArray.mk (#[41, 32, 40, 117, 112, 103, 114, 97, 100, 101, 32, 112, 32, 40, 119, 97, 115, 32, 97, 41, 32, 49, 41])).size : Nat) : Int) <= 9223372036854775807) /\
 (s20 ++ aj 0 ++ s21 ++ aj 0 ++ s22 = (ByteArray.mk (#[40, 100, 101, 102, 105, 110, 101, 32, 40, 102])) ++ aj 0 ++ (ByteArray.mk (#[32, 110, 41, 32, 110, 41, 32, 40, 114, 101, 99, 111, 114, 100, 32, 112, 32, 97, 32, 98])) ++ aj 0 ++ (ByteArray.mk (#[41, 32, 40, 117, 112, 103, 114, 97, 100, 101, 32, 112, 32, 40, 119, 97, 115, 32, 97, 41, 32, 49, 41]))) /\
 (s20 ++ aj 1 ++ s21 ++ aj 1 ++ s22 = (ByteArray.mk (#[40, 100, 101, 102, 105, 110, 101, 32, 40, 102])) ++ aj 1 ++ (ByteArray.mk (#[32, 110, 41, 32, 110, 41, 32, 40, 114, 101, 99, 111, 114, 100, 32, 112, 32, 97, 32, 98])) ++ aj 1 ++ (ByteArray.mk (#[41, 32, 40, 117, 112, 103, 114, 97, 100, 101, 32, 112, 32, 40, 119, 97, 115, 32, 97, 41, 32, 49, 41]))) /\
 (s20 ++ aj 2 ++ s21 ++ aj 2 ++ s22 = (ByteArray.mk (#[40, 100, 101, 102, 105, 110, 101, 32, 40, 102])) ++ aj 2 ++ (ByteArray.mk (#[32, 110, 41, 32, 110, 41, 32, 40, 114, 101, 99, 111, 114, 100, 32, 112, 32, 97, 32, 98])) ++ aj 2 ++ (ByteArray.mk (#[41, 32, 40, 117, 112, 103, 114, 97, 100, 101, 32, 112, 32, 40, 119, 97, 115, 32, 97, 41, 32, 49, 41]))) /\
 (s20 ++ aj 3 ++ s21 ++ aj 3 ++ s22 = (ByteArray.mk (#[40, 100, 101, 102, 105, 110, 101, 32, 40, 102])) ++ aj 3 ++ (ByteArray.mk (#[32, 110, 41, 32, 110, 41, 32, 40, 114, 101, 99, 111, 114, 100, 32, 112, 32, 97, 32, 98])) ++ aj 3 ++ (ByteArray.mk (#[41, 32, 40, 117, 112, 103, 114, 97, 100, 101, 32, 112, 32, 40, 119, 97, 115, 32, 97, 41, 32, 49, 41]))) /\
 ((((ByteArray.mk (#[102])).size : Nat) : Int) + (((aj 3).size : Nat) : Int) <= 9223372036854775807) /\
 (((s15.data.toList == ((ByteArray.mk (#[102])) ++ aj 3).data.toList) = true -> ((((ByteArray.mk (#[98])).size : Nat) : Int) + (((aj 3).size : Nat) : Int) <= 9223372036854775807) /\
 (((s16.data.toList == ((ByteArray.mk (#[98])) ++ aj 3).data.toList) = true -> qt) /\ ((s16.data.toList == ((ByteArray.mk (#[98])) ++ aj 3).data.toList) = false -> ((SV.kb false : SV) = .kb true)))) /\ ((s15.data.toList == ((ByteArray.mk (#[102])) ++ aj 3).data.toList) = false -> ((SV.kb false : SV) = .kb true))))
set_option maxRecDepth 100000 in
theorem xB (n : Int) : (uO n) = (l6 [] (vY n) 11 [any n]).holds fun y => y.1 = .kb true := by
 kernel_rfl
set_option maxRecDepth 100000 in
theorem yY (n : Int) (hm : aN n 6 = 4) : uO n := by
 obtain ⟨h0, h1, h2, h3, h4, h5, h6, h7, h8, h9⟩ := fx n
 unfold uO
 refine dP rfl _ ?_
 refine ⟨by simp only [ByteArray.size_append, aG, List.size_toArray, List.length_cons, List.length_nil, List.append_eq, List.length_append]; omega, ?_⟩
 refine ⟨by simp only [ByteArray.size_append, aG, List.size_toArray, List.length_cons, List.length_nil, List.append_eq, List.length_append]; omega, ?_⟩
 refine ⟨by simp only [ByteArray.size_append, aG, List.size_toArray, List.length_cons, List.length_nil, List.append_eq, List.length_append]; omega, ?_⟩
 refine ⟨by simp only [ByteArray.size_append, aG, List.size_toArray, List.length_cons, List.length_nil, List.append_eq, List.length_append]; omega, ?_⟩
 refine ⟨by simp only [ByteArray.size_append, aG, List.size_toArray, List.length_cons, List.length_nil, List.append_eq, List.length_append]; omega, ?_⟩
 refine ⟨by simp only [ByteArray.size_append, aG, List.size_toArray, List.length_cons, List.length_nil, List.append_eq, List.length_append]; omega, ?_⟩
 refine ⟨by simp only [ByteArray.size_append, aG, List.size_toArray, List.length_cons, List.length_nil, List.append_eq, List.length_append]; omega, ?_⟩
 refine ⟨by simp only [ByteArray.size_append, aG, List.size_toArray, List.length_cons, List.length_nil, List.append_eq, List.length_append]; omega, ?_⟩
 refine ⟨by simp only [ByteArray.size_append, aG, List.size_toArray, List.length_cons, List.length_nil, List.append_eq, List.length_append]; omega, ?_⟩
 refine ⟨by simp only [ByteArray.size_append, aG, List.size_toArray, List.length_cons, List.length_nil, List.append_eq, List.length_append]; omega, ?_⟩
 refine ⟨by simp only [ByteArray.size_append, aG, List.size_toArray, List.length_cons, List.length_nil, List.append_eq, List.length_append]; omega, ?_⟩
 refine ⟨by simp only [ByteArray.size_append, aG, List.size_toArray, List.length_cons, List.length_nil, List.append_eq, List.length_append]; omega, ?_⟩
 refine ⟨by simp only [ByteArray.size_append, aG, List.size_toArray, List.length_cons, List.length_nil, List.append_eq, List.length_append]; omega, ?_⟩
 refine ⟨by simp only [ByteArray.size_append, aG, List.size_toArray, List.length_cons, List.length_nil, List.append_eq, List.length_append]; omega, ?_⟩
 refine ⟨by simp only [ByteArray.size_append, aG, List.size_toArray, List.length_cons, List.length_nil, List.append_eq, List.length_append]; omega, ?_⟩
 refine ⟨by simp only [ByteArray.size_append, aG, List.size_toArray, List.length_cons, List.length_nil, List.append_eq, List.length_append]; omega, ?_⟩
 refine ⟨rfl, ?_⟩
 refine ⟨rfl, ?_⟩
 refine ⟨rfl, ?_⟩
 refine ⟨rfl, ?_⟩
 refine ⟨by simp only [ByteArray.size_append, aG, List.size_toArray, List.length_cons, List.length_nil, List.append_eq, List.length_append]; omega, ?_⟩
 refine ⟨fun _ => ?_, fun h => absurd ((show (s15.data.toList == ((ByteArray.mk (#[102])) ++ aj 3).data.toList) = true by first | exact beq_self_eq_true _ | (rw [beq_iff_eq]; simp only [gD, gH, List.append_assoc, List.nil_append, V4]; try kernel_rfl)).symm.trans h) (by decide)⟩
 refine ⟨by simp only [ByteArray.size_append, aG, List.size_toArray, List.length_cons, List.length_nil, List.append_eq, List.length_append]; omega, ?_⟩
 refine ⟨fun _ => ?_, fun h => absurd ((show (s16.data.toList == ((ByteArray.mk (#[98])) ++ aj 3).data.toList) = true by first | exact beq_self_eq_true _ | (rw [beq_iff_eq]; simp only [gD, gH, List.append_assoc, List.nil_append, WJ]; try kernel_rfl)).symm.trans h) (by decide)⟩
 rfl
theorem Fe (n : Int) (hm : aN n 6 = 4) : TOk (vY n) := (bO (aR (t75 n hm) ak) (bO (aR (t14 n) (aR (t33 n) (aR (t52 n) (aR (t71 n) (aR (t90 n) ak))))) (bO (aR (t92 n) ak) au)))
theorem Gm (n : Int) (hm : aN n 6 = 4) : (l6 [] (vY n) 11 [any n]).holds fun y => y.1 = .kb true := by
 rw [← xB]
 exact yY n hm
end Gv
