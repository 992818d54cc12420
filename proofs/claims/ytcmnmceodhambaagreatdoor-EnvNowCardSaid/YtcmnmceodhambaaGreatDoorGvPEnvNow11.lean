/- Told parts of EnvNow. Printed by gvgen.py. -/
import Derived.Test.YtcmnmceodhambaaGreatDoorGvUEnvNow
import Derived.Test.YtcmnmceodhambaaGreatDoorGvPEnvNow0
import Derived.Test.YtcmnmceodhambaaGreatDoorGvPEnvNow8
import Derived.Test.YtcmnmceodhambaaGreatDoorGvPEnvNow3
import Derived.Test.YtcmnmceodhambaaGreatDoorGvPEnvNow5
set_option linter.unusedSimpArgs false
set_option linter.unusedVariables false
set_option maxRecDepth 100000
open Rx Go
namespace Gv.LEnvNow
open Gv Rd
theorem WG (n : Int) : aL prog 66 (XC n) := aD [] (tk (f := 60) (tc 20 (t9 n) (tc 38 (t9 n) ak)) (tk (f := 127) (tc 20 (t1 n) (tc 38 (t1 n) ak)) au)) (by kernel_rfl) (by kernel_rfl) (q := qt)
 rfl
 (by kernel_rfl)
theorem G7 (n : Int) : aL prog 66 (XO n) := aD [] au (by kernel_rfl) (by kernel_rfl) (q := qt)
 rfl
 (by kernel_rfl)
theorem Ir (n : Int) : aL prog 66 (Yi n) := aD [] (tk (f := 60) (tc 20 (t9 n) (tc 38 (t9 n) ak)) (tk (f := 127) (tc 20 (t1 n) (tc 38 (t1 n) ak)) au)) (by kernel_rfl) (by kernel_rfl) (q := qt)
 rfl
 (by kernel_rfl)
theorem Wt (n : Int) : aL prog 30 (XP n) := aD [] (tk (f := 60) (tc 34 (t87 n) (tc 76 (t87 n) (tc 81 (t87 n) (tc 86 (t87 n) (tc 91 (t87 n) (tc 96 (t87 n) (tc 101 (t87 n) ak))))))) (tk (f := 45) (tc 56 (t97 n) ak) (tk (f := 63) (tc 57 (t98 n) ak) (tk (f := 66) (tc 58 (t99 n) (tc 59 (xM n) (tc 60 (WG n) (tc 61 (xM n) (tc 62 (G7 n) (tc 63 (Ir n) (tc 64 (xM n) (tc 65 (G7 n) (tc 66 (Ir n) (tc 67 (xM n) (tc 68 (G7 n) (tc 69 (Ir n) (tc 70 (xM n) (tc 71 (G7 n) (tc 72 (Ir n) (tc 73 (xM n) ak)))))))))))))))) (tk (f := 127) (tc 76 (t86 n) (tc 81 (t86 n) (tc 86 (t86 n) (tc 91 (t86 n) (tc 96 (t86 n) (tc 101 (t86 n) ak)))))) au))))) (by kernel_rfl) (by kernel_rfl) (q := qt)
 rfl
 (by kernel_rfl)
theorem t105 (n : Int) : aL prog 127 (XE n) := aD [] au (by kernel_rfl) (by kernel_rfl) (q := rp ((.mp (.int .i64) .bool [((0 : Int), true), ((2 : Int), true), ((4 : Int), true), ((6 : Int), true), ((8 : Int), true)] : Ob) = .mp (.int .i64) .bool [((0 : Int), true), ((2 : Int), true), ((4 : Int), true), ((6 : Int), true), ((8 : Int), true)]) 1 (qt))
 (dP rfl _ rfl)
 (by kernel_rfl)
theorem HZ (n : Int) : aL prog 60 (Xz n) := aD [] (tk (f := 127) (tc 2 (t105 n) ak) au) (by kernel_rfl) (by kernel_rfl) (q := qt)
 rfl
 (by kernel_rfl)
theorem t107 (n : Int) : aL prog 57 (Xq n) := aD [] (tk (f := 30) (tc 38 (Wt n) ak) (tk (f := 60) (tc 8499 (t87 n) (tc 8567 (HZ n) ak)) au)) (by kernel_rfl) (by kernel_rfl) (q := qt)
 rfl
 (by kernel_rfl)
end Gv.LEnvNow
set_option linter.unusedSimpArgs false
set_option linter.unusedVariables false
set_option maxRecDepth 100000
open Rx Go
namespace Gv.LEnvNow
open Gv Rd
theorem X8 (n : Int) : aL prog 29 (e108 n) := aD [] (tk (f := 30) (tc 38 (t91 n) (tc 521 (Wt n) ak)) (tk (f := 60) (tc 543 (t87 n) ak) (tk (f := 127) (tc 543 (t86 n) ak) (tk (f := 57) (tc 908 (t107 n) ak) au)))) (by kernel_rfl) (by kernel_rfl) (q := qt)
 rfl
 (by kernel_rfl)
end Gv.LEnvNow
set_option linter.unusedSimpArgs false
set_option linter.unusedVariables false
set_option maxRecDepth 100000
open Rx Go
namespace Gv.LEnvNow
open Gv Rd
theorem t109 (n : Int) : aL prog 39 (e109 n) := aD [(30, [(ls [(sy s4), (ls [(sy s17), (sy s7)]), (sy s7)]), (ls [(sy s1), (sy s2), (sy s3), (sy s18)]), (ls [(sy s9), (sy s2), (ls [(sy s10), (sy s3)]), (num 1)])])] (tk (f := 22) (tc 30 (t92 n) ak) (tk (f := 28) (tc 34 (t96 n) ak) (tk (f := 29) (tc 42 (X8 n) ak) au))) (by kernel_rfl) (by kernel_rfl) (q := ((s20 ++ aj 4 ++ s21 ++ aj 4 ++ s22).size <= 3000 /\ kY 400 (s20 ++ aj 4 ++ s21 ++ aj 4 ++ s22) = some (RR.mk (lY ([ls [sy (ByteArray.mk (#[100, 101, 102, 105, 110, 101])), ls [sy (ByteArray.mk (#[102, 52])), sy (ByteArray.mk (#[110]))], sy (ByteArray.mk (#[110]))], ls [sy (ByteArray.mk (#[114, 101, 99, 111, 114, 100])), sy (ByteArray.mk (#[112])), sy (ByteArray.mk (#[97])), sy (ByteArray.mk (#[98, 52]))], ls [sy (ByteArray.mk (#[117, 112, 103, 114, 97, 100, 101])), sy (ByteArray.mk (#[112])), ls [sy (ByteArray.mk (#[119, 97, 115])), sy (ByteArray.mk (#[97]))], num 1]])) 0 0) /\ kU ([ls [sy (ByteArray.mk (#[100, 101, 102, 105, 110, 101])), ls [sy (ByteArray.mk (#[102, 52])), sy (ByteArray.mk (#[110]))], sy (ByteArray.mk (#[110]))], ls [sy (ByteArray.mk (#[114, 101, 99, 111, 114, 100])), sy (ByteArray.mk (#[112])), sy (ByteArray.mk (#[97])), sy (ByteArray.mk (#[98, 52]))], ls [sy (ByteArray.mk (#[117, 112, 103, 114, 97, 100, 101])), sy (ByteArray.mk (#[112])), ls [sy (ByteArray.mk (#[119, 97, 115])), sy (ByteArray.mk (#[97]))], num 1]])) /\
 rp (((dxL [(ls [(sy s4), (ls [(sy s17), (sy s7)]), (sy s7)]), (ls [(sy s1), (sy s2), (sy s3), (sy s18)]), (ls [(sy s9), (sy s2), (ls [(sy s10), (sy s3)]), (num 1)])]) : Nat -> Nat -> Dt) = (dxL [(ls [(sy s4), (ls [(sy s17), (sy s7)]), (sy s7)]), (ls [(sy s1), (sy s2), (sy s3), (sy s18)]), (ls [(sy s9), (sy s2), (ls [(sy s10), (sy s3)]), (num 1)])])) 1 (rp (((dxL []) : Nat -> Nat -> Dt) = (dxL [])) 1 (qt)))
 (by
 obtain ⟨h0, h1, h2, h3, h4, h5, h6, h7, h8, h9⟩ := fx n
 refine ⟨tN (by repeat first | exact Bg | apply sV | apply Jo | exact IG (by kernel_rfl) | exact yR (by omega) (by omega) | exact Gs (by omega) (by omega) (by omega) (by omega)) (by simp only [ByteArray.size_append, aG, List.size_toArray, List.length_cons, List.length_nil, List.append_eq, List.length_append, Hw, IK, GX]; omega) (by (simp only [gD, gH, List.append_assoc, List.nil_append, IE, Ih, HV]) <;> kernel_rfl) (by kernel_rfl) (by kernel_rfl) (by kernel_rfl), ?_⟩
 iterate 2 refine dP rfl _ ?_
 rfl
 )
  (by kernel_rfl)
theorem XQ (n : Int) : aL prog 30 (Yh n) := aD [] (tk (f := 60) (tc 34 (HZ n) (tc 76 (HZ n) (tc 81 (HZ n) (tc 86 (HZ n) (tc 91 (HZ n) (tc 96 (HZ n) (tc 101 (HZ n) ak))))))) (tk (f := 45) (tc 56 (t97 n) ak) (tk (f := 63) (tc 57 (t98 n) ak) (tk (f := 66) (tc 58 (t99 n) (tc 59 (xM n) (tc 60 (WG n) (tc 61 (xM n) (tc 62 (G7 n) (tc 63 (Ir n) (tc 64 (xM n) (tc 65 (G7 n) (tc 66 (Ir n) (tc 67 (xM n) (tc 68 (G7 n) (tc 69 (Ir n) (tc 70 (xM n) (tc 71 (G7 n) (tc 72 (Ir n) (tc 73 (xM n) ak)))))))))))))))) (tk (f := 127) (tc 76 (t105 n) (tc 81 (t105 n) (tc 86 (t105 n) (tc 91 (t105 n) (tc 96 (t105 n) (tc 101 (t105 n) ak)))))) au))))) (by kernel_rfl) (by kernel_rfl) (q := qt)
 rfl
 (by kernel_rfl)
theorem XL (n : Int) : aL prog 22 (WH n) := aD [] (tk (f := 30) (tc 35 (XQ n) ak) au) (by kernel_rfl) (by kernel_rfl) (q := qt)
 rfl
 (by kernel_rfl)
end Gv.LEnvNow
set_option linter.unusedSimpArgs false
set_option linter.unusedVariables false
open Rx Go
namespace Gv
open Rd LEnvNow
noncomputable def uX (n : Int) : TL := [(16, [(0, (e94 n))]), (39, [(22, (e14 n)), (33, (e33 n)), (50, (e52 n)), (72, (e71 n)), (99, (e90 n)), (131, (e109 n))]), (22, [(168, (WH n))])]
def wh (n : Int) : Prop :=
 rp (en (n)) 1 (((((ByteArray.mk (#[40, 100, 101, 102, 105, 110, 101, 32, 40, 102])).size : Nat) : Int) + (((aj 0).size : Nat) : Int) <= 9223372036854775807) /\
 (((((ByteArray.mk (#[40, 100, 101, 102, 105, 110, 101, 32, 40, 102])) ++ aj 0).size : Nat) : Int) + (((ByteArray.mk (#[32, 110, 41, 32, 110, 41, 32, 40, 114, 101, 99, 111, 114, 100, 32, 112, 32, 97, 32, 98])).size : Nat) : Int) <= 9223372036854775807) /\
 (((((ByteArray.mk (#[40, 100, 101, 102, 105, 110, 101, 32, 40, 102])) ++ aj 0 ++ (ByteArray.mk (#[32, 110, 41, 32, 110, 41, 32, 40, 114, 101, 99, 111, 114, 100, 32, 112, 32, 97, 32, 98]))).size : Nat) : Int) + (((aj 0).size : Nat) : Int) <= 9223372036854775807) /\
 (((((ByteArray.mk (#[40, 100, 101, 102, 105, 110, 101, 32, 40, 102])) ++ aj 0 ++ (ByteArray.mk (#[32, 110, 41, 32, 110, 41, 32, 40, 114, 101, 99, 111, 114, 100, 32, 112, 32, 97, 32, 98])) ++ aj 0).size : Nat) : Int) + (((ByteArray.mk (#[41, 32, 40, 117, 112, 103, 114, 97, 100, 101, 32, 112, 32, 40, 119, 97, 115, 32, 97, 41, 32, 49, 41])).size : Nat) : Int) <= 9223372036854775807) /\
 ((((ByteArray.mk (#[40, 100, 101, 102, 105, 110, 101, 32, 40, 102])).size : Nat) : Int) + (((aj 1).size : Nat) : Int) <= 9223372036854775807) /\
 (((((ByteArray.mk (#[40, 100, 101, 102, 105, 110, 101, 32, 40, 102])) ++ aj 1).size : Nat) : Int) + (((ByteArray.mk (#[32, 110, 41, 32, 110, 41, 32, 40, 114, 101, 99, 111, 114, 100, 32, 112, 32, 97, 32, 98])).size : Nat) : Int) <= 9223372036854775807) /\
 (((((ByteArray.mk (#[40, 100, 101, 102, 105, 110, 101, 32, 40, 102])) ++ aj 1 ++ (ByteArray.mk (#[32, 110, 41, 32, 110, 41, 32, 40, 114, 101, 99, 111, 114, 100, 32, 112, 32, 97, 32, 98]))).size : Nat) : Int) + (((aj 1).size : Nat) : Int) <= 9223372036854775807) /\
 (((((ByteArray.mk (#[40, 100, 101, 102, 105, 110, 101, 32, 40, 102])) ++ aj 1 ++ (ByteArray.mk (#[32, 110, 41, 32, 110, 41, 32, 40, 114, 101, 99, 111, 114, 100, 32, 112, 32, 97, 32, 98])) ++ aj 1).size : Nat) : Int) + (((ByteArray.mk (#[41, 32, 40, 117, 112, 103, 114, 97, 100, 101, 32, 112, 32, 40, 119, 97, 115, 32, 97, 41, 32, 49, 41])).size : Nat) : Int) <= 9223372036854775807) /\
 ((((ByteArray.mk (#[40, 100, 101, 102, 105, 110, 101, 32, 40, 102])).size : Nat) : Int) + (((aj 2).size : Nat) : Int) <= 9223372036854775807) /\
 (((((ByteArray.mk (#[40, 100, 101, 102, 105, 110, 101, 32, 40, 102])) ++ aj 2).size : Nat) : Int) + (((ByteArray.mk (#[32, 110, 41, 32, 110, 41, 32, 40, 114, 101, 99, 111, 114, 100, 32, 112, 32, 97, 32, 98])).size : Nat) : Int) <= 9223372036854775807) /\
 (((((ByteArray.mk (#[40, 100, 101, 102, 105, 110, 101, 32, 40, 102])) ++ aj 2 ++ (ByteArray.mk (#[32, 110, 41, 32, 110, 41, 32, 40, 114, 101, 99, 111, 114, 100, 32, 112, 32, 97, 32, 98]))).size : Nat) : Int) + (((aj 2).size : Nat) : Int) <= 9223372036854775807) /\
 (((((ByteArray.mk (#[40, 100, 101, 102, 105, 110, 101, 32, 40, 102])) ++ aj 2 ++ (ByteArray.mk (#[32, 110, 41, 32, 110, 41, 32, 40, 114, 101, 99, 111, 114, 100, 32, 112, 32, 97, 32, 98])) ++ aj 2).size : Nat) : Int) + (((ByteArray.mk (#[41, 32, 40, 117, 112, 103, 114, 97, 100, 101, 32, 112, 32, 40, 119, 97, 115, 32, 97, 41, 32, 49, 41])).size : Nat) : Int) <= 9223372036854775807) /\
 ((((ByteArray.mk (#[40, 100, 101, 102, 105, 110, 101, 32, 40, 102])).size : Nat) : Int) + (((aj 3).size : Nat) : Int) <= 9223372036854775807) /\
 (((((ByteArray.mk (#[40, 100, 101, 102, 105, 110, 101, 32, 40, 102])) ++ aj 3).size : Nat) : Int) + (((ByteArray.mk (#[32, 110, 41, 32, 110, 41, 32, 40, 114, 101, 99, 111, 114, 100, 32, 112, 32, 97, 32, 98])).size : Nat) : Int) <= 9223372036854775807) /\
 (((((ByteArray.mk (#[40, 100, 101, 102, 105, 110, 101, 32, 40, 102])) ++ aj 3 ++ (ByteArray.mk (#[32, 110, 41, 32, 110, 41, 32, 40, 114, 101, 99, 111, 114, 100, 32, 112, 32, 97, 32, 98]))).size : Nat) : Int) + (((aj 3).size : Nat) : Int) <= 9223372036854775807) /\
 (((((ByteArray.mk (#[40, 100, 101, 102, 105, 110, 101, 32, 40, 102])) ++ aj 3 ++ (ByteArray.mk (#[32, 110, 41, 32, 110, 41, 32, 40, 114, 101, 99, 111, 114, 100, 32, 112, 32, 97, 32, 98])) ++ aj 3).size : Nat) : Int) + (((ByteArray.mk (#[41, 32, 40, 117, 112, 103, 114, 97, 100, 101, 32, 112, 32, 40, 119, 97, 115, 32, 97, 41, 32, 49, 41])).size : Nat) : Int) <= 9223372036854775807) /\
 ((((ByteArray.mk (#[40, 100, 101, 102, 105, 110, 101, 32, 40, 102])).size : Nat) : Int) + (((aj 4).size : Nat) : Int) <= 9223372036854775807) /\
 (((((ByteArray.mk (#[40, 100, 101, 102, 105, 110, 101, 32, 40, 102])) ++ aj 4).size : Nat) : Int) + (((ByteArray.mk (#[32, 110, 41, 32, 110, 41, 32, 40, 114, 101, 99, 111, 114, 100, 32, 112, 32, 97, 32, 98])).size : Nat) : Int) <= 9223372036854775807) /\
 (((((ByteArray.mk (#[40, 100, 101, 102, 105, 110, 101, 32, 40, 102])) ++ aj 4 ++ (ByteArray.mk (#[32, 110, 41, 32, 110, 41, 32, 40, 114, 101, 99, 111, 114, 100, 32, 112, 32, 97, 32, 98]))).size : Nat) : Int) + (((aj 4).size : Nat) : Int) <= 9223372036854775807) /\
 (((((ByteArray.mk (#[40, 100, 101, 102, 105, 110, 101, 32, 40, 102])) ++ aj 4 ++ (ByteArray.mk (#[32, 110, 41, 32, 110, 41, 32, 40, 114, 101, 99, 111, 114, 100, 32, 112, 32, 97, 32, 98])) ++ aj 4).size : Nat) : Int) + (((ByteArray.mk (#[41, 32, 40, 117, 112, 103, 114, 97, 100, 101, 32, 112, 32, 40, 119, 97, 115, 32, 97, 41, 32, 49, 41])).size : Nat) : Int) <= 9223372036854775807) /\
 (s20 ++ aj 0 ++ s21 ++ aj 0 ++ s22 = (ByteArray.mk (#[40, 100, 101, 102, 105, 110, 101, 32, 40, 102])) ++ aj 0 ++ (ByteArray.mk (#[32, 110, 41, 32, 110, 41, 32, 40, 114, 101, 99, 111, 114, 100, 32, 112, 32, 97, 32, 98])) ++ aj 0 ++ (ByteArray.mk (#[41, 32, 40, 117, 112, 103, 114, 97, 100, 101, 32, 112, 32, 40, 119, 97, 115, 32, 97, 41, 32, 49, 41]))) /\
 (s20 ++ aj 1 ++ s21 ++ aj 1 ++ s22 = (ByteArray.mk (#[40, 100, 101, 102, 105, 110, 101, 32, 40, 102])) ++ aj 1 ++ (ByteArray.mk (#[32, 110, 41, 32, 110, 41, 32, 40, 114, 101, 99, 111, 114, 100, 32, 112, 32, 97, 32, 98])) ++ aj 1 ++ (ByteArray.mk (#[41, 32, 40, 117, 112, 103, 114, 97, 100, 101, 32, 112, 32, 40, 119, 97, 115, 32, 97, 41, 32, 49, 41]))) /\
 (s20 ++ aj 2 ++ s21 ++ aj 2 ++ s22 = (ByteArray.mk (#[40, 100, 101, 102, 105, 110, 101, 32, 40, 102])) ++ aj 2 ++ (ByteArray.mk (#[32, 110, 41, 32, 110, 41, 32, 40, 114, 101, 99, 111, 114, 100, 32, 112, 32, 97, 32, 98])) ++ aj 2 ++ (ByteArray.mk (#[41, 32, 40, 117, 112, 103, 114, 97, 100, 101, 32, 112, 32, 40, 119, 97, 115, 32, 97, 41, 32, 49, 41]))) /\
 (s20 ++ aj 3 ++ s21 ++ aj 3 ++ s22 = (ByteArray.mk (#[40, 100, 101, 102, 105, 110, 101, 32, 40, 102])) ++ aj 3 ++ (ByteArray.mk (#[32, 110, 41, 32, 110, 41, 32, 40, 114, 101, 99, 111, 114, 100, 32, 112, 32, 97, 32, 98])) ++ aj 3 ++ (ByteArray.mk (#[41, 32, 40, 117, 112, 103, 114, 97, 100, 101, 32, 112, 32, 40, 119, 97, 115, 32, 97, 41, 32, 49, 41]))) /\
 (s20 ++ aj 4 ++ s21 ++ aj 4 ++ s22 = (ByteArray.mk (#[40, 100, 101, 102, 105, 110, 101, 32, 40, 102])) ++ aj 4 ++ (ByteArray.mk (#[32, 110, 41, 32, 110, 41, 32, 40, 114, 101, 99, 111, 114, 100, 32, 112, 32, 97, 32, 98])) ++ aj 4 ++ (ByteArray.mk (#[41, 32, 40, 117, 112, 103, 114, 97, 100, 101, 32, 112, 32, 40, 119, 97, 115, 32, 97, 41, 32, 49, 41]))) /\
 ((((ByteArray.mk (#[102])).size : Nat) : Int) + (((aj 4).size : Nat) : Int) <= 9223372036854775807) /\
 (((s17.data.toList == ((ByteArray.mk (#[102])) ++ aj 4).data.toList) = true -> ((((ByteArray.mk (#[98])).size : Nat) : Int) + (((aj 4).size : Nat) : Int) <= 9223372036854775807) /\
 (((s18.data.toList == ((ByteArray.mk (#[98])) ++ aj 4).data.toList) = true -> qt) /\ ((s18.data.toList == ((ByteArray.mk (#[98])) ++ aj 4).data.toList) = false -> ((SV.kb false : SV) = .kb true)))) /\ ((s17.data.toList == ((ByteArray.mk (#[102])) ++ aj 4).data.toList) = false -> ((SV.kb false : SV) = .kb true))))
set_option maxRecDepth 100000 in
theorem xK (n : Int) : (wh n) = (l6 [] (uX n) 11 [any n]).holds fun y => y.1 = .kb true := by
 kernel_rfl
set_option maxRecDepth 100000 in
theorem zk (n : Int) (hm : aN n 6 = 5) : wh n := by
 obtain ⟨h0, h1, h2, h3, h4, h5, h6, h7, h8, h9⟩ := fx n
 unfold wh
 refine dP rfl _ ?_
 refine ⟨by simp only [ByteArray.size_append, aG, List.size_toArray, List.length_cons, List.length_nil, List.append_eq, List.length_append]; omega, ?_⟩
 refine ⟨by simp only [ByteArray.size_append, aG, List.size_toArray, List.length_cons, List.length_nil, List.append_eq, List.length_append]; omega, ?_⟩
 refine ⟨by simp only [ByteArray.size_append, aG, List.size_toArray, List.length_cons, List.length_nil, List.append_eq, List.length_append]; omega, ?_⟩
 refine ⟨by simp only [ByteArray.size_append, aG, List.size_toArray, List.length_cons, List.length_nil, List.append_eq, List.length_append]; omega, ?_⟩
 refine ⟨by simp only [ByteArray.size_append, aG, List.size_toArray, List.length_cons, List.length_nil, List.append_eq, List.length_append]; omega, ?_⟩
 refine ⟨by simp only [ByteArray.size_append, aG, List.size_toArray, List.length_cons, List.length_nil, List.append_eq, List.length_append]; omega, ?_⟩
 refine ⟨by simp only [ByteArray.size_append, aG, List.size_toArray, List.length_cons, List.length_nil, List.append_eq, List.length_append]; omega, ?_⟩
 refine ⟨by simp only [ByteArray.size_append, aG, List.size_toArray, List.length_cons, List.length_nil, List.append_eq, List.length_append]; omega, ?_⟩
 refine ⟨by simp only [ByteArray.size_append, aG, List.size_toArray, List.length_cons, List.length_nil, List.append_eq, List.length_append]; omega, ?_⟩
 refine ⟨by simp only [ByteArray.size_append, aG, List.size_toArray, List.length_cons, List.length_nil, List.append_eq, List.length_append]; omega, ?_⟩
 refine ⟨by simp only [ByteArray.size_append, aG, List.size_toArray, List.length_cons, List.length_nil, List.append_eq, List.length_append]; omega, ?_⟩
 refine ⟨by simp only [ByteArray.size_append, aG, List.size_toArray, List.length_cons, List.length_nil, List.append_eq, List.length_append]; omega, ?_⟩
 refine ⟨by simp only [ByteArray.size_append, aG, List.size_toArray, List.length_cons, List.length_nil, List.append_eq, List.length_append]; omega, ?_⟩
 refine ⟨by simp only [ByteArray.size_append, aG, List.size_toArray, List.length_cons, List.length_nil, List.append_eq, List.length_append]; omega, ?_⟩
 refine ⟨by simp only [ByteArray.size_append, aG, List.size_toArray, List.length_cons, List.length_nil, List.append_eq, List.length_append]; omega, ?_⟩
 refine ⟨by simp only [ByteArray.size_append, aG, List.size_toArray, List.length_cons, List.length_nil, List.append_eq, List.length_append]; omega, ?_⟩
 refine ⟨by simp only [ByteArray.size_append, aG, List.size_toArray, List.length_cons, List.length_nil, List.append_eq, List.length_append]; omega, ?_⟩
 refine ⟨by simp only [ByteArray.size_append, aG, List.size_toArray, List.length_cons, List.length_nil, List.append_eq, List.length_append]; omega, ?_⟩
 refine ⟨by simp only [ByteArray.size_append, aG, List.size_toArray, List.length_cons, List.length_nil, List.append_eq, List.length_append]; omega, ?_⟩
 refine ⟨by simp only [ByteArray.size_append, aG, List.size_toArray, List.length_cons, List.length_nil, List.append_eq, List.length_append]; omega, ?_⟩
 refine ⟨rfl, ?_⟩
 refine ⟨rfl, ?_⟩
 refine ⟨rfl, ?_⟩
 refine ⟨rfl, ?_⟩
 refine ⟨rfl, ?_⟩
 refine ⟨by simp only [ByteArray.size_append, aG, List.size_toArray, List.length_cons, List.length_nil, List.append_eq, List.length_append]; omega, ?_⟩
 refine ⟨fun _ => ?_, fun h => absurd ((show (s17.data.toList == ((ByteArray.mk (#[102])) ++ aj 4).data.toList) = true by first | exact beq_self_eq_true _ | (rw [beq_iff_eq]; simp only [gD, gH, List.append_assoc, List.nil_append, WW]; try kernel_rfl)).symm.trans h) (by decide)⟩
 refine ⟨by simp only [ByteArray.size_append, aG, List.size_toArray, List.length_cons, List.length_nil, List.append_eq, List.length_append]; omega, ?_⟩
 refine ⟨fun _ => ?_, fun h => absurd ((show (s18.data.toList == ((ByteArray.mk (#[98])) ++ aj 4).data.toList) = true by first | exact beq_self_eq_true _ | (rw [beq_iff_eq]; simp only [gD, gH, List.append_assoc, List.nil_append, WB]; try kernel_rfl)).symm.trans h) (by decide)⟩
 rfl
theorem EU (n : Int) (hm : aN n 6 = 5) : TOk (uX n) := (bO (aR (t94 n hm) ak) (bO (aR (t14 n) (aR (t33 n) (aR (t52 n) (aR (t71 n) (aR (t90 n) (aR (t109 n) ak)))))) (bO (aR (XL n) ak) au)))
theorem EG (n : Int) (hm : aN n 6 = 5) : (l6 [] (uX n) 11 [any n]).holds fun y => y.1 = .kb true := by
 rw [← xK]
 exact zk n hm
end Gv
set_option linter.unusedSimpArgs false
set_option linter.unusedVariables false
open Rx Go
namespace Gv
open Rd LEnvNow
set_option maxRecDepth 100000 in
theorem Er (n : Int) {w : World} {vs : List Value} (hgl : Pers C0.W w Glob.ok) (hr : relL C0 w [any n] vs) : Calls prog 11 vs.toArray w fun e w' => e = .returned (.bool true) /\ Same w w' := by
 obtain ⟨b0, b1⟩ := Bq n (m := 6) (by decide)
 rcases (by omega : aN n 6 = 0 ∨ aN n 6 = 1 ∨ aN n 6 = 2 ∨ aN n 6 = 3 ∨ aN n 6 = 4 ∨ aN n 6 = 5) with hm | hm | hm | hm | hm | hm
 · exact lW (DU n hm) hgl hr (F9 n hm)
 · exact lW (Fu n hm) hgl hr (F7 n hm)
 · exact lW (Fq n hm) hgl hr (FU n hm)
 · exact lW (FV n hm) hgl hr (EK n hm)
 · exact lW (Fe n hm) hgl hr (Gm n hm)
 · exact lW (EU n hm) hgl hr (EG n hm)
end Gv
