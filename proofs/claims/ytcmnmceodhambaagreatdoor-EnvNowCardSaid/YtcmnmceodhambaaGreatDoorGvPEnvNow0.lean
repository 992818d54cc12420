/- Told parts of EnvNow. Printed by gvgen.py. -/
import Derived.Test.YtcmnmceodhambaaGreatDoorGvUEnvNow
set_option linter.unusedSimpArgs false
set_option linter.unusedVariables false
set_option maxRecDepth 100000
open Rx Go
namespace Gv.LEnvNow
open Gv Rd
theorem t0 (n : Int) (hm : aN n 6 = 0) : aL prog 16 (e0 n) := jQ (by decide) (by decide) hm
theorem t1 (n : Int) : aL prog 127 (e1 n) := aD [] au (by kernel_rfl) (by kernel_rfl) (q := rp ((.mp (.int .i64) .bool [] : Ob) = .mp (.int .i64) .bool []) 1 (qt))
 (dP rfl _ rfl)
 (by kernel_rfl)
theorem t2 (n : Int) : aL prog 60 (e2 n) := aD [] (tk (f := 127) (tc 1 (t1 n) ak) au) (by kernel_rfl) (by kernel_rfl) (q := qt)
 rfl
 (by kernel_rfl)
theorem t3 (n : Int) : aL prog 45 (e3 n) := aD [] au (by kernel_rfl) (by kernel_rfl) (q := qt)
 rfl
 (by kernel_rfl)
theorem t4 (n : Int) : aL prog 30 (e4 n) := aD [] (tk (f := 60) (tc 1 (t2 n) ak) (tk (f := 45) (tc 2 (t3 n) ak) au)) (by kernel_rfl) (by kernel_rfl) (q := qt)
 rfl
 (by kernel_rfl)
theorem t5 (n : Int) : aL prog 22 (e5 n) := aD [] (tk (f := 30) (tc 2 (t4 n) ak) au) (by kernel_rfl) (by kernel_rfl) (q := qt)
 rfl
 (by kernel_rfl)
theorem t6 (n : Int) : aL prog 28 (e6 n) := aD [] (tk (f := 45) (tc 2 (t3 n) ak) au) (by kernel_rfl) (by kernel_rfl) (q := rp (((dxL []) : Nat -> Nat -> Dt) = (dxL [])) 1 (qt))
 (dP rfl _ rfl)
 (by kernel_rfl)
theorem t7 (n : Int) : aL prog 45 (e7 n) := aD [] au (by kernel_rfl) (by kernel_rfl) (q := qt)
 rfl
 (by kernel_rfl)
theorem t8 (n : Int) : aL prog 63 (e8 n) := aD [] au (by kernel_rfl) (by kernel_rfl) (q := qt)
 rfl
 (by kernel_rfl)
theorem t9 (n : Int) : aL prog 60 (e9 n) := aD [] (tk (f := 127) (tc 1 (t1 n) ak) au) (by kernel_rfl) (by kernel_rfl) (q := qt)
 rfl
 (by kernel_rfl)
theorem t10 (n : Int) : aL prog 66 (e10 n) := aD [] (tk (f := 60) (tc 20 (t9 n) (tc 38 (t9 n) ak)) (tk (f := 127) (tc 20 (t1 n) (tc 38 (t1 n) ak)) au)) (by kernel_rfl) (by kernel_rfl) (q := qt)
 rfl
 (by kernel_rfl)
theorem t11 (n : Int) : aL prog 30 (e11 n) := aD [] (tk (f := 60) (tc 7 (t2 n) (tc 19 (t2 n) ak)) (tk (f := 45) (tc 14 (t7 n) ak) (tk (f := 63) (tc 15 (t8 n) ak) (tk (f := 66) (tc 16 (t10 n) ak) (tk (f := 127) (tc 19 (t1 n) ak) au))))) (by kernel_rfl) (by kernel_rfl) (q := qt)
 rfl
 (by kernel_rfl)
theorem t12 (n : Int) : aL prog 59 (e12 n) := aD [] (tk (f := 30) (tc 11 (t11 n) ak) (tk (f := 66) (tc 157 (t10 n) ak) au)) (by kernel_rfl) (by kernel_rfl) (q := qt)
 rfl
 (by kernel_rfl)
theorem t13 (n : Int) : aL prog 29 (e13 n) := aD [] (tk (f := 30) (tc 6 (t4 n) (tc 210 (t11 n) ak)) (tk (f := 59) (tc 214 (t12 n) ak) au)) (by kernel_rfl) (by kernel_rfl) (q := qt)
 rfl
 (by kernel_rfl)
theorem t14 (n : Int) : aL prog 39 (e14 n) := aD [(2, [(ls [(sy s1), (sy s2), (sy s3)]), (ls [(sy s4), (sy s5), (num 1)])])] (tk (f := 22) (tc 2 (t5 n) ak) (tk (f := 28) (tc 3 (t6 n) ak) (tk (f := 29) (tc 7 (t13 n) ak) au))) (by kernel_rfl) (by kernel_rfl) (q := (s19.size <= 3000 /\ kY 400 s19 = some (RR.mk (lY ([ls [sy (ByteArray.mk (#[114, 101, 99, 111, 114, 100])), sy (ByteArray.mk (#[112])), sy (ByteArray.mk (#[97]))], ls [sy (ByteArray.mk (#[100, 101, 102, 105, 110, 101])), sy (ByteArray.mk (#[120])), num 1]])) 0 0) /\ kU ([ls [sy (ByteArray.mk (#[114, 101, 99, 111, 114, 100])), sy (ByteArray.mk (#[112])), sy (ByteArray.mk (#[97]))], ls [sy (ByteArray.mk (#[100, 101, 102, 105, 110, 101])), sy (ByteArray.mk (#[120])), num 1]])) /\
 rp (((dxL [(ls [(sy s1), (sy s2), (sy s3)]), (ls [(sy s4), (sy s5), (num 1)])]) : Nat -> Nat -> Dt) = (dxL [(ls [(sy s1), (sy s2), (sy s3)]), (ls [(sy s4), (sy s5), (num 1)])])) 1 (rp (((dxL []) : Nat -> Nat -> Dt) = (dxL [])) 1 (qt)))
 (by
 obtain ⟨h0, h1, h2, h3, h4, h5, h6, h7, h8, h9⟩ := fx n
 refine ⟨⟨by decide, by kernel_rfl, by simp [kU, Dx.fits, ls, sy, num, nu]⟩, ?_⟩
 iterate 2 refine dP rfl _ ?_
 rfl
 )
  (by kernel_rfl)
theorem t15 (n : Int) : aL prog 63 (e15 n) := aD [] au (by kernel_rfl) (by kernel_rfl) (q := qt)
 rfl
 (by kernel_rfl)
theorem t16 (n : Int) : aL prog 66 (e16 n) := aD [] (tk (f := 60) (tc 20 (t9 n) (tc 38 (t9 n) ak)) (tk (f := 127) (tc 20 (t1 n) (tc 38 (t1 n) ak)) au)) (by kernel_rfl) (by kernel_rfl) (q := qt)
 rfl
 (by kernel_rfl)
theorem t17 (n : Int) : aL prog 30 (e17 n) := aD [] (tk (f := 60) (tc 8 (t2 n) (tc 20 (t2 n) ak)) (tk (f := 45) (tc 15 (t7 n) ak) (tk (f := 63) (tc 16 (t15 n) ak) (tk (f := 66) (tc 17 (t16 n) ak) (tk (f := 127) (tc 20 (t1 n) ak) au))))) (by kernel_rfl) (by kernel_rfl) (q := qt)
 rfl
 (by kernel_rfl)
theorem t18 (n : Int) : aL prog 22 (e18 n) := aD [] (tk (f := 30) (tc 9 (t17 n) ak) au) (by kernel_rfl) (by kernel_rfl) (q := qt)
 rfl
 (by kernel_rfl)
theorem t20 (n : Int) (hm : aN n 6 = 1) : aL prog 16 (e20 n) := jQ (by decide) (by decide) hm
theorem t21 (n : Int) : aL prog 45 (e21 n) := aD [] au (by kernel_rfl) (by kernel_rfl) (q := qt)
 rfl
 (by kernel_rfl)
theorem t22 (n : Int) : aL prog 28 (e22 n) := aD [] (tk (f := 45) (tc 5 (t21 n) ak) au) (by kernel_rfl) (by kernel_rfl) (q := rp ((D (.arr 4 2 (dxL [(sy s6), (sy s7)])) : SV) = D (.arr 4 2 (dxL [(sy s6), (sy s7)]))) 1 (rp ((D (.arr 4 2 (dxL [(sy s10), (sy s3)])) : SV) = D (.arr 4 2 (dxL [(sy s10), (sy s3)]))) 1 (rp ((D (.arr 4 3 (fun i j => (dxL [(sy s9), (sy s2), (ls [(sy s10), (sy s3)]), (num 1)]) (i + (Rx.z0 (Option.some (1 : Int))).toNat) (j))) : SV) = D (.arr 4 3 (fun i j => (dxL [(sy s9), (sy s2), (ls [(sy s10), (sy s3)]), (num 1)]) (i + (Rx.z0 (Option.some (1 : Int))).toNat) (j)))) 1 (rp (((dxL []) : Nat -> Nat -> Dt) = (dxL [])) 1 (qt)))))
 (dP rfl _ (dP rfl _ (dP rfl _ (dP rfl _ rfl))))
 (by kernel_rfl)
theorem t23 (n : Int) : aL prog 45 (e23 n) := aD [] au (by kernel_rfl) (by kernel_rfl) (q := qt)
 rfl
 (by kernel_rfl)
end Gv.LEnvNow
set_option linter.unusedSimpArgs false
set_option linter.unusedVariables false
open Rx Go
namespace Gv
open Rd LEnvNow
noncomputable def vw (n : Int) : TL := [(16, [(0, (e0 n))]), (39, [(7, (e14 n))]), (22, [(18, (e18 n))])]
def vv (n : Int) : Prop :=
 rp (en (n)) 1 (qt)
set_option maxRecDepth 100000 in
theorem xI (n : Int) : (vv n) = (l6 [] (vw n) 11 [any n]).holds fun y => y.1 = .kb true := by
 kernel_rfl
set_option maxRecDepth 100000 in
theorem zo (n : Int) (hm : aN n 6 = 0) : vv n := by
 obtain ⟨h0, h1, h2, h3, h4, h5, h6, h7, h8, h9⟩ := fx n
 unfold vv
 refine dP rfl _ ?_
 rfl
theorem DU (n : Int) (hm : aN n 6 = 0) : TOk (vw n) := (bO (aR (t0 n hm) ak) (bO (aR (t14 n) ak) (bO (aR (t18 n) ak) au)))
theorem F9 (n : Int) (hm : aN n 6 = 0) : (l6 [] (vw n) 11 [any n]).holds fun y => y.1 = .kb true := by
 rw [← xI]
 exact zo n hm
end Gv
set_option linter.unusedSimpArgs false
set_option linter.unusedVariables false
set_option maxRecDepth 100000
open Rx Go
namespace Gv.LEnvNow
open Gv Rd
theorem t24 (n : Int) : aL prog 63 (e24 n) := aD [] au (by kernel_rfl) (by kernel_rfl) (q := qt)
 rfl
 (by kernel_rfl)
theorem t25 (n : Int) : aL prog 66 (e25 n) := aD [] (tk (f := 60) (tc 20 (t9 n) (tc 38 (t9 n) ak)) (tk (f := 127) (tc 20 (t1 n) (tc 38 (t1 n) ak)) au)) (by kernel_rfl) (by kernel_rfl) (q := qt)
 rfl
 (by kernel_rfl)
theorem t26 (n : Int) : aL prog 66 (e26 n) := aD [] au (by kernel_rfl) (by kernel_rfl) (q := qt)
 rfl
 (by kernel_rfl)
theorem t27 (n : Int) : aL prog 66 (e27 n) := aD [] (tk (f := 60) (tc 20 (t9 n) (tc 38 (t9 n) ak)) (tk (f := 127) (tc 20 (t1 n) (tc 38 (t1 n) ak)) au)) (by kernel_rfl) (by kernel_rfl) (q := qt)
 rfl
 (by kernel_rfl)
theorem t28 (n : Int) : aL prog 30 (e28 n) := aD [] (tk (f := 60) (tc 13 (t2 n) (tc 31 (t2 n) (tc 36 (t2 n) ak))) (tk (f := 45) (tc 23 (t23 n) ak) (tk (f := 63) (tc 24 (t24 n) ak) (tk (f := 66) (tc 25 (t25 n) (tc 26 (t26 n) (tc 27 (t27 n) (tc 28 (t26 n) ak)))) (tk (f := 127) (tc 31 (t1 n) (tc 36 (t1 n) ak)) au))))) (by kernel_rfl) (by kernel_rfl) (q := qt)
 rfl
 (by kernel_rfl)
theorem t29 (n : Int) : aL prog 127 (e29 n) := aD [] au (by kernel_rfl) (by kernel_rfl) (q := rp ((.mp (.int .i64) .bool [((0 : Int), true)] : Ob) = .mp (.int .i64) .bool [((0 : Int), true)]) 1 (qt))
 (dP rfl _ rfl)
 (by kernel_rfl)
theorem t30 (n : Int) : aL prog 60 (e30 n) := aD [] (tk (f := 127) (tc 2 (t29 n) ak) au) (by kernel_rfl) (by kernel_rfl) (q := qt)
 rfl
 (by kernel_rfl)
theorem t31 (n : Int) : aL prog 57 (e31 n) := aD [] (tk (f := 30) (tc 17 (t28 n) ak) (tk (f := 60) (tc 8382 (t2 n) (tc 8450 (t30 n) ak)) au)) (by kernel_rfl) (by kernel_rfl) (q := qt)
 rfl
 (by kernel_rfl)
theorem t32 (n : Int) : aL prog 29 (e32 n) := aD [] (tk (f := 30) (tc 17 (t17 n) (tc 400 (t28 n) ak)) (tk (f := 60) (tc 410 (t2 n) ak) (tk (f := 127) (tc 410 (t1 n) ak) (tk (f := 57) (tc 607 (t31 n) ak) au)))) (by kernel_rfl) (by kernel_rfl) (q := qt)
 rfl
 (by kernel_rfl)
theorem t33 (n : Int) : aL prog 39 (e33 n) := aD [(9, [(ls [(sy s4), (ls [(sy s6), (sy s7)]), (sy s7)]), (ls [(sy s1), (sy s2), (sy s3), (sy s8)]), (ls [(sy s9), (sy s2), (ls [(sy s10), (sy s3)]), (num 1)])])] (tk (f := 22) (tc 9 (t18 n) ak) (tk (f := 28) (tc 13 (t22 n) ak) (tk (f := 29) (tc 21 (t32 n) ak) au))) (by kernel_rfl) (by kernel_rfl) (q := ((s20 ++ aj 0 ++ s21 ++ aj 0 ++ s22).size <= 3000 /\ kY 400 (s20 ++ aj 0 ++ s21 ++ aj 0 ++ s22) = some (RR.mk (lY ([ls [sy (ByteArray.mk (#[100, 101, 102, 105, 110, 101])), ls [sy (ByteArray.mk (#[102, 48])), sy (ByteArray.mk (#[110]))], sy (ByteArray.mk (#[110]))], ls [sy (ByteArray.mk (#[114, 101, 99, 111, 114, 100])), sy (ByteArray.mk (#[112])), sy (ByteArray.mk (#[97])), sy (ByteArray.mk (#[98, 48]))], ls [sy (ByteArray.mk (#[117, 112, 103, 114, 97, 100, 101])), sy (ByteArray.mk (#[112])), ls [sy (ByteArray.mk (#[119, 97, 115])), sy (ByteArray.mk (#[97]))], num 1]])) 0 0) /\ kU ([ls [sy (ByteArray.mk (#[100, 101, 102, 105, 110, 101])), ls [sy (ByteArray.mk (#[102, 48])), sy (ByteArray.mk (#[110]))], sy (ByteArray.mk (#[110]))], ls [sy (ByteArray.mk (#[114, 101, 99, 111, 114, 100])), sy (ByteArray.mk (#[112])), sy (ByteArray.mk (#[97])), sy (ByteArray.mk (#[98, 48]))], ls [sy (ByteArray.mk (#[117, 112, 103, 114, 97, 100, 101])), sy (ByteArray.mk (#[112])), ls [sy (ByteArray.mk (#[119, 97, 115])), sy (ByteArray.mk (#[97]))], num 1]])) /\
 rp (((dxL [(ls [(sy s4), (ls [(sy s6), (sy s7)]), (sy s7)]), (ls [(sy s1), (sy s2), (sy s3), (sy s8)]), (ls [(sy s9), (sy s2), (ls [(sy s10), (sy s3)]), (num 1)])]) : Nat -> Nat -> Dt) = (dxL [(ls [(sy s4), (ls [(sy s6), (sy s7)]), (sy s7)]), (ls [(sy s1), (sy s2), (sy s3), (sy s8)]), (ls [(sy s9), (sy s2), (ls [(sy s10), (sy s3)]), (num 1)])])) 1 (rp (((dxL []) : Nat -> Nat -> Dt) = (dxL [])) 1 (qt)))
 (by
 obtain ⟨h0, h1, h2, h3, h4, h5, h6, h7, h8, h9⟩ := fx n
 refine ⟨tN (by repeat first | exact Bg | apply sV | apply Jo | exact IG (by kernel_rfl) | exact yR (by omega) (by omega) | exact Gs (by omega) (by omega) (by omega) (by omega)) (by simp only [ByteArray.size_append, aG, List.size_toArray, List.length_cons, List.length_nil, List.append_eq, List.length_append, Hw, IK, GX]; omega) (by (simp only [gD, gH, List.append_assoc, List.nil_append, IE, Ih, HV]) <;> kernel_rfl) (by kernel_rfl) (by kernel_rfl) (by kernel_rfl), ?_⟩
 iterate 2 refine dP rfl _ ?_
 rfl
 )
  (by kernel_rfl)
end Gv.LEnvNow
set_option linter.unusedSimpArgs false
set_option linter.unusedVariables false
set_option maxRecDepth 100000
open Rx Go
namespace Gv.LEnvNow
open Gv Rd
theorem t34 (n : Int) : aL prog 30 (e34 n) := aD [] (tk (f := 60) (tc 14 (t30 n) (tc 32 (t30 n) (tc 37 (t30 n) ak))) (tk (f := 45) (tc 24 (t23 n) ak) (tk (f := 63) (tc 25 (t24 n) ak) (tk (f := 66) (tc 26 (t25 n) (tc 27 (t26 n) (tc 28 (t27 n) (tc 29 (t26 n) ak)))) (tk (f := 127) (tc 32 (t29 n) (tc 37 (t29 n) ak)) au))))) (by kernel_rfl) (by kernel_rfl) (q := qt)
 rfl
 (by kernel_rfl)
theorem t35 (n : Int) : aL prog 22 (e35 n) := aD [] (tk (f := 30) (tc 15 (t34 n) ak) au) (by kernel_rfl) (by kernel_rfl) (q := qt)
 rfl
 (by kernel_rfl)
theorem t37 (n : Int) (hm : aN n 6 = 2) : aL prog 16 (e37 n) := jQ (by decide) (by decide) hm
theorem t38 (n : Int) : aL prog 45 (e38 n) := aD [] au (by kernel_rfl) (by kernel_rfl) (q := qt)
 rfl
 (by kernel_rfl)
theorem t39 (n : Int) : aL prog 28 (e39 n) := aD [] (tk (f := 45) (tc 5 (t38 n) ak) au) (by kernel_rfl) (by kernel_rfl) (q := rp ((D (.arr 4 2 (dxL [(sy s11), (sy s7)])) : SV) = D (.arr 4 2 (dxL [(sy s11), (sy s7)]))) 1 (rp ((D (.arr 4 2 (dxL [(sy s10), (sy s3)])) : SV) = D (.arr 4 2 (dxL [(sy s10), (sy s3)]))) 1 (rp ((D (.arr 4 3 (fun i j => (dxL [(sy s9), (sy s2), (ls [(sy s10), (sy s3)]), (num 1)]) (i + (Rx.z0 (Option.some (1 : Int))).toNat) (j))) : SV) = D (.arr 4 3 (fun i j => (dxL [(sy s9), (sy s2), (ls [(sy s10), (sy s3)]), (num 1)]) (i + (Rx.z0 (Option.some (1 : Int))).toNat) (j)))) 1 (rp (((dxL []) : Nat -> Nat -> Dt) = (dxL [])) 1 (qt)))))
 (dP rfl _ (dP rfl _ (dP rfl _ (dP rfl _ rfl))))
 (by kernel_rfl)
theorem t40 (n : Int) : aL prog 45 (e40 n) := aD [] au (by kernel_rfl) (by kernel_rfl) (q := qt)
 rfl
 (by kernel_rfl)
theorem t41 (n : Int) : aL prog 63 (e41 n) := aD [] au (by kernel_rfl) (by kernel_rfl) (q := qt)
 rfl
 (by kernel_rfl)
theorem t42 (n : Int) : aL prog 66 (e42 n) := aD [] (tk (f := 60) (tc 20 (t9 n) (tc 38 (t9 n) ak)) (tk (f := 127) (tc 20 (t1 n) (tc 38 (t1 n) ak)) au)) (by kernel_rfl) (by kernel_rfl) (q := qt)
 rfl
 (by kernel_rfl)
theorem t43 (n : Int) : aL prog 66 (e43 n) := aD [] au (by kernel_rfl) (by kernel_rfl) (q := qt)
 rfl
 (by kernel_rfl)
theorem t44 (n : Int) : aL prog 66 (e44 n) := aD [] (tk (f := 60) (tc 20 (t9 n) (tc 38 (t9 n) ak)) (tk (f := 127) (tc 20 (t1 n) (tc 38 (t1 n) ak)) au)) (by kernel_rfl) (by kernel_rfl) (q := qt)
 rfl
 (by kernel_rfl)
theorem t45 (n : Int) : aL prog 66 (e45 n) := aD [] au (by kernel_rfl) (by kernel_rfl) (q := qt)
 rfl
 (by kernel_rfl)
theorem t46 (n : Int) : aL prog 66 (e46 n) := aD [] (tk (f := 60) (tc 20 (t9 n) (tc 38 (t9 n) ak)) (tk (f := 127) (tc 20 (t1 n) (tc 38 (t1 n) ak)) au)) (by kernel_rfl) (by kernel_rfl) (q := qt)
 rfl
 (by kernel_rfl)
end Gv.LEnvNow
set_option linter.unusedSimpArgs false
set_option linter.unusedVariables false
open Rx Go
namespace Gv
open Rd LEnvNow
noncomputable def vJ (n : Int) : TL := [(16, [(0, (e20 n))]), (39, [(10, (e14 n)), (21, (e33 n))]), (22, [(38, (e35 n))])]
def uN (n : Int) : Prop :=
 rp (en (n)) 1 (((((ByteArray.mk (#[40, 100, 101, 102, 105, 110, 101, 32, 40, 102])).size : Nat) : Int) + (((aj 0).size : Nat) : Int) <= 9223372036854775807) /\
 (((((ByteArray.mk (#[40, 100, 101, 102, 105, 110, 101, 32, 40, 102])) ++ aj 0).size : Nat) : Int) + (((ByteArray.mk (#[32, 110, 41, 32, 110, 41, 32, 40, 114, 101, 99, 111, 114, 100, 32, 112, 32, 97, 32, 98])).size : Nat) : Int) <= 9223372036854775807) /\
 (((((ByteArray.mk (#[40, 100, 101, 102, 105, 110, 101, 32, 40, 102])) ++ aj 0 ++ (ByteArray.mk (#[32, 110, 41, 32, 110, 41, 32, 40, 114, 101, 99, 111, 114, 100, 32, 112, 32, 97, 32, 98]))).size : Nat) : Int) + (((aj 0).size : Nat) : Int) <= 9223372036854775807) /\
 (((((ByteArray.mk (#[40, 100, 101, 102, 105, 110, 101, 32, 40, 102])) ++ aj 0 ++ (ByteArray.mk (#[32, 110, 41, 32, 110, 41, 32, 40, 114, 101, 99, 111, 114, 100, 32, 112, 32, 97, 32, 98])) ++ aj 0).size : Nat) : Int) + (((ByteArray.mk (#[41, 32, 40, 117, 112, 103, 114, 97, 100, 101, 32, 112, 32, 40, 119, 97, 115, 32, 97, 41, 32, 49, 41])).size : Nat) : Int) <= 9223372036854775807) /\
 (s20 ++ aj 0 ++ s21 ++ aj 0 ++ s22 = (ByteArray.mk (#[40, 100, 101, 102, 105, 110, 101, 32, 40, 102])) ++ aj 0 ++ (ByteArray.mk (#[32, 110, 41, 32, 110, 41, 32, 40, 114, 101, 99, 111, 114, 100, 32, 112, 32, 97, 32, 98])) ++ aj 0 ++ (ByteArray.mk (#[41, 32, 40, 117, 112, 103, 114, 97, 100, 101, 32, 112, 32, 40, 119, 97, 115, 32, 97, 41, 32, 49, 41]))) /\
 ((((ByteArray.mk (#[102])).size : Nat) : Int) + (((aj 0).size : Nat) : Int) <= 9223372036854775807) /\
 (((s6.data.toList == ((ByteArray.mk (#[102])) ++ aj 0).data.toList) = true -> ((((ByteArray.mk (#[98])).size : Nat) : Int) + (((aj 0).size : Nat) : Int) <= 9223372036854775807) /\
 (((s8.data.toList == ((ByteArray.mk (#[98])) ++ aj 0).data.toList) = true -> qt) /\ ((s8.data.toList == ((ByteArray.mk (#[98])) ++ aj 0).data.toList) = false -> ((SV.kb false : SV) = .kb true)))) /\ ((s6.data.toList == ((ByteArray.mk (#[102])) ++ aj 0).data.toList) = false -> ((SV.kb false : SV) = .kb true))))
set_option maxRecDepth 100000 in
theorem xH (n : Int) : (uN n) = (l6 [] (vJ n) 11 [any n]).holds fun y => y.1 = .kb true := by
 kernel_rfl
set_option maxRecDepth 100000 in
theorem z8 (n : Int) (hm : aN n 6 = 1) : uN n := by
 obtain ⟨h0, h1, h2, h3, h4, h5, h6, h7, h8, h9⟩ := fx n
 unfold uN
 refine dP rfl _ ?_
 refine ⟨by simp only [ByteArray.size_append, aG, List.size_toArray, List.length_cons, List.length_nil, List.append_eq, List.length_append]; omega, ?_⟩
 refine ⟨by simp only [ByteArray.size_append, aG, List.size_toArray, List.length_cons, List.length_nil, List.append_eq, List.length_append]; omega, ?_⟩
 refine ⟨by simp only [ByteArray.size_append, aG, List.size_toArray, List.length_cons, List.length_nil, List.append_eq, List.length_append]; omega, ?_⟩
 refine ⟨by simp only [ByteArray.size_append, aG, List.size_toArray, List.length_cons, List.length_nil, List.append_eq, List.length_append]; omega, ?_⟩
 refine ⟨rfl, ?_⟩
 refine ⟨by simp only [ByteArray.size_append, aG, List.size_toArray, List.length_cons, List.length_nil, List.append_eq, List.length_append]; omega, ?_⟩
 refine ⟨fun _ => ?_, fun h => absurd ((show (s6.data.toList == ((ByteArray.mk (#[102])) ++ aj 0).data.toList) = true by first | exact beq_self_eq_true _ | (rw [beq_iff_eq]; simp only [gD, gH, List.append_assoc, List.nil_append, XU]; try kernel_rfl)).symm.trans h) (by decide)⟩
 refine ⟨by simp only [ByteArray.size_append, aG, List.size_toArray, List.length_cons, List.length_nil, List.append_eq, List.length_append]; omega, ?_⟩
 refine ⟨fun _ => ?_, fun h => absurd ((show (s8.data.toList == ((ByteArray.mk (#[98])) ++ aj 0).data.toList) = true by first | exact beq_self_eq_true _ | (rw [beq_iff_eq]; simp only [gD, gH, List.append_assoc, List.nil_append, XD]; try kernel_rfl)).symm.trans h) (by decide)⟩
 rfl
theorem Fu (n : Int) (hm : aN n 6 = 1) : TOk (vJ n) := (bO (aR (t20 n hm) ak) (bO (aR (t14 n) (aR (t33 n) ak)) (bO (aR (t35 n) ak) au)))
theorem F7 (n : Int) (hm : aN n 6 = 1) : (l6 [] (vJ n) 11 [any n]).holds fun y => y.1 = .kb true := by
 rw [← xH]
 exact z8 n hm
end Gv
