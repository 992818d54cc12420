/- Told parts of GraftRefused. Printed by gvgen.py. -/
import Derived.Test.YtcmnmceodhambaaGreatDoorGvUGraftRefused
set_option linter.unusedSimpArgs false
set_option linter.unusedVariables false
set_option maxRecDepth 100000
open Rx Go
namespace Gv.LGraftRefused
open Gv Rd
theorem t0 (n : Int) : aM prog 127 (e0 n) := aJ [] au (by kernel_rfl) (by kernel_rfl) (q := rp ((.mp (.int .i64) .bool [] : Ob) = .mp (.int .i64) .bool []) 1 (qt))
 (bU rfl _ rfl)
 (by kernel_rfl)
theorem t1 (n : Int) : aM prog 60 (e1 n) := aJ [] (tk (f := 127) (tc 1 (t0 n) aj) au) (by kernel_rfl) (by kernel_rfl) (q := qt)
 rfl
 (by kernel_rfl)
theorem t2 (n : Int) : aM prog 45 (e2 n) := aJ [] au (by kernel_rfl) (by kernel_rfl) (q := qt)
 rfl
 (by kernel_rfl)
theorem t3 (n : Int) : aM prog 30 (e3 n) := aJ [] (tk (f := 60) (tc 1 (t1 n) aj) (tk (f := 45) (tc 2 (t2 n) aj) au)) (by kernel_rfl) (by kernel_rfl) (q := qt)
 rfl
 (by kernel_rfl)
theorem t4 (n : Int) : aM prog 22 (e4 n) := aJ [] (tk (f := 30) (tc 2 (t3 n) aj) au) (by kernel_rfl) (by kernel_rfl) (q := qt)
 rfl
 (by kernel_rfl)
theorem t5 (n : Int) : aM prog 28 (e5 n) := aJ [] (tk (f := 45) (tc 2 (t2 n) aj) au) (by kernel_rfl) (by kernel_rfl) (q := rp ((D (.arr 4 2 (dxL [(sy s8), (sy s9)])) : SV) = D (.arr 4 2 (dxL [(sy s8), (sy s9)]))) 1 (rp ((D (.arr 4 3 (dxL [(sy s2), (num 1), (ls [(sy s7), (ls [(num 2)])])])) : SV) = D (.arr 4 3 (dxL [(sy s2), (num 1), (ls [(sy s7), (ls [(num 2)])])]))) 1 (rp ((D (.arr 4 2 (dxL [(sy s7), (ls [(num 2)])])) : SV) = D (.arr 4 2 (dxL [(sy s7), (ls [(num 2)])]))) 1 (rp (((dxL [(num 2)]) : Nat -> Nat -> Dt) = (dxL [(num 2)])) 1 (rp (((dxL []) : Nat -> Nat -> Dt) = (dxL [])) 1 (qt))))))
 (bU rfl _ (bU rfl _ (bU rfl _ (bU rfl _ (bU rfl _ rfl)))))
 (by kernel_rfl)
theorem t6 (n : Int) : aM prog 45 (e6 n) := aJ [] au (by kernel_rfl) (by kernel_rfl) (q := qt)
 rfl
 (by kernel_rfl)
theorem t7 (n : Int) : aM prog 63 (e7 n) := aJ [] au (by kernel_rfl) (by kernel_rfl) (q := qt)
 rfl
 (by kernel_rfl)
theorem t8 (n : Int) : aM prog 60 (e8 n) := aJ [] (tk (f := 127) (tc 1 (t0 n) aj) au) (by kernel_rfl) (by kernel_rfl) (q := qt)
 rfl
 (by kernel_rfl)
theorem t9 (n : Int) : aM prog 66 (e9 n) := aJ [] (tk (f := 60) (tc 26 (t8 n) (tc 42 (t8 n) (tc 52 (t8 n) (tc 89 (t8 n) (tc 101 (t8 n) (tc 109 (t8 n) aj)))))) (tk (f := 127) (tc 26 (t0 n) (tc 42 (t0 n) (tc 52 (t0 n) (tc 89 (t0 n) (tc 101 (t0 n) (tc 109 (t0 n) aj)))))) au)) (by kernel_rfl) (by kernel_rfl) (q := qt)
 rfl
 (by kernel_rfl)
theorem t10 (n : Int) : aM prog 66 (e10 n) := aJ [] au (by kernel_rfl) (by kernel_rfl) (q := qt)
 rfl
 (by kernel_rfl)
theorem t11 (n : Int) : aM prog 30 (e11 n) := aJ [] (tk (f := 60) (tc 8 (t1 n) (tc 24 (t1 n) (tc 29 (t1 n) aj))) (tk (f := 45) (tc 18 (t6 n) aj) (tk (f := 63) (tc 19 (t7 n) aj) (tk (f := 66) (tc 20 (t9 n) (tc 21 (t10 n) aj)) (tk (f := 127) (tc 24 (t0 n) (tc 29 (t0 n) aj)) au))))) (by kernel_rfl) (by kernel_rfl) (q := qt)
 rfl
 (by kernel_rfl)
theorem t12 (n : Int) : aM prog 127 (e12 n) := aJ [] au (by kernel_rfl) (by kernel_rfl) (q := rp ((.mp (.int .i64) .bool [((0 : Int), true)] : Ob) = .mp (.int .i64) .bool [((0 : Int), true)]) 1 (qt))
 (bU rfl _ rfl)
 (by kernel_rfl)
theorem t13 (n : Int) : aM prog 60 (e13 n) := aJ [] (tk (f := 127) (tc 2 (t12 n) aj) au) (by kernel_rfl) (by kernel_rfl) (q := qt)
 rfl
 (by kernel_rfl)
theorem t14 (n : Int) : aM prog 57 (e14 n) := aJ [] (tk (f := 30) (tc 12 (t11 n) aj) (tk (f := 60) (tc 8358 (t1 n) (tc 8426 (t13 n) aj)) au)) (by kernel_rfl) (by kernel_rfl) (q := qt)
 rfl
 (by kernel_rfl)
theorem t15 (n : Int) : aM prog 63 (e15 n) := aJ [] au (by kernel_rfl) (by kernel_rfl) (q := qt)
 rfl
 (by kernel_rfl)
theorem t16 (n : Int) : aM prog 30 (e16 n) := aJ [] (tk (f := 60) (tc 9 (t13 n) (tc 25 (t13 n) (tc 30 (t13 n) aj))) (tk (f := 45) (tc 19 (t6 n) aj) (tk (f := 63) (tc 20 (t15 n) aj) (tk (f := 66) (tc 21 (t9 n) (tc 22 (t10 n) aj)) (tk (f := 127) (tc 25 (t12 n) (tc 30 (t12 n) aj)) au))))) (by kernel_rfl) (by kernel_rfl) (q := qt)
 rfl
 (by kernel_rfl)
theorem t17 (n : Int) : aM prog 59 (e17 n) := aJ [] (tk (f := 30) (tc 13 (t16 n) aj) (tk (f := 66) (tc 164 (t9 n) aj) au)) (by kernel_rfl) (by kernel_rfl) (q := qt)
 rfl
 (by kernel_rfl)
theorem t18 (n : Int) : aM prog 29 (e18 n) := aJ [] (tk (f := 30) (tc 9 (t3 n) (tc 352 (t11 n) aj)) (tk (f := 57) (tc 357 (t14 n) aj) (tk (f := 59) (tc 372 (t17 n) aj) au))) (by kernel_rfl) (by kernel_rfl) (q := qt)
 rfl
 (by kernel_rfl)
theorem t19 (n : Int) : aM prog 39 (e19 n) := aJ [(2, [(ls [(sy s1), (sy s2), (sy s3), (sy s4)]), (ls [(sy s5), (sy s6), (ls [(sy s2), (num 1), (ls [(sy s7), (ls [(num 2)])])])]), (ls [(sy s5), (ls [(sy s8), (sy s9)]), (sy s6)])])] (tk (f := 22) (tc 2 (t4 n) aj) (tk (f := 28) (tc 3 (t5 n) aj) (tk (f := 29) (tc 10 (t18 n) aj) au))) (by kernel_rfl) (by kernel_rfl) (q := (s18.size <= 3000 /\ iJ 400 s18 = some (RR.mk (jY ([ls [sy (ByteArray.mk (#[114, 101, 99, 111, 114, 100])), sy (ByteArray.mk (#[112])), sy (ByteArray.mk (#[97])), sy (ByteArray.mk (#[98]))], ls [sy (ByteArray.mk (#[100, 101, 102, 105, 110, 101])), sy (ByteArray.mk (#[120])), ls [sy (ByteArray.mk (#[112])), num 1, ls [sy (ByteArray.mk (#[113, 117, 111, 116, 101])), ls [num 2]]]], ls [sy (ByteArray.mk (#[100, 101, 102, 105, 110, 101])), ls [sy (ByteArray.mk (#[102])), sy (ByteArray.mk (#[110]))], sy (ByteArray.mk (#[120]))]])) 0 0) /\ dS ([ls [sy (ByteArray.mk (#[114, 101, 99, 111, 114, 100])), sy (ByteArray.mk (#[112])), sy (ByteArray.mk (#[97])), sy (ByteArray.mk (#[98]))], ls [sy (ByteArray.mk (#[100, 101, 102, 105, 110, 101])), sy (ByteArray.mk (#[120])), ls [sy (ByteArray.mk (#[112])), num 1, ls [sy (ByteArray.mk (#[113, 117, 111, 116, 101])), ls [num 2]]]], ls [sy (ByteArray.mk (#[100, 101, 102, 105, 110, 101])), ls [sy (ByteArray.mk (#[102])), sy (ByteArray.mk (#[110]))], sy (ByteArray.mk (#[120]))]])) /\
 rp (((dxL [(ls [(sy s1), (sy s2), (sy s3), (sy s4)]), (ls [(sy s5), (sy s6), (ls [(sy s2), (num 1), (ls [(sy s7), (ls [(num 2)])])])]), (ls [(sy s5), (ls [(sy s8), (sy s9)]), (sy s6)])]) : Nat -> Nat -> Dt) = (dxL [(ls [(sy s1), (sy s2), (sy s3), (sy s4)]), (ls [(sy s5), (sy s6), (ls [(sy s2), (num 1), (ls [(sy s7), (ls [(num 2)])])])]), (ls [(sy s5), (ls [(sy s8), (sy s9)]), (sy s6)])])) 1 (rp (((dxL [(num 2)]) : Nat -> Nat -> Dt) = (dxL [(num 2)])) 1 (rp (((dxL []) : Nat -> Nat -> Dt) = (dxL [])) 1 (qt))))
 (by
 refine ⟨⟨by decide, by kernel_rfl, by simp [dS, Dx.fits, ls, sy, num, nu]⟩, ?_⟩
 iterate 3 refine bU rfl _ ?_
 rfl
 )
  (by kernel_rfl)
theorem t20 (n : Int) (hm : aH n 9 = 0) : aM prog 16 (e20 n) := fQ (by decide) (by decide) hm
end Gv.LGraftRefused
set_option linter.unusedSimpArgs false
set_option linter.unusedVariables false
set_option maxRecDepth 100000
open Rx Go
namespace Gv.LGraftRefused
open Gv Rd
theorem t21 (n : Int) : aM prog 127 (e21 n) := aJ [] au (by kernel_rfl) (by kernel_rfl) (q := rp ((.mp (.int .i64) .bool [((0 : Int), true), ((2 : Int), true), ((5 : Int), true)] : Ob) = .mp (.int .i64) .bool [((0 : Int), true), ((2 : Int), true), ((5 : Int), true)]) 1 (qt))
 (bU rfl _ rfl)
 (by kernel_rfl)
theorem t22 (n : Int) : aM prog 60 (e22 n) := aJ [] (tk (f := 127) (tc 2 (t21 n) aj) au) (by kernel_rfl) (by kernel_rfl) (q := qt)
 rfl
 (by kernel_rfl)
theorem t23 (n : Int) : aM prog 63 (e23 n) := aJ [] au (by kernel_rfl) (by kernel_rfl) (q := qt)
 rfl
 (by kernel_rfl)
theorem t24 (n : Int) : aM prog 66 (e24 n) := aJ [] (tk (f := 60) (tc 26 (t8 n) (tc 42 (t8 n) (tc 52 (t8 n) (tc 89 (t8 n) (tc 101 (t8 n) (tc 109 (t8 n) aj)))))) (tk (f := 127) (tc 26 (t0 n) (tc 42 (t0 n) (tc 52 (t0 n) (tc 89 (t0 n) (tc 101 (t0 n) (tc 109 (t0 n) aj)))))) au)) (by kernel_rfl) (by kernel_rfl) (q := qt)
 rfl
 (by kernel_rfl)
theorem t25 (n : Int) : aM prog 66 (e25 n) := aJ [] au (by kernel_rfl) (by kernel_rfl) (q := qt)
 rfl
 (by kernel_rfl)
theorem t26 (n : Int) : aM prog 30 (e26 n) := aJ [] (tk (f := 60) (tc 10 (t22 n) (tc 26 (t22 n) (tc 31 (t22 n) aj))) (tk (f := 45) (tc 20 (t6 n) aj) (tk (f := 63) (tc 21 (t23 n) aj) (tk (f := 66) (tc 22 (t24 n) (tc 23 (t25 n) aj)) (tk (f := 127) (tc 26 (t21 n) (tc 31 (t21 n) aj)) au))))) (by kernel_rfl) (by kernel_rfl) (q := qt)
 rfl
 (by kernel_rfl)
theorem t27 (n : Int) : aM prog 22 (e27 n) := aJ [] (tk (f := 30) (tc 11 (t26 n) aj) au) (by kernel_rfl) (by kernel_rfl) (q := qt)
 rfl
 (by kernel_rfl)
theorem t28 (n : Int) : aM prog 45 (e28 n) := aJ [] au (by kernel_rfl) (by kernel_rfl) (q := qt)
 rfl
 (by kernel_rfl)
theorem t29 (n : Int) : aM prog 28 (e29 n) := aJ [] (tk (f := 45) (tc 5 (t28 n) aj) au) (by kernel_rfl) (by kernel_rfl) (q := qt)
 rfl
 (by kernel_rfl)
theorem t30 (n : Int) : aM prog 29 (e30 n) := aJ [] (tk (f := 30) (tc 14 (t26 n) aj) au) (by kernel_rfl) (by kernel_rfl) (q := qt)
 rfl
 (by kernel_rfl)
theorem t32 (n : Int) (hm : aH n 9 = 1) : aM prog 16 (e32 n) := fQ (by decide) (by decide) hm
theorem t33 (n : Int) : aM prog 28 (e33 n) := aJ [] (tk (f := 45) (tc 5 (t28 n) aj) au) (by kernel_rfl) (by kernel_rfl) (q := rp ((D (.arr 4 2 (dxL [(sy s11), (ls [(sy s12), (sy s3)])])) : SV) = D (.arr 4 2 (dxL [(sy s11), (ls [(sy s12), (sy s3)])]))) 1 (rp ((D (.arr 4 2 (dxL [(sy s12), (sy s3)])) : SV) = D (.arr 4 2 (dxL [(sy s12), (sy s3)]))) 1 (rp ((D (.arr 4 2 (fun i j => (dxL [(sy s10), (sy s2), (ls [(sy s11), (ls [(sy s12), (sy s3)])])]) (i + (Rx.z0 (Option.some (1 : Int))).toNat) (j))) : SV) = D (.arr 4 2 (fun i j => (dxL [(sy s10), (sy s2), (ls [(sy s11), (ls [(sy s12), (sy s3)])])]) (i + (Rx.z0 (Option.some (1 : Int))).toNat) (j)))) 1 (qt))))
 (bU rfl _ (bU rfl _ (bU rfl _ rfl)))
 (by kernel_rfl)
theorem t34 (n : Int) : aM prog 63 (e34 n) := aJ [] au (by kernel_rfl) (by kernel_rfl) (q := qt)
 rfl
 (by kernel_rfl)
theorem t35 (n : Int) : aM prog 66 (e35 n) := aJ [] (tk (f := 60) (tc 26 (t8 n) (tc 42 (t8 n) (tc 52 (t8 n) (tc 89 (t8 n) (tc 101 (t8 n) (tc 109 (t8 n) aj)))))) (tk (f := 127) (tc 26 (t0 n) (tc 42 (t0 n) (tc 52 (t0 n) (tc 89 (t0 n) (tc 101 (t0 n) (tc 109 (t0 n) aj)))))) au)) (by kernel_rfl) (by kernel_rfl) (q := qt)
 rfl
 (by kernel_rfl)
theorem t36 (n : Int) : aM prog 66 (e36 n) := aJ [] au (by kernel_rfl) (by kernel_rfl) (q := qt)
 rfl
 (by kernel_rfl)
theorem t37 (n : Int) : aM prog 66 (e37 n) := aJ [] au (by kernel_rfl) (by kernel_rfl) (q := qt)
 rfl
 (by kernel_rfl)
theorem t38 (n : Int) : aM prog 30 (e38 n) := aJ [] (tk (f := 60) (tc 13 (t22 n) (tc 30 (t22 n) (tc 35 (t22 n) aj))) (tk (f := 45) (tc 23 (t6 n) aj) (tk (f := 63) (tc 24 (t34 n) aj) (tk (f := 66) (tc 25 (t35 n) (tc 26 (t36 n) (tc 27 (t37 n) aj))) (tk (f := 127) (tc 30 (t21 n) (tc 35 (t21 n) aj)) au))))) (by kernel_rfl) (by kernel_rfl) (q := qt)
 rfl
 (by kernel_rfl)
theorem t39 (n : Int) : aM prog 127 (e39 n) := aJ [] au (by kernel_rfl) (by kernel_rfl) (q := rp ((.mp (.int .i64) .bool [((0 : Int), true), ((5 : Int), true), ((7 : Int), true)] : Ob) = .mp (.int .i64) .bool [((0 : Int), true), ((5 : Int), true), ((7 : Int), true)]) 1 (qt))
 (bU rfl _ rfl)
 (by kernel_rfl)
theorem t40 (n : Int) : aM prog 60 (e40 n) := aJ [] (tk (f := 127) (tc 2 (t39 n) aj) au) (by kernel_rfl) (by kernel_rfl) (q := qt)
 rfl
 (by kernel_rfl)
theorem t41 (n : Int) : aM prog 30 (e41 n) := aJ [] (tk (f := 60) (tc 13 (t40 n) (tc 30 (t40 n) (tc 35 (t40 n) aj))) (tk (f := 45) (tc 23 (t6 n) aj) (tk (f := 63) (tc 24 (t34 n) aj) (tk (f := 66) (tc 25 (t35 n) (tc 26 (t36 n) (tc 27 (t37 n) aj))) (tk (f := 127) (tc 30 (t39 n) (tc 35 (t39 n) aj)) au))))) (by kernel_rfl) (by kernel_rfl) (q := qt)
 rfl
 (by kernel_rfl)
end Gv.LGraftRefused
set_option linter.unusedSimpArgs false
set_option linter.unusedVariables false
open Rx Go
namespace Gv
open Rd LGraftRefused
noncomputable def jP (n : Int) : TL := [(39, [(6, (e19 n))]), (16, [(21, (e20 n))]), (22, [(23, (e27 n))]), (28, [(27, (e29 n))]), (29, [(30, (e30 n))])]
def jC (n : Int) : Prop :=
 rp (en (n)) 1 (((ByteArray.mk (#[40, 114, 101, 99, 111, 114, 100, 32, 112, 32, 97, 41])).size <= 3000 /\ iJ 400 (ByteArray.mk (#[40, 114, 101, 99, 111, 114, 100, 32, 112, 32, 97, 41])) = some (RR.mk (jY ([ls [sy (ByteArray.mk (#[114, 101, 99, 111, 114, 100])), sy (ByteArray.mk (#[112])), sy (ByteArray.mk (#[97]))]])) 0 0) /\ dS ([ls [sy (ByteArray.mk (#[114, 101, 99, 111, 114, 100])), sy (ByteArray.mk (#[112])), sy (ByteArray.mk (#[97]))]])) /\
 rp (((dxL [(ls [(sy s1), (sy s2), (sy s3)])]) : Nat -> Nat -> Dt) = (dxL [(ls [(sy s1), (sy s2), (sy s3)])])) 1 (qt))
set_option maxRecDepth 100000 in
theorem pI (n : Int) : (jC n) = (iw [(23, [(ls [(sy s1), (sy s2), (sy s3)])])] (jP n) 6 [any n]).holds fun y => y.1 = .kb true := by
 kernel_rfl
set_option maxRecDepth 100000 in
theorem qA (n : Int) (hm : aH n 9 = 0) : jC n := by
 unfold jC
 refine bU rfl _ ?_
 refine ⟨⟨by decide, by kernel_rfl, by simp [dS, Dx.fits, ls, sy, num, nu]⟩, ?_⟩
 refine bU rfl _ ?_
 rfl
theorem um (n : Int) (hm : aH n 9 = 0) : TOk (jP n) := (aK (aO (t19 n) aj) (aK (aO (t20 n hm) aj) (aK (aO (t27 n) aj) (aK (aO (t29 n) aj) (aK (aO (t30 n) aj) au)))))
theorem uO (n : Int) (hm : aH n 9 = 0) : (iw [(23, [(ls [(sy s1), (sy s2), (sy s3)])])] (jP n) 6 [any n]).holds fun y => y.1 = .kb true := by
 rw [← pI]
 exact qA n hm
end Gv
set_option linter.unusedSimpArgs false
set_option linter.unusedVariables false
set_option maxRecDepth 100000
open Rx Go
namespace Gv.LGraftRefused
open Gv Rd
theorem t42 (n : Int) : aM prog 116 (e42 n) := aJ [] (tk (f := 30) (tc 17 (t41 n) aj) (tk (f := 60) (tc 184 (t40 n) aj) (tk (f := 127) (tc 184 (t39 n) aj) au))) (by kernel_rfl) (by kernel_rfl) (q := qt)
 rfl
 (by kernel_rfl)
theorem t43 (n : Int) : aM prog 29 (e43 n) := aJ [] (tk (f := 30) (tc 17 (t26 n) (tc 319 (t38 n) aj)) (tk (f := 60) (tc 329 (t22 n) aj) (tk (f := 127) (tc 329 (t21 n) aj) (tk (f := 116) (tc 559 (t42 n) aj) au)))) (by kernel_rfl) (by kernel_rfl) (q := qt)
 rfl
 (by kernel_rfl)
theorem t45 (n : Int) (hm : aH n 9 = 2) : aM prog 16 (e45 n) := fQ (by decide) (by decide) hm
theorem t46 (n : Int) : aM prog 28 (e46 n) := aJ [] (tk (f := 45) (tc 5 (t28 n) aj) au) (by kernel_rfl) (by kernel_rfl) (q := rp ((D (.arr 4 3 (dxL [(sy s13), (ls [(sy s12), (sy s4)]), (num 1)])) : SV) = D (.arr 4 3 (dxL [(sy s13), (ls [(sy s12), (sy s4)]), (num 1)]))) 1 (rp ((D (.arr 4 2 (dxL [(sy s12), (sy s4)])) : SV) = D (.arr 4 2 (dxL [(sy s12), (sy s4)]))) 1 (rp ((D (.arr 4 2 (fun i j => (dxL [(sy s10), (sy s2), (ls [(sy s13), (ls [(sy s12), (sy s4)]), (num 1)])]) (i + (Rx.z0 (Option.some (1 : Int))).toNat) (j))) : SV) = D (.arr 4 2 (fun i j => (dxL [(sy s10), (sy s2), (ls [(sy s13), (ls [(sy s12), (sy s4)]), (num 1)])]) (i + (Rx.z0 (Option.some (1 : Int))).toNat) (j)))) 1 (rp (((dxL []) : Nat -> Nat -> Dt) = (dxL [])) 1 (qt)))))
 (bU rfl _ (bU rfl _ (bU rfl _ (bU rfl _ rfl))))
 (by kernel_rfl)
theorem t47 (n : Int) : aM prog 63 (e47 n) := aJ [] au (by kernel_rfl) (by kernel_rfl) (q := qt)
 rfl
 (by kernel_rfl)
theorem t48 (n : Int) : aM prog 66 (e48 n) := aJ [] (tk (f := 60) (tc 38 (t8 n) (tc 74 (t8 n) aj)) (tk (f := 127) (tc 38 (t0 n) (tc 74 (t0 n) aj)) au)) (by kernel_rfl) (by kernel_rfl) (q := qt)
 rfl
 (by kernel_rfl)
theorem t49 (n : Int) : aM prog 30 (e49 n) := aJ [] (tk (f := 60) (tc 13 (t22 n) (tc 30 (t22 n) (tc 35 (t22 n) aj))) (tk (f := 45) (tc 23 (t6 n) aj) (tk (f := 63) (tc 24 (t47 n) aj) (tk (f := 66) (tc 25 (t35 n) (tc 26 (t36 n) (tc 27 (t48 n) aj))) (tk (f := 127) (tc 30 (t21 n) (tc 35 (t21 n) aj)) au))))) (by kernel_rfl) (by kernel_rfl) (q := qt)
 rfl
 (by kernel_rfl)
theorem t50 (n : Int) : aM prog 30 (e50 n) := aJ [] (tk (f := 60) (tc 13 (t40 n) (tc 30 (t40 n) (tc 35 (t40 n) aj))) (tk (f := 45) (tc 23 (t6 n) aj) (tk (f := 63) (tc 24 (t47 n) aj) (tk (f := 66) (tc 25 (t35 n) (tc 26 (t36 n) (tc 27 (t48 n) aj))) (tk (f := 127) (tc 30 (t39 n) (tc 35 (t39 n) aj)) au))))) (by kernel_rfl) (by kernel_rfl) (q := qt)
 rfl
 (by kernel_rfl)
theorem t51 (n : Int) : aM prog 116 (e51 n) := aJ [] (tk (f := 30) (tc 17 (t50 n) aj) (tk (f := 60) (tc 184 (t40 n) aj) (tk (f := 127) (tc 184 (t39 n) aj) au))) (by kernel_rfl) (by kernel_rfl) (q := qt)
 rfl
 (by kernel_rfl)
end Gv.LGraftRefused
set_option linter.unusedSimpArgs false
set_option linter.unusedVariables false
open Rx Go
namespace Gv
open Rd LGraftRefused
noncomputable def jE (n : Int) : TL := [(39, [(6, (e19 n))]), (16, [(21, (e32 n))]), (22, [(23, (e27 n))]), (28, [(27, (e33 n))]), (29, [(33, (e43 n))])]
def jQ (n : Int) : Prop :=
 rp (en (n)) 1 (((ByteArray.mk (#[40, 114, 101, 99, 111, 114, 100, 32, 112, 32, 97, 41, 32, 40, 117, 112, 103, 114, 97, 100, 101, 32, 112, 32, 40, 99, 97, 114, 32, 40, 119, 97, 115, 32, 97, 41, 41, 41])).size <= 3000 /\ iJ 400 (ByteArray.mk (#[40, 114, 101, 99, 111, 114, 100, 32, 112, 32, 97, 41, 32, 40, 117, 112, 103, 114, 97, 100, 101, 32, 112, 32, 40, 99, 97, 114, 32, 40, 119, 97, 115, 32, 97, 41, 41, 41])) = some (RR.mk (jY ([ls [sy (ByteArray.mk (#[114, 101, 99, 111, 114, 100])), sy (ByteArray.mk (#[112])), sy (ByteArray.mk (#[97]))], ls [sy (ByteArray.mk (#[117, 112, 103, 114, 97, 100, 101])), sy (ByteArray.mk (#[112])), ls [sy (ByteArray.mk (#[99, 97, 114])), ls [sy (ByteArray.mk (#[119, 97, 115])), sy (ByteArray.mk (#[97]))]]]])) 0 0) /\ dS ([ls [sy (ByteArray.mk (#[114, 101, 99, 111, 114, 100])), sy (ByteArray.mk (#[112])), sy (ByteArray.mk (#[97]))], ls [sy (ByteArray.mk (#[117, 112, 103, 114, 97, 100, 101])), sy (ByteArray.mk (#[112])), ls [sy (ByteArray.mk (#[99, 97, 114])), ls [sy (ByteArray.mk (#[119, 97, 115])), sy (ByteArray.mk (#[97]))]]]])) /\
 rp (((dxL [(ls [(sy s1), (sy s2), (sy s3)]), (ls [(sy s10), (sy s2), (ls [(sy s11), (ls [(sy s12), (sy s3)])])])]) : Nat -> Nat -> Dt) = (dxL [(ls [(sy s1), (sy s2), (sy s3)]), (ls [(sy s10), (sy s2), (ls [(sy s11), (ls [(sy s12), (sy s3)])])])])) 1 (qt))
set_option maxRecDepth 100000 in
theorem oW (n : Int) : (jQ n) = (iw [(23, [(ls [(sy s1), (sy s2), (sy s3)]), (ls [(sy s10), (sy s2), (ls [(sy s11), (ls [(sy s12), (sy s3)])])])])] (jE n) 6 [any n]).holds fun y => y.1 = .kb true := by
 kernel_rfl
set_option maxRecDepth 100000 in
theorem qJ (n : Int) (hm : aH n 9 = 1) : jQ n := by
 unfold jQ
 refine bU rfl _ ?_
 refine ⟨⟨by decide, by kernel_rfl, by simp [dS, Dx.fits, ls, sy, num, nu]⟩, ?_⟩
 refine bU rfl _ ?_
 rfl
theorem uy (n : Int) (hm : aH n 9 = 1) : TOk (jE n) := (aK (aO (t19 n) aj) (aK (aO (t32 n hm) aj) (aK (aO (t27 n) aj) (aK (aO (t33 n) aj) (aK (aO (t43 n) aj) au)))))
theorem tY (n : Int) (hm : aH n 9 = 1) : (iw [(23, [(ls [(sy s1), (sy s2), (sy s3)]), (ls [(sy s10), (sy s2), (ls [(sy s11), (ls [(sy s12), (sy s3)])])])])] (jE n) 6 [any n]).holds fun y => y.1 = .kb true := by
 rw [← oW]
 exact qJ n hm
end Gv
