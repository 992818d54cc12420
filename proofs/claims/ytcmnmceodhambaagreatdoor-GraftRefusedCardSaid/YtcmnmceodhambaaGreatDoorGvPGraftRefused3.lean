/- Told parts of GraftRefused. Printed by gvgen.py. -/
import Derived.Test.YtcmnmceodhambaaGreatDoorGvUGraftRefused
import Derived.Test.YtcmnmceodhambaaGreatDoorGvPGraftRefused0
set_option linter.unusedSimpArgs false
set_option linter.unusedVariables false
set_option maxRecDepth 100000
open Rx Go
namespace Gv.LGraftRefused
open Gv Rd
theorem t52 (n : Int) : aM prog 29 (e52 n) := aJ [] (tk (f := 30) (tc 17 (t26 n) (tc 342 (t49 n) aj)) (tk (f := 60) (tc 352 (t22 n) aj) (tk (f := 127) (tc 352 (t21 n) aj) (tk (f := 116) (tc 582 (t51 n) aj) au)))) (by kernel_rfl) (by kernel_rfl) (q := qt)
 rfl
 (by kernel_rfl)
theorem t54 (n : Int) (hm : aH n 9 = 3) : aM prog 16 (e54 n) := fQ (by decide) (by decide) hm
theorem t55 (n : Int) : aM prog 28 (e55 n) := aJ [] (tk (f := 45) (tc 5 (t28 n) aj) au) (by kernel_rfl) (by kernel_rfl) (q := rp ((D (.arr 4 2 (dxL [(sy s11), (num 1)])) : SV) = D (.arr 4 2 (dxL [(sy s11), (num 1)]))) 1 (rp (((dxL []) : Nat -> Nat -> Dt) = (dxL [])) 1 (qt)))
 (bU rfl _ (bU rfl _ rfl))
 (by kernel_rfl)
theorem t56 (n : Int) : aM prog 45 (e56 n) := aJ [] au (by kernel_rfl) (by kernel_rfl) (q := qt)
 rfl
 (by kernel_rfl)
theorem t57 (n : Int) : aM prog 63 (e57 n) := aJ [] au (by kernel_rfl) (by kernel_rfl) (q := qt)
 rfl
 (by kernel_rfl)
theorem t58 (n : Int) : aM prog 66 (e58 n) := aJ [] (tk (f := 60) (tc 26 (t8 n) (tc 42 (t8 n) (tc 52 (t8 n) (tc 89 (t8 n) (tc 101 (t8 n) (tc 109 (t8 n) aj)))))) (tk (f := 127) (tc 26 (t0 n) (tc 42 (t0 n) (tc 52 (t0 n) (tc 89 (t0 n) (tc 101 (t0 n) (tc 109 (t0 n) aj)))))) au)) (by kernel_rfl) (by kernel_rfl) (q := qt)
 rfl
 (by kernel_rfl)
theorem t59 (n : Int) : aM prog 66 (e59 n) := aJ [] au (by kernel_rfl) (by kernel_rfl) (q := qt)
 rfl
 (by kernel_rfl)
theorem t60 (n : Int) : aM prog 66 (e60 n) := aJ [] (tk (f := 60) (tc 26 (t8 n) (tc 54 (t8 n) aj)) (tk (f := 127) (tc 26 (t0 n) (tc 54 (t0 n) aj)) au)) (by kernel_rfl) (by kernel_rfl) (q := qt)
 rfl
 (by kernel_rfl)
theorem t61 (n : Int) : aM prog 30 (e61 n) := aJ [] (tk (f := 60) (tc 10 (t22 n) (tc 30 (t22 n) (tc 35 (t22 n) (tc 40 (t22 n) aj)))) (tk (f := 45) (tc 23 (t56 n) aj) (tk (f := 63) (tc 24 (t57 n) aj) (tk (f := 66) (tc 25 (t58 n) (tc 26 (t59 n) (tc 27 (t60 n) aj))) (tk (f := 127) (tc 30 (t21 n) (tc 35 (t21 n) (tc 40 (t21 n) aj))) au))))) (by kernel_rfl) (by kernel_rfl) (q := qt)
 rfl
 (by kernel_rfl)
theorem t62 (n : Int) : aM prog 59 (e62 n) := aJ [] (tk (f := 30) (tc 14 (t61 n) aj) (tk (f := 66) (tc 170 (t60 n) aj) au)) (by kernel_rfl) (by kernel_rfl) (q := qt)
 rfl
 (by kernel_rfl)
theorem t63 (n : Int) : aM prog 29 (e63 n) := aJ [] (tk (f := 30) (tc 14 (t26 n) (tc 240 (t61 n) aj)) (tk (f := 59) (tc 244 (t62 n) aj) au)) (by kernel_rfl) (by kernel_rfl) (q := qt)
 rfl
 (by kernel_rfl)
theorem t65 (n : Int) (hm : aH n 9 = 4) : aM prog 16 (e65 n) := fQ (by decide) (by decide) hm
theorem t66 (n : Int) : aM prog 28 (e66 n) := aJ [] (tk (f := 45) (tc 5 (t28 n) aj) au) (by kernel_rfl) (by kernel_rfl) (q := rp ((D (.arr 4 2 (dxL [(sy s15), (num 1)])) : SV) = D (.arr 4 2 (dxL [(sy s15), (num 1)]))) 1 (rp (((dxL []) : Nat -> Nat -> Dt) = (dxL [])) 1 (qt)))
 (bU rfl _ (bU rfl _ rfl))
 (by kernel_rfl)
theorem t67 (n : Int) : aM prog 63 (e67 n) := aJ [] au (by kernel_rfl) (by kernel_rfl) (q := qt)
 rfl
 (by kernel_rfl)
theorem t68 (n : Int) : aM prog 66 (e68 n) := aJ [] (tk (f := 60) (tc 26 (t8 n) (tc 54 (t8 n) aj)) (tk (f := 127) (tc 26 (t0 n) (tc 54 (t0 n) aj)) au)) (by kernel_rfl) (by kernel_rfl) (q := qt)
 rfl
 (by kernel_rfl)
end Gv.LGraftRefused
set_option linter.unusedSimpArgs false
set_option linter.unusedVariables false
open Rx Go
namespace Gv
open Rd LGraftRefused
noncomputable def jL (n : Int) : TL := [(39, [(6, (e19 n))]), (16, [(21, (e45 n))]), (22, [(23, (e27 n))]), (28, [(27, (e46 n))]), (29, [(33, (e52 n))])]
def jR (n : Int) : Prop :=
 rp (en (n)) 1 (((ByteArray.mk (#[40, 114, 101, 99, 111, 114, 100, 32, 112, 32, 97, 41, 32, 40, 117, 112, 103, 114, 97, 100, 101, 32, 112, 32, 40, 43, 32, 40, 119, 97, 115, 32, 98, 41, 32, 49, 41, 41])).size <= 3000 /\ iJ 400 (ByteArray.mk (#[40, 114, 101, 99, 111, 114, 100, 32, 112, 32, 97, 41, 32, 40, 117, 112, 103, 114, 97, 100, 101, 32, 112, 32, 40, 43, 32, 40, 119, 97, 115, 32, 98, 41, 32, 49, 41, 41])) = some (RR.mk (jY ([ls [sy (ByteArray.mk (#[114, 101, 99, 111, 114, 100])), sy (ByteArray.mk (#[112])), sy (ByteArray.mk (#[97]))], ls [sy (ByteArray.mk (#[117, 112, 103, 114, 97, 100, 101])), sy (ByteArray.mk (#[112])), ls [sy (ByteArray.mk (#[43])), ls [sy (ByteArray.mk (#[119, 97, 115])), sy (ByteArray.mk (#[98]))], num 1]]])) 0 0) /\ dS ([ls [sy (ByteArray.mk (#[114, 101, 99, 111, 114, 100])), sy (ByteArray.mk (#[112])), sy (ByteArray.mk (#[97]))], ls [sy (ByteArray.mk (#[117, 112, 103, 114, 97, 100, 101])), sy (ByteArray.mk (#[112])), ls [sy (ByteArray.mk (#[43])), ls [sy (ByteArray.mk (#[119, 97, 115])), sy (ByteArray.mk (#[98]))], num 1]]])) /\
 rp (((dxL [(ls [(sy s1), (sy s2), (sy s3)]), (ls [(sy s10), (sy s2), (ls [(sy s13), (ls [(sy s12), (sy s4)]), (num 1)])])]) : Nat -> Nat -> Dt) = (dxL [(ls [(sy s1), (sy s2), (sy s3)]), (ls [(sy s10), (sy s2), (ls [(sy s13), (ls [(sy s12), (sy s4)]), (num 1)])])])) 1 (rp (((dxL []) : Nat -> Nat -> Dt) = (dxL [])) 1 (qt)))
set_option maxRecDepth 100000 in
theorem pG (n : Int) : (jR n) = (iw [(23, [(ls [(sy s1), (sy s2), (sy s3)]), (ls [(sy s10), (sy s2), (ls [(sy s13), (ls [(sy s12), (sy s4)]), (num 1)])])])] (jL n) 6 [any n]).holds fun y => y.1 = .kb true := by
 kernel_rfl
set_option maxRecDepth 100000 in
theorem pY (n : Int) (hm : aH n 9 = 2) : jR n := by
 unfold jR
 refine bU rfl _ ?_
 refine ⟨⟨by decide, by kernel_rfl, by simp [dS, Dx.fits, ls, sy, num, nu]⟩, ?_⟩
 iterate 2 refine bU rfl _ ?_
 rfl
theorem uK (n : Int) (hm : aH n 9 = 2) : TOk (jL n) := (aK (aO (t19 n) aj) (aK (aO (t45 n hm) aj) (aK (aO (t27 n) aj) (aK (aO (t46 n) aj) (aK (aO (t52 n) aj) au)))))
theorem uJ (n : Int) (hm : aH n 9 = 2) : (iw [(23, [(ls [(sy s1), (sy s2), (sy s3)]), (ls [(sy s10), (sy s2), (ls [(sy s13), (ls [(sy s12), (sy s4)]), (num 1)])])])] (jL n) 6 [any n]).holds fun y => y.1 = .kb true := by
 rw [← pG]
 exact pY n hm
end Gv
set_option linter.unusedSimpArgs false
set_option linter.unusedVariables false
open Rx Go
namespace Gv
open Rd LGraftRefused
noncomputable def jI (n : Int) : TL := [(39, [(6, (e19 n))]), (16, [(21, (e54 n))]), (22, [(23, (e27 n))]), (28, [(27, (e55 n))]), (29, [(30, (e63 n))])]
def jD (n : Int) : Prop :=
 rp (en (n)) 1 (((ByteArray.mk (#[40, 100, 101, 102, 105, 110, 101, 32, 122, 32, 40, 99, 97, 114, 32, 49, 41, 41])).size <= 3000 /\ iJ 400 (ByteArray.mk (#[40, 100, 101, 102, 105, 110, 101, 32, 122, 32, 40, 99, 97, 114, 32, 49, 41, 41])) = some (RR.mk (jY ([ls [sy (ByteArray.mk (#[100, 101, 102, 105, 110, 101])), sy (ByteArray.mk (#[122])), ls [sy (ByteArray.mk (#[99, 97, 114])), num 1]]])) 0 0) /\ dS ([ls [sy (ByteArray.mk (#[100, 101, 102, 105, 110, 101])), sy (ByteArray.mk (#[122])), ls [sy (ByteArray.mk (#[99, 97, 114])), num 1]]])) /\
 rp (((dxL [(ls [(sy s5), (sy s14), (ls [(sy s11), (num 1)])])]) : Nat -> Nat -> Dt) = (dxL [(ls [(sy s5), (sy s14), (ls [(sy s11), (num 1)])])])) 1 (rp (((dxL []) : Nat -> Nat -> Dt) = (dxL [])) 1 (qt)))
set_option maxRecDepth 100000 in
theorem pz (n : Int) : (jD n) = (iw [(23, [(ls [(sy s5), (sy s14), (ls [(sy s11), (num 1)])])])] (jI n) 6 [any n]).holds fun y => y.1 = .kb true := by
 kernel_rfl
set_option maxRecDepth 100000 in
theorem rG (n : Int) (hm : aH n 9 = 3) : jD n := by
 unfold jD
 refine bU rfl _ ?_
 refine ⟨⟨by decide, by kernel_rfl, by simp [dS, Dx.fits, ls, sy, num, nu]⟩, ?_⟩
 iterate 2 refine bU rfl _ ?_
 rfl
theorem uh (n : Int) (hm : aH n 9 = 3) : TOk (jI n) := (aK (aO (t19 n) aj) (aK (aO (t54 n hm) aj) (aK (aO (t27 n) aj) (aK (aO (t55 n) aj) (aK (aO (t63 n) aj) au)))))
theorem uU (n : Int) (hm : aH n 9 = 3) : (iw [(23, [(ls [(sy s5), (sy s14), (ls [(sy s11), (num 1)])])])] (jI n) 6 [any n]).holds fun y => y.1 = .kb true := by
 rw [← pz]
 exact rG n hm
end Gv
set_option linter.unusedSimpArgs false
set_option linter.unusedVariables false
set_option maxRecDepth 100000
open Rx Go
namespace Gv.LGraftRefused
open Gv Rd
theorem t69 (n : Int) : aM prog 30 (e69 n) := aJ [] (tk (f := 60) (tc 10 (t22 n) (tc 30 (t22 n) (tc 35 (t22 n) (tc 40 (t22 n) aj)))) (tk (f := 45) (tc 23 (t56 n) aj) (tk (f := 63) (tc 24 (t67 n) aj) (tk (f := 66) (tc 25 (t58 n) (tc 26 (t59 n) (tc 27 (t68 n) aj))) (tk (f := 127) (tc 30 (t21 n) (tc 35 (t21 n) (tc 40 (t21 n) aj))) au))))) (by kernel_rfl) (by kernel_rfl) (q := qt)
 rfl
 (by kernel_rfl)
theorem t70 (n : Int) : aM prog 59 (e70 n) := aJ [] (tk (f := 30) (tc 14 (t69 n) aj) (tk (f := 66) (tc 170 (t68 n) aj) au)) (by kernel_rfl) (by kernel_rfl) (q := qt)
 rfl
 (by kernel_rfl)
theorem t71 (n : Int) : aM prog 29 (e71 n) := aJ [] (tk (f := 30) (tc 14 (t26 n) (tc 240 (t69 n) aj)) (tk (f := 59) (tc 244 (t70 n) aj) au)) (by kernel_rfl) (by kernel_rfl) (q := qt)
 rfl
 (by kernel_rfl)
theorem t73 (n : Int) (hm : aH n 9 = 5) : aM prog 16 (e73 n) := fQ (by decide) (by decide) hm
theorem t74 (n : Int) : aM prog 28 (e74 n) := aJ [] (tk (f := 45) (tc 5 (t28 n) aj) au) (by kernel_rfl) (by kernel_rfl) (q := rp ((D (.arr 4 1 (dxL [(sy s8)])) : SV) = D (.arr 4 1 (dxL [(sy s8)]))) 1 (qt))
 (bU rfl _ rfl)
 (by kernel_rfl)
theorem t75 (n : Int) : aM prog 63 (e75 n) := aJ [] au (by kernel_rfl) (by kernel_rfl) (q := qt)
 rfl
 (by kernel_rfl)
theorem t76 (n : Int) : aM prog 66 (e76 n) := aJ [] au (by kernel_rfl) (by kernel_rfl) (q := qt)
 rfl
 (by kernel_rfl)
theorem t77 (n : Int) : aM prog 30 (e77 n) := aJ [] (tk (f := 60) (tc 10 (t22 n) (tc 30 (t22 n) (tc 35 (t22 n) (tc 40 (t22 n) aj)))) (tk (f := 45) (tc 23 (t56 n) aj) (tk (f := 63) (tc 24 (t75 n) aj) (tk (f := 66) (tc 25 (t58 n) (tc 26 (t59 n) (tc 27 (t76 n) aj))) (tk (f := 127) (tc 30 (t21 n) (tc 35 (t21 n) (tc 40 (t21 n) aj))) au))))) (by kernel_rfl) (by kernel_rfl) (q := qt)
 rfl
 (by kernel_rfl)
theorem t78 (n : Int) : aM prog 59 (e78 n) := aJ [] (tk (f := 30) (tc 14 (t77 n) aj) (tk (f := 66) (tc 170 (t76 n) aj) au)) (by kernel_rfl) (by kernel_rfl) (q := qt)
 rfl
 (by kernel_rfl)
theorem t79 (n : Int) : aM prog 29 (e79 n) := aJ [] (tk (f := 30) (tc 14 (t26 n) (tc 236 (t77 n) aj)) (tk (f := 59) (tc 240 (t78 n) aj) au)) (by kernel_rfl) (by kernel_rfl) (q := qt)
 rfl
 (by kernel_rfl)
theorem t81 (n : Int) (hm : aH n 9 = 6) : aM prog 16 (e81 n) := fQ (by decide) (by decide) hm
theorem t82 (n : Int) : aM prog 28 (e82 n) := aJ [] (tk (f := 45) (tc 5 (t28 n) aj) au) (by kernel_rfl) (by kernel_rfl) (q := rp ((D (.arr 4 2 (dxL [(sy s16), (sy s9)])) : SV) = D (.arr 4 2 (dxL [(sy s16), (sy s9)]))) 2 (rp ((D (.arr 4 2 (dxL [(sy s16), (num 1)])) : SV) = D (.arr 4 2 (dxL [(sy s16), (num 1)]))) 1 (rp (((dxL []) : Nat -> Nat -> Dt) = (dxL [])) 1 (qt))))
 (bU rfl _ (bU rfl _ (bU rfl _ rfl)))
 (by kernel_rfl)
theorem t83 (n : Int) : aM prog 45 (e83 n) := aJ [] au (by kernel_rfl) (by kernel_rfl) (q := qt)
 rfl
 (by kernel_rfl)
theorem t84 (n : Int) : aM prog 63 (e84 n) := aJ [] au (by kernel_rfl) (by kernel_rfl) (q := qt)
 rfl
 (by kernel_rfl)
end Gv.LGraftRefused
set_option linter.unusedSimpArgs false
set_option linter.unusedVariables false
open Rx Go
namespace Gv
open Rd LGraftRefused
noncomputable def jG (n : Int) : TL := [(39, [(6, (e19 n))]), (16, [(21, (e65 n))]), (22, [(23, (e27 n))]), (28, [(27, (e66 n))]), (29, [(30, (e71 n))])]
def jU (n : Int) : Prop :=
 rp (en (n)) 1 (((ByteArray.mk (#[40, 100, 101, 102, 105, 110, 101, 32, 122, 32, 40, 101, 114, 114, 111, 114, 32, 49, 41, 41])).size <= 3000 /\ iJ 400 (ByteArray.mk (#[40, 100, 101, 102, 105, 110, 101, 32, 122, 32, 40, 101, 114, 114, 111, 114, 32, 49, 41, 41])) = some (RR.mk (jY ([ls [sy (ByteArray.mk (#[100, 101, 102, 105, 110, 101])), sy (ByteArray.mk (#[122])), ls [sy (ByteArray.mk (#[101, 114, 114, 111, 114])), num 1]]])) 0 0) /\ dS ([ls [sy (ByteArray.mk (#[100, 101, 102, 105, 110, 101])), sy (ByteArray.mk (#[122])), ls [sy (ByteArray.mk (#[101, 114, 114, 111, 114])), num 1]]])) /\
 rp (((dxL [(ls [(sy s5), (sy s14), (ls [(sy s15), (num 1)])])]) : Nat -> Nat -> Dt) = (dxL [(ls [(sy s5), (sy s14), (ls [(sy s15), (num 1)])])])) 1 (rp (((dxL []) : Nat -> Nat -> Dt) = (dxL [])) 1 (qt)))
set_option maxRecDepth 100000 in
theorem pF (n : Int) : (jU n) = (iw [(23, [(ls [(sy s5), (sy s14), (ls [(sy s15), (num 1)])])])] (jG n) 6 [any n]).holds fun y => y.1 = .kb true := by
 kernel_rfl
set_option maxRecDepth 100000 in
theorem qj (n : Int) (hm : aH n 9 = 4) : jU n := by
 unfold jU
 refine bU rfl _ ?_
 refine ⟨⟨by decide, by kernel_rfl, by simp [dS, Dx.fits, ls, sy, num, nu]⟩, ?_⟩
 iterate 2 refine bU rfl _ ?_
 rfl
theorem uq (n : Int) (hm : aH n 9 = 4) : TOk (jG n) := (aK (aO (t19 n) aj) (aK (aO (t65 n hm) aj) (aK (aO (t27 n) aj) (aK (aO (t66 n) aj) (aK (aO (t71 n) aj) au)))))
theorem uE (n : Int) (hm : aH n 9 = 4) : (iw [(23, [(ls [(sy s5), (sy s14), (ls [(sy s15), (num 1)])])])] (jG n) 6 [any n]).holds fun y => y.1 = .kb true := by
 rw [← pF]
 exact qj n hm
end Gv
