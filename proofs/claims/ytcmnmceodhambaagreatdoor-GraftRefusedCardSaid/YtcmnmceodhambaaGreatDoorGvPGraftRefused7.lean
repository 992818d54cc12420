/- Told parts of GraftRefused. Printed by gvgen.py. -/
import Derived.Test.YtcmnmceodhambaaGreatDoorGvUGraftRefused
import Derived.Test.YtcmnmceodhambaaGreatDoorGvPGraftRefused0
import Derived.Test.YtcmnmceodhambaaGreatDoorGvPGraftRefused5
import Derived.Test.YtcmnmceodhambaaGreatDoorGvPGraftRefused3
set_option linter.unusedSimpArgs false
set_option linter.unusedVariables false
set_option maxRecDepth 100000
open Rx Go
namespace Gv.LGraftRefused
open Gv Rd
theorem YW (n : Int) : aM prog 30 (e100 n) := aJ [] (tk (f := 60) (tc 13 (t22 n) (tc 30 (t22 n) (tc 35 (t22 n) aj))) (tk (f := 45) (tc 23 (t6 n) aj) (tk (f := 63) (tc 24 (t98 n) aj) (tk (f := 66) (tc 25 (t35 n) (tc 26 (t36 n) (tc 27 (t99 n) aj))) (tk (f := 127) (tc 30 (t21 n) (tc 35 (t21 n) aj)) au))))) (by kernel_rfl) (by kernel_rfl) (q := qt)
 rfl
 (by kernel_rfl)
theorem YE (n : Int) : aM prog 30 (Y3 n) := aJ [] (tk (f := 60) (tc 13 (t40 n) (tc 30 (t40 n) (tc 35 (t40 n) aj))) (tk (f := 45) (tc 23 (t6 n) aj) (tk (f := 63) (tc 24 (t98 n) aj) (tk (f := 66) (tc 25 (t35 n) (tc 26 (t36 n) (tc 27 (t99 n) aj))) (tk (f := 127) (tc 30 (t39 n) (tc 35 (t39 n) aj)) au))))) (by kernel_rfl) (by kernel_rfl) (q := qt)
 rfl
 (by kernel_rfl)
theorem Zd (n : Int) : aM prog 116 (YD n) := aJ [] (tk (f := 30) (tc 17 (YE n) aj) (tk (f := 60) (tc 184 (t40 n) aj) (tk (f := 127) (tc 184 (t39 n) aj) au))) (by kernel_rfl) (by kernel_rfl) (q := qt)
 rfl
 (by kernel_rfl)
theorem YP (n : Int) : aM prog 29 (Xg n) := aJ [] (tk (f := 30) (tc 17 (t26 n) (tc 319 (YW n) aj)) (tk (f := 60) (tc 329 (t22 n) aj) (tk (f := 127) (tc 329 (t21 n) aj) (tk (f := 116) (tc 559 (Zd n) aj) au)))) (by kernel_rfl) (by kernel_rfl) (q := qt)
 rfl
 (by kernel_rfl)
theorem t105 (n : Int) (hm : aH n 9 = 8) : aM prog 16 (XY n) := fQ (by decide) (by decide) hm
theorem Y2 (n : Int) : aM prog 28 (Xo n) := aJ [] (tk (f := 45) (tc 5 (t28 n) aj) au) (by kernel_rfl) (by kernel_rfl) (q := rp ((D (.arr 4 3 (dxL [(sy s17), (ls [(sy s12), (sy s3)]), (num 0)])) : SV) = D (.arr 4 3 (dxL [(sy s17), (ls [(sy s12), (sy s3)]), (num 0)]))) 1 (rp ((D (.arr 4 2 (dxL [(sy s12), (sy s3)])) : SV) = D (.arr 4 2 (dxL [(sy s12), (sy s3)]))) 1 (rp ((D (.arr 4 2 (fun i j => (dxL [(sy s10), (sy s2), (ls [(sy s17), (ls [(sy s12), (sy s3)]), (num 0)])]) (i + (Rx.z0 (Option.some (1 : Int))).toNat) (j))) : SV) = D (.arr 4 2 (fun i j => (dxL [(sy s10), (sy s2), (ls [(sy s17), (ls [(sy s12), (sy s3)]), (num 0)])]) (i + (Rx.z0 (Option.some (1 : Int))).toNat) (j)))) 1 (rp (((dxL []) : Nat -> Nat -> Dt) = (dxL [])) 1 (qt)))))
 (bU rfl _ (bU rfl _ (bU rfl _ (bU rfl _ rfl))))
 (by kernel_rfl)
theorem t107 (n : Int) : aM prog 63 (Zc n) := aJ [] au (by kernel_rfl) (by kernel_rfl) (q := qt)
 rfl
 (by kernel_rfl)
theorem Yg (n : Int) : aM prog 66 (e108 n) := aJ [] (tk (f := 60) (tc 38 (t8 n) (tc 74 (t8 n) aj)) (tk (f := 127) (tc 38 (t0 n) (tc 74 (t0 n) aj)) au)) (by kernel_rfl) (by kernel_rfl) (q := qt)
 rfl
 (by kernel_rfl)
theorem t109 (n : Int) : aM prog 30 (e109 n) := aJ [] (tk (f := 60) (tc 13 (t22 n) (tc 30 (t22 n) (tc 35 (t22 n) aj))) (tk (f := 45) (tc 23 (t6 n) aj) (tk (f := 63) (tc 24 (t107 n) aj) (tk (f := 66) (tc 25 (t35 n) (tc 26 (t36 n) (tc 27 (Yg n) aj))) (tk (f := 127) (tc 30 (t21 n) (tc 35 (t21 n) aj)) au))))) (by kernel_rfl) (by kernel_rfl) (q := qt)
 rfl
 (by kernel_rfl)
end Gv.LGraftRefused
set_option linter.unusedSimpArgs false
set_option linter.unusedVariables false
open Rx Go
namespace Gv
open Rd LGraftRefused
noncomputable def jB (n : Int) : TL := [(39, [(6, (e19 n))]), (16, [(21, (e96 n))]), (22, [(23, (e27 n))]), (28, [(27, (e97 n))]), (29, [(33, (Xg n))])]
def jO (n : Int) : Prop :=
 rp (en (n)) 1 (((ByteArray.mk (#[40, 114, 101, 99, 111, 114, 100, 32, 112, 32, 97, 41, 32, 40, 117, 112, 103, 114, 97, 100, 101, 32, 112, 32, 40, 101, 114, 114, 111, 114, 32, 40, 119, 97, 115, 32, 97, 41, 41, 41])).size <= 3000 /\ iJ 400 (ByteArray.mk (#[40, 114, 101, 99, 111, 114, 100, 32, 112, 32, 97, 41, 32, 40, 117, 112, 103, 114, 97, 100, 101, 32, 112, 32, 40, 101, 114, 114, 111, 114, 32, 40, 119, 97, 115, 32, 97, 41, 41, 41])) = some (RR.mk (jY ([ls [sy (ByteArray.mk (#[114, 101, 99, 111, 114, 100])), sy (ByteArray.mk (#[112])), sy (ByteArray.mk (#[97]))], ls [sy (ByteArray.mk (#[117, 112, 103, 114, 97, 100, 101])), sy (ByteArray.mk (#[112])), ls [sy (ByteArray.mk (#[101, 114, 114, 111, 114])), ls [sy (ByteArray.mk (#[119, 97, 115])), sy (ByteArray.mk (#[97]))]]]])) 0 0) /\ dS ([ls [sy (ByteArray.mk (#[114, 101, 99, 111, 114, 100])), sy (ByteArray.mk (#[112])), sy (ByteArray.mk (#[97]))], ls [sy (ByteArray.mk (#[117, 112, 103, 114, 97, 100, 101])), sy (ByteArray.mk (#[112])), ls [sy (ByteArray.mk (#[101, 114, 114, 111, 114])), ls [sy (ByteArray.mk (#[119, 97, 115])), sy (ByteArray.mk (#[97]))]]]])) /\
 rp (((dxL [(ls [(sy s1), (sy s2), (sy s3)]), (ls [(sy s10), (sy s2), (ls [(sy s15), (ls [(sy s12), (sy s3)])])])]) : Nat -> Nat -> Dt) = (dxL [(ls [(sy s1), (sy s2), (sy s3)]), (ls [(sy s10), (sy s2), (ls [(sy s15), (ls [(sy s12), (sy s3)])])])])) 1 (qt))
set_option maxRecDepth 100000 in
theorem oZ (n : Int) : (jO n) = (iw [(23, [(ls [(sy s1), (sy s2), (sy s3)]), (ls [(sy s10), (sy s2), (ls [(sy s15), (ls [(sy s12), (sy s3)])])])])] (jB n) 6 [any n]).holds fun y => y.1 = .kb true := by
 kernel_rfl
set_option maxRecDepth 100000 in
theorem qX (n : Int) (hm : aH n 9 = 7) : jO n := by
 unfold jO
 refine bU rfl _ ?_
 refine ⟨⟨by decide, by kernel_rfl, by simp [dS, Dx.fits, ls, sy, num, nu]⟩, ?_⟩
 refine bU rfl _ ?_
 rfl
theorem uf (n : Int) (hm : aH n 9 = 7) : TOk (jB n) := (aK (aO (t19 n) aj) (aK (aO (t96 n hm) aj) (aK (aO (t27 n) aj) (aK (aO (t97 n) aj) (aK (aO (YP n) aj) au)))))
theorem uT (n : Int) (hm : aH n 9 = 7) : (iw [(23, [(ls [(sy s1), (sy s2), (sy s3)]), (ls [(sy s10), (sy s2), (ls [(sy s15), (ls [(sy s12), (sy s3)])])])])] (jB n) 6 [any n]).holds fun y => y.1 = .kb true := by
 rw [← oZ]
 exact qX n hm
end Gv
set_option linter.unusedSimpArgs false
set_option linter.unusedVariables false
set_option maxRecDepth 100000
open Rx Go
namespace Gv.LGraftRefused
open Gv Rd
theorem Zb (n : Int) : aM prog 30 (YM n) := aJ [] (tk (f := 60) (tc 13 (t40 n) (tc 30 (t40 n) (tc 35 (t40 n) aj))) (tk (f := 45) (tc 23 (t6 n) aj) (tk (f := 63) (tc 24 (t107 n) aj) (tk (f := 66) (tc 25 (t35 n) (tc 26 (t36 n) (tc 27 (Yg n) aj))) (tk (f := 127) (tc 30 (t39 n) (tc 35 (t39 n) aj)) au))))) (by kernel_rfl) (by kernel_rfl) (q := qt)
 rfl
 (by kernel_rfl)
theorem Zk (n : Int) : aM prog 116 (YS n) := aJ [] (tk (f := 30) (tc 17 (Zb n) aj) (tk (f := 60) (tc 184 (t40 n) aj) (tk (f := 127) (tc 184 (t39 n) aj) au))) (by kernel_rfl) (by kernel_rfl) (q := qt)
 rfl
 (by kernel_rfl)
theorem YQ (n : Int) : aM prog 29 (Yd n) := aJ [] (tk (f := 30) (tc 17 (t26 n) (tc 342 (t109 n) aj)) (tk (f := 60) (tc 352 (t22 n) aj) (tk (f := 127) (tc 352 (t21 n) aj) (tk (f := 116) (tc 582 (Zk n) aj) au)))) (by kernel_rfl) (by kernel_rfl) (q := qt)
 rfl
 (by kernel_rfl)
end Gv.LGraftRefused
set_option linter.unusedSimpArgs false
set_option linter.unusedVariables false
open Rx Go
namespace Gv
open Rd LGraftRefused
noncomputable def jv (n : Int) : TL := [(39, [(6, (e19 n))]), (16, [(21, (XY n))]), (22, [(23, (e27 n))]), (28, [(27, (Xo n))]), (29, [(33, (Yd n))])]
def jK (n : Int) : Prop :=
 rp (en (n)) 1 (((ByteArray.mk (#[40, 114, 101, 99, 111, 114, 100, 32, 112, 32, 97, 41, 32, 40, 117, 112, 103, 114, 97, 100, 101, 32, 112, 32, 40, 113, 117, 111, 116, 105, 101, 110, 116, 32, 40, 119, 97, 115, 32, 97, 41, 32, 48, 41, 41])).size <= 3000 /\ iJ 400 (ByteArray.mk (#[40, 114, 101, 99, 111, 114, 100, 32, 112, 32, 97, 41, 32, 40, 117, 112, 103, 114, 97, 100, 101, 32, 112, 32, 40, 113, 117, 111, 116, 105, 101, 110, 116, 32, 40, 119, 97, 115, 32, 97, 41, 32, 48, 41, 41])) = some (RR.mk (jY ([ls [sy (ByteArray.mk (#[114, 101, 99, 111, 114, 100])), sy (ByteArray.mk (#[112])), sy (ByteArray.mk (#[97]))], ls [sy (ByteArray.mk (#[117, 112, 103, 114, 97, 100, 101])), sy (ByteArray.mk (#[112])), ls [sy (ByteArray.mk (#[113, 117, 111, 116, 105, 101, 110, 116])), ls [sy (ByteArray.mk (#[119, 97, 115])), sy (ByteArray.mk (#[97]))], num 0]]])) 0 0) /\ dS ([ls [sy (ByteArray.mk (#[114, 101, 99, 111, 114, 100])), sy (ByteArray.mk (#[112])), sy (ByteArray.mk (#[97]))], ls [sy (ByteArray.mk (#[117, 112, 103, 114, 97, 100, 101])), sy (ByteArray.mk (#[112])), ls [sy (ByteArray.mk (#[113, 117, 111, 116, 105, 101, 110, 116])), ls [sy (ByteArray.mk (#[119, 97, 115])), sy (ByteArray.mk (#[97]))], num 0]]])) /\
 rp (((dxL [(ls [(sy s1), (sy s2), (sy s3)]), (ls [(sy s10), (sy s2), (ls [(sy s17), (ls [(sy s12), (sy s3)]), (num 0)])])]) : Nat -> Nat -> Dt) = (dxL [(ls [(sy s1), (sy s2), (sy s3)]), (ls [(sy s10), (sy s2), (ls [(sy s17), (ls [(sy s12), (sy s3)]), (num 0)])])])) 1 (rp (((dxL []) : Nat -> Nat -> Dt) = (dxL [])) 1 (qt)))
set_option maxRecDepth 100000 in
theorem pK (n : Int) : (jK n) = (iw [(23, [(ls [(sy s1), (sy s2), (sy s3)]), (ls [(sy s10), (sy s2), (ls [(sy s17), (ls [(sy s12), (sy s3)]), (num 0)])])])] (jv n) 6 [any n]).holds fun y => y.1 = .kb true := by
 kernel_rfl
set_option maxRecDepth 100000 in
theorem rU (n : Int) (hm : aH n 9 = 8) : jK n := by
 unfold jK
 refine bU rfl _ ?_
 refine ⟨⟨by decide, by kernel_rfl, by simp [dS, Dx.fits, ls, sy, num, nu]⟩, ?_⟩
 iterate 2 refine bU rfl _ ?_
 rfl
theorem ug (n : Int) (hm : aH n 9 = 8) : TOk (jv n) := (aK (aO (t19 n) aj) (aK (aO (t105 n hm) aj) (aK (aO (t27 n) aj) (aK (aO (Y2 n) aj) (aK (aO (YQ n) aj) au)))))
theorem uF (n : Int) (hm : aH n 9 = 8) : (iw [(23, [(ls [(sy s1), (sy s2), (sy s3)]), (ls [(sy s10), (sy s2), (ls [(sy s17), (ls [(sy s12), (sy s3)]), (num 0)])])])] (jv n) 6 [any n]).holds fun y => y.1 = .kb true := by
 rw [← pK]
 exact rU n hm
end Gv
set_option linter.unusedSimpArgs false
set_option linter.unusedVariables false
open Rx Go
namespace Gv
open Rd LGraftRefused
set_option maxRecDepth 100000 in
theorem tV (n : Int) {w : World} {vs : List Value} (hgl : Pers C0.W w Glob.ok) (hr : relL C0 w [any n] vs) : Calls prog 6 vs.toArray w fun e w' => e = .returned (.bool true) /\ Same w w' := by
 obtain ⟨b0, b1⟩ := Dp n (m := 9) (by decide)
 rcases (by omega : aH n 9 = 0 ∨ aH n 9 = 1 ∨ aH n 9 = 2 ∨ aH n 9 = 3 ∨ aH n 9 = 4 ∨ aH n 9 = 5 ∨ aH n 9 = 6 ∨ aH n 9 = 7 ∨ aH n 9 = 8) with hm | hm | hm | hm | hm | hm | hm | hm | hm
 · exact iy (um n hm) hgl hr (uO n hm)
 · exact iy (uy n hm) hgl hr (tY n hm)
 · exact iy (uK n hm) hgl hr (uJ n hm)
 · exact iy (uh n hm) hgl hr (uU n hm)
 · exact iy (uq n hm) hgl hr (uE n hm)
 · exact iy (uM n hm) hgl hr (uR n hm)
 · exact iy (uL n hm) hgl hr (uw n hm)
 · exact iy (uf n hm) hgl hr (uT n hm)
 · exact iy (ug n hm) hgl hr (uF n hm)
end Gv
