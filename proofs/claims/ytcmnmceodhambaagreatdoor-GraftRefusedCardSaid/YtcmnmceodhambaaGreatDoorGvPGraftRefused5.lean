/- Told parts of GraftRefused. Printed by gvgen.py. -/
import Derived.Test.YtcmnmceodhambaaGreatDoorGvUGraftRefused
import Derived.Test.YtcmnmceodhambaaGreatDoorGvPGraftRefused0
import Derived.Test.YtcmnmceodhambaaGreatDoorGvPGraftRefused3
set_option linter.unusedSimpArgs false
set_option linter.unusedVariables false
set_option maxRecDepth 100000
open Rx Go
namespace Gv.LGraftRefused
open Gv Rd
theorem t85 (n : Int) : aM prog 66 (e85 n) := aJ [] (tk (f := 60) (tc 26 (t8 n) (tc 42 (t8 n) (tc 52 (t8 n) (tc 89 (t8 n) (tc 101 (t8 n) (tc 109 (t8 n) aj)))))) (tk (f := 127) (tc 26 (t0 n) (tc 42 (t0 n) (tc 52 (t0 n) (tc 89 (t0 n) (tc 101 (t0 n) (tc 109 (t0 n) aj)))))) au)) (by kernel_rfl) (by kernel_rfl) (q := qt)
 rfl
 (by kernel_rfl)
theorem t86 (n : Int) : aM prog 66 (e86 n) := aJ [] au (by kernel_rfl) (by kernel_rfl) (q := qt)
 rfl
 (by kernel_rfl)
theorem t87 (n : Int) : aM prog 66 (e87 n) := aJ [] au (by kernel_rfl) (by kernel_rfl) (q := qt)
 rfl
 (by kernel_rfl)
theorem t88 (n : Int) : aM prog 66 (e88 n) := aJ [] (tk (f := 60) (tc 43 (t8 n) (tc 78 (t8 n) aj)) (tk (f := 127) (tc 43 (t0 n) (tc 78 (t0 n) aj)) au)) (by kernel_rfl) (by kernel_rfl) (q := qt)
 rfl
 (by kernel_rfl)
theorem t89 (n : Int) : aM prog 30 (e89 n) := aJ [] (tk (f := 60) (tc 11 (t22 n) (tc 35 (t22 n) (tc 40 (t22 n) (tc 45 (t22 n) (tc 50 (t22 n) aj))))) (tk (f := 45) (tc 27 (t83 n) aj) (tk (f := 63) (tc 28 (t84 n) aj) (tk (f := 66) (tc 29 (t85 n) (tc 30 (t86 n) (tc 31 (t87 n) (tc 32 (t88 n) aj)))) (tk (f := 127) (tc 35 (t21 n) (tc 40 (t21 n) (tc 45 (t21 n) (tc 50 (t21 n) aj)))) au))))) (by kernel_rfl) (by kernel_rfl) (q := qt)
 rfl
 (by kernel_rfl)
theorem t90 (n : Int) : aM prog 127 (e90 n) := aJ [] au (by kernel_rfl) (by kernel_rfl) (q := rp ((.mp (.int .i64) .bool [((0 : Int), true), ((2 : Int), true), ((5 : Int), true), ((10 : Int), true)] : Ob) = .mp (.int .i64) .bool [((0 : Int), true), ((2 : Int), true), ((5 : Int), true), ((10 : Int), true)]) 1 (qt))
 (bU rfl _ rfl)
 (by kernel_rfl)
theorem t91 (n : Int) : aM prog 60 (e91 n) := aJ [] (tk (f := 127) (tc 2 (t90 n) aj) au) (by kernel_rfl) (by kernel_rfl) (q := qt)
 rfl
 (by kernel_rfl)
theorem t92 (n : Int) : aM prog 57 (e92 n) := aJ [] (tk (f := 30) (tc 15 (t89 n) aj) (tk (f := 60) (tc 8371 (t22 n) (tc 8439 (t91 n) aj)) au)) (by kernel_rfl) (by kernel_rfl) (q := qt)
 rfl
 (by kernel_rfl)
theorem t93 (n : Int) : aM prog 30 (e93 n) := aJ [] (tk (f := 60) (tc 11 (t91 n) (tc 35 (t91 n) (tc 40 (t91 n) (tc 45 (t91 n) (tc 50 (t91 n) aj))))) (tk (f := 45) (tc 27 (t83 n) aj) (tk (f := 63) (tc 28 (t84 n) aj) (tk (f := 66) (tc 29 (t85 n) (tc 30 (t86 n) (tc 31 (t87 n) (tc 32 (t88 n) aj)))) (tk (f := 127) (tc 35 (t90 n) (tc 40 (t90 n) (tc 45 (t90 n) (tc 50 (t90 n) aj)))) au))))) (by kernel_rfl) (by kernel_rfl) (q := qt)
 rfl
 (by kernel_rfl)
end Gv.LGraftRefused
set_option linter.unusedSimpArgs false
set_option linter.unusedVariables false
open Rx Go
namespace Gv
open Rd LGraftRefused
noncomputable def jA (n : Int) : TL := [(39, [(6, (e19 n))]), (16, [(21, (e73 n))]), (22, [(23, (e27 n))]), (28, [(27, (e74 n))]), (29, [(30, (e79 n))])]
def jF (n : Int) : Prop :=
 rp (en (n)) 1 (((ByteArray.mk (#[40, 100, 101, 102, 105, 110, 101, 32, 122, 32, 40, 102, 41, 41])).size <= 3000 /\ iJ 400 (ByteArray.mk (#[40, 100, 101, 102, 105, 110, 101, 32, 122, 32, 40, 102, 41, 41])) = some (RR.mk (jY ([ls [sy (ByteArray.mk (#[100, 101, 102, 105, 110, 101])), sy (ByteArray.mk (#[122])), ls [sy (ByteArray.mk (#[102]))]]])) 0 0) /\ dS ([ls [sy (ByteArray.mk (#[100, 101, 102, 105, 110, 101])), sy (ByteArray.mk (#[122])), ls [sy (ByteArray.mk (#[102]))]]])) /\
 rp (((dxL [(ls [(sy s5), (sy s14), (ls [(sy s8)])])]) : Nat -> Nat -> Dt) = (dxL [(ls [(sy s5), (sy s14), (ls [(sy s8)])])])) 1 (qt))
set_option maxRecDepth 100000 in
theorem pR (n : Int) : (jF n) = (iw [(23, [(ls [(sy s5), (sy s14), (ls [(sy s8)])])])] (jA n) 6 [any n]).holds fun y => y.1 = .kb true := by
 kernel_rfl
set_option maxRecDepth 100000 in
theorem rE (n : Int) (hm : aH n 9 = 5) : jF n := by
 unfold jF
 refine bU rfl _ ?_
 refine ⟨⟨by decide, by kernel_rfl, by simp [dS, Dx.fits, ls, sy, num, nu]⟩, ?_⟩
 refine bU rfl _ ?_
 rfl
theorem uM (n : Int) (hm : aH n 9 = 5) : TOk (jA n) := (aK (aO (t19 n) aj) (aK (aO (t73 n hm) aj) (aK (aO (t27 n) aj) (aK (aO (t74 n) aj) (aK (aO (t79 n) aj) au)))))
theorem uR (n : Int) (hm : aH n 9 = 5) : (iw [(23, [(ls [(sy s5), (sy s14), (ls [(sy s8)])])])] (jA n) 6 [any n]).holds fun y => y.1 = .kb true := by
 rw [← pR]
 exact rE n hm
end Gv
set_option linter.unusedSimpArgs false
set_option linter.unusedVariables false
set_option maxRecDepth 100000
open Rx Go
namespace Gv.LGraftRefused
open Gv Rd
theorem t94 (n : Int) : aM prog 29 (e94 n) := VR [] (Ut (KGraftRefused.YV)) (tk (f := 30) (tc 17 (t26 n) (tc 374 (t89 n) (tc 403 (t93 n) aj))) (tk (f := 57) (tc 378 (t92 n) aj) (tk (f := 66) (tc 564 (t88 n) aj) au))) (by kernel_rfl) (by kernel_rfl) (q := qt)
 rfl
 (by kernel_rfl)
theorem t96 (n : Int) (hm : aH n 9 = 7) : aM prog 16 (e96 n) := fQ (by decide) (by decide) hm
theorem t97 (n : Int) : aM prog 28 (e97 n) := aJ [] (tk (f := 45) (tc 5 (t28 n) aj) au) (by kernel_rfl) (by kernel_rfl) (q := rp ((D (.arr 4 2 (dxL [(sy s15), (ls [(sy s12), (sy s3)])])) : SV) = D (.arr 4 2 (dxL [(sy s15), (ls [(sy s12), (sy s3)])]))) 1 (rp ((D (.arr 4 2 (dxL [(sy s12), (sy s3)])) : SV) = D (.arr 4 2 (dxL [(sy s12), (sy s3)]))) 1 (rp ((D (.arr 4 2 (fun i j => (dxL [(sy s10), (sy s2), (ls [(sy s15), (ls [(sy s12), (sy s3)])])]) (i + (Rx.z0 (Option.some (1 : Int))).toNat) (j))) : SV) = D (.arr 4 2 (fun i j => (dxL [(sy s10), (sy s2), (ls [(sy s15), (ls [(sy s12), (sy s3)])])]) (i + (Rx.z0 (Option.some (1 : Int))).toNat) (j)))) 1 (qt))))
 (bU rfl _ (bU rfl _ (bU rfl _ rfl)))
 (by kernel_rfl)
theorem t98 (n : Int) : aM prog 63 (e98 n) := aJ [] au (by kernel_rfl) (by kernel_rfl) (q := qt)
 rfl
 (by kernel_rfl)
theorem t99 (n : Int) : aM prog 66 (e99 n) := aJ [] au (by kernel_rfl) (by kernel_rfl) (q := qt)
 rfl
 (by kernel_rfl)
end Gv.LGraftRefused
set_option linter.unusedSimpArgs false
set_option linter.unusedVariables false
open Rx Go
namespace Gv
open Rd LGraftRefused
noncomputable def jJ (n : Int) : TL := [(39, [(6, (e19 n))]), (16, [(21, (e81 n))]), (22, [(23, (e27 n))]), (28, [(27, (e82 n))]), (29, [(33, (e94 n))])]
def jM (n : Int) : Prop :=
 rp (en (n)) 1 (((ByteArray.mk (#[40, 100, 101, 102, 105, 110, 101, 32, 40, 108, 111, 111, 112, 32, 110, 41, 32, 40, 108, 111, 111, 112, 32, 110, 41, 41, 32, 40, 100, 101, 102, 105, 110, 101, 32, 122, 32, 40, 108, 111, 111, 112, 32, 49, 41, 41])).size <= 3000 /\ iJ 400 (ByteArray.mk (#[40, 100, 101, 102, 105, 110, 101, 32, 40, 108, 111, 111, 112, 32, 110, 41, 32, 40, 108, 111, 111, 112, 32, 110, 41, 41, 32, 40, 100, 101, 102, 105, 110, 101, 32, 122, 32, 40, 108, 111, 111, 112, 32, 49, 41, 41])) = some (RR.mk (jY ([ls [sy (ByteArray.mk (#[100, 101, 102, 105, 110, 101])), ls [sy (ByteArray.mk (#[108, 111, 111, 112])), sy (ByteArray.mk (#[110]))], ls [sy (ByteArray.mk (#[108, 111, 111, 112])), sy (ByteArray.mk (#[110]))]], ls [sy (ByteArray.mk (#[100, 101, 102, 105, 110, 101])), sy (ByteArray.mk (#[122])), ls [sy (ByteArray.mk (#[108, 111, 111, 112])), num 1]]])) 0 0) /\ dS ([ls [sy (ByteArray.mk (#[100, 101, 102, 105, 110, 101])), ls [sy (ByteArray.mk (#[108, 111, 111, 112])), sy (ByteArray.mk (#[110]))], ls [sy (ByteArray.mk (#[108, 111, 111, 112])), sy (ByteArray.mk (#[110]))]], ls [sy (ByteArray.mk (#[100, 101, 102, 105, 110, 101])), sy (ByteArray.mk (#[122])), ls [sy (ByteArray.mk (#[108, 111, 111, 112])), num 1]]])) /\
 rp (((dxL [(ls [(sy s5), (ls [(sy s16), (sy s9)]), (ls [(sy s16), (sy s9)])]), (ls [(sy s5), (sy s14), (ls [(sy s16), (num 1)])])]) : Nat -> Nat -> Dt) = (dxL [(ls [(sy s5), (ls [(sy s16), (sy s9)]), (ls [(sy s16), (sy s9)])]), (ls [(sy s5), (sy s14), (ls [(sy s16), (num 1)])])])) 1 (rp (((dxL []) : Nat -> Nat -> Dt) = (dxL [])) 1 (qt)))
set_option maxRecDepth 100000 in
theorem pq (n : Int) : (jM n) = (iw [(23, [(ls [(sy s5), (ls [(sy s16), (sy s9)]), (ls [(sy s16), (sy s9)])]), (ls [(sy s5), (sy s14), (ls [(sy s16), (num 1)])])])] (jJ n) 6 [any n]).holds fun y => y.1 = .kb true := by
 kernel_rfl
set_option maxRecDepth 100000 in
theorem qc (n : Int) (hm : aH n 9 = 6) : jM n := by
 unfold jM
 refine bU rfl _ ?_
 refine ⟨⟨by decide, by kernel_rfl, by simp [dS, Dx.fits, ls, sy, num, nu]⟩, ?_⟩
 iterate 2 refine bU rfl _ ?_
 rfl
theorem uL (n : Int) (hm : aH n 9 = 6) : TOk (jJ n) := (aK (aO (t19 n) aj) (aK (aO (t81 n hm) aj) (aK (aO (t27 n) aj) (aK (aO (t82 n) aj) (aK (aO (t94 n) aj) au)))))
theorem uw (n : Int) (hm : aH n 9 = 6) : (iw [(23, [(ls [(sy s5), (ls [(sy s16), (sy s9)]), (ls [(sy s16), (sy s9)])]), (ls [(sy s5), (sy s14), (ls [(sy s16), (num 1)])])])] (jJ n) 6 [any n]).holds fun y => y.1 = .kb true := by
 rw [← pq]
 exact qc n hm
end Gv
