/- The run of ShowDeep. Printed by gvgen.py. -/
import Derived.Test.YtkbdcpkbmfegdaaGreatDoorGvUShowDeep
set_option linter.unusedSimpArgs false
set_option linter.unusedVariables false
open Rx Go
namespace Gv
open Rd LShowDeep
noncomputable def qJ (n : Int) : TL := [(6, [(0, (e0 n))]), (28, [(11, (e14 n))])]
def sG (n : Int) : Prop :=
 rp (en (n)) 1 (((((aB (ByteArray.mk (#[40])) 1).size : Nat) : Int) + (((ByteArray.mk (#[55])).size : Nat) : Int) <= 9223372036854775807) /\
 ((((aB (ByteArray.mk (#[40])) 1 ++ (ByteArray.mk (#[55]))).size : Nat) : Int) + (((aB (ByteArray.mk (#[41])) 1).size : Nat) : Int) <= 9223372036854775807) /\
 ((((SD.txt 1).data.toList == (aB (ByteArray.mk (#[40])) 1 ++ (ByteArray.mk (#[55])) ++ aB (ByteArray.mk (#[41])) 1).data.toList) = true -> (SD.txt 1 = SD.txt 1) /\
 (SD.txt 1 = SD.txt 1) /\
 qt) /\ (((SD.txt 1).data.toList == (aB (ByteArray.mk (#[40])) 1 ++ (ByteArray.mk (#[55])) ++ aB (ByteArray.mk (#[41])) 1).data.toList) = false -> (SD.txt 1 = SD.txt 1) /\
 (SD.txt 1 = SD.txt 1) /\
 ((SV.kb false : SV) = .kb true))))
set_option maxRecDepth 100000 in
theorem wo (n : Int) : (sG n) = (bM [] Gv.SD.xl (qJ n) 3 [any n]).holds fun y => y.1 = .kb true := by
 kernel_rfl
set_option maxRecDepth 100000 in
theorem yC (n : Int) (hm : aj n 20 = 0) : sG n := by
 unfold sG
 refine iP rfl _ ?_
 refine ⟨by decide +kernel, ?_⟩
 refine ⟨by decide +kernel, ?_⟩
 refine ⟨fun _ => ?_, fun h => absurd ((show ((SD.txt 1).data.toList == (aB (ByteArray.mk (#[40])) 1 ++ (ByteArray.mk (#[55])) ++ aB (ByteArray.mk (#[41])) 1).data.toList) = true by kernel_rfl).symm.trans h) (by decide)⟩
 refine ⟨rfl, ?_⟩
 refine ⟨rfl, ?_⟩
 rfl
theorem EW (n : Int) (hm : aj n 20 = 0) : TOk (qJ n) := (aK (aO (t0 n hm) aM) (aK (aO (t14 n) aM) aJ))
theorem CQ (n : Int) (hm : aj n 20 = 0) : (bM [] Gv.SD.xl (qJ n) 3 [any n]).holds fun y => y.1 = .kb true := by
 rw [← wo]
 exact yC n hm
end Gv
set_option linter.unusedSimpArgs false
set_option linter.unusedVariables false
open Rx Go
namespace Gv
open Rd LShowDeep
noncomputable def qP (n : Int) : TL := [(6, [(0, (e16 n))]), (28, [(12, (e14 n))])]
def rZ (n : Int) : Prop :=
 rp (en (n)) 1 (((((aB (ByteArray.mk (#[40])) 2).size : Nat) : Int) + (((ByteArray.mk (#[55])).size : Nat) : Int) <= 9223372036854775807) /\
 ((((aB (ByteArray.mk (#[40])) 2 ++ (ByteArray.mk (#[55]))).size : Nat) : Int) + (((aB (ByteArray.mk (#[41])) 2).size : Nat) : Int) <= 9223372036854775807) /\
 ((((SD.txt 2).data.toList == (aB (ByteArray.mk (#[40])) 2 ++ (ByteArray.mk (#[55])) ++ aB (ByteArray.mk (#[41])) 2).data.toList) = true -> (SD.txt 2 = SD.txt 2) /\
 (SD.txt 2 = SD.txt 2) /\
 qt) /\ (((SD.txt 2).data.toList == (aB (ByteArray.mk (#[40])) 2 ++ (ByteArray.mk (#[55])) ++ aB (ByteArray.mk (#[41])) 2).data.toList) = false -> (SD.txt 2 = SD.txt 2) /\
 (SD.txt 2 = SD.txt 2) /\
 ((SV.kb false : SV) = .kb true))))
set_option maxRecDepth 100000 in
theorem vY (n : Int) : (rZ n) = (bM [] Gv.SD.xl (qP n) 3 [any n]).holds fun y => y.1 = .kb true := by
 kernel_rfl
set_option maxRecDepth 100000 in
theorem yA (n : Int) (hm : aj n 20 = 1) : rZ n := by
 unfold rZ
 refine iP rfl _ ?_
 refine ⟨by decide +kernel, ?_⟩
 refine ⟨by decide +kernel, ?_⟩
 refine ⟨fun _ => ?_, fun h => absurd ((show ((SD.txt 2).data.toList == (aB (ByteArray.mk (#[40])) 2 ++ (ByteArray.mk (#[55])) ++ aB (ByteArray.mk (#[41])) 2).data.toList) = true by kernel_rfl).symm.trans h) (by decide)⟩
 refine ⟨rfl, ?_⟩
 refine ⟨rfl, ?_⟩
 rfl
theorem Dn (n : Int) (hm : aj n 20 = 1) : TOk (qP n) := (aK (aO (t16 n hm) aM) (aK (aO (t14 n) aM) aJ))
theorem Cb (n : Int) (hm : aj n 20 = 1) : (bM [] Gv.SD.xl (qP n) 3 [any n]).holds fun y => y.1 = .kb true := by
 rw [← vY]
 exact yA n hm
end Gv
set_option linter.unusedSimpArgs false
set_option linter.unusedVariables false
open Rx Go
namespace Gv
open Rd LShowDeep
noncomputable def rT (n : Int) : TL := [(6, [(0, (e18 n))]), (28, [(13, (e14 n))])]
def rF (n : Int) : Prop :=
 rp (en (n)) 1 (((((aB (ByteArray.mk (#[40])) 3).size : Nat) : Int) + (((ByteArray.mk (#[55])).size : Nat) : Int) <= 9223372036854775807) /\
 ((((aB (ByteArray.mk (#[40])) 3 ++ (ByteArray.mk (#[55]))).size : Nat) : Int) + (((aB (ByteArray.mk (#[41])) 3).size : Nat) : Int) <= 9223372036854775807) /\
 ((((SD.txt 3).data.toList == (aB (ByteArray.mk (#[40])) 3 ++ (ByteArray.mk (#[55])) ++ aB (ByteArray.mk (#[41])) 3).data.toList) = true -> (SD.txt 3 = SD.txt 3) /\
 (SD.txt 3 = SD.txt 3) /\
 qt) /\ (((SD.txt 3).data.toList == (aB (ByteArray.mk (#[40])) 3 ++ (ByteArray.mk (#[55])) ++ aB (ByteArray.mk (#[41])) 3).data.toList) = false -> (SD.txt 3 = SD.txt 3) /\
 (SD.txt 3 = SD.txt 3) /\
 ((SV.kb false : SV) = .kb true))))
set_option maxRecDepth 100000 in
theorem xG (n : Int) : (rF n) = (bM [] Gv.SD.xl (rT n) 3 [any n]).holds fun y => y.1 = .kb true := by
 kernel_rfl
set_option maxRecDepth 100000 in
theorem yj (n : Int) (hm : aj n 20 = 2) : rF n := by
 unfold rF
 refine iP rfl _ ?_
 refine ⟨by decide +kernel, ?_⟩
 refine ⟨by decide +kernel, ?_⟩
 refine ⟨fun _ => ?_, fun h => absurd ((show ((SD.txt 3).data.toList == (aB (ByteArray.mk (#[40])) 3 ++ (ByteArray.mk (#[55])) ++ aB (ByteArray.mk (#[41])) 3).data.toList) = true by kernel_rfl).symm.trans h) (by decide)⟩
 refine ⟨rfl, ?_⟩
 refine ⟨rfl, ?_⟩
 rfl
theorem ET (n : Int) (hm : aj n 20 = 2) : TOk (rT n) := (aK (aO (t18 n hm) aM) (aK (aO (t14 n) aM) aJ))
theorem Ew (n : Int) (hm : aj n 20 = 2) : (bM [] Gv.SD.xl (rT n) 3 [any n]).holds fun y => y.1 = .kb true := by
 rw [← xG]
 exact yj n hm
end Gv
set_option linter.unusedSimpArgs false
set_option linter.unusedVariables false
open Rx Go
namespace Gv
open Rd LShowDeep
noncomputable def qN (n : Int) : TL := [(6, [(0, (e20 n))]), (28, [(14, (e14 n))])]
def qL (n : Int) : Prop :=
 rp (en (n)) 1 (((((aB (ByteArray.mk (#[40])) 4).size : Nat) : Int) + (((ByteArray.mk (#[55])).size : Nat) : Int) <= 9223372036854775807) /\
 ((((aB (ByteArray.mk (#[40])) 4 ++ (ByteArray.mk (#[55]))).size : Nat) : Int) + (((aB (ByteArray.mk (#[41])) 4).size : Nat) : Int) <= 9223372036854775807) /\
 ((((SD.txt 4).data.toList == (aB (ByteArray.mk (#[40])) 4 ++ (ByteArray.mk (#[55])) ++ aB (ByteArray.mk (#[41])) 4).data.toList) = true -> (SD.txt 4 = SD.txt 4) /\
 (SD.txt 4 = SD.txt 4) /\
 qt) /\ (((SD.txt 4).data.toList == (aB (ByteArray.mk (#[40])) 4 ++ (ByteArray.mk (#[55])) ++ aB (ByteArray.mk (#[41])) 4).data.toList) = false -> (SD.txt 4 = SD.txt 4) /\
 (SD.txt 4 = SD.txt 4) /\
 ((SV.kb false : SV) = .kb true))))
set_option maxRecDepth 100000 in
theorem xO (n : Int) : (qL n) = (bM [] Gv.SD.xl (qN n) 3 [any n]).holds fun y => y.1 = .kb true := by
 kernel_rfl
set_option maxRecDepth 100000 in
theorem xR (n : Int) (hm : aj n 20 = 3) : qL n := by
 unfold qL
 refine iP rfl _ ?_
 refine ⟨by decide +kernel, ?_⟩
 refine ⟨by decide +kernel, ?_⟩
 refine ⟨fun _ => ?_, fun h => absurd ((show ((SD.txt 4).data.toList == (aB (ByteArray.mk (#[40])) 4 ++ (ByteArray.mk (#[55])) ++ aB (ByteArray.mk (#[41])) 4).data.toList) = true by kernel_rfl).symm.trans h) (by decide)⟩
 refine ⟨rfl, ?_⟩
 refine ⟨rfl, ?_⟩
 rfl
theorem CX (n : Int) (hm : aj n 20 = 3) : TOk (qN n) := (aK (aO (t20 n hm) aM) (aK (aO (t14 n) aM) aJ))
theorem Dr (n : Int) (hm : aj n 20 = 3) : (bM [] Gv.SD.xl (qN n) 3 [any n]).holds fun y => y.1 = .kb true := by
 rw [← xO]
 exact xR n hm
end Gv
set_option linter.unusedSimpArgs false
set_option linter.unusedVariables false
open Rx Go
namespace Gv
open Rd LShowDeep
noncomputable def qB (n : Int) : TL := [(6, [(0, (e22 n))]), (28, [(15, (e14 n))])]
def rH (n : Int) : Prop :=
 rp (en (n)) 1 (((((aB (ByteArray.mk (#[40])) 5).size : Nat) : Int) + (((ByteArray.mk (#[55])).size : Nat) : Int) <= 9223372036854775807) /\
 ((((aB (ByteArray.mk (#[40])) 5 ++ (ByteArray.mk (#[55]))).size : Nat) : Int) + (((aB (ByteArray.mk (#[41])) 5).size : Nat) : Int) <= 9223372036854775807) /\
 ((((SD.txt 5).data.toList == (aB (ByteArray.mk (#[40])) 5 ++ (ByteArray.mk (#[55])) ++ aB (ByteArray.mk (#[41])) 5).data.toList) = true -> (SD.txt 5 = SD.txt 5) /\
 (SD.txt 5 = SD.txt 5) /\
 qt) /\ (((SD.txt 5).data.toList == (aB (ByteArray.mk (#[40])) 5 ++ (ByteArray.mk (#[55])) ++ aB (ByteArray.mk (#[41])) 5).data.toList) = false -> (SD.txt 5 = SD.txt 5) /\
 (SD.txt 5 = SD.txt 5) /\
 ((SV.kb false : SV) = .kb true))))
set_option maxRecDepth 100000 in
theorem wQ (n : Int) : (rH n) = (bM [] Gv.SD.xl (qB n) 3 [any n]).holds fun y => y.1 = .kb true := by
 kernel_rfl
set_option maxRecDepth 100000 in
theorem xZ (n : Int) (hm : aj n 20 = 4) : rH n := by
 unfold rH
 refine iP rfl _ ?_
 refine ⟨by decide +kernel, ?_⟩
 refine ⟨by decide +kernel, ?_⟩
 refine ⟨fun _ => ?_, fun h => absurd ((show ((SD.txt 5).data.toList == (aB (ByteArray.mk (#[40])) 5 ++ (ByteArray.mk (#[55])) ++ aB (ByteArray.mk (#[41])) 5).data.toList) = true by kernel_rfl).symm.trans h) (by decide)⟩
 refine ⟨rfl, ?_⟩
 refine ⟨rfl, ?_⟩
 rfl
theorem E8 (n : Int) (hm : aj n 20 = 4) : TOk (qB n) := (aK (aO (t22 n hm) aM) (aK (aO (t14 n) aM) aJ))
theorem Da (n : Int) (hm : aj n 20 = 4) : (bM [] Gv.SD.xl (qB n) 3 [any n]).holds fun y => y.1 = .kb true := by
 rw [← wQ]
 exact xZ n hm
end Gv
set_option linter.unusedSimpArgs false
set_option linter.unusedVariables false
open Rx Go
namespace Gv
open Rd LShowDeep
noncomputable def sH (n : Int) : TL := [(6, [(0, (e24 n))]), (28, [(16, (e14 n))])]
def sJ (n : Int) : Prop :=
 rp (en (n)) 1 (((((aB (ByteArray.mk (#[40])) 6).size : Nat) : Int) + (((ByteArray.mk (#[55])).size : Nat) : Int) <= 9223372036854775807) /\
 ((((aB (ByteArray.mk (#[40])) 6 ++ (ByteArray.mk (#[55]))).size : Nat) : Int) + (((aB (ByteArray.mk (#[41])) 6).size : Nat) : Int) <= 9223372036854775807) /\
 ((((SD.txt 6).data.toList == (aB (ByteArray.mk (#[40])) 6 ++ (ByteArray.mk (#[55])) ++ aB (ByteArray.mk (#[41])) 6).data.toList) = true -> (SD.txt 6 = SD.txt 6) /\
 (SD.txt 6 = SD.txt 6) /\
 qt) /\ (((SD.txt 6).data.toList == (aB (ByteArray.mk (#[40])) 6 ++ (ByteArray.mk (#[55])) ++ aB (ByteArray.mk (#[41])) 6).data.toList) = false -> (SD.txt 6 = SD.txt 6) /\
 (SD.txt 6 = SD.txt 6) /\
 ((SV.kb false : SV) = .kb true))))
set_option maxRecDepth 100000 in
theorem xC (n : Int) : (sJ n) = (bM [] Gv.SD.xl (sH n) 3 [any n]).holds fun y => y.1 = .kb true := by
 kernel_rfl
set_option maxRecDepth 100000 in
theorem yY (n : Int) (hm : aj n 20 = 5) : sJ n := by
 unfold sJ
 refine iP rfl _ ?_
 refine ⟨by decide +kernel, ?_⟩
 refine ⟨by decide +kernel, ?_⟩
 refine ⟨fun _ => ?_, fun h => absurd ((show ((SD.txt 6).data.toList == (aB (ByteArray.mk (#[40])) 6 ++ (ByteArray.mk (#[55])) ++ aB (ByteArray.mk (#[41])) 6).data.toList) = true by kernel_rfl).symm.trans h) (by decide)⟩
 refine ⟨rfl, ?_⟩
 refine ⟨rfl, ?_⟩
 rfl
theorem Et (n : Int) (hm : aj n 20 = 5) : TOk (sH n) := (aK (aO (t24 n hm) aM) (aK (aO (t14 n) aM) aJ))
theorem Ee (n : Int) (hm : aj n 20 = 5) : (bM [] Gv.SD.xl (sH n) 3 [any n]).holds fun y => y.1 = .kb true := by
 rw [← xC]
 exact yY n hm
end Gv
set_option linter.unusedSimpArgs false
set_option linter.unusedVariables false
open Rx Go
namespace Gv
open Rd LShowDeep
noncomputable def rJ (n : Int) : TL := [(6, [(0, (e26 n))]), (28, [(17, (e14 n))])]
def rU (n : Int) : Prop :=
 rp (en (n)) 1 (((((aB (ByteArray.mk (#[40])) 7).size : Nat) : Int) + (((ByteArray.mk (#[55])).size : Nat) : Int) <= 9223372036854775807) /\
 ((((aB (ByteArray.mk (#[40])) 7 ++ (ByteArray.mk (#[55]))).size : Nat) : Int) + (((aB (ByteArray.mk (#[41])) 7).size : Nat) : Int) <= 9223372036854775807) /\
 ((((SD.txt 7).data.toList == (aB (ByteArray.mk (#[40])) 7 ++ (ByteArray.mk (#[55])) ++ aB (ByteArray.mk (#[41])) 7).data.toList) = true -> (SD.txt 7 = SD.txt 7) /\
 (SD.txt 7 = SD.txt 7) /\
 qt) /\ (((SD.txt 7).data.toList == (aB (ByteArray.mk (#[40])) 7 ++ (ByteArray.mk (#[55])) ++ aB (ByteArray.mk (#[41])) 7).data.toList) = false -> (SD.txt 7 = SD.txt 7) /\
 (SD.txt 7 = SD.txt 7) /\
 ((SV.kb false : SV) = .kb true))))
set_option maxRecDepth 100000 in
theorem vF (n : Int) : (rU n) = (bM [] Gv.SD.xl (rJ n) 3 [any n]).holds fun y => y.1 = .kb true := by
 kernel_rfl
set_option maxRecDepth 100000 in
theorem yT (n : Int) (hm : aj n 20 = 6) : rU n := by
 unfold rU
 refine iP rfl _ ?_
 refine ⟨by decide +kernel, ?_⟩
 refine ⟨by decide +kernel, ?_⟩
 refine ⟨fun _ => ?_, fun h => absurd ((show ((SD.txt 7).data.toList == (aB (ByteArray.mk (#[40])) 7 ++ (ByteArray.mk (#[55])) ++ aB (ByteArray.mk (#[41])) 7).data.toList) = true by kernel_rfl).symm.trans h) (by decide)⟩
 refine ⟨rfl, ?_⟩
 refine ⟨rfl, ?_⟩
 rfl
theorem Dc (n : Int) (hm : aj n 20 = 6) : TOk (rJ n) := (aK (aO (t26 n hm) aM) (aK (aO (t14 n) aM) aJ))
theorem EL (n : Int) (hm : aj n 20 = 6) : (bM [] Gv.SD.xl (rJ n) 3 [any n]).holds fun y => y.1 = .kb true := by
 rw [← vF]
 exact yT n hm
end Gv
set_option linter.unusedSimpArgs false
set_option linter.unusedVariables false
open Rx Go
namespace Gv
open Rd LShowDeep
noncomputable def rQ (n : Int) : TL := [(6, [(0, (e28 n))]), (28, [(18, (e14 n))])]
def r9 (n : Int) : Prop :=
 rp (en (n)) 1 (((((aB (ByteArray.mk (#[40])) 8).size : Nat) : Int) + (((ByteArray.mk (#[55])).size : Nat) : Int) <= 9223372036854775807) /\
 ((((aB (ByteArray.mk (#[40])) 8 ++ (ByteArray.mk (#[55]))).size : Nat) : Int) + (((aB (ByteArray.mk (#[41])) 8).size : Nat) : Int) <= 9223372036854775807) /\
 ((((SD.txt 8).data.toList == (aB (ByteArray.mk (#[40])) 8 ++ (ByteArray.mk (#[55])) ++ aB (ByteArray.mk (#[41])) 8).data.toList) = true -> (SD.txt 8 = SD.txt 8) /\
 (SD.txt 8 = SD.txt 8) /\
 qt) /\ (((SD.txt 8).data.toList == (aB (ByteArray.mk (#[40])) 8 ++ (ByteArray.mk (#[55])) ++ aB (ByteArray.mk (#[41])) 8).data.toList) = false -> (SD.txt 8 = SD.txt 8) /\
 (SD.txt 8 = SD.txt 8) /\
 ((SV.kb false : SV) = .kb true))))
set_option maxRecDepth 100000 in
theorem xP (n : Int) : (r9 n) = (bM [] Gv.SD.xl (rQ n) 3 [any n]).holds fun y => y.1 = .kb true := by
 kernel_rfl
set_option maxRecDepth 100000 in
theorem yh (n : Int) (hm : aj n 20 = 7) : r9 n := by
 unfold r9
 refine iP rfl _ ?_
 refine ⟨by decide +kernel, ?_⟩
 refine ⟨by decide +kernel, ?_⟩
 refine ⟨fun _ => ?_, fun h => absurd ((show ((SD.txt 8).data.toList == (aB (ByteArray.mk (#[40])) 8 ++ (ByteArray.mk (#[55])) ++ aB (ByteArray.mk (#[41])) 8).data.toList) = true by kernel_rfl).symm.trans h) (by decide)⟩
 refine ⟨rfl, ?_⟩
 refine ⟨rfl, ?_⟩
 rfl
theorem Es (n : Int) (hm : aj n 20 = 7) : TOk (rQ n) := (aK (aO (t28 n hm) aM) (aK (aO (t14 n) aM) aJ))
theorem Dp (n : Int) (hm : aj n 20 = 7) : (bM [] Gv.SD.xl (rQ n) 3 [any n]).holds fun y => y.1 = .kb true := by
 rw [← xP]
 exact yh n hm
end Gv
set_option linter.unusedSimpArgs false
set_option linter.unusedVariables false
open Rx Go
namespace Gv
open Rd LShowDeep
noncomputable def rX (n : Int) : TL := [(6, [(0, (e30 n))]), (28, [(19, (e14 n))])]
def q8 (n : Int) : Prop :=
 rp (en (n)) 1 (((((aB (ByteArray.mk (#[40])) 9).size : Nat) : Int) + (((ByteArray.mk (#[55])).size : Nat) : Int) <= 9223372036854775807) /\
 ((((aB (ByteArray.mk (#[40])) 9 ++ (ByteArray.mk (#[55]))).size : Nat) : Int) + (((aB (ByteArray.mk (#[41])) 9).size : Nat) : Int) <= 9223372036854775807) /\
 ((((SD.txt 9).data.toList == (aB (ByteArray.mk (#[40])) 9 ++ (ByteArray.mk (#[55])) ++ aB (ByteArray.mk (#[41])) 9).data.toList) = true -> (SD.txt 9 = SD.txt 9) /\
 (SD.txt 9 = SD.txt 9) /\
 qt) /\ (((SD.txt 9).data.toList == (aB (ByteArray.mk (#[40])) 9 ++ (ByteArray.mk (#[55])) ++ aB (ByteArray.mk (#[41])) 9).data.toList) = false -> (SD.txt 9 = SD.txt 9) /\
 (SD.txt 9 = SD.txt 9) /\
 ((SV.kb false : SV) = .kb true))))
set_option maxRecDepth 100000 in
theorem wY (n : Int) : (q8 n) = (bM [] Gv.SD.xl (rX n) 3 [any n]).holds fun y => y.1 = .kb true := by
 kernel_rfl
set_option maxRecDepth 100000 in
theorem yG (n : Int) (hm : aj n 20 = 8) : q8 n := by
 unfold q8
 refine iP rfl _ ?_
 refine ⟨by decide +kernel, ?_⟩
 refine ⟨by decide +kernel, ?_⟩
 refine ⟨fun _ => ?_, fun h => absurd ((show ((SD.txt 9).data.toList == (aB (ByteArray.mk (#[40])) 9 ++ (ByteArray.mk (#[55])) ++ aB (ByteArray.mk (#[41])) 9).data.toList) = true by kernel_rfl).symm.trans h) (by decide)⟩
 refine ⟨rfl, ?_⟩
 refine ⟨rfl, ?_⟩
 rfl
theorem DT (n : Int) (hm : aj n 20 = 8) : TOk (rX n) := (aK (aO (t30 n hm) aM) (aK (aO (t14 n) aM) aJ))
theorem Ei (n : Int) (hm : aj n 20 = 8) : (bM [] Gv.SD.xl (rX n) 3 [any n]).holds fun y => y.1 = .kb true := by
 rw [← wY]
 exact yG n hm
end Gv
set_option linter.unusedSimpArgs false
set_option linter.unusedVariables false
open Rx Go
namespace Gv
open Rd LShowDeep
noncomputable def qc (n : Int) : TL := [(6, [(0, (e32 n))]), (28, [(20, (e14 n))])]
def sD (n : Int) : Prop :=
 rp (en (n)) 1 (((((aB (ByteArray.mk (#[40])) 10).size : Nat) : Int) + (((ByteArray.mk (#[55])).size : Nat) : Int) <= 9223372036854775807) /\
 ((((aB (ByteArray.mk (#[40])) 10 ++ (ByteArray.mk (#[55]))).size : Nat) : Int) + (((aB (ByteArray.mk (#[41])) 10).size : Nat) : Int) <= 9223372036854775807) /\
 ((((SD.txt 10).data.toList == (aB (ByteArray.mk (#[40])) 10 ++ (ByteArray.mk (#[55])) ++ aB (ByteArray.mk (#[41])) 10).data.toList) = true -> (SD.txt 10 = SD.txt 10) /\
 (SD.txt 10 = SD.txt 10) /\
 qt) /\ (((SD.txt 10).data.toList == (aB (ByteArray.mk (#[40])) 10 ++ (ByteArray.mk (#[55])) ++ aB (ByteArray.mk (#[41])) 10).data.toList) = false -> (SD.txt 10 = SD.txt 10) /\
 (SD.txt 10 = SD.txt 10) /\
 ((SV.kb false : SV) = .kb true))))
set_option maxRecDepth 100000 in
theorem wX (n : Int) : (sD n) = (bM [] Gv.SD.xl (qc n) 3 [any n]).holds fun y => y.1 = .kb true := by
 kernel_rfl
set_option maxRecDepth 100000 in
theorem xV (n : Int) (hm : aj n 20 = 9) : sD n := by
 unfold sD
 refine iP rfl _ ?_
 refine ⟨by decide +kernel, ?_⟩
 refine ⟨by decide +kernel, ?_⟩
 refine ⟨fun _ => ?_, fun h => absurd ((show ((SD.txt 10).data.toList == (aB (ByteArray.mk (#[40])) 10 ++ (ByteArray.mk (#[55])) ++ aB (ByteArray.mk (#[41])) 10).data.toList) = true by kernel_rfl).symm.trans h) (by decide)⟩
 refine ⟨rfl, ?_⟩
 refine ⟨rfl, ?_⟩
 rfl
theorem EA (n : Int) (hm : aj n 20 = 9) : TOk (qc n) := (aK (aO (t32 n hm) aM) (aK (aO (t14 n) aM) aJ))
theorem CK (n : Int) (hm : aj n 20 = 9) : (bM [] Gv.SD.xl (qc n) 3 [any n]).holds fun y => y.1 = .kb true := by
 rw [← wX]
 exact xV n hm
end Gv
set_option linter.unusedSimpArgs false
set_option linter.unusedVariables false
open Rx Go
namespace Gv
open Rd LShowDeep
noncomputable def nP (n : Int) : TL := [(6, [(0, (e34 n))]), (28, [(21, (e14 n))])]
def pz (n : Int) : Prop :=
 rp (en (n)) 1 (((((aB (ByteArray.mk (#[40])) 10).size : Nat) : Int) + (((ByteArray.mk (#[46, 46])).size : Nat) : Int) <= 9223372036854775807) /\
 ((((aB (ByteArray.mk (#[40])) 10 ++ (ByteArray.mk (#[46, 46]))).size : Nat) : Int) + (((aB (ByteArray.mk (#[41])) 10).size : Nat) : Int) <= 9223372036854775807) /\
 ((((SD.txt 11).data.toList == (aB (ByteArray.mk (#[40])) 10 ++ (ByteArray.mk (#[46, 46])) ++ aB (ByteArray.mk (#[41])) 10).data.toList) = true -> (SD.txt 11 = SD.txt 11) /\
 (SD.txt 11 = SD.txt 11) /\
 qt) /\ (((SD.txt 11).data.toList == (aB (ByteArray.mk (#[40])) 10 ++ (ByteArray.mk (#[46, 46])) ++ aB (ByteArray.mk (#[41])) 10).data.toList) = false -> (SD.txt 11 = SD.txt 11) /\
 (SD.txt 11 = SD.txt 11) /\
 ((SV.kb false : SV) = .kb true))))
set_option maxRecDepth 100000 in
theorem uQ (n : Int) : (pz n) = (bM [] Gv.SD.xl (nP n) 3 [any n]).holds fun y => y.1 = .kb true := by
 kernel_rfl
set_option maxRecDepth 100000 in
theorem wu (n : Int) (hm : aj n 20 = 10) : pz n := by
 unfold pz
 refine iP rfl _ ?_
 refine ⟨by decide +kernel, ?_⟩
 refine ⟨by decide +kernel, ?_⟩
 refine ⟨fun _ => ?_, fun h => absurd ((show ((SD.txt 11).data.toList == (aB (ByteArray.mk (#[40])) 10 ++ (ByteArray.mk (#[46, 46])) ++ aB (ByteArray.mk (#[41])) 10).data.toList) = true by kernel_rfl).symm.trans h) (by decide)⟩
 refine ⟨rfl, ?_⟩
 refine ⟨rfl, ?_⟩
 rfl
theorem Am (n : Int) (hm : aj n 20 = 10) : TOk (nP n) := (aK (aO (t34 n hm) aM) (aK (aO (t14 n) aM) aJ))
theorem AJ (n : Int) (hm : aj n 20 = 10) : (bM [] Gv.SD.xl (nP n) 3 [any n]).holds fun y => y.1 = .kb true := by
 rw [← uQ]
 exact wu n hm
end Gv
set_option linter.unusedSimpArgs false
set_option linter.unusedVariables false
open Rx Go
namespace Gv
open Rd LShowDeep
noncomputable def oW (n : Int) : TL := [(6, [(0, (e36 n))]), (28, [(22, (e14 n))])]
def nZ (n : Int) : Prop :=
 rp (en (n)) 1 (((((aB (ByteArray.mk (#[40])) 10).size : Nat) : Int) + (((ByteArray.mk (#[46, 46])).size : Nat) : Int) <= 9223372036854775807) /\
 ((((aB (ByteArray.mk (#[40])) 10 ++ (ByteArray.mk (#[46, 46]))).size : Nat) : Int) + (((aB (ByteArray.mk (#[41])) 10).size : Nat) : Int) <= 9223372036854775807) /\
 ((((SD.txt 12).data.toList == (aB (ByteArray.mk (#[40])) 10 ++ (ByteArray.mk (#[46, 46])) ++ aB (ByteArray.mk (#[41])) 10).data.toList) = true -> (SD.txt 12 = SD.txt 12) /\
 (SD.txt 12 = SD.txt 12) /\
 qt) /\ (((SD.txt 12).data.toList == (aB (ByteArray.mk (#[40])) 10 ++ (ByteArray.mk (#[46, 46])) ++ aB (ByteArray.mk (#[41])) 10).data.toList) = false -> (SD.txt 12 = SD.txt 12) /\
 (SD.txt 12 = SD.txt 12) /\
 ((SV.kb false : SV) = .kb true))))
set_option maxRecDepth 100000 in
theorem uD (n : Int) : (nZ n) = (bM [] Gv.SD.xl (oW n) 3 [any n]).holds fun y => y.1 = .kb true := by
 kernel_rfl
set_option maxRecDepth 100000 in
theorem xq (n : Int) (hm : aj n 20 = 11) : nZ n := by
 unfold nZ
 refine iP rfl _ ?_
 refine ⟨by decide +kernel, ?_⟩
 refine ⟨by decide +kernel, ?_⟩
 refine ⟨fun _ => ?_, fun h => absurd ((show ((SD.txt 12).data.toList == (aB (ByteArray.mk (#[40])) 10 ++ (ByteArray.mk (#[46, 46])) ++ aB (ByteArray.mk (#[41])) 10).data.toList) = true by kernel_rfl).symm.trans h) (by decide)⟩
 refine ⟨rfl, ?_⟩
 refine ⟨rfl, ?_⟩
 rfl
theorem AQ (n : Int) (hm : aj n 20 = 11) : TOk (oW n) := (aK (aO (t36 n hm) aM) (aK (aO (t14 n) aM) aJ))
theorem Ah (n : Int) (hm : aj n 20 = 11) : (bM [] Gv.SD.xl (oW n) 3 [any n]).holds fun y => y.1 = .kb true := by
 rw [← uD]
 exact xq n hm
end Gv
set_option linter.unusedSimpArgs false
set_option linter.unusedVariables false
open Rx Go
namespace Gv
open Rd LShowDeep
noncomputable def nW (n : Int) : TL := [(6, [(0, (e38 n))]), (28, [(23, (e14 n))])]
def pF (n : Int) : Prop :=
 rp (en (n)) 1 (((((aB (ByteArray.mk (#[40])) 10).size : Nat) : Int) + (((ByteArray.mk (#[46, 46])).size : Nat) : Int) <= 9223372036854775807) /\
 ((((aB (ByteArray.mk (#[40])) 10 ++ (ByteArray.mk (#[46, 46]))).size : Nat) : Int) + (((aB (ByteArray.mk (#[41])) 10).size : Nat) : Int) <= 9223372036854775807) /\
 ((((SD.txt 13).data.toList == (aB (ByteArray.mk (#[40])) 10 ++ (ByteArray.mk (#[46, 46])) ++ aB (ByteArray.mk (#[41])) 10).data.toList) = true -> (SD.txt 13 = SD.txt 13) /\
 (SD.txt 13 = SD.txt 13) /\
 qt) /\ (((SD.txt 13).data.toList == (aB (ByteArray.mk (#[40])) 10 ++ (ByteArray.mk (#[46, 46])) ++ aB (ByteArray.mk (#[41])) 10).data.toList) = false -> (SD.txt 13 = SD.txt 13) /\
 (SD.txt 13 = SD.txt 13) /\
 ((SV.kb false : SV) = .kb true))))
set_option maxRecDepth 100000 in
theorem uX (n : Int) : (pF n) = (bM [] Gv.SD.xl (nW n) 3 [any n]).holds fun y => y.1 = .kb true := by
 kernel_rfl
set_option maxRecDepth 100000 in
theorem wP (n : Int) (hm : aj n 20 = 12) : pF n := by
 unfold pF
 refine iP rfl _ ?_
 refine ⟨by decide +kernel, ?_⟩
 refine ⟨by decide +kernel, ?_⟩
 refine ⟨fun _ => ?_, fun h => absurd ((show ((SD.txt 13).data.toList == (aB (ByteArray.mk (#[40])) 10 ++ (ByteArray.mk (#[46, 46])) ++ aB (ByteArray.mk (#[41])) 10).data.toList) = true by kernel_rfl).symm.trans h) (by decide)⟩
 refine ⟨rfl, ?_⟩
 refine ⟨rfl, ?_⟩
 rfl
theorem AU (n : Int) (hm : aj n 20 = 12) : TOk (nW n) := (aK (aO (t38 n hm) aM) (aK (aO (t14 n) aM) aJ))
theorem AX (n : Int) (hm : aj n 20 = 12) : (bM [] Gv.SD.xl (nW n) 3 [any n]).holds fun y => y.1 = .kb true := by
 rw [← uX]
 exact wP n hm
end Gv
set_option linter.unusedSimpArgs false
set_option linter.unusedVariables false
open Rx Go
namespace Gv
open Rd LShowDeep
noncomputable def nS (n : Int) : TL := [(6, [(0, (e40 n))]), (28, [(24, (e14 n))])]
def ow (n : Int) : Prop :=
 rp (en (n)) 1 (((((aB (ByteArray.mk (#[40])) 10).size : Nat) : Int) + (((ByteArray.mk (#[46, 46])).size : Nat) : Int) <= 9223372036854775807) /\
 ((((aB (ByteArray.mk (#[40])) 10 ++ (ByteArray.mk (#[46, 46]))).size : Nat) : Int) + (((aB (ByteArray.mk (#[41])) 10).size : Nat) : Int) <= 9223372036854775807) /\
 ((((SD.txt 14).data.toList == (aB (ByteArray.mk (#[40])) 10 ++ (ByteArray.mk (#[46, 46])) ++ aB (ByteArray.mk (#[41])) 10).data.toList) = true -> (SD.txt 14 = SD.txt 14) /\
 (SD.txt 14 = SD.txt 14) /\
 qt) /\ (((SD.txt 14).data.toList == (aB (ByteArray.mk (#[40])) 10 ++ (ByteArray.mk (#[46, 46])) ++ aB (ByteArray.mk (#[41])) 10).data.toList) = false -> (SD.txt 14 = SD.txt 14) /\
 (SD.txt 14 = SD.txt 14) /\
 ((SV.kb false : SV) = .kb true))))
set_option maxRecDepth 100000 in
theorem uY (n : Int) : (ow n) = (bM [] Gv.SD.xl (nS n) 3 [any n]).holds fun y => y.1 = .kb true := by
 kernel_rfl
set_option maxRecDepth 100000 in
theorem xM (n : Int) (hm : aj n 20 = 13) : ow n := by
 unfold ow
 refine iP rfl _ ?_
 refine ⟨by decide +kernel, ?_⟩
 refine ⟨by decide +kernel, ?_⟩
 refine ⟨fun _ => ?_, fun h => absurd ((show ((SD.txt 14).data.toList == (aB (ByteArray.mk (#[40])) 10 ++ (ByteArray.mk (#[46, 46])) ++ aB (ByteArray.mk (#[41])) 10).data.toList) = true by kernel_rfl).symm.trans h) (by decide)⟩
 refine ⟨rfl, ?_⟩
 refine ⟨rfl, ?_⟩
 rfl
theorem Aq (n : Int) (hm : aj n 20 = 13) : TOk (nS n) := (aK (aO (t40 n hm) aM) (aK (aO (t14 n) aM) aJ))
theorem A9 (n : Int) (hm : aj n 20 = 13) : (bM [] Gv.SD.xl (nS n) 3 [any n]).holds fun y => y.1 = .kb true := by
 rw [← uY]
 exact xM n hm
end Gv
set_option linter.unusedSimpArgs false
set_option linter.unusedVariables false
open Rx Go
namespace Gv
open Rd LShowDeep
noncomputable def oH (n : Int) : TL := [(6, [(0, (e42 n))]), (28, [(25, (e14 n))])]
def oV (n : Int) : Prop :=
 rp (en (n)) 1 (((((aB (ByteArray.mk (#[40])) 10).size : Nat) : Int) + (((ByteArray.mk (#[46, 46])).size : Nat) : Int) <= 9223372036854775807) /\
 ((((aB (ByteArray.mk (#[40])) 10 ++ (ByteArray.mk (#[46, 46]))).size : Nat) : Int) + (((aB (ByteArray.mk (#[41])) 10).size : Nat) : Int) <= 9223372036854775807) /\
 ((((SD.txt 15).data.toList == (aB (ByteArray.mk (#[40])) 10 ++ (ByteArray.mk (#[46, 46])) ++ aB (ByteArray.mk (#[41])) 10).data.toList) = true -> (SD.txt 15 = SD.txt 15) /\
 (SD.txt 15 = SD.txt 15) /\
 qt) /\ (((SD.txt 15).data.toList == (aB (ByteArray.mk (#[40])) 10 ++ (ByteArray.mk (#[46, 46])) ++ aB (ByteArray.mk (#[41])) 10).data.toList) = false -> (SD.txt 15 = SD.txt 15) /\
 (SD.txt 15 = SD.txt 15) /\
 ((SV.kb false : SV) = .kb true))))
set_option maxRecDepth 100000 in
theorem uG (n : Int) : (oV n) = (bM [] Gv.SD.xl (oH n) 3 [any n]).holds fun y => y.1 = .kb true := by
 kernel_rfl
set_option maxRecDepth 100000 in
theorem vR (n : Int) (hm : aj n 20 = 14) : oV n := by
 unfold oV
 refine iP rfl _ ?_
 refine ⟨by decide +kernel, ?_⟩
 refine ⟨by decide +kernel, ?_⟩
 refine ⟨fun _ => ?_, fun h => absurd ((show ((SD.txt 15).data.toList == (aB (ByteArray.mk (#[40])) 10 ++ (ByteArray.mk (#[46, 46])) ++ aB (ByteArray.mk (#[41])) 10).data.toList) = true by kernel_rfl).symm.trans h) (by decide)⟩
 refine ⟨rfl, ?_⟩
 refine ⟨rfl, ?_⟩
 rfl
theorem Au (n : Int) (hm : aj n 20 = 14) : TOk (oH n) := (aK (aO (t42 n hm) aM) (aK (aO (t14 n) aM) aJ))
theorem Ay (n : Int) (hm : aj n 20 = 14) : (bM [] Gv.SD.xl (oH n) 3 [any n]).holds fun y => y.1 = .kb true := by
 rw [← uG]
 exact vR n hm
end Gv
set_option linter.unusedSimpArgs false
set_option linter.unusedVariables false
open Rx Go
namespace Gv
open Rd LShowDeep
noncomputable def nJ (n : Int) : TL := [(6, [(0, (e44 n))]), (28, [(26, (e14 n))])]
def oF (n : Int) : Prop :=
 rp (en (n)) 1 (((((aB (ByteArray.mk (#[40])) 10).size : Nat) : Int) + (((ByteArray.mk (#[46, 46])).size : Nat) : Int) <= 9223372036854775807) /\
 ((((aB (ByteArray.mk (#[40])) 10 ++ (ByteArray.mk (#[46, 46]))).size : Nat) : Int) + (((aB (ByteArray.mk (#[41])) 10).size : Nat) : Int) <= 9223372036854775807) /\
 ((((SD.txt 16).data.toList == (aB (ByteArray.mk (#[40])) 10 ++ (ByteArray.mk (#[46, 46])) ++ aB (ByteArray.mk (#[41])) 10).data.toList) = true -> (SD.txt 16 = SD.txt 16) /\
 (SD.txt 16 = SD.txt 16) /\
 qt) /\ (((SD.txt 16).data.toList == (aB (ByteArray.mk (#[40])) 10 ++ (ByteArray.mk (#[46, 46])) ++ aB (ByteArray.mk (#[41])) 10).data.toList) = false -> (SD.txt 16 = SD.txt 16) /\
 (SD.txt 16 = SD.txt 16) /\
 ((SV.kb false : SV) = .kb true))))
set_option maxRecDepth 100000 in
theorem uV (n : Int) : (oF n) = (bM [] Gv.SD.xl (nJ n) 3 [any n]).holds fun y => y.1 = .kb true := by
 kernel_rfl
set_option maxRecDepth 100000 in
theorem xQ (n : Int) (hm : aj n 20 = 15) : oF n := by
 unfold oF
 refine iP rfl _ ?_
 refine ⟨by decide +kernel, ?_⟩
 refine ⟨by decide +kernel, ?_⟩
 refine ⟨fun _ => ?_, fun h => absurd ((show ((SD.txt 16).data.toList == (aB (ByteArray.mk (#[40])) 10 ++ (ByteArray.mk (#[46, 46])) ++ aB (ByteArray.mk (#[41])) 10).data.toList) = true by kernel_rfl).symm.trans h) (by decide)⟩
 refine ⟨rfl, ?_⟩
 refine ⟨rfl, ?_⟩
 rfl
theorem AY (n : Int) (hm : aj n 20 = 15) : TOk (nJ n) := (aK (aO (t44 n hm) aM) (aK (aO (t14 n) aM) aJ))
theorem AZ (n : Int) (hm : aj n 20 = 15) : (bM [] Gv.SD.xl (nJ n) 3 [any n]).holds fun y => y.1 = .kb true := by
 rw [← uV]
 exact xQ n hm
end Gv
set_option linter.unusedSimpArgs false
set_option linter.unusedVariables false
open Rx Go
namespace Gv
open Rd LShowDeep
noncomputable def oJ (n : Int) : TL := [(6, [(0, (e46 n))]), (28, [(27, (e14 n))])]
def nI (n : Int) : Prop :=
 rp (en (n)) 1 (((((aB (ByteArray.mk (#[40])) 10).size : Nat) : Int) + (((ByteArray.mk (#[46, 46])).size : Nat) : Int) <= 9223372036854775807) /\
 ((((aB (ByteArray.mk (#[40])) 10 ++ (ByteArray.mk (#[46, 46]))).size : Nat) : Int) + (((aB (ByteArray.mk (#[41])) 10).size : Nat) : Int) <= 9223372036854775807) /\
 ((((SD.txt 17).data.toList == (aB (ByteArray.mk (#[40])) 10 ++ (ByteArray.mk (#[46, 46])) ++ aB (ByteArray.mk (#[41])) 10).data.toList) = true -> (SD.txt 17 = SD.txt 17) /\
 (SD.txt 17 = SD.txt 17) /\
 qt) /\ (((SD.txt 17).data.toList == (aB (ByteArray.mk (#[40])) 10 ++ (ByteArray.mk (#[46, 46])) ++ aB (ByteArray.mk (#[41])) 10).data.toList) = false -> (SD.txt 17 = SD.txt 17) /\
 (SD.txt 17 = SD.txt 17) /\
 ((SV.kb false : SV) = .kb true))))
set_option maxRecDepth 100000 in
theorem uZ (n : Int) : (nI n) = (bM [] Gv.SD.xl (oJ n) 3 [any n]).holds fun y => y.1 = .kb true := by
 kernel_rfl
set_option maxRecDepth 100000 in
theorem xE (n : Int) (hm : aj n 20 = 16) : nI n := by
 unfold nI
 refine iP rfl _ ?_
 refine ⟨by decide +kernel, ?_⟩
 refine ⟨by decide +kernel, ?_⟩
 refine ⟨fun _ => ?_, fun h => absurd ((show ((SD.txt 17).data.toList == (aB (ByteArray.mk (#[40])) 10 ++ (ByteArray.mk (#[46, 46])) ++ aB (ByteArray.mk (#[41])) 10).data.toList) = true by kernel_rfl).symm.trans h) (by decide)⟩
 refine ⟨rfl, ?_⟩
 refine ⟨rfl, ?_⟩
 rfl
theorem AP (n : Int) (hm : aj n 20 = 16) : TOk (oJ n) := (aK (aO (t46 n hm) aM) (aK (aO (t14 n) aM) aJ))
theorem Az (n : Int) (hm : aj n 20 = 16) : (bM [] Gv.SD.xl (oJ n) 3 [any n]).holds fun y => y.1 = .kb true := by
 rw [← uZ]
 exact xE n hm
end Gv
set_option linter.unusedSimpArgs false
set_option linter.unusedVariables false
open Rx Go
namespace Gv
open Rd LShowDeep
noncomputable def nU (n : Int) : TL := [(6, [(0, (e48 n))]), (28, [(28, (e14 n))])]
def pq (n : Int) : Prop :=
 rp (en (n)) 1 (((((aB (ByteArray.mk (#[40])) 10).size : Nat) : Int) + (((ByteArray.mk (#[46, 46])).size : Nat) : Int) <= 9223372036854775807) /\
 ((((aB (ByteArray.mk (#[40])) 10 ++ (ByteArray.mk (#[46, 46]))).size : Nat) : Int) + (((aB (ByteArray.mk (#[41])) 10).size : Nat) : Int) <= 9223372036854775807) /\
 ((((SD.txt 18).data.toList == (aB (ByteArray.mk (#[40])) 10 ++ (ByteArray.mk (#[46, 46])) ++ aB (ByteArray.mk (#[41])) 10).data.toList) = true -> (SD.txt 18 = SD.txt 18) /\
 (SD.txt 18 = SD.txt 18) /\
 qt) /\ (((SD.txt 18).data.toList == (aB (ByteArray.mk (#[40])) 10 ++ (ByteArray.mk (#[46, 46])) ++ aB (ByteArray.mk (#[41])) 10).data.toList) = false -> (SD.txt 18 = SD.txt 18) /\
 (SD.txt 18 = SD.txt 18) /\
 ((SV.kb false : SV) = .kb true))))
set_option maxRecDepth 100000 in
theorem uo (n : Int) : (pq n) = (bM [] Gv.SD.xl (nU n) 3 [any n]).holds fun y => y.1 = .kb true := by
 kernel_rfl
set_option maxRecDepth 100000 in
theorem vQ (n : Int) (hm : aj n 20 = 17) : pq n := by
 unfold pq
 refine iP rfl _ ?_
 refine ⟨by decide +kernel, ?_⟩
 refine ⟨by decide +kernel, ?_⟩
 refine ⟨fun _ => ?_, fun h => absurd ((show ((SD.txt 18).data.toList == (aB (ByteArray.mk (#[40])) 10 ++ (ByteArray.mk (#[46, 46])) ++ aB (ByteArray.mk (#[41])) 10).data.toList) = true by kernel_rfl).symm.trans h) (by decide)⟩
 refine ⟨rfl, ?_⟩
 refine ⟨rfl, ?_⟩
 rfl
theorem AB (n : Int) (hm : aj n 20 = 17) : TOk (nU n) := (aK (aO (t48 n hm) aM) (aK (aO (t14 n) aM) aJ))
theorem AV (n : Int) (hm : aj n 20 = 17) : (bM [] Gv.SD.xl (nU n) 3 [any n]).holds fun y => y.1 = .kb true := by
 rw [← uo]
 exact vQ n hm
end Gv
set_option linter.unusedSimpArgs false
set_option linter.unusedVariables false
open Rx Go
namespace Gv
open Rd LShowDeep
noncomputable def og (n : Int) : TL := [(6, [(0, (e50 n))]), (28, [(29, (e14 n))])]
def nQ (n : Int) : Prop :=
 rp (en (n)) 1 (((((aB (ByteArray.mk (#[40])) 10).size : Nat) : Int) + (((ByteArray.mk (#[46, 46])).size : Nat) : Int) <= 9223372036854775807) /\
 ((((aB (ByteArray.mk (#[40])) 10 ++ (ByteArray.mk (#[46, 46]))).size : Nat) : Int) + (((aB (ByteArray.mk (#[41])) 10).size : Nat) : Int) <= 9223372036854775807) /\
 ((((SD.txt 19).data.toList == (aB (ByteArray.mk (#[40])) 10 ++ (ByteArray.mk (#[46, 46])) ++ aB (ByteArray.mk (#[41])) 10).data.toList) = true -> (SD.txt 19 = SD.txt 19) /\
 (SD.txt 19 = SD.txt 19) /\
 qt) /\ (((SD.txt 19).data.toList == (aB (ByteArray.mk (#[40])) 10 ++ (ByteArray.mk (#[46, 46])) ++ aB (ByteArray.mk (#[41])) 10).data.toList) = false -> (SD.txt 19 = SD.txt 19) /\
 (SD.txt 19 = SD.txt 19) /\
 ((SV.kb false : SV) = .kb true))))
set_option maxRecDepth 100000 in
theorem uH (n : Int) : (nQ n) = (bM [] Gv.SD.xl (og n) 3 [any n]).holds fun y => y.1 = .kb true := by
 kernel_rfl
set_option maxRecDepth 100000 in
theorem vP (n : Int) (hm : aj n 20 = 18) : nQ n := by
 unfold nQ
 refine iP rfl _ ?_
 refine ⟨by decide +kernel, ?_⟩
 refine ⟨by decide +kernel, ?_⟩
 refine ⟨fun _ => ?_, fun h => absurd ((show ((SD.txt 19).data.toList == (aB (ByteArray.mk (#[40])) 10 ++ (ByteArray.mk (#[46, 46])) ++ aB (ByteArray.mk (#[41])) 10).data.toList) = true by kernel_rfl).symm.trans h) (by decide)⟩
 refine ⟨rfl, ?_⟩
 refine ⟨rfl, ?_⟩
 rfl
theorem Ao (n : Int) (hm : aj n 20 = 18) : TOk (og n) := (aK (aO (t50 n hm) aM) (aK (aO (t14 n) aM) aJ))
theorem Ak (n : Int) (hm : aj n 20 = 18) : (bM [] Gv.SD.xl (og n) 3 [any n]).holds fun y => y.1 = .kb true := by
 rw [← uH]
 exact vP n hm
end Gv
set_option linter.unusedSimpArgs false
set_option linter.unusedVariables false
open Rx Go
namespace Gv
open Rd LShowDeep
noncomputable def nY (n : Int) : TL := [(6, [(0, (e52 n))]), (28, [(30, (e14 n))])]
def nV (n : Int) : Prop :=
 rp (en (n)) 1 (((((aB (ByteArray.mk (#[40])) 10).size : Nat) : Int) + (((ByteArray.mk (#[46, 46])).size : Nat) : Int) <= 9223372036854775807) /\
 ((((aB (ByteArray.mk (#[40])) 10 ++ (ByteArray.mk (#[46, 46]))).size : Nat) : Int) + (((aB (ByteArray.mk (#[41])) 10).size : Nat) : Int) <= 9223372036854775807) /\
 ((((SD.txt 20).data.toList == (aB (ByteArray.mk (#[40])) 10 ++ (ByteArray.mk (#[46, 46])) ++ aB (ByteArray.mk (#[41])) 10).data.toList) = true -> (SD.txt 20 = SD.txt 20) /\
 (SD.txt 20 = SD.txt 20) /\
 qt) /\ (((SD.txt 20).data.toList == (aB (ByteArray.mk (#[40])) 10 ++ (ByteArray.mk (#[46, 46])) ++ aB (ByteArray.mk (#[41])) 10).data.toList) = false -> (SD.txt 20 = SD.txt 20) /\
 (SD.txt 20 = SD.txt 20) /\
 ((SV.kb false : SV) = .kb true))))
set_option maxRecDepth 100000 in
theorem uz (n : Int) : (nV n) = (bM [] Gv.SD.xl (nY n) 3 [any n]).holds fun y => y.1 = .kb true := by
 kernel_rfl
set_option maxRecDepth 100000 in
theorem wh (n : Int) (hm : aj n 20 = 19) : nV n := by
 unfold nV
 refine iP rfl _ ?_
 refine ⟨by decide +kernel, ?_⟩
 refine ⟨by decide +kernel, ?_⟩
 refine ⟨fun _ => ?_, fun h => absurd ((show ((SD.txt 20).data.toList == (aB (ByteArray.mk (#[40])) 10 ++ (ByteArray.mk (#[46, 46])) ++ aB (ByteArray.mk (#[41])) 10).data.toList) = true by kernel_rfl).symm.trans h) (by decide)⟩
 refine ⟨rfl, ?_⟩
 refine ⟨rfl, ?_⟩
 rfl
theorem Ar (n : Int) (hm : aj n 20 = 19) : TOk (nY n) := (aK (aO (t52 n hm) aM) (aK (aO (t14 n) aM) aJ))
theorem Aw (n : Int) (hm : aj n 20 = 19) : (bM [] Gv.SD.xl (nY n) 3 [any n]).holds fun y => y.1 = .kb true := by
 rw [← uz]
 exact wh n hm
end Gv
set_option linter.unusedSimpArgs false
set_option linter.unusedVariables false
open Rx Go
namespace Gv
open Rd LShowDeep
set_option maxRecDepth 100000 in
theorem Ef (n : Int) {w : World} {vs : List Value} (hgl : Pers C0.W w Glob.ok) (hr : relL C0 w [any n] vs) : Calls prog 3 vs.toArray w fun e w' => e = .returned (.bool true) /\ Same w w' := by
 obtain ⟨b0, b1⟩ := Fv n (m := 20) (by decide)
 rcases (by omega : aj n 20 = 0 ∨ aj n 20 = 1 ∨ aj n 20 = 2 ∨ aj n 20 = 3 ∨ aj n 20 = 4 ∨ aj n 20 = 5 ∨ aj n 20 = 6 ∨ aj n 20 = 7 ∨ aj n 20 = 8 ∨ aj n 20 = 9 ∨ aj n 20 = 10 ∨ aj n 20 = 11 ∨ aj n 20 = 12 ∨ aj n 20 = 13 ∨ aj n 20 = 14 ∨ aj n 20 = 15 ∨ aj n 20 = 16 ∨ aj n 20 = 17 ∨ aj n 20 = 18 ∨ aj n 20 = 19) with hm | hm | hm | hm | hm | hm | hm | hm | hm | hm | hm | hm | hm | hm | hm | hm | hm | hm | hm | hm
 · exact bJ Gv.SD.mok (EW n hm) hgl hr (CQ n hm)
 · exact bJ Gv.SD.mok (Dn n hm) hgl hr (Cb n hm)
 · exact bJ Gv.SD.mok (ET n hm) hgl hr (Ew n hm)
 · exact bJ Gv.SD.mok (CX n hm) hgl hr (Dr n hm)
 · exact bJ Gv.SD.mok (E8 n hm) hgl hr (Da n hm)
 · exact bJ Gv.SD.mok (Et n hm) hgl hr (Ee n hm)
 · exact bJ Gv.SD.mok (Dc n hm) hgl hr (EL n hm)
 · exact bJ Gv.SD.mok (Es n hm) hgl hr (Dp n hm)
 · exact bJ Gv.SD.mok (DT n hm) hgl hr (Ei n hm)
 · exact bJ Gv.SD.mok (EA n hm) hgl hr (CK n hm)
 · exact bJ Gv.SD.mok (Am n hm) hgl hr (AJ n hm)
 · exact bJ Gv.SD.mok (AQ n hm) hgl hr (Ah n hm)
 · exact bJ Gv.SD.mok (AU n hm) hgl hr (AX n hm)
 · exact bJ Gv.SD.mok (Aq n hm) hgl hr (A9 n hm)
 · exact bJ Gv.SD.mok (Au n hm) hgl hr (Ay n hm)
 · exact bJ Gv.SD.mok (AY n hm) hgl hr (AZ n hm)
 · exact bJ Gv.SD.mok (AP n hm) hgl hr (Az n hm)
 · exact bJ Gv.SD.mok (AB n hm) hgl hr (AV n hm)
 · exact bJ Gv.SD.mok (Ao n hm) hgl hr (Ak n hm)
 · exact bJ Gv.SD.mok (Ar n hm) hgl hr (Aw n hm)
end Gv
