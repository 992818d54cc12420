/- Told parts of Mutual. Printed by gvgen.py. -/
import Derived.Test.YtcmnmceodhambaaGreatDoorGvKMutual
import Derived.Test.YtcmnmceodhambaaGreatDoorGvPMutual0
set_option linter.unusedSimpArgs false
set_option linter.unusedVariables false
set_option maxRecDepth 100000
open Rx Go
namespace Gv.LMutual
open Gv Rd
theorem t21 (n : Int) : bW prog 22 (e21 n) := dK [] (tk (f := 30) (tc 7 (t20 n) aD) aJ) (by kernel_rfl) (by kernel_rfl) (q := qt)
 rfl
 (by kernel_rfl)
theorem t22 (n : Int) : bW prog 66 (e22 n) := dK [] (tk (f := 60) (tc 40 (t7 n) (tc 73 (t7 n) aD)) (tk (f := 127) (tc 40 (t0 n) (tc 73 (t0 n) aD)) aJ)) (by kernel_rfl) (by kernel_rfl) (q := qt)
 rfl
 (by kernel_rfl)
theorem t23 (n : Int) : bW prog 66 (e23 n) := dK [] (tk (f := 60) (tc 43 (t7 n) (tc 113 (t7 n) (tc 139 (t7 n) (tc 173 (t7 n) (tc 193 (t7 n) (tc 237 (t7 n) aD)))))) (tk (f := 127) (tc 43 (t0 n) (tc 113 (t0 n) (tc 139 (t0 n) (tc 173 (t0 n) (tc 193 (t0 n) (tc 237 (t0 n) aD)))))) aJ)) (by kernel_rfl) (by kernel_rfl) (q := qt)
 rfl
 (by kernel_rfl)
theorem t24 (n : Int) : bW prog 66 (e24 n) := dK [] (tk (f := 60) (tc 43 (t7 n) (tc 112 (t7 n) (tc 138 (t7 n) (tc 172 (t7 n) (tc 192 (t7 n) (tc 235 (t7 n) aD)))))) (tk (f := 127) (tc 43 (t0 n) (tc 112 (t0 n) (tc 138 (t0 n) (tc 172 (t0 n) (tc 192 (t0 n) (tc 235 (t0 n) aD)))))) aJ)) (by kernel_rfl) (by kernel_rfl) (q := qt)
 rfl
 (by kernel_rfl)
theorem t25 (n : Int) : bW prog 30 (e25 n) := dK [] (tk (f := 60) (tc 6 (t16 n) (tc 18 (t16 n) (tc 23 (t16 n) aD))) (tk (f := 45) (tc 13 (t6 n) aD) (tk (f := 66) (tc 14 (t23 n) (tc 15 (t24 n) aD)) (tk (f := 127) (tc 18 (t15 n) (tc 23 (t15 n) aD)) aJ)))) (by kernel_rfl) (by kernel_rfl) (q := qt)
 rfl
 (by kernel_rfl)
theorem t26 (n : Int) : bW prog 82 (e26 n) := dK [] (tk (f := 30) (tc 8 (t25 n) aD) (tk (f := 60) (tc 10 (t16 n) (tc 19 (t16 n) aD)) (tk (f := 127) (tc 10 (t15 n) (tc 19 (t15 n) aD)) aJ))) (by kernel_rfl) (by kernel_rfl) (q := ((fun n => n + s9.size <= 100000) 0) /\
 (Es ((fun n => n + s9.size) 0) ((fun n f => d9 n f (xW s9)) 0 row0)) /\
 (s9 = (ByteArray.mk ((mD ((fun n => n + s9.size) 0) ((fun n f => d9 n f (xW s9)) 0 row0)).toArray))) /\
 qt)
 (by
 obtain ⟨h0, h1, h2, h3, h4⟩ := fx n
 refine ⟨by simp only [ByteArray.size_append, vN, List.size_toArray, List.length_cons, List.length_nil, List.append_eq, List.length_append, U7]; omega, ?_⟩
 refine ⟨Dp (EU yA s9) (by simp only [ByteArray.size_append, vN, List.size_toArray, List.length_cons, List.length_nil, List.append_eq, List.length_append, U7]; omega) (by simp only [ByteArray.size_append, vN, List.size_toArray, List.length_cons, List.length_nil, List.append_eq, List.length_append, U7]; omega), ?_⟩
 refine ⟨Pp (EU yA s9) (by (simp only [wF, vP, List.append_assoc, List.nil_append, V4]) <;> kernel_rfl), ?_⟩
 rfl
 )
  (by kernel_rfl)
theorem t27 (n : Int) (hm : bn n % 2 = 0) : bW prog 40 (e27 n) := Ey [] (yR (KMutual.V6 n hm)) (tk (f := 22) (tc 9 (t21 n) aD) (tk (f := 30) (tc 85 (t20 n) aD) (tk (f := 66) (tc 227 (t22 n) aD) (tk (f := 82) (tc 131154 (t26 n) aD) aJ)))) (by kernel_rfl) (by kernel_rfl) (q := rp (en (bn n)) 2 ((s9 = s9) /\
 qt))
 (by
 obtain ⟨h0, h1, h2, h3, h4⟩ := fx n
 refine jc rfl _ ?_
 refine ⟨rfl, ?_⟩
 rfl
 )
  (by kernel_rfl)
theorem t28 (n : Int) : bW prog 66 (e28 n) := dK [] (tk (f := 60) (tc 41 (t7 n) (tc 75 (t7 n) aD)) (tk (f := 127) (tc 41 (t0 n) (tc 75 (t0 n) aD)) aJ)) (by kernel_rfl) (by kernel_rfl) (q := qt)
 rfl
 (by kernel_rfl)
theorem t29 (n : Int) : bW prog 82 (e29 n) := dK [] (tk (f := 30) (tc 8 (t25 n) aD) (tk (f := 60) (tc 10 (t16 n) (tc 19 (t16 n) aD)) (tk (f := 127) (tc 10 (t15 n) (tc 19 (t15 n) aD)) aJ))) (by kernel_rfl) (by kernel_rfl) (q := ((fun n => n + s10.size <= 100000) 0) /\
 (Es ((fun n => n + s10.size) 0) ((fun n f => d9 n f (xW s10)) 0 row0)) /\
 (s10 = (ByteArray.mk ((mD ((fun n => n + s10.size) 0) ((fun n f => d9 n f (xW s10)) 0 row0)).toArray))) /\
 qt)
 (by
 obtain ⟨h0, h1, h2, h3, h4⟩ := fx n
 refine ⟨by simp only [ByteArray.size_append, vN, List.size_toArray, List.length_cons, List.length_nil, List.append_eq, List.length_append, QY]; omega, ?_⟩
 refine ⟨Dp (EU yA s10) (by simp only [ByteArray.size_append, vN, List.size_toArray, List.length_cons, List.length_nil, List.append_eq, List.length_append, QY]; omega) (by simp only [ByteArray.size_append, vN, List.size_toArray, List.length_cons, List.length_nil, List.append_eq, List.length_append, QY]; omega), ?_⟩
 refine ⟨Pp (EU yA s10) (by (simp only [wF, vP, List.append_assoc, List.nil_append, Rq]) <;> kernel_rfl), ?_⟩
 rfl
 )
  (by kernel_rfl)
end Gv.LMutual
set_option linter.unusedSimpArgs false
set_option linter.unusedVariables false
set_option maxRecDepth 100000
open Rx Go
namespace Gv.LMutual
open Gv Rd
theorem t30 (n : Int) (hm : bn n % 2 = 0) : bW prog 40 (e30 n) := Ey [] (yR (KMutual.Vr n hm)) (tk (f := 22) (tc 9 (t21 n) aD) (tk (f := 30) (tc 85 (t20 n) aD) (tk (f := 66) (tc 227 (t28 n) aD) (tk (f := 82) (tc 131154 (t29 n) aD) aJ)))) (by kernel_rfl) (by kernel_rfl) (q := rp (en (bn n)) 2 ((s10 = s10) /\
 qt))
 (by
 obtain ⟨h0, h1, h2, h3, h4⟩ := fx n
 refine jc rfl _ ?_
 refine ⟨rfl, ?_⟩
 rfl
 )
  (by kernel_rfl)
theorem t32 (n : Int) (hm : bn n % 2 = 1) : bW prog 40 (e32 n) := Ey [] (yR (KMutual.UQ n hm)) (tk (f := 22) (tc 9 (t21 n) aD) (tk (f := 30) (tc 85 (t20 n) aD) (tk (f := 66) (tc 227 (t22 n) aD) (tk (f := 82) (tc 131154 (t29 n) aD) aJ)))) (by kernel_rfl) (by kernel_rfl) (q := rp (en (bn n)) 2 ((s10 = s10) /\
 qt))
 (by
 obtain ⟨h0, h1, h2, h3, h4⟩ := fx n
 refine jc rfl _ ?_
 refine ⟨rfl, ?_⟩
 rfl
 )
  (by kernel_rfl)
theorem t33 (n : Int) (hm : bn n % 2 = 1) : bW prog 40 (e33 n) := Ey [] (yR (KMutual.Vx n hm)) (tk (f := 22) (tc 9 (t21 n) aD) (tk (f := 30) (tc 85 (t20 n) aD) (tk (f := 66) (tc 227 (t28 n) aD) (tk (f := 82) (tc 131154 (t26 n) aD) aJ)))) (by kernel_rfl) (by kernel_rfl) (q := rp (en (bn n)) 2 ((s9 = s9) /\
 qt))
 (by
 obtain ⟨h0, h1, h2, h3, h4⟩ := fx n
 refine jc rfl _ ?_
 refine ⟨rfl, ?_⟩
 rfl
 )
  (by kernel_rfl)
end Gv.LMutual
set_option linter.unusedSimpArgs false
set_option linter.unusedVariables false
open Rx Go
namespace Gv
open Rd LMutual
noncomputable def BG (n : Int) : TL := [(39, [(12, (e19 n))]), (40, [(21, (e27 n)), (30, (e30 n))])]
def BN (n : Int) : Prop :=
 rp (en (bn n)) 2 (((((bn n).tmod 2 == 0) = true -> (((s9.data.toList == s9.data.toList) = true -> ((((bn n).tmod 2 == 1) = true -> (((s10.data.toList == s9.data.toList) = true -> qt) /\ ((s10.data.toList == s9.data.toList) = false -> ((SV.kb false : SV) = .kb true)))) /\ (((bn n).tmod 2 == 1) = false -> (((s10.data.toList == s10.data.toList) = true -> qt) /\ ((s10.data.toList == s10.data.toList) = false -> ((SV.kb false : SV) = .kb true)))))) /\ ((s9.data.toList == s9.data.toList) = false -> ((SV.kb false : SV) = .kb true)))) /\ (((bn n).tmod 2 == 0) = false -> (((s9.data.toList == s10.data.toList) = true -> ((((bn n).tmod 2 == 1) = true -> (((s10.data.toList == s9.data.toList) = true -> qt) /\ ((s10.data.toList == s9.data.toList) = false -> ((SV.kb false : SV) = .kb true)))) /\ (((bn n).tmod 2 == 1) = false -> (((s10.data.toList == s10.data.toList) = true -> qt) /\ ((s10.data.toList == s10.data.toList) = false -> ((SV.kb false : SV) = .kb true)))))) /\ ((s9.data.toList == s10.data.toList) = false -> ((SV.kb false : SV) = .kb true))))))
set_option maxRecDepth 100000 in
theorem AY (n : Int) : (BN n) = (G9 [] (BG n) 14 [any n]).holds fun y => y.1 = .kb true := by
 kernel_rfl
set_option maxRecDepth 100000 in
theorem Cu (n : Int) (hm : bn n % 2 = 0) : BN n := by
 obtain ⟨h0, h1, h2, h3, h4⟩ := fx n
 unfold BN
 refine jc rfl _ ?_
 refine ⟨fun hc => ?_, fun hc => ?_⟩
 · refine ⟨fun _ => ?_, fun h => absurd ((show (s9.data.toList == s9.data.toList) = true by first | exact beq_self_eq_true _ | (rw [beq_iff_eq]; simp only [wF, vP, List.append_assoc, List.nil_append, V4]; try kernel_rfl)).symm.trans h) (by decide)⟩
   refine ⟨fun hc => ?_, fun hc => ?_⟩
   · exfalso
     simp only [beq_iff_eq, beq_eq_false_iff_ne, ne_eq] at hc
     omega
   · refine ⟨fun _ => ?_, fun h => absurd ((show (s10.data.toList == s10.data.toList) = true by first | exact beq_self_eq_true _ | (rw [beq_iff_eq]; simp only [wF, vP, List.append_assoc, List.nil_append, Rq]; try kernel_rfl)).symm.trans h) (by decide)⟩
     rfl
 · exfalso
   simp only [beq_iff_eq, beq_eq_false_iff_ne, ne_eq] at hc
   omega
theorem Ic (n : Int) (hm : bn n % 2 = 0) : TOk (BG n) := (oI (nR (t19 n) aD) (oI (nR (t27 n hm) (nR (t30 n hm) aD)) aJ))
theorem JD (n : Int) (hm : bn n % 2 = 0) : (G9 [] (BG n) 14 [any n]).holds fun y => y.1 = .kb true := by
 rw [← AY]
 exact Cu n hm
noncomputable def zk (n : Int) : TL := [(39, [(12, (e19 n))]), (40, [(21, (e32 n)), (30, (e33 n))])]
def Br (n : Int) : Prop :=
 rp (en (bn n)) 2 (((((bn n).tmod 2 == 0) = true -> (((s10.data.toList == s9.data.toList) = true -> ((((bn n).tmod 2 == 1) = true -> (((s9.data.toList == s9.data.toList) = true -> qt) /\ ((s9.data.toList == s9.data.toList) = false -> ((SV.kb false : SV) = .kb true)))) /\ (((bn n).tmod 2 == 1) = false -> (((s9.data.toList == s10.data.toList) = true -> qt) /\ ((s9.data.toList == s10.data.toList) = false -> ((SV.kb false : SV) = .kb true)))))) /\ ((s10.data.toList == s9.data.toList) = false -> ((SV.kb false : SV) = .kb true)))) /\ (((bn n).tmod 2 == 0) = false -> (((s10.data.toList == s10.data.toList) = true -> ((((bn n).tmod 2 == 1) = true -> (((s9.data.toList == s9.data.toList) = true -> qt) /\ ((s9.data.toList == s9.data.toList) = false -> ((SV.kb false : SV) = .kb true)))) /\ (((bn n).tmod 2 == 1) = false -> (((s9.data.toList == s10.data.toList) = true -> qt) /\ ((s9.data.toList == s10.data.toList) = false -> ((SV.kb false : SV) = .kb true)))))) /\ ((s10.data.toList == s10.data.toList) = false -> ((SV.kb false : SV) = .kb true))))))
set_option maxRecDepth 100000 in
theorem zO (n : Int) : (Br n) = (G9 [] (zk n) 14 [any n]).holds fun y => y.1 = .kb true := by
 kernel_rfl
set_option maxRecDepth 100000 in
theorem BZ (n : Int) (hm : bn n % 2 = 1) : Br n := by
 obtain ⟨h0, h1, h2, h3, h4⟩ := fx n
 unfold Br
 refine jc rfl _ ?_
 refine ⟨fun hc => ?_, fun hc => ?_⟩
 · exfalso
   simp only [beq_iff_eq, beq_eq_false_iff_ne, ne_eq] at hc
   omega
 · refine ⟨fun _ => ?_, fun h => absurd ((show (s10.data.toList == s10.data.toList) = true by first | exact beq_self_eq_true _ | (rw [beq_iff_eq]; simp only [wF, vP, List.append_assoc, List.nil_append, Rq]; try kernel_rfl)).symm.trans h) (by decide)⟩
   refine ⟨fun hc => ?_, fun hc => ?_⟩
   · refine ⟨fun _ => ?_, fun h => absurd ((show (s9.data.toList == s9.data.toList) = true by first | exact beq_self_eq_true _ | (rw [beq_iff_eq]; simp only [wF, vP, List.append_assoc, List.nil_append, V4]; try kernel_rfl)).symm.trans h) (by decide)⟩
     rfl
   · exfalso
     simp only [beq_iff_eq, beq_eq_false_iff_ne, ne_eq] at hc
     omega
theorem IE (n : Int) (hm : bn n % 2 = 1) : TOk (zk n) := (oI (nR (t19 n) aD) (oI (nR (t32 n hm) (nR (t33 n hm) aD)) aJ))
theorem GZ (n : Int) (hm : bn n % 2 = 1) : (G9 [] (zk n) 14 [any n]).holds fun y => y.1 = .kb true := by
 rw [← zO]
 exact BZ n hm
set_option maxRecDepth 100000 in
theorem FY (n : Int) {w : World} {vs : List Value} (hgl : Pers C0.W w Glob.ok) (hr : relL C0 w [any n] vs) : Calls prog 14 vs.toArray w fun e w' => e = .returned (.bool true) /\ Same w w' := by
 rcases (by omega : (bn n % 2 = 0) ∨ (bn n % 2 = 1)) with hm | hm
 · exact I6 (Ic n hm) hgl hr (JD n hm)
 · exact I6 (IE n hm) hgl hr (GZ n hm)
end Gv
