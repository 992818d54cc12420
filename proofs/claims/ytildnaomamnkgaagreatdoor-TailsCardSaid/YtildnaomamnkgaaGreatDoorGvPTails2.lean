/- Told parts of Tails. Printed by gvgen.py. -/
import Derived.Test.YtildnaomamnkgaaGreatDoorGvUTails
import Derived.Test.YtildnaomamnkgaaGreatDoorGvPTails0
set_option linter.unusedSimpArgs false
set_option linter.unusedVariables false
set_option maxRecDepth 100000
open Rx Go
namespace Gv.LTails
open Gv Rd
theorem t23 (n : Int) : bS prog 65 (e23 n) := bZ [] (tk (f := 72) (tc 43 (t7 n) (tc 79 (t7 n) (tc 134 (t7 n) (tc 172 (t7 n) (tc 206 (t7 n) (tc 226 (t7 n) (tc 246 (t7 n) (tc 285 (t7 n) aA)))))))) (tk (f := 73) (tc 43 (t0 n) (tc 79 (t0 n) (tc 134 (t0 n) (tc 172 (t0 n) (tc 206 (t0 n) (tc 226 (t0 n) (tc 246 (t0 n) (tc 285 (t0 n) aA)))))))) aI)) (by kernel_rfl) (by kernel_rfl) (q := qt)
 rfl
 (by kernel_rfl)
theorem t24 (n : Int) : bS prog 44 (e24 n) := bZ [] (tk (f := 72) (tc 4 (t1 n) (tc 12 (t1 n) aA)) (tk (f := 46) (tc 8 (t6 n) aA) (tk (f := 65) (tc 9 (t23 n) aA) (tk (f := 73) (tc 12 (t0 n) aA) aI)))) (by kernel_rfl) (by kernel_rfl) (q := qt)
 rfl
 (by kernel_rfl)
theorem t25 (n : Int) : bS prog 56 (e25 n) := bZ [] (tk (f := 44) (tc 8 (t24 n) aA) (tk (f := 72) (tc 8340 (t1 n) (tc 8408 (t11 n) aA)) aI)) (by kernel_rfl) (by kernel_rfl) (q := qt)
 rfl
 (by kernel_rfl)
theorem t26 (n : Int) : bS prog 28 (e26 n) := bZ [] (tk (f := 44) (tc 11 (t3 n) (tc 454 (t24 n) aA)) (tk (f := 56) (tc 458 (t25 n) aA) aI)) (by kernel_rfl) (by kernel_rfl) (q := qt)
 rfl
 (by kernel_rfl)
theorem t27 (n : Int) : bS prog 18 (e27 n) := bZ [(2, [(ls [(sy s1), (ls [(sy s2), (sy s3)]), (ls [(sy s4), (ls [(sy s5), (sy s3), (num 0)]), (num 0), (ls [(sy s9), (num 1), (ls [(sy s2), (ls [(sy s8), (sy s3), (num 1)])])])])])])] (tk (f := 26) (tc 2 (t4 n) aA) (tk (f := 27) (tc 3 (t22 n) aA) (tk (f := 28) (tc 12 (t26 n) aA) aI))) (by kernel_rfl) (by kernel_rfl) (q := (s11.size <= 3000 /\ rT 400 s11 = some (RR.mk (rO ([ls [sy (ByteArray.mk (#[100, 101, 102, 105, 110, 101])), ls [sy (ByteArray.mk (#[102])), sy (ByteArray.mk (#[110]))], ls [sy (ByteArray.mk (#[105, 102])), ls [sy (ByteArray.mk (#[61])), sy (ByteArray.mk (#[110])), num 0], num 0, ls [sy (ByteArray.mk (#[43])), num 1, ls [sy (ByteArray.mk (#[102])), ls [sy (ByteArray.mk (#[45])), sy (ByteArray.mk (#[110])), num 1]]]]]])) 0 0) /\ qH ([ls [sy (ByteArray.mk (#[100, 101, 102, 105, 110, 101])), ls [sy (ByteArray.mk (#[102])), sy (ByteArray.mk (#[110]))], ls [sy (ByteArray.mk (#[105, 102])), ls [sy (ByteArray.mk (#[61])), sy (ByteArray.mk (#[110])), num 0], num 0, ls [sy (ByteArray.mk (#[43])), num 1, ls [sy (ByteArray.mk (#[102])), ls [sy (ByteArray.mk (#[45])), sy (ByteArray.mk (#[110])), num 1]]]]]])) /\
 rp (((dxL [(ls [(sy s1), (ls [(sy s2), (sy s3)]), (ls [(sy s4), (ls [(sy s5), (sy s3), (num 0)]), (num 0), (ls [(sy s9), (num 1), (ls [(sy s2), (ls [(sy s8), (sy s3), (num 1)])])])])])]) : Nat -> Nat -> Dt) = (dxL [(ls [(sy s1), (ls [(sy s2), (sy s3)]), (ls [(sy s4), (ls [(sy s5), (sy s3), (num 0)]), (num 0), (ls [(sy s9), (num 1), (ls [(sy s2), (ls [(sy s8), (sy s3), (num 1)])])])])])])) 1 (rp (((dxL []) : Nat -> Nat -> Dt) = (dxL [])) 4 (qt)))
 (by
 obtain ⟨h0, h1, h2, h3⟩ := fx n
 refine ⟨⟨by decide, by kernel_rfl, by simp [qH, Dx.fits, ls, sy, num, nu]⟩, ?_⟩
 iterate 2 refine dV rfl _ ?_
 rfl
 )
  (by kernel_rfl)
theorem t28 (n : Int) : bS prog 44 (e28 n) := bZ [] (tk (f := 72) (tc 5 (t11 n) (tc 13 (t11 n) aA)) (tk (f := 46) (tc 9 (t6 n) aA) (tk (f := 65) (tc 10 (t23 n) aA) (tk (f := 73) (tc 13 (t10 n) aA) aI)))) (by kernel_rfl) (by kernel_rfl) (q := qt)
 rfl
 (by kernel_rfl)
theorem t29 (n : Int) : bS prog 26 (e29 n) := bZ [] (tk (f := 44) (tc 6 (t28 n) aA) aI) (by kernel_rfl) (by kernel_rfl) (q := qt)
 rfl
 (by kernel_rfl)
end Gv.LTails
set_option linter.unusedSimpArgs false
set_option linter.unusedVariables false
set_option maxRecDepth 100000
open Rx Go
namespace Gv.LTails
open Gv Rd
theorem t30 (n : Int) : bS prog 65 (e30 n) := bZ [] (tk (f := 72) (tc 43 (t7 n) (tc 79 (t7 n) (tc 134 (t7 n) (tc 172 (t7 n) (tc 206 (t7 n) (tc 226 (t7 n) (tc 246 (t7 n) (tc 285 (t7 n) aA)))))))) (tk (f := 73) (tc 43 (t0 n) (tc 79 (t0 n) (tc 134 (t0 n) (tc 172 (t0 n) (tc 206 (t0 n) (tc 226 (t0 n) (tc 246 (t0 n) (tc 285 (t0 n) aA)))))))) aI)) (by kernel_rfl) (by kernel_rfl) (q := qt)
 rfl
 (by kernel_rfl)
theorem t31 (n : Int) : bS prog 44 (e31 n) := bZ [] (tk (f := 72) (tc 5 (t11 n) (tc 13 (t11 n) aA)) (tk (f := 46) (tc 9 (t6 n) aA) (tk (f := 65) (tc 10 (t30 n) aA) (tk (f := 73) (tc 13 (t10 n) aA) aI)))) (by kernel_rfl) (by kernel_rfl) (q := qt)
 rfl
 (by kernel_rfl)
theorem t32 (n : Int) : bS prog 33 (e32 n) := bZ [] (tk (f := 44) (tc 7 (t31 n) aA) (tk (f := 72) (tc 9 (t11 n) (tc 18 (t11 n) aA)) (tk (f := 73) (tc 9 (t10 n) (tc 18 (t10 n) aA)) aI))) (by kernel_rfl) (by kernel_rfl) (q := ((fun n_1 => n_1 + (bG (aR n)).size <= 100000) 0) /\
 (GI ((fun n_1 => n_1 + (bG (aR n)).size) 0) ((fun n_1 f => dZ n_1 f (x9 (bG (aR n)))) 0 row0)) /\
 (bG (aR n) = (ByteArray.mk ((mG ((fun n_1 => n_1 + (bG (aR n)).size) 0) ((fun n_1 f => dZ n_1 f (x9 (bG (aR n)))) 0 row0)).toArray))) /\
 qt)
 (by
 obtain ⟨h0, h1, h2, h3⟩ := fx n
 refine ⟨by simp only [ByteArray.size_append, iA, List.size_toArray, List.length_cons, List.length_nil, List.append_eq, List.length_append]; omega, ?_⟩
 refine ⟨C9 (Fh yu (bG (aR n))) (by simp only [ByteArray.size_append, iA, List.size_toArray, List.length_cons, List.length_nil, List.append_eq, List.length_append]; omega) (by simp only [ByteArray.size_append, iA, List.size_toArray, List.length_cons, List.length_nil, List.append_eq, List.length_append]; omega), ?_⟩
 refine ⟨O1 (Fh yu (bG (aR n))) (by (simp only [Bc, zP, List.append_assoc, List.nil_append]) <;> kernel_rfl), ?_⟩
 rfl
 )
  (by kernel_rfl)
theorem t33 (n : Int) (hm : aR n < 100) : bS prog 19 (e33 n) := Gr [] (yK (KTails2.TA n hm)) (tk (f := 26) (tc 8 (t29 n) aA) (tk (f := 44) (tc 84 (t28 n) aA) (tk (f := 65) (tc 221 (t17 n) aA) (tk (f := 33) (tc 131153 (t32 n) aA) aI)))) (by kernel_rfl) (by kernel_rfl) (q := rp (en (aR n)) 4 ((bG (aR n) = bG (aR n)) /\
 qt))
 (by
 obtain ⟨h0, h1, h2, h3⟩ := fx n
 refine dV rfl _ ?_
 refine ⟨rfl, ?_⟩
 rfl
 )
  (by kernel_rfl)
theorem t35 (n : Int) (hm : 100 <= aR n) : bS prog 19 (e35 n) := Gr [] (yK (KTails.TA n)) (tk (f := 26) (tc 8 (t16 n) aA) (tk (f := 44) (tc 84 (t15 n) aA) (tk (f := 65) (tc 221 (t17 n) aA) (tk (f := 33) (tc 131153 (t20 n) aA) aI)))) (by kernel_rfl) (by kernel_rfl) (q := rp (en (aR n)) 1 (((20000 : Int) = (20000 : Int) /\ (0 : Int) <= (20000 : Int) /\ (20000 : Int) <= (20000 : Int)) /\
 rp (en (aR n)) 1 ((s7 = s7) /\
 qt)))
 (by
 obtain ⟨h0, h1, h2, h3⟩ := fx n
 refine dV rfl _ ?_
 refine ⟨by omega, ?_⟩
 refine dV rfl _ ?_
 refine ⟨rfl, ?_⟩
 rfl
 )
  (by kernel_rfl)
theorem t36 (n : Int) (hm : 100 <= aR n) : bS prog 19 (e36 n) := Gr [] (yK (KTails2.abZ n hm)) (tk (f := 26) (tc 8 (t29 n) aA) (tk (f := 44) (tc 84 (t28 n) aA) (tk (f := 65) (tc 221 (t17 n) aA) aI))) (by kernel_rfl) (by kernel_rfl) (q := rp (en (aR n)) 2 (qt))
 (dV rfl _ rfl)
 (by kernel_rfl)
end Gv.LTails
set_option linter.unusedSimpArgs false
set_option linter.unusedVariables false
open Rx Go
namespace Gv
open Rd LTails
noncomputable def G6 (n : Int) : TL := [(18, [(8, (e14 n)), (33, (e27 n))]), (19, [(16, (e21 n)), (41, (e33 n))])]
def E5 (n : Int) : Prop :=
 ((((ByteArray.mk (#[40, 100, 101, 102, 105, 110, 101, 32, 40, 102, 32, 110, 41, 32])).size : Nat) : Int) + (((ByteArray.mk (#[40, 105, 102, 32, 40, 61, 32, 110, 32, 48, 41, 32, 39, 100, 111, 110, 101, 32, 40, 102, 32, 40, 45, 32, 110, 32, 49, 41, 41, 41])).size : Nat) : Int) <= 9223372036854775807) /\
 (((((ByteArray.mk (#[40, 100, 101, 102, 105, 110, 101, 32, 40, 102, 32, 110, 41, 32])) ++ (ByteArray.mk (#[40, 105, 102, 32, 40, 61, 32, 110, 32, 48, 41, 32, 39, 100, 111, 110, 101, 32, 40, 102, 32, 40, 45, 32, 110, 32, 49, 41, 41, 41]))).size : Nat) : Int) + (((ByteArray.mk (#[41])).size : Nat) : Int) <= 9223372036854775807) /\
 rp (en (aR n)) 1 (((((ByteArray.mk (#[40, 100, 101, 102, 105, 110, 101, 32, 40, 102, 32, 110, 41, 32])).size : Nat) : Int) + (((ByteArray.mk (#[40, 105, 102, 32, 40, 61, 32, 110, 32, 48, 41, 32, 48, 32, 40, 43, 32, 49, 32, 40, 102, 32, 40, 45, 32, 110, 32, 49, 41, 41, 41, 41])).size : Nat) : Int) <= 9223372036854775807) /\
 (((((ByteArray.mk (#[40, 100, 101, 102, 105, 110, 101, 32, 40, 102, 32, 110, 41, 32])) ++ (ByteArray.mk (#[40, 105, 102, 32, 40, 61, 32, 110, 32, 48, 41, 32, 48, 32, 40, 43, 32, 49, 32, 40, 102, 32, 40, 45, 32, 110, 32, 49, 41, 41, 41, 41]))).size : Nat) : Int) + (((ByteArray.mk (#[41])).size : Nat) : Int) <= 9223372036854775807) /\
 rp (en (aR n)) 1 ((((s7.data.toList == (ByteArray.mk (#[100, 111, 110, 101])).data.toList) = true -> (((decide (aR n < 100)) = true -> ((((bG (aR n)).data.toList == (bG (aR n)).data.toList) = true -> (bG (aR n) = bG (aR n)) /\
 qt) /\ (((bG (aR n)).data.toList == (bG (aR n)).data.toList) = false -> (bG (aR n) = bG (aR n)) /\
 ((SV.kb false : SV) = .kb true)))) /\ ((decide (aR n < 100)) = false -> ((SV.kb false : SV) = .kb true)))) /\ ((s7.data.toList == (ByteArray.mk (#[100, 111, 110, 101])).data.toList) = false -> ((SV.kb false : SV) = .kb true)))))
set_option maxRecDepth 100000 in
theorem Cr (n : Int) : (E5 n) = (JB [] (G6 n) 5 [any n]).holds fun y => y.1 = .kb true := by
 kernel_rfl
set_option maxRecDepth 100000 in
theorem FU (n : Int) (hm : aR n < 100) : E5 n := by
 obtain ⟨h0, h1, h2, h3⟩ := fx n
 unfold E5
 refine ⟨by simp only [ByteArray.size_append, iA, List.size_toArray, List.length_cons, List.length_nil, List.append_eq, List.length_append]; omega, ?_⟩
 refine ⟨by simp only [ByteArray.size_append, iA, List.size_toArray, List.length_cons, List.length_nil, List.append_eq, List.length_append]; omega, ?_⟩
 refine dV rfl _ ?_
 refine ⟨by simp only [ByteArray.size_append, iA, List.size_toArray, List.length_cons, List.length_nil, List.append_eq, List.length_append]; omega, ?_⟩
 refine ⟨by simp only [ByteArray.size_append, iA, List.size_toArray, List.length_cons, List.length_nil, List.append_eq, List.length_append]; omega, ?_⟩
 refine dV rfl _ ?_
 refine ⟨fun _ => ?_, fun h => absurd ((show (s7.data.toList == (ByteArray.mk (#[100, 111, 110, 101])).data.toList) = true by first | exact beq_self_eq_true _ | (rw [beq_iff_eq]; simp only [Bc, zP, List.append_assoc, List.nil_append, Wm]; try kernel_rfl)).symm.trans h) (by decide)⟩
 refine ⟨fun hc => ?_, fun hc => ?_⟩
 · refine ⟨fun _ => ?_, fun h => absurd ((show ((bG (aR n)).data.toList == (bG (aR n)).data.toList) = true by first | exact beq_self_eq_true _ | (rw [beq_iff_eq]; simp only [Bc, zP, List.append_assoc, List.nil_append]; try kernel_rfl)).symm.trans h) (by decide)⟩
   refine ⟨rfl, ?_⟩
   rfl
 · exfalso
   simp only [decide_eq_true_eq, decide_eq_false_iff_not] at hc
   omega
theorem J7 (n : Int) (hm : aR n < 100) : TOk (G6 n) := (pI (jO (t14 n) (jO (t27 n) aA)) (pI (jO (t21 n hm) (jO (t33 n hm) aA)) aI))
theorem Kl (n : Int) (hm : aR n < 100) : (JB [] (G6 n) 5 [any n]).holds fun y => y.1 = .kb true := by
 rw [← Cr]
 exact FU n hm
noncomputable def Gg (n : Int) : TL := [(18, [(8, (e14 n)), (33, (e27 n))]), (19, [(16, (e35 n)), (41, (e36 n))])]
def Ga (n : Int) : Prop :=
 ((((ByteArray.mk (#[40, 100, 101, 102, 105, 110, 101, 32, 40, 102, 32, 110, 41, 32])).size : Nat) : Int) + (((ByteArray.mk (#[40, 105, 102, 32, 40, 61, 32, 110, 32, 48, 41, 32, 39, 100, 111, 110, 101, 32, 40, 102, 32, 40, 45, 32, 110, 32, 49, 41, 41, 41])).size : Nat) : Int) <= 9223372036854775807) /\
 (((((ByteArray.mk (#[40, 100, 101, 102, 105, 110, 101, 32, 40, 102, 32, 110, 41, 32])) ++ (ByteArray.mk (#[40, 105, 102, 32, 40, 61, 32, 110, 32, 48, 41, 32, 39, 100, 111, 110, 101, 32, 40, 102, 32, 40, 45, 32, 110, 32, 49, 41, 41, 41]))).size : Nat) : Int) + (((ByteArray.mk (#[41])).size : Nat) : Int) <= 9223372036854775807) /\
 rp (en (aR n)) 1 (((((ByteArray.mk (#[40, 100, 101, 102, 105, 110, 101, 32, 40, 102, 32, 110, 41, 32])).size : Nat) : Int) + (((ByteArray.mk (#[40, 105, 102, 32, 40, 61, 32, 110, 32, 48, 41, 32, 48, 32, 40, 43, 32, 49, 32, 40, 102, 32, 40, 45, 32, 110, 32, 49, 41, 41, 41, 41])).size : Nat) : Int) <= 9223372036854775807) /\
 (((((ByteArray.mk (#[40, 100, 101, 102, 105, 110, 101, 32, 40, 102, 32, 110, 41, 32])) ++ (ByteArray.mk (#[40, 105, 102, 32, 40, 61, 32, 110, 32, 48, 41, 32, 48, 32, 40, 43, 32, 49, 32, 40, 102, 32, 40, 45, 32, 110, 32, 49, 41, 41, 41, 41]))).size : Nat) : Int) + (((ByteArray.mk (#[41])).size : Nat) : Int) <= 9223372036854775807) /\
 rp (en (aR n)) 1 ((((s7.data.toList == (ByteArray.mk (#[100, 111, 110, 101])).data.toList) = true -> (((decide (aR n < 100)) = true -> ((SV.kb false : SV) = .kb true)) /\ ((decide (aR n < 100)) = false -> qt))) /\ ((s7.data.toList == (ByteArray.mk (#[100, 111, 110, 101])).data.toList) = false -> ((SV.kb false : SV) = .kb true)))))
set_option maxRecDepth 100000 in
theorem Cq (n : Int) : (Ga n) = (JB [] (Gg n) 5 [any n]).holds fun y => y.1 = .kb true := by
 kernel_rfl
set_option maxRecDepth 100000 in
theorem Gi (n : Int) (hm : 100 <= aR n) : Ga n := by
 obtain ⟨h0, h1, h2, h3⟩ := fx n
 unfold Ga
 refine ⟨by simp only [ByteArray.size_append, iA, List.size_toArray, List.length_cons, List.length_nil, List.append_eq, List.length_append]; omega, ?_⟩
 refine ⟨by simp only [ByteArray.size_append, iA, List.size_toArray, List.length_cons, List.length_nil, List.append_eq, List.length_append]; omega, ?_⟩
 refine dV rfl _ ?_
 refine ⟨by simp only [ByteArray.size_append, iA, List.size_toArray, List.length_cons, List.length_nil, List.append_eq, List.length_append]; omega, ?_⟩
 refine ⟨by simp only [ByteArray.size_append, iA, List.size_toArray, List.length_cons, List.length_nil, List.append_eq, List.length_append]; omega, ?_⟩
 refine dV rfl _ ?_
 refine ⟨fun _ => ?_, fun h => absurd ((show (s7.data.toList == (ByteArray.mk (#[100, 111, 110, 101])).data.toList) = true by first | exact beq_self_eq_true _ | (rw [beq_iff_eq]; simp only [Bc, zP, List.append_assoc, List.nil_append, Wm]; try kernel_rfl)).symm.trans h) (by decide)⟩
 refine ⟨fun hc => ?_, fun hc => ?_⟩
 · exfalso
   simp only [decide_eq_true_eq, decide_eq_false_iff_not] at hc
   omega
 · rfl
theorem KM (n : Int) (hm : 100 <= aR n) : TOk (Gg n) := (pI (jO (t14 n) (jO (t27 n) aA)) (pI (jO (t35 n hm) (jO (t36 n hm) aA)) aI))
theorem Kj (n : Int) (hm : 100 <= aR n) : (JB [] (Gg n) 5 [any n]).holds fun y => y.1 = .kb true := by
 rw [← Cq]
 exact Gi n hm
set_option maxRecDepth 100000 in
theorem Jd (n : Int) {w : World} {vs : List Value} (hgl : Pers C0.W w Glob.ok) (hr : relL C0 w [any n] vs) : Calls prog 5 vs.toArray w fun e w' => e = .returned (.bool true) /\ Same w w' := by
 rcases (by omega : (aR n < 100) ∨ (100 <= aR n)) with hm | hm
 · exact JN (J7 n hm) hgl hr (Kl n hm)
 · exact JN (KM n hm) hgl hr (Kj n hm)
end Gv
