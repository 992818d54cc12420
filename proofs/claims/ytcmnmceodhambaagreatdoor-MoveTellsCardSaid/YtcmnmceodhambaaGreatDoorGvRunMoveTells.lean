/- The run of MoveTells. Printed by gvgen.py. -/
import Derived.Test.YtcmnmceodhambaaGreatDoorGvUMoveTells
import Derived.Test.YtcmnmceodhambaaGreatDoorGvPMoveTells0
import Derived.Test.YtcmnmceodhambaaGreatDoorGvPMoveTells3
import Derived.Test.YtcmnmceodhambaaGreatDoorGvPMoveTells6
import Derived.Test.YtcmnmceodhambaaGreatDoorGvPMoveTells7
set_option linter.unusedSimpArgs false
set_option linter.unusedVariables false
open Rx Go
namespace Gv
open Rd LMoveTells
noncomputable def oZ (n m : Int) : TL := [(39, [(7, (e19 n m)), (20, (e44 n m))]), (40, [(37, (e55 n m))])]
def oW (n m : Int) : Prop :=
 ((((ByteArray.mk (#[40, 114, 101, 99, 111, 114, 100, 32, 112, 32, 97, 32, 98, 41, 32, 40, 100, 101, 102, 105, 110, 101, 32, 120, 32, 40, 112, 32])).size : Nat) : Int) + (((ak (ah n)).size : Nat) : Int) <= 9223372036854775807) /\
 (((((ByteArray.mk (#[40, 114, 101, 99, 111, 114, 100, 32, 112, 32, 97, 32, 98, 41, 32, 40, 100, 101, 102, 105, 110, 101, 32, 120, 32, 40, 112, 32])) ++ ak (ah n)).size : Nat) : Int) + (((ByteArray.mk (#[32])).size : Nat) : Int) <= 9223372036854775807) /\
 (((((ByteArray.mk (#[40, 114, 101, 99, 111, 114, 100, 32, 112, 32, 97, 32, 98, 41, 32, 40, 100, 101, 102, 105, 110, 101, 32, 120, 32, 40, 112, 32])) ++ ak (ah n) ++ (ByteArray.mk (#[32]))).size : Nat) : Int) + (((ak (ah m)).size : Nat) : Int) <= 9223372036854775807) /\
 (((((ByteArray.mk (#[40, 114, 101, 99, 111, 114, 100, 32, 112, 32, 97, 32, 98, 41, 32, 40, 100, 101, 102, 105, 110, 101, 32, 120, 32, 40, 112, 32])) ++ ak (ah n) ++ (ByteArray.mk (#[32])) ++ ak (ah m)).size : Nat) : Int) + (((ByteArray.mk (#[41, 41, 32, 40, 100, 101, 102, 105, 110, 101, 32, 40, 115, 104, 111, 119, 32, 110, 41, 32, 120, 41])).size : Nat) : Int) <= 9223372036854775807) /\
 (s19 ++ ak (ah n) ++ s20 ++ ak (ah m) ++ s21 = (ByteArray.mk (#[40, 114, 101, 99, 111, 114, 100, 32, 112, 32, 97, 32, 98, 41, 32, 40, 100, 101, 102, 105, 110, 101, 32, 120, 32, 40, 112, 32])) ++ ak (ah n) ++ (ByteArray.mk (#[32])) ++ ak (ah m) ++ (ByteArray.mk (#[41, 41, 32, 40, 100, 101, 102, 105, 110, 101, 32, 40, 115, 104, 111, 119, 32, 110, 41, 32, 120, 41]))) /\
 rp (en (ah m)) 1 (rp (en (ah n)) 1 (rp (en (ah m)) 1 (rp (en (ah n)) 1 (rp (en (ah m)) 1 (rp (en (ah n)) 1 (rp (en (ah m)) 1 (rp (en (ah n)) 1 (rp (en (ah m)) 1 (rp (en (ah n)) 1 ((((decide (ah n < ah m)) = true -> ((((ByteArray.mk (#[35, 91, 112, 32])).size : Nat) : Int) + (((ak (ah n + ah m)).size : Nat) : Int) <= 9223372036854775807) /\
 (((((ByteArray.mk (#[35, 91, 112, 32])) ++ ak (ah n + ah m)).size : Nat) : Int) + (((ByteArray.mk (#[32])).size : Nat) : Int) <= 9223372036854775807) /\
 (((((ByteArray.mk (#[35, 91, 112, 32])) ++ ak (ah n + ah m) ++ (ByteArray.mk (#[32]))).size : Nat) : Int) + (((ByteArray.mk (#[40, 108, 101, 115, 115, 41])).size : Nat) : Int) <= 9223372036854775807) /\
 (((((ByteArray.mk (#[35, 91, 112, 32])) ++ ak (ah n + ah m) ++ (ByteArray.mk (#[32])) ++ (ByteArray.mk (#[40, 108, 101, 115, 115, 41]))).size : Nat) : Int) + (((ByteArray.mk (#[93])).size : Nat) : Int) <= 9223372036854775807) /\
 ((((s24 ++ ak (ah n + ah m) ++ s25).data.toList == ((ByteArray.mk (#[35, 91, 112, 32])) ++ ak (ah n + ah m) ++ (ByteArray.mk (#[32])) ++ (ByteArray.mk (#[40, 108, 101, 115, 115, 41])) ++ (ByteArray.mk (#[93]))).data.toList) = true -> (s24 ++ ak (ah n + ah m) ++ s25 = s24 ++ ak (ah n + ah m) ++ s25) /\
 qt) /\ (((s24 ++ ak (ah n + ah m) ++ s25).data.toList == ((ByteArray.mk (#[35, 91, 112, 32])) ++ ak (ah n + ah m) ++ (ByteArray.mk (#[32])) ++ (ByteArray.mk (#[40, 108, 101, 115, 115, 41])) ++ (ByteArray.mk (#[93]))).data.toList) = false -> (s24 ++ ak (ah n + ah m) ++ s25 = s24 ++ ak (ah n + ah m) ++ s25) /\
 ((SV.kb false : SV) = .kb true)))) /\ ((decide (ah n < ah m)) = false -> ((((ByteArray.mk (#[35, 91, 112, 32])).size : Nat) : Int) + (((ak (ah n + ah m)).size : Nat) : Int) <= 9223372036854775807) /\
 (((((ByteArray.mk (#[35, 91, 112, 32])) ++ ak (ah n + ah m)).size : Nat) : Int) + (((ByteArray.mk (#[32])).size : Nat) : Int) <= 9223372036854775807) /\
 (((((ByteArray.mk (#[35, 91, 112, 32])) ++ ak (ah n + ah m) ++ (ByteArray.mk (#[32]))).size : Nat) : Int) + (((ak (ah n - ah m)).size : Nat) : Int) <= 9223372036854775807) /\
 (((((ByteArray.mk (#[35, 91, 112, 32])) ++ ak (ah n + ah m) ++ (ByteArray.mk (#[32])) ++ ak (ah n - ah m)).size : Nat) : Int) + (((ByteArray.mk (#[93])).size : Nat) : Int) <= 9223372036854775807) /\
 ((((s24 ++ ak (ah n + ah m) ++ s25).data.toList == ((ByteArray.mk (#[35, 91, 112, 32])) ++ ak (ah n + ah m) ++ (ByteArray.mk (#[32])) ++ ak (ah n - ah m) ++ (ByteArray.mk (#[93]))).data.toList) = true -> (s24 ++ ak (ah n + ah m) ++ s25 = s24 ++ ak (ah n + ah m) ++ s25) /\
 qt) /\ (((s24 ++ ak (ah n + ah m) ++ s25).data.toList == ((ByteArray.mk (#[35, 91, 112, 32])) ++ ak (ah n + ah m) ++ (ByteArray.mk (#[32])) ++ ak (ah n - ah m) ++ (ByteArray.mk (#[93]))).data.toList) = false -> (s24 ++ ak (ah n + ah m) ++ s25 = s24 ++ ak (ah n + ah m) ++ s25) /\
 ((SV.kb false : SV) = .kb true)))))))))))))))
set_option maxRecDepth 100000 in
theorem uw (n m : Int) : (oW n m) = (G7 [] (oZ n m) 5 [any n, any m]).holds fun y => y.1 = .kb true := by
 kernel_rfl
set_option maxRecDepth 100000 in
theorem vG (n m : Int) (hm : ah n < ah m) : oW n m := by
 obtain ⟨h0, h1, h2, h3, h4, h5, h6, h7, h8, h9⟩ := fx n m
 unfold oW
 refine ⟨by simp only [ByteArray.size_append, aM, List.size_toArray, List.length_cons, List.length_nil, List.append_eq, List.length_append]; omega, ?_⟩
 refine ⟨by simp only [ByteArray.size_append, aM, List.size_toArray, List.length_cons, List.length_nil, List.append_eq, List.length_append]; omega, ?_⟩
 refine ⟨by simp only [ByteArray.size_append, aM, List.size_toArray, List.length_cons, List.length_nil, List.append_eq, List.length_append]; omega, ?_⟩
 refine ⟨by simp only [ByteArray.size_append, aM, List.size_toArray, List.length_cons, List.length_nil, List.append_eq, List.length_append]; omega, ?_⟩
 refine ⟨rfl, ?_⟩
 iterate 10 refine av rfl _ ?_
 refine ⟨fun hc => ?_, fun hc => ?_⟩
 · refine ⟨by simp only [ByteArray.size_append, aM, List.size_toArray, List.length_cons, List.length_nil, List.append_eq, List.length_append]; omega, ?_⟩
   refine ⟨by simp only [ByteArray.size_append, aM, List.size_toArray, List.length_cons, List.length_nil, List.append_eq, List.length_append]; omega, ?_⟩
   refine ⟨by simp only [ByteArray.size_append, aM, List.size_toArray, List.length_cons, List.length_nil, List.append_eq, List.length_append]; omega, ?_⟩
   refine ⟨by simp only [ByteArray.size_append, aM, List.size_toArray, List.length_cons, List.length_nil, List.append_eq, List.length_append]; omega, ?_⟩
   refine ⟨fun _ => ?_, fun h => absurd ((show ((s24 ++ ak (ah n + ah m) ++ s25).data.toList == ((ByteArray.mk (#[35, 91, 112, 32])) ++ ak (ah n + ah m) ++ (ByteArray.mk (#[32])) ++ (ByteArray.mk (#[40, 108, 101, 115, 115, 41])) ++ (ByteArray.mk (#[93]))).data.toList) = true by first | exact beq_self_eq_true _ | (rw [beq_iff_eq]; simp only [zu, zw, List.append_assoc, List.nil_append, Lh, SX]; try kernel_rfl)).symm.trans h) (by decide)⟩
   refine ⟨rfl, ?_⟩
   rfl
 · exfalso
   simp only [decide_eq_true_eq, decide_eq_false_iff_not] at hc
   omega
theorem zN (n m : Int) (hm : ah n < ah m) : TOk (oZ n m) := (nQ (mP (t19 n m) (mP (t44 n m hm) aA)) (nQ (mP (t55 n m hm) aA) aD))
theorem zW (n m : Int) (hm : ah n < ah m) : (G7 [] (oZ n m) 5 [any n, any m]).holds fun y => y.1 = .kb true := by
 rw [← uw]
 exact vG n m hm
noncomputable def qp (n m : Int) : TL := [(39, [(7, (e19 n m)), (20, (e63 n m))]), (40, [(37, (e65 n m))])]
def pV (n m : Int) : Prop :=
 ((((ByteArray.mk (#[40, 114, 101, 99, 111, 114, 100, 32, 112, 32, 97, 32, 98, 41, 32, 40, 100, 101, 102, 105, 110, 101, 32, 120, 32, 40, 112, 32])).size : Nat) : Int) + (((ak (ah n)).size : Nat) : Int) <= 9223372036854775807) /\
 (((((ByteArray.mk (#[40, 114, 101, 99, 111, 114, 100, 32, 112, 32, 97, 32, 98, 41, 32, 40, 100, 101, 102, 105, 110, 101, 32, 120, 32, 40, 112, 32])) ++ ak (ah n)).size : Nat) : Int) + (((ByteArray.mk (#[32])).size : Nat) : Int) <= 9223372036854775807) /\
 (((((ByteArray.mk (#[40, 114, 101, 99, 111, 114, 100, 32, 112, 32, 97, 32, 98, 41, 32, 40, 100, 101, 102, 105, 110, 101, 32, 120, 32, 40, 112, 32])) ++ ak (ah n) ++ (ByteArray.mk (#[32]))).size : Nat) : Int) + (((ak (ah m)).size : Nat) : Int) <= 9223372036854775807) /\
 (((((ByteArray.mk (#[40, 114, 101, 99, 111, 114, 100, 32, 112, 32, 97, 32, 98, 41, 32, 40, 100, 101, 102, 105, 110, 101, 32, 120, 32, 40, 112, 32])) ++ ak (ah n) ++ (ByteArray.mk (#[32])) ++ ak (ah m)).size : Nat) : Int) + (((ByteArray.mk (#[41, 41, 32, 40, 100, 101, 102, 105, 110, 101, 32, 40, 115, 104, 111, 119, 32, 110, 41, 32, 120, 41])).size : Nat) : Int) <= 9223372036854775807) /\
 (s19 ++ ak (ah n) ++ s20 ++ ak (ah m) ++ s21 = (ByteArray.mk (#[40, 114, 101, 99, 111, 114, 100, 32, 112, 32, 97, 32, 98, 41, 32, 40, 100, 101, 102, 105, 110, 101, 32, 120, 32, 40, 112, 32])) ++ ak (ah n) ++ (ByteArray.mk (#[32])) ++ ak (ah m) ++ (ByteArray.mk (#[41, 41, 32, 40, 100, 101, 102, 105, 110, 101, 32, 40, 115, 104, 111, 119, 32, 110, 41, 32, 120, 41]))) /\
 rp (en (ah m)) 1 (rp (en (ah n)) 1 (rp (en (ah m)) 1 (rp (en (ah n)) 1 (rp (en (ah m)) 1 (rp (en (ah n)) 1 (rp (en (ah m)) 1 (rp (en (ah n)) 1 (rp (en (ah m)) 1 (rp (en (ah n)) 1 ((((decide (ah n < ah m)) = true -> ((((ByteArray.mk (#[35, 91, 112, 32])).size : Nat) : Int) + (((ak (ah n + ah m)).size : Nat) : Int) <= 9223372036854775807) /\
 (((((ByteArray.mk (#[35, 91, 112, 32])) ++ ak (ah n + ah m)).size : Nat) : Int) + (((ByteArray.mk (#[32])).size : Nat) : Int) <= 9223372036854775807) /\
 (((((ByteArray.mk (#[35, 91, 112, 32])) ++ ak (ah n + ah m) ++ (ByteArray.mk (#[32]))).size : Nat) : Int) + (((ByteArray.mk (#[40, 108, 101, 115, 115, 41])).size : Nat) : Int) <= 9223372036854775807) /\
 (((((ByteArray.mk (#[35, 91, 112, 32])) ++ ak (ah n + ah m) ++ (ByteArray.mk (#[32])) ++ (ByteArray.mk (#[40, 108, 101, 115, 115, 41]))).size : Nat) : Int) + (((ByteArray.mk (#[93])).size : Nat) : Int) <= 9223372036854775807) /\
 ((((s24 ++ ak (ah n + ah m) ++ s20 ++ ak (ah n - ah m) ++ s26).data.toList == ((ByteArray.mk (#[35, 91, 112, 32])) ++ ak (ah n + ah m) ++ (ByteArray.mk (#[32])) ++ (ByteArray.mk (#[40, 108, 101, 115, 115, 41])) ++ (ByteArray.mk (#[93]))).data.toList) = true -> (s24 ++ ak (ah n + ah m) ++ s20 ++ ak (ah n - ah m) ++ s26 = s24 ++ ak (ah n + ah m) ++ s20 ++ ak (ah n - ah m) ++ s26) /\
 qt) /\ (((s24 ++ ak (ah n + ah m) ++ s20 ++ ak (ah n - ah m) ++ s26).data.toList == ((ByteArray.mk (#[35, 91, 112, 32])) ++ ak (ah n + ah m) ++ (ByteArray.mk (#[32])) ++ (ByteArray.mk (#[40, 108, 101, 115, 115, 41])) ++ (ByteArray.mk (#[93]))).data.toList) = false -> (s24 ++ ak (ah n + ah m) ++ s20 ++ ak (ah n - ah m) ++ s26 = s24 ++ ak (ah n + ah m) ++ s20 ++ ak (ah n - ah m) ++ s26) /\
 ((SV.kb false : SV) = .kb true)))) /\ ((decide (ah n < ah m)) = false -> ((((ByteArray.mk (#[35, 91, 112, 32])).size : Nat) : Int) + (((ak (ah n + ah m)).size : Nat) : Int) <= 9223372036854775807) /\
 (((((ByteArray.mk (#[35, 91, 112, 32])) ++ ak (ah n + ah m)).size : Nat) : Int) + (((ByteArray.mk (#[32])).size : Nat) : Int) <= 9223372036854775807) /\
 (((((ByteArray.mk (#[35, 91, 112, 32])) ++ ak (ah n + ah m) ++ (ByteArray.mk (#[32]))).size : Nat) : Int) + (((ak (ah n - ah m)).size : Nat) : Int) <= 9223372036854775807) /\
 (((((ByteArray.mk (#[35, 91, 112, 32])) ++ ak (ah n + ah m) ++ (ByteArray.mk (#[32])) ++ ak (ah n - ah m)).size : Nat) : Int) + (((ByteArray.mk (#[93])).size : Nat) : Int) <= 9223372036854775807) /\
 ((((s24 ++ ak (ah n + ah m) ++ s20 ++ ak (ah n - ah m) ++ s26).data.toList == ((ByteArray.mk (#[35, 91, 112, 32])) ++ ak (ah n + ah m) ++ (ByteArray.mk (#[32])) ++ ak (ah n - ah m) ++ (ByteArray.mk (#[93]))).data.toList) = true -> (s24 ++ ak (ah n + ah m) ++ s20 ++ ak (ah n - ah m) ++ s26 = s24 ++ ak (ah n + ah m) ++ s20 ++ ak (ah n - ah m) ++ s26) /\
 qt) /\ (((s24 ++ ak (ah n + ah m) ++ s20 ++ ak (ah n - ah m) ++ s26).data.toList == ((ByteArray.mk (#[35, 91, 112, 32])) ++ ak (ah n + ah m) ++ (ByteArray.mk (#[32])) ++ ak (ah n - ah m) ++ (ByteArray.mk (#[93]))).data.toList) = false -> (s24 ++ ak (ah n + ah m) ++ s20 ++ ak (ah n - ah m) ++ s26 = s24 ++ ak (ah n + ah m) ++ s20 ++ ak (ah n - ah m) ++ s26) /\
 ((SV.kb false : SV) = .kb true)))))))))))))))
set_option maxRecDepth 100000 in
theorem sD (n m : Int) : (pV n m) = (G7 [] (qp n m) 5 [any n, any m]).holds fun y => y.1 = .kb true := by
 kernel_rfl
set_option maxRecDepth 100000 in
theorem vP (n m : Int) (hm : ah m <= ah n) : pV n m := by
 obtain ⟨h0, h1, h2, h3, h4, h5, h6, h7, h8, h9⟩ := fx n m
 unfold pV
 refine ⟨by simp only [ByteArray.size_append, aM, List.size_toArray, List.length_cons, List.length_nil, List.append_eq, List.length_append]; omega, ?_⟩
 refine ⟨by simp only [ByteArray.size_append, aM, List.size_toArray, List.length_cons, List.length_nil, List.append_eq, List.length_append]; omega, ?_⟩
 refine ⟨by simp only [ByteArray.size_append, aM, List.size_toArray, List.length_cons, List.length_nil, List.append_eq, List.length_append]; omega, ?_⟩
 refine ⟨by simp only [ByteArray.size_append, aM, List.size_toArray, List.length_cons, List.length_nil, List.append_eq, List.length_append]; omega, ?_⟩
 refine ⟨rfl, ?_⟩
 iterate 10 refine av rfl _ ?_
 refine ⟨fun hc => ?_, fun hc => ?_⟩
 · exfalso
   simp only [decide_eq_true_eq, decide_eq_false_iff_not] at hc
   omega
 · refine ⟨by simp only [ByteArray.size_append, aM, List.size_toArray, List.length_cons, List.length_nil, List.append_eq, List.length_append]; omega, ?_⟩
   refine ⟨by simp only [ByteArray.size_append, aM, List.size_toArray, List.length_cons, List.length_nil, List.append_eq, List.length_append]; omega, ?_⟩
   refine ⟨by simp only [ByteArray.size_append, aM, List.size_toArray, List.length_cons, List.length_nil, List.append_eq, List.length_append]; omega, ?_⟩
   refine ⟨by simp only [ByteArray.size_append, aM, List.size_toArray, List.length_cons, List.length_nil, List.append_eq, List.length_append]; omega, ?_⟩
   refine ⟨fun _ => ?_, fun h => absurd ((show ((s24 ++ ak (ah n + ah m) ++ s20 ++ ak (ah n - ah m) ++ s26).data.toList == ((ByteArray.mk (#[35, 91, 112, 32])) ++ ak (ah n + ah m) ++ (ByteArray.mk (#[32])) ++ ak (ah n - ah m) ++ (ByteArray.mk (#[93]))).data.toList) = true by first | exact beq_self_eq_true _ | (rw [beq_iff_eq]; simp only [zu, zw, List.append_assoc, List.nil_append, PL, Lh, Tg]; try kernel_rfl)).symm.trans h) (by decide)⟩
   refine ⟨rfl, ?_⟩
   rfl
theorem Ai (n m : Int) (hm : ah m <= ah n) : TOk (qp n m) := (nQ (mP (t19 n m) (mP (t63 n m hm) aA)) (nQ (mP (t65 n m hm) aA) aD))
theorem yQ (n m : Int) (hm : ah m <= ah n) : (G7 [] (qp n m) 5 [any n, any m]).holds fun y => y.1 = .kb true := by
 rw [← sD]
 exact vP n m hm
set_option maxRecDepth 100000 in
theorem xw (n m : Int) {w : World} {vs : List Value} (hgl : Pers C0.W w Glob.ok) (hr : relL C0 w [any n, any m] vs) : Calls prog 5 vs.toArray w fun e w' => e = .returned (.bool true) /\ Same w w' := by
 rcases (by omega : (ah n < ah m) ∨ (ah m <= ah n)) with hm | hm
 · exact Iq (zN n m hm) hgl hr (zW n m hm)
 · exact Iq (Ai n m hm) hgl hr (yQ n m hm)
end Gv
