/- Told parts of MoveTells. Printed by gvgen.py. -/
import Derived.Test.YtcmnmceodhambaaGreatDoorGvUMoveTells
import Derived.Test.YtcmnmceodhambaaGreatDoorGvPMoveTells4
import Derived.Test.YtcmnmceodhambaaGreatDoorGvPMoveTells0
import Derived.Test.YtcmnmceodhambaaGreatDoorGvPMoveTells6
import Derived.Test.YtcmnmceodhambaaGreatDoorGvPMoveTells3
set_option linter.unusedSimpArgs false
set_option linter.unusedVariables false
set_option maxRecDepth 100000
open Rx Go
namespace Gv.LMoveTells
open Gv Rd
theorem t64 (n m : Int) (hm : ah m <= ah n) : aU prog 82 (e64 n m) := aP [] (tk (f := 30) (tc 17 (t53 n m) (tc 71 (t53 n m) aA)) (tk (f := 60) (tc 19 (t21 n m) (tc 28 (t21 n m) (tc 46 (t21 n m) (tc 59 (t21 n m) (tc 243 (t21 n m) (tc 4355 (t21 n m) (tc 8628 (t58 n m) (tc 8694 (t60 n m) (tc 12743 (t60 n m) (tc 12761 (t60 n m) (tc 12774 (t60 n m) aA))))))))))) (tk (f := 127) (tc 19 (t20 n m) (tc 28 (t20 n m) (tc 46 (t20 n m) (tc 59 (t20 n m) (tc 243 (t20 n m) (tc 4355 (t20 n m) (tc 8628 (t57 n m) (tc 12743 (t59 n m) (tc 12761 (t59 n m) (tc 12774 (t59 n m) aA)))))))))) aD))) (by kernel_rfl) (by kernel_rfl) (q := rp (en (ah m)) 1 (rp (en (ah n)) 1 (rp (en (ah m)) 1 (rp (en (ah n)) 1 (rp (en (ah m)) 1 (rp (en (ah n)) 1 (rp (en (ah m)) 1 (rp (en (ah n)) 1 (rp (en (ah m)) 1 (rp (en (ah n)) 1 (rp (en (ah m)) 1 (rp (en (ah n)) 1 (((((ByteArray.mk (#[35, 91])).size : Nat) : Int) + ((s2.size : Nat) : Int) <= 9223372036854775807) /\
 ((fun n => n + ((ByteArray.mk (#[35, 91])) ++ s2).size <= 100000) 0) /\
 ((fun n => n <= 100000) ((fun n => n + ((ByteArray.mk (#[35, 91])) ++ s2).size) 0)) /\
 rp (en (ah m)) 1 (rp (en (ah n)) 1 (rp (en (ah m)) 1 (rp (en (ah n)) 1 (((fun n_1 => n_1 + (ak (ah n)).size <= 100000) ((fun n => n + 1) ((fun n => n + ((ByteArray.mk (#[35, 91])) ++ s2).size) 0))) /\
 ((fun n => n <= 100000) ((fun n_1 => n_1 + (ak (ah n)).size) ((fun n => n + 1) ((fun n => n + ((ByteArray.mk (#[35, 91])) ++ s2).size) 0)))) /\
 rp (en (ah m)) 1 (rp (en (ah n)) 1 (rp (en (ah m)) 1 (rp (en (ah n)) 1 (((fun n => n + (ak (ah m)).size <= 100000) ((fun n => n + 1) ((fun n_1 => n_1 + (ak (ah n)).size) ((fun n => n + 1) ((fun n => n + ((ByteArray.mk (#[35, 91])) ++ s2).size) 0))))) /\
 ((fun n => n <= 100000) ((fun n => n + (ak (ah m)).size) ((fun n => n + 1) ((fun n_1 => n_1 + (ak (ah n)).size) ((fun n => n + 1) ((fun n => n + ((ByteArray.mk (#[35, 91])) ++ s2).size) 0)))))) /\
 rp (en (ah m)) 1 (rp (en (ah n)) 1 (rp (en (ah m)) 1 (rp (en (ah n)) 1 (rp (en (ah m)) 1 (rp (en (ah n)) 1 (rp (en (ah m)) 1 (rp (en (ah n)) 1 (rp (en (ah m)) 1 (rp (en (ah n)) 1 (rp (en (ah m)) 1 (rp (en (ah n)) 1 ((((decide (ah n < ah m)) = true -> False) /\ ((decide (ah n < ah m)) = false -> rp (en (ah n + ah m)) 1 (rp (en (ah m)) 1 (rp (en (ah n - ah m)) 1 (rp (en (ah n)) 1 (rp (en (ah n + ah m)) 1 (rp (en (ah m)) 1 (rp (en (ah n - ah m)) 1 (rp (en (ah n)) 1 (rp (en (ah n + ah m)) 1 (rp (en (ah n - ah m)) 1 (rp (en (ah n + ah m)) 1 (rp (en (ah n - ah m)) 1 (rp (en (ah n + ah m)) 1 (rp (en (ah n - ah m)) 1 (((((ByteArray.mk (#[35, 91])).size : Nat) : Int) + ((s2.size : Nat) : Int) <= 9223372036854775807) /\
 ((fun n => n + ((ByteArray.mk (#[35, 91])) ++ s2).size <= 100000) 0) /\
 ((fun n => n <= 100000) ((fun n => n + ((ByteArray.mk (#[35, 91])) ++ s2).size) 0)) /\
 rp (en (ah n + ah m)) 1 (rp (en (ah n - ah m)) 1 (rp (en (ah n + ah m)) 1 (rp (en (ah n - ah m)) 1 (((fun n_1 => n_1 + (ak (ah n + ah m)).size <= 100000) ((fun n => n + 1) ((fun n => n + ((ByteArray.mk (#[35, 91])) ++ s2).size) 0))) /\
 ((fun n => n <= 100000) ((fun n_1 => n_1 + (ak (ah n + ah m)).size) ((fun n => n + 1) ((fun n => n + ((ByteArray.mk (#[35, 91])) ++ s2).size) 0)))) /\
 rp (en (ah n + ah m)) 1 (rp (en (ah n - ah m)) 1 (rp (en (ah n + ah m)) 1 (rp (en (ah n - ah m)) 1 (((fun n_1 => n_1 + (ak (ah n - ah m)).size <= 100000) ((fun n => n + 1) ((fun n_1 => n_1 + (ak (ah n + ah m)).size) ((fun n => n + 1) ((fun n => n + ((ByteArray.mk (#[35, 91])) ++ s2).size) 0))))) /\
 ((fun n => n <= 100000) ((fun n_1 => n_1 + (ak (ah n - ah m)).size) ((fun n => n + 1) ((fun n_1 => n_1 + (ak (ah n + ah m)).size) ((fun n => n + 1) ((fun n => n + ((ByteArray.mk (#[35, 91])) ++ s2).size) 0)))))) /\
 (DT ((fun n => n + 1) ((fun n_1 => n_1 + (ak (ah n - ah m)).size) ((fun n => n + 1) ((fun n_1 => n_1 + (ak (ah n + ah m)).size) ((fun n => n + 1) ((fun n => n + ((ByteArray.mk (#[35, 91])) ++ s2).size) 0)))))) ((fun n f => bH n f (eO 1 [Dt.cell (Value.int IntKind.u8 93)])) ((fun n_1 => n_1 + (ak (ah n - ah m)).size) ((fun n => n + 1) ((fun n_1 => n_1 + (ak (ah n + ah m)).size) ((fun n => n + 1) ((fun n => n + ((ByteArray.mk (#[35, 91])) ++ s2).size) 0))))) ((fun n_1 f => bH n_1 f (lV (ak (ah n - ah m)))) ((fun n => n + 1) ((fun n_1 => n_1 + (ak (ah n + ah m)).size) ((fun n => n + 1) ((fun n => n + ((ByteArray.mk (#[35, 91])) ++ s2).size) 0)))) ((fun n f => bH n f (eO 1 [Dt.cell (Value.int IntKind.u8 32)])) ((fun n_1 => n_1 + (ak (ah n + ah m)).size) ((fun n => n + 1) ((fun n => n + ((ByteArray.mk (#[35, 91])) ++ s2).size) 0))) ((fun n_1 f => bH n_1 f (lV (ak (ah n + ah m)))) ((fun n => n + 1) ((fun n => n + ((ByteArray.mk (#[35, 91])) ++ s2).size) 0)) ((fun n f => bH n f (eO 1 [Dt.cell (Value.int IntKind.u8 32)])) ((fun n => n + ((ByteArray.mk (#[35, 91])) ++ s2).size) 0) ((fun n f => bH n f (lV ((ByteArray.mk (#[35, 91])) ++ s2))) 0 row0))))))) /\
 (s24 ++ ak (ah n + ah m) ++ s20 ++ ak (ah n - ah m) ++ s26 = (ByteArray.mk ((mD ((fun n => n + 1) ((fun n_1 => n_1 + (ak (ah n - ah m)).size) ((fun n => n + 1) ((fun n_1 => n_1 + (ak (ah n + ah m)).size) ((fun n => n + 1) ((fun n => n + ((ByteArray.mk (#[35, 91])) ++ s2).size) 0)))))) ((fun n f => bH n f (eO 1 [Dt.cell (Value.int IntKind.u8 93)])) ((fun n_1 => n_1 + (ak (ah n - ah m)).size) ((fun n => n + 1) ((fun n_1 => n_1 + (ak (ah n + ah m)).size) ((fun n => n + 1) ((fun n => n + ((ByteArray.mk (#[35, 91])) ++ s2).size) 0))))) ((fun n_1 f => bH n_1 f (lV (ak (ah n - ah m)))) ((fun n => n + 1) ((fun n_1 => n_1 + (ak (ah n + ah m)).size) ((fun n => n + 1) ((fun n => n + ((ByteArray.mk (#[35, 91])) ++ s2).size) 0)))) ((fun n f => bH n f (eO 1 [Dt.cell (Value.int IntKind.u8 32)])) ((fun n_1 => n_1 + (ak (ah n + ah m)).size) ((fun n => n + 1) ((fun n => n + ((ByteArray.mk (#[35, 91])) ++ s2).size) 0))) ((fun n_1 f => bH n_1 f (lV (ak (ah n + ah m)))) ((fun n => n + 1) ((fun n => n + ((ByteArray.mk (#[35, 91])) ++ s2).size) 0)) ((fun n f => bH n f (eO 1 [Dt.cell (Value.int IntKind.u8 32)])) ((fun n => n + ((ByteArray.mk (#[35, 91])) ++ s2).size) 0) ((fun n f => bH n f (lV ((ByteArray.mk (#[35, 91])) ++ s2))) 0 row0))))))).toArray))) /\
 rp (en (ah n + ah m)) 1 (rp (en (ah n - ah m)) 1 (rp (en (ah m)) 1 (rp (en (ah n)) 1 (qt)))))))))))))))))))))))))))))))))))))))))))))))))))))))))))))
 (by
 obtain ⟨h0, h1, h2, h3, h4, h5, h6, h7, h8, h9⟩ := fx n m
 iterate 12 refine av rfl _ ?_
 refine ⟨by simp only [ByteArray.size_append, aM, List.size_toArray, List.length_cons, List.length_nil, List.append_eq, List.length_append, fF]; omega, ?_⟩
 refine ⟨by simp only [ByteArray.size_append, aM, List.size_toArray, List.length_cons, List.length_nil, List.append_eq, List.length_append, fF]; omega, ?_⟩
 refine ⟨by simp only [ByteArray.size_append, aM, List.size_toArray, List.length_cons, List.length_nil, List.append_eq, List.length_append, fF]; omega, ?_⟩
 iterate 4 refine av rfl _ ?_
 refine ⟨by simp only [ByteArray.size_append, aM, List.size_toArray, List.length_cons, List.length_nil, List.append_eq, List.length_append, fF]; omega, ?_⟩
 refine ⟨by simp only [ByteArray.size_append, aM, List.size_toArray, List.length_cons, List.length_nil, List.append_eq, List.length_append, fF]; omega, ?_⟩
 iterate 4 refine av rfl _ ?_
 refine ⟨by simp only [ByteArray.size_append, aM, List.size_toArray, List.length_cons, List.length_nil, List.append_eq, List.length_append, fF]; omega, ?_⟩
 refine ⟨by simp only [ByteArray.size_append, aM, List.size_toArray, List.length_cons, List.length_nil, List.append_eq, List.length_append, fF]; omega, ?_⟩
 iterate 12 refine av rfl _ ?_
 refine ⟨fun hc => ?_, fun hc => ?_⟩
 · exfalso
   simp only [decide_eq_true_eq, decide_eq_false_iff_not] at hc
   omega
 · iterate 14 refine av rfl _ ?_
   refine ⟨by simp only [ByteArray.size_append, aM, List.size_toArray, List.length_cons, List.length_nil, List.append_eq, List.length_append, fF]; omega, ?_⟩
   refine ⟨by simp only [ByteArray.size_append, aM, List.size_toArray, List.length_cons, List.length_nil, List.append_eq, List.length_append, fF]; omega, ?_⟩
   refine ⟨by simp only [ByteArray.size_append, aM, List.size_toArray, List.length_cons, List.length_nil, List.append_eq, List.length_append, fF]; omega, ?_⟩
   iterate 4 refine av rfl _ ?_
   refine ⟨by simp only [ByteArray.size_append, aM, List.size_toArray, List.length_cons, List.length_nil, List.append_eq, List.length_append, fF]; omega, ?_⟩
   refine ⟨by simp only [ByteArray.size_append, aM, List.size_toArray, List.length_cons, List.length_nil, List.append_eq, List.length_append, fF]; omega, ?_⟩
   iterate 4 refine av rfl _ ?_
   refine ⟨by simp only [ByteArray.size_append, aM, List.size_toArray, List.length_cons, List.length_nil, List.append_eq, List.length_append, fF]; omega, ?_⟩
   refine ⟨by simp only [ByteArray.size_append, aM, List.size_toArray, List.length_cons, List.length_nil, List.append_eq, List.length_append, fF]; omega, ?_⟩
   refine ⟨BJ (fK (jo (fK (jo (fK (jo yc ((ByteArray.mk (#[35, 91])) ++ s2)) 32 rfl) (ak (ah n + ah m))) 32 rfl) (ak (ah n - ah m))) 93 rfl) (by simp only [ByteArray.size_append, aM, List.size_toArray, List.length_cons, List.length_nil, List.append_eq, List.length_append, fF]; omega) (by simp only [ByteArray.size_append, aM, List.size_toArray, List.length_cons, List.length_nil, List.append_eq, List.length_append, fF]; omega), ?_⟩
   refine ⟨O4 (fK (jo (fK (jo (fK (jo yc ((ByteArray.mk (#[35, 91])) ++ s2)) 32 rfl) (ak (ah n + ah m))) 32 rfl) (ak (ah n - ah m))) 93 rfl) (by (simp only [zu, zw, List.append_assoc, List.nil_append, VD, PL, Lh, Tg]) <;> kernel_rfl), ?_⟩
   iterate 4 refine av rfl _ ?_
   rfl
 )
  (by kernel_rfl)
theorem t65 (n m : Int) (hm : ah m <= ah n) : aU prog 40 (e65 n m) := aP [] (tk (f := 22) (tc 17 (t45 n m) aA) (tk (f := 59) (tc 90 (t47 n m) aA) (tk (f := 82) (tc 131164 (t64 n m hm) aA) aD))) (by kernel_rfl) (by kernel_rfl) (q := rp (en (ah m)) 1 (rp (en (ah n)) 1 (rp (en (ah m)) 1 (rp (en (ah n)) 1 (rp (en (ah m)) 1 (rp (en (ah n)) 1 (rp (en (ah m)) 1 (rp (en (ah n)) 1 (rp (en (ah m)) 1 (rp (en (ah n)) 1 (rp (en (ah m)) 1 (rp (en (ah n)) 1 ((s24 ++ ak (ah n + ah m) ++ s20 ++ ak (ah n - ah m) ++ s26 = s24 ++ ak (ah n + ah m) ++ s20 ++ ak (ah n - ah m) ++ s26) /\
 rp (en (ah n + ah m)) 1 (rp (en (ah n - ah m)) 1 (rp (en (ah m)) 1 (rp (en (ah n)) 1 (qt)))))))))))))))))
 (by
 obtain ⟨h0, h1, h2, h3, h4, h5, h6, h7, h8, h9⟩ := fx n m
 iterate 12 refine av rfl _ ?_
 refine ⟨rfl, ?_⟩
 iterate 4 refine av rfl _ ?_
 rfl
 )
  (by kernel_rfl)
end Gv.LMoveTells
