/- Told parts of MoveTells. Printed by gvgen.py. -/
import Derived.Test.YtcmnmceodhambaaGreatDoorGvUMoveTells
import Derived.Test.YtcmnmceodhambaaGreatDoorGvPMoveTells4
import Derived.Test.YtcmnmceodhambaaGreatDoorGvPMoveTells0
import Derived.Test.YtcmnmceodhambaaGreatDoorGvPMoveTells2
set_option linter.unusedSimpArgs false
set_option linter.unusedVariables false
set_option maxRecDepth 100000
open Rx Go
namespace Gv.LMoveTells
open Gv Rd
theorem t54 (n m : Int) (hm : ah n < ah m) : aU prog 82 (e54 n m) := aP [] (tk (f := 30) (tc 17 (t53 n m) (tc 71 (t53 n m) aA)) (tk (f := 60) (tc 19 (t21 n m) (tc 28 (t21 n m) (tc 46 (t21 n m) (tc 59 (t21 n m) (tc 243 (t21 n m) (tc 4355 (t21 n m) (tc 8626 (t39 n m) (tc 8692 (t41 n m) (tc 12741 (t41 n m) (tc 12759 (t41 n m) (tc 12772 (t41 n m) (tc 12786 (t41 n m) (tc 12797 (t41 n m) aA))))))))))))) (tk (f := 127) (tc 19 (t20 n m) (tc 28 (t20 n m) (tc 46 (t20 n m) (tc 59 (t20 n m) (tc 243 (t20 n m) (tc 4355 (t20 n m) (tc 8626 (t38 n m) (tc 12741 (t40 n m) (tc 12759 (t40 n m) (tc 12772 (t40 n m) (tc 12786 (t40 n m) (tc 12797 (t40 n m) aA)))))))))))) aD))) (by kernel_rfl) (by kernel_rfl) (q := rp (en (ah m)) 1 (rp (en (ah n)) 1 (rp (en (ah m)) 1 (rp (en (ah n)) 1 (rp (en (ah m)) 1 (rp (en (ah n)) 1 (rp (en (ah m)) 1 (rp (en (ah n)) 1 (rp (en (ah m)) 1 (rp (en (ah n)) 1 (rp (en (ah m)) 1 (rp (en (ah n)) 1 (((((ByteArray.mk (#[35, 91])).size : Nat) : Int) + ((s2.size : Nat) : Int) <= 9223372036854775807) /\
 ((fun n => n + ((ByteArray.mk (#[35, 91])) ++ s2).size <= 100000) 0) /\
 ((fun n => n <= 100000) ((fun n => n + ((ByteArray.mk (#[35, 91])) ++ s2).size) 0)) /\
 rp (en (ah m)) 1 (rp (en (ah n)) 1 (rp (en (ah m)) 1 (rp (en (ah n)) 1 (((fun n_1 => n_1 + (ak (ah n)).size <= 100000) ((fun n => n + 1) ((fun n => n + ((ByteArray.mk (#[35, 91])) ++ s2).size) 0))) /\
 ((fun n => n <= 100000) ((fun n_1 => n_1 + (ak (ah n)).size) ((fun n => n + 1) ((fun n => n + ((ByteArray.mk (#[35, 91])) ++ s2).size) 0)))) /\
 rp (en (ah m)) 1 (rp (en (ah n)) 1 (rp (en (ah m)) 1 (rp (en (ah n)) 1 (((fun n => n + (ak (ah m)).size <= 100000) ((fun n => n + 1) ((fun n_1 => n_1 + (ak (ah n)).size) ((fun n => n + 1) ((fun n => n + ((ByteArray.mk (#[35, 91])) ++ s2).size) 0))))) /\
 ((fun n => n <= 100000) ((fun n => n + (ak (ah m)).size) ((fun n => n + 1) ((fun n_1 => n_1 + (ak (ah n)).size) ((fun n => n + 1) ((fun n => n + ((ByteArray.mk (#[35, 91])) ++ s2).size) 0)))))) /\
 rp (en (ah m)) 1 (rp (en (ah n)) 1 (rp (en (ah m)) 1 (rp (en (ah n)) 1 (rp (en (ah m)) 1 (rp (en (ah n)) 1 (rp (en (ah m)) 1 (rp (en (ah n)) 1 (rp (en (ah m)) 1 (rp (en (ah n)) 1 (rp (en (ah m)) 1 (rp (en (ah n)) 1 ((((decide (ah n < ah m)) = true -> rp (en (ah m)) 1 (rp (en (ah n + ah m)) 1 (rp (en (ah n)) 1 (rp (en (ah m)) 1 (rp (en (ah n + ah m)) 1 (rp (en (ah n)) 1 (rp (en (ah n + ah m)) 3 (((((ByteArray.mk (#[35, 91])).size : Nat) : Int) + ((s2.size : Nat) : Int) <= 9223372036854775807) /\
 ((fun n => n + ((ByteArray.mk (#[35, 91])) ++ s2).size <= 100000) 0) /\
 ((fun n => n <= 100000) ((fun n => n + ((ByteArray.mk (#[35, 91])) ++ s2).size) 0)) /\
 rp (en (ah n + ah m)) 2 (((fun n_1 => n_1 + (ak (ah n + ah m)).size <= 100000) ((fun n => n + 1) ((fun n => n + ((ByteArray.mk (#[35, 91])) ++ s2).size) 0))) /\
 ((fun n => n <= 100000) ((fun n_1 => n_1 + (ak (ah n + ah m)).size) ((fun n => n + 1) ((fun n => n + ((ByteArray.mk (#[35, 91])) ++ s2).size) 0)))) /\
 rp (en (ah n + ah m)) 2 (((fun n => n <= 100000) ((fun n => n + 1) ((fun n_1 => n_1 + (ak (ah n + ah m)).size) ((fun n => n + 1) ((fun n => n + ((ByteArray.mk (#[35, 91])) ++ s2).size) 0))))) /\
 rp (en (ah n + ah m)) 2 (((fun n => n + s17.size <= 100000) ((fun n => n + 1) ((fun n => n + 1) ((fun n_1 => n_1 + (ak (ah n + ah m)).size) ((fun n => n + 1) ((fun n => n + ((ByteArray.mk (#[35, 91])) ++ s2).size) 0)))))) /\
 rp (en (ah n + ah m)) 2 (((fun n => n <= 100000) ((fun n => n + s17.size) ((fun n => n + 1) ((fun n => n + 1) ((fun n_1 => n_1 + (ak (ah n + ah m)).size) ((fun n => n + 1) ((fun n => n + ((ByteArray.mk (#[35, 91])) ++ s2).size) 0))))))) /\
 ((fun n => n <= 100000) ((fun n => n + 1) ((fun n => n + s17.size) ((fun n => n + 1) ((fun n => n + 1) ((fun n_1 => n_1 + (ak (ah n + ah m)).size) ((fun n => n + 1) ((fun n => n + ((ByteArray.mk (#[35, 91])) ++ s2).size) 0)))))))) /\
 (DT ((fun n => n + 1) ((fun n => n + 1) ((fun n => n + s17.size) ((fun n => n + 1) ((fun n => n + 1) ((fun n_1 => n_1 + (ak (ah n + ah m)).size) ((fun n => n + 1) ((fun n => n + ((ByteArray.mk (#[35, 91])) ++ s2).size) 0)))))))) ((fun n f => bH n f (eO 1 [Dt.cell (Value.int IntKind.u8 93)])) ((fun n => n + 1) ((fun n => n + s17.size) ((fun n => n + 1) ((fun n => n + 1) ((fun n_1 => n_1 + (ak (ah n + ah m)).size) ((fun n => n + 1) ((fun n => n + ((ByteArray.mk (#[35, 91])) ++ s2).size) 0))))))) ((fun n f => bH n f (eO 1 [Dt.cell (Value.int IntKind.u8 41)])) ((fun n => n + s17.size) ((fun n => n + 1) ((fun n => n + 1) ((fun n_1 => n_1 + (ak (ah n + ah m)).size) ((fun n => n + 1) ((fun n => n + ((ByteArray.mk (#[35, 91])) ++ s2).size) 0)))))) ((fun n f => bH n f (lV s17)) ((fun n => n + 1) ((fun n => n + 1) ((fun n_1 => n_1 + (ak (ah n + ah m)).size) ((fun n => n + 1) ((fun n => n + ((ByteArray.mk (#[35, 91])) ++ s2).size) 0))))) ((fun n f => bH n f (eO 1 [Dt.cell (Value.int IntKind.u8 40)])) ((fun n => n + 1) ((fun n_1 => n_1 + (ak (ah n + ah m)).size) ((fun n => n + 1) ((fun n => n + ((ByteArray.mk (#[35, 91])) ++ s2).size) 0)))) ((fun n f => bH n f (eO 1 [Dt.cell (Value.int IntKind.u8 32)])) ((fun n_1 => n_1 + (ak (ah n + ah m)).size) ((fun n => n + 1) ((fun n => n + ((ByteArray.mk (#[35, 91])) ++ s2).size) 0))) ((fun n_1 f => bH n_1 f (lV (ak (ah n + ah m)))) ((fun n => n + 1) ((fun n => n + ((ByteArray.mk (#[35, 91])) ++ s2).size) 0)) ((fun n f => bH n f (eO 1 [Dt.cell (Value.int IntKind.u8 32)])) ((fun n => n + ((ByteArray.mk (#[35, 91])) ++ s2).size) 0) ((fun n f => bH n f (lV ((ByteArray.mk (#[35, 91])) ++ s2))) 0 row0))))))))) /\
 (s24 ++ ak (ah n + ah m) ++ s25 = (ByteArray.mk ((mD ((fun n => n + 1) ((fun n => n + 1) ((fun n => n + s17.size) ((fun n => n + 1) ((fun n => n + 1) ((fun n_1 => n_1 + (ak (ah n + ah m)).size) ((fun n => n + 1) ((fun n => n + ((ByteArray.mk (#[35, 91])) ++ s2).size) 0)))))))) ((fun n f => bH n f (eO 1 [Dt.cell (Value.int IntKind.u8 93)])) ((fun n => n + 1) ((fun n => n + s17.size) ((fun n => n + 1) ((fun n => n + 1) ((fun n_1 => n_1 + (ak (ah n + ah m)).size) ((fun n => n + 1) ((fun n => n + ((ByteArray.mk (#[35, 91])) ++ s2).size) 0))))))) ((fun n f => bH n f (eO 1 [Dt.cell (Value.int IntKind.u8 41)])) ((fun n => n + s17.size) ((fun n => n + 1) ((fun n => n + 1) ((fun n_1 => n_1 + (ak (ah n + ah m)).size) ((fun n => n + 1) ((fun n => n + ((ByteArray.mk (#[35, 91])) ++ s2).size) 0)))))) ((fun n f => bH n f (lV s17)) ((fun n => n + 1) ((fun n => n + 1) ((fun n_1 => n_1 + (ak (ah n + ah m)).size) ((fun n => n + 1) ((fun n => n + ((ByteArray.mk (#[35, 91])) ++ s2).size) 0))))) ((fun n f => bH n f (eO 1 [Dt.cell (Value.int IntKind.u8 40)])) ((fun n => n + 1) ((fun n_1 => n_1 + (ak (ah n + ah m)).size) ((fun n => n + 1) ((fun n => n + ((ByteArray.mk (#[35, 91])) ++ s2).size) 0)))) ((fun n f => bH n f (eO 1 [Dt.cell (Value.int IntKind.u8 32)])) ((fun n_1 => n_1 + (ak (ah n + ah m)).size) ((fun n => n + 1) ((fun n => n + ((ByteArray.mk (#[35, 91])) ++ s2).size) 0))) ((fun n_1 f => bH n_1 f (lV (ak (ah n + ah m)))) ((fun n => n + 1) ((fun n => n + ((ByteArray.mk (#[35, 91])) ++ s2).size) 0)) ((fun n f => bH n f (eO 1 [Dt.cell (Value.int IntKind.u8 32)])) ((fun n => n + ((ByteArray.mk (#[35, 91])) ++ s2).size) 0) ((fun n f => bH n f (lV ((ByteArray.mk (#[35, 91])) ++ s2))) 0 row0))))))))).toArray))) /\
 rp (en (ah n + ah m)) 1 (rp (en (ah m)) 1 (rp (en (ah n)) 1 (qt))))))))))))))) /\ ((decide (ah n < ah m)) = false -> False)))))))))))))))))))))))))))))))))))
 (by
 obtain ⟨h0, h1, h2, h3, h4, h5, h6, h7, h8, h9⟩ := fx n m
 iterate 12 refine av rfl _ ?_
 refine ⟨by simp only [ByteArray.size_append, aM, List.size_toArray, List.length_cons, List.length_nil, List.append_eq, List.length_append, fF]; omega, ?_⟩
 refine ⟨by simp only [ByteArray.size_append, aM, List.size_toArray, List.length_cons, List.length_nil, List.append_eq, List.length_append, fF]; omega, ?_⟩
 refine ⟨by simp only [ByteArray.size_append, aM, List.size_toArray, List.length_cons, List.length_nil, List.append_eq, List.length_append, fF]; omega, ?_⟩
 iterate 4 refine av rfl _ ?_
 refine ⟨by simp only [ByteArray.size_append, aM, List.size_toArray, List.length_cons, List.length_nil, List.append_eq, List.length_append, fF]; omega, ?_⟩
 refine ⟨by simp only [ByteArray.size_append, aM, List.size_toArray, List.length_cons, List.length_nil, List.append_eq, List.length_append, fF]; omega, ?_⟩
 iterate 4 refine av rfl _ ?_
 refine ⟨by simp only [ByteArray.size_append, aM, List.size_toArray, List.length_cons, List.length_nil, List.append_eq, List.length_append, fF]; omega, ?_⟩
 refine ⟨by simp only [ByteArray.size_append, aM, List.size_toArray, List.length_cons, List.length_nil, List.append_eq, List.length_append, fF]; omega, ?_⟩
 iterate 12 refine av rfl _ ?_
 refine ⟨fun hc => ?_, fun hc => ?_⟩
 · iterate 7 refine av rfl _ ?_
   refine ⟨by simp only [ByteArray.size_append, aM, List.size_toArray, List.length_cons, List.length_nil, List.append_eq, List.length_append, fF]; omega, ?_⟩
   refine ⟨by simp only [ByteArray.size_append, aM, List.size_toArray, List.length_cons, List.length_nil, List.append_eq, List.length_append, fF]; omega, ?_⟩
   refine ⟨by simp only [ByteArray.size_append, aM, List.size_toArray, List.length_cons, List.length_nil, List.append_eq, List.length_append, fF]; omega, ?_⟩
   refine av rfl _ ?_
   refine ⟨by simp only [ByteArray.size_append, aM, List.size_toArray, List.length_cons, List.length_nil, List.append_eq, List.length_append, fF]; omega, ?_⟩
   refine ⟨by simp only [ByteArray.size_append, aM, List.size_toArray, List.length_cons, List.length_nil, List.append_eq, List.length_append, fF]; omega, ?_⟩
   refine av rfl _ ?_
   refine ⟨by simp only [ByteArray.size_append, aM, List.size_toArray, List.length_cons, List.length_nil, List.append_eq, List.length_append, fF]; omega, ?_⟩
   refine av rfl _ ?_
   refine ⟨by simp only [ByteArray.size_append, aM, List.size_toArray, List.length_cons, List.length_nil, List.append_eq, List.length_append, Gm, fF]; omega, ?_⟩
   refine av rfl _ ?_
   refine ⟨by simp only [ByteArray.size_append, aM, List.size_toArray, List.length_cons, List.length_nil, List.append_eq, List.length_append, Gm, fF]; omega, ?_⟩
   refine ⟨by simp only [ByteArray.size_append, aM, List.size_toArray, List.length_cons, List.length_nil, List.append_eq, List.length_append, Gm, fF]; omega, ?_⟩
   refine ⟨BJ (fK (fK (jo (fK (fK (jo (fK (jo yc ((ByteArray.mk (#[35, 91])) ++ s2)) 32 rfl) (ak (ah n + ah m))) 32 rfl) 40 rfl) s17) 41 rfl) 93 rfl) (by simp only [ByteArray.size_append, aM, List.size_toArray, List.length_cons, List.length_nil, List.append_eq, List.length_append, Gm, fF]; omega) (by simp only [ByteArray.size_append, aM, List.size_toArray, List.length_cons, List.length_nil, List.append_eq, List.length_append, Gm, fF]; omega), ?_⟩
   refine ⟨O4 (fK (fK (jo (fK (fK (jo (fK (jo yc ((ByteArray.mk (#[35, 91])) ++ s2)) 32 rfl) (ak (ah n + ah m))) 32 rfl) 40 rfl) s17) 41 rfl) 93 rfl) (by (simp only [zu, zw, List.append_assoc, List.nil_append, VE, VD, Lh, SX]) <;> kernel_rfl), ?_⟩
   iterate 3 refine av rfl _ ?_
   rfl
 · exfalso
   simp only [decide_eq_true_eq, decide_eq_false_iff_not] at hc
   omega
 )
  (by kernel_rfl)
end Gv.LMoveTells
