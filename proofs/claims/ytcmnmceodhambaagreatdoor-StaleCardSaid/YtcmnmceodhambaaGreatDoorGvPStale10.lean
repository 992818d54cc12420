/- Told parts of Stale. Printed by gvgen.py. -/
import Derived.Test.YtcmnmceodhambaaGreatDoorGvUStale
import Derived.Test.YtcmnmceodhambaaGreatDoorGvPStale0
import Derived.Test.YtcmnmceodhambaaGreatDoorGvPStale5
set_option linter.unusedSimpArgs false
set_option linter.unusedVariables false
set_option maxRecDepth 100000
open Rx Go
namespace Gv.LStale
open Gv Rd
theorem t83 (n m : Int) : aH prog 63 (e83 n m) := aB [] av (by kernel_rfl) (by kernel_rfl) (q := qt)
 rfl
 (by kernel_rfl)
theorem t84 (n m : Int) : aH prog 66 (e84 n m) := aB [] (tk (f := 60) (tc 26 (t8 n m) (tc 42 (t8 n m) (tc 73 (t8 n m) (tc 85 (t8 n m) aj)))) (tk (f := 127) (tc 26 (t0 n m) (tc 42 (t0 n m) (tc 73 (t0 n m) (tc 85 (t0 n m) aj)))) av)) (by kernel_rfl) (by kernel_rfl) (q := qt)
 rfl
 (by kernel_rfl)
theorem t85 (n m : Int) : aH prog 66 (e85 n m) := aB [] av (by kernel_rfl) (by kernel_rfl) (q := qt)
 rfl
 (by kernel_rfl)
theorem t86 (n m : Int) : aH prog 66 (e86 n m) := aB [] av (by kernel_rfl) (by kernel_rfl) (q := qt)
 rfl
 (by kernel_rfl)
theorem t87 (n m : Int) : aH prog 66 (e87 n m) := aB [] av (by kernel_rfl) (by kernel_rfl) (q := qt)
 rfl
 (by kernel_rfl)
theorem t88 (n m : Int) : aH prog 66 (e88 n m) := aB [] (tk (f := 60) (tc 20 (t8 n m) (tc 38 (t8 n m) aj)) (tk (f := 127) (tc 20 (t0 n m) (tc 38 (t0 n m) aj)) av)) (by kernel_rfl) (by kernel_rfl) (q := qt)
 rfl
 (by kernel_rfl)
theorem t89 (n m : Int) : aH prog 66 (e89 n m) := aB [] av (by kernel_rfl) (by kernel_rfl) (q := qt)
 rfl
 (by kernel_rfl)
theorem t90 (n m : Int) : aH prog 30 (e90 n m) := aB [] (tk (f := 60) (tc 17 (t78 n m) (tc 43 (t78 n m) (tc 48 (t78 n m) (tc 53 (t78 n m) (tc 58 (t78 n m) aj))))) (tk (f := 45) (tc 33 (t6 n m) aj) (tk (f := 63) (tc 34 (t83 n m) aj) (tk (f := 66) (tc 35 (t84 n m) (tc 36 (t85 n m) (tc 37 (t86 n m) (tc 38 (t87 n m) (tc 39 (t88 n m) (tc 40 (t89 n m) aj)))))) (tk (f := 127) (tc 43 (t77 n m) (tc 48 (t77 n m) (tc 53 (t77 n m) (tc 58 (t77 n m) aj)))) av))))) (by kernel_rfl) (by kernel_rfl) (q := rp (en (ah m)) 2 (rp (en (ah n)) 1 (rp (en (ah m)) 1 (rp (en (ah n)) 1 (rp (en (ah m)) 8 (qt))))))
 (au rfl _ (au rfl _ (au rfl _ (au rfl _ (au rfl _ rfl)))))
 (by kernel_rfl)
theorem t91 (n m : Int) : aH prog 82 (e91 n m) := aB [] (tk (f := 30) (tc 19 (t90 n m) aj) (tk (f := 60) (tc 21 (t78 n m) (tc 30 (t78 n m) aj)) (tk (f := 127) (tc 21 (t77 n m) (tc 30 (t77 n m) aj)) av))) (by kernel_rfl) (by kernel_rfl) (q := rp (en (ah m)) 2 (rp (en (ah n)) 1 (rp (en (ah m)) 4 (((fun n => n + (aC (ah m)).size <= 100000) 0) /\
 (rG ((fun n => n + (aC (ah m)).size) 0) ((fun n f => bP n f (kP (aC (ah m)))) 0 row0)) /\
 (aC (ah m) = (ByteArray.mk ((kD ((fun n => n + (aC (ah m)).size) 0) ((fun n f => bP n f (kP (aC (ah m)))) 0 row0)).toArray))) /\
 rp (en (ah m)) 2 (rp (en (ah n)) 1 (qt))))))
 (by
 obtain ⟨h0, h1, h2, h3, h4, h5, h6, h7, h8, h9⟩ := fx n m
 iterate 3 refine au rfl _ ?_
 refine ⟨by simp only [ByteArray.size_append, bU, List.size_toArray, List.length_cons, List.length_nil, List.append_eq, List.length_append]; omega, ?_⟩
 refine ⟨l5 (gQ iR (aC (ah m))) (by simp only [ByteArray.size_append, bU, List.size_toArray, List.length_cons, List.length_nil, List.append_eq, List.length_append]; omega) (by simp only [ByteArray.size_append, bU, List.size_toArray, List.length_cons, List.length_nil, List.append_eq, List.length_append]; omega), ?_⟩
 refine ⟨zl (gQ iR (aC (ah m))) (by (simp only [lU, lH, List.append_assoc, List.nil_append]) <;> kernel_rfl), ?_⟩
 iterate 2 refine au rfl _ ?_
 rfl
 )
  (by kernel_rfl)
end Gv.LStale
set_option linter.unusedSimpArgs false
set_option linter.unusedVariables false
set_option maxRecDepth 100000
open Rx Go
namespace Gv.LStale
open Gv Rd
theorem t92 (n m : Int) : aH prog 40 (e92 n m) := aB [] (tk (f := 22) (tc 19 (t73 n m) aj) (tk (f := 59) (tc 92 (t82 n m) aj) (tk (f := 82) (tc 131166 (t91 n m) aj) av))) (by kernel_rfl) (by kernel_rfl) (q := rp (en (ah m)) 1 (rp (en (ah n)) 1 (rp (en (ah m)) 1 (rp (en (ah n)) 1 (rp (en (ah m)) 1 (rp (en (ah n)) 1 (rp (en (ah m)) 1 (rp (en (ah n)) 1 (rp (en (ah m)) 3 (rp (en (ah n)) 1 ((aC (ah m) = aC (ah m)) /\
 rp (en (ah m)) 2 (rp (en (ah n)) 1 (qt)))))))))))))
 (by
 obtain ⟨h0, h1, h2, h3, h4, h5, h6, h7, h8, h9⟩ := fx n m
 iterate 10 refine au rfl _ ?_
 refine ⟨rfl, ?_⟩
 iterate 2 refine au rfl _ ?_
 rfl
 )
  (by kernel_rfl)
theorem t93 (n m : Int) : aH prog 30 (e93 n m) := aB [] (tk (f := 60) (tc 16 (t78 n m) (tc 42 (t78 n m) (tc 47 (t78 n m) (tc 52 (t78 n m) (tc 57 (t78 n m) aj))))) (tk (f := 45) (tc 32 (t6 n m) aj) (tk (f := 63) (tc 33 (t55 n m) aj) (tk (f := 66) (tc 34 (t56 n m) (tc 35 (t57 n m) (tc 36 (t58 n m) (tc 37 (t59 n m) (tc 38 (t60 n m) (tc 39 (t61 n m) aj)))))) (tk (f := 127) (tc 42 (t77 n m) (tc 47 (t77 n m) (tc 52 (t77 n m) (tc 57 (t77 n m) aj)))) av))))) (by kernel_rfl) (by kernel_rfl) (q := rp (en (ah m)) 2 (rp (en (ah n)) 1 (rp (en (ah m)) 1 (rp (en (ah n)) 1 (rp (en (ah m)) 8 (qt))))))
 (au rfl _ (au rfl _ (au rfl _ (au rfl _ (au rfl _ rfl)))))
 (by kernel_rfl)
theorem t94 (n m : Int) : aH prog 22 (e94 n m) := aB [] (tk (f := 30) (tc 17 (t93 n m) aj) av) (by kernel_rfl) (by kernel_rfl) (q := rp (en (ah m)) 2 (rp (en (ah n)) 1 (qt)))
 (au rfl _ (au rfl _ rfl))
 (by kernel_rfl)
theorem t95 (n m : Int) : aH prog 66 (e95 n m) := aB [] (tk (f := 60) (tc 44 (t8 n m) (tc 80 (t8 n m) aj)) (tk (f := 127) (tc 44 (t0 n m) (tc 80 (t0 n m) aj)) av)) (by kernel_rfl) (by kernel_rfl) (q := qt)
 rfl
 (by kernel_rfl)
theorem t96 (n m : Int) : aH prog 59 (e96 n m) := aB [] (tk (f := 30) (tc 21 (t93 n m) aj) (tk (f := 66) (tc 201 (t95 n m) aj) av)) (by kernel_rfl) (by kernel_rfl) (q := rp (en (ah m)) 2 (rp (en (ah n)) 1 (rp (en (ah m)) 2 (rp (en (ah n)) 1 (qt)))))
 (au rfl _ (au rfl _ (au rfl _ (au rfl _ rfl))))
 (by kernel_rfl)
theorem t97 (n m : Int) : aH prog 127 (e97 n m) := aB [] av (by kernel_rfl) (by kernel_rfl) (q := rp ((.mp (.int .i64) .bool [((0 : Int), true), ((2 : Int), true), ((4 : Int), true), ((6 : Int), true), ((11 : Int), true), ((16 : Int), true)] : Ob) = .mp (.int .i64) .bool [((0 : Int), true), ((2 : Int), true), ((4 : Int), true), ((6 : Int), true), ((11 : Int), true), ((16 : Int), true)]) 1 (qt))
 (au rfl _ rfl)
 (by kernel_rfl)
theorem t98 (n m : Int) : aH prog 60 (e98 n m) := aB [] (tk (f := 127) (tc 2 (t97 n m) aj) av) (by kernel_rfl) (by kernel_rfl) (q := rp (en (ah m)) 1 (qt))
 (au rfl _ rfl)
 (by kernel_rfl)
end Gv.LStale
set_option linter.unusedSimpArgs false
set_option linter.unusedVariables false
set_option maxRecDepth 100000
open Rx Go
namespace Gv.LStale
open Gv Rd
theorem t99 (n m : Int) : aH prog 63 (e99 n m) := aB [] av (by kernel_rfl) (by kernel_rfl) (q := qt)
 rfl
 (by kernel_rfl)
theorem Ya (n m : Int) : aH prog 30 (e100 n m) := aB [] (tk (f := 60) (tc 17 (t98 n m) (tc 43 (t98 n m) (tc 48 (t98 n m) (tc 53 (t98 n m) (tc 58 (t98 n m) aj))))) (tk (f := 45) (tc 33 (t6 n m) aj) (tk (f := 63) (tc 34 (t99 n m) aj) (tk (f := 66) (tc 35 (t84 n m) (tc 36 (t85 n m) (tc 37 (t86 n m) (tc 38 (t87 n m) (tc 39 (t88 n m) (tc 40 (t89 n m) aj)))))) (tk (f := 127) (tc 43 (t97 n m) (tc 48 (t97 n m) (tc 53 (t97 n m) (tc 58 (t97 n m) aj)))) av))))) (by kernel_rfl) (by kernel_rfl) (q := rp (en (ah m)) 2 (rp (en (ah n)) 1 (rp (en (ah m)) 1 (rp (en (ah n)) 1 (rp (en (ah m)) 8 (qt))))))
 (au rfl _ (au rfl _ (au rfl _ (au rfl _ (au rfl _ rfl)))))
 (by kernel_rfl)
theorem Xv (n m : Int) : aH prog 82 (WW n m) := aB [] (tk (f := 30) (tc 19 (Ya n m) aj) (tk (f := 60) (tc 21 (t98 n m) (tc 30 (t98 n m) (tc 48 (t98 n m) (tc 61 (t98 n m) aj)))) (tk (f := 127) (tc 21 (t97 n m) (tc 30 (t97 n m) (tc 48 (t97 n m) (tc 61 (t97 n m) aj)))) av))) (by kernel_rfl) (by kernel_rfl) (q := rp (en (ah m)) 2 (rp (en (ah n)) 1 (rp (en (ah m)) 4 (((((ByteArray.mk (#[35, 91])).size : Nat) : Int) + ((s2.size : Nat) : Int) <= 9223372036854775807) /\
 ((fun n => n + ((ByteArray.mk (#[35, 91])) ++ s2).size <= 100000) 0) /\
 ((fun n => n <= 100000) ((fun n => n + ((ByteArray.mk (#[35, 91])) ++ s2).size) 0)) /\
 rp (en (ah m)) 2 (((fun n => n + (aC 0).size <= 100000) ((fun n => n + 1) ((fun n => n + ((ByteArray.mk (#[35, 91])) ++ s2).size) 0))) /\
 ((fun n => n <= 100000) ((fun n => n + (aC 0).size) ((fun n => n + 1) ((fun n => n + ((ByteArray.mk (#[35, 91])) ++ s2).size) 0)))) /\
 rp (en (ah m)) 2 (((fun n => n + (aC 0).size <= 100000) ((fun n => n + 1) ((fun n => n + (aC 0).size) ((fun n => n + 1) ((fun n => n + ((ByteArray.mk (#[35, 91])) ++ s2).size) 0))))) /\
 ((fun n => n <= 100000) ((fun n => n + (aC 0).size) ((fun n => n + 1) ((fun n => n + (aC 0).size) ((fun n => n + 1) ((fun n => n + ((ByteArray.mk (#[35, 91])) ++ s2).size) 0)))))) /\
 (rG ((fun n => n + 1) ((fun n => n + (aC 0).size) ((fun n => n + 1) ((fun n => n + (aC 0).size) ((fun n => n + 1) ((fun n => n + ((ByteArray.mk (#[35, 91])) ++ s2).size) 0)))))) ((fun n f => bP n f (iK 1 [Dt.cell (Value.int IntKind.u8 93)])) ((fun n => n + (aC 0).size) ((fun n => n + 1) ((fun n => n + (aC 0).size) ((fun n => n + 1) ((fun n => n + ((ByteArray.mk (#[35, 91])) ++ s2).size) 0))))) ((fun n f => bP n f (kP (aC 0))) ((fun n => n + 1) ((fun n => n + (aC 0).size) ((fun n => n + 1) ((fun n => n + ((ByteArray.mk (#[35, 91])) ++ s2).size) 0)))) ((fun n f => bP n f (iK 1 [Dt.cell (Value.int IntKind.u8 32)])) ((fun n => n + (aC 0).size) ((fun n => n + 1) ((fun n => n + ((ByteArray.mk (#[35, 91])) ++ s2).size) 0))) ((fun n f => bP n f (kP (aC 0))) ((fun n => n + 1) ((fun n => n + ((ByteArray.mk (#[35, 91])) ++ s2).size) 0)) ((fun n f => bP n f (iK 1 [Dt.cell (Value.int IntKind.u8 32)])) ((fun n => n + ((ByteArray.mk (#[35, 91])) ++ s2).size) 0) ((fun n f => bP n f (kP ((ByteArray.mk (#[35, 91])) ++ s2))) 0 row0))))))) /\
 (s20 ++ aC 0 ++ s17 ++ aC 0 ++ s21 = (ByteArray.mk ((kD ((fun n => n + 1) ((fun n => n + (aC 0).size) ((fun n => n + 1) ((fun n => n + (aC 0).size) ((fun n => n + 1) ((fun n => n + ((ByteArray.mk (#[35, 91])) ++ s2).size) 0)))))) ((fun n f => bP n f (iK 1 [Dt.cell (Value.int IntKind.u8 93)])) ((fun n => n + (aC 0).size) ((fun n => n + 1) ((fun n => n + (aC 0).size) ((fun n => n + 1) ((fun n => n + ((ByteArray.mk (#[35, 91])) ++ s2).size) 0))))) ((fun n f => bP n f (kP (aC 0))) ((fun n => n + 1) ((fun n => n + (aC 0).size) ((fun n => n + 1) ((fun n => n + ((ByteArray.mk (#[35, 91])) ++ s2).size) 0)))) ((fun n f => bP n f (iK 1 [Dt.cell (Value.int IntKind.u8 32)])) ((fun n => n + (aC 0).size) ((fun n => n + 1) ((fun n => n + ((ByteArray.mk (#[35, 91])) ++ s2).size) 0))) ((fun n f => bP n f (kP (aC 0))) ((fun n => n + 1) ((fun n => n + ((ByteArray.mk (#[35, 91])) ++ s2).size) 0)) ((fun n f => bP n f (iK 1 [Dt.cell (Value.int IntKind.u8 32)])) ((fun n => n + ((ByteArray.mk (#[35, 91])) ++ s2).size) 0) ((fun n f => bP n f (kP ((ByteArray.mk (#[35, 91])) ++ s2))) 0 row0))))))).toArray))) /\
 rp (en (ah m)) 2 (rp (en (ah n)) 1 (qt))))))))
 (by
 obtain ⟨h0, h1, h2, h3, h4, h5, h6, h7, h8, h9⟩ := fx n m
 iterate 3 refine au rfl _ ?_
 refine ⟨by simp only [ByteArray.size_append, bU, List.size_toArray, List.length_cons, List.length_nil, List.append_eq, List.length_append, D6]; omega, ?_⟩
 refine ⟨by simp only [ByteArray.size_append, bU, List.size_toArray, List.length_cons, List.length_nil, List.append_eq, List.length_append, D6]; omega, ?_⟩
 refine ⟨by simp only [ByteArray.size_append, bU, List.size_toArray, List.length_cons, List.length_nil, List.append_eq, List.length_append, D6]; omega, ?_⟩
 refine au rfl _ ?_
 refine ⟨by simp only [ByteArray.size_append, bU, List.size_toArray, List.length_cons, List.length_nil, List.append_eq, List.length_append, D6]; omega, ?_⟩
 refine ⟨by simp only [ByteArray.size_append, bU, List.size_toArray, List.length_cons, List.length_nil, List.append_eq, List.length_append, D6]; omega, ?_⟩
 refine au rfl _ ?_
 refine ⟨by simp only [ByteArray.size_append, bU, List.size_toArray, List.length_cons, List.length_nil, List.append_eq, List.length_append, D6]; omega, ?_⟩
 refine ⟨by simp only [ByteArray.size_append, bU, List.size_toArray, List.length_cons, List.length_nil, List.append_eq, List.length_append, D6]; omega, ?_⟩
 refine ⟨l5 (vo (gQ (vo (gQ (vo (gQ iR ((ByteArray.mk (#[35, 91])) ++ s2)) 32 rfl) (aC 0)) 32 rfl) (aC 0)) 93 rfl) (by simp only [ByteArray.size_append, bU, List.size_toArray, List.length_cons, List.length_nil, List.append_eq, List.length_append, D6]; omega) (by simp only [ByteArray.size_append, bU, List.size_toArray, List.length_cons, List.length_nil, List.append_eq, List.length_append, D6]; omega), ?_⟩
 refine ⟨zl (vo (gQ (vo (gQ (vo (gQ iR ((ByteArray.mk (#[35, 91])) ++ s2)) 32 rfl) (aC 0)) 32 rfl) (aC 0)) 93 rfl) (by (simp only [lU, lH, List.append_assoc, List.nil_append, Sy, Xm, Wp, Wt]) <;> kernel_rfl), ?_⟩
 iterate 2 refine au rfl _ ?_
 rfl
 )
  (by kernel_rfl)
theorem WV (n m : Int) : aH prog 40 (VW n m) := aB [] (tk (f := 22) (tc 19 (t94 n m) aj) (tk (f := 59) (tc 92 (t96 n m) aj) (tk (f := 82) (tc 131166 (Xv n m) aj) av))) (by kernel_rfl) (by kernel_rfl) (q := rp (en (ah m)) 2 (rp (en (ah n)) 1 (rp (en (ah m)) 2 (rp (en (ah n)) 1 (rp (en (ah m)) 2 (rp (en (ah n)) 1 ((s20 ++ aC 0 ++ s17 ++ aC 0 ++ s21 = s20 ++ aC 0 ++ s17 ++ aC 0 ++ s21) /\
 rp (en (ah m)) 2 (rp (en (ah n)) 1 (qt)))))))))
 (by
 obtain ⟨h0, h1, h2, h3, h4, h5, h6, h7, h8, h9⟩ := fx n m
 iterate 6 refine au rfl _ ?_
 refine ⟨rfl, ?_⟩
 iterate 2 refine au rfl _ ?_
 rfl
 )
  (by kernel_rfl)
end Gv.LStale
set_option linter.unusedSimpArgs false
set_option linter.unusedVariables false
set_option maxRecDepth 100000
open Rx Go
namespace Gv.LStale
open Gv Rd
theorem Vs (n m : Int) : aH prog 30 (X7 n m) := aB [] (tk (f := 60) (tc 16 (t98 n m) (tc 42 (t98 n m) (tc 47 (t98 n m) (tc 52 (t98 n m) (tc 57 (t98 n m) aj))))) (tk (f := 45) (tc 32 (t6 n m) aj) (tk (f := 63) (tc 33 (t55 n m) aj) (tk (f := 66) (tc 34 (t56 n m) (tc 35 (t57 n m) (tc 36 (t58 n m) (tc 37 (t59 n m) (tc 38 (t60 n m) (tc 39 (t61 n m) aj)))))) (tk (f := 127) (tc 42 (t97 n m) (tc 47 (t97 n m) (tc 52 (t97 n m) (tc 57 (t97 n m) aj)))) av))))) (by kernel_rfl) (by kernel_rfl) (q := rp (en (ah m)) 2 (rp (en (ah n)) 1 (rp (en (ah m)) 1 (rp (en (ah n)) 1 (rp (en (ah m)) 8 (qt))))))
 (au rfl _ (au rfl _ (au rfl _ (au rfl _ (au rfl _ rfl)))))
 (by kernel_rfl)
theorem XP (n m : Int) : aH prog 22 (Xe n m) := aB [] (tk (f := 30) (tc 17 (Vs n m) aj) av) (by kernel_rfl) (by kernel_rfl) (q := rp (en (ah m)) 2 (rp (en (ah n)) 1 (qt)))
 (au rfl _ (au rfl _ rfl))
 (by kernel_rfl)
theorem t105 (n m : Int) : aH prog 45 (Xu n m) := aB [] av (by kernel_rfl) (by kernel_rfl) (q := qt)
 rfl
 (by kernel_rfl)
theorem WU (n m : Int) : aH prog 28 (Xg n m) := aB [] (tk (f := 45) (tc 5 (t105 n m) aj) av) (by kernel_rfl) (by kernel_rfl) (q := rp ((D (.arr 4 2 (dxL [(sy s15), (sy s4)])) : SV) = D (.arr 4 2 (dxL [(sy s15), (sy s4)]))) 1 (rp ((D (.arr 4 2 (fun i j => (dxL [(sy s14), (sy s2), (ls [(sy s15), (sy s4)])]) (i + (Rx.z0 (Option.some (1 : Int))).toNat) (j))) : SV) = D (.arr 4 2 (fun i j => (dxL [(sy s14), (sy s2), (ls [(sy s15), (sy s4)])]) (i + (Rx.z0 (Option.some (1 : Int))).toNat) (j)))) 1 (qt)))
 (au rfl _ (au rfl _ rfl))
 (by kernel_rfl)
theorem t107 (n m : Int) : aH prog 63 (XE n m) := aB [] av (by kernel_rfl) (by kernel_rfl) (q := qt)
 rfl
 (by kernel_rfl)
theorem TU (n m : Int) : aH prog 66 (e108 n m) := aB [] (tk (f := 60) (tc 26 (t8 n m) (tc 42 (t8 n m) (tc 73 (t8 n m) (tc 85 (t8 n m) aj)))) (tk (f := 127) (tc 26 (t0 n m) (tc 42 (t0 n m) (tc 73 (t0 n m) (tc 85 (t0 n m) aj)))) av)) (by kernel_rfl) (by kernel_rfl) (q := qt)
 rfl
 (by kernel_rfl)
theorem t109 (n m : Int) : aH prog 66 (e109 n m) := aB [] av (by kernel_rfl) (by kernel_rfl) (q := qt)
 rfl
 (by kernel_rfl)
theorem Um (n m : Int) : aH prog 66 (WT n m) := aB [] av (by kernel_rfl) (by kernel_rfl) (q := qt)
 rfl
 (by kernel_rfl)
theorem TP (n m : Int) : aH prog 66 (XK n m) := aB [] av (by kernel_rfl) (by kernel_rfl) (q := qt)
 rfl
 (by kernel_rfl)
end Gv.LStale
set_option linter.unusedSimpArgs false
set_option linter.unusedVariables false
set_option maxRecDepth 100000
open Rx Go
namespace Gv.LStale
open Gv Rd
theorem TS (n m : Int) : aH prog 66 (Xc n m) := aB [] (tk (f := 60) (tc 20 (t8 n m) (tc 38 (t8 n m) aj)) (tk (f := 127) (tc 20 (t0 n m) (tc 38 (t0 n m) aj)) av)) (by kernel_rfl) (by kernel_rfl) (q := qt)
 rfl
 (by kernel_rfl)
theorem LC (n m : Int) : aH prog 66 (Xl n m) := aB [] av (by kernel_rfl) (by kernel_rfl) (q := qt)
 rfl
 (by kernel_rfl)
theorem UQ (n m : Int) : aH prog 30 (Xp n m) := aB [] (tk (f := 60) (tc 19 (t98 n m) (tc 46 (t98 n m) (tc 51 (t98 n m) (tc 56 (t98 n m) (tc 61 (t98 n m) aj))))) (tk (f := 45) (tc 35 (t6 n m) aj) (tk (f := 63) (tc 36 (t107 n m) aj) (tk (f := 66) (tc 37 (TU n m) (tc 38 (t109 n m) (tc 39 (Um n m) (tc 40 (TP n m) (tc 41 (TS n m) (tc 42 (LC n m) (tc 43 (LC n m) aj))))))) (tk (f := 127) (tc 46 (t97 n m) (tc 51 (t97 n m) (tc 56 (t97 n m) (tc 61 (t97 n m) aj)))) av))))) (by kernel_rfl) (by kernel_rfl) (q := rp (en (ah m)) 2 (rp (en (ah n)) 1 (rp (en (ah m)) 1 (rp (en (ah n)) 1 (rp (en (ah m)) 8 (qt))))))
 (au rfl _ (au rfl _ (au rfl _ (au rfl _ (au rfl _ rfl)))))
 (by kernel_rfl)
theorem Ms (n m : Int) : aH prog 127 (e115 n m) := aB [] av (by kernel_rfl) (by kernel_rfl) (q := rp ((.mp (.int .i64) .bool [((0 : Int), true), ((5 : Int), true), ((7 : Int), true), ((9 : Int), true)] : Ob) = .mp (.int .i64) .bool [((0 : Int), true), ((5 : Int), true), ((7 : Int), true), ((9 : Int), true)]) 1 (qt))
 (au rfl _ rfl)
 (by kernel_rfl)
theorem t116 (n m : Int) : aH prog 60 (e116 n m) := aB [] (tk (f := 127) (tc 2 (Ms n m) aj) av) (by kernel_rfl) (by kernel_rfl) (q := rp (en (ah m)) 1 (qt))
 (au rfl _ rfl)
 (by kernel_rfl)
theorem t117 (n m : Int) : aH prog 30 (e117 n m) := aB [] (tk (f := 60) (tc 19 (t116 n m) (tc 46 (t116 n m) (tc 51 (t116 n m) (tc 56 (t116 n m) (tc 61 (t116 n m) aj))))) (tk (f := 45) (tc 35 (t6 n m) aj) (tk (f := 63) (tc 36 (t107 n m) aj) (tk (f := 66) (tc 37 (TU n m) (tc 38 (t109 n m) (tc 39 (Um n m) (tc 40 (TP n m) (tc 41 (TS n m) (tc 42 (LC n m) (tc 43 (LC n m) aj))))))) (tk (f := 127) (tc 46 (Ms n m) (tc 51 (Ms n m) (tc 56 (Ms n m) (tc 61 (Ms n m) aj)))) av))))) (by kernel_rfl) (by kernel_rfl) (q := rp (en (ah m)) 2 (rp (en (ah n)) 1 (rp (en (ah m)) 1 (rp (en (ah n)) 1 (rp (en (ah m)) 8 (qt))))))
 (au rfl _ (au rfl _ (au rfl _ (au rfl _ (au rfl _ rfl)))))
 (by kernel_rfl)
theorem Wz (n m : Int) : aH prog 127 (e118 n m) := aB [] av (by kernel_rfl) (by kernel_rfl) (q := rp ((.mp (.int .i64) .bool [((0 : Int), true), ((5 : Int), true), ((7 : Int), true), ((9 : Int), true), ((11 : Int), true)] : Ob) = .mp (.int .i64) .bool [((0 : Int), true), ((5 : Int), true), ((7 : Int), true), ((9 : Int), true), ((11 : Int), true)]) 1 (qt))
 (au rfl _ rfl)
 (by kernel_rfl)
theorem t119 (n m : Int) : aH prog 60 (e119 n m) := aB [] (tk (f := 127) (tc 2 (Wz n m) aj) av) (by kernel_rfl) (by kernel_rfl) (q := rp (en (ah m)) 2 (qt))
 (au rfl _ rfl)
 (by kernel_rfl)
theorem XM (n m : Int) : aH prog 127 (e120 n m) := aB [] av (by kernel_rfl) (by kernel_rfl) (q := rp ((.mp (.int .i64) .bool [((0 : Int), true), ((5 : Int), true), ((7 : Int), true), ((9 : Int), true), ((11 : Int), true)] : Ob) = .mp (.int .i64) .bool [((0 : Int), true), ((5 : Int), true), ((7 : Int), true), ((9 : Int), true), ((11 : Int), true)]) 1 (qt))
 (au rfl _ rfl)
 (by kernel_rfl)
theorem Xq (n m : Int) : aH prog 60 (X4 n m) := aB [] (tk (f := 127) (tc 2 (XM n m) aj) av) (by kernel_rfl) (by kernel_rfl) (q := rp (en (ah m)) 1 (qt))
 (au rfl _ rfl)
 (by kernel_rfl)
end Gv.LStale
