/- Told parts of Stale. Printed by gvgen.py. -/
import Derived.Test.YtcmnmceodhambaaGreatDoorGvUStale
import Derived.Test.YtcmnmceodhambaaGreatDoorGvPStale0
set_option linter.unusedSimpArgs false
set_option linter.unusedVariables false
set_option maxRecDepth 100000
open Rx Go
namespace Gv.LStale
open Gv Rd
theorem t48 (n m : Int) : aH prog 59 (e48 n m) := aB [] (tk (f := 30) (tc 16 (t45 n m) aj) (tk (f := 66) (tc 177 (t47 n m) aj) av)) (by kernel_rfl) (by kernel_rfl) (q := rp (en (ah m)) 1 (rp (en (ah n)) 1 (rp (en (ah m)) 1 (rp (en (ah n)) 1 (rp (en (ah m)) 3 (rp (en (ah n)) 1 (rp (en (ah m)) 1 (rp (en (ah n)) 1 (qt)))))))))
 (au rfl _ (au rfl _ (au rfl _ (au rfl _ (au rfl _ (au rfl _ (au rfl _ (au rfl _ rfl))))))))
 (by kernel_rfl)
theorem t49 (n m : Int) : aH prog 63 (e49 n m) := aB [] av (by kernel_rfl) (by kernel_rfl) (q := qt)
 rfl
 (by kernel_rfl)
theorem t50 (n m : Int) : aH prog 30 (e50 n m) := aB [] (tk (f := 60) (tc 12 (t31 n m) (tc 36 (t31 n m) (tc 41 (t31 n m) (tc 46 (t31 n m) (tc 51 (t31 n m) aj))))) (tk (f := 45) (tc 28 (t6 n m) aj) (tk (f := 63) (tc 29 (t49 n m) aj) (tk (f := 66) (tc 30 (t33 n m) (tc 31 (t34 n m) (tc 32 (t35 n m) (tc 33 (t36 n m) aj)))) (tk (f := 127) (tc 36 (t30 n m) (tc 41 (t30 n m) (tc 46 (t30 n m) (tc 51 (t30 n m) aj)))) av))))) (by kernel_rfl) (by kernel_rfl) (q := rp (en (ah m)) 1 (rp (en (ah n)) 1 (rp (en (ah m)) 1 (rp (en (ah n)) 1 (rp (en (ah m)) 1 (rp (en (ah n)) 1 (rp (en (ah m)) 1 (rp (en (ah n)) 1 (rp (en (ah m)) 1 (rp (en (ah n)) 1 (rp (en (ah m)) 1 (rp (en (ah n)) 1 (rp (en (ah m)) 1 (rp (en (ah n)) 1 (rp (en (ah m)) 1 (rp (en (ah n)) 1 (rp (en (ah m)) 1 (rp (en (ah n)) 1 (rp (en (ah m)) 1 (rp (en (ah n)) 1 (rp (en (ah m)) 1 (rp (en (ah n)) 1 (qt)))))))))))))))))))))))
 (au rfl _ (au rfl _ (au rfl _ (au rfl _ (au rfl _ (au rfl _ (au rfl _ (au rfl _ (au rfl _ (au rfl _ (au rfl _ (au rfl _ (au rfl _ (au rfl _ (au rfl _ (au rfl _ (au rfl _ (au rfl _ (au rfl _ (au rfl _ (au rfl _ (au rfl _ rfl))))))))))))))))))))))
 (by kernel_rfl)
theorem t51 (n m : Int) : aH prog 82 (e51 n m) := aB [] (tk (f := 30) (tc 14 (t50 n m) aj) (tk (f := 60) (tc 16 (t31 n m) (tc 25 (t31 n m) aj)) (tk (f := 127) (tc 16 (t30 n m) (tc 25 (t30 n m) aj)) av))) (by kernel_rfl) (by kernel_rfl) (q := rp (en (ah m)) 1 (rp (en (ah n)) 1 (rp (en (ah m)) 1 (rp (en (ah n)) 1 (rp (en (ah m)) 1 (rp (en (ah n)) 1 (rp (en (ah m)) 1 (rp (en (ah n)) 1 (rp (en (ah m)) 1 (rp (en (ah n)) 1 (rp (en (ah m)) 1 (rp (en (ah n)) 1 (((fun n => n + (aC (ah m)).size <= 100000) 0) /\
 (rG ((fun n => n + (aC (ah m)).size) 0) ((fun n f => bP n f (kP (aC (ah m)))) 0 row0)) /\
 (aC (ah m) = (ByteArray.mk ((kD ((fun n => n + (aC (ah m)).size) 0) ((fun n f => bP n f (kP (aC (ah m)))) 0 row0)).toArray))) /\
 rp (en (ah m)) 1 (rp (en (ah n)) 1 (rp (en (ah m)) 1 (rp (en (ah n)) 1 (qt)))))))))))))))))
 (by
 obtain ⟨h0, h1, h2, h3, h4, h5, h6, h7, h8, h9⟩ := fx n m
 iterate 12 refine au rfl _ ?_
 refine ⟨by simp only [ByteArray.size_append, bU, List.size_toArray, List.length_cons, List.length_nil, List.append_eq, List.length_append]; omega, ?_⟩
 refine ⟨l5 (gQ iR (aC (ah m))) (by simp only [ByteArray.size_append, bU, List.size_toArray, List.length_cons, List.length_nil, List.append_eq, List.length_append]; omega) (by simp only [ByteArray.size_append, bU, List.size_toArray, List.length_cons, List.length_nil, List.append_eq, List.length_append]; omega), ?_⟩
 refine ⟨zl (gQ iR (aC (ah m))) (by (simp only [lU, lH, List.append_assoc, List.nil_append]) <;> kernel_rfl), ?_⟩
 iterate 4 refine au rfl _ ?_
 rfl
 )
  (by kernel_rfl)
theorem t52 (n m : Int) : aH prog 40 (e52 n m) := aB [] (tk (f := 22) (tc 14 (t46 n m) aj) (tk (f := 59) (tc 87 (t48 n m) aj) (tk (f := 82) (tc 131161 (t51 n m) aj) av))) (by kernel_rfl) (by kernel_rfl) (q := rp (en (ah m)) 1 (rp (en (ah n)) 1 (rp (en (ah m)) 1 (rp (en (ah n)) 1 (rp (en (ah m)) 1 (rp (en (ah n)) 1 (rp (en (ah m)) 1 (rp (en (ah n)) 1 (rp (en (ah m)) 2 (rp (en (ah n)) 1 (rp (en (ah m)) 1 (rp (en (ah n)) 1 ((aC (ah m) = aC (ah m)) /\
 rp (en (ah m)) 1 (rp (en (ah n)) 1 (rp (en (ah m)) 1 (rp (en (ah n)) 1 (qt)))))))))))))))))
 (by
 obtain ⟨h0, h1, h2, h3, h4, h5, h6, h7, h8, h9⟩ := fx n m
 iterate 12 refine au rfl _ ?_
 refine ⟨rfl, ?_⟩
 iterate 4 refine au rfl _ ?_
 rfl
 )
  (by kernel_rfl)
theorem t53 (n m : Int) : aH prog 45 (e53 n m) := aB [] av (by kernel_rfl) (by kernel_rfl) (q := qt)
 rfl
 (by kernel_rfl)
end Gv.LStale
set_option linter.unusedSimpArgs false
set_option linter.unusedVariables false
set_option maxRecDepth 100000
open Rx Go
namespace Gv.LStale
open Gv Rd
theorem t54 (n m : Int) : aH prog 28 (e54 n m) := aB [] (tk (f := 45) (tc 5 (t53 n m) aj) av) (by kernel_rfl) (by kernel_rfl) (q := rp ((D (.arr 4 2 (dxL [(sy s15), (sy s4)])) : SV) = D (.arr 4 2 (dxL [(sy s15), (sy s4)]))) 1 (rp ((D (.arr 4 3 (fun i j => (dxL [(sy s14), (sy s2), (num 7), (ls [(sy s15), (sy s4)])]) (i + (Rx.z0 (Option.some (1 : Int))).toNat) (j))) : SV) = D (.arr 4 3 (fun i j => (dxL [(sy s14), (sy s2), (num 7), (ls [(sy s15), (sy s4)])]) (i + (Rx.z0 (Option.some (1 : Int))).toNat) (j)))) 1 (rp (((dxL []) : Nat -> Nat -> Dt) = (dxL [])) 1 (qt))))
 (au rfl _ (au rfl _ (au rfl _ rfl)))
 (by kernel_rfl)
theorem t55 (n m : Int) : aH prog 63 (e55 n m) := aB [] av (by kernel_rfl) (by kernel_rfl) (q := qt)
 rfl
 (by kernel_rfl)
theorem t56 (n m : Int) : aH prog 66 (e56 n m) := aB [] (tk (f := 60) (tc 26 (t8 n m) (tc 42 (t8 n m) (tc 73 (t8 n m) (tc 85 (t8 n m) aj)))) (tk (f := 127) (tc 26 (t0 n m) (tc 42 (t0 n m) (tc 73 (t0 n m) (tc 85 (t0 n m) aj)))) av)) (by kernel_rfl) (by kernel_rfl) (q := qt)
 rfl
 (by kernel_rfl)
theorem t57 (n m : Int) : aH prog 66 (e57 n m) := aB [] av (by kernel_rfl) (by kernel_rfl) (q := qt)
 rfl
 (by kernel_rfl)
theorem t58 (n m : Int) : aH prog 66 (e58 n m) := aB [] av (by kernel_rfl) (by kernel_rfl) (q := qt)
 rfl
 (by kernel_rfl)
theorem t59 (n m : Int) : aH prog 66 (e59 n m) := aB [] av (by kernel_rfl) (by kernel_rfl) (q := qt)
 rfl
 (by kernel_rfl)
theorem t60 (n m : Int) : aH prog 66 (e60 n m) := aB [] (tk (f := 60) (tc 20 (t8 n m) (tc 38 (t8 n m) aj)) (tk (f := 127) (tc 20 (t0 n m) (tc 38 (t0 n m) aj)) av)) (by kernel_rfl) (by kernel_rfl) (q := qt)
 rfl
 (by kernel_rfl)
theorem t61 (n m : Int) : aH prog 66 (e61 n m) := aB [] av (by kernel_rfl) (by kernel_rfl) (q := qt)
 rfl
 (by kernel_rfl)
theorem t62 (n m : Int) : aH prog 30 (e62 n m) := aB [] (tk (f := 60) (tc 16 (t31 n m) (tc 42 (t31 n m) (tc 47 (t31 n m) (tc 52 (t31 n m) (tc 57 (t31 n m) aj))))) (tk (f := 45) (tc 32 (t6 n m) aj) (tk (f := 63) (tc 33 (t55 n m) aj) (tk (f := 66) (tc 34 (t56 n m) (tc 35 (t57 n m) (tc 36 (t58 n m) (tc 37 (t59 n m) (tc 38 (t60 n m) (tc 39 (t61 n m) aj)))))) (tk (f := 127) (tc 42 (t30 n m) (tc 47 (t30 n m) (tc 52 (t30 n m) (tc 57 (t30 n m) aj)))) av))))) (by kernel_rfl) (by kernel_rfl) (q := rp (en (ah m)) 1 (rp (en (ah n)) 1 (rp (en (ah m)) 1 (rp (en (ah n)) 1 (rp (en (ah m)) 1 (rp (en (ah n)) 1 (rp (en (ah m)) 1 (rp (en (ah n)) 1 (rp (en (ah m)) 1 (rp (en (ah n)) 1 (rp (en (ah m)) 1 (rp (en (ah n)) 1 (rp (en (ah m)) 1 (rp (en (ah n)) 1 (rp (en (ah m)) 1 (rp (en (ah n)) 1 (rp (en (ah m)) 1 (rp (en (ah n)) 1 (rp (en (ah m)) 1 (rp (en (ah n)) 1 (rp (en (ah m)) 1 (rp (en (ah n)) 1 (qt)))))))))))))))))))))))
 (au rfl _ (au rfl _ (au rfl _ (au rfl _ (au rfl _ (au rfl _ (au rfl _ (au rfl _ (au rfl _ (au rfl _ (au rfl _ (au rfl _ (au rfl _ (au rfl _ (au rfl _ (au rfl _ (au rfl _ (au rfl _ (au rfl _ (au rfl _ (au rfl _ (au rfl _ rfl))))))))))))))))))))))
 (by kernel_rfl)
theorem t63 (n m : Int) : aH prog 127 (e63 n m) := aB [] av (by kernel_rfl) (by kernel_rfl) (q := rp ((.mp (.int .i64) .bool [((0 : Int), true), ((5 : Int), true), ((7 : Int), true), ((9 : Int), true)] : Ob) = .mp (.int .i64) .bool [((0 : Int), true), ((5 : Int), true), ((7 : Int), true), ((9 : Int), true)]) 1 (qt))
 (au rfl _ rfl)
 (by kernel_rfl)
end Gv.LStale
set_option linter.unusedSimpArgs false
set_option linter.unusedVariables false
set_option maxRecDepth 100000
open Rx Go
namespace Gv.LStale
open Gv Rd
theorem t64 (n m : Int) : aH prog 60 (e64 n m) := aB [] (tk (f := 127) (tc 2 (t63 n m) aj) av) (by kernel_rfl) (by kernel_rfl) (q := rp (en (ah m)) 1 (rp (en (ah n)) 1 (qt)))
 (au rfl _ (au rfl _ rfl))
 (by kernel_rfl)
theorem t65 (n m : Int) : aH prog 30 (e65 n m) := aB [] (tk (f := 60) (tc 16 (t64 n m) (tc 42 (t64 n m) (tc 47 (t64 n m) (tc 52 (t64 n m) (tc 57 (t64 n m) aj))))) (tk (f := 45) (tc 32 (t6 n m) aj) (tk (f := 63) (tc 33 (t55 n m) aj) (tk (f := 66) (tc 34 (t56 n m) (tc 35 (t57 n m) (tc 36 (t58 n m) (tc 37 (t59 n m) (tc 38 (t60 n m) (tc 39 (t61 n m) aj)))))) (tk (f := 127) (tc 42 (t63 n m) (tc 47 (t63 n m) (tc 52 (t63 n m) (tc 57 (t63 n m) aj)))) av))))) (by kernel_rfl) (by kernel_rfl) (q := rp (en (ah m)) 1 (rp (en (ah n)) 1 (rp (en (ah m)) 1 (rp (en (ah n)) 1 (rp (en (ah m)) 1 (rp (en (ah n)) 1 (rp (en (ah m)) 1 (rp (en (ah n)) 1 (rp (en (ah m)) 1 (rp (en (ah n)) 1 (rp (en (ah m)) 1 (rp (en (ah n)) 1 (rp (en (ah m)) 1 (rp (en (ah n)) 1 (rp (en (ah m)) 1 (rp (en (ah n)) 1 (rp (en (ah m)) 1 (rp (en (ah n)) 1 (rp (en (ah m)) 1 (rp (en (ah n)) 1 (rp (en (ah m)) 1 (rp (en (ah n)) 1 (qt)))))))))))))))))))))))
 (au rfl _ (au rfl _ (au rfl _ (au rfl _ (au rfl _ (au rfl _ (au rfl _ (au rfl _ (au rfl _ (au rfl _ (au rfl _ (au rfl _ (au rfl _ (au rfl _ (au rfl _ (au rfl _ (au rfl _ (au rfl _ (au rfl _ (au rfl _ (au rfl _ (au rfl _ rfl))))))))))))))))))))))
 (by kernel_rfl)
theorem t66 (n m : Int) : aH prog 127 (e66 n m) := aB [] av (by kernel_rfl) (by kernel_rfl) (q := rp ((.mp (.int .i64) .bool [((0 : Int), true), ((5 : Int), true), ((7 : Int), true), ((9 : Int), true), ((11 : Int), true)] : Ob) = .mp (.int .i64) .bool [((0 : Int), true), ((5 : Int), true), ((7 : Int), true), ((9 : Int), true), ((11 : Int), true)]) 1 (qt))
 (au rfl _ rfl)
 (by kernel_rfl)
theorem t67 (n m : Int) : aH prog 60 (e67 n m) := aB [] (tk (f := 127) (tc 2 (t66 n m) aj) av) (by kernel_rfl) (by kernel_rfl) (q := rp (en (ah m)) 1 (rp (en (ah n)) 1 (rp (en (ah m)) 1 (qt))))
 (au rfl _ (au rfl _ (au rfl _ rfl)))
 (by kernel_rfl)
theorem t68 (n m : Int) : aH prog 127 (e68 n m) := aB [] av (by kernel_rfl) (by kernel_rfl) (q := rp ((.mp (.int .i64) .bool [((0 : Int), true), ((5 : Int), true), ((7 : Int), true), ((9 : Int), true), ((11 : Int), true)] : Ob) = .mp (.int .i64) .bool [((0 : Int), true), ((5 : Int), true), ((7 : Int), true), ((9 : Int), true), ((11 : Int), true)]) 1 (qt))
 (au rfl _ rfl)
 (by kernel_rfl)
theorem t69 (n m : Int) : aH prog 60 (e69 n m) := aB [] (tk (f := 127) (tc 2 (t68 n m) aj) av) (by kernel_rfl) (by kernel_rfl) (q := rp (en (ah m)) 1 (qt))
 (au rfl _ rfl)
 (by kernel_rfl)
theorem t70 (n m : Int) : aH prog 116 (e70 n m) := aB [] (tk (f := 30) (tc 20 (t65 n m) aj) (tk (f := 60) (tc 202 (t64 n m) (tc 288 (t67 n m) (tc 354 (t69 n m) aj))) (tk (f := 127) (tc 202 (t63 n m) (tc 288 (t66 n m) aj)) av))) (by kernel_rfl) (by kernel_rfl) (q := rp (en (ah m)) 1 (rp (en (ah n)) 1 (rp (en (ah m)) 1 (rp (en (ah n)) 1 (rp (en (ah m)) 1 (rp (en (ah n)) 1 (rp (en (ah m)) 1 (rp (en (ah n)) 1 (rp (en (ah m)) 1 (rp (en (ah n)) 1 (rp (en (ah m)) 2 (rp (en (ah n)) 1 (rp (en (ah m)) 4 (rp (en (ah n)) 1 (qt)))))))))))))))
 (au rfl _ (au rfl _ (au rfl _ (au rfl _ (au rfl _ (au rfl _ (au rfl _ (au rfl _ (au rfl _ (au rfl _ (au rfl _ (au rfl _ (au rfl _ (au rfl _ rfl))))))))))))))
 (by kernel_rfl)
end Gv.LStale
set_option linter.unusedSimpArgs false
set_option linter.unusedVariables false
set_option maxRecDepth 100000
open Rx Go
namespace Gv.LStale
open Gv Rd
theorem t71 (n m : Int) : aH prog 29 (e71 n m) := aB [] (tk (f := 30) (tc 17 (t45 n m) (tc 349 (t62 n m) aj)) (tk (f := 60) (tc 365 (t31 n m) aj) (tk (f := 127) (tc 365 (t30 n m) aj) (tk (f := 116) (tc 625 (t70 n m) aj) av)))) (by kernel_rfl) (by kernel_rfl) (q := rp (en (ah m)) 1 (rp (en (ah n)) 1 (rp (en (ah m)) 1 (rp (en (ah n)) 1 (rp (en (ah m)) 1 (rp (en (ah n)) 1 (rp (en (ah m)) 1 (rp (en (ah n)) 1 (rp (en (ah m)) 1 (rp (en (ah n)) 1 (rp (en (ah m)) 1 (rp (en (ah n)) 1 (rp (en (ah m)) 1 (rp (en (ah n)) 1 (rp (en (ah m)) 1 (rp (en (ah n)) 1 (rp (en (ah m)) 1 (rp (en (ah n)) 1 (rp (en (ah m)) 1 (rp (en (ah n)) 1 (qt)))))))))))))))))))))
 (au rfl _ (au rfl _ (au rfl _ (au rfl _ (au rfl _ (au rfl _ (au rfl _ (au rfl _ (au rfl _ (au rfl _ (au rfl _ (au rfl _ (au rfl _ (au rfl _ (au rfl _ (au rfl _ (au rfl _ (au rfl _ (au rfl _ (au rfl _ rfl))))))))))))))))))))
 (by kernel_rfl)
theorem t72 (n m : Int) : aH prog 39 (e72 n m) := aB [(12, [(ls [(sy s1), (sy s2), (sy s13), (sy s4)]), (ls [(sy s14), (sy s2), (num 7), (ls [(sy s15), (sy s4)])])])] (tk (f := 22) (tc 12 (t46 n m) aj) (tk (f := 28) (tc 16 (t54 n m) aj) (tk (f := 29) (tc 21 (t71 n m) aj) av))) (by kernel_rfl) (by kernel_rfl) (q := (s19.size <= 3000 /\ oC 400 s19 = some (RR.mk (oU ([ls [sy (ByteArray.mk (#[114, 101, 99, 111, 114, 100])), sy (ByteArray.mk (#[112])), sy (ByteArray.mk (#[99])), sy (ByteArray.mk (#[98]))], ls [sy (ByteArray.mk (#[117, 112, 103, 114, 97, 100, 101])), sy (ByteArray.mk (#[112])), num 7, ls [sy (ByteArray.mk (#[119, 97, 115])), sy (ByteArray.mk (#[98]))]]])) 0 0) /\ nJ ([ls [sy (ByteArray.mk (#[114, 101, 99, 111, 114, 100])), sy (ByteArray.mk (#[112])), sy (ByteArray.mk (#[99])), sy (ByteArray.mk (#[98]))], ls [sy (ByteArray.mk (#[117, 112, 103, 114, 97, 100, 101])), sy (ByteArray.mk (#[112])), num 7, ls [sy (ByteArray.mk (#[119, 97, 115])), sy (ByteArray.mk (#[98]))]]])) /\
 rp (en (ah m)) 1 (rp (en (ah n)) 1 (rp (en (ah m)) 1 (rp (en (ah n)) 1 (rp (((dxL [(ls [(sy s1), (sy s2), (sy s13), (sy s4)]), (ls [(sy s14), (sy s2), (num 7), (ls [(sy s15), (sy s4)])])]) : Nat -> Nat -> Dt) = (dxL [(ls [(sy s1), (sy s2), (sy s13), (sy s4)]), (ls [(sy s14), (sy s2), (num 7), (ls [(sy s15), (sy s4)])])])) 1 (rp (en (ah m)) 1 (rp (en (ah n)) 1 (rp (en (ah m)) 1 (rp (en (ah n)) 1 (rp (((dxL []) : Nat -> Nat -> Dt) = (dxL [])) 1 (rp (en (ah m)) 1 (rp (en (ah n)) 1 (rp (en (ah m)) 1 (rp (en (ah n)) 1 (qt)))))))))))))))
 (by
 obtain ⟨h0, h1, h2, h3, h4, h5, h6, h7, h8, h9⟩ := fx n m
 refine ⟨⟨by decide, by kernel_rfl, by simp [nJ, Dx.fits, ls, sy, num, nu]⟩, ?_⟩
 iterate 14 refine au rfl _ ?_
 rfl
 )
  (by kernel_rfl)
theorem t73 (n m : Int) : aH prog 22 (e73 n m) := aB [] (tk (f := 30) (tc 17 (t62 n m) aj) av) (by kernel_rfl) (by kernel_rfl) (q := rp (en (ah m)) 1 (rp (en (ah n)) 1 (rp (en (ah m)) 1 (rp (en (ah n)) 1 (qt)))))
 (au rfl _ (au rfl _ (au rfl _ (au rfl _ rfl))))
 (by kernel_rfl)
theorem t74 (n m : Int) : aH prog 66 (e74 n m) := aB [] (tk (f := 60) (tc 42 (t8 n m) (tc 76 (t8 n m) aj)) (tk (f := 127) (tc 42 (t0 n m) (tc 76 (t0 n m) aj)) av)) (by kernel_rfl) (by kernel_rfl) (q := qt)
 rfl
 (by kernel_rfl)
theorem t75 (n m : Int) : aH prog 127 (e75 n m) := aB [] av (by kernel_rfl) (by kernel_rfl) (q := rp ((.mp (.int .i64) .bool [((0 : Int), true), ((2 : Int), true), ((4 : Int), true), ((6 : Int), true), ((11 : Int), true)] : Ob) = .mp (.int .i64) .bool [((0 : Int), true), ((2 : Int), true), ((4 : Int), true), ((6 : Int), true), ((11 : Int), true)]) 1 (qt))
 (au rfl _ rfl)
 (by kernel_rfl)
theorem t76 (n m : Int) : aH prog 60 (e76 n m) := aB [] (tk (f := 127) (tc 2 (t75 n m) aj) av) (by kernel_rfl) (by kernel_rfl) (q := rp (en (ah m)) 1 (rp (en (ah n)) 1 (rp (en (ah m)) 1 (qt))))
 (au rfl _ (au rfl _ (au rfl _ rfl)))
 (by kernel_rfl)
theorem t77 (n m : Int) : aH prog 127 (e77 n m) := aB [] av (by kernel_rfl) (by kernel_rfl) (q := rp ((.mp (.int .i64) .bool [((0 : Int), true), ((2 : Int), true), ((4 : Int), true), ((6 : Int), true), ((11 : Int), true)] : Ob) = .mp (.int .i64) .bool [((0 : Int), true), ((2 : Int), true), ((4 : Int), true), ((6 : Int), true), ((11 : Int), true)]) 1 (qt))
 (au rfl _ rfl)
 (by kernel_rfl)
theorem t78 (n m : Int) : aH prog 60 (e78 n m) := aB [] (tk (f := 127) (tc 2 (t77 n m) aj) av) (by kernel_rfl) (by kernel_rfl) (q := rp (en (ah m)) 1 (qt))
 (au rfl _ rfl)
 (by kernel_rfl)
end Gv.LStale
set_option linter.unusedSimpArgs false
set_option linter.unusedVariables false
set_option maxRecDepth 100000
open Rx Go
namespace Gv.LStale
open Gv Rd
theorem t79 (n m : Int) : aH prog 59 (e79 n m) := aB [] (tk (f := 30) (tc 21 (t62 n m) aj) (tk (f := 66) (tc 201 (t74 n m) aj) (tk (f := 60) (tc 346 (t76 n m) (tc 412 (t78 n m) aj)) (tk (f := 127) (tc 346 (t75 n m) aj) av)))) (by kernel_rfl) (by kernel_rfl) (q := rp (en (ah m)) 1 (rp (en (ah n)) 1 (rp (en (ah m)) 1 (rp (en (ah n)) 1 (rp (en (ah m)) 1 (rp (en (ah n)) 1 (rp (en (ah m)) 2 (rp (en (ah n)) 1 (rp (en (ah m)) 2 (qt))))))))))
 (au rfl _ (au rfl _ (au rfl _ (au rfl _ (au rfl _ (au rfl _ (au rfl _ (au rfl _ (au rfl _ rfl)))))))))
 (by kernel_rfl)
theorem t80 (n m : Int) : aH prog 40 (e80 n m) := aB [] (tk (f := 22) (tc 19 (t73 n m) aj) (tk (f := 59) (tc 92 (t79 n m) aj) av)) (by kernel_rfl) (by kernel_rfl) (q := rp (en (ah m)) 1 (rp (en (ah n)) 1 (rp (en (ah m)) 1 (rp (en (ah n)) 1 (rp (en (ah m)) 1 (rp (en (ah n)) 1 (rp (en (ah m)) 1 (rp (en (ah n)) 1 (qt)))))))))
 (au rfl _ (au rfl _ (au rfl _ (au rfl _ (au rfl _ (au rfl _ (au rfl _ (au rfl _ rfl))))))))
 (by kernel_rfl)
theorem t81 (n m : Int) : aH prog 66 (e81 n m) := aB [] (tk (f := 60) (tc 43 (t8 n m) (tc 78 (t8 n m) aj)) (tk (f := 127) (tc 43 (t0 n m) (tc 78 (t0 n m) aj)) av)) (by kernel_rfl) (by kernel_rfl) (q := qt)
 rfl
 (by kernel_rfl)
theorem t82 (n m : Int) : aH prog 59 (e82 n m) := aB [] (tk (f := 30) (tc 21 (t62 n m) aj) (tk (f := 66) (tc 201 (t81 n m) aj) (tk (f := 60) (tc 347 (t76 n m) (tc 413 (t78 n m) aj)) (tk (f := 127) (tc 347 (t75 n m) aj) av)))) (by kernel_rfl) (by kernel_rfl) (q := rp (en (ah m)) 1 (rp (en (ah n)) 1 (rp (en (ah m)) 1 (rp (en (ah n)) 1 (rp (en (ah m)) 1 (rp (en (ah n)) 1 (rp (en (ah m)) 2 (rp (en (ah n)) 1 (rp (en (ah m)) 6 (rp (en (ah n)) 1 (qt)))))))))))
 (au rfl _ (au rfl _ (au rfl _ (au rfl _ (au rfl _ (au rfl _ (au rfl _ (au rfl _ (au rfl _ (au rfl _ rfl))))))))))
 (by kernel_rfl)
end Gv.LStale
