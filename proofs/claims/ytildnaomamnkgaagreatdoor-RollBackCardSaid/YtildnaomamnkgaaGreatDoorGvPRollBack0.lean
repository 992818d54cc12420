/- Told parts of RollBack. Printed by gvgen.py. -/
import Derived.Test.YtildnaomamnkgaaGreatDoorGvKRollBack
set_option linter.unusedSimpArgs false
set_option linter.unusedVariables false
set_option maxRecDepth 100000
open Rx Go
namespace Gv.LRollBack
open Gv Rd
theorem t0 (n m : Int) : bM prog 73 (e0 n m) := bI [] aJ (by kernel_rfl) (by kernel_rfl) (q := rp ((.mp (.int .i64) .bool [] : Ob) = .mp (.int .i64) .bool []) 1 (qt))
 (jd rfl _ rfl)
 (by kernel_rfl)
theorem t1 (n m : Int) : bM prog 72 (e1 n m) := bI [] (tk (f := 73) (tc 1 (t0 n m) aB) aJ) (by kernel_rfl) (by kernel_rfl) (q := qt)
 rfl
 (by kernel_rfl)
theorem t2 (n m : Int) : bM prog 46 (e2 n m) := bI [] aJ (by kernel_rfl) (by kernel_rfl) (q := qt)
 rfl
 (by kernel_rfl)
theorem t3 (n m : Int) : bM prog 44 (e3 n m) := bI [] (tk (f := 72) (tc 1 (t1 n m) aB) (tk (f := 46) (tc 2 (t2 n m) aB) aJ)) (by kernel_rfl) (by kernel_rfl) (q := qt)
 rfl
 (by kernel_rfl)
theorem t4 (n m : Int) : bM prog 26 (e4 n m) := bI [] (tk (f := 44) (tc 2 (t3 n m) aB) aJ) (by kernel_rfl) (by kernel_rfl) (q := qt)
 rfl
 (by kernel_rfl)
theorem t5 (n m : Int) : bM prog 27 (e5 n m) := bI [] (tk (f := 46) (tc 2 (t2 n m) aB) aJ) (by kernel_rfl) (by kernel_rfl) (q := rp ((D (.arr 4 2 (dxL [(sy s5), (sy s6)])) : SV) = D (.arr 4 2 (dxL [(sy s5), (sy s6)]))) 1 (rp ((D (.arr 4 2 (dxL [(sy s15), (sy s6)])) : SV) = D (.arr 4 2 (dxL [(sy s15), (sy s6)]))) 1 (rp ((D (.arr 4 2 (dxL [(sy s4), (ls [])])) : SV) = D (.arr 4 2 (dxL [(sy s4), (ls [])]))) 1 (rp ((D (.arr 4 4 (dxL [(sy s7), (ls [(sy s8), (sy s6), (num 0)]), (ls [(sy s9), (sy s2)]), (ls [(sy s10), (ls [(sy s11), (sy s2), (ls [(sy s12), (sy s2), (num 1)])]), (ls [(sy s11), (sy s3), (ls [(sy s13), (sy s2), (sy s3)])]), (ls [(sy s5), (ls [(sy s14), (sy s6), (num 1)])])])])) : SV) = D (.arr 4 4 (dxL [(sy s7), (ls [(sy s8), (sy s6), (num 0)]), (ls [(sy s9), (sy s2)]), (ls [(sy s10), (ls [(sy s11), (sy s2), (ls [(sy s12), (sy s2), (num 1)])]), (ls [(sy s11), (sy s3), (ls [(sy s13), (sy s2), (sy s3)])]), (ls [(sy s5), (ls [(sy s14), (sy s6), (num 1)])])])]))) 1 (rp ((D (.arr 4 3 (dxL [(sy s8), (sy s6), (num 0)])) : SV) = D (.arr 4 3 (dxL [(sy s8), (sy s6), (num 0)]))) 1 (rp ((D (.arr 4 2 (dxL [(sy s9), (sy s2)])) : SV) = D (.arr 4 2 (dxL [(sy s9), (sy s2)]))) 1 (rp ((D (.arr 4 4 (dxL [(sy s10), (ls [(sy s11), (sy s2), (ls [(sy s12), (sy s2), (num 1)])]), (ls [(sy s11), (sy s3), (ls [(sy s13), (sy s2), (sy s3)])]), (ls [(sy s5), (ls [(sy s14), (sy s6), (num 1)])])])) : SV) = D (.arr 4 4 (dxL [(sy s10), (ls [(sy s11), (sy s2), (ls [(sy s12), (sy s2), (num 1)])]), (ls [(sy s11), (sy s3), (ls [(sy s13), (sy s2), (sy s3)])]), (ls [(sy s5), (ls [(sy s14), (sy s6), (num 1)])])]))) 1 (rp ((D (.arr 4 3 (dxL [(sy s11), (sy s2), (ls [(sy s12), (sy s2), (num 1)])])) : SV) = D (.arr 4 3 (dxL [(sy s11), (sy s2), (ls [(sy s12), (sy s2), (num 1)])]))) 1 (rp ((D (.arr 4 3 (dxL [(sy s12), (sy s2), (num 1)])) : SV) = D (.arr 4 3 (dxL [(sy s12), (sy s2), (num 1)]))) 1 (rp ((D (.arr 4 3 (dxL [(sy s11), (sy s3), (ls [(sy s13), (sy s2), (sy s3)])])) : SV) = D (.arr 4 3 (dxL [(sy s11), (sy s3), (ls [(sy s13), (sy s2), (sy s3)])]))) 1 (rp ((D (.arr 4 3 (dxL [(sy s13), (sy s2), (sy s3)])) : SV) = D (.arr 4 3 (dxL [(sy s13), (sy s2), (sy s3)]))) 1 (rp ((D (.arr 4 2 (dxL [(sy s5), (ls [(sy s14), (sy s6), (num 1)])])) : SV) = D (.arr 4 2 (dxL [(sy s5), (ls [(sy s14), (sy s6), (num 1)])]))) 1 (rp ((D (.arr 4 3 (dxL [(sy s14), (sy s6), (num 1)])) : SV) = D (.arr 4 3 (dxL [(sy s14), (sy s6), (num 1)]))) 1 (rp ((D (.arr 4 3 (dxL [(sy s13), (sy s2), (sy s3)])) : SV) = D (.arr 4 3 (dxL [(sy s13), (sy s2), (sy s3)]))) 1 (rp (((dxL []) : Nat -> Nat -> Dt) = (dxL [])) 5 (qt))))))))))))))))
 (jd rfl _ (jd rfl _ (jd rfl _ (jd rfl _ (jd rfl _ (jd rfl _ (jd rfl _ (jd rfl _ (jd rfl _ (jd rfl _ (jd rfl _ (jd rfl _ (jd rfl _ (jd rfl _ (jd rfl _ rfl)))))))))))))))
 (by kernel_rfl)
theorem t6 (n m : Int) : bM prog 46 (e6 n m) := bI [] aJ (by kernel_rfl) (by kernel_rfl) (q := qt)
 rfl
 (by kernel_rfl)
theorem t7 (n m : Int) : bM prog 72 (e7 n m) := bI [] (tk (f := 73) (tc 1 (t0 n m) aB) aJ) (by kernel_rfl) (by kernel_rfl) (q := qt)
 rfl
 (by kernel_rfl)
theorem t8 (n m : Int) : bM prog 65 (e8 n m) := bI [] (tk (f := 72) (tc 19 (t7 n m) (tc 37 (t7 n m) aB)) (tk (f := 73) (tc 19 (t0 n m) (tc 37 (t0 n m) aB)) aJ)) (by kernel_rfl) (by kernel_rfl) (q := qt)
 rfl
 (by kernel_rfl)
theorem t9 (n m : Int) : bM prog 65 (e9 n m) := bI [] (tk (f := 72) (tc 19 (t7 n m) (tc 37 (t7 n m) aB)) (tk (f := 73) (tc 19 (t0 n m) (tc 37 (t0 n m) aB)) aJ)) (by kernel_rfl) (by kernel_rfl) (q := qt)
 rfl
 (by kernel_rfl)
end Gv.LRollBack
set_option linter.unusedSimpArgs false
set_option linter.unusedVariables false
set_option maxRecDepth 100000
open Rx Go
namespace Gv.LRollBack
open Gv Rd
theorem t10 (n m : Int) : bM prog 65 (e10 n m) := bI [] (tk (f := 72) (tc 43 (t7 n m) (tc 106 (t7 n m) (tc 131 (t7 n m) (tc 206 (t7 n m) (tc 269 (t7 n m) (tc 340 (t7 n m) (tc 406 (t7 n m) (tc 425 (t7 n m) (tc 480 (t7 n m) (tc 525 (t7 n m) aB)))))))))) (tk (f := 73) (tc 43 (t0 n m) (tc 106 (t0 n m) (tc 131 (t0 n m) (tc 206 (t0 n m) (tc 269 (t0 n m) (tc 340 (t0 n m) (tc 406 (t0 n m) (tc 425 (t0 n m) (tc 480 (t0 n m) (tc 525 (t0 n m) aB)))))))))) aJ)) (by kernel_rfl) (by kernel_rfl) (q := qt)
 rfl
 (by kernel_rfl)
theorem t11 (n m : Int) : bM prog 65 (e11 n m) := bI [] aJ (by kernel_rfl) (by kernel_rfl) (q := qt)
 rfl
 (by kernel_rfl)
theorem t12 (n m : Int) : bM prog 44 (e12 n m) := bI [] (tk (f := 72) (tc 7 (t1 n m) (tc 27 (t1 n m) (tc 32 (t1 n m) (tc 37 (t1 n m) (tc 42 (t1 n m) aB))))) (tk (f := 46) (tc 20 (t6 n m) aB) (tk (f := 65) (tc 21 (t8 n m) (tc 22 (t9 n m) (tc 23 (t10 n m) (tc 24 (t11 n m) aB)))) (tk (f := 73) (tc 27 (t0 n m) (tc 32 (t0 n m) (tc 37 (t0 n m) (tc 42 (t0 n m) aB)))) aJ)))) (by kernel_rfl) (by kernel_rfl) (q := qt)
 rfl
 (by kernel_rfl)
theorem t13 (n m : Int) : bM prog 73 (e13 n m) := bI [] aJ (by kernel_rfl) (by kernel_rfl) (q := rp ((.mp (.int .i64) .bool [((0 : Int), true)] : Ob) = .mp (.int .i64) .bool [((0 : Int), true)]) 1 (qt))
 (jd rfl _ rfl)
 (by kernel_rfl)
theorem t14 (n m : Int) : bM prog 72 (e14 n m) := bI [] (tk (f := 73) (tc 2 (t13 n m) aB) aJ) (by kernel_rfl) (by kernel_rfl) (q := qt)
 rfl
 (by kernel_rfl)
theorem t15 (n m : Int) : bM prog 56 (e15 n m) := bI [] (tk (f := 44) (tc 11 (t12 n m) aB) (tk (f := 72) (tc 8358 (t1 n m) (tc 8426 (t14 n m) aB)) aJ)) (by kernel_rfl) (by kernel_rfl) (q := qt)
 rfl
 (by kernel_rfl)
theorem t16 (n m : Int) : bM prog 44 (e16 n m) := bI [] (tk (f := 72) (tc 8 (t14 n m) (tc 28 (t14 n m) (tc 33 (t14 n m) (tc 38 (t14 n m) (tc 43 (t14 n m) aB))))) (tk (f := 46) (tc 21 (t6 n m) aB) (tk (f := 65) (tc 22 (t8 n m) (tc 23 (t9 n m) (tc 24 (t10 n m) (tc 25 (t11 n m) aB)))) (tk (f := 73) (tc 28 (t13 n m) (tc 33 (t13 n m) (tc 38 (t13 n m) (tc 43 (t13 n m) aB)))) aJ)))) (by kernel_rfl) (by kernel_rfl) (q := qt)
 rfl
 (by kernel_rfl)
theorem t17 (n m : Int) : bM prog 73 (e17 n m) := bI [] aJ (by kernel_rfl) (by kernel_rfl) (q := rp ((.mp (.int .i64) .bool [((0 : Int), true), ((2 : Int), true)] : Ob) = .mp (.int .i64) .bool [((0 : Int), true), ((2 : Int), true)]) 1 (qt))
 (jd rfl _ rfl)
 (by kernel_rfl)
theorem t18 (n m : Int) : bM prog 72 (e18 n m) := bI [] (tk (f := 73) (tc 2 (t17 n m) aB) aJ) (by kernel_rfl) (by kernel_rfl) (q := qt)
 rfl
 (by kernel_rfl)
theorem t19 (n m : Int) : bM prog 56 (e19 n m) := bI [] (tk (f := 44) (tc 12 (t16 n m) aB) (tk (f := 72) (tc 8359 (t14 n m) (tc 8427 (t18 n m) aB)) aJ)) (by kernel_rfl) (by kernel_rfl) (q := qt)
 rfl
 (by kernel_rfl)
theorem t20 (n m : Int) : bM prog 44 (e20 n m) := bI [] (tk (f := 72) (tc 8 (t18 n m) (tc 28 (t18 n m) (tc 33 (t18 n m) (tc 38 (t18 n m) (tc 43 (t18 n m) aB))))) (tk (f := 46) (tc 21 (t6 n m) aB) (tk (f := 65) (tc 22 (t8 n m) (tc 23 (t9 n m) (tc 24 (t10 n m) (tc 25 (t11 n m) aB)))) (tk (f := 73) (tc 28 (t17 n m) (tc 33 (t17 n m) (tc 38 (t17 n m) (tc 43 (t17 n m) aB)))) aJ)))) (by kernel_rfl) (by kernel_rfl) (q := qt)
 rfl
 (by kernel_rfl)
theorem t21 (n m : Int) : bM prog 32 (e21 n m) := bI [] (tk (f := 44) (tc 12 (t20 n m) aB) (tk (f := 65) (tc 164 (t8 n m) aB) aJ)) (by kernel_rfl) (by kernel_rfl) (q := qt)
 rfl
 (by kernel_rfl)
theorem t22 (n m : Int) : bM prog 65 (e22 n m) := bI [] (tk (f := 72) (tc 19 (t7 n m) (tc 37 (t7 n m) aB)) (tk (f := 73) (tc 19 (t0 n m) (tc 37 (t0 n m) aB)) aJ)) (by kernel_rfl) (by kernel_rfl) (q := qt)
 rfl
 (by kernel_rfl)
theorem t23 (n m : Int) : bM prog 65 (e23 n m) := bI [] (tk (f := 72) (tc 19 (t7 n m) (tc 37 (t7 n m) aB)) (tk (f := 73) (tc 19 (t0 n m) (tc 37 (t0 n m) aB)) aJ)) (by kernel_rfl) (by kernel_rfl) (q := qt)
 rfl
 (by kernel_rfl)
end Gv.LRollBack
set_option linter.unusedSimpArgs false
set_option linter.unusedVariables false
set_option maxRecDepth 100000
open Rx Go
namespace Gv.LRollBack
open Gv Rd
theorem t24 (n m : Int) : bM prog 65 (e24 n m) := bI [] (tk (f := 72) (tc 43 (t7 n m) (tc 106 (t7 n m) (tc 131 (t7 n m) (tc 206 (t7 n m) (tc 269 (t7 n m) (tc 340 (t7 n m) (tc 406 (t7 n m) (tc 425 (t7 n m) (tc 480 (t7 n m) (tc 525 (t7 n m) aB)))))))))) (tk (f := 73) (tc 43 (t0 n m) (tc 106 (t0 n m) (tc 131 (t0 n m) (tc 206 (t0 n m) (tc 269 (t0 n m) (tc 340 (t0 n m) (tc 406 (t0 n m) (tc 425 (t0 n m) (tc 480 (t0 n m) (tc 525 (t0 n m) aB)))))))))) aJ)) (by kernel_rfl) (by kernel_rfl) (q := qt)
 rfl
 (by kernel_rfl)
theorem t25 (n m : Int) : bM prog 65 (e25 n m) := bI [] aJ (by kernel_rfl) (by kernel_rfl) (q := qt)
 rfl
 (by kernel_rfl)
theorem t26 (n m : Int) : bM prog 44 (e26 n m) := bI [] (tk (f := 72) (tc 9 (t18 n m) (tc 29 (t18 n m) (tc 34 (t18 n m) (tc 39 (t18 n m) (tc 44 (t18 n m) aB))))) (tk (f := 46) (tc 22 (t6 n m) aB) (tk (f := 65) (tc 23 (t22 n m) (tc 24 (t23 n m) (tc 25 (t24 n m) (tc 26 (t25 n m) aB)))) (tk (f := 73) (tc 29 (t17 n m) (tc 34 (t17 n m) (tc 39 (t17 n m) (tc 44 (t17 n m) aB)))) aJ)))) (by kernel_rfl) (by kernel_rfl) (q := qt)
 rfl
 (by kernel_rfl)
theorem t27 (n m : Int) : bM prog 32 (e27 n m) := bI [] (tk (f := 44) (tc 13 (t26 n m) aB) (tk (f := 65) (tc 165 (t23 n m) aB) aJ)) (by kernel_rfl) (by kernel_rfl) (q := qt)
 rfl
 (by kernel_rfl)
end Gv.LRollBack
