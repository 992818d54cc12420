/- Told parts of UpgradeCycle. Printed by gvgen.py. -/
import Derived.Test.YtcmnmceodhambaaGreatDoorGvUUpgradeCycle
set_option linter.unusedSimpArgs false
set_option linter.unusedVariables false
set_option maxRecDepth 100000
open Rx Go
namespace Gv.LUpgradeCycle
open Gv Rd
theorem t0 (n : Int) : aH prog 127 (e0 n) := aA [] au ak (by kernel_rfl) (by kernel_rfl) (q := rp ((.mp (.int .i64) .bool [] : Ob) = .mp (.int .i64) .bool []) 1 (qt))
 (aM rfl _ rfl)
 (by kernel_rfl)
theorem t1 (n : Int) : aH prog 60 (e1 n) := aA [] au (tk (f := 127) (tc 1 (t0 n) aj) ak) (by kernel_rfl) (by kernel_rfl) (q := qt)
 rfl
 (by kernel_rfl)
theorem t2 (n : Int) : aH prog 45 (e2 n) := aA [] au ak (by kernel_rfl) (by kernel_rfl) (q := qt)
 rfl
 (by kernel_rfl)
theorem t3 (n : Int) : aH prog 30 (e3 n) := aA [] au (tk (f := 60) (tc 1 (t1 n) aj) (tk (f := 45) (tc 2 (t2 n) aj) ak)) (by kernel_rfl) (by kernel_rfl) (q := qt)
 rfl
 (by kernel_rfl)
theorem t4 (n : Int) : aH prog 22 (e4 n) := aA [] au (tk (f := 30) (tc 2 (t3 n) aj) ak) (by kernel_rfl) (by kernel_rfl) (q := qt)
 rfl
 (by kernel_rfl)
theorem t5 (n : Int) : aH prog 28 (e5 n) := aA [] au (tk (f := 45) (tc 2 (t2 n) aj) ak) (by kernel_rfl) (by kernel_rfl) (q := rp ((D (.arr 4 2 (dxL [(sy s8), (sy s9)])) : SV) = D (.arr 4 2 (dxL [(sy s8), (sy s9)]))) 1 (rp ((D (.arr 4 2 (dxL [(sy s12), (sy s9)])) : SV) = D (.arr 4 2 (dxL [(sy s12), (sy s9)]))) 1 (rp ((D (.arr 4 3 (dxL [(sy s2), (nu 0 99 (av n)), (num 0)])) : SV) = D (.arr 4 3 (dxL [(sy s2), (nu 0 99 (av n)), (num 0)]))) 1 (rp ((D (.arr 4 3 (dxL [(sy s2), (num 1), (sy s6)])) : SV) = D (.arr 4 3 (dxL [(sy s2), (num 1), (sy s6)]))) 1 (rp ((D (.arr 4 3 (dxL [(sy s10), (ls [(sy s11), (sy s6), (sy s7)]), (num 0)])) : SV) = D (.arr 4 3 (dxL [(sy s10), (ls [(sy s11), (sy s6), (sy s7)]), (num 0)]))) 1 (rp ((D (.arr 4 3 (dxL [(sy s11), (sy s6), (sy s7)])) : SV) = D (.arr 4 3 (dxL [(sy s11), (sy s6), (sy s7)]))) 1 (rp ((D (.arr 4 3 (dxL [(sy s13), (sy s6), (ls [(sy s14), (ls [(sy s14), (sy s6)])])])) : SV) = D (.arr 4 3 (dxL [(sy s13), (sy s6), (ls [(sy s14), (ls [(sy s14), (sy s6)])])]))) 1 (rp ((D (.arr 4 2 (dxL [(sy s14), (ls [(sy s14), (sy s6)])])) : SV) = D (.arr 4 2 (dxL [(sy s14), (ls [(sy s14), (sy s6)])]))) 1 (rp ((D (.arr 4 2 (dxL [(sy s14), (sy s6)])) : SV) = D (.arr 4 2 (dxL [(sy s14), (sy s6)]))) 1 (rp (((dxL []) : Nat -> Nat -> Dt) = (dxL [])) 3 (rp (en (av n)) 1 (rp (((dxL []) : Nat -> Nat -> Dt) = (dxL [])) 1 (qt)))))))))))))
 (aM rfl _ (aM rfl _ (aM rfl _ (aM rfl _ (aM rfl _ (aM rfl _ (aM rfl _ (aM rfl _ (aM rfl _ (aM rfl _ (aM rfl _ (aM rfl _ rfl))))))))))))
 (by kernel_rfl)
theorem t6 (n : Int) : aH prog 45 (e6 n) := aA [] au ak (by kernel_rfl) (by kernel_rfl) (q := qt)
 rfl
 (by kernel_rfl)
theorem t7 (n : Int) : aH prog 63 (e7 n) := aA [] au ak (by kernel_rfl) (by kernel_rfl) (q := qt)
 rfl
 (by kernel_rfl)
theorem t8 (n : Int) : aH prog 60 (e8 n) := aA [] au (tk (f := 127) (tc 1 (t0 n) aj) ak) (by kernel_rfl) (by kernel_rfl) (q := qt)
 rfl
 (by kernel_rfl)
theorem t9 (n : Int) : aH prog 66 (e9 n) := aA [] au (tk (f := 60) (tc 26 (t8 n) (tc 42 (t8 n) (tc 73 (t8 n) (tc 85 (t8 n) aj)))) (tk (f := 127) (tc 26 (t0 n) (tc 42 (t0 n) (tc 73 (t0 n) (tc 85 (t0 n) aj)))) ak)) (by kernel_rfl) (by kernel_rfl) (q := qt)
 rfl
 (by kernel_rfl)
theorem t10 (n : Int) : aH prog 66 (e10 n) := aA [] au (tk (f := 60) (tc 26 (t8 n) (tc 72 (t8 n) aj)) (tk (f := 127) (tc 26 (t0 n) (tc 72 (t0 n) aj)) ak)) (by kernel_rfl) (by kernel_rfl) (q := qt)
 rfl
 (by kernel_rfl)
theorem t11 (n : Int) : aH prog 66 (e11 n) := aA [] au (tk (f := 60) (tc 78 (t8 n) (tc 138 (t8 n) aj)) (tk (f := 127) (tc 78 (t0 n) (tc 138 (t0 n) aj)) ak)) (by kernel_rfl) (by kernel_rfl) (q := qt)
 rfl
 (by kernel_rfl)
theorem t12 (n : Int) : aH prog 66 (e12 n) := aA [] au ak (by kernel_rfl) (by kernel_rfl) (q := qt)
 rfl
 (by kernel_rfl)
end Gv.LUpgradeCycle
set_option linter.unusedSimpArgs false
set_option linter.unusedVariables false
set_option maxRecDepth 100000
open Rx Go
namespace Gv.LUpgradeCycle
open Gv Rd
theorem t13 (n : Int) : aH prog 30 (e13 n) := aA [] au (tk (f := 60) (tc 10 (t1 n) (tc 34 (t1 n) (tc 39 (t1 n) (tc 44 (t1 n) (tc 49 (t1 n) aj))))) (tk (f := 45) (tc 26 (t6 n) aj) (tk (f := 63) (tc 27 (t7 n) aj) (tk (f := 66) (tc 28 (t9 n) (tc 29 (t10 n) (tc 30 (t11 n) (tc 31 (t12 n) aj)))) (tk (f := 127) (tc 34 (t0 n) (tc 39 (t0 n) (tc 44 (t0 n) (tc 49 (t0 n) aj)))) ak))))) (by kernel_rfl) (by kernel_rfl) (q := rp (en (av n)) 2 (qt))
 (aM rfl _ rfl)
 (by kernel_rfl)
theorem t14 (n : Int) : aH prog 127 (e14 n) := aA [] au ak (by kernel_rfl) (by kernel_rfl) (q := rp ((.mp (.int .i64) .bool [((0 : Int), true)] : Ob) = .mp (.int .i64) .bool [((0 : Int), true)]) 1 (qt))
 (aM rfl _ rfl)
 (by kernel_rfl)
theorem t15 (n : Int) : aH prog 60 (e15 n) := aA [] au (tk (f := 127) (tc 2 (t14 n) aj) ak) (by kernel_rfl) (by kernel_rfl) (q := qt)
 rfl
 (by kernel_rfl)
theorem t16 (n : Int) : aH prog 57 (e16 n) := aA [] au (tk (f := 30) (tc 14 (t13 n) aj) (tk (f := 60) (tc 8370 (t1 n) (tc 8438 (t15 n) aj)) ak)) (by kernel_rfl) (by kernel_rfl) (q := rp (en (av n)) 2 (qt))
 (aM rfl _ rfl)
 (by kernel_rfl)
theorem t17 (n : Int) : aH prog 63 (e17 n) := aA [] au ak (by kernel_rfl) (by kernel_rfl) (q := qt)
 rfl
 (by kernel_rfl)
theorem t18 (n : Int) : aH prog 30 (e18 n) := aA [] au (tk (f := 60) (tc 11 (t15 n) (tc 35 (t15 n) (tc 40 (t15 n) (tc 45 (t15 n) (tc 50 (t15 n) aj))))) (tk (f := 45) (tc 27 (t6 n) aj) (tk (f := 63) (tc 28 (t17 n) aj) (tk (f := 66) (tc 29 (t9 n) (tc 30 (t10 n) (tc 31 (t11 n) (tc 32 (t12 n) aj)))) (tk (f := 127) (tc 35 (t14 n) (tc 40 (t14 n) (tc 45 (t14 n) (tc 50 (t14 n) aj)))) ak))))) (by kernel_rfl) (by kernel_rfl) (q := rp (en (av n)) 2 (qt))
 (aM rfl _ rfl)
 (by kernel_rfl)
theorem t19 (n : Int) : aH prog 127 (e19 n) := aA [] au ak (by kernel_rfl) (by kernel_rfl) (q := rp ((.mp (.int .i64) .bool [((0 : Int), true), ((2 : Int), true)] : Ob) = .mp (.int .i64) .bool [((0 : Int), true), ((2 : Int), true)]) 1 (qt))
 (aM rfl _ rfl)
 (by kernel_rfl)
theorem t20 (n : Int) : aH prog 60 (e20 n) := aA [] au (tk (f := 127) (tc 2 (t19 n) aj) ak) (by kernel_rfl) (by kernel_rfl) (q := qt)
 rfl
 (by kernel_rfl)
theorem t21 (n : Int) : aH prog 57 (e21 n) := aA [] au (tk (f := 30) (tc 15 (t18 n) aj) (tk (f := 60) (tc 8371 (t15 n) (tc 8439 (t20 n) aj)) ak)) (by kernel_rfl) (by kernel_rfl) (q := rp (en (av n)) 2 (qt))
 (aM rfl _ rfl)
 (by kernel_rfl)
theorem t22 (n : Int) : aH prog 30 (e22 n) := aA [] au (tk (f := 60) (tc 11 (t20 n) (tc 35 (t20 n) (tc 40 (t20 n) (tc 45 (t20 n) (tc 50 (t20 n) aj))))) (tk (f := 45) (tc 27 (t6 n) aj) (tk (f := 63) (tc 28 (t17 n) aj) (tk (f := 66) (tc 29 (t9 n) (tc 30 (t10 n) (tc 31 (t11 n) (tc 32 (t12 n) aj)))) (tk (f := 127) (tc 35 (t19 n) (tc 40 (t19 n) (tc 45 (t19 n) (tc 50 (t19 n) aj)))) ak))))) (by kernel_rfl) (by kernel_rfl) (q := rp (en (av n)) 2 (qt))
 (aM rfl _ rfl)
 (by kernel_rfl)
theorem t23 (n : Int) : aH prog 59 (e23 n) := aA [] au (tk (f := 30) (tc 15 (t22 n) aj) (tk (f := 66) (tc 176 (t9 n) aj) ak)) (by kernel_rfl) (by kernel_rfl) (q := rp (en (av n)) 4 (qt))
 (aM rfl _ rfl)
 (by kernel_rfl)
theorem t24 (n : Int) : aH prog 127 (e24 n) := aA [] au ak (by kernel_rfl) (by kernel_rfl) (q := rp ((.mp (.int .i64) .bool [((0 : Int), true), ((2 : Int), true), ((4 : Int), true)] : Ob) = .mp (.int .i64) .bool [((0 : Int), true), ((2 : Int), true), ((4 : Int), true)]) 1 (qt))
 (aM rfl _ rfl)
 (by kernel_rfl)
theorem t25 (n : Int) : aH prog 60 (e25 n) := aA [] au (tk (f := 127) (tc 2 (t24 n) aj) ak) (by kernel_rfl) (by kernel_rfl) (q := rp (en (av n)) 1 (qt))
 (aM rfl _ rfl)
 (by kernel_rfl)
theorem t26 (n : Int) : aH prog 63 (e26 n) := aA [] au ak (by kernel_rfl) (by kernel_rfl) (q := qt)
 rfl
 (by kernel_rfl)
theorem t27 (n : Int) : aH prog 66 (e27 n) := aA [] au (tk (f := 60) (tc 26 (t8 n) (tc 42 (t8 n) (tc 73 (t8 n) (tc 85 (t8 n) aj)))) (tk (f := 127) (tc 26 (t0 n) (tc 42 (t0 n) (tc 73 (t0 n) (tc 85 (t0 n) aj)))) ak)) (by kernel_rfl) (by kernel_rfl) (q := qt)
 rfl
 (by kernel_rfl)
theorem t28 (n : Int) : aH prog 66 (e28 n) := aA [] au (tk (f := 60) (tc 26 (t8 n) (tc 72 (t8 n) aj)) (tk (f := 127) (tc 26 (t0 n) (tc 72 (t0 n) aj)) ak)) (by kernel_rfl) (by kernel_rfl) (q := qt)
 rfl
 (by kernel_rfl)
theorem t29 (n : Int) : aH prog 66 (e29 n) := aA [] au (tk (f := 60) (tc 78 (t8 n) (tc 138 (t8 n) aj)) (tk (f := 127) (tc 78 (t0 n) (tc 138 (t0 n) aj)) ak)) (by kernel_rfl) (by kernel_rfl) (q := qt)
 rfl
 (by kernel_rfl)
theorem t30 (n : Int) : aH prog 66 (e30 n) := aA [] au ak (by kernel_rfl) (by kernel_rfl) (q := qt)
 rfl
 (by kernel_rfl)
theorem t31 (n : Int) : aH prog 30 (e31 n) := aA [] au (tk (f := 60) (tc 12 (t25 n) (tc 36 (t25 n) (tc 41 (t25 n) (tc 46 (t25 n) (tc 51 (t25 n) aj))))) (tk (f := 45) (tc 28 (t6 n) aj) (tk (f := 63) (tc 29 (t26 n) aj) (tk (f := 66) (tc 30 (t27 n) (tc 31 (t28 n) (tc 32 (t29 n) (tc 33 (t30 n) aj)))) (tk (f := 127) (tc 36 (t24 n) (tc 41 (t24 n) (tc 46 (t24 n) (tc 51 (t24 n) aj)))) ak))))) (by kernel_rfl) (by kernel_rfl) (q := rp (en (av n)) 12 (qt))
 (aM rfl _ rfl)
 (by kernel_rfl)
theorem t32 (n : Int) : aH prog 59 (e32 n) := aA [] au (tk (f := 30) (tc 16 (t31 n) aj) (tk (f := 66) (tc 177 (t28 n) aj) ak)) (by kernel_rfl) (by kernel_rfl) (q := rp (en (av n)) 5 (qt))
 (aM rfl _ rfl)
 (by kernel_rfl)
end Gv.LUpgradeCycle
set_option linter.unusedSimpArgs false
set_option linter.unusedVariables false
set_option maxRecDepth 100000
open Rx Go
namespace Gv.LUpgradeCycle
open Gv Rd
theorem t33 (n : Int) : aH prog 29 (e33 n) := aA [] au (tk (f := 30) (tc 20 (t3 n) (tc 735 (t13 n) aj)) (tk (f := 57) (tc 741 (t16 n) (tc 760 (t21 n) aj)) (tk (f := 59) (tc 779 (t23 n) (tc 131857 (t32 n) aj)) ak))) (by kernel_rfl) (by kernel_rfl) (q := rp (en (av n)) 9 (qt))
 (aM rfl _ rfl)
 (by kernel_rfl)
end Gv.LUpgradeCycle
