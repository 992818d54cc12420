/- Told parts of ValuesOnce. Printed by gvgen.py. -/
import Derived.Test.YtcmnmceodhambaaGreatDoorGvUValuesOnce
set_option linter.unusedSimpArgs false
set_option linter.unusedVariables false
set_option maxRecDepth 100000
open Rx Go
namespace Gv.LValuesOnce
open Gv Rd
theorem t0 (n : Int) : TCtr prog 127 (e0 n) := tellQ [] tok_nil (by kernel_rfl) (by kernel_rfl) (q := rp ((.mp (.int .i64) .bool [] : Ob) = .mp (.int .i64) .bool []) 1 (qt))
 (rp_i rfl _ rfl)
 (by kernel_rfl)
theorem t1 (n : Int) : TCtr prog 60 (e1 n) := tellQ [] (tk (f := 127) (tc 1 (t0 n) te_nil) tok_nil) (by kernel_rfl) (by kernel_rfl) (q := qt)
 rfl
 (by kernel_rfl)
theorem t2 (n : Int) : TCtr prog 45 (e2 n) := tellQ [] tok_nil (by kernel_rfl) (by kernel_rfl) (q := qt)
 rfl
 (by kernel_rfl)
theorem t3 (n : Int) : TCtr prog 30 (e3 n) := tellQ [] (tk (f := 60) (tc 1 (t1 n) te_nil) (tk (f := 45) (tc 2 (t2 n) te_nil) tok_nil)) (by kernel_rfl) (by kernel_rfl) (q := qt)
 rfl
 (by kernel_rfl)
theorem t4 (n : Int) : TCtr prog 22 (e4 n) := tellQ [] (tk (f := 30) (tc 2 (t3 n) te_nil) tok_nil) (by kernel_rfl) (by kernel_rfl) (q := qt)
 rfl
 (by kernel_rfl)
theorem t5 (n : Int) : TCtr prog 28 (e5 n) := tellQ [] (tk (f := 45) (tc 2 (t2 n) te_nil) tok_nil) (by kernel_rfl) (by kernel_rfl) (q := rp ((D (.arr 4 2 (dxL [(sy s3), (sy s5)])) : SV) = D (.arr 4 2 (dxL [(sy s3), (sy s5)]))) 1 (rp ((D (.arr 4 2 (dxL [(sy s7), (sy s5)])) : SV) = D (.arr 4 2 (dxL [(sy s7), (sy s5)]))) 1 (rp ((D (.arr 4 2 (dxL [(sy s3), (nu 0 99 (pk100 n))])) : SV) = D (.arr 4 2 (dxL [(sy s3), (nu 0 99 (pk100 n))]))) 1 (rp ((D (.arr 4 2 (dxL [(sy s3), (sy s2)])) : SV) = D (.arr 4 2 (dxL [(sy s3), (sy s2)]))) 1 (rp ((D (.arr 4 3 (dxL [(sy s6), (sy s5), (num 1)])) : SV) = D (.arr 4 3 (dxL [(sy s6), (sy s5), (num 1)]))) 1 (rp ((D (.arr 4 3 (dxL [(sy s8), (sy s2), (sy s4)])) : SV) = D (.arr 4 3 (dxL [(sy s8), (sy s2), (sy s4)]))) 1 (rp (en (pk100 n)) 1 (rp (((dxL []) : Nat → Nat → Dt) = (dxL [])) 2 (qt)))))))))
 (rp_i rfl _ (rp_i rfl _ (rp_i rfl _ (rp_i rfl _ (rp_i rfl _ (rp_i rfl _ (rp_i rfl _ (rp_i rfl _ rfl))))))))
 (by kernel_rfl)
theorem t6 (n : Int) : TCtr prog 45 (e6 n) := tellQ [] tok_nil (by kernel_rfl) (by kernel_rfl) (q := qt)
 rfl
 (by kernel_rfl)
theorem t7 (n : Int) : TCtr prog 60 (e7 n) := tellQ [] (tk (f := 127) (tc 1 (t0 n) te_nil) tok_nil) (by kernel_rfl) (by kernel_rfl) (q := qt)
 rfl
 (by kernel_rfl)
theorem t8 (n : Int) : TCtr prog 66 (e8 n) := tellQ [] (tk (f := 60) (tc 42 (t7 n) (tc 77 (t7 n) te_nil)) (tk (f := 127) (tc 42 (t0 n) (tc 77 (t0 n) te_nil)) tok_nil)) (by kernel_rfl) (by kernel_rfl) (q := qt)
 rfl
 (by kernel_rfl)
theorem t9 (n : Int) : TCtr prog 66 (e9 n) := tellQ [] tok_nil (by kernel_rfl) (by kernel_rfl) (q := qt)
 rfl
 (by kernel_rfl)
theorem t10 (n : Int) : TCtr prog 66 (e10 n) := tellQ [] (tk (f := 60) (tc 37 (t7 n) (tc 73 (t7 n) te_nil)) (tk (f := 127) (tc 37 (t0 n) (tc 73 (t0 n) te_nil)) tok_nil)) (by kernel_rfl) (by kernel_rfl) (q := qt)
 rfl
 (by kernel_rfl)
theorem t11 (n : Int) : TCtr prog 66 (e11 n) := tellQ [] tok_nil (by kernel_rfl) (by kernel_rfl) (q := qt)
 rfl
 (by kernel_rfl)
theorem t12 (n : Int) : TCtr prog 30 (e12 n) := tellQ [] (tk (f := 60) (tc 7 (t1 n) (tc 27 (t1 n) (tc 32 (t1 n) (tc 37 (t1 n) (tc 42 (t1 n) te_nil))))) (tk (f := 45) (tc 20 (t6 n) te_nil) (tk (f := 66) (tc 21 (t8 n) (tc 22 (t9 n) (tc 23 (t10 n) (tc 24 (t11 n) te_nil)))) (tk (f := 127) (tc 27 (t0 n) (tc 32 (t0 n) (tc 37 (t0 n) (tc 42 (t0 n) te_nil)))) tok_nil)))) (by kernel_rfl) (by kernel_rfl) (q := rp (en (pk100 n)) 1 (qt))
 (rp_i rfl _ rfl)
 (by kernel_rfl)
theorem t13 (n : Int) : TCtr prog 127 (e13 n) := tellQ [] tok_nil (by kernel_rfl) (by kernel_rfl) (q := rp ((.mp (.int .i64) .bool [((0 : Int), true)] : Ob) = .mp (.int .i64) .bool [((0 : Int), true)]) 1 (qt))
 (rp_i rfl _ rfl)
 (by kernel_rfl)
theorem t14 (n : Int) : TCtr prog 60 (e14 n) := tellQ [] (tk (f := 127) (tc 2 (t13 n) te_nil) tok_nil) (by kernel_rfl) (by kernel_rfl) (q := qt)
 rfl
 (by kernel_rfl)
theorem t15 (n : Int) : TCtr prog 57 (e15 n) := tellQ [] (tk (f := 30) (tc 11 (t12 n) te_nil) (tk (f := 60) (tc 8358 (t1 n) (tc 8426 (t14 n) te_nil)) tok_nil)) (by kernel_rfl) (by kernel_rfl) (q := rp (en (pk100 n)) 2 (qt))
 (rp_i rfl _ rfl)
 (by kernel_rfl)
theorem t16 (n : Int) : TCtr prog 30 (e16 n) := tellQ [] (tk (f := 60) (tc 8 (t14 n) (tc 28 (t14 n) (tc 33 (t14 n) (tc 38 (t14 n) (tc 43 (t14 n) te_nil))))) (tk (f := 45) (tc 21 (t6 n) te_nil) (tk (f := 66) (tc 22 (t8 n) (tc 23 (t9 n) (tc 24 (t10 n) (tc 25 (t11 n) te_nil)))) (tk (f := 127) (tc 28 (t13 n) (tc 33 (t13 n) (tc 38 (t13 n) (tc 43 (t13 n) te_nil)))) tok_nil)))) (by kernel_rfl) (by kernel_rfl) (q := rp (en (pk100 n)) 1 (qt))
 (rp_i rfl _ rfl)
 (by kernel_rfl)
theorem t17 (n : Int) : TCtr prog 127 (e17 n) := tellQ [] tok_nil (by kernel_rfl) (by kernel_rfl) (q := rp ((.mp (.int .i64) .bool [((0 : Int), true), ((2 : Int), true)] : Ob) = .mp (.int .i64) .bool [((0 : Int), true), ((2 : Int), true)]) 1 (qt))
 (rp_i rfl _ rfl)
 (by kernel_rfl)
theorem t18 (n : Int) : TCtr prog 60 (e18 n) := tellQ [] (tk (f := 127) (tc 2 (t17 n) te_nil) tok_nil) (by kernel_rfl) (by kernel_rfl) (q := qt)
 rfl
 (by kernel_rfl)
theorem t19 (n : Int) : TCtr prog 57 (e19 n) := tellQ [] (tk (f := 30) (tc 12 (t16 n) te_nil) (tk (f := 60) (tc 8359 (t14 n) (tc 8427 (t18 n) te_nil)) tok_nil)) (by kernel_rfl) (by kernel_rfl) (q := rp (en (pk100 n)) 2 (qt))
 (rp_i rfl _ rfl)
 (by kernel_rfl)
theorem t20 (n : Int) : TCtr prog 30 (e20 n) := tellQ [] (tk (f := 60) (tc 8 (t18 n) (tc 28 (t18 n) (tc 33 (t18 n) (tc 38 (t18 n) (tc 43 (t18 n) te_nil))))) (tk (f := 45) (tc 21 (t6 n) te_nil) (tk (f := 66) (tc 22 (t8 n) (tc 23 (t9 n) (tc 24 (t10 n) (tc 25 (t11 n) te_nil)))) (tk (f := 127) (tc 28 (t17 n) (tc 33 (t17 n) (tc 38 (t17 n) (tc 43 (t17 n) te_nil)))) tok_nil)))) (by kernel_rfl) (by kernel_rfl) (q := rp (en (pk100 n)) 1 (qt))
 (rp_i rfl _ rfl)
 (by kernel_rfl)
end Gv.LValuesOnce
