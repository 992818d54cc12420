/- Told parts of ValuesOnce. Printed by gvgen.py. -/
import Derived.Test.YtcmnmceodhambaaGreatDoorGvUValuesOnce
import Derived.Test.YtcmnmceodhambaaGreatDoorGvPValuesOnce0
set_option linter.unusedSimpArgs false
set_option linter.unusedVariables false
set_option maxRecDepth 100000
open Rx Go
namespace Gv.LValuesOnce
open Gv Rd
theorem t21 (n : Int) : TCtr prog 59 (e21 n) := tellQ [] (tk (f := 30) (tc 12 (t20 n) te_nil) (tk (f := 66) (tc 164 (t8 n) te_nil) tok_nil)) (by kernel_rfl) (by kernel_rfl) (q := rp (en (pk100 n)) 2 (rp (en (pk100 n + (1 : Int))) 2 (rp (en (pk100 n)) 1 (qt))))
 (rp_i rfl _ (rp_i rfl _ (rp_i rfl _ rfl)))
 (by kernel_rfl)
theorem t22 (n : Int) : TCtr prog 66 (e22 n) := tellQ [] (tk (f := 60) (tc 42 (t7 n) (tc 77 (t7 n) te_nil)) (tk (f := 127) (tc 42 (t0 n) (tc 77 (t0 n) te_nil)) tok_nil)) (by kernel_rfl) (by kernel_rfl) (q := qt)
 rfl
 (by kernel_rfl)
theorem t23 (n : Int) : TCtr prog 66 (e23 n) := tellQ [] tok_nil (by kernel_rfl) (by kernel_rfl) (q := qt)
 rfl
 (by kernel_rfl)
theorem t24 (n : Int) : TCtr prog 66 (e24 n) := tellQ [] (tk (f := 60) (tc 37 (t7 n) (tc 73 (t7 n) te_nil)) (tk (f := 127) (tc 37 (t0 n) (tc 73 (t0 n) te_nil)) tok_nil)) (by kernel_rfl) (by kernel_rfl) (q := qt)
 rfl
 (by kernel_rfl)
theorem t25 (n : Int) : TCtr prog 66 (e25 n) := tellQ [] tok_nil (by kernel_rfl) (by kernel_rfl) (q := qt)
 rfl
 (by kernel_rfl)
theorem t26 (n : Int) : TCtr prog 30 (e26 n) := tellQ [] (tk (f := 60) (tc 9 (t18 n) (tc 29 (t18 n) (tc 34 (t18 n) (tc 39 (t18 n) (tc 44 (t18 n) te_nil))))) (tk (f := 45) (tc 22 (t6 n) te_nil) (tk (f := 66) (tc 23 (t22 n) (tc 24 (t23 n) (tc 25 (t24 n) (tc 26 (t25 n) te_nil)))) (tk (f := 127) (tc 29 (t17 n) (tc 34 (t17 n) (tc 39 (t17 n) (tc 44 (t17 n) te_nil)))) tok_nil)))) (by kernel_rfl) (by kernel_rfl) (q := rp (en (pk100 n)) 1 (qt))
 (rp_i rfl _ rfl)
 (by kernel_rfl)
theorem t27 (n : Int) : TCtr prog 59 (e27 n) := tellQ [] (tk (f := 30) (tc 13 (t26 n) te_nil) (tk (f := 66) (tc 165 (t23 n) te_nil) tok_nil)) (by kernel_rfl) (by kernel_rfl) (q := rp (en (pk100 n + (1 : Int))) 1 (rp (en (pk100 n)) 2 (rp (en (pk100 n + (1 : Int) + (1 : Int))) 2 (rp (en (pk100 n + (1 : Int))) 1 (rp (en (pk100 n)) 1 (qt))))))
 (rp_i rfl _ (rp_i rfl _ (rp_i rfl _ (rp_i rfl _ (rp_i rfl _ rfl)))))
 (by kernel_rfl)
end Gv.LValuesOnce
