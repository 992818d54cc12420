/- Told parts of ValuesOnce. Printed by gvgen.py. -/
import Derived.Test.YtcmnmceodhambaaGreatDoorGvUValuesOnce
import Derived.Test.YtcmnmceodhambaaGreatDoorGvPValuesOnce3
import Derived.Test.YtcmnmceodhambaaGreatDoorGvPValuesOnce4
set_option linter.unusedSimpArgs false
set_option linter.unusedVariables false
set_option maxRecDepth 100000
open Rx Go
namespace Gv.LValuesOnce
open Gv Rd
theorem t47 (n : Int) : TCtr prog 66 (e47 n) := tellQ [] tok_nil (by kernel_rfl) (by kernel_rfl) (q := qt)
 rfl
 (by kernel_rfl)
theorem t48 (n : Int) : TCtr prog 66 (e48 n) := tellQ [] tok_nil (by kernel_rfl) (by kernel_rfl) (q := qt)
 rfl
 (by kernel_rfl)
theorem t49 (n : Int) : TCtr prog 30 (e49 n) := tellQ [] (tk (f := 60) (tc 10 (t35 n) (tc 35 (t35 n) (tc 40 (t35 n) (tc 45 (t35 n) (tc 50 (t35 n) (tc 55 (t35 n) te_nil)))))) (tk (f := 45) (tc 26 (t42 n) te_nil) (tk (f := 66) (tc 27 (t43 n) (tc 28 (t44 n) (tc 29 (t45 n) (tc 30 (t46 n) (tc 31 (t47 n) (tc 32 (t48 n) te_nil)))))) (tk (f := 127) (tc 35 (t34 n) (tc 40 (t34 n) (tc 45 (t34 n) (tc 50 (t34 n) (tc 55 (t34 n) te_nil))))) tok_nil)))) (by kernel_rfl) (by kernel_rfl) (q := rp (en (pk100 n + (1 : Int) + (1 : Int))) 1 (rp (en (pk100 n + (1 : Int))) 1 (rp (en (pk100 n)) 1 (rp (en (pk100 n + (1 : Int) + (1 : Int))) 1 (rp (en (pk100 n + (1 : Int))) 1 (rp (en (pk100 n + (1 : Int) + (1 : Int))) 1 (rp (en (pk100 n + (1 : Int))) 1 (rp (en (pk100 n + (1 : Int) + (1 : Int))) 1 (rp (en (pk100 n + (1 : Int))) 1 (rp (en (pk100 n + (1 : Int) + (1 : Int))) 1 (rp (en (pk100 n + (1 : Int))) 1 (rp (en (pk100 n + (1 : Int) + (1 : Int))) 1 (rp (en (pk100 n + (1 : Int))) 1 (rp (en (pk100 n + (1 : Int) + (1 : Int))) 1 (rp (en (pk100 n + (1 : Int))) 1 (rp (en (pk100 n + (1 : Int) + (1 : Int))) 1 (rp (en (pk100 n + (1 : Int))) 1 (rp (en (pk100 n + (1 : Int) + (1 : Int))) 1 (rp (en (pk100 n + (1 : Int))) 1 (rp (en (pk100 n + (1 : Int) + (1 : Int))) 1 (rp (en (pk100 n + (1 : Int))) 1 (rp (en (pk100 n + (1 : Int) + (1 : Int))) 1 (rp (en (pk100 n + (1 : Int))) 1 (qt))))))))))))))))))))))))
 (rp_i rfl _ (rp_i rfl _ (rp_i rfl _ (rp_i rfl _ (rp_i rfl _ (rp_i rfl _ (rp_i rfl _ (rp_i rfl _ (rp_i rfl _ (rp_i rfl _ (rp_i rfl _ (rp_i rfl _ (rp_i rfl _ (rp_i rfl _ (rp_i rfl _ (rp_i rfl _ (rp_i rfl _ (rp_i rfl _ (rp_i rfl _ (rp_i rfl _ (rp_i rfl _ (rp_i rfl _ (rp_i rfl _ rfl)))))))))))))))))))))))
 (by kernel_rfl)
theorem t50 (n : Int) : TCtr prog 127 (e50 n) := tellQ [] tok_nil (by kernel_rfl) (by kernel_rfl) (q := rp ((.mp (.int .i64) .bool [((0 : Int), true), ((2 : Int), true), ((4 : Int), true), ((7 : Int), true)] : Ob) = .mp (.int .i64) .bool [((0 : Int), true), ((2 : Int), true), ((4 : Int), true), ((7 : Int), true)]) 1 (qt))
 (rp_i rfl _ rfl)
 (by kernel_rfl)
theorem t51 (n : Int) : TCtr prog 60 (e51 n) := tellQ [] (tk (f := 127) (tc 2 (t50 n) te_nil) tok_nil) (by kernel_rfl) (by kernel_rfl) (q := rp (en (pk100 n + (1 : Int) + (1 : Int))) 1 (rp (en (pk100 n + (1 : Int))) 1 (qt)))
 (rp_i rfl _ (rp_i rfl _ rfl))
 (by kernel_rfl)
theorem t52 (n : Int) : TCtr prog 57 (e52 n) := tellQ [] (tk (f := 30) (tc 14 (t49 n) te_nil) (tk (f := 60) (tc 8371 (t35 n) (tc 8439 (t51 n) te_nil)) tok_nil)) (by kernel_rfl) (by kernel_rfl) (q := rp (en (pk100 n + (1 : Int))) 1 (rp (en (pk100 n + (1 : Int) + (1 : Int))) 2 (rp (en (pk100 n + (1 : Int))) 1 (rp (en (pk100 n)) 1 (rp (en (pk100 n + (1 : Int) + (1 : Int))) 1 (rp (en (pk100 n + (1 : Int))) 1 (rp (en (pk100 n + (1 : Int) + (1 : Int))) 1 (rp (en (pk100 n + (1 : Int))) 2 (rp (en (pk100 n + (1 : Int) + (1 : Int))) 2 (rp (en (pk100 n + (1 : Int))) 1 (rp (en (pk100 n)) 1 (qt))))))))))))
 (rp_i rfl _ (rp_i rfl _ (rp_i rfl _ (rp_i rfl _ (rp_i rfl _ (rp_i rfl _ (rp_i rfl _ (rp_i rfl _ (rp_i rfl _ (rp_i rfl _ (rp_i rfl _ rfl)))))))))))
 (by kernel_rfl)
theorem t53 (n : Int) : TCtr prog 30 (e53 n) := tellQ [] (tk (f := 60) (tc 10 (t51 n) (tc 35 (t51 n) (tc 40 (t51 n) (tc 45 (t51 n) (tc 50 (t51 n) (tc 55 (t51 n) te_nil)))))) (tk (f := 45) (tc 26 (t42 n) te_nil) (tk (f := 66) (tc 27 (t43 n) (tc 28 (t44 n) (tc 29 (t45 n) (tc 30 (t46 n) (tc 31 (t47 n) (tc 32 (t48 n) te_nil)))))) (tk (f := 127) (tc 35 (t50 n) (tc 40 (t50 n) (tc 45 (t50 n) (tc 50 (t50 n) (tc 55 (t50 n) te_nil))))) tok_nil)))) (by kernel_rfl) (by kernel_rfl) (q := rp (en (pk100 n + (1 : Int) + (1 : Int))) 1 (rp (en (pk100 n + (1 : Int))) 1 (rp (en (pk100 n)) 1 (rp (en (pk100 n + (1 : Int) + (1 : Int))) 1 (rp (en (pk100 n + (1 : Int))) 1 (rp (en (pk100 n + (1 : Int) + (1 : Int))) 1 (rp (en (pk100 n + (1 : Int))) 1 (rp (en (pk100 n + (1 : Int) + (1 : Int))) 1 (rp (en (pk100 n + (1 : Int))) 1 (rp (en (pk100 n + (1 : Int) + (1 : Int))) 1 (rp (en (pk100 n + (1 : Int))) 1 (rp (en (pk100 n + (1 : Int) + (1 : Int))) 1 (rp (en (pk100 n + (1 : Int))) 1 (rp (en (pk100 n + (1 : Int) + (1 : Int))) 1 (rp (en (pk100 n + (1 : Int))) 1 (rp (en (pk100 n + (1 : Int) + (1 : Int))) 1 (rp (en (pk100 n + (1 : Int))) 1 (rp (en (pk100 n + (1 : Int) + (1 : Int))) 1 (rp (en (pk100 n + (1 : Int))) 1 (rp (en (pk100 n + (1 : Int) + (1 : Int))) 1 (rp (en (pk100 n + (1 : Int))) 1 (rp (en (pk100 n + (1 : Int) + (1 : Int))) 1 (rp (en (pk100 n + (1 : Int))) 1 (qt))))))))))))))))))))))))
 (rp_i rfl _ (rp_i rfl _ (rp_i rfl _ (rp_i rfl _ (rp_i rfl _ (rp_i rfl _ (rp_i rfl _ (rp_i rfl _ (rp_i rfl _ (rp_i rfl _ (rp_i rfl _ (rp_i rfl _ (rp_i rfl _ (rp_i rfl _ (rp_i rfl _ (rp_i rfl _ (rp_i rfl _ (rp_i rfl _ (rp_i rfl _ (rp_i rfl _ (rp_i rfl _ (rp_i rfl _ (rp_i rfl _ rfl)))))))))))))))))))))))
 (by kernel_rfl)
theorem t54 (n : Int) : TCtr prog 59 (e54 n) := tellQ [] (tk (f := 30) (tc 14 (t53 n) te_nil) (tk (f := 66) (tc 176 (t47 n) te_nil) tok_nil)) (by kernel_rfl) (by kernel_rfl) (q := rp (en (pk100 n + (1 : Int))) 1 (rp (en (pk100 n + (1 : Int) + (1 : Int))) 2 (rp (en (pk100 n + (1 : Int))) 1 (rp (en (pk100 n)) 1 (rp (en (pk100 n + (1 : Int) + (pk100 n + (1 : Int) + (1 : Int)))) 2 (rp (en (pk100 n + (1 : Int))) 1 (rp (en (pk100 n + (1 : Int) + (1 : Int))) 2 (rp (en (pk100 n + (1 : Int))) 1 (rp (en (pk100 n)) 1 (qt))))))))))
 (rp_i rfl _ (rp_i rfl _ (rp_i rfl _ (rp_i rfl _ (rp_i rfl _ (rp_i rfl _ (rp_i rfl _ (rp_i rfl _ (rp_i rfl _ rfl)))))))))
 (by kernel_rfl)
end Gv.LValuesOnce
