/- Told parts of ValuesOnce. Printed by gvgen.py. -/
import Derived.Test.YtcmnmceodhambaaGreatDoorGvUValuesOnce
import Derived.Test.YtcmnmceodhambaaGreatDoorGvPValuesOnce4
import Derived.Test.YtcmnmceodhambaaGreatDoorGvPValuesOnce5
set_option linter.unusedSimpArgs false
set_option linter.unusedVariables false
set_option maxRecDepth 100000
open Rx Go
namespace Gv.LValuesOnce
open Gv Rd
theorem t55 (n : Int) : TCtr prog 29 (e55 n) := tellQ [] (tk (f := 30) (tc 15 (t39 n) (tc 366 (t49 n) te_nil)) (tk (f := 57) (tc 372 (t52 n) te_nil) (tk (f := 59) (tc 391 (t54 n) te_nil) tok_nil))) (by kernel_rfl) (by kernel_rfl) (q := rp (en (pk100 n + (1 : Int))) 1 (rp (en (pk100 n + (1 : Int) + (1 : Int))) 2 (rp (en (pk100 n + (1 : Int))) 1 (rp (en (pk100 n)) 1 (rp (en (pk100 n + (1 : Int))) 1 (rp (en (pk100 n + (1 : Int) + (1 : Int))) 2 (rp (en (pk100 n + (1 : Int))) 1 (rp (en (pk100 n)) 1 (rp (en (pk100 n + (1 : Int))) 1 (rp (en (pk100 n + (1 : Int) + (1 : Int))) 2 (rp (en (pk100 n + (1 : Int))) 1 (rp (en (pk100 n)) 1 (rp (en (pk100 n + (1 : Int))) 1 (rp (en (pk100 n + (1 : Int) + (1 : Int))) 2 (rp (en (pk100 n + (1 : Int))) 1 (rp (en (pk100 n)) 1 (rp (en (pk100 n + (1 : Int) + (pk100 n + (1 : Int) + (1 : Int)))) 1 (rp (en (pk100 n + (1 : Int))) 1 (rp (en (pk100 n + (1 : Int) + (pk100 n + (1 : Int) + (1 : Int)))) 1 (rp (en (pk100 n + (1 : Int) + (1 : Int))) 2 (rp (en (pk100 n + (1 : Int))) 1 (rp (en (pk100 n)) 1 (qt)))))))))))))))))))))))
 (rp_i rfl _ (rp_i rfl _ (rp_i rfl _ (rp_i rfl _ (rp_i rfl _ (rp_i rfl _ (rp_i rfl _ (rp_i rfl _ (rp_i rfl _ (rp_i rfl _ (rp_i rfl _ (rp_i rfl _ (rp_i rfl _ (rp_i rfl _ (rp_i rfl _ (rp_i rfl _ (rp_i rfl _ (rp_i rfl _ (rp_i rfl _ (rp_i rfl _ (rp_i rfl _ (rp_i rfl _ rfl))))))))))))))))))))))
 (by kernel_rfl)
end Gv.LValuesOnce
