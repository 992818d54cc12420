/- Told parts of ValuesOnce. Printed by gvgen.py. -/
import Derived.Test.YtcmnmceodhambaaGreatDoorGvUValuesOnce
import Derived.Test.YtcmnmceodhambaaGreatDoorGvPValuesOnce3
import Derived.Test.YtcmnmceodhambaaGreatDoorGvPValuesOnce0
set_option linter.unusedSimpArgs false
set_option linter.unusedVariables false
set_option maxRecDepth 100000
open Rx Go
namespace Gv.LValuesOnce
open Gv Rd
theorem t38 (n : Int) : TCtr prog 40 (e38 n) := tellQ [] (tk (f := 22) (tc 12 (t31 n) te_nil) (tk (f := 59) (tc 83 (t33 n) te_nil) (tk (f := 82) (tc 131157 (t37 n) te_nil) tok_nil))) (by kernel_rfl) (by kernel_rfl) (q := rp (en (pk100 n + (1 : Int))) 1 (rp (en (pk100 n + (1 : Int) + (1 : Int))) 1 (rp (en (pk100 n)) 1 (rp (en (pk100 n + (1 : Int))) 1 (rp (en (pk100 n + (1 : Int) + (1 : Int))) 1 (rp (en (pk100 n)) 1 (rp (en (pk100 n + (1 : Int))) 1 (rp (en (pk100 n + (1 : Int) + (1 : Int))) 2 (rp (en (pk100 n + (1 : Int))) 1 (rp (en (pk100 n)) 1 ((s13 ++ itoaB (pk100 n + 1) ++ s14 ++ itoaB (pk100 n + 1 + 1) ++ s15 = s13 ++ itoaB (pk100 n + 1) ++ s14 ++ itoaB (pk100 n + 1 + 1) ++ s15) ∧
 rp (en (pk100 n + (1 : Int))) 1 (rp (en (pk100 n + (1 : Int) + (1 : Int))) 2 (rp (en (pk100 n + (1 : Int))) 1 (rp (en (pk100 n)) 1 (qt)))))))))))))))
 (by
 obtain ⟨h0, h1, h2, h3, h4, h5, h6, h7, h8, h9, h10, h11, h12, h13⟩ := fx n
 iterate 10 refine rp_i rfl _ ?_
 refine ⟨rfl, ?_⟩
 iterate 4 refine rp_i rfl _ ?_
 rfl
 )
  (by kernel_rfl)
theorem t39 (n : Int) : TCtr prog 30 (e39 n) := tellQ [] (tk (f := 60) (tc 8 (t35 n) (tc 28 (t35 n) (tc 33 (t35 n) (tc 38 (t35 n) (tc 43 (t35 n) te_nil))))) (tk (f := 45) (tc 21 (t6 n) te_nil) (tk (f := 66) (tc 22 (t8 n) (tc 23 (t9 n) (tc 24 (t10 n) (tc 25 (t11 n) te_nil)))) (tk (f := 127) (tc 28 (t34 n) (tc 33 (t34 n) (tc 38 (t34 n) (tc 43 (t34 n) te_nil)))) tok_nil)))) (by kernel_rfl) (by kernel_rfl) (q := rp (en (pk100 n + (1 : Int) + (1 : Int))) 1 (rp (en (pk100 n + (1 : Int))) 1 (rp (en (pk100 n)) 1 (rp (en (pk100 n + (1 : Int) + (1 : Int))) 1 (rp (en (pk100 n + (1 : Int))) 1 (rp (en (pk100 n + (1 : Int) + (1 : Int))) 1 (rp (en (pk100 n + (1 : Int))) 1 (rp (en (pk100 n + (1 : Int) + (1 : Int))) 1 (rp (en (pk100 n + (1 : Int))) 1 (rp (en (pk100 n + (1 : Int) + (1 : Int))) 1 (rp (en (pk100 n + (1 : Int))) 1 (rp (en (pk100 n + (1 : Int) + (1 : Int))) 1 (rp (en (pk100 n + (1 : Int))) 1 (rp (en (pk100 n + (1 : Int) + (1 : Int))) 1 (rp (en (pk100 n + (1 : Int))) 1 (rp (en (pk100 n + (1 : Int) + (1 : Int))) 1 (rp (en (pk100 n + (1 : Int))) 1 (rp (en (pk100 n + (1 : Int) + (1 : Int))) 1 (rp (en (pk100 n + (1 : Int))) 1 (qt))))))))))))))))))))
 (rp_i rfl _ (rp_i rfl _ (rp_i rfl _ (rp_i rfl _ (rp_i rfl _ (rp_i rfl _ (rp_i rfl _ (rp_i rfl _ (rp_i rfl _ (rp_i rfl _ (rp_i rfl _ (rp_i rfl _ (rp_i rfl _ (rp_i rfl _ (rp_i rfl _ (rp_i rfl _ (rp_i rfl _ (rp_i rfl _ (rp_i rfl _ rfl)))))))))))))))))))
 (by kernel_rfl)
theorem t40 (n : Int) : TCtr prog 22 (e40 n) := tellQ [] (tk (f := 30) (tc 9 (t39 n) te_nil) tok_nil) (by kernel_rfl) (by kernel_rfl) (q := rp (en (pk100 n + (1 : Int))) 1 (rp (en (pk100 n + (1 : Int) + (1 : Int))) 2 (rp (en (pk100 n + (1 : Int))) 1 (rp (en (pk100 n)) 1 (qt)))))
 (rp_i rfl _ (rp_i rfl _ (rp_i rfl _ (rp_i rfl _ rfl))))
 (by kernel_rfl)
theorem t41 (n : Int) : TCtr prog 28 (e41 n) := tellQ [] (tk (f := 45) (tc 3 (t6 n) te_nil) tok_nil) (by kernel_rfl) (by kernel_rfl) (q := rp ((D (.arr 4 2 (dxL [(sy s7), (sy s5)])) : SV) = D (.arr 4 2 (dxL [(sy s7), (sy s5)]))) 1 (rp ((D (.arr 4 2 (dxL [(sy s9), (num 1)])) : SV) = D (.arr 4 2 (dxL [(sy s9), (num 1)]))) 1 (rp ((D (.arr 4 3 (dxL [(sy s6), (sy s2), (sy s4)])) : SV) = D (.arr 4 3 (dxL [(sy s6), (sy s2), (sy s4)]))) 1 (rp (((dxL []) : Nat → Nat → Dt) = (dxL [])) 1 (qt)))))
 (rp_i rfl _ (rp_i rfl _ (rp_i rfl _ (rp_i rfl _ rfl))))
 (by kernel_rfl)
theorem t42 (n : Int) : TCtr prog 45 (e42 n) := tellQ [] tok_nil (by kernel_rfl) (by kernel_rfl) (q := qt)
 rfl
 (by kernel_rfl)
theorem t43 (n : Int) : TCtr prog 66 (e43 n) := tellQ [] (tk (f := 60) (tc 42 (t7 n) (tc 77 (t7 n) te_nil)) (tk (f := 127) (tc 42 (t0 n) (tc 77 (t0 n) te_nil)) tok_nil)) (by kernel_rfl) (by kernel_rfl) (q := qt)
 rfl
 (by kernel_rfl)
theorem t44 (n : Int) : TCtr prog 66 (e44 n) := tellQ [] tok_nil (by kernel_rfl) (by kernel_rfl) (q := qt)
 rfl
 (by kernel_rfl)
theorem t45 (n : Int) : TCtr prog 66 (e45 n) := tellQ [] (tk (f := 60) (tc 37 (t7 n) (tc 73 (t7 n) te_nil)) (tk (f := 127) (tc 37 (t0 n) (tc 73 (t0 n) te_nil)) tok_nil)) (by kernel_rfl) (by kernel_rfl) (q := qt)
 rfl
 (by kernel_rfl)
theorem t46 (n : Int) : TCtr prog 66 (e46 n) := tellQ [] tok_nil (by kernel_rfl) (by kernel_rfl) (q := qt)
 rfl
 (by kernel_rfl)
end Gv.LValuesOnce
