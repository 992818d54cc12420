/- Told parts of ValuesOnce. Printed by gvgen.py. -/
import Derived.Test.YtcmnmceodhambaaGreatDoorGvUValuesOnce
import Derived.Test.YtcmnmceodhambaaGreatDoorGvPValuesOnce7
import Derived.Test.YtcmnmceodhambaaGreatDoorGvPValuesOnce5
import Derived.Test.YtcmnmceodhambaaGreatDoorGvPValuesOnce4
set_option linter.unusedSimpArgs false
set_option linter.unusedVariables false
set_option maxRecDepth 100000
open Rx Go
namespace Gv.LValuesOnce
open Gv Rd
theorem t66 (n : Int) : TCtr prog 59 (e66 n) := tellQ [] (tk (f := 30) (tc 16 (t63 n) te_nil) (tk (f := 66) (tc 178 (t65 n) te_nil) tok_nil)) (by kernel_rfl) (by kernel_rfl) (q := rp (en (pk100 n + (1 : Int))) 1 (rp (en (pk100 n + (1 : Int) + (pk100 n + (1 : Int) + (1 : Int)))) 1 (rp (en (pk100 n + (1 : Int) + (1 : Int))) 2 (rp (en (pk100 n + (1 : Int))) 1 (rp (en (pk100 n)) 1 (rp (en (pk100 n + (1 : Int) + (pk100 n + (1 : Int) + (1 : Int)))) 2 (rp (en (pk100 n + (1 : Int))) 1 (rp (en (pk100 n + (1 : Int) + (pk100 n + (1 : Int) + (1 : Int)))) 1 (rp (en (pk100 n + (1 : Int) + (1 : Int))) 2 (rp (en (pk100 n + (1 : Int))) 1 (rp (en (pk100 n)) 1 (qt))))))))))))
 (rp_i rfl _ (rp_i rfl _ (rp_i rfl _ (rp_i rfl _ (rp_i rfl _ (rp_i rfl _ (rp_i rfl _ (rp_i rfl _ (rp_i rfl _ (rp_i rfl _ (rp_i rfl _ rfl)))))))))))
 (by kernel_rfl)
theorem t67 (n : Int) : TCtr prog 30 (e67 n) := tellQ [] (tk (f := 60) (tc 11 (t51 n) (tc 36 (t51 n) (tc 41 (t51 n) (tc 46 (t51 n) (tc 51 (t51 n) (tc 56 (t51 n) te_nil)))))) (tk (f := 45) (tc 27 (t42 n) te_nil) (tk (f := 66) (tc 28 (t57 n) (tc 29 (t58 n) (tc 30 (t59 n) (tc 31 (t60 n) (tc 32 (t61 n) (tc 33 (t62 n) te_nil)))))) (tk (f := 127) (tc 36 (t50 n) (tc 41 (t50 n) (tc 46 (t50 n) (tc 51 (t50 n) (tc 56 (t50 n) te_nil))))) tok_nil)))) (by kernel_rfl) (by kernel_rfl) (q := rp (en (pk100 n + (1 : Int) + (1 : Int))) 1 (rp (en (pk100 n + (1 : Int))) 1 (rp (en (pk100 n)) 1 (rp (en (pk100 n + (1 : Int) + (1 : Int))) 1 (rp (en (pk100 n + (1 : Int))) 1 (rp (en (pk100 n + (1 : Int) + (1 : Int))) 1 (rp (en (pk100 n + (1 : Int))) 1 (rp (en (pk100 n + (1 : Int) + (1 : Int))) 1 (rp (en (pk100 n + (1 : Int))) 1 (rp (en (pk100 n + (1 : Int) + (1 : Int))) 1 (rp (en (pk100 n + (1 : Int))) 1 (rp (en (pk100 n + (1 : Int) + (1 : Int))) 1 (rp (en (pk100 n + (1 : Int))) 1 (rp (en (pk100 n + (1 : Int) + (1 : Int))) 1 (rp (en (pk100 n + (1 : Int))) 1 (rp (en (pk100 n + (1 : Int) + (1 : Int))) 1 (rp (en (pk100 n + (1 : Int))) 1 (rp (en (pk100 n + (1 : Int) + (1 : Int))) 1 (rp (en (pk100 n + (1 : Int))) 1 (rp (en (pk100 n + (1 : Int) + (1 : Int))) 1 (rp (en (pk100 n + (1 : Int))) 1 (rp (en (pk100 n + (1 : Int) + (1 : Int))) 1 (rp (en (pk100 n + (1 : Int))) 1 (qt))))))))))))))))))))))))
 (rp_i rfl _ (rp_i rfl _ (rp_i rfl _ (rp_i rfl _ (rp_i rfl _ (rp_i rfl _ (rp_i rfl _ (rp_i rfl _ (rp_i rfl _ (rp_i rfl _ (rp_i rfl _ (rp_i rfl _ (rp_i rfl _ (rp_i rfl _ (rp_i rfl _ (rp_i rfl _ (rp_i rfl _ (rp_i rfl _ (rp_i rfl _ (rp_i rfl _ (rp_i rfl _ (rp_i rfl _ (rp_i rfl _ rfl)))))))))))))))))))))))
 (by kernel_rfl)
theorem t68 (n : Int) : TCtr prog 82 (e68 n) := tellQ [] (tk (f := 30) (tc 13 (t67 n) te_nil) (tk (f := 60) (tc 15 (t51 n) (tc 24 (t51 n) te_nil)) (tk (f := 127) (tc 15 (t50 n) (tc 24 (t50 n) te_nil)) tok_nil))) (by kernel_rfl) (by kernel_rfl) (q := rp (en (pk100 n + (1 : Int))) 1 (rp (en (pk100 n + (1 : Int) + (pk100 n + (1 : Int) + (1 : Int)))) 1 (rp (en (pk100 n + (1 : Int) + (1 : Int))) 2 (rp (en (pk100 n + (1 : Int))) 1 (rp (en (pk100 n)) 1 (rp (en (pk100 n + (1 : Int) + (1 : Int))) 1 (rp (en (pk100 n + (1 : Int))) 1 (rp (en (pk100 n + (1 : Int) + (1 : Int))) 1 (rp (en (pk100 n + (1 : Int))) 1 (rp (en (pk100 n + (1 : Int) + (1 : Int))) 1 (rp (en (pk100 n + (1 : Int))) 1 (rp (en (pk100 n + (1 : Int) + (1 : Int))) 1 (rp (en (pk100 n + (1 : Int))) 1 (((fun n_1 => n_1 + (itoaB (pk100 n + 1 + (pk100 n + 1 + 1))).size ≤ 100000) 0) ∧
 (bytesP ((fun n_1 => n_1 + (itoaB (pk100 n + 1 + (pk100 n + 1 + 1))).size) 0) ((fun n_1 f => catF n_1 f (bytF (itoaB (pk100 n + 1 + (pk100 n + 1 + 1))))) 0 row0)) ∧
 (itoaB (pk100 n + 1 + (pk100 n + 1 + 1)) = (ByteArray.mk ((rowL ((fun n_1 => n_1 + (itoaB (pk100 n + 1 + (pk100 n + 1 + 1))).size) 0) ((fun n_1 f => catF n_1 f (bytF (itoaB (pk100 n + 1 + (pk100 n + 1 + 1))))) 0 row0)).toArray))) ∧
 rp (en (pk100 n + (1 : Int))) 1 (rp (en (pk100 n + (1 : Int) + (pk100 n + (1 : Int) + (1 : Int)))) 1 (rp (en (pk100 n + (1 : Int) + (1 : Int))) 2 (rp (en (pk100 n + (1 : Int))) 1 (rp (en (pk100 n)) 1 (qt)))))))))))))))))))
 (by
 obtain ⟨h0, h1, h2, h3, h4, h5, h6, h7, h8, h9, h10, h11, h12, h13⟩ := fx n
 iterate 13 refine rp_i rfl _ ?_
 refine ⟨by simp only [ByteArray.size_append, sz_lit, List.size_toArray, List.length_cons, List.length_nil, List.append_eq, List.length_append]; omega, ?_⟩
 refine ⟨bld_bytes (bld_ws bld_nil (itoaB (pk100 n + 1 + (pk100 n + 1 + 1)))) (by simp only [ByteArray.size_append, sz_lit, List.size_toArray, List.length_cons, List.length_nil, List.append_eq, List.length_append]; omega) (by simp only [ByteArray.size_append, sz_lit, List.size_toArray, List.length_cons, List.length_nil, List.append_eq, List.length_append]; omega), ?_⟩
 refine ⟨txt_eq (bld_ws bld_nil (itoaB (pk100 n + 1 + (pk100 n + 1 + 1)))) (by (simp only [tl_app, tl_lit, List.append_assoc, List.nil_append]) <;> kernel_rfl), ?_⟩
 iterate 5 refine rp_i rfl _ ?_
 rfl
 )
  (by kernel_rfl)
theorem t69 (n : Int) : TCtr prog 40 (e69 n) := tellQ [] (tk (f := 22) (tc 14 (t64 n) te_nil) (tk (f := 59) (tc 85 (t66 n) te_nil) (tk (f := 82) (tc 131159 (t68 n) te_nil) tok_nil))) (by kernel_rfl) (by kernel_rfl) (q := rp (en (pk100 n + (1 : Int))) 1 (rp (en (pk100 n + (1 : Int) + (pk100 n + (1 : Int) + (1 : Int)))) 1 (rp (en (pk100 n + (1 : Int) + (1 : Int))) 2 (rp (en (pk100 n + (1 : Int))) 1 (rp (en (pk100 n)) 1 (rp (en (pk100 n + (1 : Int))) 1 (rp (en (pk100 n + (1 : Int) + (pk100 n + (1 : Int) + (1 : Int)))) 1 (rp (en (pk100 n + (1 : Int) + (1 : Int))) 2 (rp (en (pk100 n + (1 : Int))) 1 (rp (en (pk100 n)) 1 (rp (en (pk100 n + (1 : Int) + (pk100 n + (1 : Int) + (1 : Int)))) 1 (rp (en (pk100 n + (1 : Int))) 1 (rp (en (pk100 n + (1 : Int) + (pk100 n + (1 : Int) + (1 : Int)))) 1 (rp (en (pk100 n + (1 : Int) + (1 : Int))) 2 (rp (en (pk100 n + (1 : Int))) 1 (rp (en (pk100 n)) 1 ((itoaB (pk100 n + 1 + (pk100 n + 1 + 1)) = itoaB (pk100 n + 1 + (pk100 n + 1 + 1))) ∧
 rp (en (pk100 n + (1 : Int))) 1 (rp (en (pk100 n + (1 : Int) + (pk100 n + (1 : Int) + (1 : Int)))) 1 (rp (en (pk100 n + (1 : Int) + (1 : Int))) 2 (rp (en (pk100 n + (1 : Int))) 1 (rp (en (pk100 n)) 1 (qt))))))))))))))))))))))
 (by
 obtain ⟨h0, h1, h2, h3, h4, h5, h6, h7, h8, h9, h10, h11, h12, h13⟩ := fx n
 iterate 16 refine rp_i rfl _ ?_
 refine ⟨rfl, ?_⟩
 iterate 5 refine rp_i rfl _ ?_
 rfl
 )
  (by kernel_rfl)
end Gv.LValuesOnce
