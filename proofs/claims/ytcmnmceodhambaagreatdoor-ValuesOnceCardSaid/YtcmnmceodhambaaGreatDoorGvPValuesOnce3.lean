/- Told parts of ValuesOnce. Printed by gvgen.py. -/
import Derived.Test.YtcmnmceodhambaaGreatDoorGvUValuesOnce
import Derived.Test.YtcmnmceodhambaaGreatDoorGvPValuesOnce0
import Derived.Test.YtcmnmceodhambaaGreatDoorGvPValuesOnce1
set_option linter.unusedSimpArgs false
set_option linter.unusedVariables false
set_option maxRecDepth 100000
open Rx Go
namespace Gv.LValuesOnce
open Gv Rd
theorem t30 (n : Int) : TCtr prog 30 (e30 n) := tellQ [] (tk (f := 60) (tc 9 (t18 n) (tc 29 (t18 n) (tc 34 (t18 n) (tc 39 (t18 n) (tc 44 (t18 n) te_nil))))) (tk (f := 45) (tc 22 (t6 n) te_nil) (tk (f := 66) (tc 23 (t22 n) (tc 24 (t23 n) (tc 25 (t24 n) (tc 26 (t25 n) te_nil)))) (tk (f := 127) (tc 29 (t17 n) (tc 34 (t17 n) (tc 39 (t17 n) (tc 44 (t17 n) te_nil)))) tok_nil)))) (by kernel_rfl) (by kernel_rfl) (q := rp (en (pk100 n)) 1 (qt))
 (rp_i rfl _ rfl)
 (by kernel_rfl)
theorem t31 (n : Int) : TCtr prog 22 (e31 n) := tellQ [] (tk (f := 30) (tc 10 (t30 n) te_nil) tok_nil) (by kernel_rfl) (by kernel_rfl) (q := rp (en (pk100 n + (1 : Int))) 1 (rp (en (pk100 n + (1 : Int) + (1 : Int))) 1 (rp (en (pk100 n)) 1 (qt))))
 (rp_i rfl _ (rp_i rfl _ (rp_i rfl _ rfl)))
 (by kernel_rfl)
theorem t32 (n : Int) : TCtr prog 66 (e32 n) := tellQ [] (tk (f := 60) (tc 43 (t7 n) (tc 79 (t7 n) te_nil)) (tk (f := 127) (tc 43 (t0 n) (tc 79 (t0 n) te_nil)) tok_nil)) (by kernel_rfl) (by kernel_rfl) (q := qt)
 rfl
 (by kernel_rfl)
theorem t33 (n : Int) : TCtr prog 59 (e33 n) := tellQ [] (tk (f := 30) (tc 14 (t30 n) te_nil) (tk (f := 66) (tc 166 (t32 n) te_nil) tok_nil)) (by kernel_rfl) (by kernel_rfl) (q := rp (en (pk100 n + (1 : Int))) 1 (rp (en (pk100 n + (1 : Int) + (1 : Int))) 1 (rp (en (pk100 n)) 1 (rp (en (pk100 n + (1 : Int))) 1 (rp (en (pk100 n + (1 : Int) + (1 : Int))) 2 (rp (en (pk100 n + (1 : Int))) 1 (rp (en (pk100 n)) 1 (qt))))))))
 (rp_i rfl _ (rp_i rfl _ (rp_i rfl _ (rp_i rfl _ (rp_i rfl _ (rp_i rfl _ (rp_i rfl _ rfl)))))))
 (by kernel_rfl)
theorem t34 (n : Int) : TCtr prog 127 (e34 n) := tellQ [] tok_nil (by kernel_rfl) (by kernel_rfl) (q := rp ((.mp (.int .i64) .bool [((0 : Int), true), ((2 : Int), true), ((4 : Int), true)] : Ob) = .mp (.int .i64) .bool [((0 : Int), true), ((2 : Int), true), ((4 : Int), true)]) 1 (qt))
 (rp_i rfl _ rfl)
 (by kernel_rfl)
theorem t35 (n : Int) : TCtr prog 60 (e35 n) := tellQ [] (tk (f := 127) (tc 2 (t34 n) te_nil) tok_nil) (by kernel_rfl) (by kernel_rfl) (q := rp (en (pk100 n + (1 : Int) + (1 : Int))) 1 (rp (en (pk100 n + (1 : Int))) 1 (qt)))
 (rp_i rfl _ (rp_i rfl _ rfl))
 (by kernel_rfl)
theorem t36 (n : Int) : TCtr prog 30 (e36 n) := tellQ [] (tk (f := 60) (tc 9 (t35 n) (tc 29 (t35 n) (tc 34 (t35 n) (tc 39 (t35 n) (tc 44 (t35 n) te_nil))))) (tk (f := 45) (tc 22 (t6 n) te_nil) (tk (f := 66) (tc 23 (t22 n) (tc 24 (t23 n) (tc 25 (t24 n) (tc 26 (t25 n) te_nil)))) (tk (f := 127) (tc 29 (t34 n) (tc 34 (t34 n) (tc 39 (t34 n) (tc 44 (t34 n) te_nil)))) tok_nil)))) (by kernel_rfl) (by kernel_rfl) (q := rp (en (pk100 n + (1 : Int) + (1 : Int))) 1 (rp (en (pk100 n + (1 : Int))) 1 (rp (en (pk100 n)) 1 (rp (en (pk100 n + (1 : Int) + (1 : Int))) 1 (rp (en (pk100 n + (1 : Int))) 1 (rp (en (pk100 n + (1 : Int) + (1 : Int))) 1 (rp (en (pk100 n + (1 : Int))) 1 (rp (en (pk100 n + (1 : Int) + (1 : Int))) 1 (rp (en (pk100 n + (1 : Int))) 1 (rp (en (pk100 n + (1 : Int) + (1 : Int))) 1 (rp (en (pk100 n + (1 : Int))) 1 (rp (en (pk100 n + (1 : Int) + (1 : Int))) 1 (rp (en (pk100 n + (1 : Int))) 1 (rp (en (pk100 n + (1 : Int) + (1 : Int))) 1 (rp (en (pk100 n + (1 : Int))) 1 (rp (en (pk100 n + (1 : Int) + (1 : Int))) 1 (rp (en (pk100 n + (1 : Int))) 1 (rp (en (pk100 n + (1 : Int) + (1 : Int))) 1 (rp (en (pk100 n + (1 : Int))) 1 (qt))))))))))))))))))))
 (rp_i rfl _ (rp_i rfl _ (rp_i rfl _ (rp_i rfl _ (rp_i rfl _ (rp_i rfl _ (rp_i rfl _ (rp_i rfl _ (rp_i rfl _ (rp_i rfl _ (rp_i rfl _ (rp_i rfl _ (rp_i rfl _ (rp_i rfl _ (rp_i rfl _ (rp_i rfl _ (rp_i rfl _ (rp_i rfl _ (rp_i rfl _ rfl)))))))))))))))))))
 (by kernel_rfl)
theorem t37 (n : Int) : TCtr prog 82 (e37 n) := tellQ [] (tk (f := 30) (tc 11 (t36 n) te_nil) (tk (f := 60) (tc 13 (t35 n) (tc 22 (t35 n) (tc 37 (t35 n) (tc 48 (t35 n) (tc 60 (t35 n) te_nil))))) (tk (f := 127) (tc 13 (t34 n) (tc 22 (t34 n) (tc 37 (t34 n) (tc 48 (t34 n) (tc 60 (t34 n) te_nil))))) tok_nil))) (by kernel_rfl) (by kernel_rfl) (q := rp (en (pk100 n + (1 : Int))) 1 (rp (en (pk100 n + (1 : Int) + (1 : Int))) 2 (rp (en (pk100 n + (1 : Int))) 1 (rp (en (pk100 n)) 1 (rp (en (pk100 n + (1 : Int) + (1 : Int))) 1 (rp (en (pk100 n + (1 : Int))) 1 (rp (en (pk100 n + (1 : Int) + (1 : Int))) 1 (rp (en (pk100 n + (1 : Int))) 1 (rp (en (pk100 n + (1 : Int) + (1 : Int))) 1 (rp (en (pk100 n + (1 : Int))) 1 (rp (en (pk100 n + (1 : Int) + (1 : Int))) 1 (rp (en (pk100 n + (1 : Int))) 1 (((fun n => n ≤ 100000) 0) ∧
 rp (en (pk100 n + (1 : Int) + (1 : Int))) 1 (rp (en (pk100 n + (1 : Int))) 1 (rp (en (pk100 n + (1 : Int) + (1 : Int))) 1 (rp (en (pk100 n + (1 : Int))) 1 (((fun n_1 => n_1 + (itoaB (pk100 n + 1)).size ≤ 100000) ((fun n => n + 1) 0)) ∧
 rp (en (pk100 n + (1 : Int) + (1 : Int))) 1 (rp (en (pk100 n + (1 : Int))) 1 (rp (en (pk100 n + (1 : Int) + (1 : Int))) 1 (rp (en (pk100 n + (1 : Int))) 1 (((fun n => n + (ByteArray.mk (#[32, 46, 32])).size ≤ 100000) ((fun n_1 => n_1 + (itoaB (pk100 n + 1)).size) ((fun n => n + 1) 0))) ∧
 rp (en (pk100 n + (1 : Int) + (1 : Int))) 1 (rp (en (pk100 n + (1 : Int))) 1 (rp (en (pk100 n + (1 : Int) + (1 : Int))) 1 (rp (en (pk100 n + (1 : Int))) 1 (((fun n_1 => n_1 + (itoaB (pk100 n + 1 + 1)).size ≤ 100000) ((fun n => n + (ByteArray.mk (#[32, 46, 32])).size) ((fun n_1 => n_1 + (itoaB (pk100 n + 1)).size) ((fun n => n + 1) 0)))) ∧
 ((fun n => n ≤ 100000) ((fun n_1 => n_1 + (itoaB (pk100 n + 1 + 1)).size) ((fun n => n + (ByteArray.mk (#[32, 46, 32])).size) ((fun n_1 => n_1 + (itoaB (pk100 n + 1)).size) ((fun n => n + 1) 0))))) ∧
 (bytesP ((fun n => n + 1) ((fun n_1 => n_1 + (itoaB (pk100 n + 1 + 1)).size) ((fun n => n + (ByteArray.mk (#[32, 46, 32])).size) ((fun n_1 => n_1 + (itoaB (pk100 n + 1)).size) ((fun n => n + 1) 0))))) ((fun n f => catF n f (litF 1 [Dt.cell (Value.int IntKind.u8 41)])) ((fun n_1 => n_1 + (itoaB (pk100 n + 1 + 1)).size) ((fun n => n + (ByteArray.mk (#[32, 46, 32])).size) ((fun n_1 => n_1 + (itoaB (pk100 n + 1)).size) ((fun n => n + 1) 0)))) ((fun n_1 f => catF n_1 f (bytF (itoaB (pk100 n + 1 + 1)))) ((fun n => n + (ByteArray.mk (#[32, 46, 32])).size) ((fun n_1 => n_1 + (itoaB (pk100 n + 1)).size) ((fun n => n + 1) 0))) ((fun n f => catF n f (bytF (ByteArray.mk (#[32, 46, 32])))) ((fun n_1 => n_1 + (itoaB (pk100 n + 1)).size) ((fun n => n + 1) 0)) ((fun n_1 f => catF n_1 f (bytF (itoaB (pk100 n + 1)))) ((fun n => n + 1) 0) ((fun n f => catF n f (litF 1 [Dt.cell (Value.int IntKind.u8 40)])) 0 row0)))))) ∧
 (s13 ++ itoaB (pk100 n + 1) ++ s14 ++ itoaB (pk100 n + 1 + 1) ++ s15 = (ByteArray.mk ((rowL ((fun n => n + 1) ((fun n_1 => n_1 + (itoaB (pk100 n + 1 + 1)).size) ((fun n => n + (ByteArray.mk (#[32, 46, 32])).size) ((fun n_1 => n_1 + (itoaB (pk100 n + 1)).size) ((fun n => n + 1) 0))))) ((fun n f => catF n f (litF 1 [Dt.cell (Value.int IntKind.u8 41)])) ((fun n_1 => n_1 + (itoaB (pk100 n + 1 + 1)).size) ((fun n => n + (ByteArray.mk (#[32, 46, 32])).size) ((fun n_1 => n_1 + (itoaB (pk100 n + 1)).size) ((fun n => n + 1) 0)))) ((fun n_1 f => catF n_1 f (bytF (itoaB (pk100 n + 1 + 1)))) ((fun n => n + (ByteArray.mk (#[32, 46, 32])).size) ((fun n_1 => n_1 + (itoaB (pk100 n + 1)).size) ((fun n => n + 1) 0))) ((fun n f => catF n f (bytF (ByteArray.mk (#[32, 46, 32])))) ((fun n_1 => n_1 + (itoaB (pk100 n + 1)).size) ((fun n => n + 1) 0)) ((fun n_1 f => catF n_1 f (bytF (itoaB (pk100 n + 1)))) ((fun n => n + 1) 0) ((fun n f => catF n f (litF 1 [Dt.cell (Value.int IntKind.u8 40)])) 0 row0)))))).toArray))) ∧
 rp (en (pk100 n + (1 : Int))) 1 (rp (en (pk100 n + (1 : Int) + (1 : Int))) 2 (rp (en (pk100 n + (1 : Int))) 1 (rp (en (pk100 n)) 1 (qt)))))))))))))))))))))))))))))
 (by
 obtain ⟨h0, h1, h2, h3, h4, h5, h6, h7, h8, h9, h10, h11, h12, h13⟩ := fx n
 iterate 12 refine rp_i rfl _ ?_
 refine ⟨by simp only [ByteArray.size_append, sz_lit, List.size_toArray, List.length_cons, List.length_nil, List.append_eq, List.length_append]; omega, ?_⟩
 iterate 4 refine rp_i rfl _ ?_
 refine ⟨by simp only [ByteArray.size_append, sz_lit, List.size_toArray, List.length_cons, List.length_nil, List.append_eq, List.length_append]; omega, ?_⟩
 iterate 4 refine rp_i rfl _ ?_
 refine ⟨by simp only [ByteArray.size_append, sz_lit, List.size_toArray, List.length_cons, List.length_nil, List.append_eq, List.length_append]; omega, ?_⟩
 iterate 4 refine rp_i rfl _ ?_
 refine ⟨by simp only [ByteArray.size_append, sz_lit, List.size_toArray, List.length_cons, List.length_nil, List.append_eq, List.length_append]; omega, ?_⟩
 refine ⟨by simp only [ByteArray.size_append, sz_lit, List.size_toArray, List.length_cons, List.length_nil, List.append_eq, List.length_append]; omega, ?_⟩
 refine ⟨bld_bytes (bld_wb (bld_ws (bld_ws (bld_ws (bld_wb bld_nil 40 rfl) (itoaB (pk100 n + 1))) (ByteArray.mk (#[32, 46, 32]))) (itoaB (pk100 n + 1 + 1))) 41 rfl) (by simp only [ByteArray.size_append, sz_lit, List.size_toArray, List.length_cons, List.length_nil, List.append_eq, List.length_append]; omega) (by simp only [ByteArray.size_append, sz_lit, List.size_toArray, List.length_cons, List.length_nil, List.append_eq, List.length_append]; omega), ?_⟩
 refine ⟨txt_eq (bld_wb (bld_ws (bld_ws (bld_ws (bld_wb bld_nil 40 rfl) (itoaB (pk100 n + 1))) (ByteArray.mk (#[32, 46, 32]))) (itoaB (pk100 n + 1 + 1))) 41 rfl) (by (simp only [tl_app, tl_lit, List.append_assoc, List.nil_append, s13_t, s14_t, s15_t]) <;> kernel_rfl), ?_⟩
 iterate 4 refine rp_i rfl _ ?_
 rfl
 )
  (by kernel_rfl)
end Gv.LValuesOnce
