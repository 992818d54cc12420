/- Told parts of Anew. Printed by gvgen.py. -/
import Derived.Test.YtcmnmceodhambaaGreatDoorGvUAnew
import Derived.Test.YtcmnmceodhambaaGreatDoorGvPAnew5
import Derived.Test.YtcmnmceodhambaaGreatDoorGvPAnew6
import Derived.Test.YtcmnmceodhambaaGreatDoorGvPAnew0
set_option linter.unusedSimpArgs false
set_option linter.unusedVariables false
open Rx Go
namespace Gv.LAnew
open Gv Rd
noncomputable def x69 (n m : Int) : TL := [(22, [(12, (e59 n m))]), (59, [(83, (e61 n m))]), (82, [(131157, (e68 n m))])]
def q69 (n m : Int) : Prop :=
 rp (en (pk100 n)) 1 (rp (en (pk100 m)) 1 (rp (en (pk100 n)) 1 (rp (en (pk100 m)) 2 (rp (en (pk100 n)) 1 (rp (en (pk100 m)) 1 ((itoaB (pk100 m) = itoaB (pk100 m)) ∧
 rp (en (pk100 n)) 1 (rp (en (pk100 m)) 1 (((SV.kb true : SV) = .kb true)))))))))
set_option maxRecDepth 100000 in
theorem q69_eq (n m : Int) : (q69 n m) = (runE [] (x69 n m) 40 (e69 n m)).holds fun y => y.1 = .kb true := by
 kernel_rfl
set_option maxRecDepth 100000 in
theorem q69_ok (n m : Int)  : q69 n m := by
 obtain ⟨h0, h1, h2, h3, h4, h5, h6, h7⟩ := fx n m
 unfold q69
 iterate 6 refine rp_i rfl _ ?_
 refine ⟨rfl, ?_⟩
 iterate 2 refine rp_i rfl _ ?_
 rfl
theorem t69 (n m : Int)  : TCtr prog 40 (e69 n m) := by
 refine tell (tbl := []) (tl := (x69 n m)) (tok_cons (te_cons (t59 n m) te_nil) (tok_cons (te_cons (t61 n m) te_nil) (tok_cons (te_cons (t68 n m) te_nil) tok_nil))) (by kernel_rfl) (by kernel_rfl) ?_
 rw [← q69_eq]
 exact q69_ok n m
noncomputable def x70 (n m : Int) : TL := [(60, [(43, (e7 n m)), (79, (e7 n m))]), (127, [(43, (e0 n m)), (79, (e0 n m))])]
def q70 (n m : Int) : Prop :=
 ((SV.kb true : SV) = .kb true)
set_option maxRecDepth 100000 in
theorem q70_eq (n m : Int) : (q70 n m) = (runE [] (x70 n m) 66 (e70 n m)).holds fun y => y.1 = .kb true := by
 kernel_rfl
set_option maxRecDepth 100000 in
theorem q70_ok (n m : Int)  : q70 n m := by
 unfold q70
 rfl
theorem t70 (n m : Int)  : TCtr prog 66 (e70 n m) := by
 refine tell (tbl := []) (tl := (x70 n m)) (tok_cons (te_cons (t7 n m) (te_cons (t7 n m) te_nil)) (tok_cons (te_cons (t0 n m) (te_cons (t0 n m) te_nil)) tok_nil)) (by kernel_rfl) (by kernel_rfl) ?_
 rw [← q70_eq]
 exact q70_ok n m
noncomputable def x71 (n m : Int) : TL := [(30, [(14, (e58 n m))]), (66, [(171, (e70 n m))])]
def q71 (n m : Int) : Prop :=
 rp (en (pk100 n)) 1 (rp (en (pk100 m)) 1 (rp (en (pk100 n)) 3 (rp (en (pk100 m)) 1 (((SV.kb true : SV) = .kb true)))))
set_option maxRecDepth 100000 in
theorem q71_eq (n m : Int) : (q71 n m) = (runE [] (x71 n m) 59 (e71 n m)).holds fun y => y.1 = .kb true := by
 kernel_rfl
set_option maxRecDepth 100000 in
theorem q71_ok (n m : Int)  : q71 n m := by
 unfold q71
 iterate 4 refine rp_i rfl _ ?_
 rfl
theorem t71 (n m : Int)  : TCtr prog 59 (e71 n m) := by
 refine tell (tbl := []) (tl := (x71 n m)) (tok_cons (te_cons (t58 n m) te_nil) (tok_cons (te_cons (t70 n m) te_nil) tok_nil)) (by kernel_rfl) (by kernel_rfl) ?_
 rw [← q71_eq]
 exact q71_ok n m
noncomputable def x72 (n m : Int) : TL := [(60, [(10, (e54 n m)), (31, (e54 n m)), (36, (e54 n m)), (41, (e54 n m)), (46, (e54 n m))]), (45, [(23, (e6 n m))]), (66, [(24, (e62 n m)), (25, (e63 n m)), (26, (e64 n m)), (27, (e65 n m)), (28, (e66 n m))]), (127, [(31, (e53 n m)), (36, (e53 n m)), (41, (e53 n m)), (46, (e53 n m))])]
def q72 (n m : Int) : Prop :=
 rp (en (pk100 n)) 1 (rp (en (pk100 m)) 1 (((SV.kb true : SV) = .kb true)))
set_option maxRecDepth 100000 in
theorem q72_eq (n m : Int) : (q72 n m) = (runE [] (x72 n m) 30 (e72 n m)).holds fun y => y.1 = .kb true := by
 kernel_rfl
set_option maxRecDepth 100000 in
theorem q72_ok (n m : Int)  : q72 n m := by
 unfold q72
 iterate 2 refine rp_i rfl _ ?_
 rfl
theorem t72 (n m : Int)  : TCtr prog 30 (e72 n m) := by
 refine tell (tbl := []) (tl := (x72 n m)) (tok_cons (te_cons (t54 n m) (te_cons (t54 n m) (te_cons (t54 n m) (te_cons (t54 n m) (te_cons (t54 n m) te_nil))))) (tok_cons (te_cons (t6 n m) te_nil) (tok_cons (te_cons (t62 n m) (te_cons (t63 n m) (te_cons (t64 n m) (te_cons (t65 n m) (te_cons (t66 n m) te_nil))))) (tok_cons (te_cons (t53 n m) (te_cons (t53 n m) (te_cons (t53 n m) (te_cons (t53 n m) te_nil)))) tok_nil)))) (by kernel_rfl) (by kernel_rfl) ?_
 rw [← q72_eq]
 exact q72_ok n m
noncomputable def x73 (n m : Int) : TL := [(30, [(12, (e72 n m))]), (60, [(14, (e54 n m)), (23, (e54 n m))]), (127, [(14, (e53 n m)), (23, (e53 n m))])]
def q73 (n m : Int) : Prop :=
 rp (en (pk100 n)) 1 (rp (en (pk100 m)) 1 (((fun n_1 => n_1 + (itoaB (pk100 n)).size ≤ 100000) 0) ∧
 (bytesP ((fun n_1 => n_1 + (itoaB (pk100 n)).size) 0) ((fun n_1 f => catF n_1 f (bytF (itoaB (pk100 n)))) 0 row0)) ∧
 (itoaB (pk100 n) = (ByteArray.mk ((rowL ((fun n_1 => n_1 + (itoaB (pk100 n)).size) 0) ((fun n_1 f => catF n_1 f (bytF (itoaB (pk100 n)))) 0 row0)).toArray))) ∧
 rp (en (pk100 n)) 1 (rp (en (pk100 m)) 1 (((SV.kb true : SV) = .kb true)))))
set_option maxRecDepth 100000 in
theorem q73_eq (n m : Int) : (q73 n m) = (runE [] (x73 n m) 82 (e73 n m)).holds fun y => y.1 = .kb true := by
 kernel_rfl
set_option maxRecDepth 100000 in
theorem q73_ok (n m : Int)  : q73 n m := by
 obtain ⟨h0, h1, h2, h3, h4, h5, h6, h7⟩ := fx n m
 unfold q73
 iterate 2 refine rp_i rfl _ ?_
 refine ⟨by simp only [ByteArray.size_append, sz_lit, List.size_toArray, List.length_cons, List.length_nil]; omega, ?_⟩
 refine ⟨bld_bytes (bld_ws bld_nil (itoaB (pk100 n))) (by simp only [ByteArray.size_append, sz_lit, List.size_toArray, List.length_cons, List.length_nil]; omega) (by simp only [ByteArray.size_append, sz_lit, List.size_toArray, List.length_cons, List.length_nil]; omega), ?_⟩
 refine ⟨txt_eq (bld_ws bld_nil (itoaB (pk100 n))) (by (simp only [tl_app, tl_lit, List.append_assoc, List.nil_append]) <;> kernel_rfl), ?_⟩
 iterate 2 refine rp_i rfl _ ?_
 rfl
theorem t73 (n m : Int)  : TCtr prog 82 (e73 n m) := by
 refine tell (tbl := []) (tl := (x73 n m)) (tok_cons (te_cons (t72 n m) te_nil) (tok_cons (te_cons (t54 n m) (te_cons (t54 n m) te_nil)) (tok_cons (te_cons (t53 n m) (te_cons (t53 n m) te_nil)) tok_nil))) (by kernel_rfl) (by kernel_rfl) ?_
 rw [← q73_eq]
 exact q73_ok n m
noncomputable def x74 (n m : Int) : TL := [(22, [(12, (e59 n m))]), (59, [(83, (e71 n m))]), (82, [(131157, (e73 n m))])]
def q74 (n m : Int) : Prop :=
 rp (en (pk100 n)) 1 (rp (en (pk100 m)) 1 (rp (en (pk100 n)) 1 (rp (en (pk100 m)) 1 (rp (en (pk100 n)) 2 (rp (en (pk100 m)) 1 ((itoaB (pk100 n) = itoaB (pk100 n)) ∧
 rp (en (pk100 n)) 1 (rp (en (pk100 m)) 1 (((SV.kb true : SV) = .kb true)))))))))
set_option maxRecDepth 100000 in
theorem q74_eq (n m : Int) : (q74 n m) = (runE [] (x74 n m) 40 (e74 n m)).holds fun y => y.1 = .kb true := by
 kernel_rfl
set_option maxRecDepth 100000 in
theorem q74_ok (n m : Int)  : q74 n m := by
 obtain ⟨h0, h1, h2, h3, h4, h5, h6, h7⟩ := fx n m
 unfold q74
 iterate 6 refine rp_i rfl _ ?_
 refine ⟨rfl, ?_⟩
 iterate 2 refine rp_i rfl _ ?_
 rfl
theorem t74 (n m : Int)  : TCtr prog 40 (e74 n m) := by
 refine tell (tbl := []) (tl := (x74 n m)) (tok_cons (te_cons (t59 n m) te_nil) (tok_cons (te_cons (t71 n m) te_nil) (tok_cons (te_cons (t73 n m) te_nil) tok_nil))) (by kernel_rfl) (by kernel_rfl) ?_
 rw [← q74_eq]
 exact q74_ok n m
end Gv.LAnew
