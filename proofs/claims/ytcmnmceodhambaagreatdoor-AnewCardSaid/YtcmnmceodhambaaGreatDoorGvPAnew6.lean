/- Told parts of Anew. Printed by gvgen.py. -/
import Derived.Test.YtcmnmceodhambaaGreatDoorGvUAnew
import Derived.Test.YtcmnmceodhambaaGreatDoorGvPAnew0
import Derived.Test.YtcmnmceodhambaaGreatDoorGvPAnew5
set_option linter.unusedSimpArgs false
set_option linter.unusedVariables false
open Rx Go
namespace Gv.LAnew
open Gv Rd
noncomputable def x60 (n m : Int) : TL := [(60, [(41, (e7 n m)), (75, (e7 n m))]), (127, [(41, (e0 n m)), (75, (e0 n m))])]
def q60 (n m : Int) : Prop :=
 ((SV.kb true : SV) = .kb true)
set_option maxRecDepth 100000 in
theorem q60_eq (n m : Int) : (q60 n m) = (runE [] (x60 n m) 66 (e60 n m)).holds fun y => y.1 = .kb true := by
 kernel_rfl
set_option maxRecDepth 100000 in
theorem q60_ok (n m : Int)  : q60 n m := by
 unfold q60
 rfl
theorem t60 (n m : Int)  : TCtr prog 66 (e60 n m) := by
 refine tell (tbl := []) (tl := (x60 n m)) (tok_cons (te_cons (t7 n m) (te_cons (t7 n m) te_nil)) (tok_cons (te_cons (t0 n m) (te_cons (t0 n m) te_nil)) tok_nil)) (by kernel_rfl) (by kernel_rfl) ?_
 rw [← q60_eq]
 exact q60_ok n m
noncomputable def x61 (n m : Int) : TL := [(30, [(14, (e58 n m))]), (66, [(171, (e60 n m))])]
def q61 (n m : Int) : Prop :=
 rp (en (pk100 n)) 1 (rp (en (pk100 m)) 3 (rp (en (pk100 n)) 1 (rp (en (pk100 m)) 1 (((SV.kb true : SV) = .kb true)))))
set_option maxRecDepth 100000 in
theorem q61_eq (n m : Int) : (q61 n m) = (runE [] (x61 n m) 59 (e61 n m)).holds fun y => y.1 = .kb true := by
 kernel_rfl
set_option maxRecDepth 100000 in
theorem q61_ok (n m : Int)  : q61 n m := by
 unfold q61
 iterate 4 refine rp_i rfl _ ?_
 rfl
theorem t61 (n m : Int)  : TCtr prog 59 (e61 n m) := by
 refine tell (tbl := []) (tl := (x61 n m)) (tok_cons (te_cons (t58 n m) te_nil) (tok_cons (te_cons (t60 n m) te_nil) tok_nil)) (by kernel_rfl) (by kernel_rfl) ?_
 rw [← q61_eq]
 exact q61_ok n m
noncomputable def x62 (n m : Int) : TL := [(60, [(19, (e7 n m)), (37, (e7 n m))]), (127, [(19, (e0 n m)), (37, (e0 n m))])]
def q62 (n m : Int) : Prop :=
 ((SV.kb true : SV) = .kb true)
set_option maxRecDepth 100000 in
theorem q62_eq (n m : Int) : (q62 n m) = (runE [] (x62 n m) 66 (e62 n m)).holds fun y => y.1 = .kb true := by
 kernel_rfl
set_option maxRecDepth 100000 in
theorem q62_ok (n m : Int)  : q62 n m := by
 unfold q62
 rfl
theorem t62 (n m : Int)  : TCtr prog 66 (e62 n m) := by
 refine tell (tbl := []) (tl := (x62 n m)) (tok_cons (te_cons (t7 n m) (te_cons (t7 n m) te_nil)) (tok_cons (te_cons (t0 n m) (te_cons (t0 n m) te_nil)) tok_nil)) (by kernel_rfl) (by kernel_rfl) ?_
 rw [← q62_eq]
 exact q62_ok n m
noncomputable def x63 (n m : Int) : TL := []
def q63 (n m : Int) : Prop :=
 ((SV.kb true : SV) = .kb true)
set_option maxRecDepth 100000 in
theorem q63_eq (n m : Int) : (q63 n m) = (runE [] (x63 n m) 66 (e63 n m)).holds fun y => y.1 = .kb true := by
 kernel_rfl
set_option maxRecDepth 100000 in
theorem q63_ok (n m : Int)  : q63 n m := by
 unfold q63
 rfl
theorem t63 (n m : Int)  : TCtr prog 66 (e63 n m) := by
 refine tell (tbl := []) (tl := (x63 n m)) tok_nil (by kernel_rfl) (by kernel_rfl) ?_
 rw [← q63_eq]
 exact q63_ok n m
noncomputable def x64 (n m : Int) : TL := []
def q64 (n m : Int) : Prop :=
 ((SV.kb true : SV) = .kb true)
set_option maxRecDepth 100000 in
theorem q64_eq (n m : Int) : (q64 n m) = (runE [] (x64 n m) 66 (e64 n m)).holds fun y => y.1 = .kb true := by
 kernel_rfl
set_option maxRecDepth 100000 in
theorem q64_ok (n m : Int)  : q64 n m := by
 unfold q64
 rfl
theorem t64 (n m : Int)  : TCtr prog 66 (e64 n m) := by
 refine tell (tbl := []) (tl := (x64 n m)) tok_nil (by kernel_rfl) (by kernel_rfl) ?_
 rw [← q64_eq]
 exact q64_ok n m
noncomputable def x65 (n m : Int) : TL := []
def q65 (n m : Int) : Prop :=
 ((SV.kb true : SV) = .kb true)
set_option maxRecDepth 100000 in
theorem q65_eq (n m : Int) : (q65 n m) = (runE [] (x65 n m) 66 (e65 n m)).holds fun y => y.1 = .kb true := by
 kernel_rfl
set_option maxRecDepth 100000 in
theorem q65_ok (n m : Int)  : q65 n m := by
 unfold q65
 rfl
theorem t65 (n m : Int)  : TCtr prog 66 (e65 n m) := by
 refine tell (tbl := []) (tl := (x65 n m)) tok_nil (by kernel_rfl) (by kernel_rfl) ?_
 rw [← q65_eq]
 exact q65_ok n m
noncomputable def x66 (n m : Int) : TL := [(60, [(19, (e7 n m)), (37, (e7 n m))]), (127, [(19, (e0 n m)), (37, (e0 n m))])]
def q66 (n m : Int) : Prop :=
 ((SV.kb true : SV) = .kb true)
set_option maxRecDepth 100000 in
theorem q66_eq (n m : Int) : (q66 n m) = (runE [] (x66 n m) 66 (e66 n m)).holds fun y => y.1 = .kb true := by
 kernel_rfl
set_option maxRecDepth 100000 in
theorem q66_ok (n m : Int)  : q66 n m := by
 unfold q66
 rfl
theorem t66 (n m : Int)  : TCtr prog 66 (e66 n m) := by
 refine tell (tbl := []) (tl := (x66 n m)) (tok_cons (te_cons (t7 n m) (te_cons (t7 n m) te_nil)) (tok_cons (te_cons (t0 n m) (te_cons (t0 n m) te_nil)) tok_nil)) (by kernel_rfl) (by kernel_rfl) ?_
 rw [← q66_eq]
 exact q66_ok n m
noncomputable def x67 (n m : Int) : TL := [(60, [(10, (e54 n m)), (31, (e54 n m)), (36, (e54 n m)), (41, (e54 n m)), (46, (e54 n m))]), (45, [(23, (e6 n m))]), (66, [(24, (e62 n m)), (25, (e63 n m)), (26, (e64 n m)), (27, (e65 n m)), (28, (e66 n m))]), (127, [(31, (e53 n m)), (36, (e53 n m)), (41, (e53 n m)), (46, (e53 n m))])]
def q67 (n m : Int) : Prop :=
 rp (en (pk100 n)) 1 (rp (en (pk100 m)) 1 (((SV.kb true : SV) = .kb true)))
set_option maxRecDepth 100000 in
theorem q67_eq (n m : Int) : (q67 n m) = (runE [] (x67 n m) 30 (e67 n m)).holds fun y => y.1 = .kb true := by
 kernel_rfl
set_option maxRecDepth 100000 in
theorem q67_ok (n m : Int)  : q67 n m := by
 unfold q67
 iterate 2 refine rp_i rfl _ ?_
 rfl
theorem t67 (n m : Int)  : TCtr prog 30 (e67 n m) := by
 refine tell (tbl := []) (tl := (x67 n m)) (tok_cons (te_cons (t54 n m) (te_cons (t54 n m) (te_cons (t54 n m) (te_cons (t54 n m) (te_cons (t54 n m) te_nil))))) (tok_cons (te_cons (t6 n m) te_nil) (tok_cons (te_cons (t62 n m) (te_cons (t63 n m) (te_cons (t64 n m) (te_cons (t65 n m) (te_cons (t66 n m) te_nil))))) (tok_cons (te_cons (t53 n m) (te_cons (t53 n m) (te_cons (t53 n m) (te_cons (t53 n m) te_nil)))) tok_nil)))) (by kernel_rfl) (by kernel_rfl) ?_
 rw [← q67_eq]
 exact q67_ok n m
noncomputable def x68 (n m : Int) : TL := [(30, [(12, (e67 n m))]), (60, [(14, (e54 n m)), (23, (e54 n m))]), (127, [(14, (e53 n m)), (23, (e53 n m))])]
def q68 (n m : Int) : Prop :=
 rp (en (pk100 n)) 1 (rp (en (pk100 m)) 1 (((fun n => n + (itoaB (pk100 m)).size ≤ 100000) 0) ∧
 (bytesP ((fun n => n + (itoaB (pk100 m)).size) 0) ((fun n f => catF n f (bytF (itoaB (pk100 m)))) 0 row0)) ∧
 (itoaB (pk100 m) = (ByteArray.mk ((rowL ((fun n => n + (itoaB (pk100 m)).size) 0) ((fun n f => catF n f (bytF (itoaB (pk100 m)))) 0 row0)).toArray))) ∧
 rp (en (pk100 n)) 1 (rp (en (pk100 m)) 1 (((SV.kb true : SV) = .kb true)))))
set_option maxRecDepth 100000 in
theorem q68_eq (n m : Int) : (q68 n m) = (runE [] (x68 n m) 82 (e68 n m)).holds fun y => y.1 = .kb true := by
 kernel_rfl
set_option maxRecDepth 100000 in
theorem q68_ok (n m : Int)  : q68 n m := by
 obtain ⟨h0, h1, h2, h3, h4, h5, h6, h7⟩ := fx n m
 unfold q68
 iterate 2 refine rp_i rfl _ ?_
 refine ⟨by simp only [ByteArray.size_append, sz_lit, List.size_toArray, List.length_cons, List.length_nil]; omega, ?_⟩
 refine ⟨bld_bytes (bld_ws bld_nil (itoaB (pk100 m))) (by simp only [ByteArray.size_append, sz_lit, List.size_toArray, List.length_cons, List.length_nil]; omega) (by simp only [ByteArray.size_append, sz_lit, List.size_toArray, List.length_cons, List.length_nil]; omega), ?_⟩
 refine ⟨txt_eq (bld_ws bld_nil (itoaB (pk100 m))) (by (simp only [tl_app, tl_lit, List.append_assoc, List.nil_append]) <;> kernel_rfl), ?_⟩
 iterate 2 refine rp_i rfl _ ?_
 rfl
theorem t68 (n m : Int)  : TCtr prog 82 (e68 n m) := by
 refine tell (tbl := []) (tl := (x68 n m)) (tok_cons (te_cons (t67 n m) te_nil) (tok_cons (te_cons (t54 n m) (te_cons (t54 n m) te_nil)) (tok_cons (te_cons (t53 n m) (te_cons (t53 n m) te_nil)) tok_nil))) (by kernel_rfl) (by kernel_rfl) ?_
 rw [← q68_eq]
 exact q68_ok n m
end Gv.LAnew
