/- Told parts of Anew. Printed by gvgen.py. -/
import Derived.Test.YtcmnmceodhambaaGreatDoorGvUAnew
import Derived.Test.YtcmnmceodhambaaGreatDoorGvPAnew0
import Derived.Test.YtcmnmceodhambaaGreatDoorGvPAnew3
import Derived.Test.YtcmnmceodhambaaGreatDoorGvPAnew2
set_option linter.unusedSimpArgs false
set_option linter.unusedVariables false
open Rx Go
namespace Gv.LAnew
open Gv Rd
noncomputable def x41 (n m : Int) : TL := [(60, [(43, (e7 n m)), (79, (e7 n m))]), (127, [(43, (e0 n m)), (79, (e0 n m))])]
def q41 (n m : Int) : Prop :=
 ((SV.kb true : SV) = .kb true)
set_option maxRecDepth 100000 in
theorem q41_eq (n m : Int) : (q41 n m) = (runE [] (x41 n m) 66 (e41 n m)).holds fun y => y.1 = .kb true := by
 kernel_rfl
set_option maxRecDepth 100000 in
theorem q41_ok (n m : Int)  : q41 n m := by
 unfold q41
 rfl
theorem t41 (n m : Int)  : TCtr prog 66 (e41 n m) := by
 refine tell (tbl := []) (tl := (x41 n m)) (tok_cons (te_cons (t7 n m) (te_cons (t7 n m) te_nil)) (tok_cons (te_cons (t0 n m) (te_cons (t0 n m) te_nil)) tok_nil)) (by kernel_rfl) (by kernel_rfl) ?_
 rw [← q41_eq]
 exact q41_ok n m
noncomputable def x42 (n m : Int) : TL := [(30, [(13, (e39 n m))]), (66, [(165, (e41 n m))])]
def q42 (n m : Int) : Prop :=
 rp (en (pk100 n)) 4 (((SV.kb true : SV) = .kb true))
set_option maxRecDepth 100000 in
theorem q42_eq (n m : Int) : (q42 n m) = (runE [] (x42 n m) 59 (e42 n m)).holds fun y => y.1 = .kb true := by
 kernel_rfl
set_option maxRecDepth 100000 in
theorem q42_ok (n m : Int)  : q42 n m := by
 unfold q42
 refine rp_i rfl _ ?_
 rfl
theorem t42 (n m : Int)  : TCtr prog 59 (e42 n m) := by
 refine tell (tbl := []) (tl := (x42 n m)) (tok_cons (te_cons (t39 n m) te_nil) (tok_cons (te_cons (t41 n m) te_nil) tok_nil)) (by kernel_rfl) (by kernel_rfl) ?_
 rw [← q42_eq]
 exact q42_ok n m
noncomputable def x43 (n m : Int) : TL := [(60, [(9, (e22 n m)), (29, (e22 n m)), (34, (e22 n m)), (39, (e22 n m)), (44, (e22 n m))]), (45, [(22, (e6 n m))]), (66, [(23, (e28 n m)), (24, (e29 n m)), (25, (e30 n m)), (26, (e31 n m))]), (127, [(29, (e21 n m)), (34, (e21 n m)), (39, (e21 n m)), (44, (e21 n m))])]
def q43 (n m : Int) : Prop :=
 rp (en (pk100 n)) 1 (((SV.kb true : SV) = .kb true))
set_option maxRecDepth 100000 in
theorem q43_eq (n m : Int) : (q43 n m) = (runE [] (x43 n m) 30 (e43 n m)).holds fun y => y.1 = .kb true := by
 kernel_rfl
set_option maxRecDepth 100000 in
theorem q43_ok (n m : Int)  : q43 n m := by
 unfold q43
 refine rp_i rfl _ ?_
 rfl
theorem t43 (n m : Int)  : TCtr prog 30 (e43 n m) := by
 refine tell (tbl := []) (tl := (x43 n m)) (tok_cons (te_cons (t22 n m) (te_cons (t22 n m) (te_cons (t22 n m) (te_cons (t22 n m) (te_cons (t22 n m) te_nil))))) (tok_cons (te_cons (t6 n m) te_nil) (tok_cons (te_cons (t28 n m) (te_cons (t29 n m) (te_cons (t30 n m) (te_cons (t31 n m) te_nil)))) (tok_cons (te_cons (t21 n m) (te_cons (t21 n m) (te_cons (t21 n m) (te_cons (t21 n m) te_nil)))) tok_nil)))) (by kernel_rfl) (by kernel_rfl) ?_
 rw [← q43_eq]
 exact q43_ok n m
noncomputable def x44 (n m : Int) : TL := [(30, [(11, (e43 n m))]), (60, [(13, (e22 n m)), (22, (e22 n m))]), (127, [(13, (e21 n m)), (22, (e21 n m))])]
def q44 (n m : Int) : Prop :=
 rp (en (pk100 n)) 1 (((fun n_1 => n_1 + (itoaB (pk100 n)).size ≤ 100000) 0) ∧
 (bytesP ((fun n_1 => n_1 + (itoaB (pk100 n)).size) 0) ((fun n_1 f => catF n_1 f (bytF (itoaB (pk100 n)))) 0 row0)) ∧
 (itoaB (pk100 n) = (ByteArray.mk ((rowL ((fun n_1 => n_1 + (itoaB (pk100 n)).size) 0) ((fun n_1 f => catF n_1 f (bytF (itoaB (pk100 n)))) 0 row0)).toArray))) ∧
 rp (en (pk100 n)) 1 (((SV.kb true : SV) = .kb true)))
set_option maxRecDepth 100000 in
theorem q44_eq (n m : Int) : (q44 n m) = (runE [] (x44 n m) 82 (e44 n m)).holds fun y => y.1 = .kb true := by
 kernel_rfl
set_option maxRecDepth 100000 in
theorem q44_ok (n m : Int)  : q44 n m := by
 obtain ⟨h0, h1, h2, h3, h4, h5, h6, h7⟩ := fx n m
 unfold q44
 refine rp_i rfl _ ?_
 refine ⟨by simp only [ByteArray.size_append, sz_lit, List.size_toArray, List.length_cons, List.length_nil]; omega, ?_⟩
 refine ⟨bld_bytes (bld_ws bld_nil (itoaB (pk100 n))) (by simp only [ByteArray.size_append, sz_lit, List.size_toArray, List.length_cons, List.length_nil]; omega) (by simp only [ByteArray.size_append, sz_lit, List.size_toArray, List.length_cons, List.length_nil]; omega), ?_⟩
 refine ⟨txt_eq (bld_ws bld_nil (itoaB (pk100 n))) (by (simp only [tl_app, tl_lit, List.append_assoc, List.nil_append]) <;> kernel_rfl), ?_⟩
 refine rp_i rfl _ ?_
 rfl
theorem t44 (n m : Int)  : TCtr prog 82 (e44 n m) := by
 refine tell (tbl := []) (tl := (x44 n m)) (tok_cons (te_cons (t43 n m) te_nil) (tok_cons (te_cons (t22 n m) (te_cons (t22 n m) te_nil)) (tok_cons (te_cons (t21 n m) (te_cons (t21 n m) te_nil)) tok_nil))) (by kernel_rfl) (by kernel_rfl) ?_
 rw [← q44_eq]
 exact q44_ok n m
noncomputable def x45 (n m : Int) : TL := [(22, [(11, (e40 n m))]), (59, [(82, (e42 n m))]), (82, [(131156, (e44 n m))])]
def q45 (n m : Int) : Prop :=
 rp (en (pk100 n)) 4 ((itoaB (pk100 n) = itoaB (pk100 n)) ∧
 rp (en (pk100 n)) 1 (((SV.kb true : SV) = .kb true)))
set_option maxRecDepth 100000 in
theorem q45_eq (n m : Int) : (q45 n m) = (runE [] (x45 n m) 40 (e45 n m)).holds fun y => y.1 = .kb true := by
 kernel_rfl
set_option maxRecDepth 100000 in
theorem q45_ok (n m : Int)  : q45 n m := by
 obtain ⟨h0, h1, h2, h3, h4, h5, h6, h7⟩ := fx n m
 unfold q45
 refine rp_i rfl _ ?_
 refine ⟨rfl, ?_⟩
 refine rp_i rfl _ ?_
 rfl
theorem t45 (n m : Int)  : TCtr prog 40 (e45 n m) := by
 refine tell (tbl := []) (tl := (x45 n m)) (tok_cons (te_cons (t40 n m) te_nil) (tok_cons (te_cons (t42 n m) te_nil) (tok_cons (te_cons (t44 n m) te_nil) tok_nil))) (by kernel_rfl) (by kernel_rfl) ?_
 rw [← q45_eq]
 exact q45_ok n m
noncomputable def x46 (n m : Int) : TL := [(45, [(3, (e6 n m))])]
def q46 (n m : Int) : Prop :=
 rp ((D (.arr 4 2 (dxL [(sy s2), (sy s3)])) : SV) = D (.arr 4 2 (dxL [(sy s2), (sy s3)]))) 1 (rp (((dxL []) : Nat → Nat → Dt) = (dxL [])) 1 (rp (en (pk100 m)) 1 (((SV.kb true : SV) = .kb true))))
set_option maxRecDepth 100000 in
theorem q46_eq (n m : Int) : (q46 n m) = (runE [] (x46 n m) 28 (e46 n m)).holds fun y => y.1 = .kb true := by
 kernel_rfl
set_option maxRecDepth 100000 in
theorem q46_ok (n m : Int)  : q46 n m := by
 unfold q46
 iterate 3 refine rp_i rfl _ ?_
 rfl
theorem t46 (n m : Int)  : TCtr prog 28 (e46 n m) := by
 refine tell (tbl := []) (tl := (x46 n m)) (tok_cons (te_cons (t6 n m) te_nil) tok_nil) (by kernel_rfl) (by kernel_rfl) ?_
 rw [← q46_eq]
 exact q46_ok n m
noncomputable def x47 (n m : Int) : TL := [(60, [(19, (e7 n m)), (37, (e7 n m))]), (127, [(19, (e0 n m)), (37, (e0 n m))])]
def q47 (n m : Int) : Prop :=
 ((SV.kb true : SV) = .kb true)
set_option maxRecDepth 100000 in
theorem q47_eq (n m : Int) : (q47 n m) = (runE [] (x47 n m) 66 (e47 n m)).holds fun y => y.1 = .kb true := by
 kernel_rfl
set_option maxRecDepth 100000 in
theorem q47_ok (n m : Int)  : q47 n m := by
 unfold q47
 rfl
theorem t47 (n m : Int)  : TCtr prog 66 (e47 n m) := by
 refine tell (tbl := []) (tl := (x47 n m)) (tok_cons (te_cons (t7 n m) (te_cons (t7 n m) te_nil)) (tok_cons (te_cons (t0 n m) (te_cons (t0 n m) te_nil)) tok_nil)) (by kernel_rfl) (by kernel_rfl) ?_
 rw [← q47_eq]
 exact q47_ok n m
noncomputable def x48 (n m : Int) : TL := []
def q48 (n m : Int) : Prop :=
 ((SV.kb true : SV) = .kb true)
set_option maxRecDepth 100000 in
theorem q48_eq (n m : Int) : (q48 n m) = (runE [] (x48 n m) 66 (e48 n m)).holds fun y => y.1 = .kb true := by
 kernel_rfl
set_option maxRecDepth 100000 in
theorem q48_ok (n m : Int)  : q48 n m := by
 unfold q48
 rfl
theorem t48 (n m : Int)  : TCtr prog 66 (e48 n m) := by
 refine tell (tbl := []) (tl := (x48 n m)) tok_nil (by kernel_rfl) (by kernel_rfl) ?_
 rw [← q48_eq]
 exact q48_ok n m
noncomputable def x49 (n m : Int) : TL := []
def q49 (n m : Int) : Prop :=
 ((SV.kb true : SV) = .kb true)
set_option maxRecDepth 100000 in
theorem q49_eq (n m : Int) : (q49 n m) = (runE [] (x49 n m) 66 (e49 n m)).holds fun y => y.1 = .kb true := by
 kernel_rfl
set_option maxRecDepth 100000 in
theorem q49_ok (n m : Int)  : q49 n m := by
 unfold q49
 rfl
theorem t49 (n m : Int)  : TCtr prog 66 (e49 n m) := by
 refine tell (tbl := []) (tl := (x49 n m)) tok_nil (by kernel_rfl) (by kernel_rfl) ?_
 rw [← q49_eq]
 exact q49_ok n m
noncomputable def x50 (n m : Int) : TL := []
def q50 (n m : Int) : Prop :=
 ((SV.kb true : SV) = .kb true)
set_option maxRecDepth 100000 in
theorem q50_eq (n m : Int) : (q50 n m) = (runE [] (x50 n m) 66 (e50 n m)).holds fun y => y.1 = .kb true := by
 kernel_rfl
set_option maxRecDepth 100000 in
theorem q50_ok (n m : Int)  : q50 n m := by
 unfold q50
 rfl
theorem t50 (n m : Int)  : TCtr prog 66 (e50 n m) := by
 refine tell (tbl := []) (tl := (x50 n m)) tok_nil (by kernel_rfl) (by kernel_rfl) ?_
 rw [← q50_eq]
 exact q50_ok n m
end Gv.LAnew
