/- Told parts of Anew. Printed by gvgen.py. -/
import Derived.Test.YtcmnmceodhambaaGreatDoorGvUAnew
import Derived.Test.YtcmnmceodhambaaGreatDoorGvPAnew0
import Derived.Test.YtcmnmceodhambaaGreatDoorGvPAnew2
set_option linter.unusedSimpArgs false
set_option linter.unusedVariables false
open Rx Go
namespace Gv.LAnew
open Gv Rd
noncomputable def x31 (n m : Int) : TL := []
def q31 (n m : Int) : Prop :=
 ((SV.kb true : SV) = .kb true)
set_option maxRecDepth 100000 in
theorem q31_eq (n m : Int) : (q31 n m) = (runE [] (x31 n m) 66 (e31 n m)).holds fun y => y.1 = .kb true := by
 kernel_rfl
set_option maxRecDepth 100000 in
theorem q31_ok (n m : Int)  : q31 n m := by
 unfold q31
 rfl
theorem t31 (n m : Int)  : TCtr prog 66 (e31 n m) := by
 refine tell (tbl := []) (tl := (x31 n m)) tok_nil (by kernel_rfl) (by kernel_rfl) ?_
 rw [← q31_eq]
 exact q31_ok n m
noncomputable def x32 (n m : Int) : TL := [(60, [(9, (e22 n m)), (29, (e22 n m)), (34, (e22 n m)), (39, (e22 n m)), (44, (e22 n m))]), (45, [(22, (e6 n m))]), (66, [(23, (e28 n m)), (24, (e29 n m)), (25, (e30 n m)), (26, (e31 n m))]), (127, [(29, (e21 n m)), (34, (e21 n m)), (39, (e21 n m)), (44, (e21 n m))])]
def q32 (n m : Int) : Prop :=
 rp (en (pk100 n)) 1 (((SV.kb true : SV) = .kb true))
set_option maxRecDepth 100000 in
theorem q32_eq (n m : Int) : (q32 n m) = (runE [] (x32 n m) 30 (e32 n m)).holds fun y => y.1 = .kb true := by
 kernel_rfl
set_option maxRecDepth 100000 in
theorem q32_ok (n m : Int)  : q32 n m := by
 unfold q32
 refine rp_i rfl _ ?_
 rfl
theorem t32 (n m : Int)  : TCtr prog 30 (e32 n m) := by
 refine tell (tbl := []) (tl := (x32 n m)) (tok_cons (te_cons (t22 n m) (te_cons (t22 n m) (te_cons (t22 n m) (te_cons (t22 n m) (te_cons (t22 n m) te_nil))))) (tok_cons (te_cons (t6 n m) te_nil) (tok_cons (te_cons (t28 n m) (te_cons (t29 n m) (te_cons (t30 n m) (te_cons (t31 n m) te_nil)))) (tok_cons (te_cons (t21 n m) (te_cons (t21 n m) (te_cons (t21 n m) (te_cons (t21 n m) te_nil)))) tok_nil)))) (by kernel_rfl) (by kernel_rfl) ?_
 rw [← q32_eq]
 exact q32_ok n m
noncomputable def x33 (n m : Int) : TL := [(30, [(10, (e32 n m))])]
def q33 (n m : Int) : Prop :=
 rp (en (pk100 n)) 1 (((SV.kb true : SV) = .kb true))
set_option maxRecDepth 100000 in
theorem q33_eq (n m : Int) : (q33 n m) = (runE [] (x33 n m) 22 (e33 n m)).holds fun y => y.1 = .kb true := by
 kernel_rfl
set_option maxRecDepth 100000 in
theorem q33_ok (n m : Int)  : q33 n m := by
 unfold q33
 refine rp_i rfl _ ?_
 rfl
theorem t33 (n m : Int)  : TCtr prog 22 (e33 n m) := by
 refine tell (tbl := []) (tl := (x33 n m)) (tok_cons (te_cons (t32 n m) te_nil) tok_nil) (by kernel_rfl) (by kernel_rfl) ?_
 rw [← q33_eq]
 exact q33_ok n m
noncomputable def x34 (n m : Int) : TL := [(60, [(41, (e7 n m)), (75, (e7 n m))]), (127, [(41, (e0 n m)), (75, (e0 n m))])]
def q34 (n m : Int) : Prop :=
 ((SV.kb true : SV) = .kb true)
set_option maxRecDepth 100000 in
theorem q34_eq (n m : Int) : (q34 n m) = (runE [] (x34 n m) 66 (e34 n m)).holds fun y => y.1 = .kb true := by
 kernel_rfl
set_option maxRecDepth 100000 in
theorem q34_ok (n m : Int)  : q34 n m := by
 unfold q34
 rfl
theorem t34 (n m : Int)  : TCtr prog 66 (e34 n m) := by
 refine tell (tbl := []) (tl := (x34 n m)) (tok_cons (te_cons (t7 n m) (te_cons (t7 n m) te_nil)) (tok_cons (te_cons (t0 n m) (te_cons (t0 n m) te_nil)) tok_nil)) (by kernel_rfl) (by kernel_rfl) ?_
 rw [← q34_eq]
 exact q34_ok n m
noncomputable def x35 (n m : Int) : TL := [(30, [(14, (e32 n m))]), (66, [(166, (e34 n m))])]
def q35 (n m : Int) : Prop :=
 rp (en (pk100 n)) 4 (((SV.kb true : SV) = .kb true))
set_option maxRecDepth 100000 in
theorem q35_eq (n m : Int) : (q35 n m) = (runE [] (x35 n m) 59 (e35 n m)).holds fun y => y.1 = .kb true := by
 kernel_rfl
set_option maxRecDepth 100000 in
theorem q35_ok (n m : Int)  : q35 n m := by
 unfold q35
 refine rp_i rfl _ ?_
 rfl
theorem t35 (n m : Int)  : TCtr prog 59 (e35 n m) := by
 refine tell (tbl := []) (tl := (x35 n m)) (tok_cons (te_cons (t32 n m) te_nil) (tok_cons (te_cons (t34 n m) te_nil) tok_nil)) (by kernel_rfl) (by kernel_rfl) ?_
 rw [← q35_eq]
 exact q35_ok n m
noncomputable def x36 (n m : Int) : TL := [(60, [(9, (e22 n m)), (29, (e22 n m)), (34, (e22 n m)), (39, (e22 n m)), (44, (e22 n m))]), (45, [(22, (e6 n m))]), (66, [(23, (e28 n m)), (24, (e29 n m)), (25, (e30 n m)), (26, (e31 n m))]), (127, [(29, (e21 n m)), (34, (e21 n m)), (39, (e21 n m)), (44, (e21 n m))])]
def q36 (n m : Int) : Prop :=
 rp (en (pk100 n)) 1 (((SV.kb true : SV) = .kb true))
set_option maxRecDepth 100000 in
theorem q36_eq (n m : Int) : (q36 n m) = (runE [] (x36 n m) 30 (e36 n m)).holds fun y => y.1 = .kb true := by
 kernel_rfl
set_option maxRecDepth 100000 in
theorem q36_ok (n m : Int)  : q36 n m := by
 unfold q36
 refine rp_i rfl _ ?_
 rfl
theorem t36 (n m : Int)  : TCtr prog 30 (e36 n m) := by
 refine tell (tbl := []) (tl := (x36 n m)) (tok_cons (te_cons (t22 n m) (te_cons (t22 n m) (te_cons (t22 n m) (te_cons (t22 n m) (te_cons (t22 n m) te_nil))))) (tok_cons (te_cons (t6 n m) te_nil) (tok_cons (te_cons (t28 n m) (te_cons (t29 n m) (te_cons (t30 n m) (te_cons (t31 n m) te_nil)))) (tok_cons (te_cons (t21 n m) (te_cons (t21 n m) (te_cons (t21 n m) (te_cons (t21 n m) te_nil)))) tok_nil)))) (by kernel_rfl) (by kernel_rfl) ?_
 rw [← q36_eq]
 exact q36_ok n m
noncomputable def x37 (n m : Int) : TL := [(30, [(11, (e36 n m))]), (60, [(13, (e22 n m)), (22, (e22 n m))]), (127, [(13, (e21 n m)), (22, (e21 n m))])]
def q37 (n m : Int) : Prop :=
 rp (en (pk100 n)) 1 (((fun n_1 => n_1 + (itoaB (pk100 n)).size ≤ 100000) 0) ∧
 (bytesP ((fun n_1 => n_1 + (itoaB (pk100 n)).size) 0) ((fun n_1 f => catF n_1 f (bytF (itoaB (pk100 n)))) 0 row0)) ∧
 (itoaB (pk100 n) = (ByteArray.mk ((rowL ((fun n_1 => n_1 + (itoaB (pk100 n)).size) 0) ((fun n_1 f => catF n_1 f (bytF (itoaB (pk100 n)))) 0 row0)).toArray))) ∧
 rp (en (pk100 n)) 1 (((SV.kb true : SV) = .kb true)))
set_option maxRecDepth 100000 in
theorem q37_eq (n m : Int) : (q37 n m) = (runE [] (x37 n m) 82 (e37 n m)).holds fun y => y.1 = .kb true := by
 kernel_rfl
set_option maxRecDepth 100000 in
theorem q37_ok (n m : Int)  : q37 n m := by
 obtain ⟨h0, h1, h2, h3, h4, h5, h6, h7⟩ := fx n m
 unfold q37
 refine rp_i rfl _ ?_
 refine ⟨by simp only [ByteArray.size_append, sz_lit, List.size_toArray, List.length_cons, List.length_nil]; omega, ?_⟩
 refine ⟨bld_bytes (bld_ws bld_nil (itoaB (pk100 n))) (by simp only [ByteArray.size_append, sz_lit, List.size_toArray, List.length_cons, List.length_nil]; omega) (by simp only [ByteArray.size_append, sz_lit, List.size_toArray, List.length_cons, List.length_nil]; omega), ?_⟩
 refine ⟨txt_eq (bld_ws bld_nil (itoaB (pk100 n))) (by (simp only [tl_app, tl_lit, List.append_assoc, List.nil_append]) <;> kernel_rfl), ?_⟩
 refine rp_i rfl _ ?_
 rfl
theorem t37 (n m : Int)  : TCtr prog 82 (e37 n m) := by
 refine tell (tbl := []) (tl := (x37 n m)) (tok_cons (te_cons (t36 n m) te_nil) (tok_cons (te_cons (t22 n m) (te_cons (t22 n m) te_nil)) (tok_cons (te_cons (t21 n m) (te_cons (t21 n m) te_nil)) tok_nil))) (by kernel_rfl) (by kernel_rfl) ?_
 rw [← q37_eq]
 exact q37_ok n m
noncomputable def x38 (n m : Int) : TL := [(22, [(12, (e33 n m))]), (59, [(83, (e35 n m))]), (82, [(131157, (e37 n m))])]
def q38 (n m : Int) : Prop :=
 rp (en (pk100 n)) 4 ((itoaB (pk100 n) = itoaB (pk100 n)) ∧
 rp (en (pk100 n)) 1 (((SV.kb true : SV) = .kb true)))
set_option maxRecDepth 100000 in
theorem q38_eq (n m : Int) : (q38 n m) = (runE [] (x38 n m) 40 (e38 n m)).holds fun y => y.1 = .kb true := by
 kernel_rfl
set_option maxRecDepth 100000 in
theorem q38_ok (n m : Int)  : q38 n m := by
 obtain ⟨h0, h1, h2, h3, h4, h5, h6, h7⟩ := fx n m
 unfold q38
 refine rp_i rfl _ ?_
 refine ⟨rfl, ?_⟩
 refine rp_i rfl _ ?_
 rfl
theorem t38 (n m : Int)  : TCtr prog 40 (e38 n m) := by
 refine tell (tbl := []) (tl := (x38 n m)) (tok_cons (te_cons (t33 n m) te_nil) (tok_cons (te_cons (t35 n m) te_nil) (tok_cons (te_cons (t37 n m) te_nil) tok_nil))) (by kernel_rfl) (by kernel_rfl) ?_
 rw [← q38_eq]
 exact q38_ok n m
noncomputable def x39 (n m : Int) : TL := [(60, [(8, (e22 n m)), (28, (e22 n m)), (33, (e22 n m)), (38, (e22 n m)), (43, (e22 n m))]), (45, [(21, (e6 n m))]), (66, [(22, (e8 n m)), (23, (e9 n m)), (24, (e10 n m)), (25, (e11 n m))]), (127, [(28, (e21 n m)), (33, (e21 n m)), (38, (e21 n m)), (43, (e21 n m))])]
def q39 (n m : Int) : Prop :=
 rp (en (pk100 n)) 1 (((SV.kb true : SV) = .kb true))
set_option maxRecDepth 100000 in
theorem q39_eq (n m : Int) : (q39 n m) = (runE [] (x39 n m) 30 (e39 n m)).holds fun y => y.1 = .kb true := by
 kernel_rfl
set_option maxRecDepth 100000 in
theorem q39_ok (n m : Int)  : q39 n m := by
 unfold q39
 refine rp_i rfl _ ?_
 rfl
theorem t39 (n m : Int)  : TCtr prog 30 (e39 n m) := by
 refine tell (tbl := []) (tl := (x39 n m)) (tok_cons (te_cons (t22 n m) (te_cons (t22 n m) (te_cons (t22 n m) (te_cons (t22 n m) (te_cons (t22 n m) te_nil))))) (tok_cons (te_cons (t6 n m) te_nil) (tok_cons (te_cons (t8 n m) (te_cons (t9 n m) (te_cons (t10 n m) (te_cons (t11 n m) te_nil)))) (tok_cons (te_cons (t21 n m) (te_cons (t21 n m) (te_cons (t21 n m) (te_cons (t21 n m) te_nil)))) tok_nil)))) (by kernel_rfl) (by kernel_rfl) ?_
 rw [← q39_eq]
 exact q39_ok n m
noncomputable def x40 (n m : Int) : TL := [(30, [(9, (e39 n m))])]
def q40 (n m : Int) : Prop :=
 rp (en (pk100 n)) 1 (((SV.kb true : SV) = .kb true))
set_option maxRecDepth 100000 in
theorem q40_eq (n m : Int) : (q40 n m) = (runE [] (x40 n m) 22 (e40 n m)).holds fun y => y.1 = .kb true := by
 kernel_rfl
set_option maxRecDepth 100000 in
theorem q40_ok (n m : Int)  : q40 n m := by
 unfold q40
 refine rp_i rfl _ ?_
 rfl
theorem t40 (n m : Int)  : TCtr prog 22 (e40 n m) := by
 refine tell (tbl := []) (tl := (x40 n m)) (tok_cons (te_cons (t39 n m) te_nil) tok_nil) (by kernel_rfl) (by kernel_rfl) ?_
 rw [← q40_eq]
 exact q40_ok n m
end Gv.LAnew
