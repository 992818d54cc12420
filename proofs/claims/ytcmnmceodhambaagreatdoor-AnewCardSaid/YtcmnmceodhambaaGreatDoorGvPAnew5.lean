/- Told parts of Anew. Printed by gvgen.py. -/
import Derived.Test.YtcmnmceodhambaaGreatDoorGvUAnew
import Derived.Test.YtcmnmceodhambaaGreatDoorGvPAnew0
import Derived.Test.YtcmnmceodhambaaGreatDoorGvPAnew4
import Derived.Test.YtcmnmceodhambaaGreatDoorGvPAnew3
set_option linter.unusedSimpArgs false
set_option linter.unusedVariables false
open Rx Go
namespace Gv.LAnew
open Gv Rd
noncomputable def x51 (n m : Int) : TL := [(60, [(19, (e7 n m)), (37, (e7 n m))]), (127, [(19, (e0 n m)), (37, (e0 n m))])]
def q51 (n m : Int) : Prop :=
 ((SV.kb true : SV) = .kb true)
set_option maxRecDepth 100000 in
theorem q51_eq (n m : Int) : (q51 n m) = (runE [] (x51 n m) 66 (e51 n m)).holds fun y => y.1 = .kb true := by
 kernel_rfl
set_option maxRecDepth 100000 in
theorem q51_ok (n m : Int)  : q51 n m := by
 unfold q51
 rfl
theorem t51 (n m : Int)  : TCtr prog 66 (e51 n m) := by
 refine tell (tbl := []) (tl := (x51 n m)) (tok_cons (te_cons (t7 n m) (te_cons (t7 n m) te_nil)) (tok_cons (te_cons (t0 n m) (te_cons (t0 n m) te_nil)) tok_nil)) (by kernel_rfl) (by kernel_rfl) ?_
 rw [← q51_eq]
 exact q51_ok n m
noncomputable def x52 (n m : Int) : TL := [(60, [(9, (e22 n m)), (30, (e22 n m)), (35, (e22 n m)), (40, (e22 n m)), (45, (e22 n m))]), (45, [(22, (e6 n m))]), (66, [(23, (e47 n m)), (24, (e48 n m)), (25, (e49 n m)), (26, (e50 n m)), (27, (e51 n m))]), (127, [(30, (e21 n m)), (35, (e21 n m)), (40, (e21 n m)), (45, (e21 n m))])]
def q52 (n m : Int) : Prop :=
 rp (en (pk100 n)) 1 (rp (en (pk100 m)) 1 (((SV.kb true : SV) = .kb true)))
set_option maxRecDepth 100000 in
theorem q52_eq (n m : Int) : (q52 n m) = (runE [] (x52 n m) 30 (e52 n m)).holds fun y => y.1 = .kb true := by
 kernel_rfl
set_option maxRecDepth 100000 in
theorem q52_ok (n m : Int)  : q52 n m := by
 unfold q52
 iterate 2 refine rp_i rfl _ ?_
 rfl
theorem t52 (n m : Int)  : TCtr prog 30 (e52 n m) := by
 refine tell (tbl := []) (tl := (x52 n m)) (tok_cons (te_cons (t22 n m) (te_cons (t22 n m) (te_cons (t22 n m) (te_cons (t22 n m) (te_cons (t22 n m) te_nil))))) (tok_cons (te_cons (t6 n m) te_nil) (tok_cons (te_cons (t47 n m) (te_cons (t48 n m) (te_cons (t49 n m) (te_cons (t50 n m) (te_cons (t51 n m) te_nil))))) (tok_cons (te_cons (t21 n m) (te_cons (t21 n m) (te_cons (t21 n m) (te_cons (t21 n m) te_nil)))) tok_nil)))) (by kernel_rfl) (by kernel_rfl) ?_
 rw [← q52_eq]
 exact q52_ok n m
noncomputable def x53 (n m : Int) : TL := []
def q53 (n m : Int) : Prop :=
 rp ((.mp (.int .i64) .bool [((0 : Int), true), ((2 : Int), true), ((4 : Int), true), ((6 : Int), true)] : Ob) = .mp (.int .i64) .bool [((0 : Int), true), ((2 : Int), true), ((4 : Int), true), ((6 : Int), true)]) 1 (((SV.kb true : SV) = .kb true))
set_option maxRecDepth 100000 in
theorem q53_eq (n m : Int) : (q53 n m) = (runE [] (x53 n m) 127 (e53 n m)).holds fun y => y.1 = .kb true := by
 kernel_rfl
set_option maxRecDepth 100000 in
theorem q53_ok (n m : Int)  : q53 n m := by
 unfold q53
 refine rp_i rfl _ ?_
 rfl
theorem t53 (n m : Int)  : TCtr prog 127 (e53 n m) := by
 refine tell (tbl := []) (tl := (x53 n m)) tok_nil (by kernel_rfl) (by kernel_rfl) ?_
 rw [← q53_eq]
 exact q53_ok n m
noncomputable def x54 (n m : Int) : TL := [(127, [(2, (e53 n m))])]
def q54 (n m : Int) : Prop :=
 ((SV.kb true : SV) = .kb true)
set_option maxRecDepth 100000 in
theorem q54_eq (n m : Int) : (q54 n m) = (runE [] (x54 n m) 60 (e54 n m)).holds fun y => y.1 = .kb true := by
 kernel_rfl
set_option maxRecDepth 100000 in
theorem q54_ok (n m : Int)  : q54 n m := by
 unfold q54
 rfl
theorem t54 (n m : Int)  : TCtr prog 60 (e54 n m) := by
 refine tell (tbl := []) (tl := (x54 n m)) (tok_cons (te_cons (t53 n m) te_nil) tok_nil) (by kernel_rfl) (by kernel_rfl) ?_
 rw [← q54_eq]
 exact q54_ok n m
noncomputable def x55 (n m : Int) : TL := [(30, [(13, (e52 n m))]), (60, [(8365, (e22 n m)), (8433, (e54 n m))])]
def q55 (n m : Int) : Prop :=
 rp (en (pk100 n)) 1 (rp (en (pk100 m)) 1 (rp (en (pk100 n)) 1 (rp (en (pk100 m)) 1 (((SV.kb true : SV) = .kb true)))))
set_option maxRecDepth 100000 in
theorem q55_eq (n m : Int) : (q55 n m) = (runE [] (x55 n m) 57 (e55 n m)).holds fun y => y.1 = .kb true := by
 kernel_rfl
set_option maxRecDepth 100000 in
theorem q55_ok (n m : Int)  : q55 n m := by
 unfold q55
 iterate 4 refine rp_i rfl _ ?_
 rfl
theorem t55 (n m : Int)  : TCtr prog 57 (e55 n m) := by
 refine tell (tbl := []) (tl := (x55 n m)) (tok_cons (te_cons (t52 n m) te_nil) (tok_cons (te_cons (t22 n m) (te_cons (t54 n m) te_nil)) tok_nil)) (by kernel_rfl) (by kernel_rfl) ?_
 rw [← q55_eq]
 exact q55_ok n m
noncomputable def x56 (n m : Int) : TL := [(30, [(13, (e39 n m)), (239, (e52 n m))]), (57, [(243, (e55 n m))])]
def q56 (n m : Int) : Prop :=
 rp (en (pk100 n)) 2 (rp (en (pk100 m)) 1 (rp (en (pk100 n)) 1 (rp (en (pk100 m)) 1 (rp (en (pk100 n)) 1 (rp (en (pk100 m)) 1 (((SV.kb true : SV) = .kb true)))))))
set_option maxRecDepth 100000 in
theorem q56_eq (n m : Int) : (q56 n m) = (runE [] (x56 n m) 29 (e56 n m)).holds fun y => y.1 = .kb true := by
 kernel_rfl
set_option maxRecDepth 100000 in
theorem q56_ok (n m : Int)  : q56 n m := by
 unfold q56
 iterate 6 refine rp_i rfl _ ?_
 rfl
theorem t56 (n m : Int)  : TCtr prog 29 (e56 n m) := by
 refine tell (tbl := []) (tl := (x56 n m)) (tok_cons (te_cons (t39 n m) (te_cons (t52 n m) te_nil)) (tok_cons (te_cons (t55 n m) te_nil) tok_nil)) (by kernel_rfl) (by kernel_rfl) ?_
 rw [← q56_eq]
 exact q56_ok n m
noncomputable def x57 (n m : Int) : TL := [(22, [(9, (e40 n m))]), (28, [(11, (e46 n m))]), (29, [(15, (e56 n m))])]
def q57 (n m : Int) : Prop :=
 ((s7 ++ itoaB (pk100 m) ++ s9).size ≤ 3000 ∧ readS 400 (s7 ++ itoaB (pk100 m) ++ s9) = some (RR.mk (dmsX ([ls [sy (ByteArray.mk (#[100, 101, 102, 105, 110, 101])), ls [sy (ByteArray.mk (#[102])), sy (ByteArray.mk (#[110]))], nu 0 99 (pk100 m)]])) 0 0) ∧ fitsX ([ls [sy (ByteArray.mk (#[100, 101, 102, 105, 110, 101])), ls [sy (ByteArray.mk (#[102])), sy (ByteArray.mk (#[110]))], nu 0 99 (pk100 m)]])) ∧
 rp (en (pk100 n)) 1 (rp (((dxL [(ls [(sy s1), (ls [(sy s2), (sy s3)]), (nu 0 99 (pk100 m))])]) : Nat → Nat → Dt) = (dxL [(ls [(sy s1), (ls [(sy s2), (sy s3)]), (nu 0 99 (pk100 m))])])) 1 (rp (en (pk100 n)) 1 (rp (((dxL []) : Nat → Nat → Dt) = (dxL [])) 1 (rp (en (pk100 m)) 1 (rp (en (pk100 n)) 1 (rp (en (pk100 m)) 1 (((SV.kb true : SV) = .kb true))))))))
set_option maxRecDepth 100000 in
theorem q57_eq (n m : Int) : (q57 n m) = (runE [(9, [(ls [(sy s1), (ls [(sy s2), (sy s3)]), (nu 0 99 (pk100 m))])])] (x57 n m) 39 (e57 n m)).holds fun y => y.1 = .kb true := by
 kernel_rfl
set_option maxRecDepth 100000 in
theorem q57_ok (n m : Int)  : q57 n m := by
 obtain ⟨h0, h1, h2, h3, h4, h5, h6, h7⟩ := fx n m
 unfold q57
 refine ⟨read_dx (by repeat first | exact gd_nil | apply gd_cons | apply gd_ls | exact gd_sy (by kernel_rfl) | exact gd_num (by omega) (by omega) | exact gd_nu (by omega) (by omega) (by omega) (by omega)) (by simp only [ByteArray.size_append, sz_lit, List.size_toArray, List.length_cons, List.length_nil, s7_z, s9_z]; omega) (by (simp only [tl_app, tl_lit, List.append_assoc, List.nil_append, s7_t, s9_t]) <;> kernel_rfl) (by kernel_rfl) (by kernel_rfl) (by kernel_rfl), ?_⟩
 iterate 7 refine rp_i rfl _ ?_
 rfl
theorem t57 (n m : Int)  : TCtr prog 39 (e57 n m) := by
 refine tell (tbl := [(9, [(ls [(sy s1), (ls [(sy s2), (sy s3)]), (nu 0 99 (pk100 m))])])]) (tl := (x57 n m)) (tok_cons (te_cons (t40 n m) te_nil) (tok_cons (te_cons (t46 n m) te_nil) (tok_cons (te_cons (t56 n m) te_nil) tok_nil))) (by kernel_rfl) (by kernel_rfl) ?_
 rw [← q57_eq]
 exact q57_ok n m
noncomputable def x58 (n m : Int) : TL := [(60, [(9, (e54 n m)), (30, (e54 n m)), (35, (e54 n m)), (40, (e54 n m)), (45, (e54 n m))]), (45, [(22, (e6 n m))]), (66, [(23, (e47 n m)), (24, (e48 n m)), (25, (e49 n m)), (26, (e50 n m)), (27, (e51 n m))]), (127, [(30, (e53 n m)), (35, (e53 n m)), (40, (e53 n m)), (45, (e53 n m))])]
def q58 (n m : Int) : Prop :=
 rp (en (pk100 n)) 1 (rp (en (pk100 m)) 1 (((SV.kb true : SV) = .kb true)))
set_option maxRecDepth 100000 in
theorem q58_eq (n m : Int) : (q58 n m) = (runE [] (x58 n m) 30 (e58 n m)).holds fun y => y.1 = .kb true := by
 kernel_rfl
set_option maxRecDepth 100000 in
theorem q58_ok (n m : Int)  : q58 n m := by
 unfold q58
 iterate 2 refine rp_i rfl _ ?_
 rfl
theorem t58 (n m : Int)  : TCtr prog 30 (e58 n m) := by
 refine tell (tbl := []) (tl := (x58 n m)) (tok_cons (te_cons (t54 n m) (te_cons (t54 n m) (te_cons (t54 n m) (te_cons (t54 n m) (te_cons (t54 n m) te_nil))))) (tok_cons (te_cons (t6 n m) te_nil) (tok_cons (te_cons (t47 n m) (te_cons (t48 n m) (te_cons (t49 n m) (te_cons (t50 n m) (te_cons (t51 n m) te_nil))))) (tok_cons (te_cons (t53 n m) (te_cons (t53 n m) (te_cons (t53 n m) (te_cons (t53 n m) te_nil)))) tok_nil)))) (by kernel_rfl) (by kernel_rfl) ?_
 rw [← q58_eq]
 exact q58_ok n m
noncomputable def x59 (n m : Int) : TL := [(30, [(10, (e58 n m))])]
def q59 (n m : Int) : Prop :=
 rp (en (pk100 n)) 1 (rp (en (pk100 m)) 1 (((SV.kb true : SV) = .kb true)))
set_option maxRecDepth 100000 in
theorem q59_eq (n m : Int) : (q59 n m) = (runE [] (x59 n m) 22 (e59 n m)).holds fun y => y.1 = .kb true := by
 kernel_rfl
set_option maxRecDepth 100000 in
theorem q59_ok (n m : Int)  : q59 n m := by
 unfold q59
 iterate 2 refine rp_i rfl _ ?_
 rfl
theorem t59 (n m : Int)  : TCtr prog 22 (e59 n m) := by
 refine tell (tbl := []) (tl := (x59 n m)) (tok_cons (te_cons (t58 n m) te_nil) tok_nil) (by kernel_rfl) (by kernel_rfl) ?_
 rw [← q59_eq]
 exact q59_ok n m
end Gv.LAnew
