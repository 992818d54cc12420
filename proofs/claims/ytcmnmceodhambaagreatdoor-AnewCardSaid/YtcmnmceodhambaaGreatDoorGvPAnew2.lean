/- Told parts of Anew. Printed by gvgen.py. -/
import Derived.Test.YtcmnmceodhambaaGreatDoorGvUAnew
import Derived.Test.YtcmnmceodhambaaGreatDoorGvPAnew0
import Derived.Test.YtcmnmceodhambaaGreatDoorGvPAnew1
set_option linter.unusedSimpArgs false
set_option linter.unusedVariables false
open Rx Go
namespace Gv.LAnew
open Gv Rd
noncomputable def x26 (n m : Int) : TL := [(30, [(12, (e3 n m)), (492, (e12 n m))]), (57, [(496, (e15 n m)), (510, (e19 n m)), (526, (e23 n m))]), (59, [(544, (e25 n m))])]
def q26 (n m : Int) : Prop :=
 rp (en (pk100 n)) 6 (((SV.kb true : SV) = .kb true))
set_option maxRecDepth 100000 in
theorem q26_eq (n m : Int) : (q26 n m) = (runE [] (x26 n m) 29 (e26 n m)).holds fun y => y.1 = .kb true := by
 kernel_rfl
set_option maxRecDepth 100000 in
theorem q26_ok (n m : Int)  : q26 n m := by
 unfold q26
 refine rp_i rfl _ ?_
 rfl
theorem t26 (n m : Int)  : TCtr prog 29 (e26 n m) := by
 refine tell (tbl := []) (tl := (x26 n m)) (tok_cons (te_cons (t3 n m) (te_cons (t12 n m) te_nil)) (tok_cons (te_cons (t15 n m) (te_cons (t19 n m) (te_cons (t23 n m) te_nil))) (tok_cons (te_cons (t25 n m) te_nil) tok_nil))) (by kernel_rfl) (by kernel_rfl) ?_
 rw [← q26_eq]
 exact q26_ok n m
noncomputable def x27 (n m : Int) : TL := [(22, [(2, (e4 n m))]), (28, [(3, (e5 n m))]), (29, [(13, (e26 n m))])]
def q27 (n m : Int) : Prop :=
 ((s7 ++ itoaB (pk100 n) ++ s8).size ≤ 3000 ∧ readS 400 (s7 ++ itoaB (pk100 n) ++ s8) = some (RR.mk (dmsX ([ls [sy (ByteArray.mk (#[100, 101, 102, 105, 110, 101])), ls [sy (ByteArray.mk (#[102])), sy (ByteArray.mk (#[110]))], nu 0 99 (pk100 n)], ls [sy (ByteArray.mk (#[100, 101, 102, 105, 110, 101])), ls [sy (ByteArray.mk (#[103])), sy (ByteArray.mk (#[110]))], ls [sy (ByteArray.mk (#[102])), sy (ByteArray.mk (#[110]))]], ls [sy (ByteArray.mk (#[100, 101, 102, 105, 110, 101])), sy (ByteArray.mk (#[111, 108, 100])), sy (ByteArray.mk (#[102]))], ls [sy (ByteArray.mk (#[100, 101, 102, 105, 110, 101])), ls [sy (ByteArray.mk (#[104])), sy (ByteArray.mk (#[110]))], ls [sy (ByteArray.mk (#[111, 108, 100])), sy (ByteArray.mk (#[110]))]]])) 0 0) ∧ fitsX ([ls [sy (ByteArray.mk (#[100, 101, 102, 105, 110, 101])), ls [sy (ByteArray.mk (#[102])), sy (ByteArray.mk (#[110]))], nu 0 99 (pk100 n)], ls [sy (ByteArray.mk (#[100, 101, 102, 105, 110, 101])), ls [sy (ByteArray.mk (#[103])), sy (ByteArray.mk (#[110]))], ls [sy (ByteArray.mk (#[102])), sy (ByteArray.mk (#[110]))]], ls [sy (ByteArray.mk (#[100, 101, 102, 105, 110, 101])), sy (ByteArray.mk (#[111, 108, 100])), sy (ByteArray.mk (#[102]))], ls [sy (ByteArray.mk (#[100, 101, 102, 105, 110, 101])), ls [sy (ByteArray.mk (#[104])), sy (ByteArray.mk (#[110]))], ls [sy (ByteArray.mk (#[111, 108, 100])), sy (ByteArray.mk (#[110]))]]])) ∧
 rp (((dxL [(ls [(sy s1), (ls [(sy s2), (sy s3)]), (nu 0 99 (pk100 n))]), (ls [(sy s1), (ls [(sy s4), (sy s3)]), (ls [(sy s2), (sy s3)])]), (ls [(sy s1), (sy s5), (sy s2)]), (ls [(sy s1), (ls [(sy s6), (sy s3)]), (ls [(sy s5), (sy s3)])])]) : Nat → Nat → Dt) = (dxL [(ls [(sy s1), (ls [(sy s2), (sy s3)]), (nu 0 99 (pk100 n))]), (ls [(sy s1), (ls [(sy s4), (sy s3)]), (ls [(sy s2), (sy s3)])]), (ls [(sy s1), (sy s5), (sy s2)]), (ls [(sy s1), (ls [(sy s6), (sy s3)]), (ls [(sy s5), (sy s3)])])])) 1 (rp (((dxL []) : Nat → Nat → Dt) = (dxL [])) 1 (rp (en (pk100 n)) 2 (((SV.kb true : SV) = .kb true))))
set_option maxRecDepth 100000 in
theorem q27_eq (n m : Int) : (q27 n m) = (runE [(2, [(ls [(sy s1), (ls [(sy s2), (sy s3)]), (nu 0 99 (pk100 n))]), (ls [(sy s1), (ls [(sy s4), (sy s3)]), (ls [(sy s2), (sy s3)])]), (ls [(sy s1), (sy s5), (sy s2)]), (ls [(sy s1), (ls [(sy s6), (sy s3)]), (ls [(sy s5), (sy s3)])])])] (x27 n m) 39 (e27 n m)).holds fun y => y.1 = .kb true := by
 kernel_rfl
set_option maxRecDepth 100000 in
theorem q27_ok (n m : Int)  : q27 n m := by
 obtain ⟨h0, h1, h2, h3, h4, h5, h6, h7⟩ := fx n m
 unfold q27
 refine ⟨read_dx (by repeat first | exact gd_nil | apply gd_cons | apply gd_ls | exact gd_sy (by kernel_rfl) | exact gd_num (by omega) (by omega) | exact gd_nu (by omega) (by omega) (by omega) (by omega)) (by simp only [ByteArray.size_append, sz_lit, List.size_toArray, List.length_cons, List.length_nil, s7_z, s8_z]; omega) (by (simp only [tl_app, tl_lit, List.append_assoc, List.nil_append, s7_t, s8_t]) <;> kernel_rfl) (by kernel_rfl) (by kernel_rfl) (by kernel_rfl), ?_⟩
 iterate 3 refine rp_i rfl _ ?_
 rfl
theorem t27 (n m : Int)  : TCtr prog 39 (e27 n m) := by
 refine tell (tbl := [(2, [(ls [(sy s1), (ls [(sy s2), (sy s3)]), (nu 0 99 (pk100 n))]), (ls [(sy s1), (ls [(sy s4), (sy s3)]), (ls [(sy s2), (sy s3)])]), (ls [(sy s1), (sy s5), (sy s2)]), (ls [(sy s1), (ls [(sy s6), (sy s3)]), (ls [(sy s5), (sy s3)])])])]) (tl := (x27 n m)) (tok_cons (te_cons (t4 n m) te_nil) (tok_cons (te_cons (t5 n m) te_nil) (tok_cons (te_cons (t26 n m) te_nil) tok_nil))) (by kernel_rfl) (by kernel_rfl) ?_
 rw [← q27_eq]
 exact q27_ok n m
noncomputable def x28 (n m : Int) : TL := [(60, [(19, (e7 n m)), (37, (e7 n m))]), (127, [(19, (e0 n m)), (37, (e0 n m))])]
def q28 (n m : Int) : Prop :=
 ((SV.kb true : SV) = .kb true)
set_option maxRecDepth 100000 in
theorem q28_eq (n m : Int) : (q28 n m) = (runE [] (x28 n m) 66 (e28 n m)).holds fun y => y.1 = .kb true := by
 kernel_rfl
set_option maxRecDepth 100000 in
theorem q28_ok (n m : Int)  : q28 n m := by
 unfold q28
 rfl
theorem t28 (n m : Int)  : TCtr prog 66 (e28 n m) := by
 refine tell (tbl := []) (tl := (x28 n m)) (tok_cons (te_cons (t7 n m) (te_cons (t7 n m) te_nil)) (tok_cons (te_cons (t0 n m) (te_cons (t0 n m) te_nil)) tok_nil)) (by kernel_rfl) (by kernel_rfl) ?_
 rw [← q28_eq]
 exact q28_ok n m
noncomputable def x29 (n m : Int) : TL := []
def q29 (n m : Int) : Prop :=
 ((SV.kb true : SV) = .kb true)
set_option maxRecDepth 100000 in
theorem q29_eq (n m : Int) : (q29 n m) = (runE [] (x29 n m) 66 (e29 n m)).holds fun y => y.1 = .kb true := by
 kernel_rfl
set_option maxRecDepth 100000 in
theorem q29_ok (n m : Int)  : q29 n m := by
 unfold q29
 rfl
theorem t29 (n m : Int)  : TCtr prog 66 (e29 n m) := by
 refine tell (tbl := []) (tl := (x29 n m)) tok_nil (by kernel_rfl) (by kernel_rfl) ?_
 rw [← q29_eq]
 exact q29_ok n m
noncomputable def x30 (n m : Int) : TL := []
def q30 (n m : Int) : Prop :=
 ((SV.kb true : SV) = .kb true)
set_option maxRecDepth 100000 in
theorem q30_eq (n m : Int) : (q30 n m) = (runE [] (x30 n m) 66 (e30 n m)).holds fun y => y.1 = .kb true := by
 kernel_rfl
set_option maxRecDepth 100000 in
theorem q30_ok (n m : Int)  : q30 n m := by
 unfold q30
 rfl
theorem t30 (n m : Int)  : TCtr prog 66 (e30 n m) := by
 refine tell (tbl := []) (tl := (x30 n m)) tok_nil (by kernel_rfl) (by kernel_rfl) ?_
 rw [← q30_eq]
 exact q30_ok n m
end Gv.LAnew
