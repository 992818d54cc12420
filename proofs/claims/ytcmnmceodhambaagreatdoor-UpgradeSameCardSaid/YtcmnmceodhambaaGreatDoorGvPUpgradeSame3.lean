/- Told parts of UpgradeSame. Printed by gvgen.py. -/
import Derived.Test.YtcmnmceodhambaaGreatDoorGvUUpgradeSame
import Derived.Test.YtcmnmceodhambaaGreatDoorGvPUpgradeSame1
import Derived.Test.YtcmnmceodhambaaGreatDoorGvPUpgradeSame2
import Derived.Test.YtcmnmceodhambaaGreatDoorGvPUpgradeSame0
set_option linter.unusedSimpArgs false
set_option linter.unusedVariables false
open Rx Go
namespace Gv.LUpgradeSame
open Gv Rd
noncomputable def x37 (n : Int) : TL := [(30, [(19, (e25 n)), (292, (e33 n))]), (57, [(296, (e36 n))])]
def q37 (n : Int) : Prop :=
 rp ((pk100 n) = (pk100 n)) 9 (((SV.kb true : SV) = .kb true))
set_option maxRecDepth 100000 in
theorem q37_eq (n : Int) : (q37 n) = (runE [] (x37 n) 29 (e37 n)).holds fun y => y.1 = .kb true := by
 kernel_rfl
set_option maxRecDepth 100000 in
theorem q37_ok (n : Int)  : q37 n := by
 obtain ⟨hn0, hn1⟩ : 0 ≤ pk100 n ∧ pk100 n < 100 := picked_bounds n (by decide)
 have hnA : (itoaB (pk100 n)).size ≤ 3 := num_size hn0 (by omega)
 have hnP : 0 < (itoaB (pk100 n)).size := num_pos hn0 (by omega)
 unfold q37
 refine rp_i rfl 9 ?_
 rfl
theorem t37 (n : Int)  : TCtr prog 29 (e37 n) := by
 refine tell (tbl := []) (tl := (x37 n)) (tok_cons (te_cons (t25 n) (te_cons (t33 n) te_nil)) (tok_cons (te_cons (t36 n) te_nil) tok_nil)) (by kernel_rfl) (by kernel_rfl) ?_
 rw [← q37_eq]
 exact q37_ok n
noncomputable def x38 (n : Int) : TL := [(22, [(11, (e26 n))]), (28, [(15, (e28 n))]), (29, [(23, (e37 n))])]
def q38 (n : Int) : Prop :=
 (s12.size ≤ 3000 ∧ readS 400 s12 = some (RR.mk (dmsX ([ls [sy (ByteArray.mk (#[114, 101, 99, 111, 114, 100])), sy (ByteArray.mk (#[112])), sy (ByteArray.mk (#[97]))], ls [sy (ByteArray.mk (#[100, 101, 102, 105, 110, 101])), ls [sy (ByteArray.mk (#[115, 104, 111, 119])), sy (ByteArray.mk (#[110]))], ls [sy (ByteArray.mk (#[112, 45, 97])), sy (ByteArray.mk (#[120]))]]])) 0 0) ∧ fitsX ([ls [sy (ByteArray.mk (#[114, 101, 99, 111, 114, 100])), sy (ByteArray.mk (#[112])), sy (ByteArray.mk (#[97]))], ls [sy (ByteArray.mk (#[100, 101, 102, 105, 110, 101])), ls [sy (ByteArray.mk (#[115, 104, 111, 119])), sy (ByteArray.mk (#[110]))], ls [sy (ByteArray.mk (#[112, 45, 97])), sy (ByteArray.mk (#[120]))]]])) ∧
 rp ((pk100 n) = (pk100 n)) 3 (rp (((dxL [(ls [(sy s1), (sy s2), (sy s3)]), (ls [(sy s4), (ls [(sy s6), (sy s7)]), (ls [(sy s8), (sy s5)])])]) : Nat → Nat → Dt) = (dxL [(ls [(sy s1), (sy s2), (sy s3)]), (ls [(sy s4), (ls [(sy s6), (sy s7)]), (ls [(sy s8), (sy s5)])])])) 1 (rp ((pk100 n) = (pk100 n)) 5 (((SV.kb true : SV) = .kb true))))
set_option maxRecDepth 100000 in
theorem q38_eq (n : Int) : (q38 n) = (runE [(11, [(ls [(sy s1), (sy s2), (sy s3)]), (ls [(sy s4), (ls [(sy s6), (sy s7)]), (ls [(sy s8), (sy s5)])])])] (x38 n) 39 (e38 n)).holds fun y => y.1 = .kb true := by
 kernel_rfl
set_option maxRecDepth 100000 in
theorem q38_ok (n : Int)  : q38 n := by
 obtain ⟨hn0, hn1⟩ : 0 ≤ pk100 n ∧ pk100 n < 100 := picked_bounds n (by decide)
 have hnA : (itoaB (pk100 n)).size ≤ 3 := num_size hn0 (by omega)
 have hnP : 0 < (itoaB (pk100 n)).size := num_pos hn0 (by omega)
 unfold q38
 refine ⟨read_dx (by repeat first | exact gd_nil | apply gd_cons | apply gd_ls | exact gd_sy (by kernel_rfl) | exact gd_num (by omega) (by omega) | exact gd_nu (by omega) (by omega) (by omega) (by omega)) (by simp only [ByteArray.size_append, sz_lit, List.size_toArray, List.length_cons, List.length_nil, s12_z]; omega) (by (simp only [tl_app, tl_lit, List.append_assoc, List.nil_append, s12_t]) <;> kernel_rfl) (by kernel_rfl) (by kernel_rfl) (by kernel_rfl), ?_⟩
 refine rp_i rfl 3 ?_
 refine rp_i rfl 1 ?_
 refine rp_i rfl 5 ?_
 rfl
theorem t38 (n : Int)  : TCtr prog 39 (e38 n) := by
 refine tell (tbl := [(11, [(ls [(sy s1), (sy s2), (sy s3)]), (ls [(sy s4), (ls [(sy s6), (sy s7)]), (ls [(sy s8), (sy s5)])])])]) (tl := (x38 n)) (tok_cons (te_cons (t26 n) te_nil) (tok_cons (te_cons (t28 n) te_nil) (tok_cons (te_cons (t37 n) te_nil) tok_nil))) (by kernel_rfl) (by kernel_rfl) ?_
 rw [← q38_eq]
 exact q38_ok n
noncomputable def x39 (n : Int) : TL := [(60, [(10, (e35 n)), (27, (e35 n)), (32, (e35 n))]), (45, [(20, (e6 n))]), (63, [(21, (e29 n))]), (66, [(22, (e30 n)), (23, (e31 n)), (24, (e32 n))]), (127, [(27, (e34 n)), (32, (e34 n))])]
def q39 (n : Int) : Prop :=
 rp ((pk100 n) = (pk100 n)) 7 (((SV.kb true : SV) = .kb true))
set_option maxRecDepth 100000 in
theorem q39_eq (n : Int) : (q39 n) = (runE [] (x39 n) 30 (e39 n)).holds fun y => y.1 = .kb true := by
 kernel_rfl
set_option maxRecDepth 100000 in
theorem q39_ok (n : Int)  : q39 n := by
 obtain ⟨hn0, hn1⟩ : 0 ≤ pk100 n ∧ pk100 n < 100 := picked_bounds n (by decide)
 have hnA : (itoaB (pk100 n)).size ≤ 3 := num_size hn0 (by omega)
 have hnP : 0 < (itoaB (pk100 n)).size := num_pos hn0 (by omega)
 unfold q39
 refine rp_i rfl 7 ?_
 rfl
theorem t39 (n : Int)  : TCtr prog 30 (e39 n) := by
 refine tell (tbl := []) (tl := (x39 n)) (tok_cons (te_cons (t35 n) (te_cons (t35 n) (te_cons (t35 n) te_nil))) (tok_cons (te_cons (t6 n) te_nil) (tok_cons (te_cons (t29 n) te_nil) (tok_cons (te_cons (t30 n) (te_cons (t31 n) (te_cons (t32 n) te_nil))) (tok_cons (te_cons (t34 n) (te_cons (t34 n) te_nil)) tok_nil))))) (by kernel_rfl) (by kernel_rfl) ?_
 rw [← q39_eq]
 exact q39_ok n
noncomputable def x40 (n : Int) : TL := [(30, [(11, (e39 n))])]
def q40 (n : Int) : Prop :=
 rp ((pk100 n) = (pk100 n)) 2 (((SV.kb true : SV) = .kb true))
set_option maxRecDepth 100000 in
theorem q40_eq (n : Int) : (q40 n) = (runE [] (x40 n) 22 (e40 n)).holds fun y => y.1 = .kb true := by
 kernel_rfl
set_option maxRecDepth 100000 in
theorem q40_ok (n : Int)  : q40 n := by
 obtain ⟨hn0, hn1⟩ : 0 ≤ pk100 n ∧ pk100 n < 100 := picked_bounds n (by decide)
 have hnA : (itoaB (pk100 n)).size ≤ 3 := num_size hn0 (by omega)
 have hnP : 0 < (itoaB (pk100 n)).size := num_pos hn0 (by omega)
 unfold q40
 refine rp_i rfl 2 ?_
 rfl
theorem t40 (n : Int)  : TCtr prog 22 (e40 n) := by
 refine tell (tbl := []) (tl := (x40 n)) (tok_cons (te_cons (t39 n) te_nil) tok_nil) (by kernel_rfl) (by kernel_rfl) ?_
 rw [← q40_eq]
 exact q40_ok n
noncomputable def x41 (n : Int) : TL := [(60, [(42, (e8 n)), (76, (e8 n))]), (127, [(42, (e0 n)), (76, (e0 n))])]
def q41 (n : Int) : Prop :=
 ((SV.kb true : SV) = .kb true)
set_option maxRecDepth 100000 in
theorem q41_eq (n : Int) : (q41 n) = (runE [] (x41 n) 66 (e41 n)).holds fun y => y.1 = .kb true := by
 kernel_rfl
set_option maxRecDepth 100000 in
theorem q41_ok (n : Int)  : q41 n := by
 obtain ⟨hn0, hn1⟩ : 0 ≤ pk100 n ∧ pk100 n < 100 := picked_bounds n (by decide)
 have hnA : (itoaB (pk100 n)).size ≤ 3 := num_size hn0 (by omega)
 have hnP : 0 < (itoaB (pk100 n)).size := num_pos hn0 (by omega)
 unfold q41
 rfl
theorem t41 (n : Int)  : TCtr prog 66 (e41 n) := by
 refine tell (tbl := []) (tl := (x41 n)) (tok_cons (te_cons (t8 n) (te_cons (t8 n) te_nil)) (tok_cons (te_cons (t0 n) (te_cons (t0 n) te_nil)) tok_nil)) (by kernel_rfl) (by kernel_rfl) ?_
 rw [← q41_eq]
 exact q41_ok n
end Gv.LUpgradeSame
