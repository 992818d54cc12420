/- Told parts of UpgradeSame. Printed by gvgen.py. -/
import Derived.Test.YtcmnmceodhambaaGreatDoorGvUUpgradeSame
import Derived.Test.YtcmnmceodhambaaGreatDoorGvPUpgradeSame0
set_option linter.unusedSimpArgs false
set_option linter.unusedVariables false
open Rx Go
namespace Gv.LUpgradeSame
open Gv Rd
noncomputable def x18 (n : Int) : TL := [(30, [(9, (e3 n)), (312, (e11 n))]), (57, [(317, (e14 n))]), (59, [(332, (e17 n))])]
def q18 (n : Int) : Prop :=
 rp ((pk100 n) = (pk100 n)) 6 (((SV.kb true : SV) = .kb true))
set_option maxRecDepth 100000 in
theorem q18_eq (n : Int) : (q18 n) = (runE [] (x18 n) 29 (e18 n)).holds fun y => y.1 = .kb true := by
 kernel_rfl
set_option maxRecDepth 100000 in
theorem q18_ok (n : Int)  : q18 n := by
 obtain ⟨hn0, hn1⟩ : 0 ≤ pk100 n ∧ pk100 n < 100 := picked_bounds n (by decide)
 have hnA : (itoaB (pk100 n)).size ≤ 3 := num_size hn0 (by omega)
 have hnP : 0 < (itoaB (pk100 n)).size := num_pos hn0 (by omega)
 unfold q18
 refine rp_i rfl 6 ?_
 rfl
theorem t18 (n : Int)  : TCtr prog 29 (e18 n) := by
 refine tell (tbl := []) (tl := (x18 n)) (tok_cons (te_cons (t3 n) (te_cons (t11 n) te_nil)) (tok_cons (te_cons (t14 n) te_nil) (tok_cons (te_cons (t17 n) te_nil) tok_nil))) (by kernel_rfl) (by kernel_rfl) ?_
 rw [← q18_eq]
 exact q18_ok n
noncomputable def x19 (n : Int) : TL := [(22, [(2, (e4 n))]), (28, [(3, (e5 n))]), (29, [(10, (e18 n))])]
def q19 (n : Int) : Prop :=
 ((s10 ++ itoaB (pk100 n) ++ s11).size ≤ 3000 ∧ readS 400 (s10 ++ itoaB (pk100 n) ++ s11) = some (RR.mk (dmsX ([ls [sy (ByteArray.mk (#[114, 101, 99, 111, 114, 100])), sy (ByteArray.mk (#[112])), sy (ByteArray.mk (#[97]))], ls [sy (ByteArray.mk (#[100, 101, 102, 105, 110, 101])), sy (ByteArray.mk (#[120])), ls [sy (ByteArray.mk (#[112])), nu 0 99 (pk100 n)]], ls [sy (ByteArray.mk (#[100, 101, 102, 105, 110, 101])), ls [sy (ByteArray.mk (#[115, 104, 111, 119])), sy (ByteArray.mk (#[110]))], sy (ByteArray.mk (#[120]))]])) 0 0) ∧ fitsX ([ls [sy (ByteArray.mk (#[114, 101, 99, 111, 114, 100])), sy (ByteArray.mk (#[112])), sy (ByteArray.mk (#[97]))], ls [sy (ByteArray.mk (#[100, 101, 102, 105, 110, 101])), sy (ByteArray.mk (#[120])), ls [sy (ByteArray.mk (#[112])), nu 0 99 (pk100 n)]], ls [sy (ByteArray.mk (#[100, 101, 102, 105, 110, 101])), ls [sy (ByteArray.mk (#[115, 104, 111, 119])), sy (ByteArray.mk (#[110]))], sy (ByteArray.mk (#[120]))]])) ∧
 rp (((dxL [(ls [(sy s1), (sy s2), (sy s3)]), (ls [(sy s4), (sy s5), (ls [(sy s2), (nu 0 99 (pk100 n))])]), (ls [(sy s4), (ls [(sy s6), (sy s7)]), (sy s5)])]) : Nat → Nat → Dt) = (dxL [(ls [(sy s1), (sy s2), (sy s3)]), (ls [(sy s4), (sy s5), (ls [(sy s2), (nu 0 99 (pk100 n))])]), (ls [(sy s4), (ls [(sy s6), (sy s7)]), (sy s5)])])) 1 (rp (((dxL []) : Nat → Nat → Dt) = (dxL [])) 1 (rp ((pk100 n) = (pk100 n)) 4 (((SV.kb true : SV) = .kb true))))
set_option maxRecDepth 100000 in
theorem q19_eq (n : Int) : (q19 n) = (runE [(2, [(ls [(sy s1), (sy s2), (sy s3)]), (ls [(sy s4), (sy s5), (ls [(sy s2), (nu 0 99 (pk100 n))])]), (ls [(sy s4), (ls [(sy s6), (sy s7)]), (sy s5)])])] (x19 n) 39 (e19 n)).holds fun y => y.1 = .kb true := by
 kernel_rfl
set_option maxRecDepth 100000 in
theorem q19_ok (n : Int)  : q19 n := by
 obtain ⟨hn0, hn1⟩ : 0 ≤ pk100 n ∧ pk100 n < 100 := picked_bounds n (by decide)
 have hnA : (itoaB (pk100 n)).size ≤ 3 := num_size hn0 (by omega)
 have hnP : 0 < (itoaB (pk100 n)).size := num_pos hn0 (by omega)
 unfold q19
 refine ⟨read_dx (by repeat first | exact gd_nil | apply gd_cons | apply gd_ls | exact gd_sy (by kernel_rfl) | exact gd_num (by omega) (by omega) | exact gd_nu (by omega) (by omega) (by omega) (by omega)) (by simp only [ByteArray.size_append, sz_lit, List.size_toArray, List.length_cons, List.length_nil, s10_z, s11_z]; omega) (by (simp only [tl_app, tl_lit, List.append_assoc, List.nil_append, s10_t, s11_t]) <;> kernel_rfl) (by kernel_rfl) (by kernel_rfl) (by kernel_rfl), ?_⟩
 refine rp_i rfl 1 ?_
 refine rp_i rfl 1 ?_
 refine rp_i rfl 4 ?_
 rfl
theorem t19 (n : Int)  : TCtr prog 39 (e19 n) := by
 refine tell (tbl := [(2, [(ls [(sy s1), (sy s2), (sy s3)]), (ls [(sy s4), (sy s5), (ls [(sy s2), (nu 0 99 (pk100 n))])]), (ls [(sy s4), (ls [(sy s6), (sy s7)]), (sy s5)])])]) (tl := (x19 n)) (tok_cons (te_cons (t4 n) te_nil) (tok_cons (te_cons (t5 n) te_nil) (tok_cons (te_cons (t18 n) te_nil) tok_nil))) (by kernel_rfl) (by kernel_rfl) ?_
 rw [← q19_eq]
 exact q19_ok n
noncomputable def x20 (n : Int) : TL := []
def q20 (n : Int) : Prop :=
 rp ((.mp (.int .i64) .bool [((0 : Int), true), ((2 : Int), true)] : Ob) = .mp (.int .i64) .bool [((0 : Int), true), ((2 : Int), true)]) 1 (((SV.kb true : SV) = .kb true))
set_option maxRecDepth 100000 in
theorem q20_eq (n : Int) : (q20 n) = (runE [] (x20 n) 127 (e20 n)).holds fun y => y.1 = .kb true := by
 kernel_rfl
set_option maxRecDepth 100000 in
theorem q20_ok (n : Int)  : q20 n := by
 obtain ⟨hn0, hn1⟩ : 0 ≤ pk100 n ∧ pk100 n < 100 := picked_bounds n (by decide)
 have hnA : (itoaB (pk100 n)).size ≤ 3 := num_size hn0 (by omega)
 have hnP : 0 < (itoaB (pk100 n)).size := num_pos hn0 (by omega)
 unfold q20
 refine rp_i rfl 1 ?_
 rfl
theorem t20 (n : Int)  : TCtr prog 127 (e20 n) := by
 refine tell (tbl := []) (tl := (x20 n)) tok_nil (by kernel_rfl) (by kernel_rfl) ?_
 rw [← q20_eq]
 exact q20_ok n
noncomputable def x21 (n : Int) : TL := [(127, [(2, (e20 n))])]
def q21 (n : Int) : Prop :=
 rp ((pk100 n) = (pk100 n)) 1 (((SV.kb true : SV) = .kb true))
set_option maxRecDepth 100000 in
theorem q21_eq (n : Int) : (q21 n) = (runE [] (x21 n) 60 (e21 n)).holds fun y => y.1 = .kb true := by
 kernel_rfl
set_option maxRecDepth 100000 in
theorem q21_ok (n : Int)  : q21 n := by
 obtain ⟨hn0, hn1⟩ : 0 ≤ pk100 n ∧ pk100 n < 100 := picked_bounds n (by decide)
 have hnA : (itoaB (pk100 n)).size ≤ 3 := num_size hn0 (by omega)
 have hnP : 0 < (itoaB (pk100 n)).size := num_pos hn0 (by omega)
 unfold q21
 refine rp_i rfl 1 ?_
 rfl
theorem t21 (n : Int)  : TCtr prog 60 (e21 n) := by
 refine tell (tbl := []) (tl := (x21 n)) (tok_cons (te_cons (t20 n) te_nil) tok_nil) (by kernel_rfl) (by kernel_rfl) ?_
 rw [← q21_eq]
 exact q21_ok n
noncomputable def x22 (n : Int) : TL := []
def q22 (n : Int) : Prop :=
 ((SV.kb true : SV) = .kb true)
set_option maxRecDepth 100000 in
theorem q22_eq (n : Int) : (q22 n) = (runE [] (x22 n) 63 (e22 n)).holds fun y => y.1 = .kb true := by
 kernel_rfl
set_option maxRecDepth 100000 in
theorem q22_ok (n : Int)  : q22 n := by
 obtain ⟨hn0, hn1⟩ : 0 ≤ pk100 n ∧ pk100 n < 100 := picked_bounds n (by decide)
 have hnA : (itoaB (pk100 n)).size ≤ 3 := num_size hn0 (by omega)
 have hnP : 0 < (itoaB (pk100 n)).size := num_pos hn0 (by omega)
 unfold q22
 rfl
theorem t22 (n : Int)  : TCtr prog 63 (e22 n) := by
 refine tell (tbl := []) (tl := (x22 n)) tok_nil (by kernel_rfl) (by kernel_rfl) ?_
 rw [← q22_eq]
 exact q22_ok n
noncomputable def x23 (n : Int) : TL := [(60, [(26, (e8 n)), (57, (e8 n))]), (127, [(26, (e0 n)), (57, (e0 n))])]
def q23 (n : Int) : Prop :=
 ((SV.kb true : SV) = .kb true)
set_option maxRecDepth 100000 in
theorem q23_eq (n : Int) : (q23 n) = (runE [] (x23 n) 66 (e23 n)).holds fun y => y.1 = .kb true := by
 kernel_rfl
set_option maxRecDepth 100000 in
theorem q23_ok (n : Int)  : q23 n := by
 obtain ⟨hn0, hn1⟩ : 0 ≤ pk100 n ∧ pk100 n < 100 := picked_bounds n (by decide)
 have hnA : (itoaB (pk100 n)).size ≤ 3 := num_size hn0 (by omega)
 have hnP : 0 < (itoaB (pk100 n)).size := num_pos hn0 (by omega)
 unfold q23
 rfl
theorem t23 (n : Int)  : TCtr prog 66 (e23 n) := by
 refine tell (tbl := []) (tl := (x23 n)) (tok_cons (te_cons (t8 n) (te_cons (t8 n) te_nil)) (tok_cons (te_cons (t0 n) (te_cons (t0 n) te_nil)) tok_nil)) (by kernel_rfl) (by kernel_rfl) ?_
 rw [← q23_eq]
 exact q23_ok n
noncomputable def x24 (n : Int) : TL := []
def q24 (n : Int) : Prop :=
 ((SV.kb true : SV) = .kb true)
set_option maxRecDepth 100000 in
theorem q24_eq (n : Int) : (q24 n) = (runE [] (x24 n) 66 (e24 n)).holds fun y => y.1 = .kb true := by
 kernel_rfl
set_option maxRecDepth 100000 in
theorem q24_ok (n : Int)  : q24 n := by
 obtain ⟨hn0, hn1⟩ : 0 ≤ pk100 n ∧ pk100 n < 100 := picked_bounds n (by decide)
 have hnA : (itoaB (pk100 n)).size ≤ 3 := num_size hn0 (by omega)
 have hnP : 0 < (itoaB (pk100 n)).size := num_pos hn0 (by omega)
 unfold q24
 rfl
theorem t24 (n : Int)  : TCtr prog 66 (e24 n) := by
 refine tell (tbl := []) (tl := (x24 n)) tok_nil (by kernel_rfl) (by kernel_rfl) ?_
 rw [← q24_eq]
 exact q24_ok n
noncomputable def x25 (n : Int) : TL := [(60, [(10, (e21 n)), (26, (e21 n)), (31, (e21 n))]), (45, [(20, (e6 n))]), (63, [(21, (e22 n))]), (66, [(22, (e23 n)), (23, (e24 n))]), (127, [(26, (e20 n)), (31, (e20 n))])]
def q25 (n : Int) : Prop :=
 rp ((pk100 n) = (pk100 n)) 8 (((SV.kb true : SV) = .kb true))
set_option maxRecDepth 100000 in
theorem q25_eq (n : Int) : (q25 n) = (runE [] (x25 n) 30 (e25 n)).holds fun y => y.1 = .kb true := by
 kernel_rfl
set_option maxRecDepth 100000 in
theorem q25_ok (n : Int)  : q25 n := by
 obtain ⟨hn0, hn1⟩ : 0 ≤ pk100 n ∧ pk100 n < 100 := picked_bounds n (by decide)
 have hnA : (itoaB (pk100 n)).size ≤ 3 := num_size hn0 (by omega)
 have hnP : 0 < (itoaB (pk100 n)).size := num_pos hn0 (by omega)
 unfold q25
 refine rp_i rfl 8 ?_
 rfl
theorem t25 (n : Int)  : TCtr prog 30 (e25 n) := by
 refine tell (tbl := []) (tl := (x25 n)) (tok_cons (te_cons (t21 n) (te_cons (t21 n) (te_cons (t21 n) te_nil))) (tok_cons (te_cons (t6 n) te_nil) (tok_cons (te_cons (t22 n) te_nil) (tok_cons (te_cons (t23 n) (te_cons (t24 n) te_nil)) (tok_cons (te_cons (t20 n) (te_cons (t20 n) te_nil)) tok_nil))))) (by kernel_rfl) (by kernel_rfl) ?_
 rw [← q25_eq]
 exact q25_ok n
noncomputable def x26 (n : Int) : TL := [(30, [(11, (e25 n))])]
def q26 (n : Int) : Prop :=
 rp ((pk100 n) = (pk100 n)) 3 (((SV.kb true : SV) = .kb true))
set_option maxRecDepth 100000 in
theorem q26_eq (n : Int) : (q26 n) = (runE [] (x26 n) 22 (e26 n)).holds fun y => y.1 = .kb true := by
 kernel_rfl
set_option maxRecDepth 100000 in
theorem q26_ok (n : Int)  : q26 n := by
 obtain ⟨hn0, hn1⟩ : 0 ≤ pk100 n ∧ pk100 n < 100 := picked_bounds n (by decide)
 have hnA : (itoaB (pk100 n)).size ≤ 3 := num_size hn0 (by omega)
 have hnP : 0 < (itoaB (pk100 n)).size := num_pos hn0 (by omega)
 unfold q26
 refine rp_i rfl 3 ?_
 rfl
theorem t26 (n : Int)  : TCtr prog 22 (e26 n) := by
 refine tell (tbl := []) (tl := (x26 n)) (tok_cons (te_cons (t25 n) te_nil) tok_nil) (by kernel_rfl) (by kernel_rfl) ?_
 rw [← q26_eq]
 exact q26_ok n
noncomputable def x27 (n : Int) : TL := []
def q27 (n : Int) : Prop :=
 ((SV.kb true : SV) = .kb true)
set_option maxRecDepth 100000 in
theorem q27_eq (n : Int) : (q27 n) = (runE [] (x27 n) 45 (e27 n)).holds fun y => y.1 = .kb true := by
 kernel_rfl
set_option maxRecDepth 100000 in
theorem q27_ok (n : Int)  : q27 n := by
 obtain ⟨hn0, hn1⟩ : 0 ≤ pk100 n ∧ pk100 n < 100 := picked_bounds n (by decide)
 have hnA : (itoaB (pk100 n)).size ≤ 3 := num_size hn0 (by omega)
 have hnP : 0 < (itoaB (pk100 n)).size := num_pos hn0 (by omega)
 unfold q27
 rfl
theorem t27 (n : Int)  : TCtr prog 45 (e27 n) := by
 refine tell (tbl := []) (tl := (x27 n)) tok_nil (by kernel_rfl) (by kernel_rfl) ?_
 rw [← q27_eq]
 exact q27_ok n
end Gv.LUpgradeSame
