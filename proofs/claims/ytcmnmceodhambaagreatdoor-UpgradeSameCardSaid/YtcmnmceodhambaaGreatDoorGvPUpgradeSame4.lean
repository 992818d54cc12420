/- Told parts of UpgradeSame. Printed by gvgen.py. -/
import Derived.Test.YtcmnmceodhambaaGreatDoorGvUUpgradeSame
import Derived.Test.YtcmnmceodhambaaGreatDoorGvPUpgradeSame3
import Derived.Test.YtcmnmceodhambaaGreatDoorGvPUpgradeSame0
import Derived.Test.YtcmnmceodhambaaGreatDoorGvPUpgradeSame2
import Derived.Test.YtcmnmceodhambaaGreatDoorGvPUpgradeSame1
set_option linter.unusedSimpArgs false
set_option linter.unusedVariables false
open Rx Go
namespace Gv.LUpgradeSame
open Gv Rd
noncomputable def x42 (n : Int) : TL := [(30, [(15, (e39 n))]), (66, [(171, (e41 n))])]
def q42 (n : Int) : Prop :=
 rp ((pk100 n) = (pk100 n)) 6 (((SV.kb true : SV) = .kb true))
set_option maxRecDepth 100000 in
theorem q42_eq (n : Int) : (q42 n) = (runE [] (x42 n) 59 (e42 n)).holds fun y => y.1 = .kb true := by
 kernel_rfl
set_option maxRecDepth 100000 in
theorem q42_ok (n : Int)  : q42 n := by
 obtain ⟨hn0, hn1⟩ : 0 ≤ pk100 n ∧ pk100 n < 100 := picked_bounds n (by decide)
 have hnA : (itoaB (pk100 n)).size ≤ 3 := num_size hn0 (by omega)
 have hnP : 0 < (itoaB (pk100 n)).size := num_pos hn0 (by omega)
 unfold q42
 refine rp_i rfl 6 ?_
 rfl
theorem t42 (n : Int)  : TCtr prog 59 (e42 n) := by
 refine tell (tbl := []) (tl := (x42 n)) (tok_cons (te_cons (t39 n) te_nil) (tok_cons (te_cons (t41 n) te_nil) tok_nil)) (by kernel_rfl) (by kernel_rfl) ?_
 rw [← q42_eq]
 exact q42_ok n
noncomputable def x43 (n : Int) : TL := []
def q43 (n : Int) : Prop :=
 ((SV.kb true : SV) = .kb true)
set_option maxRecDepth 100000 in
theorem q43_eq (n : Int) : (q43 n) = (runE [] (x43 n) 63 (e43 n)).holds fun y => y.1 = .kb true := by
 kernel_rfl
set_option maxRecDepth 100000 in
theorem q43_ok (n : Int)  : q43 n := by
 obtain ⟨hn0, hn1⟩ : 0 ≤ pk100 n ∧ pk100 n < 100 := picked_bounds n (by decide)
 have hnA : (itoaB (pk100 n)).size ≤ 3 := num_size hn0 (by omega)
 have hnP : 0 < (itoaB (pk100 n)).size := num_pos hn0 (by omega)
 unfold q43
 rfl
theorem t43 (n : Int)  : TCtr prog 63 (e43 n) := by
 refine tell (tbl := []) (tl := (x43 n)) tok_nil (by kernel_rfl) (by kernel_rfl) ?_
 rw [← q43_eq]
 exact q43_ok n
noncomputable def x44 (n : Int) : TL := [(60, [(26, (e8 n)), (57, (e8 n))]), (127, [(26, (e0 n)), (57, (e0 n))])]
def q44 (n : Int) : Prop :=
 ((SV.kb true : SV) = .kb true)
set_option maxRecDepth 100000 in
theorem q44_eq (n : Int) : (q44 n) = (runE [] (x44 n) 66 (e44 n)).holds fun y => y.1 = .kb true := by
 kernel_rfl
set_option maxRecDepth 100000 in
theorem q44_ok (n : Int)  : q44 n := by
 obtain ⟨hn0, hn1⟩ : 0 ≤ pk100 n ∧ pk100 n < 100 := picked_bounds n (by decide)
 have hnA : (itoaB (pk100 n)).size ≤ 3 := num_size hn0 (by omega)
 have hnP : 0 < (itoaB (pk100 n)).size := num_pos hn0 (by omega)
 unfold q44
 rfl
theorem t44 (n : Int)  : TCtr prog 66 (e44 n) := by
 refine tell (tbl := []) (tl := (x44 n)) (tok_cons (te_cons (t8 n) (te_cons (t8 n) te_nil)) (tok_cons (te_cons (t0 n) (te_cons (t0 n) te_nil)) tok_nil)) (by kernel_rfl) (by kernel_rfl) ?_
 rw [← q44_eq]
 exact q44_ok n
noncomputable def x45 (n : Int) : TL := []
def q45 (n : Int) : Prop :=
 ((SV.kb true : SV) = .kb true)
set_option maxRecDepth 100000 in
theorem q45_eq (n : Int) : (q45 n) = (runE [] (x45 n) 66 (e45 n)).holds fun y => y.1 = .kb true := by
 kernel_rfl
set_option maxRecDepth 100000 in
theorem q45_ok (n : Int)  : q45 n := by
 obtain ⟨hn0, hn1⟩ : 0 ≤ pk100 n ∧ pk100 n < 100 := picked_bounds n (by decide)
 have hnA : (itoaB (pk100 n)).size ≤ 3 := num_size hn0 (by omega)
 have hnP : 0 < (itoaB (pk100 n)).size := num_pos hn0 (by omega)
 unfold q45
 rfl
theorem t45 (n : Int)  : TCtr prog 66 (e45 n) := by
 refine tell (tbl := []) (tl := (x45 n)) tok_nil (by kernel_rfl) (by kernel_rfl) ?_
 rw [← q45_eq]
 exact q45_ok n
noncomputable def x46 (n : Int) : TL := []
def q46 (n : Int) : Prop :=
 ((SV.kb true : SV) = .kb true)
set_option maxRecDepth 100000 in
theorem q46_eq (n : Int) : (q46 n) = (runE [] (x46 n) 66 (e46 n)).holds fun y => y.1 = .kb true := by
 kernel_rfl
set_option maxRecDepth 100000 in
theorem q46_ok (n : Int)  : q46 n := by
 obtain ⟨hn0, hn1⟩ : 0 ≤ pk100 n ∧ pk100 n < 100 := picked_bounds n (by decide)
 have hnA : (itoaB (pk100 n)).size ≤ 3 := num_size hn0 (by omega)
 have hnP : 0 < (itoaB (pk100 n)).size := num_pos hn0 (by omega)
 unfold q46
 rfl
theorem t46 (n : Int)  : TCtr prog 66 (e46 n) := by
 refine tell (tbl := []) (tl := (x46 n)) tok_nil (by kernel_rfl) (by kernel_rfl) ?_
 rw [← q46_eq]
 exact q46_ok n
noncomputable def x47 (n : Int) : TL := [(60, [(11, (e35 n)), (28, (e35 n)), (33, (e35 n))]), (45, [(21, (e6 n))]), (63, [(22, (e43 n))]), (66, [(23, (e44 n)), (24, (e45 n)), (25, (e46 n))]), (127, [(28, (e34 n)), (33, (e34 n))])]
def q47 (n : Int) : Prop :=
 rp ((pk100 n) = (pk100 n)) 7 (((SV.kb true : SV) = .kb true))
set_option maxRecDepth 100000 in
theorem q47_eq (n : Int) : (q47 n) = (runE [] (x47 n) 30 (e47 n)).holds fun y => y.1 = .kb true := by
 kernel_rfl
set_option maxRecDepth 100000 in
theorem q47_ok (n : Int)  : q47 n := by
 obtain ⟨hn0, hn1⟩ : 0 ≤ pk100 n ∧ pk100 n < 100 := picked_bounds n (by decide)
 have hnA : (itoaB (pk100 n)).size ≤ 3 := num_size hn0 (by omega)
 have hnP : 0 < (itoaB (pk100 n)).size := num_pos hn0 (by omega)
 unfold q47
 refine rp_i rfl 7 ?_
 rfl
theorem t47 (n : Int)  : TCtr prog 30 (e47 n) := by
 refine tell (tbl := []) (tl := (x47 n)) (tok_cons (te_cons (t35 n) (te_cons (t35 n) (te_cons (t35 n) te_nil))) (tok_cons (te_cons (t6 n) te_nil) (tok_cons (te_cons (t43 n) te_nil) (tok_cons (te_cons (t44 n) (te_cons (t45 n) (te_cons (t46 n) te_nil))) (tok_cons (te_cons (t34 n) (te_cons (t34 n) te_nil)) tok_nil))))) (by kernel_rfl) (by kernel_rfl) ?_
 rw [← q47_eq]
 exact q47_ok n
noncomputable def x48 (n : Int) : TL := [(30, [(13, (e47 n))]), (60, [(15, (e35 n)), (24, (e35 n))]), (127, [(15, (e34 n)), (24, (e34 n))])]
def q48 (n : Int) : Prop :=
 rp ((pk100 n) = (pk100 n)) 6 (((fun n_1 => n_1 + (itoaB (pk100 n)).size ≤ 100000) 0) ∧
 (bytesP ((fun n_1 => n_1 + (itoaB (pk100 n)).size) 0) ((fun n_1 f => catF n_1 f (bytF (itoaB (pk100 n)))) 0 row0)) ∧
 (itoaB (pk100 n) = (ByteArray.mk ((rowL ((fun n_1 => n_1 + (itoaB (pk100 n)).size) 0) ((fun n_1 f => catF n_1 f (bytF (itoaB (pk100 n)))) 0 row0)).toArray))) ∧
 rp ((pk100 n) = (pk100 n)) 2 (((SV.kb true : SV) = .kb true)))
set_option maxRecDepth 100000 in
theorem q48_eq (n : Int) : (q48 n) = (runE [] (x48 n) 82 (e48 n)).holds fun y => y.1 = .kb true := by
 kernel_rfl
set_option maxRecDepth 100000 in
theorem q48_ok (n : Int)  : q48 n := by
 obtain ⟨hn0, hn1⟩ : 0 ≤ pk100 n ∧ pk100 n < 100 := picked_bounds n (by decide)
 have hnA : (itoaB (pk100 n)).size ≤ 3 := num_size hn0 (by omega)
 have hnP : 0 < (itoaB (pk100 n)).size := num_pos hn0 (by omega)
 unfold q48
 refine rp_i rfl 6 ?_
 refine ⟨by simp only [ByteArray.size_append, sz_lit, List.size_toArray, List.length_cons, List.length_nil]; omega, ?_⟩
 refine ⟨bld_bytes (bld_ws bld_nil (itoaB (pk100 n))) (by simp only [ByteArray.size_append, sz_lit, List.size_toArray, List.length_cons, List.length_nil]; omega) (by simp only [ByteArray.size_append, sz_lit, List.size_toArray, List.length_cons, List.length_nil]; omega), ?_⟩
 refine ⟨txt_eq (bld_ws bld_nil (itoaB (pk100 n))) (by (simp only [tl_app, tl_lit, List.append_assoc, List.nil_append]) <;> kernel_rfl), ?_⟩
 refine rp_i rfl 2 ?_
 rfl
theorem t48 (n : Int)  : TCtr prog 82 (e48 n) := by
 refine tell (tbl := []) (tl := (x48 n)) (tok_cons (te_cons (t47 n) te_nil) (tok_cons (te_cons (t35 n) (te_cons (t35 n) te_nil)) (tok_cons (te_cons (t34 n) (te_cons (t34 n) te_nil)) tok_nil))) (by kernel_rfl) (by kernel_rfl) ?_
 rw [← q48_eq]
 exact q48_ok n
noncomputable def x49 (n : Int) : TL := [(22, [(13, (e40 n))]), (59, [(86, (e42 n))]), (82, [(131160, (e48 n))])]
def q49 (n : Int) : Prop :=
 rp ((pk100 n) = (pk100 n)) 7 ((itoaB (pk100 n) = itoaB (pk100 n)) ∧
 rp ((pk100 n) = (pk100 n)) 2 (((SV.kb true : SV) = .kb true)))
set_option maxRecDepth 100000 in
theorem q49_eq (n : Int) : (q49 n) = (runE [] (x49 n) 40 (e49 n)).holds fun y => y.1 = .kb true := by
 kernel_rfl
set_option maxRecDepth 100000 in
theorem q49_ok (n : Int)  : q49 n := by
 obtain ⟨hn0, hn1⟩ : 0 ≤ pk100 n ∧ pk100 n < 100 := picked_bounds n (by decide)
 have hnA : (itoaB (pk100 n)).size ≤ 3 := num_size hn0 (by omega)
 have hnP : 0 < (itoaB (pk100 n)).size := num_pos hn0 (by omega)
 unfold q49
 refine rp_i rfl 7 ?_
 refine ⟨rfl, ?_⟩
 refine rp_i rfl 2 ?_
 rfl
theorem t49 (n : Int)  : TCtr prog 40 (e49 n) := by
 refine tell (tbl := []) (tl := (x49 n)) (tok_cons (te_cons (t40 n) te_nil) (tok_cons (te_cons (t42 n) te_nil) (tok_cons (te_cons (t48 n) te_nil) tok_nil))) (by kernel_rfl) (by kernel_rfl) ?_
 rw [← q49_eq]
 exact q49_ok n
noncomputable def x50 (n : Int) : TL := [(45, [(5, (e27 n))])]
def q50 (n : Int) : Prop :=
 ((SV.kb true : SV) = .kb true)
set_option maxRecDepth 100000 in
theorem q50_eq (n : Int) : (q50 n) = (runE [] (x50 n) 28 (e50 n)).holds fun y => y.1 = .kb true := by
 kernel_rfl
set_option maxRecDepth 100000 in
theorem q50_ok (n : Int)  : q50 n := by
 obtain ⟨hn0, hn1⟩ : 0 ≤ pk100 n ∧ pk100 n < 100 := picked_bounds n (by decide)
 have hnA : (itoaB (pk100 n)).size ≤ 3 := num_size hn0 (by omega)
 have hnP : 0 < (itoaB (pk100 n)).size := num_pos hn0 (by omega)
 unfold q50
 rfl
theorem t50 (n : Int)  : TCtr prog 28 (e50 n) := by
 refine tell (tbl := []) (tl := (x50 n)) (tok_cons (te_cons (t27 n) te_nil) tok_nil) (by kernel_rfl) (by kernel_rfl) ?_
 rw [← q50_eq]
 exact q50_ok n
noncomputable def x51 (n : Int) : TL := [(30, [(14, (e39 n))])]
def q51 (n : Int) : Prop :=
 rp ((pk100 n) = (pk100 n)) 2 (((SV.kb true : SV) = .kb true))
set_option maxRecDepth 100000 in
theorem q51_eq (n : Int) : (q51 n) = (runE [] (x51 n) 29 (e51 n)).holds fun y => y.1 = .kb true := by
 kernel_rfl
set_option maxRecDepth 100000 in
theorem q51_ok (n : Int)  : q51 n := by
 obtain ⟨hn0, hn1⟩ : 0 ≤ pk100 n ∧ pk100 n < 100 := picked_bounds n (by decide)
 have hnA : (itoaB (pk100 n)).size ≤ 3 := num_size hn0 (by omega)
 have hnP : 0 < (itoaB (pk100 n)).size := num_pos hn0 (by omega)
 unfold q51
 refine rp_i rfl 2 ?_
 rfl
theorem t51 (n : Int)  : TCtr prog 29 (e51 n) := by
 refine tell (tbl := []) (tl := (x51 n)) (tok_cons (te_cons (t39 n) te_nil) tok_nil) (by kernel_rfl) (by kernel_rfl) ?_
 rw [← q51_eq]
 exact q51_ok n
end Gv.LUpgradeSame
