/- Told parts of UpgradeSame. Printed by gvgen.py. -/
import Derived.Test.YtcmnmceodhambaaGreatDoorGvUUpgradeSame
import Derived.Test.YtcmnmceodhambaaGreatDoorGvPUpgradeSame1
import Derived.Test.YtcmnmceodhambaaGreatDoorGvPUpgradeSame0
set_option linter.unusedSimpArgs false
set_option linter.unusedVariables false
open Rx Go
namespace Gv.LUpgradeSame
open Gv Rd
noncomputable def x28 (n : Int) : TL := [(45, [(5, (e27 n))])]
def q28 (n : Int) : Prop :=
 rp ((D (.arr 4 2 (dxL [(sy s6), (sy s7)])) : SV) = D (.arr 4 2 (dxL [(sy s6), (sy s7)]))) 1 (rp ((D (.arr 4 2 (dxL [(sy s8), (sy s5)])) : SV) = D (.arr 4 2 (dxL [(sy s8), (sy s5)]))) 1 (((SV.kb true : SV) = .kb true)))
set_option maxRecDepth 100000 in
theorem q28_eq (n : Int) : (q28 n) = (runE [] (x28 n) 28 (e28 n)).holds fun y => y.1 = .kb true := by
 kernel_rfl
set_option maxRecDepth 100000 in
theorem q28_ok (n : Int)  : q28 n := by
 obtain ⟨hn0, hn1⟩ : 0 ≤ pk100 n ∧ pk100 n < 100 := picked_bounds n (by decide)
 have hnA : (itoaB (pk100 n)).size ≤ 3 := num_size hn0 (by omega)
 have hnP : 0 < (itoaB (pk100 n)).size := num_pos hn0 (by omega)
 unfold q28
 refine rp_i rfl 1 ?_
 refine rp_i rfl 1 ?_
 rfl
theorem t28 (n : Int)  : TCtr prog 28 (e28 n) := by
 refine tell (tbl := []) (tl := (x28 n)) (tok_cons (te_cons (t27 n) te_nil) tok_nil) (by kernel_rfl) (by kernel_rfl) ?_
 rw [← q28_eq]
 exact q28_ok n
noncomputable def x29 (n : Int) : TL := []
def q29 (n : Int) : Prop :=
 ((SV.kb true : SV) = .kb true)
set_option maxRecDepth 100000 in
theorem q29_eq (n : Int) : (q29 n) = (runE [] (x29 n) 63 (e29 n)).holds fun y => y.1 = .kb true := by
 kernel_rfl
set_option maxRecDepth 100000 in
theorem q29_ok (n : Int)  : q29 n := by
 obtain ⟨hn0, hn1⟩ : 0 ≤ pk100 n ∧ pk100 n < 100 := picked_bounds n (by decide)
 have hnA : (itoaB (pk100 n)).size ≤ 3 := num_size hn0 (by omega)
 have hnP : 0 < (itoaB (pk100 n)).size := num_pos hn0 (by omega)
 unfold q29
 rfl
theorem t29 (n : Int)  : TCtr prog 63 (e29 n) := by
 refine tell (tbl := []) (tl := (x29 n)) tok_nil (by kernel_rfl) (by kernel_rfl) ?_
 rw [← q29_eq]
 exact q29_ok n
noncomputable def x30 (n : Int) : TL := [(60, [(26, (e8 n)), (57, (e8 n))]), (127, [(26, (e0 n)), (57, (e0 n))])]
def q30 (n : Int) : Prop :=
 ((SV.kb true : SV) = .kb true)
set_option maxRecDepth 100000 in
theorem q30_eq (n : Int) : (q30 n) = (runE [] (x30 n) 66 (e30 n)).holds fun y => y.1 = .kb true := by
 kernel_rfl
set_option maxRecDepth 100000 in
theorem q30_ok (n : Int)  : q30 n := by
 obtain ⟨hn0, hn1⟩ : 0 ≤ pk100 n ∧ pk100 n < 100 := picked_bounds n (by decide)
 have hnA : (itoaB (pk100 n)).size ≤ 3 := num_size hn0 (by omega)
 have hnP : 0 < (itoaB (pk100 n)).size := num_pos hn0 (by omega)
 unfold q30
 rfl
theorem t30 (n : Int)  : TCtr prog 66 (e30 n) := by
 refine tell (tbl := []) (tl := (x30 n)) (tok_cons (te_cons (t8 n) (te_cons (t8 n) te_nil)) (tok_cons (te_cons (t0 n) (te_cons (t0 n) te_nil)) tok_nil)) (by kernel_rfl) (by kernel_rfl) ?_
 rw [← q30_eq]
 exact q30_ok n
noncomputable def x31 (n : Int) : TL := []
def q31 (n : Int) : Prop :=
 ((SV.kb true : SV) = .kb true)
set_option maxRecDepth 100000 in
theorem q31_eq (n : Int) : (q31 n) = (runE [] (x31 n) 66 (e31 n)).holds fun y => y.1 = .kb true := by
 kernel_rfl
set_option maxRecDepth 100000 in
theorem q31_ok (n : Int)  : q31 n := by
 obtain ⟨hn0, hn1⟩ : 0 ≤ pk100 n ∧ pk100 n < 100 := picked_bounds n (by decide)
 have hnA : (itoaB (pk100 n)).size ≤ 3 := num_size hn0 (by omega)
 have hnP : 0 < (itoaB (pk100 n)).size := num_pos hn0 (by omega)
 unfold q31
 rfl
theorem t31 (n : Int)  : TCtr prog 66 (e31 n) := by
 refine tell (tbl := []) (tl := (x31 n)) tok_nil (by kernel_rfl) (by kernel_rfl) ?_
 rw [← q31_eq]
 exact q31_ok n
noncomputable def x32 (n : Int) : TL := []
def q32 (n : Int) : Prop :=
 ((SV.kb true : SV) = .kb true)
set_option maxRecDepth 100000 in
theorem q32_eq (n : Int) : (q32 n) = (runE [] (x32 n) 66 (e32 n)).holds fun y => y.1 = .kb true := by
 kernel_rfl
set_option maxRecDepth 100000 in
theorem q32_ok (n : Int)  : q32 n := by
 obtain ⟨hn0, hn1⟩ : 0 ≤ pk100 n ∧ pk100 n < 100 := picked_bounds n (by decide)
 have hnA : (itoaB (pk100 n)).size ≤ 3 := num_size hn0 (by omega)
 have hnP : 0 < (itoaB (pk100 n)).size := num_pos hn0 (by omega)
 unfold q32
 rfl
theorem t32 (n : Int)  : TCtr prog 66 (e32 n) := by
 refine tell (tbl := []) (tl := (x32 n)) tok_nil (by kernel_rfl) (by kernel_rfl) ?_
 rw [← q32_eq]
 exact q32_ok n
noncomputable def x33 (n : Int) : TL := [(60, [(10, (e21 n)), (27, (e21 n)), (32, (e21 n))]), (45, [(20, (e6 n))]), (63, [(21, (e29 n))]), (66, [(22, (e30 n)), (23, (e31 n)), (24, (e32 n))]), (127, [(27, (e20 n)), (32, (e20 n))])]
def q33 (n : Int) : Prop :=
 rp ((pk100 n) = (pk100 n)) 7 (((SV.kb true : SV) = .kb true))
set_option maxRecDepth 100000 in
theorem q33_eq (n : Int) : (q33 n) = (runE [] (x33 n) 30 (e33 n)).holds fun y => y.1 = .kb true := by
 kernel_rfl
set_option maxRecDepth 100000 in
theorem q33_ok (n : Int)  : q33 n := by
 obtain ⟨hn0, hn1⟩ : 0 ≤ pk100 n ∧ pk100 n < 100 := picked_bounds n (by decide)
 have hnA : (itoaB (pk100 n)).size ≤ 3 := num_size hn0 (by omega)
 have hnP : 0 < (itoaB (pk100 n)).size := num_pos hn0 (by omega)
 unfold q33
 refine rp_i rfl 7 ?_
 rfl
theorem t33 (n : Int)  : TCtr prog 30 (e33 n) := by
 refine tell (tbl := []) (tl := (x33 n)) (tok_cons (te_cons (t21 n) (te_cons (t21 n) (te_cons (t21 n) te_nil))) (tok_cons (te_cons (t6 n) te_nil) (tok_cons (te_cons (t29 n) te_nil) (tok_cons (te_cons (t30 n) (te_cons (t31 n) (te_cons (t32 n) te_nil))) (tok_cons (te_cons (t20 n) (te_cons (t20 n) te_nil)) tok_nil))))) (by kernel_rfl) (by kernel_rfl) ?_
 rw [← q33_eq]
 exact q33_ok n
noncomputable def x34 (n : Int) : TL := []
def q34 (n : Int) : Prop :=
 rp ((.mp (.int .i64) .bool [((0 : Int), true), ((2 : Int), true), ((6 : Int), true)] : Ob) = .mp (.int .i64) .bool [((0 : Int), true), ((2 : Int), true), ((6 : Int), true)]) 1 (((SV.kb true : SV) = .kb true))
set_option maxRecDepth 100000 in
theorem q34_eq (n : Int) : (q34 n) = (runE [] (x34 n) 127 (e34 n)).holds fun y => y.1 = .kb true := by
 kernel_rfl
set_option maxRecDepth 100000 in
theorem q34_ok (n : Int)  : q34 n := by
 obtain ⟨hn0, hn1⟩ : 0 ≤ pk100 n ∧ pk100 n < 100 := picked_bounds n (by decide)
 have hnA : (itoaB (pk100 n)).size ≤ 3 := num_size hn0 (by omega)
 have hnP : 0 < (itoaB (pk100 n)).size := num_pos hn0 (by omega)
 unfold q34
 refine rp_i rfl 1 ?_
 rfl
theorem t34 (n : Int)  : TCtr prog 127 (e34 n) := by
 refine tell (tbl := []) (tl := (x34 n)) tok_nil (by kernel_rfl) (by kernel_rfl) ?_
 rw [← q34_eq]
 exact q34_ok n
noncomputable def x35 (n : Int) : TL := [(127, [(2, (e34 n))])]
def q35 (n : Int) : Prop :=
 rp ((pk100 n) = (pk100 n)) 1 (((SV.kb true : SV) = .kb true))
set_option maxRecDepth 100000 in
theorem q35_eq (n : Int) : (q35 n) = (runE [] (x35 n) 60 (e35 n)).holds fun y => y.1 = .kb true := by
 kernel_rfl
set_option maxRecDepth 100000 in
theorem q35_ok (n : Int)  : q35 n := by
 obtain ⟨hn0, hn1⟩ : 0 ≤ pk100 n ∧ pk100 n < 100 := picked_bounds n (by decide)
 have hnA : (itoaB (pk100 n)).size ≤ 3 := num_size hn0 (by omega)
 have hnP : 0 < (itoaB (pk100 n)).size := num_pos hn0 (by omega)
 unfold q35
 refine rp_i rfl 1 ?_
 rfl
theorem t35 (n : Int)  : TCtr prog 60 (e35 n) := by
 refine tell (tbl := []) (tl := (x35 n)) (tok_cons (te_cons (t34 n) te_nil) tok_nil) (by kernel_rfl) (by kernel_rfl) ?_
 rw [← q35_eq]
 exact q35_ok n
noncomputable def x36 (n : Int) : TL := [(30, [(14, (e33 n))]), (60, [(8365, (e21 n)), (8433, (e35 n))])]
def q36 (n : Int) : Prop :=
 rp ((pk100 n) = (pk100 n)) 6 (((SV.kb true : SV) = .kb true))
set_option maxRecDepth 100000 in
theorem q36_eq (n : Int) : (q36 n) = (runE [] (x36 n) 57 (e36 n)).holds fun y => y.1 = .kb true := by
 kernel_rfl
set_option maxRecDepth 100000 in
theorem q36_ok (n : Int)  : q36 n := by
 obtain ⟨hn0, hn1⟩ : 0 ≤ pk100 n ∧ pk100 n < 100 := picked_bounds n (by decide)
 have hnA : (itoaB (pk100 n)).size ≤ 3 := num_size hn0 (by omega)
 have hnP : 0 < (itoaB (pk100 n)).size := num_pos hn0 (by omega)
 unfold q36
 refine rp_i rfl 6 ?_
 rfl
theorem t36 (n : Int)  : TCtr prog 57 (e36 n) := by
 refine tell (tbl := []) (tl := (x36 n)) (tok_cons (te_cons (t33 n) te_nil) (tok_cons (te_cons (t21 n) (te_cons (t35 n) te_nil)) tok_nil)) (by kernel_rfl) (by kernel_rfl) ?_
 rw [← q36_eq]
 exact q36_ok n
end Gv.LUpgradeSame
