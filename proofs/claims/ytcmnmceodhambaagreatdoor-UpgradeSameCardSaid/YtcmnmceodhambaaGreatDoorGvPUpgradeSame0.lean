/- Told parts of UpgradeSame. Printed by gvgen.py. -/
import Derived.Test.YtcmnmceodhambaaGreatDoorGvUUpgradeSame
set_option linter.unusedSimpArgs false
set_option linter.unusedVariables false
open Rx Go
namespace Gv.LUpgradeSame
open Gv Rd
noncomputable def x0 (n : Int) : TL := []
def q0 (n : Int) : Prop :=
 rp ((.mp (.int .i64) .bool [] : Ob) = .mp (.int .i64) .bool []) 1 (((SV.kb true : SV) = .kb true))
set_option maxRecDepth 100000 in
theorem q0_eq (n : Int) : (q0 n) = (runE [] (x0 n) 127 (e0 n)).holds fun y => y.1 = .kb true := by
 kernel_rfl
set_option maxRecDepth 100000 in
theorem q0_ok (n : Int)  : q0 n := by
 obtain ⟨hn0, hn1⟩ : 0 ≤ pk100 n ∧ pk100 n < 100 := picked_bounds n (by decide)
 have hnA : (itoaB (pk100 n)).size ≤ 3 := num_size hn0 (by omega)
 have hnP : 0 < (itoaB (pk100 n)).size := num_pos hn0 (by omega)
 unfold q0
 refine rp_i rfl 1 ?_
 rfl
theorem t0 (n : Int)  : TCtr prog 127 (e0 n) := by
 refine tell (tbl := []) (tl := (x0 n)) tok_nil (by kernel_rfl) (by kernel_rfl) ?_
 rw [← q0_eq]
 exact q0_ok n
noncomputable def x1 (n : Int) : TL := [(127, [(1, (e0 n))])]
def q1 (n : Int) : Prop :=
 ((SV.kb true : SV) = .kb true)
set_option maxRecDepth 100000 in
theorem q1_eq (n : Int) : (q1 n) = (runE [] (x1 n) 60 (e1 n)).holds fun y => y.1 = .kb true := by
 kernel_rfl
set_option maxRecDepth 100000 in
theorem q1_ok (n : Int)  : q1 n := by
 obtain ⟨hn0, hn1⟩ : 0 ≤ pk100 n ∧ pk100 n < 100 := picked_bounds n (by decide)
 have hnA : (itoaB (pk100 n)).size ≤ 3 := num_size hn0 (by omega)
 have hnP : 0 < (itoaB (pk100 n)).size := num_pos hn0 (by omega)
 unfold q1
 rfl
theorem t1 (n : Int)  : TCtr prog 60 (e1 n) := by
 refine tell (tbl := []) (tl := (x1 n)) (tok_cons (te_cons (t0 n) te_nil) tok_nil) (by kernel_rfl) (by kernel_rfl) ?_
 rw [← q1_eq]
 exact q1_ok n
noncomputable def x2 (n : Int) : TL := []
def q2 (n : Int) : Prop :=
 ((SV.kb true : SV) = .kb true)
set_option maxRecDepth 100000 in
theorem q2_eq (n : Int) : (q2 n) = (runE [] (x2 n) 45 (e2 n)).holds fun y => y.1 = .kb true := by
 kernel_rfl
set_option maxRecDepth 100000 in
theorem q2_ok (n : Int)  : q2 n := by
 obtain ⟨hn0, hn1⟩ : 0 ≤ pk100 n ∧ pk100 n < 100 := picked_bounds n (by decide)
 have hnA : (itoaB (pk100 n)).size ≤ 3 := num_size hn0 (by omega)
 have hnP : 0 < (itoaB (pk100 n)).size := num_pos hn0 (by omega)
 unfold q2
 rfl
theorem t2 (n : Int)  : TCtr prog 45 (e2 n) := by
 refine tell (tbl := []) (tl := (x2 n)) tok_nil (by kernel_rfl) (by kernel_rfl) ?_
 rw [← q2_eq]
 exact q2_ok n
noncomputable def x3 (n : Int) : TL := [(60, [(1, (e1 n))]), (45, [(2, (e2 n))])]
def q3 (n : Int) : Prop :=
 ((SV.kb true : SV) = .kb true)
set_option maxRecDepth 100000 in
theorem q3_eq (n : Int) : (q3 n) = (runE [] (x3 n) 30 (e3 n)).holds fun y => y.1 = .kb true := by
 kernel_rfl
set_option maxRecDepth 100000 in
theorem q3_ok (n : Int)  : q3 n := by
 obtain ⟨hn0, hn1⟩ : 0 ≤ pk100 n ∧ pk100 n < 100 := picked_bounds n (by decide)
 have hnA : (itoaB (pk100 n)).size ≤ 3 := num_size hn0 (by omega)
 have hnP : 0 < (itoaB (pk100 n)).size := num_pos hn0 (by omega)
 unfold q3
 rfl
theorem t3 (n : Int)  : TCtr prog 30 (e3 n) := by
 refine tell (tbl := []) (tl := (x3 n)) (tok_cons (te_cons (t1 n) te_nil) (tok_cons (te_cons (t2 n) te_nil) tok_nil)) (by kernel_rfl) (by kernel_rfl) ?_
 rw [← q3_eq]
 exact q3_ok n
noncomputable def x4 (n : Int) : TL := [(30, [(2, (e3 n))])]
def q4 (n : Int) : Prop :=
 ((SV.kb true : SV) = .kb true)
set_option maxRecDepth 100000 in
theorem q4_eq (n : Int) : (q4 n) = (runE [] (x4 n) 22 (e4 n)).holds fun y => y.1 = .kb true := by
 kernel_rfl
set_option maxRecDepth 100000 in
theorem q4_ok (n : Int)  : q4 n := by
 obtain ⟨hn0, hn1⟩ : 0 ≤ pk100 n ∧ pk100 n < 100 := picked_bounds n (by decide)
 have hnA : (itoaB (pk100 n)).size ≤ 3 := num_size hn0 (by omega)
 have hnP : 0 < (itoaB (pk100 n)).size := num_pos hn0 (by omega)
 unfold q4
 rfl
theorem t4 (n : Int)  : TCtr prog 22 (e4 n) := by
 refine tell (tbl := []) (tl := (x4 n)) (tok_cons (te_cons (t3 n) te_nil) tok_nil) (by kernel_rfl) (by kernel_rfl) ?_
 rw [← q4_eq]
 exact q4_ok n
noncomputable def x5 (n : Int) : TL := [(45, [(2, (e2 n))])]
def q5 (n : Int) : Prop :=
 rp ((D (.arr 4 2 (dxL [(sy s6), (sy s7)])) : SV) = D (.arr 4 2 (dxL [(sy s6), (sy s7)]))) 1 (rp ((D (.arr 4 2 (dxL [(sy s2), (nu 0 99 (pk100 n))])) : SV) = D (.arr 4 2 (dxL [(sy s2), (nu 0 99 (pk100 n))]))) 1 (rp (((dxL []) : Nat → Nat → Dt) = (dxL [])) 1 (rp ((pk100 n) = (pk100 n)) 1 (((SV.kb true : SV) = .kb true)))))
set_option maxRecDepth 100000 in
theorem q5_eq (n : Int) : (q5 n) = (runE [] (x5 n) 28 (e5 n)).holds fun y => y.1 = .kb true := by
 kernel_rfl
set_option maxRecDepth 100000 in
theorem q5_ok (n : Int)  : q5 n := by
 obtain ⟨hn0, hn1⟩ : 0 ≤ pk100 n ∧ pk100 n < 100 := picked_bounds n (by decide)
 have hnA : (itoaB (pk100 n)).size ≤ 3 := num_size hn0 (by omega)
 have hnP : 0 < (itoaB (pk100 n)).size := num_pos hn0 (by omega)
 unfold q5
 refine rp_i rfl 1 ?_
 refine rp_i rfl 1 ?_
 refine rp_i rfl 1 ?_
 refine rp_i rfl 1 ?_
 rfl
theorem t5 (n : Int)  : TCtr prog 28 (e5 n) := by
 refine tell (tbl := []) (tl := (x5 n)) (tok_cons (te_cons (t2 n) te_nil) tok_nil) (by kernel_rfl) (by kernel_rfl) ?_
 rw [← q5_eq]
 exact q5_ok n
noncomputable def x6 (n : Int) : TL := []
def q6 (n : Int) : Prop :=
 ((SV.kb true : SV) = .kb true)
set_option maxRecDepth 100000 in
theorem q6_eq (n : Int) : (q6 n) = (runE [] (x6 n) 45 (e6 n)).holds fun y => y.1 = .kb true := by
 kernel_rfl
set_option maxRecDepth 100000 in
theorem q6_ok (n : Int)  : q6 n := by
 obtain ⟨hn0, hn1⟩ : 0 ≤ pk100 n ∧ pk100 n < 100 := picked_bounds n (by decide)
 have hnA : (itoaB (pk100 n)).size ≤ 3 := num_size hn0 (by omega)
 have hnP : 0 < (itoaB (pk100 n)).size := num_pos hn0 (by omega)
 unfold q6
 rfl
theorem t6 (n : Int)  : TCtr prog 45 (e6 n) := by
 refine tell (tbl := []) (tl := (x6 n)) tok_nil (by kernel_rfl) (by kernel_rfl) ?_
 rw [← q6_eq]
 exact q6_ok n
noncomputable def x7 (n : Int) : TL := []
def q7 (n : Int) : Prop :=
 ((SV.kb true : SV) = .kb true)
set_option maxRecDepth 100000 in
theorem q7_eq (n : Int) : (q7 n) = (runE [] (x7 n) 63 (e7 n)).holds fun y => y.1 = .kb true := by
 kernel_rfl
set_option maxRecDepth 100000 in
theorem q7_ok (n : Int)  : q7 n := by
 obtain ⟨hn0, hn1⟩ : 0 ≤ pk100 n ∧ pk100 n < 100 := picked_bounds n (by decide)
 have hnA : (itoaB (pk100 n)).size ≤ 3 := num_size hn0 (by omega)
 have hnP : 0 < (itoaB (pk100 n)).size := num_pos hn0 (by omega)
 unfold q7
 rfl
theorem t7 (n : Int)  : TCtr prog 63 (e7 n) := by
 refine tell (tbl := []) (tl := (x7 n)) tok_nil (by kernel_rfl) (by kernel_rfl) ?_
 rw [← q7_eq]
 exact q7_ok n
noncomputable def x8 (n : Int) : TL := [(127, [(1, (e0 n))])]
def q8 (n : Int) : Prop :=
 ((SV.kb true : SV) = .kb true)
set_option maxRecDepth 100000 in
theorem q8_eq (n : Int) : (q8 n) = (runE [] (x8 n) 60 (e8 n)).holds fun y => y.1 = .kb true := by
 kernel_rfl
set_option maxRecDepth 100000 in
theorem q8_ok (n : Int)  : q8 n := by
 obtain ⟨hn0, hn1⟩ : 0 ≤ pk100 n ∧ pk100 n < 100 := picked_bounds n (by decide)
 have hnA : (itoaB (pk100 n)).size ≤ 3 := num_size hn0 (by omega)
 have hnP : 0 < (itoaB (pk100 n)).size := num_pos hn0 (by omega)
 unfold q8
 rfl
theorem t8 (n : Int)  : TCtr prog 60 (e8 n) := by
 refine tell (tbl := []) (tl := (x8 n)) (tok_cons (te_cons (t0 n) te_nil) tok_nil) (by kernel_rfl) (by kernel_rfl) ?_
 rw [← q8_eq]
 exact q8_ok n
noncomputable def x9 (n : Int) : TL := [(60, [(26, (e8 n)), (57, (e8 n))]), (127, [(26, (e0 n)), (57, (e0 n))])]
def q9 (n : Int) : Prop :=
 ((SV.kb true : SV) = .kb true)
set_option maxRecDepth 100000 in
theorem q9_eq (n : Int) : (q9 n) = (runE [] (x9 n) 66 (e9 n)).holds fun y => y.1 = .kb true := by
 kernel_rfl
set_option maxRecDepth 100000 in
theorem q9_ok (n : Int)  : q9 n := by
 obtain ⟨hn0, hn1⟩ : 0 ≤ pk100 n ∧ pk100 n < 100 := picked_bounds n (by decide)
 have hnA : (itoaB (pk100 n)).size ≤ 3 := num_size hn0 (by omega)
 have hnP : 0 < (itoaB (pk100 n)).size := num_pos hn0 (by omega)
 unfold q9
 rfl
theorem t9 (n : Int)  : TCtr prog 66 (e9 n) := by
 refine tell (tbl := []) (tl := (x9 n)) (tok_cons (te_cons (t8 n) (te_cons (t8 n) te_nil)) (tok_cons (te_cons (t0 n) (te_cons (t0 n) te_nil)) tok_nil)) (by kernel_rfl) (by kernel_rfl) ?_
 rw [← q9_eq]
 exact q9_ok n
noncomputable def x10 (n : Int) : TL := []
def q10 (n : Int) : Prop :=
 ((SV.kb true : SV) = .kb true)
set_option maxRecDepth 100000 in
theorem q10_eq (n : Int) : (q10 n) = (runE [] (x10 n) 66 (e10 n)).holds fun y => y.1 = .kb true := by
 kernel_rfl
set_option maxRecDepth 100000 in
theorem q10_ok (n : Int)  : q10 n := by
 obtain ⟨hn0, hn1⟩ : 0 ≤ pk100 n ∧ pk100 n < 100 := picked_bounds n (by decide)
 have hnA : (itoaB (pk100 n)).size ≤ 3 := num_size hn0 (by omega)
 have hnP : 0 < (itoaB (pk100 n)).size := num_pos hn0 (by omega)
 unfold q10
 rfl
theorem t10 (n : Int)  : TCtr prog 66 (e10 n) := by
 refine tell (tbl := []) (tl := (x10 n)) tok_nil (by kernel_rfl) (by kernel_rfl) ?_
 rw [← q10_eq]
 exact q10_ok n
noncomputable def x11 (n : Int) : TL := [(60, [(8, (e1 n)), (24, (e1 n)), (29, (e1 n))]), (45, [(18, (e6 n))]), (63, [(19, (e7 n))]), (66, [(20, (e9 n)), (21, (e10 n))]), (127, [(24, (e0 n)), (29, (e0 n))])]
def q11 (n : Int) : Prop :=
 rp ((pk100 n) = (pk100 n)) 2 (((SV.kb true : SV) = .kb true))
set_option maxRecDepth 100000 in
theorem q11_eq (n : Int) : (q11 n) = (runE [] (x11 n) 30 (e11 n)).holds fun y => y.1 = .kb true := by
 kernel_rfl
set_option maxRecDepth 100000 in
theorem q11_ok (n : Int)  : q11 n := by
 obtain ⟨hn0, hn1⟩ : 0 ≤ pk100 n ∧ pk100 n < 100 := picked_bounds n (by decide)
 have hnA : (itoaB (pk100 n)).size ≤ 3 := num_size hn0 (by omega)
 have hnP : 0 < (itoaB (pk100 n)).size := num_pos hn0 (by omega)
 unfold q11
 refine rp_i rfl 2 ?_
 rfl
theorem t11 (n : Int)  : TCtr prog 30 (e11 n) := by
 refine tell (tbl := []) (tl := (x11 n)) (tok_cons (te_cons (t1 n) (te_cons (t1 n) (te_cons (t1 n) te_nil))) (tok_cons (te_cons (t6 n) te_nil) (tok_cons (te_cons (t7 n) te_nil) (tok_cons (te_cons (t9 n) (te_cons (t10 n) te_nil)) (tok_cons (te_cons (t0 n) (te_cons (t0 n) te_nil)) tok_nil))))) (by kernel_rfl) (by kernel_rfl) ?_
 rw [← q11_eq]
 exact q11_ok n
noncomputable def x12 (n : Int) : TL := []
def q12 (n : Int) : Prop :=
 rp ((.mp (.int .i64) .bool [((0 : Int), true)] : Ob) = .mp (.int .i64) .bool [((0 : Int), true)]) 1 (((SV.kb true : SV) = .kb true))
set_option maxRecDepth 100000 in
theorem q12_eq (n : Int) : (q12 n) = (runE [] (x12 n) 127 (e12 n)).holds fun y => y.1 = .kb true := by
 kernel_rfl
set_option maxRecDepth 100000 in
theorem q12_ok (n : Int)  : q12 n := by
 obtain ⟨hn0, hn1⟩ : 0 ≤ pk100 n ∧ pk100 n < 100 := picked_bounds n (by decide)
 have hnA : (itoaB (pk100 n)).size ≤ 3 := num_size hn0 (by omega)
 have hnP : 0 < (itoaB (pk100 n)).size := num_pos hn0 (by omega)
 unfold q12
 refine rp_i rfl 1 ?_
 rfl
theorem t12 (n : Int)  : TCtr prog 127 (e12 n) := by
 refine tell (tbl := []) (tl := (x12 n)) tok_nil (by kernel_rfl) (by kernel_rfl) ?_
 rw [← q12_eq]
 exact q12_ok n
noncomputable def x13 (n : Int) : TL := [(127, [(2, (e12 n))])]
def q13 (n : Int) : Prop :=
 ((SV.kb true : SV) = .kb true)
set_option maxRecDepth 100000 in
theorem q13_eq (n : Int) : (q13 n) = (runE [] (x13 n) 60 (e13 n)).holds fun y => y.1 = .kb true := by
 kernel_rfl
set_option maxRecDepth 100000 in
theorem q13_ok (n : Int)  : q13 n := by
 obtain ⟨hn0, hn1⟩ : 0 ≤ pk100 n ∧ pk100 n < 100 := picked_bounds n (by decide)
 have hnA : (itoaB (pk100 n)).size ≤ 3 := num_size hn0 (by omega)
 have hnP : 0 < (itoaB (pk100 n)).size := num_pos hn0 (by omega)
 unfold q13
 rfl
theorem t13 (n : Int)  : TCtr prog 60 (e13 n) := by
 refine tell (tbl := []) (tl := (x13 n)) (tok_cons (te_cons (t12 n) te_nil) tok_nil) (by kernel_rfl) (by kernel_rfl) ?_
 rw [← q13_eq]
 exact q13_ok n
noncomputable def x14 (n : Int) : TL := [(30, [(12, (e11 n))]), (60, [(8358, (e1 n)), (8426, (e13 n))])]
def q14 (n : Int) : Prop :=
 rp ((pk100 n) = (pk100 n)) 2 (((SV.kb true : SV) = .kb true))
set_option maxRecDepth 100000 in
theorem q14_eq (n : Int) : (q14 n) = (runE [] (x14 n) 57 (e14 n)).holds fun y => y.1 = .kb true := by
 kernel_rfl
set_option maxRecDepth 100000 in
theorem q14_ok (n : Int)  : q14 n := by
 obtain ⟨hn0, hn1⟩ : 0 ≤ pk100 n ∧ pk100 n < 100 := picked_bounds n (by decide)
 have hnA : (itoaB (pk100 n)).size ≤ 3 := num_size hn0 (by omega)
 have hnP : 0 < (itoaB (pk100 n)).size := num_pos hn0 (by omega)
 unfold q14
 refine rp_i rfl 2 ?_
 rfl
theorem t14 (n : Int)  : TCtr prog 57 (e14 n) := by
 refine tell (tbl := []) (tl := (x14 n)) (tok_cons (te_cons (t11 n) te_nil) (tok_cons (te_cons (t1 n) (te_cons (t13 n) te_nil)) tok_nil)) (by kernel_rfl) (by kernel_rfl) ?_
 rw [← q14_eq]
 exact q14_ok n
noncomputable def x15 (n : Int) : TL := []
def q15 (n : Int) : Prop :=
 ((SV.kb true : SV) = .kb true)
set_option maxRecDepth 100000 in
theorem q15_eq (n : Int) : (q15 n) = (runE [] (x15 n) 63 (e15 n)).holds fun y => y.1 = .kb true := by
 kernel_rfl
set_option maxRecDepth 100000 in
theorem q15_ok (n : Int)  : q15 n := by
 obtain ⟨hn0, hn1⟩ : 0 ≤ pk100 n ∧ pk100 n < 100 := picked_bounds n (by decide)
 have hnA : (itoaB (pk100 n)).size ≤ 3 := num_size hn0 (by omega)
 have hnP : 0 < (itoaB (pk100 n)).size := num_pos hn0 (by omega)
 unfold q15
 rfl
theorem t15 (n : Int)  : TCtr prog 63 (e15 n) := by
 refine tell (tbl := []) (tl := (x15 n)) tok_nil (by kernel_rfl) (by kernel_rfl) ?_
 rw [← q15_eq]
 exact q15_ok n
noncomputable def x16 (n : Int) : TL := [(60, [(9, (e13 n)), (25, (e13 n)), (30, (e13 n))]), (45, [(19, (e6 n))]), (63, [(20, (e15 n))]), (66, [(21, (e9 n)), (22, (e10 n))]), (127, [(25, (e12 n)), (30, (e12 n))])]
def q16 (n : Int) : Prop :=
 rp ((pk100 n) = (pk100 n)) 2 (((SV.kb true : SV) = .kb true))
set_option maxRecDepth 100000 in
theorem q16_eq (n : Int) : (q16 n) = (runE [] (x16 n) 30 (e16 n)).holds fun y => y.1 = .kb true := by
 kernel_rfl
set_option maxRecDepth 100000 in
theorem q16_ok (n : Int)  : q16 n := by
 obtain ⟨hn0, hn1⟩ : 0 ≤ pk100 n ∧ pk100 n < 100 := picked_bounds n (by decide)
 have hnA : (itoaB (pk100 n)).size ≤ 3 := num_size hn0 (by omega)
 have hnP : 0 < (itoaB (pk100 n)).size := num_pos hn0 (by omega)
 unfold q16
 refine rp_i rfl 2 ?_
 rfl
theorem t16 (n : Int)  : TCtr prog 30 (e16 n) := by
 refine tell (tbl := []) (tl := (x16 n)) (tok_cons (te_cons (t13 n) (te_cons (t13 n) (te_cons (t13 n) te_nil))) (tok_cons (te_cons (t6 n) te_nil) (tok_cons (te_cons (t15 n) te_nil) (tok_cons (te_cons (t9 n) (te_cons (t10 n) te_nil)) (tok_cons (te_cons (t12 n) (te_cons (t12 n) te_nil)) tok_nil))))) (by kernel_rfl) (by kernel_rfl) ?_
 rw [← q16_eq]
 exact q16_ok n
noncomputable def x17 (n : Int) : TL := [(30, [(13, (e16 n))]), (66, [(164, (e9 n))])]
def q17 (n : Int) : Prop :=
 rp ((pk100 n) = (pk100 n)) 4 (((SV.kb true : SV) = .kb true))
set_option maxRecDepth 100000 in
theorem q17_eq (n : Int) : (q17 n) = (runE [] (x17 n) 59 (e17 n)).holds fun y => y.1 = .kb true := by
 kernel_rfl
set_option maxRecDepth 100000 in
theorem q17_ok (n : Int)  : q17 n := by
 obtain ⟨hn0, hn1⟩ : 0 ≤ pk100 n ∧ pk100 n < 100 := picked_bounds n (by decide)
 have hnA : (itoaB (pk100 n)).size ≤ 3 := num_size hn0 (by omega)
 have hnP : 0 < (itoaB (pk100 n)).size := num_pos hn0 (by omega)
 unfold q17
 refine rp_i rfl 4 ?_
 rfl
theorem t17 (n : Int)  : TCtr prog 59 (e17 n) := by
 refine tell (tbl := []) (tl := (x17 n)) (tok_cons (te_cons (t16 n) te_nil) (tok_cons (te_cons (t9 n) te_nil) tok_nil)) (by kernel_rfl) (by kernel_rfl) ?_
 rw [← q17_eq]
 exact q17_ok n
end Gv.LUpgradeSame
