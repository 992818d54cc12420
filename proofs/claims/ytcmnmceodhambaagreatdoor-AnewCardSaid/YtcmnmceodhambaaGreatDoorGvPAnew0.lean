/- Told parts of Anew. Printed by gvgen.py. -/
import Derived.Test.YtcmnmceodhambaaGreatDoorGvUAnew
set_option linter.unusedSimpArgs false
set_option linter.unusedVariables false
open Rx Go
namespace Gv.LAnew
open Gv Rd
noncomputable def x0 (n m : Int) : TL := []
def q0 (n m : Int) : Prop :=
 rp ((.mp (.int .i64) .bool [] : Ob) = .mp (.int .i64) .bool []) 1 (((SV.kb true : SV) = .kb true))
set_option maxRecDepth 100000 in
theorem q0_eq (n m : Int) : (q0 n m) = (runE [] (x0 n m) 127 (e0 n m)).holds fun y => y.1 = .kb true := by
 kernel_rfl
set_option maxRecDepth 100000 in
theorem q0_ok (n m : Int)  : q0 n m := by
 unfold q0
 refine rp_i rfl _ ?_
 rfl
theorem t0 (n m : Int)  : TCtr prog 127 (e0 n m) := by
 refine tell (tbl := []) (tl := (x0 n m)) tok_nil (by kernel_rfl) (by kernel_rfl) ?_
 rw [← q0_eq]
 exact q0_ok n m
noncomputable def x1 (n m : Int) : TL := [(127, [(1, (e0 n m))])]
def q1 (n m : Int) : Prop :=
 ((SV.kb true : SV) = .kb true)
set_option maxRecDepth 100000 in
theorem q1_eq (n m : Int) : (q1 n m) = (runE [] (x1 n m) 60 (e1 n m)).holds fun y => y.1 = .kb true := by
 kernel_rfl
set_option maxRecDepth 100000 in
theorem q1_ok (n m : Int)  : q1 n m := by
 unfold q1
 rfl
theorem t1 (n m : Int)  : TCtr prog 60 (e1 n m) := by
 refine tell (tbl := []) (tl := (x1 n m)) (tok_cons (te_cons (t0 n m) te_nil) tok_nil) (by kernel_rfl) (by kernel_rfl) ?_
 rw [← q1_eq]
 exact q1_ok n m
noncomputable def x2 (n m : Int) : TL := []
def q2 (n m : Int) : Prop :=
 ((SV.kb true : SV) = .kb true)
set_option maxRecDepth 100000 in
theorem q2_eq (n m : Int) : (q2 n m) = (runE [] (x2 n m) 45 (e2 n m)).holds fun y => y.1 = .kb true := by
 kernel_rfl
set_option maxRecDepth 100000 in
theorem q2_ok (n m : Int)  : q2 n m := by
 unfold q2
 rfl
theorem t2 (n m : Int)  : TCtr prog 45 (e2 n m) := by
 refine tell (tbl := []) (tl := (x2 n m)) tok_nil (by kernel_rfl) (by kernel_rfl) ?_
 rw [← q2_eq]
 exact q2_ok n m
noncomputable def x3 (n m : Int) : TL := [(60, [(1, (e1 n m))]), (45, [(2, (e2 n m))])]
def q3 (n m : Int) : Prop :=
 ((SV.kb true : SV) = .kb true)
set_option maxRecDepth 100000 in
theorem q3_eq (n m : Int) : (q3 n m) = (runE [] (x3 n m) 30 (e3 n m)).holds fun y => y.1 = .kb true := by
 kernel_rfl
set_option maxRecDepth 100000 in
theorem q3_ok (n m : Int)  : q3 n m := by
 unfold q3
 rfl
theorem t3 (n m : Int)  : TCtr prog 30 (e3 n m) := by
 refine tell (tbl := []) (tl := (x3 n m)) (tok_cons (te_cons (t1 n m) te_nil) (tok_cons (te_cons (t2 n m) te_nil) tok_nil)) (by kernel_rfl) (by kernel_rfl) ?_
 rw [← q3_eq]
 exact q3_ok n m
noncomputable def x4 (n m : Int) : TL := [(30, [(2, (e3 n m))])]
def q4 (n m : Int) : Prop :=
 ((SV.kb true : SV) = .kb true)
set_option maxRecDepth 100000 in
theorem q4_eq (n m : Int) : (q4 n m) = (runE [] (x4 n m) 22 (e4 n m)).holds fun y => y.1 = .kb true := by
 kernel_rfl
set_option maxRecDepth 100000 in
theorem q4_ok (n m : Int)  : q4 n m := by
 unfold q4
 rfl
theorem t4 (n m : Int)  : TCtr prog 22 (e4 n m) := by
 refine tell (tbl := []) (tl := (x4 n m)) (tok_cons (te_cons (t3 n m) te_nil) tok_nil) (by kernel_rfl) (by kernel_rfl) ?_
 rw [← q4_eq]
 exact q4_ok n m
noncomputable def x5 (n m : Int) : TL := [(45, [(2, (e2 n m))])]
def q5 (n m : Int) : Prop :=
 rp ((D (.arr 4 2 (dxL [(sy s2), (sy s3)])) : SV) = D (.arr 4 2 (dxL [(sy s2), (sy s3)]))) 1 (rp ((D (.arr 4 2 (dxL [(sy s4), (sy s3)])) : SV) = D (.arr 4 2 (dxL [(sy s4), (sy s3)]))) 1 (rp ((D (.arr 4 2 (dxL [(sy s6), (sy s3)])) : SV) = D (.arr 4 2 (dxL [(sy s6), (sy s3)]))) 1 (rp ((D (.arr 4 2 (dxL [(sy s2), (sy s3)])) : SV) = D (.arr 4 2 (dxL [(sy s2), (sy s3)]))) 1 (rp ((D (.arr 4 2 (dxL [(sy s5), (sy s3)])) : SV) = D (.arr 4 2 (dxL [(sy s5), (sy s3)]))) 1 (rp (((dxL []) : Nat → Nat → Dt) = (dxL [])) 1 (rp (en (pk100 n)) 1 (((SV.kb true : SV) = .kb true))))))))
set_option maxRecDepth 100000 in
theorem q5_eq (n m : Int) : (q5 n m) = (runE [] (x5 n m) 28 (e5 n m)).holds fun y => y.1 = .kb true := by
 kernel_rfl
set_option maxRecDepth 100000 in
theorem q5_ok (n m : Int)  : q5 n m := by
 unfold q5
 iterate 7 refine rp_i rfl _ ?_
 rfl
theorem t5 (n m : Int)  : TCtr prog 28 (e5 n m) := by
 refine tell (tbl := []) (tl := (x5 n m)) (tok_cons (te_cons (t2 n m) te_nil) tok_nil) (by kernel_rfl) (by kernel_rfl) ?_
 rw [← q5_eq]
 exact q5_ok n m
noncomputable def x6 (n m : Int) : TL := []
def q6 (n m : Int) : Prop :=
 ((SV.kb true : SV) = .kb true)
set_option maxRecDepth 100000 in
theorem q6_eq (n m : Int) : (q6 n m) = (runE [] (x6 n m) 45 (e6 n m)).holds fun y => y.1 = .kb true := by
 kernel_rfl
set_option maxRecDepth 100000 in
theorem q6_ok (n m : Int)  : q6 n m := by
 unfold q6
 rfl
theorem t6 (n m : Int)  : TCtr prog 45 (e6 n m) := by
 refine tell (tbl := []) (tl := (x6 n m)) tok_nil (by kernel_rfl) (by kernel_rfl) ?_
 rw [← q6_eq]
 exact q6_ok n m
noncomputable def x7 (n m : Int) : TL := [(127, [(1, (e0 n m))])]
def q7 (n m : Int) : Prop :=
 ((SV.kb true : SV) = .kb true)
set_option maxRecDepth 100000 in
theorem q7_eq (n m : Int) : (q7 n m) = (runE [] (x7 n m) 60 (e7 n m)).holds fun y => y.1 = .kb true := by
 kernel_rfl
set_option maxRecDepth 100000 in
theorem q7_ok (n m : Int)  : q7 n m := by
 unfold q7
 rfl
theorem t7 (n m : Int)  : TCtr prog 60 (e7 n m) := by
 refine tell (tbl := []) (tl := (x7 n m)) (tok_cons (te_cons (t0 n m) te_nil) tok_nil) (by kernel_rfl) (by kernel_rfl) ?_
 rw [← q7_eq]
 exact q7_ok n m
noncomputable def x8 (n m : Int) : TL := [(60, [(19, (e7 n m)), (37, (e7 n m))]), (127, [(19, (e0 n m)), (37, (e0 n m))])]
def q8 (n m : Int) : Prop :=
 ((SV.kb true : SV) = .kb true)
set_option maxRecDepth 100000 in
theorem q8_eq (n m : Int) : (q8 n m) = (runE [] (x8 n m) 66 (e8 n m)).holds fun y => y.1 = .kb true := by
 kernel_rfl
set_option maxRecDepth 100000 in
theorem q8_ok (n m : Int)  : q8 n m := by
 unfold q8
 rfl
theorem t8 (n m : Int)  : TCtr prog 66 (e8 n m) := by
 refine tell (tbl := []) (tl := (x8 n m)) (tok_cons (te_cons (t7 n m) (te_cons (t7 n m) te_nil)) (tok_cons (te_cons (t0 n m) (te_cons (t0 n m) te_nil)) tok_nil)) (by kernel_rfl) (by kernel_rfl) ?_
 rw [← q8_eq]
 exact q8_ok n m
noncomputable def x9 (n m : Int) : TL := []
def q9 (n m : Int) : Prop :=
 ((SV.kb true : SV) = .kb true)
set_option maxRecDepth 100000 in
theorem q9_eq (n m : Int) : (q9 n m) = (runE [] (x9 n m) 66 (e9 n m)).holds fun y => y.1 = .kb true := by
 kernel_rfl
set_option maxRecDepth 100000 in
theorem q9_ok (n m : Int)  : q9 n m := by
 unfold q9
 rfl
theorem t9 (n m : Int)  : TCtr prog 66 (e9 n m) := by
 refine tell (tbl := []) (tl := (x9 n m)) tok_nil (by kernel_rfl) (by kernel_rfl) ?_
 rw [← q9_eq]
 exact q9_ok n m
noncomputable def x10 (n m : Int) : TL := []
def q10 (n m : Int) : Prop :=
 ((SV.kb true : SV) = .kb true)
set_option maxRecDepth 100000 in
theorem q10_eq (n m : Int) : (q10 n m) = (runE [] (x10 n m) 66 (e10 n m)).holds fun y => y.1 = .kb true := by
 kernel_rfl
set_option maxRecDepth 100000 in
theorem q10_ok (n m : Int)  : q10 n m := by
 unfold q10
 rfl
theorem t10 (n m : Int)  : TCtr prog 66 (e10 n m) := by
 refine tell (tbl := []) (tl := (x10 n m)) tok_nil (by kernel_rfl) (by kernel_rfl) ?_
 rw [← q10_eq]
 exact q10_ok n m
noncomputable def x11 (n m : Int) : TL := []
def q11 (n m : Int) : Prop :=
 ((SV.kb true : SV) = .kb true)
set_option maxRecDepth 100000 in
theorem q11_eq (n m : Int) : (q11 n m) = (runE [] (x11 n m) 66 (e11 n m)).holds fun y => y.1 = .kb true := by
 kernel_rfl
set_option maxRecDepth 100000 in
theorem q11_ok (n m : Int)  : q11 n m := by
 unfold q11
 rfl
theorem t11 (n m : Int)  : TCtr prog 66 (e11 n m) := by
 refine tell (tbl := []) (tl := (x11 n m)) tok_nil (by kernel_rfl) (by kernel_rfl) ?_
 rw [← q11_eq]
 exact q11_ok n m
noncomputable def x12 (n m : Int) : TL := [(60, [(7, (e1 n m)), (27, (e1 n m)), (32, (e1 n m)), (37, (e1 n m)), (42, (e1 n m))]), (45, [(20, (e6 n m))]), (66, [(21, (e8 n m)), (22, (e9 n m)), (23, (e10 n m)), (24, (e11 n m))]), (127, [(27, (e0 n m)), (32, (e0 n m)), (37, (e0 n m)), (42, (e0 n m))])]
def q12 (n m : Int) : Prop :=
 rp (en (pk100 n)) 1 (((SV.kb true : SV) = .kb true))
set_option maxRecDepth 100000 in
theorem q12_eq (n m : Int) : (q12 n m) = (runE [] (x12 n m) 30 (e12 n m)).holds fun y => y.1 = .kb true := by
 kernel_rfl
set_option maxRecDepth 100000 in
theorem q12_ok (n m : Int)  : q12 n m := by
 unfold q12
 refine rp_i rfl _ ?_
 rfl
theorem t12 (n m : Int)  : TCtr prog 30 (e12 n m) := by
 refine tell (tbl := []) (tl := (x12 n m)) (tok_cons (te_cons (t1 n m) (te_cons (t1 n m) (te_cons (t1 n m) (te_cons (t1 n m) (te_cons (t1 n m) te_nil))))) (tok_cons (te_cons (t6 n m) te_nil) (tok_cons (te_cons (t8 n m) (te_cons (t9 n m) (te_cons (t10 n m) (te_cons (t11 n m) te_nil)))) (tok_cons (te_cons (t0 n m) (te_cons (t0 n m) (te_cons (t0 n m) (te_cons (t0 n m) te_nil)))) tok_nil)))) (by kernel_rfl) (by kernel_rfl) ?_
 rw [← q12_eq]
 exact q12_ok n m
noncomputable def x13 (n m : Int) : TL := []
def q13 (n m : Int) : Prop :=
 rp ((.mp (.int .i64) .bool [((0 : Int), true)] : Ob) = .mp (.int .i64) .bool [((0 : Int), true)]) 1 (((SV.kb true : SV) = .kb true))
set_option maxRecDepth 100000 in
theorem q13_eq (n m : Int) : (q13 n m) = (runE [] (x13 n m) 127 (e13 n m)).holds fun y => y.1 = .kb true := by
 kernel_rfl
set_option maxRecDepth 100000 in
theorem q13_ok (n m : Int)  : q13 n m := by
 unfold q13
 refine rp_i rfl _ ?_
 rfl
theorem t13 (n m : Int)  : TCtr prog 127 (e13 n m) := by
 refine tell (tbl := []) (tl := (x13 n m)) tok_nil (by kernel_rfl) (by kernel_rfl) ?_
 rw [← q13_eq]
 exact q13_ok n m
noncomputable def x14 (n m : Int) : TL := [(127, [(2, (e13 n m))])]
def q14 (n m : Int) : Prop :=
 ((SV.kb true : SV) = .kb true)
set_option maxRecDepth 100000 in
theorem q14_eq (n m : Int) : (q14 n m) = (runE [] (x14 n m) 60 (e14 n m)).holds fun y => y.1 = .kb true := by
 kernel_rfl
set_option maxRecDepth 100000 in
theorem q14_ok (n m : Int)  : q14 n m := by
 unfold q14
 rfl
theorem t14 (n m : Int)  : TCtr prog 60 (e14 n m) := by
 refine tell (tbl := []) (tl := (x14 n m)) (tok_cons (te_cons (t13 n m) te_nil) tok_nil) (by kernel_rfl) (by kernel_rfl) ?_
 rw [← q14_eq]
 exact q14_ok n m
noncomputable def x15 (n m : Int) : TL := [(30, [(11, (e12 n m))]), (60, [(8358, (e1 n m)), (8426, (e14 n m))])]
def q15 (n m : Int) : Prop :=
 rp (en (pk100 n)) 2 (((SV.kb true : SV) = .kb true))
set_option maxRecDepth 100000 in
theorem q15_eq (n m : Int) : (q15 n m) = (runE [] (x15 n m) 57 (e15 n m)).holds fun y => y.1 = .kb true := by
 kernel_rfl
set_option maxRecDepth 100000 in
theorem q15_ok (n m : Int)  : q15 n m := by
 unfold q15
 refine rp_i rfl _ ?_
 rfl
theorem t15 (n m : Int)  : TCtr prog 57 (e15 n m) := by
 refine tell (tbl := []) (tl := (x15 n m)) (tok_cons (te_cons (t12 n m) te_nil) (tok_cons (te_cons (t1 n m) (te_cons (t14 n m) te_nil)) tok_nil)) (by kernel_rfl) (by kernel_rfl) ?_
 rw [← q15_eq]
 exact q15_ok n m
noncomputable def x16 (n m : Int) : TL := [(60, [(8, (e14 n m)), (28, (e14 n m)), (33, (e14 n m)), (38, (e14 n m)), (43, (e14 n m))]), (45, [(21, (e6 n m))]), (66, [(22, (e8 n m)), (23, (e9 n m)), (24, (e10 n m)), (25, (e11 n m))]), (127, [(28, (e13 n m)), (33, (e13 n m)), (38, (e13 n m)), (43, (e13 n m))])]
def q16 (n m : Int) : Prop :=
 rp (en (pk100 n)) 1 (((SV.kb true : SV) = .kb true))
set_option maxRecDepth 100000 in
theorem q16_eq (n m : Int) : (q16 n m) = (runE [] (x16 n m) 30 (e16 n m)).holds fun y => y.1 = .kb true := by
 kernel_rfl
set_option maxRecDepth 100000 in
theorem q16_ok (n m : Int)  : q16 n m := by
 unfold q16
 refine rp_i rfl _ ?_
 rfl
theorem t16 (n m : Int)  : TCtr prog 30 (e16 n m) := by
 refine tell (tbl := []) (tl := (x16 n m)) (tok_cons (te_cons (t14 n m) (te_cons (t14 n m) (te_cons (t14 n m) (te_cons (t14 n m) (te_cons (t14 n m) te_nil))))) (tok_cons (te_cons (t6 n m) te_nil) (tok_cons (te_cons (t8 n m) (te_cons (t9 n m) (te_cons (t10 n m) (te_cons (t11 n m) te_nil)))) (tok_cons (te_cons (t13 n m) (te_cons (t13 n m) (te_cons (t13 n m) (te_cons (t13 n m) te_nil)))) tok_nil)))) (by kernel_rfl) (by kernel_rfl) ?_
 rw [← q16_eq]
 exact q16_ok n m
noncomputable def x17 (n m : Int) : TL := []
def q17 (n m : Int) : Prop :=
 rp ((.mp (.int .i64) .bool [((0 : Int), true), ((2 : Int), true)] : Ob) = .mp (.int .i64) .bool [((0 : Int), true), ((2 : Int), true)]) 1 (((SV.kb true : SV) = .kb true))
set_option maxRecDepth 100000 in
theorem q17_eq (n m : Int) : (q17 n m) = (runE [] (x17 n m) 127 (e17 n m)).holds fun y => y.1 = .kb true := by
 kernel_rfl
set_option maxRecDepth 100000 in
theorem q17_ok (n m : Int)  : q17 n m := by
 unfold q17
 refine rp_i rfl _ ?_
 rfl
theorem t17 (n m : Int)  : TCtr prog 127 (e17 n m) := by
 refine tell (tbl := []) (tl := (x17 n m)) tok_nil (by kernel_rfl) (by kernel_rfl) ?_
 rw [← q17_eq]
 exact q17_ok n m
noncomputable def x18 (n m : Int) : TL := [(127, [(2, (e17 n m))])]
def q18 (n m : Int) : Prop :=
 ((SV.kb true : SV) = .kb true)
set_option maxRecDepth 100000 in
theorem q18_eq (n m : Int) : (q18 n m) = (runE [] (x18 n m) 60 (e18 n m)).holds fun y => y.1 = .kb true := by
 kernel_rfl
set_option maxRecDepth 100000 in
theorem q18_ok (n m : Int)  : q18 n m := by
 unfold q18
 rfl
theorem t18 (n m : Int)  : TCtr prog 60 (e18 n m) := by
 refine tell (tbl := []) (tl := (x18 n m)) (tok_cons (te_cons (t17 n m) te_nil) tok_nil) (by kernel_rfl) (by kernel_rfl) ?_
 rw [← q18_eq]
 exact q18_ok n m
noncomputable def x19 (n m : Int) : TL := [(30, [(12, (e16 n m))]), (60, [(8359, (e14 n m)), (8427, (e18 n m))])]
def q19 (n m : Int) : Prop :=
 rp (en (pk100 n)) 2 (((SV.kb true : SV) = .kb true))
set_option maxRecDepth 100000 in
theorem q19_eq (n m : Int) : (q19 n m) = (runE [] (x19 n m) 57 (e19 n m)).holds fun y => y.1 = .kb true := by
 kernel_rfl
set_option maxRecDepth 100000 in
theorem q19_ok (n m : Int)  : q19 n m := by
 unfold q19
 refine rp_i rfl _ ?_
 rfl
theorem t19 (n m : Int)  : TCtr prog 57 (e19 n m) := by
 refine tell (tbl := []) (tl := (x19 n m)) (tok_cons (te_cons (t16 n m) te_nil) (tok_cons (te_cons (t14 n m) (te_cons (t18 n m) te_nil)) tok_nil)) (by kernel_rfl) (by kernel_rfl) ?_
 rw [← q19_eq]
 exact q19_ok n m
noncomputable def x20 (n m : Int) : TL := [(60, [(8, (e18 n m)), (28, (e18 n m)), (33, (e18 n m)), (38, (e18 n m)), (43, (e18 n m))]), (45, [(21, (e6 n m))]), (66, [(22, (e8 n m)), (23, (e9 n m)), (24, (e10 n m)), (25, (e11 n m))]), (127, [(28, (e17 n m)), (33, (e17 n m)), (38, (e17 n m)), (43, (e17 n m))])]
def q20 (n m : Int) : Prop :=
 rp (en (pk100 n)) 1 (((SV.kb true : SV) = .kb true))
set_option maxRecDepth 100000 in
theorem q20_eq (n m : Int) : (q20 n m) = (runE [] (x20 n m) 30 (e20 n m)).holds fun y => y.1 = .kb true := by
 kernel_rfl
set_option maxRecDepth 100000 in
theorem q20_ok (n m : Int)  : q20 n m := by
 unfold q20
 refine rp_i rfl _ ?_
 rfl
theorem t20 (n m : Int)  : TCtr prog 30 (e20 n m) := by
 refine tell (tbl := []) (tl := (x20 n m)) (tok_cons (te_cons (t18 n m) (te_cons (t18 n m) (te_cons (t18 n m) (te_cons (t18 n m) (te_cons (t18 n m) te_nil))))) (tok_cons (te_cons (t6 n m) te_nil) (tok_cons (te_cons (t8 n m) (te_cons (t9 n m) (te_cons (t10 n m) (te_cons (t11 n m) te_nil)))) (tok_cons (te_cons (t17 n m) (te_cons (t17 n m) (te_cons (t17 n m) (te_cons (t17 n m) te_nil)))) tok_nil)))) (by kernel_rfl) (by kernel_rfl) ?_
 rw [← q20_eq]
 exact q20_ok n m
noncomputable def x21 (n m : Int) : TL := []
def q21 (n m : Int) : Prop :=
 rp ((.mp (.int .i64) .bool [((0 : Int), true), ((2 : Int), true), ((4 : Int), true)] : Ob) = .mp (.int .i64) .bool [((0 : Int), true), ((2 : Int), true), ((4 : Int), true)]) 1 (((SV.kb true : SV) = .kb true))
set_option maxRecDepth 100000 in
theorem q21_eq (n m : Int) : (q21 n m) = (runE [] (x21 n m) 127 (e21 n m)).holds fun y => y.1 = .kb true := by
 kernel_rfl
set_option maxRecDepth 100000 in
theorem q21_ok (n m : Int)  : q21 n m := by
 unfold q21
 refine rp_i rfl _ ?_
 rfl
theorem t21 (n m : Int)  : TCtr prog 127 (e21 n m) := by
 refine tell (tbl := []) (tl := (x21 n m)) tok_nil (by kernel_rfl) (by kernel_rfl) ?_
 rw [← q21_eq]
 exact q21_ok n m
noncomputable def x22 (n m : Int) : TL := [(127, [(2, (e21 n m))])]
def q22 (n m : Int) : Prop :=
 ((SV.kb true : SV) = .kb true)
set_option maxRecDepth 100000 in
theorem q22_eq (n m : Int) : (q22 n m) = (runE [] (x22 n m) 60 (e22 n m)).holds fun y => y.1 = .kb true := by
 kernel_rfl
set_option maxRecDepth 100000 in
theorem q22_ok (n m : Int)  : q22 n m := by
 unfold q22
 rfl
theorem t22 (n m : Int)  : TCtr prog 60 (e22 n m) := by
 refine tell (tbl := []) (tl := (x22 n m)) (tok_cons (te_cons (t21 n m) te_nil) tok_nil) (by kernel_rfl) (by kernel_rfl) ?_
 rw [← q22_eq]
 exact q22_ok n m
end Gv.LAnew
