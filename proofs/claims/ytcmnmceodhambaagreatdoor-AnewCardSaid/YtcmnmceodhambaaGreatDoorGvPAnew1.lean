/- Told parts of Anew. Printed by gvgen.py. -/
import Derived.Test.YtcmnmceodhambaaGreatDoorGvUAnew
import Derived.Test.YtcmnmceodhambaaGreatDoorGvPAnew0
set_option linter.unusedSimpArgs false
set_option linter.unusedVariables false
open Rx Go
namespace Gv.LAnew
open Gv Rd
noncomputable def x23 (n m : Int) : TL := [(30, [(12, (e20 n m))]), (60, [(8359, (e18 n m)), (8427, (e22 n m))])]
def q23 (n m : Int) : Prop :=
 rp (en (pk100 n)) 2 (((SV.kb true : SV) = .kb true))
set_option maxRecDepth 100000 in
theorem q23_eq (n m : Int) : (q23 n m) = (runE [] (x23 n m) 57 (e23 n m)).holds fun y => y.1 = .kb true := by
 kernel_rfl
set_option maxRecDepth 100000 in
theorem q23_ok (n m : Int)  : q23 n m := by
 unfold q23
 refine rp_i rfl _ ?_
 rfl
theorem t23 (n m : Int)  : TCtr prog 57 (e23 n m) := by
 refine tell (tbl := []) (tl := (x23 n m)) (tok_cons (te_cons (t20 n m) te_nil) (tok_cons (te_cons (t18 n m) (te_cons (t22 n m) te_nil)) tok_nil)) (by kernel_rfl) (by kernel_rfl) ?_
 rw [← q23_eq]
 exact q23_ok n m
noncomputable def x24 (n m : Int) : TL := [(60, [(8, (e22 n m)), (28, (e22 n m)), (33, (e22 n m)), (38, (e22 n m)), (43, (e22 n m))]), (45, [(21, (e6 n m))]), (66, [(22, (e8 n m)), (23, (e9 n m)), (24, (e10 n m)), (25, (e11 n m))]), (127, [(28, (e21 n m)), (33, (e21 n m)), (38, (e21 n m)), (43, (e21 n m))])]
def q24 (n m : Int) : Prop :=
 rp (en (pk100 n)) 1 (((SV.kb true : SV) = .kb true))
set_option maxRecDepth 100000 in
theorem q24_eq (n m : Int) : (q24 n m) = (runE [] (x24 n m) 30 (e24 n m)).holds fun y => y.1 = .kb true := by
 kernel_rfl
set_option maxRecDepth 100000 in
theorem q24_ok (n m : Int)  : q24 n m := by
 unfold q24
 refine rp_i rfl _ ?_
 rfl
theorem t24 (n m : Int)  : TCtr prog 30 (e24 n m) := by
 refine tell (tbl := []) (tl := (x24 n m)) (tok_cons (te_cons (t22 n m) (te_cons (t22 n m) (te_cons (t22 n m) (te_cons (t22 n m) (te_cons (t22 n m) te_nil))))) (tok_cons (te_cons (t6 n m) te_nil) (tok_cons (te_cons (t8 n m) (te_cons (t9 n m) (te_cons (t10 n m) (te_cons (t11 n m) te_nil)))) (tok_cons (te_cons (t21 n m) (te_cons (t21 n m) (te_cons (t21 n m) (te_cons (t21 n m) te_nil)))) tok_nil)))) (by kernel_rfl) (by kernel_rfl) ?_
 rw [← q24_eq]
 exact q24_ok n m
noncomputable def x25 (n m : Int) : TL := [(30, [(12, (e24 n m))]), (66, [(164, (e10 n m))])]
def q25 (n m : Int) : Prop :=
 rp (en (pk100 n)) 2 (((SV.kb true : SV) = .kb true))
set_option maxRecDepth 100000 in
theorem q25_eq (n m : Int) : (q25 n m) = (runE [] (x25 n m) 59 (e25 n m)).holds fun y => y.1 = .kb true := by
 kernel_rfl
set_option maxRecDepth 100000 in
theorem q25_ok (n m : Int)  : q25 n m := by
 unfold q25
 refine rp_i rfl _ ?_
 rfl
theorem t25 (n m : Int)  : TCtr prog 59 (e25 n m) := by
 refine tell (tbl := []) (tl := (x25 n m)) (tok_cons (te_cons (t24 n m) te_nil) (tok_cons (te_cons (t10 n m) te_nil) tok_nil)) (by kernel_rfl) (by kernel_rfl) ?_
 rw [← q25_eq]
 exact q25_ok n m
end Gv.LAnew
