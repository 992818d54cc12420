/- Told parts of UpgradeSame. Printed by gvgen.py. -/
import Derived.Test.YtcmnmceodhambaaGreatDoorGvUUpgradeSame
import Derived.Test.YtcmnmceodhambaaGreatDoorGvPUpgradeSame3
import Derived.Test.YtcmnmceodhambaaGreatDoorGvPUpgradeSame4
set_option linter.unusedSimpArgs false
set_option linter.unusedVariables false
open Rx Go
namespace Gv.LUpgradeSame
open Gv Rd
noncomputable def x52 (n : Int) : TL := [(22, [(11, (e40 n))]), (28, [(15, (e50 n))]), (29, [(18, (e51 n))])]
def q52 (n : Int) : Prop :=
 (s13.size ≤ 3000 ∧ readS 400 s13 = some (RR.mk (dmsX ([ls [sy (ByteArray.mk (#[114, 101, 99, 111, 114, 100])), sy (ByteArray.mk (#[112])), sy (ByteArray.mk (#[98]))]])) 0 0) ∧ fitsX ([ls [sy (ByteArray.mk (#[114, 101, 99, 111, 114, 100])), sy (ByteArray.mk (#[112])), sy (ByteArray.mk (#[98]))]])) ∧
 rp ((pk100 n) = (pk100 n)) 2 (rp (((dxL [(ls [(sy s1), (sy s2), (sy s9)])]) : Nat → Nat → Dt) = (dxL [(ls [(sy s1), (sy s2), (sy s9)])])) 1 (rp ((pk100 n) = (pk100 n)) 2 (((SV.kb true : SV) = .kb true))))
set_option maxRecDepth 100000 in
theorem q52_eq (n : Int) : (q52 n) = (runE [(11, [(ls [(sy s1), (sy s2), (sy s9)])])] (x52 n) 39 (e52 n)).holds fun y => y.1 = .kb true := by
 kernel_rfl
set_option maxRecDepth 100000 in
theorem q52_ok (n : Int)  : q52 n := by
 obtain ⟨hn0, hn1⟩ : 0 ≤ pk100 n ∧ pk100 n < 100 := picked_bounds n (by decide)
 have hnA : (itoaB (pk100 n)).size ≤ 3 := num_size hn0 (by omega)
 have hnP : 0 < (itoaB (pk100 n)).size := num_pos hn0 (by omega)
 unfold q52
 refine ⟨read_dx (by repeat first | exact gd_nil | apply gd_cons | apply gd_ls | exact gd_sy (by kernel_rfl) | exact gd_num (by omega) (by omega) | exact gd_nu (by omega) (by omega) (by omega) (by omega)) (by simp only [ByteArray.size_append, sz_lit, List.size_toArray, List.length_cons, List.length_nil, s13_z]; omega) (by (simp only [tl_app, tl_lit, List.append_assoc, List.nil_append, s13_t]) <;> kernel_rfl) (by kernel_rfl) (by kernel_rfl) (by kernel_rfl), ?_⟩
 refine rp_i rfl 2 ?_
 refine rp_i rfl 1 ?_
 refine rp_i rfl 2 ?_
 rfl
theorem t52 (n : Int)  : TCtr prog 39 (e52 n) := by
 refine tell (tbl := [(11, [(ls [(sy s1), (sy s2), (sy s9)])])]) (tl := (x52 n)) (tok_cons (te_cons (t40 n) te_nil) (tok_cons (te_cons (t50 n) te_nil) (tok_cons (te_cons (t51 n) te_nil) tok_nil))) (by kernel_rfl) (by kernel_rfl) ?_
 rw [← q52_eq]
 exact q52_ok n
end Gv.LUpgradeSame
