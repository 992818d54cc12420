/- Told parts of ValuesOnce. Printed by gvgen.py. -/
import Derived.Test.YtcmnmceodhambaaGreatDoorGvUValuesOnce
import Derived.Test.YtcmnmceodhambaaGreatDoorGvPValuesOnce0
import Derived.Test.YtcmnmceodhambaaGreatDoorGvPValuesOnce1
set_option linter.unusedSimpArgs false
set_option linter.unusedVariables false
set_option maxRecDepth 100000
open Rx Go
namespace Gv.LValuesOnce
open Gv Rd
theorem t28 (n : Int) : TCtr prog 29 (e28 n) := tellQ [] (tk (f := 30) (tc 12 (t3 n) (tc 566 (t12 n) te_nil)) (tk (f := 57) (tc 572 (t15 n) (tc 588 (t19 n) te_nil)) (tk (f := 59) (tc 604 (t21 n) (tc 131682 (t27 n) te_nil)) tok_nil))) (by kernel_rfl) (by kernel_rfl) (q := rp (en (pk100 n)) 4 (rp (en (pk100 n + (1 : Int))) 2 (rp (en (pk100 n)) 2 (rp (en (pk100 n + (1 : Int) + (1 : Int))) 1 (rp (en (pk100 n + (1 : Int))) 1 (rp (en (pk100 n + (1 : Int) + (1 : Int))) 1 (rp (en (pk100 n)) 1 (qt))))))))
 (rp_i rfl _ (rp_i rfl _ (rp_i rfl _ (rp_i rfl _ (rp_i rfl _ (rp_i rfl _ (rp_i rfl _ rfl)))))))
 (by kernel_rfl)
theorem t29 (n : Int) : TCtr prog 39 (e29 n) := tellQ [(2, [(ls [(sy s1), (sy s2), (ls [(sy s3), (nu 0 99 (pk100 n))])]), (ls [(sy s1), (sy s4), (ls [(sy s3), (sy s2)])]), (ls [(sy s1), (ls [(sy s3), (sy s5)]), (ls [(sy s6), (sy s5), (num 1)])]), (ls [(sy s1), (ls [(sy s7), (sy s5)]), (ls [(sy s8), (sy s2), (sy s4)])])])] (tk (f := 22) (tc 2 (t4 n) te_nil) (tk (f := 28) (tc 3 (t5 n) te_nil) (tk (f := 29) (tc 13 (t28 n) te_nil) tok_nil))) (by kernel_rfl) (by kernel_rfl) (q := ((s11 ++ itoaB (pk100 n) ++ s12).size ≤ 3000 ∧ readS 400 (s11 ++ itoaB (pk100 n) ++ s12) = some (RR.mk (dmsX ([ls [sy (ByteArray.mk (#[100, 101, 102, 105, 110, 101])), sy (ByteArray.mk (#[120])), ls [sy (ByteArray.mk (#[102])), nu 0 99 (pk100 n)]], ls [sy (ByteArray.mk (#[100, 101, 102, 105, 110, 101])), sy (ByteArray.mk (#[121])), ls [sy (ByteArray.mk (#[102])), sy (ByteArray.mk (#[120]))]], ls [sy (ByteArray.mk (#[100, 101, 102, 105, 110, 101])), ls [sy (ByteArray.mk (#[102])), sy (ByteArray.mk (#[110]))], ls [sy (ByteArray.mk (#[43])), sy (ByteArray.mk (#[110])), num 1]], ls [sy (ByteArray.mk (#[100, 101, 102, 105, 110, 101])), ls [sy (ByteArray.mk (#[115, 104, 111, 119])), sy (ByteArray.mk (#[110]))], ls [sy (ByteArray.mk (#[99, 111, 110, 115])), sy (ByteArray.mk (#[120])), sy (ByteArray.mk (#[121]))]]])) 0 0) ∧ fitsX ([ls [sy (ByteArray.mk (#[100, 101, 102, 105, 110, 101])), sy (ByteArray.mk (#[120])), ls [sy (ByteArray.mk (#[102])), nu 0 99 (pk100 n)]], ls [sy (ByteArray.mk (#[100, 101, 102, 105, 110, 101])), sy (ByteArray.mk (#[121])), ls [sy (ByteArray.mk (#[102])), sy (ByteArray.mk (#[120]))]], ls [sy (ByteArray.mk (#[100, 101, 102, 105, 110, 101])), ls [sy (ByteArray.mk (#[102])), sy (ByteArray.mk (#[110]))], ls [sy (ByteArray.mk (#[43])), sy (ByteArray.mk (#[110])), num 1]], ls [sy (ByteArray.mk (#[100, 101, 102, 105, 110, 101])), ls [sy (ByteArray.mk (#[115, 104, 111, 119])), sy (ByteArray.mk (#[110]))], ls [sy (ByteArray.mk (#[99, 111, 110, 115])), sy (ByteArray.mk (#[120])), sy (ByteArray.mk (#[121]))]]])) ∧
 rp (((dxL [(ls [(sy s1), (sy s2), (ls [(sy s3), (nu 0 99 (pk100 n))])]), (ls [(sy s1), (sy s4), (ls [(sy s3), (sy s2)])]), (ls [(sy s1), (ls [(sy s3), (sy s5)]), (ls [(sy s6), (sy s5), (num 1)])]), (ls [(sy s1), (ls [(sy s7), (sy s5)]), (ls [(sy s8), (sy s2), (sy s4)])])]) : Nat → Nat → Dt) = (dxL [(ls [(sy s1), (sy s2), (ls [(sy s3), (nu 0 99 (pk100 n))])]), (ls [(sy s1), (sy s4), (ls [(sy s3), (sy s2)])]), (ls [(sy s1), (ls [(sy s3), (sy s5)]), (ls [(sy s6), (sy s5), (num 1)])]), (ls [(sy s1), (ls [(sy s7), (sy s5)]), (ls [(sy s8), (sy s2), (sy s4)])])])) 1 (rp (en (pk100 n)) 1 (rp (((dxL []) : Nat → Nat → Dt) = (dxL [])) 2 (rp (en (pk100 n + (1 : Int))) 1 (rp (en (pk100 n + (1 : Int) + (1 : Int))) 1 (rp (en (pk100 n)) 1 (qt)))))))
 (by
 obtain ⟨h0, h1, h2, h3, h4, h5, h6, h7, h8, h9, h10, h11, h12, h13⟩ := fx n
 refine ⟨read_dx (by repeat first | exact gd_nil | apply gd_cons | apply gd_ls | exact gd_sy (by kernel_rfl) | exact gd_num (by omega) (by omega) | exact gd_nu (by omega) (by omega) (by omega) (by omega)) (by simp only [ByteArray.size_append, sz_lit, List.size_toArray, List.length_cons, List.length_nil, List.append_eq, List.length_append, s11_z, s12_z]; omega) (by (simp only [tl_app, tl_lit, List.append_assoc, List.nil_append, s11_t, s12_t]) <;> kernel_rfl) (by kernel_rfl) (by kernel_rfl) (by kernel_rfl), ?_⟩
 iterate 6 refine rp_i rfl _ ?_
 rfl
 )
  (by kernel_rfl)
end Gv.LValuesOnce
