/- Told parts of FuelExact. Printed by gvgen.py. -/
import Derived.Test.YtildnaomamnkgaaGreatDoorGvKFuelExact
set_option linter.unusedSimpArgs false
set_option linter.unusedVariables false
set_option maxRecDepth 100000
open Rx Go
namespace Gv.LFuelExact
open Gv Rd
theorem t0 (n : Int) : dQ prog 73 (e0 n) := gu [] aW (by kernel_rfl) (by kernel_rfl) (q := rp ((.mp (.int .i64) .bool [] : Ob) = .mp (.int .i64) .bool []) 1 (qt))
 (oq rfl _ rfl)
 (by kernel_rfl)
theorem t1 (n : Int) : dQ prog 72 (e1 n) := gu [] (tk (f := 73) (tc 1 (t0 n) aO) aW) (by kernel_rfl) (by kernel_rfl) (q := qt)
 rfl
 (by kernel_rfl)
theorem t2 (n : Int) : dQ prog 46 (e2 n) := gu [] aW (by kernel_rfl) (by kernel_rfl) (q := qt)
 rfl
 (by kernel_rfl)
theorem t3 (n : Int) : dQ prog 44 (e3 n) := gu [] (tk (f := 72) (tc 1 (t1 n) aO) (tk (f := 46) (tc 2 (t2 n) aO) aW)) (by kernel_rfl) (by kernel_rfl) (q := qt)
 rfl
 (by kernel_rfl)
theorem t4 (n : Int) : dQ prog 26 (e4 n) := gu [] (tk (f := 44) (tc 2 (t3 n) aO) aW) (by kernel_rfl) (by kernel_rfl) (q := qt)
 rfl
 (by kernel_rfl)
theorem t5 (n : Int) : dQ prog 27 (e5 n) := gu [] (tk (f := 46) (tc 2 (t2 n) aO) aW) (by kernel_rfl) (by kernel_rfl) (q := rp ((D (.arr 4 2 (dxL [(sy s2), (sy s3)])) : SV) = D (.arr 4 2 (dxL [(sy s2), (sy s3)]))) 1 (rp ((D (.arr 4 4 (dxL [(sy s4), (ls [(sy s5), (sy s3), (num 0)]), (num 1), (ls [(sy s2), (ls [(sy s6), (sy s3), (num 1)])])])) : SV) = D (.arr 4 4 (dxL [(sy s4), (ls [(sy s5), (sy s3), (num 0)]), (num 1), (ls [(sy s2), (ls [(sy s6), (sy s3), (num 1)])])]))) 1 (rp ((D (.arr 4 3 (dxL [(sy s5), (sy s3), (num 0)])) : SV) = D (.arr 4 3 (dxL [(sy s5), (sy s3), (num 0)]))) 1 (rp ((D (.arr 4 2 (dxL [(sy s2), (ls [(sy s6), (sy s3), (num 1)])])) : SV) = D (.arr 4 2 (dxL [(sy s2), (ls [(sy s6), (sy s3), (num 1)])]))) 1 (rp ((D (.arr 4 3 (dxL [(sy s6), (sy s3), (num 1)])) : SV) = D (.arr 4 3 (dxL [(sy s6), (sy s3), (num 1)]))) 1 (rp (((dxL []) : Nat -> Nat -> Dt) = (dxL [])) 3 (qt)))))))
 (oq rfl _ (oq rfl _ (oq rfl _ (oq rfl _ (oq rfl _ (oq rfl _ rfl))))))
 (by kernel_rfl)
theorem t6 (n : Int) : dQ prog 46 (e6 n) := gu [] aW (by kernel_rfl) (by kernel_rfl) (q := qt)
 rfl
 (by kernel_rfl)
theorem t7 (n : Int) : dQ prog 72 (e7 n) := gu [] (tk (f := 73) (tc 1 (t0 n) aO) aW) (by kernel_rfl) (by kernel_rfl) (q := qt)
 rfl
 (by kernel_rfl)
theorem t8 (n : Int) : dQ prog 65 (e8 n) := gu [] (tk (f := 72) (tc 43 (t7 n) (tc 112 (t7 n) (tc 138 (t7 n) (tc 172 (t7 n) (tc 192 (t7 n) (tc 235 (t7 n) aO)))))) (tk (f := 73) (tc 43 (t0 n) (tc 112 (t0 n) (tc 138 (t0 n) (tc 172 (t0 n) (tc 192 (t0 n) (tc 235 (t0 n) aO)))))) aW)) (by kernel_rfl) (by kernel_rfl) (q := qt)
 rfl
 (by kernel_rfl)
theorem t9 (n : Int) : dQ prog 44 (e9 n) := gu [] (tk (f := 72) (tc 4 (t1 n) (tc 12 (t1 n) aO)) (tk (f := 46) (tc 8 (t6 n) aO) (tk (f := 65) (tc 9 (t8 n) aO) (tk (f := 73) (tc 12 (t0 n) aO) aW)))) (by kernel_rfl) (by kernel_rfl) (q := qt)
 rfl
 (by kernel_rfl)
theorem t10 (n : Int) : dQ prog 73 (e10 n) := gu [] aW (by kernel_rfl) (by kernel_rfl) (q := rp ((.mp (.int .i64) .bool [((0 : Int), true)] : Ob) = .mp (.int .i64) .bool [((0 : Int), true)]) 1 (qt))
 (oq rfl _ rfl)
 (by kernel_rfl)
theorem t11 (n : Int) : dQ prog 72 (e11 n) := gu [] (tk (f := 73) (tc 2 (t10 n) aO) aW) (by kernel_rfl) (by kernel_rfl) (q := qt)
 rfl
 (by kernel_rfl)
theorem t12 (n : Int) : dQ prog 56 (e12 n) := gu [] (tk (f := 44) (tc 8 (t9 n) aO) (tk (f := 72) (tc 8340 (t1 n) (tc 8408 (t11 n) aO)) aW)) (by kernel_rfl) (by kernel_rfl) (q := qt)
 rfl
 (by kernel_rfl)
theorem t13 (n : Int) : dQ prog 28 (e13 n) := gu [] (tk (f := 44) (tc 10 (t3 n) (tc 405 (t9 n) aO)) (tk (f := 56) (tc 409 (t12 n) aO) aW)) (by kernel_rfl) (by kernel_rfl) (q := qt)
 rfl
 (by kernel_rfl)
theorem t14 (n : Int) : dQ prog 18 (e14 n) := gu [(2, [(ls [(sy s1), (ls [(sy s2), (sy s3)]), (ls [(sy s4), (ls [(sy s5), (sy s3), (num 0)]), (num 1), (ls [(sy s2), (ls [(sy s6), (sy s3), (num 1)])])])])])] (tk (f := 26) (tc 2 (t4 n) aO) (tk (f := 27) (tc 3 (t5 n) aO) (tk (f := 28) (tc 11 (t13 n) aO) aW))) (by kernel_rfl) (by kernel_rfl) (q := (s7.size <= 3000 /\ tO 400 s7 = some (RR.mk (sJ ([ls [sy (ByteArray.mk (#[100, 101, 102, 105, 110, 101])), ls [sy (ByteArray.mk (#[102])), sy (ByteArray.mk (#[110]))], ls [sy (ByteArray.mk (#[105, 102])), ls [sy (ByteArray.mk (#[61])), sy (ByteArray.mk (#[110])), num 0], num 1, ls [sy (ByteArray.mk (#[102])), ls [sy (ByteArray.mk (#[45])), sy (ByteArray.mk (#[110])), num 1]]]]])) 0 0) /\ tX ([ls [sy (ByteArray.mk (#[100, 101, 102, 105, 110, 101])), ls [sy (ByteArray.mk (#[102])), sy (ByteArray.mk (#[110]))], ls [sy (ByteArray.mk (#[105, 102])), ls [sy (ByteArray.mk (#[61])), sy (ByteArray.mk (#[110])), num 0], num 1, ls [sy (ByteArray.mk (#[102])), ls [sy (ByteArray.mk (#[45])), sy (ByteArray.mk (#[110])), num 1]]]]])) /\
 rp (((dxL [(ls [(sy s1), (ls [(sy s2), (sy s3)]), (ls [(sy s4), (ls [(sy s5), (sy s3), (num 0)]), (num 1), (ls [(sy s2), (ls [(sy s6), (sy s3), (num 1)])])])])]) : Nat -> Nat -> Dt) = (dxL [(ls [(sy s1), (ls [(sy s2), (sy s3)]), (ls [(sy s4), (ls [(sy s5), (sy s3), (num 0)]), (num 1), (ls [(sy s2), (ls [(sy s6), (sy s3), (num 1)])])])])])) 1 (rp (((dxL []) : Nat -> Nat -> Dt) = (dxL [])) 3 (qt)))
 (by
 obtain ⟨h0, h1, h2, h3, h4, h5⟩ := fx n
 refine ⟨⟨by decide, by kernel_rfl, by simp [tX, Dx.fits, ls, sy, num, nu]⟩, ?_⟩
 iterate 2 refine oq rfl _ ?_
 rfl
 )
  (by kernel_rfl)
theorem t15 (n : Int) : dQ prog 44 (e15 n) := gu [] (tk (f := 72) (tc 5 (t11 n) (tc 13 (t11 n) aO)) (tk (f := 46) (tc 9 (t6 n) aO) (tk (f := 65) (tc 10 (t8 n) aO) (tk (f := 73) (tc 13 (t10 n) aO) aW)))) (by kernel_rfl) (by kernel_rfl) (q := qt)
 rfl
 (by kernel_rfl)
theorem t16 (n : Int) : dQ prog 26 (e16 n) := gu [] (tk (f := 44) (tc 6 (t15 n) aO) aW) (by kernel_rfl) (by kernel_rfl) (q := qt)
 rfl
 (by kernel_rfl)
theorem t17 (n : Int) : dQ prog 65 (e17 n) := gu [] (tk (f := 72) (tc 40 (t7 n) (tc 73 (t7 n) aO)) (tk (f := 73) (tc 40 (t0 n) (tc 73 (t0 n) aO)) aW)) (by kernel_rfl) (by kernel_rfl) (q := qt)
 rfl
 (by kernel_rfl)
end Gv.LFuelExact
set_option linter.unusedSimpArgs false
set_option linter.unusedVariables false
set_option maxRecDepth 100000
open Rx Go
namespace Gv.LFuelExact
open Gv Rd
theorem t18 (n : Int) : dQ prog 65 (e18 n) := gu [] (tk (f := 72) (tc 43 (t7 n) (tc 112 (t7 n) (tc 138 (t7 n) (tc 172 (t7 n) (tc 192 (t7 n) (tc 235 (t7 n) aO)))))) (tk (f := 73) (tc 43 (t0 n) (tc 112 (t0 n) (tc 138 (t0 n) (tc 172 (t0 n) (tc 192 (t0 n) (tc 235 (t0 n) aO)))))) aW)) (by kernel_rfl) (by kernel_rfl) (q := qt)
 rfl
 (by kernel_rfl)
theorem t19 (n : Int) : dQ prog 44 (e19 n) := gu [] (tk (f := 72) (tc 5 (t11 n) (tc 13 (t11 n) aO)) (tk (f := 46) (tc 9 (t6 n) aO) (tk (f := 65) (tc 10 (t18 n) aO) (tk (f := 73) (tc 13 (t10 n) aO) aW)))) (by kernel_rfl) (by kernel_rfl) (q := qt)
 rfl
 (by kernel_rfl)
theorem t20 (n : Int) : dQ prog 33 (e20 n) := gu [] (tk (f := 44) (tc 7 (t19 n) aO) (tk (f := 72) (tc 9 (t11 n) (tc 18 (t11 n) aO)) (tk (f := 73) (tc 9 (t10 n) (tc 18 (t10 n) aO)) aW))) (by kernel_rfl) (by kernel_rfl) (q := ((fun n => n + (bT 1).size <= 100000) 0) /\
 (Kn ((fun n => n + (bT 1).size) 0) ((fun n f => eY n f (Ch (bT 1))) 0 row0)) /\
 (bT 1 = (ByteArray.mk ((mQ ((fun n => n + (bT 1).size) 0) ((fun n f => eY n f (Ch (bT 1))) 0 row0)).toArray))) /\
 qt)
 (by
 obtain ⟨h0, h1, h2, h3, h4, h5⟩ := fx n
 refine ⟨by simp only [ByteArray.size_append, sH, List.size_toArray, List.length_cons, List.length_nil, List.append_eq, List.length_append]; omega, ?_⟩
 refine ⟨NG (QB Lp (bT 1)) (by simp only [ByteArray.size_append, sH, List.size_toArray, List.length_cons, List.length_nil, List.append_eq, List.length_append]; omega) (by simp only [ByteArray.size_append, sH, List.size_toArray, List.length_cons, List.length_nil, List.append_eq, List.length_append]; omega), ?_⟩
 refine ⟨UF (QB Lp (bT 1)) (by (simp only [Vf, VE, List.append_assoc, List.nil_append]) <;> kernel_rfl), ?_⟩
 rfl
 )
  (by kernel_rfl)
theorem t21 (n : Int) : dQ prog 19 (e21 n) := Ph [] (Mg (KFuelExact.Yj n)) (tk (f := 26) (tc 8 (t16 n) aO) (tk (f := 44) (tc 84 (t15 n) aO) (tk (f := 65) (tc 221 (t17 n) aO) (tk (f := 33) (tc 131153 (t20 n) aO) aW)))) (by kernel_rfl) (by kernel_rfl) (q := rp (en (dR n)) 1 ((3 + 9 * dR n + 5 = 3 + 9 * dR n + 5 /\ 0 <= 3 + 9 * dR n + 5 /\ 3 + 9 * dR n + 5 <= 899) /\
 rp (en (dR n)) 1 ((bT 1 = bT 1) /\
 qt)))
 (by
 obtain ⟨h0, h1, h2, h3, h4, h5⟩ := fx n
 refine oq rfl _ ?_
 refine ⟨by omega, ?_⟩
 refine oq rfl _ ?_
 refine ⟨rfl, ?_⟩
 rfl
 )
  (by kernel_rfl)
theorem t22 (n : Int) : dQ prog 19 (e22 n) := Ph [] (Mg (KFuelExact.Yc n)) (tk (f := 26) (tc 8 (t16 n) aO) (tk (f := 44) (tc 84 (t15 n) aO) (tk (f := 65) (tc 221 (t17 n) aO) aW))) (by kernel_rfl) (by kernel_rfl) (q := rp (en (dR n)) 1 ((3 + 9 * dR n + 5 - 1 = 3 + 9 * dR n + 5 - 1 /\ 0 <= 3 + 9 * dR n + 5 - 1 /\ 3 + 9 * dR n + 5 - 1 <= 899) /\
 rp (en (dR n)) 1 (qt)))
 (by
 obtain ⟨h0, h1, h2, h3, h4, h5⟩ := fx n
 refine oq rfl _ ?_
 refine ⟨by omega, ?_⟩
 refine oq rfl _ ?_
 rfl
 )
  (by kernel_rfl)
end Gv.LFuelExact
set_option linter.unusedSimpArgs false
set_option linter.unusedVariables false
open Rx Go
namespace Gv
open Rd LFuelExact
noncomputable def rV (n : Int) : TL := [(18, [(8, (e14 n)), (33, (e14 n))]), (19, [(16, (e21 n)), (41, (e22 n))])]
def sw (n : Int) : Prop :=
 ((((ByteArray.mk (#[40, 100, 101, 102, 105, 110, 101, 32, 40, 102, 32, 110, 41, 32])).size : Nat) : Int) + (((ByteArray.mk (#[40, 105, 102, 32, 40, 61, 32, 110, 32, 48, 41, 32, 49, 32, 40, 102, 32, 40, 45, 32, 110, 32, 49, 41, 41, 41])).size : Nat) : Int) <= 9223372036854775807) /\
 (((((ByteArray.mk (#[40, 100, 101, 102, 105, 110, 101, 32, 40, 102, 32, 110, 41, 32])) ++ (ByteArray.mk (#[40, 105, 102, 32, 40, 61, 32, 110, 32, 48, 41, 32, 49, 32, 40, 102, 32, 40, 45, 32, 110, 32, 49, 41, 41, 41]))).size : Nat) : Int) + (((ByteArray.mk (#[41])).size : Nat) : Int) <= 9223372036854775807) /\
 rp (en ((3 : Int) + (9 : Int) * dR n + (5 : Int))) 1 (rp (en (dR n)) 1 (((((ByteArray.mk (#[40, 100, 101, 102, 105, 110, 101, 32, 40, 102, 32, 110, 41, 32])).size : Nat) : Int) + (((ByteArray.mk (#[40, 105, 102, 32, 40, 61, 32, 110, 32, 48, 41, 32, 49, 32, 40, 102, 32, 40, 45, 32, 110, 32, 49, 41, 41, 41])).size : Nat) : Int) <= 9223372036854775807) /\
 (((((ByteArray.mk (#[40, 100, 101, 102, 105, 110, 101, 32, 40, 102, 32, 110, 41, 32])) ++ (ByteArray.mk (#[40, 105, 102, 32, 40, 61, 32, 110, 32, 48, 41, 32, 49, 32, 40, 102, 32, 40, 45, 32, 110, 32, 49, 41, 41, 41]))).size : Nat) : Int) + (((ByteArray.mk (#[41])).size : Nat) : Int) <= 9223372036854775807) /\
 rp (en ((3 : Int) + (9 : Int) * dR n + (5 : Int) - (1 : Int))) 1 (rp (en (dR n)) 1 (qt))))
set_option maxRecDepth 100000 in
theorem vQ (n : Int) : (sw n) = (Qy [] (rV n) 3 [any n]).holds fun y => y.1 = .kb true := by
 kernel_rfl
set_option maxRecDepth 100000 in
theorem xY (n : Int) : sw n := by
 obtain ⟨h0, h1, h2, h3, h4, h5⟩ := fx n
 unfold sw
 refine ⟨by simp only [ByteArray.size_append, sH, List.size_toArray, List.length_cons, List.length_nil, List.append_eq, List.length_append]; omega, ?_⟩
 refine ⟨by simp only [ByteArray.size_append, sH, List.size_toArray, List.length_cons, List.length_nil, List.append_eq, List.length_append]; omega, ?_⟩
 iterate 2 refine oq rfl _ ?_
 refine ⟨by simp only [ByteArray.size_append, sH, List.size_toArray, List.length_cons, List.length_nil, List.append_eq, List.length_append]; omega, ?_⟩
 refine ⟨by simp only [ByteArray.size_append, sH, List.size_toArray, List.length_cons, List.length_nil, List.append_eq, List.length_append]; omega, ?_⟩
 iterate 2 refine oq rfl _ ?_
 rfl
theorem Cu (n : Int) : TOk (rV n) := (zU (uK (t14 n) (uK (t14 n) aO)) (zU (uK (t21 n) (uK (t22 n) aO)) aW))
theorem Ca (n : Int) : (Qy [] (rV n) 3 [any n]).holds fun y => y.1 = .kb true := by
 rw [← vQ]
 exact xY n
end Gv
