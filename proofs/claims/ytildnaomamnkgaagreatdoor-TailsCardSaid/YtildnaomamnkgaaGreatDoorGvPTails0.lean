/- Told parts of Tails. Printed by gvgen.py. -/
import Derived.Test.YtildnaomamnkgaaGreatDoorGvUTails
set_option linter.unusedSimpArgs false
set_option linter.unusedVariables false
set_option maxRecDepth 100000
open Rx Go
namespace Gv.LTails
open Gv Rd
theorem t0 (n : Int) : bS prog 73 (e0 n) := bZ [] aI (by kernel_rfl) (by kernel_rfl) (q := rp ((.mp (.int .i64) .bool [] : Ob) = .mp (.int .i64) .bool []) 1 (qt))
 (dV rfl _ rfl)
 (by kernel_rfl)
theorem t1 (n : Int) : bS prog 72 (e1 n) := bZ [] (tk (f := 73) (tc 1 (t0 n) aA) aI) (by kernel_rfl) (by kernel_rfl) (q := qt)
 rfl
 (by kernel_rfl)
theorem t2 (n : Int) : bS prog 46 (e2 n) := bZ [] aI (by kernel_rfl) (by kernel_rfl) (q := qt)
 rfl
 (by kernel_rfl)
theorem t3 (n : Int) : bS prog 44 (e3 n) := bZ [] (tk (f := 72) (tc 1 (t1 n) aA) (tk (f := 46) (tc 2 (t2 n) aA) aI)) (by kernel_rfl) (by kernel_rfl) (q := qt)
 rfl
 (by kernel_rfl)
theorem t4 (n : Int) : bS prog 26 (e4 n) := bZ [] (tk (f := 44) (tc 2 (t3 n) aA) aI) (by kernel_rfl) (by kernel_rfl) (q := qt)
 rfl
 (by kernel_rfl)
theorem t5 (n : Int) : bS prog 27 (e5 n) := bZ [] (tk (f := 46) (tc 2 (t2 n) aA) aI) (by kernel_rfl) (by kernel_rfl) (q := rp ((D (.arr 4 2 (dxL [(sy s2), (sy s3)])) : SV) = D (.arr 4 2 (dxL [(sy s2), (sy s3)]))) 1 (rp ((D (.arr 4 4 (dxL [(sy s4), (ls [(sy s5), (sy s3), (num 0)]), (ls [(sy s6), (sy s7)]), (ls [(sy s2), (ls [(sy s8), (sy s3), (num 1)])])])) : SV) = D (.arr 4 4 (dxL [(sy s4), (ls [(sy s5), (sy s3), (num 0)]), (ls [(sy s6), (sy s7)]), (ls [(sy s2), (ls [(sy s8), (sy s3), (num 1)])])]))) 1 (rp ((D (.arr 4 3 (dxL [(sy s5), (sy s3), (num 0)])) : SV) = D (.arr 4 3 (dxL [(sy s5), (sy s3), (num 0)]))) 1 (rp ((D (.arr 4 2 (dxL [(sy s6), (sy s7)])) : SV) = D (.arr 4 2 (dxL [(sy s6), (sy s7)]))) 1 (rp ((D (.arr 4 2 (dxL [(sy s2), (ls [(sy s8), (sy s3), (num 1)])])) : SV) = D (.arr 4 2 (dxL [(sy s2), (ls [(sy s8), (sy s3), (num 1)])]))) 1 (rp ((D (.arr 4 3 (dxL [(sy s8), (sy s3), (num 1)])) : SV) = D (.arr 4 3 (dxL [(sy s8), (sy s3), (num 1)]))) 1 (rp (((dxL []) : Nat -> Nat -> Dt) = (dxL [])) 3 (qt))))))))
 (dV rfl _ (dV rfl _ (dV rfl _ (dV rfl _ (dV rfl _ (dV rfl _ (dV rfl _ rfl)))))))
 (by kernel_rfl)
theorem t6 (n : Int) : bS prog 46 (e6 n) := bZ [] aI (by kernel_rfl) (by kernel_rfl) (q := qt)
 rfl
 (by kernel_rfl)
theorem t7 (n : Int) : bS prog 72 (e7 n) := bZ [] (tk (f := 73) (tc 1 (t0 n) aA) aI) (by kernel_rfl) (by kernel_rfl) (q := qt)
 rfl
 (by kernel_rfl)
theorem t8 (n : Int) : bS prog 65 (e8 n) := bZ [] (tk (f := 72) (tc 43 (t7 n) (tc 112 (t7 n) (tc 138 (t7 n) (tc 172 (t7 n) (tc 192 (t7 n) (tc 235 (t7 n) aA)))))) (tk (f := 73) (tc 43 (t0 n) (tc 112 (t0 n) (tc 138 (t0 n) (tc 172 (t0 n) (tc 192 (t0 n) (tc 235 (t0 n) aA)))))) aI)) (by kernel_rfl) (by kernel_rfl) (q := qt)
 rfl
 (by kernel_rfl)
theorem t9 (n : Int) : bS prog 44 (e9 n) := bZ [] (tk (f := 72) (tc 4 (t1 n) (tc 12 (t1 n) aA)) (tk (f := 46) (tc 8 (t6 n) aA) (tk (f := 65) (tc 9 (t8 n) aA) (tk (f := 73) (tc 12 (t0 n) aA) aI)))) (by kernel_rfl) (by kernel_rfl) (q := qt)
 rfl
 (by kernel_rfl)
theorem t10 (n : Int) : bS prog 73 (e10 n) := bZ [] aI (by kernel_rfl) (by kernel_rfl) (q := rp ((.mp (.int .i64) .bool [((0 : Int), true)] : Ob) = .mp (.int .i64) .bool [((0 : Int), true)]) 1 (qt))
 (dV rfl _ rfl)
 (by kernel_rfl)
theorem t11 (n : Int) : bS prog 72 (e11 n) := bZ [] (tk (f := 73) (tc 2 (t10 n) aA) aI) (by kernel_rfl) (by kernel_rfl) (q := qt)
 rfl
 (by kernel_rfl)
theorem t12 (n : Int) : bS prog 56 (e12 n) := bZ [] (tk (f := 44) (tc 8 (t9 n) aA) (tk (f := 72) (tc 8340 (t1 n) (tc 8408 (t11 n) aA)) aI)) (by kernel_rfl) (by kernel_rfl) (q := qt)
 rfl
 (by kernel_rfl)
theorem t13 (n : Int) : bS prog 28 (e13 n) := bZ [] (tk (f := 44) (tc 10 (t3 n) (tc 405 (t9 n) aA)) (tk (f := 56) (tc 409 (t12 n) aA) aI)) (by kernel_rfl) (by kernel_rfl) (q := qt)
 rfl
 (by kernel_rfl)
theorem t14 (n : Int) : bS prog 18 (e14 n) := bZ [(2, [(ls [(sy s1), (ls [(sy s2), (sy s3)]), (ls [(sy s4), (ls [(sy s5), (sy s3), (num 0)]), (ls [(sy s6), (sy s7)]), (ls [(sy s2), (ls [(sy s8), (sy s3), (num 1)])])])])])] (tk (f := 26) (tc 2 (t4 n) aA) (tk (f := 27) (tc 3 (t5 n) aA) (tk (f := 28) (tc 11 (t13 n) aA) aI))) (by kernel_rfl) (by kernel_rfl) (q := (s10.size <= 3000 /\ rT 400 s10 = some (RR.mk (rO ([ls [sy (ByteArray.mk (#[100, 101, 102, 105, 110, 101])), ls [sy (ByteArray.mk (#[102])), sy (ByteArray.mk (#[110]))], ls [sy (ByteArray.mk (#[105, 102])), ls [sy (ByteArray.mk (#[61])), sy (ByteArray.mk (#[110])), num 0], ls [sy (ByteArray.mk (#[113, 117, 111, 116, 101])), sy (ByteArray.mk (#[100, 111, 110, 101]))], ls [sy (ByteArray.mk (#[102])), ls [sy (ByteArray.mk (#[45])), sy (ByteArray.mk (#[110])), num 1]]]]])) 0 0) /\ qH ([ls [sy (ByteArray.mk (#[100, 101, 102, 105, 110, 101])), ls [sy (ByteArray.mk (#[102])), sy (ByteArray.mk (#[110]))], ls [sy (ByteArray.mk (#[105, 102])), ls [sy (ByteArray.mk (#[61])), sy (ByteArray.mk (#[110])), num 0], ls [sy (ByteArray.mk (#[113, 117, 111, 116, 101])), sy (ByteArray.mk (#[100, 111, 110, 101]))], ls [sy (ByteArray.mk (#[102])), ls [sy (ByteArray.mk (#[45])), sy (ByteArray.mk (#[110])), num 1]]]]])) /\
 rp (((dxL [(ls [(sy s1), (ls [(sy s2), (sy s3)]), (ls [(sy s4), (ls [(sy s5), (sy s3), (num 0)]), (ls [(sy s6), (sy s7)]), (ls [(sy s2), (ls [(sy s8), (sy s3), (num 1)])])])])]) : Nat -> Nat -> Dt) = (dxL [(ls [(sy s1), (ls [(sy s2), (sy s3)]), (ls [(sy s4), (ls [(sy s5), (sy s3), (num 0)]), (ls [(sy s6), (sy s7)]), (ls [(sy s2), (ls [(sy s8), (sy s3), (num 1)])])])])])) 1 (rp (((dxL []) : Nat -> Nat -> Dt) = (dxL [])) 3 (qt)))
 (by
 obtain ⟨h0, h1, h2, h3⟩ := fx n
 refine ⟨⟨by decide, by kernel_rfl, by simp [qH, Dx.fits, ls, sy, num, nu]⟩, ?_⟩
 iterate 2 refine dV rfl _ ?_
 rfl
 )
  (by kernel_rfl)
theorem t15 (n : Int) : bS prog 44 (e15 n) := bZ [] (tk (f := 72) (tc 5 (t11 n) (tc 13 (t11 n) aA)) (tk (f := 46) (tc 9 (t6 n) aA) (tk (f := 65) (tc 10 (t8 n) aA) (tk (f := 73) (tc 13 (t10 n) aA) aI)))) (by kernel_rfl) (by kernel_rfl) (q := qt)
 rfl
 (by kernel_rfl)
theorem t16 (n : Int) : bS prog 26 (e16 n) := bZ [] (tk (f := 44) (tc 6 (t15 n) aA) aI) (by kernel_rfl) (by kernel_rfl) (q := qt)
 rfl
 (by kernel_rfl)
end Gv.LTails
set_option linter.unusedSimpArgs false
set_option linter.unusedVariables false
set_option maxRecDepth 100000
open Rx Go
namespace Gv.LTails
open Gv Rd
theorem t17 (n : Int) : bS prog 65 (e17 n) := bZ [] (tk (f := 72) (tc 40 (t7 n) (tc 73 (t7 n) aA)) (tk (f := 73) (tc 40 (t0 n) (tc 73 (t0 n) aA)) aI)) (by kernel_rfl) (by kernel_rfl) (q := qt)
 rfl
 (by kernel_rfl)
theorem t18 (n : Int) : bS prog 65 (e18 n) := bZ [] (tk (f := 72) (tc 43 (t7 n) (tc 112 (t7 n) (tc 138 (t7 n) (tc 172 (t7 n) (tc 192 (t7 n) (tc 235 (t7 n) aA)))))) (tk (f := 73) (tc 43 (t0 n) (tc 112 (t0 n) (tc 138 (t0 n) (tc 172 (t0 n) (tc 192 (t0 n) (tc 235 (t0 n) aA)))))) aI)) (by kernel_rfl) (by kernel_rfl) (q := qt)
 rfl
 (by kernel_rfl)
theorem t19 (n : Int) : bS prog 44 (e19 n) := bZ [] (tk (f := 72) (tc 5 (t11 n) (tc 13 (t11 n) aA)) (tk (f := 46) (tc 9 (t6 n) aA) (tk (f := 65) (tc 10 (t18 n) aA) (tk (f := 73) (tc 13 (t10 n) aA) aI)))) (by kernel_rfl) (by kernel_rfl) (q := qt)
 rfl
 (by kernel_rfl)
theorem t20 (n : Int) : bS prog 33 (e20 n) := bZ [] (tk (f := 44) (tc 7 (t19 n) aA) (tk (f := 72) (tc 9 (t11 n) (tc 18 (t11 n) aA)) (tk (f := 73) (tc 9 (t10 n) (tc 18 (t10 n) aA)) aI))) (by kernel_rfl) (by kernel_rfl) (q := ((fun n => n + s7.size <= 100000) 0) /\
 (GI ((fun n => n + s7.size) 0) ((fun n f => dZ n f (x9 s7)) 0 row0)) /\
 (s7 = (ByteArray.mk ((mG ((fun n => n + s7.size) 0) ((fun n f => dZ n f (x9 s7)) 0 row0)).toArray))) /\
 qt)
 (by
 obtain ⟨h0, h1, h2, h3⟩ := fx n
 refine ⟨by simp only [ByteArray.size_append, iA, List.size_toArray, List.length_cons, List.length_nil, List.append_eq, List.length_append, WG]; omega, ?_⟩
 refine ⟨C9 (Fh yu s7) (by simp only [ByteArray.size_append, iA, List.size_toArray, List.length_cons, List.length_nil, List.append_eq, List.length_append, WG]; omega) (by simp only [ByteArray.size_append, iA, List.size_toArray, List.length_cons, List.length_nil, List.append_eq, List.length_append, WG]; omega), ?_⟩
 refine ⟨O1 (Fh yu s7) (by (simp only [Bc, zP, List.append_assoc, List.nil_append, Wm]) <;> kernel_rfl), ?_⟩
 rfl
 )
  (by kernel_rfl)
theorem t21 (n : Int) (hm : aR n < 100) : bS prog 19 (e21 n) := Gr [] (yK (KTails.TA n)) (tk (f := 26) (tc 8 (t16 n) aA) (tk (f := 44) (tc 84 (t15 n) aA) (tk (f := 65) (tc 221 (t17 n) aA) (tk (f := 33) (tc 131153 (t20 n) aA) aI)))) (by kernel_rfl) (by kernel_rfl) (q := rp (en (aR n)) 1 (((20000 : Int) = (20000 : Int) /\ (0 : Int) <= (20000 : Int) /\ (20000 : Int) <= (20000 : Int)) /\
 rp (en (aR n)) 1 ((s7 = s7) /\
 qt)))
 (by
 obtain ⟨h0, h1, h2, h3⟩ := fx n
 refine dV rfl _ ?_
 refine ⟨by omega, ?_⟩
 refine dV rfl _ ?_
 refine ⟨rfl, ?_⟩
 rfl
 )
  (by kernel_rfl)
theorem t22 (n : Int) : bS prog 27 (e22 n) := bZ [] (tk (f := 46) (tc 2 (t2 n) aA) aI) (by kernel_rfl) (by kernel_rfl) (q := rp ((D (.arr 4 2 (dxL [(sy s2), (sy s3)])) : SV) = D (.arr 4 2 (dxL [(sy s2), (sy s3)]))) 1 (rp ((D (.arr 4 4 (dxL [(sy s4), (ls [(sy s5), (sy s3), (num 0)]), (num 0), (ls [(sy s9), (num 1), (ls [(sy s2), (ls [(sy s8), (sy s3), (num 1)])])])])) : SV) = D (.arr 4 4 (dxL [(sy s4), (ls [(sy s5), (sy s3), (num 0)]), (num 0), (ls [(sy s9), (num 1), (ls [(sy s2), (ls [(sy s8), (sy s3), (num 1)])])])]))) 1 (rp ((D (.arr 4 3 (dxL [(sy s5), (sy s3), (num 0)])) : SV) = D (.arr 4 3 (dxL [(sy s5), (sy s3), (num 0)]))) 1 (rp ((D (.arr 4 3 (dxL [(sy s9), (num 1), (ls [(sy s2), (ls [(sy s8), (sy s3), (num 1)])])])) : SV) = D (.arr 4 3 (dxL [(sy s9), (num 1), (ls [(sy s2), (ls [(sy s8), (sy s3), (num 1)])])]))) 1 (rp ((D (.arr 4 2 (dxL [(sy s2), (ls [(sy s8), (sy s3), (num 1)])])) : SV) = D (.arr 4 2 (dxL [(sy s2), (ls [(sy s8), (sy s3), (num 1)])]))) 1 (rp ((D (.arr 4 3 (dxL [(sy s8), (sy s3), (num 1)])) : SV) = D (.arr 4 3 (dxL [(sy s8), (sy s3), (num 1)]))) 1 (rp (((dxL []) : Nat -> Nat -> Dt) = (dxL [])) 4 (qt))))))))
 (dV rfl _ (dV rfl _ (dV rfl _ (dV rfl _ (dV rfl _ (dV rfl _ (dV rfl _ rfl)))))))
 (by kernel_rfl)
end Gv.LTails
