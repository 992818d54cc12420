/- Told parts of UpgradeCycle. Printed by gvgen.py. -/
import Derived.Test.YtcmnmceodhambaaGreatDoorGvUUpgradeCycle
import Derived.Test.YtcmnmceodhambaaGreatDoorGvPUpgradeCycle0
set_option linter.unusedSimpArgs false
set_option linter.unusedVariables false
set_option maxRecDepth 100000
open Rx Go
namespace Gv.LUpgradeCycle
open Gv Rd
theorem t34 (n : Int) : aH prog 39 (e34 n) := aA [(2, [(ls [(sy s1), (sy s2), (sy s3), (sy s4)]), (ls [(sy s5), (sy s6), (ls [(sy s2), (nu 0 99 (av n)), (num 0)])]), (ls [(sy s5), (sy s7), (ls [(sy s2), (num 1), (sy s6)])]), (ls [(sy s5), (ls [(sy s8), (sy s9)]), (ls [(sy s10), (ls [(sy s11), (sy s6), (sy s7)]), (num 0)])]), (ls [(sy s5), (ls [(sy s12), (sy s9)]), (ls [(sy s13), (sy s6), (ls [(sy s14), (ls [(sy s14), (sy s6)])])])])])] au (tk (f := 22) (tc 2 (t4 n) aj) (tk (f := 28) (tc 3 (t5 n) aj) (tk (f := 29) (tc 21 (t33 n) aj) ak))) (by kernel_rfl) (by kernel_rfl) (q := ((s20 ++ aP (av n) ++ s21).size <= 3000 /\ oz 400 (s20 ++ aP (av n) ++ s21) = some (RR.mk (pF ([ls [sy (ByteArray.mk (#[114, 101, 99, 111, 114, 100])), sy (ByteArray.mk (#[112])), sy (ByteArray.mk (#[97])), sy (ByteArray.mk (#[98]))], ls [sy (ByteArray.mk (#[100, 101, 102, 105, 110, 101])), sy (ByteArray.mk (#[120])), ls [sy (ByteArray.mk (#[112])), nu 0 99 (av n), num 0]], ls [sy (ByteArray.mk (#[100, 101, 102, 105, 110, 101])), sy (ByteArray.mk (#[121])), ls [sy (ByteArray.mk (#[112])), num 1, sy (ByteArray.mk (#[120]))]], ls [sy (ByteArray.mk (#[100, 101, 102, 105, 110, 101])), ls [sy (ByteArray.mk (#[116, 105, 101])), sy (ByteArray.mk (#[110]))], ls [sy (ByteArray.mk (#[98, 101, 103, 105, 110])), ls [sy (ByteArray.mk (#[112, 45, 98, 33])), sy (ByteArray.mk (#[120])), sy (ByteArray.mk (#[121]))], num 0]], ls [sy (ByteArray.mk (#[100, 101, 102, 105, 110, 101])), ls [sy (ByteArray.mk (#[97, 115, 107])), sy (ByteArray.mk (#[110]))], ls [sy (ByteArray.mk (#[101, 113, 63])), sy (ByteArray.mk (#[120])), ls [sy (ByteArray.mk (#[112, 45, 98])), ls [sy (ByteArray.mk (#[112, 45, 98])), sy (ByteArray.mk (#[120]))]]]]])) 0 0) /\ nL ([ls [sy (ByteArray.mk (#[114, 101, 99, 111, 114, 100])), sy (ByteArray.mk (#[112])), sy (ByteArray.mk (#[97])), sy (ByteArray.mk (#[98]))], ls [sy (ByteArray.mk (#[100, 101, 102, 105, 110, 101])), sy (ByteArray.mk (#[120])), ls [sy (ByteArray.mk (#[112])), nu 0 99 (av n), num 0]], ls [sy (ByteArray.mk (#[100, 101, 102, 105, 110, 101])), sy (ByteArray.mk (#[121])), ls [sy (ByteArray.mk (#[112])), num 1, sy (ByteArray.mk (#[120]))]], ls [sy (ByteArray.mk (#[100, 101, 102, 105, 110, 101])), ls [sy (ByteArray.mk (#[116, 105, 101])), sy (ByteArray.mk (#[110]))], ls [sy (ByteArray.mk (#[98, 101, 103, 105, 110])), ls [sy (ByteArray.mk (#[112, 45, 98, 33])), sy (ByteArray.mk (#[120])), sy (ByteArray.mk (#[121]))], num 0]], ls [sy (ByteArray.mk (#[100, 101, 102, 105, 110, 101])), ls [sy (ByteArray.mk (#[97, 115, 107])), sy (ByteArray.mk (#[110]))], ls [sy (ByteArray.mk (#[101, 113, 63])), sy (ByteArray.mk (#[120])), ls [sy (ByteArray.mk (#[112, 45, 98])), ls [sy (ByteArray.mk (#[112, 45, 98])), sy (ByteArray.mk (#[120]))]]]]])) /\
 rp (((dxL [(ls [(sy s1), (sy s2), (sy s3), (sy s4)]), (ls [(sy s5), (sy s6), (ls [(sy s2), (nu 0 99 (av n)), (num 0)])]), (ls [(sy s5), (sy s7), (ls [(sy s2), (num 1), (sy s6)])]), (ls [(sy s5), (ls [(sy s8), (sy s9)]), (ls [(sy s10), (ls [(sy s11), (sy s6), (sy s7)]), (num 0)])]), (ls [(sy s5), (ls [(sy s12), (sy s9)]), (ls [(sy s13), (sy s6), (ls [(sy s14), (ls [(sy s14), (sy s6)])])])])]) : Nat -> Nat -> Dt) = (dxL [(ls [(sy s1), (sy s2), (sy s3), (sy s4)]), (ls [(sy s5), (sy s6), (ls [(sy s2), (nu 0 99 (av n)), (num 0)])]), (ls [(sy s5), (sy s7), (ls [(sy s2), (num 1), (sy s6)])]), (ls [(sy s5), (ls [(sy s8), (sy s9)]), (ls [(sy s10), (ls [(sy s11), (sy s6), (sy s7)]), (num 0)])]), (ls [(sy s5), (ls [(sy s12), (sy s9)]), (ls [(sy s13), (sy s6), (ls [(sy s14), (ls [(sy s14), (sy s6)])])])])])) 1 (rp (((dxL []) : Nat -> Nat -> Dt) = (dxL [])) 3 (rp (en (av n)) 1 (rp (((dxL []) : Nat -> Nat -> Dt) = (dxL [])) 1 (rp (en (av n)) 2 (qt))))))
 (by
 obtain ⟨h0, h1, h2, h3, h4, h5, h6, h7⟩ := fx n
 refine ⟨R4 (by repeat first | exact Ut | apply Rz | apply WT | exact V3 (by kernel_rfl) | exact TU (by omega) (by omega) | exact Ww (by omega) (by omega) (by omega) (by omega)) (by simp only [ByteArray.size_append, jh, List.size_toArray, List.length_cons, List.length_nil, List.append_eq, List.length_append, V6, VN]; omega) (by (simp only [vZ, vF, List.append_assoc, List.nil_append, VO, Vx]) <;> kernel_rfl) (by kernel_rfl) (by kernel_rfl) (by kernel_rfl), ?_⟩
 iterate 5 refine aM rfl _ ?_
 rfl
 )
  (by kernel_rfl)
theorem t35 (n : Int) : aH prog 127 (e35 n) := aA [] au ak (by kernel_rfl) (by kernel_rfl) (q := rp ((.mp (.int .i64) .bool [((0 : Int), true), ((2 : Int), true), ((4 : Int), true), ((9 : Int), true)] : Ob) = .mp (.int .i64) .bool [((0 : Int), true), ((2 : Int), true), ((4 : Int), true), ((9 : Int), true)]) 1 (qt))
 (aM rfl _ rfl)
 (by kernel_rfl)
theorem t36 (n : Int) : aH prog 60 (e36 n) := aA [] au (tk (f := 127) (tc 2 (t35 n) aj) ak) (by kernel_rfl) (by kernel_rfl) (q := rp (en (av n)) 1 (qt))
 (aM rfl _ rfl)
 (by kernel_rfl)
theorem t37 (n : Int) : aH prog 63 (e37 n) := aA [] au ak (by kernel_rfl) (by kernel_rfl) (q := qt)
 rfl
 (by kernel_rfl)
theorem t38 (n : Int) : aH prog 30 (e38 n) := aA [] au (tk (f := 60) (tc 12 (t36 n) (tc 36 (t36 n) (tc 41 (t36 n) (tc 46 (t36 n) (tc 51 (t36 n) aj))))) (tk (f := 45) (tc 28 (t6 n) aj) (tk (f := 63) (tc 29 (t37 n) aj) (tk (f := 66) (tc 30 (t27 n) (tc 31 (t28 n) (tc 32 (t29 n) (tc 33 (t30 n) aj)))) (tk (f := 127) (tc 36 (t35 n) (tc 41 (t35 n) (tc 46 (t35 n) (tc 51 (t35 n) aj)))) ak))))) (by kernel_rfl) (by kernel_rfl) (q := rp (en (av n)) 11 (qt))
 (aM rfl _ rfl)
 (by kernel_rfl)
theorem t39 (n : Int) : aH prog 22 (e39 n) := aA [] au (tk (f := 30) (tc 13 (t38 n) aj) ak) (by kernel_rfl) (by kernel_rfl) (q := rp (en (av n)) 2 (qt))
 (aM rfl _ rfl)
 (by kernel_rfl)
theorem t40 (n : Int) : aH prog 66 (e40 n) := aA [] au (tk (f := 60) (tc 43 (t8 n) (tc 78 (t8 n) aj)) (tk (f := 127) (tc 43 (t0 n) (tc 78 (t0 n) aj)) ak)) (by kernel_rfl) (by kernel_rfl) (q := qt)
 rfl
 (by kernel_rfl)
theorem t41 (n : Int) : aH prog 59 (e41 n) := aA [] au (tk (f := 30) (tc 17 (t38 n) aj) (tk (f := 66) (tc 178 (t40 n) aj) ak)) (by kernel_rfl) (by kernel_rfl) (q := rp (en (av n)) 4 (qt))
 (aM rfl _ rfl)
 (by kernel_rfl)
theorem t42 (n : Int) : aH prog 127 (e42 n) := aA [] au ak (by kernel_rfl) (by kernel_rfl) (q := rp ((.mp (.int .i64) .bool [((0 : Int), true), ((2 : Int), true), ((4 : Int), true), ((9 : Int), true)] : Ob) = .mp (.int .i64) .bool [((0 : Int), true), ((2 : Int), true), ((4 : Int), true), ((9 : Int), true)]) 1 (qt))
 (aM rfl _ rfl)
 (by kernel_rfl)
theorem t43 (n : Int) : aH prog 60 (e43 n) := aA [] au (tk (f := 127) (tc 2 (t42 n) aj) ak) (by kernel_rfl) (by kernel_rfl) (q := rp (en (av n)) 1 (qt))
 (aM rfl _ rfl)
 (by kernel_rfl)
theorem t44 (n : Int) : aH prog 63 (e44 n) := aA [] au ak (by kernel_rfl) (by kernel_rfl) (q := qt)
 rfl
 (by kernel_rfl)
theorem t45 (n : Int) : aH prog 30 (e45 n) := aA [] au (tk (f := 60) (tc 12 (t43 n) (tc 36 (t43 n) (tc 41 (t43 n) (tc 46 (t43 n) (tc 51 (t43 n) aj))))) (tk (f := 45) (tc 28 (t6 n) aj) (tk (f := 63) (tc 29 (t44 n) aj) (tk (f := 66) (tc 30 (t27 n) (tc 31 (t28 n) (tc 32 (t29 n) (tc 33 (t30 n) aj)))) (tk (f := 127) (tc 36 (t42 n) (tc 41 (t42 n) (tc 46 (t42 n) (tc 51 (t42 n) aj)))) ak))))) (by kernel_rfl) (by kernel_rfl) (q := rp (en (av n)) 11 (qt))
 (aM rfl _ rfl)
 (by kernel_rfl)
theorem t46 (n : Int) : aH prog 82 (e46 n) := aA [] au (tk (f := 30) (tc 14 (t45 n) aj) (tk (f := 60) (tc 16 (t43 n) (tc 25 (t43 n) aj)) (tk (f := 127) (tc 16 (t42 n) (tc 25 (t42 n) aj)) ak))) (by kernel_rfl) (by kernel_rfl) (q := rp (en (av n)) 6 (((fun n => n + (aP 0).size <= 100000) 0) /\
 (AU ((fun n => n + (aP 0).size) 0) ((fun n f => dL n f (tu (aP 0))) 0 row0)) /\
 (aP 0 = (ByteArray.mk ((lU ((fun n => n + (aP 0).size) 0) ((fun n f => dL n f (tu (aP 0))) 0 row0)).toArray))) /\
 rp (en (av n)) 2 (qt)))
 (by
 obtain ⟨h0, h1, h2, h3, h4, h5, h6, h7⟩ := fx n
 refine aM rfl _ ?_
 refine ⟨by simp only [ByteArray.size_append, jh, List.size_toArray, List.length_cons, List.length_nil, List.append_eq, List.length_append]; omega, ?_⟩
 refine ⟨uU (uT qN (aP 0)) (by simp only [ByteArray.size_append, jh, List.size_toArray, List.length_cons, List.length_nil, List.append_eq, List.length_append]; omega) (by simp only [ByteArray.size_append, jh, List.size_toArray, List.length_cons, List.length_nil, List.append_eq, List.length_append]; omega), ?_⟩
 refine ⟨JD (uT qN (aP 0)) (by (simp only [vZ, vF, List.append_assoc, List.nil_append]) <;> kernel_rfl), ?_⟩
 refine aM rfl _ ?_
 rfl
 )
  (by kernel_rfl)
theorem t47 (n : Int) : aH prog 40 (e47 n) := aA [] au (tk (f := 22) (tc 15 (t39 n) aj) (tk (f := 59) (tc 88 (t41 n) aj) (tk (f := 82) (tc 131162 (t46 n) aj) ak))) (by kernel_rfl) (by kernel_rfl) (q := rp (en (av n)) 6 ((aP 0 = aP 0) /\
 rp (en (av n)) 2 (qt)))
 (by
 obtain ⟨h0, h1, h2, h3, h4, h5, h6, h7⟩ := fx n
 refine aM rfl _ ?_
 refine ⟨rfl, ?_⟩
 refine aM rfl _ ?_
 rfl
 )
  (by kernel_rfl)
end Gv.LUpgradeCycle
set_option linter.unusedSimpArgs false
set_option linter.unusedVariables false
set_option maxRecDepth 100000
open Rx Go
namespace Gv.LUpgradeCycle
open Gv Rd
theorem t48 (n : Int) : aH prog 30 (e48 n) := aA [] au (tk (f := 60) (tc 11 (t43 n) (tc 35 (t43 n) (tc 40 (t43 n) (tc 45 (t43 n) (tc 50 (t43 n) aj))))) (tk (f := 45) (tc 27 (t6 n) aj) (tk (f := 63) (tc 28 (t17 n) aj) (tk (f := 66) (tc 29 (t9 n) (tc 30 (t10 n) (tc 31 (t11 n) (tc 32 (t12 n) aj)))) (tk (f := 127) (tc 35 (t42 n) (tc 40 (t42 n) (tc 45 (t42 n) (tc 50 (t42 n) aj)))) ak))))) (by kernel_rfl) (by kernel_rfl) (q := rp (en (av n)) 11 (qt))
 (aM rfl _ rfl)
 (by kernel_rfl)
theorem t49 (n : Int) : aH prog 22 (e49 n) := aA [] au (tk (f := 30) (tc 12 (t48 n) aj) ak) (by kernel_rfl) (by kernel_rfl) (q := rp (en (av n)) 2 (qt))
 (aM rfl _ rfl)
 (by kernel_rfl)
theorem t50 (n : Int) : aH prog 45 (e50 n) := aA [] au ak (by kernel_rfl) (by kernel_rfl) (q := qt)
 rfl
 (by kernel_rfl)
theorem t51 (n : Int) : aH prog 28 (e51 n) := aA [] au (tk (f := 45) (tc 5 (t50 n) aj) ak) (by kernel_rfl) (by kernel_rfl) (q := rp ((D (.arr 4 2 (dxL [(sy s16), (sy s4)])) : SV) = D (.arr 4 2 (dxL [(sy s16), (sy s4)]))) 1 (rp ((D (.arr 4 3 (dxL [(sy s17), (ls [(sy s16), (sy s3)]), (num 1)])) : SV) = D (.arr 4 3 (dxL [(sy s17), (ls [(sy s16), (sy s3)]), (num 1)]))) 1 (rp ((D (.arr 4 2 (dxL [(sy s16), (sy s3)])) : SV) = D (.arr 4 2 (dxL [(sy s16), (sy s3)]))) 1 (rp ((D (.arr 4 3 (fun i j => (dxL [(sy s15), (sy s2), (ls [(sy s16), (sy s4)]), (ls [(sy s17), (ls [(sy s16), (sy s3)]), (num 1)])]) (i + (Rx.z0 (Option.some (1 : Int))).toNat) (j))) : SV) = D (.arr 4 3 (fun i j => (dxL [(sy s15), (sy s2), (ls [(sy s16), (sy s4)]), (ls [(sy s17), (ls [(sy s16), (sy s3)]), (num 1)])]) (i + (Rx.z0 (Option.some (1 : Int))).toNat) (j)))) 1 (rp (((dxL []) : Nat -> Nat -> Dt) = (dxL [])) 1 (qt))))))
 (aM rfl _ (aM rfl _ (aM rfl _ (aM rfl _ (aM rfl _ rfl)))))
 (by kernel_rfl)
theorem t52 (n : Int) : aH prog 63 (e52 n) := aA [] au ak (by kernel_rfl) (by kernel_rfl) (q := qt)
 rfl
 (by kernel_rfl)
theorem t53 (n : Int) : aH prog 66 (e53 n) := aA [] au (tk (f := 60) (tc 26 (t8 n) (tc 42 (t8 n) (tc 73 (t8 n) (tc 85 (t8 n) aj)))) (tk (f := 127) (tc 26 (t0 n) (tc 42 (t0 n) (tc 73 (t0 n) (tc 85 (t0 n) aj)))) ak)) (by kernel_rfl) (by kernel_rfl) (q := qt)
 rfl
 (by kernel_rfl)
theorem t54 (n : Int) : aH prog 66 (e54 n) := aA [] au (tk (f := 60) (tc 26 (t8 n) (tc 72 (t8 n) aj)) (tk (f := 127) (tc 26 (t0 n) (tc 72 (t0 n) aj)) ak)) (by kernel_rfl) (by kernel_rfl) (q := qt)
 rfl
 (by kernel_rfl)
theorem t55 (n : Int) : aH prog 66 (e55 n) := aA [] au (tk (f := 60) (tc 78 (t8 n) (tc 138 (t8 n) aj)) (tk (f := 127) (tc 78 (t0 n) (tc 138 (t0 n) aj)) ak)) (by kernel_rfl) (by kernel_rfl) (q := qt)
 rfl
 (by kernel_rfl)
theorem t56 (n : Int) : aH prog 66 (e56 n) := aA [] au ak (by kernel_rfl) (by kernel_rfl) (q := qt)
 rfl
 (by kernel_rfl)
theorem t57 (n : Int) : aH prog 66 (e57 n) := aA [] au ak (by kernel_rfl) (by kernel_rfl) (q := qt)
 rfl
 (by kernel_rfl)
theorem t58 (n : Int) : aH prog 66 (e58 n) := aA [] au (tk (f := 60) (tc 38 (t8 n) (tc 74 (t8 n) aj)) (tk (f := 127) (tc 38 (t0 n) (tc 74 (t0 n) aj)) ak)) (by kernel_rfl) (by kernel_rfl) (q := qt)
 rfl
 (by kernel_rfl)
theorem t59 (n : Int) : aH prog 30 (e59 n) := aA [] au (tk (f := 60) (tc 16 (t43 n) (tc 42 (t43 n) (tc 47 (t43 n) (tc 52 (t43 n) (tc 57 (t43 n) aj))))) (tk (f := 45) (tc 32 (t6 n) aj) (tk (f := 63) (tc 33 (t52 n) aj) (tk (f := 66) (tc 34 (t53 n) (tc 35 (t54 n) (tc 36 (t55 n) (tc 37 (t56 n) (tc 38 (t57 n) (tc 39 (t58 n) aj)))))) (tk (f := 127) (tc 42 (t42 n) (tc 47 (t42 n) (tc 52 (t42 n) (tc 57 (t42 n) aj)))) ak))))) (by kernel_rfl) (by kernel_rfl) (q := rp (en (av n)) 11 (qt))
 (aM rfl _ rfl)
 (by kernel_rfl)
end Gv.LUpgradeCycle
set_option linter.unusedSimpArgs false
set_option linter.unusedVariables false
set_option maxRecDepth 100000
open Rx Go
namespace Gv.LUpgradeCycle
open Gv Rd
theorem t60 (n : Int) : aH prog 127 (e60 n) := aA [] au ak (by kernel_rfl) (by kernel_rfl) (q := rp ((.mp (.int .i64) .bool [((0 : Int), true), ((5 : Int), true), ((10 : Int), true), ((12 : Int), true)] : Ob) = .mp (.int .i64) .bool [((0 : Int), true), ((5 : Int), true), ((10 : Int), true), ((12 : Int), true)]) 1 (qt))
 (aM rfl _ rfl)
 (by kernel_rfl)
theorem t61 (n : Int) : aH prog 60 (e61 n) := aA [] au (tk (f := 127) (tc 2 (t60 n) aj) ak) (by kernel_rfl) (by kernel_rfl) (q := rp (en (av n)) 1 (qt))
 (aM rfl _ rfl)
 (by kernel_rfl)
theorem t62 (n : Int) : aH prog 30 (e62 n) := aA [] au (tk (f := 60) (tc 16 (t61 n) (tc 42 (t61 n) (tc 47 (t61 n) (tc 52 (t61 n) (tc 57 (t61 n) aj))))) (tk (f := 45) (tc 32 (t6 n) aj) (tk (f := 63) (tc 33 (t52 n) aj) (tk (f := 66) (tc 34 (t53 n) (tc 35 (t54 n) (tc 36 (t55 n) (tc 37 (t56 n) (tc 38 (t57 n) (tc 39 (t58 n) aj)))))) (tk (f := 127) (tc 42 (t60 n) (tc 47 (t60 n) (tc 52 (t60 n) (tc 57 (t60 n) aj)))) ak))))) (by kernel_rfl) (by kernel_rfl) (q := rp (en (av n)) 11 (qt))
 (aM rfl _ rfl)
 (by kernel_rfl)
theorem t63 (n : Int) : aH prog 127 (e63 n) := aA [] au ak (by kernel_rfl) (by kernel_rfl) (q := rp ((.mp (.int .i64) .bool [((0 : Int), true), ((5 : Int), true), ((10 : Int), true), ((12 : Int), true), ((14 : Int), true)] : Ob) = .mp (.int .i64) .bool [((0 : Int), true), ((5 : Int), true), ((10 : Int), true), ((12 : Int), true), ((14 : Int), true)]) 1 (qt))
 (aM rfl _ rfl)
 (by kernel_rfl)
theorem t64 (n : Int) : aH prog 60 (e64 n) := aA [] au (tk (f := 127) (tc 2 (t63 n) aj) ak) (by kernel_rfl) (by kernel_rfl) (q := rp (en (av n + (1 : Int))) 1 (rp (en (av n)) 1 (qt)))
 (aM rfl _ (aM rfl _ rfl))
 (by kernel_rfl)
theorem t65 (n : Int) : aH prog 127 (e65 n) := aA [] au ak (by kernel_rfl) (by kernel_rfl) (q := rp ((.mp (.int .i64) .bool [((0 : Int), true), ((5 : Int), true), ((10 : Int), true), ((12 : Int), true), ((14 : Int), true)] : Ob) = .mp (.int .i64) .bool [((0 : Int), true), ((5 : Int), true), ((10 : Int), true), ((12 : Int), true), ((14 : Int), true)]) 1 (qt))
 (aM rfl _ rfl)
 (by kernel_rfl)
theorem t66 (n : Int) : aH prog 60 (e66 n) := aA [] au (tk (f := 127) (tc 2 (t65 n) aj) ak) (by kernel_rfl) (by kernel_rfl) (q := rp (en (av n + (1 : Int))) 1 (qt))
 (aM rfl _ rfl)
 (by kernel_rfl)
theorem t67 (n : Int) : aH prog 116 (e67 n) := aA [] au (tk (f := 30) (tc 20 (t62 n) aj) (tk (f := 60) (tc 202 (t61 n) (tc 313 (t64 n) (tc 379 (t66 n) aj))) (tk (f := 127) (tc 202 (t60 n) (tc 313 (t63 n) aj)) ak))) (by kernel_rfl) (by kernel_rfl) (q := rp (en (av n)) 4 (rp (en (av n + (1 : Int))) 1 (rp (en (av n)) 1 (rp (en (av n + (1 : Int))) 1 (rp (en (av n)) 1 (rp (en (av n + (1 : Int))) 2 (rp (en (av n)) 1 (qt))))))))
 (aM rfl _ (aM rfl _ (aM rfl _ (aM rfl _ (aM rfl _ (aM rfl _ (aM rfl _ rfl)))))))
 (by kernel_rfl)
theorem t68 (n : Int) : aH prog 127 (e68 n) := aA [] au ak (by kernel_rfl) (by kernel_rfl) (q := rp ((.mp (.int .i64) .bool [((0 : Int), true), ((5 : Int), true), ((10 : Int), true), ((12 : Int), true), ((14 : Int), true)] : Ob) = .mp (.int .i64) .bool [((0 : Int), true), ((5 : Int), true), ((10 : Int), true), ((12 : Int), true), ((14 : Int), true)]) 1 (qt))
 (aM rfl _ rfl)
 (by kernel_rfl)
theorem t69 (n : Int) : aH prog 60 (e69 n) := aA [] au (tk (f := 127) (tc 2 (t68 n) aj) ak) (by kernel_rfl) (by kernel_rfl) (q := rp (en (av n)) 1 (qt))
 (aM rfl _ rfl)
 (by kernel_rfl)
theorem t70 (n : Int) : aH prog 127 (e70 n) := aA [] au ak (by kernel_rfl) (by kernel_rfl) (q := rp ((.mp (.int .i64) .bool [((0 : Int), true), ((5 : Int), true), ((10 : Int), true), ((12 : Int), true), ((14 : Int), true)] : Ob) = .mp (.int .i64) .bool [((0 : Int), true), ((5 : Int), true), ((10 : Int), true), ((12 : Int), true), ((14 : Int), true)]) 1 (qt))
 (aM rfl _ rfl)
 (by kernel_rfl)
theorem t71 (n : Int) : aH prog 60 (e71 n) := aA [] au (tk (f := 127) (tc 2 (t70 n) aj) ak) (by kernel_rfl) (by kernel_rfl) (q := rp (en (av n)) 1 (qt))
 (aM rfl _ rfl)
 (by kernel_rfl)
theorem t72 (n : Int) : aH prog 116 (e72 n) := aA [] au (tk (f := 30) (tc 20 (t62 n) aj) (tk (f := 60) (tc 202 (t61 n) (tc 313 (t69 n) (tc 379 (t71 n) aj))) (tk (f := 127) (tc 202 (t60 n) (tc 313 (t68 n) aj)) ak))) (by kernel_rfl) (by kernel_rfl) (q := rp (en (av n)) 9 (qt))
 (aM rfl _ rfl)
 (by kernel_rfl)
end Gv.LUpgradeCycle
