/- Told parts of UpgradeCycle. Printed by gvgen.py. -/
import Derived.Test.YtcmnmceodhambaaGreatDoorGvUUpgradeCycle
import Derived.Test.YtcmnmceodhambaaGreatDoorGvPUpgradeCycle3
import Derived.Test.YtcmnmceodhambaaGreatDoorGvPUpgradeCycle0
set_option linter.unusedSimpArgs false
set_option linter.unusedVariables false
set_option maxRecDepth 100000
open Rx Go
namespace Gv.LUpgradeCycle
open Gv Rd
theorem t73 (n : Int) : aH prog 29 (e73 n) := aA [] au (tk (f := 30) (tc 18 (t48 n) (tc 385 (t59 n) aj)) (tk (f := 60) (tc 401 (t43 n) aj) (tk (f := 127) (tc 401 (t42 n) aj) (tk (f := 116) (tc 673 (t67 n) (tc 695 (t72 n) aj)) ak)))) (by kernel_rfl) (by kernel_rfl) (q := rp (en (av n)) 12 (qt))
 (aM rfl _ rfl)
 (by kernel_rfl)
theorem t74 (n : Int) : aH prog 39 (e74 n) := aA [(12, [(ls [(sy s1), (sy s2), (sy s4), (sy s3)]), (ls [(sy s15), (sy s2), (ls [(sy s16), (sy s4)]), (ls [(sy s17), (ls [(sy s16), (sy s3)]), (num 1)])])])] au (tk (f := 22) (tc 12 (t49 n) aj) (tk (f := 28) (tc 16 (t51 n) aj) (tk (f := 29) (tc 22 (t73 n) aj) ak))) (by kernel_rfl) (by kernel_rfl) (q := (s22.size <= 3000 /\ oz 400 s22 = some (RR.mk (pF ([ls [sy (ByteArray.mk (#[114, 101, 99, 111, 114, 100])), sy (ByteArray.mk (#[112])), sy (ByteArray.mk (#[98])), sy (ByteArray.mk (#[97]))], ls [sy (ByteArray.mk (#[117, 112, 103, 114, 97, 100, 101])), sy (ByteArray.mk (#[112])), ls [sy (ByteArray.mk (#[119, 97, 115])), sy (ByteArray.mk (#[98]))], ls [sy (ByteArray.mk (#[43])), ls [sy (ByteArray.mk (#[119, 97, 115])), sy (ByteArray.mk (#[97]))], num 1]]])) 0 0) /\ nL ([ls [sy (ByteArray.mk (#[114, 101, 99, 111, 114, 100])), sy (ByteArray.mk (#[112])), sy (ByteArray.mk (#[98])), sy (ByteArray.mk (#[97]))], ls [sy (ByteArray.mk (#[117, 112, 103, 114, 97, 100, 101])), sy (ByteArray.mk (#[112])), ls [sy (ByteArray.mk (#[119, 97, 115])), sy (ByteArray.mk (#[98]))], ls [sy (ByteArray.mk (#[43])), ls [sy (ByteArray.mk (#[119, 97, 115])), sy (ByteArray.mk (#[97]))], num 1]]])) /\
 rp (en (av n)) 2 (rp (((dxL [(ls [(sy s1), (sy s2), (sy s4), (sy s3)]), (ls [(sy s15), (sy s2), (ls [(sy s16), (sy s4)]), (ls [(sy s17), (ls [(sy s16), (sy s3)]), (num 1)])])]) : Nat -> Nat -> Dt) = (dxL [(ls [(sy s1), (sy s2), (sy s4), (sy s3)]), (ls [(sy s15), (sy s2), (ls [(sy s16), (sy s4)]), (ls [(sy s17), (ls [(sy s16), (sy s3)]), (num 1)])])])) 1 (rp (en (av n)) 2 (rp (((dxL []) : Nat -> Nat -> Dt) = (dxL [])) 1 (rp (en (av n)) 2 (qt))))))
 (by
 obtain ⟨h0, h1, h2, h3, h4, h5, h6, h7⟩ := fx n
 refine ⟨⟨by decide, by kernel_rfl, by simp [nL, Dx.fits, ls, sy, num, nu]⟩, ?_⟩
 iterate 5 refine aM rfl _ ?_
 rfl
 )
  (by kernel_rfl)
theorem t75 (n : Int) : aH prog 22 (e75 n) := aA [] au (tk (f := 30) (tc 17 (t59 n) aj) ak) (by kernel_rfl) (by kernel_rfl) (q := rp (en (av n)) 2 (qt))
 (aM rfl _ rfl)
 (by kernel_rfl)
theorem t76 (n : Int) : aH prog 66 (e76 n) := aA [] au (tk (f := 60) (tc 44 (t8 n) (tc 80 (t8 n) aj)) (tk (f := 127) (tc 44 (t0 n) (tc 80 (t0 n) aj)) ak)) (by kernel_rfl) (by kernel_rfl) (q := qt)
 rfl
 (by kernel_rfl)
theorem t77 (n : Int) : aH prog 127 (e77 n) := aA [] au ak (by kernel_rfl) (by kernel_rfl) (q := rp ((.mp (.int .i64) .bool [((0 : Int), true), ((2 : Int), true), ((4 : Int), true), ((9 : Int), true), ((14 : Int), true)] : Ob) = .mp (.int .i64) .bool [((0 : Int), true), ((2 : Int), true), ((4 : Int), true), ((9 : Int), true), ((14 : Int), true)]) 1 (qt))
 (aM rfl _ rfl)
 (by kernel_rfl)
theorem t78 (n : Int) : aH prog 60 (e78 n) := aA [] au (tk (f := 127) (tc 2 (t77 n) aj) ak) (by kernel_rfl) (by kernel_rfl) (q := rp (en (av n + (1 : Int))) 1 (rp (en (av n)) 1 (qt)))
 (aM rfl _ (aM rfl _ rfl))
 (by kernel_rfl)
theorem t79 (n : Int) : aH prog 127 (e79 n) := aA [] au ak (by kernel_rfl) (by kernel_rfl) (q := rp ((.mp (.int .i64) .bool [((0 : Int), true), ((2 : Int), true), ((4 : Int), true), ((9 : Int), true), ((14 : Int), true)] : Ob) = .mp (.int .i64) .bool [((0 : Int), true), ((2 : Int), true), ((4 : Int), true), ((9 : Int), true), ((14 : Int), true)]) 1 (qt))
 (aM rfl _ rfl)
 (by kernel_rfl)
theorem t80 (n : Int) : aH prog 60 (e80 n) := aA [] au (tk (f := 127) (tc 2 (t79 n) aj) ak) (by kernel_rfl) (by kernel_rfl) (q := rp (en (av n + (1 : Int))) 1 (qt))
 (aM rfl _ rfl)
 (by kernel_rfl)
theorem t81 (n : Int) : aH prog 127 (e81 n) := aA [] au ak (by kernel_rfl) (by kernel_rfl) (q := rp ((.mp (.int .i64) .bool [((0 : Int), true), ((2 : Int), true), ((4 : Int), true), ((9 : Int), true), ((14 : Int), true), ((19 : Int), true)] : Ob) = .mp (.int .i64) .bool [((0 : Int), true), ((2 : Int), true), ((4 : Int), true), ((9 : Int), true), ((14 : Int), true), ((19 : Int), true)]) 1 (qt))
 (aM rfl _ rfl)
 (by kernel_rfl)
theorem t82 (n : Int) : aH prog 60 (e82 n) := aA [] au (tk (f := 127) (tc 2 (t81 n) aj) ak) (by kernel_rfl) (by kernel_rfl) (q := rp (en (av n + (1 : Int))) 1 (qt))
 (aM rfl _ rfl)
 (by kernel_rfl)
theorem t83 (n : Int) : aH prog 127 (e83 n) := aA [] au ak (by kernel_rfl) (by kernel_rfl) (q := rp ((.mp (.int .i64) .bool [((0 : Int), true), ((2 : Int), true), ((4 : Int), true), ((9 : Int), true), ((14 : Int), true), ((19 : Int), true)] : Ob) = .mp (.int .i64) .bool [((0 : Int), true), ((2 : Int), true), ((4 : Int), true), ((9 : Int), true), ((14 : Int), true), ((19 : Int), true)]) 1 (qt))
 (aM rfl _ rfl)
 (by kernel_rfl)
theorem t84 (n : Int) : aH prog 60 (e84 n) := aA [] au (tk (f := 127) (tc 2 (t83 n) aj) ak) (by kernel_rfl) (by kernel_rfl) (q := rp (en (av n + (1 : Int))) 1 (qt))
 (aM rfl _ rfl)
 (by kernel_rfl)
end Gv.LUpgradeCycle
set_option linter.unusedSimpArgs false
set_option linter.unusedVariables false
set_option maxRecDepth 100000
open Rx Go
namespace Gv.LUpgradeCycle
open Gv Rd
theorem t85 (n : Int) : aH prog 59 (e85 n) := aA [] au (tk (f := 30) (tc 21 (t59 n) aj) (tk (f := 66) (tc 201 (t76 n) aj) (tk (f := 60) (tc 387 (t78 n) (tc 453 (t80 n) (tc 4614 (t82 n) (tc 4680 (t84 n) aj)))) (tk (f := 127) (tc 387 (t77 n) (tc 4614 (t81 n) aj)) ak)))) (by kernel_rfl) (by kernel_rfl) (q := rp (en (av n)) 2 (rp (en (av n + (1 : Int))) 1 (rp (en (av n)) 1 (rp (en (av n + (1 : Int))) 1 (rp (en (av n)) 1 (rp (en (av n + (1 : Int))) 5 (rp (en (av n)) 1 (qt))))))))
 (aM rfl _ (aM rfl _ (aM rfl _ (aM rfl _ (aM rfl _ (aM rfl _ (aM rfl _ rfl)))))))
 (by kernel_rfl)
theorem t86 (n : Int) : aH prog 63 (e86 n) := aA [] au ak (by kernel_rfl) (by kernel_rfl) (q := qt)
 rfl
 (by kernel_rfl)
theorem t87 (n : Int) : aH prog 66 (e87 n) := aA [] au (tk (f := 60) (tc 26 (t8 n) (tc 42 (t8 n) (tc 73 (t8 n) (tc 85 (t8 n) aj)))) (tk (f := 127) (tc 26 (t0 n) (tc 42 (t0 n) (tc 73 (t0 n) (tc 85 (t0 n) aj)))) ak)) (by kernel_rfl) (by kernel_rfl) (q := qt)
 rfl
 (by kernel_rfl)
theorem t88 (n : Int) : aH prog 66 (e88 n) := aA [] au (tk (f := 60) (tc 26 (t8 n) (tc 72 (t8 n) aj)) (tk (f := 127) (tc 26 (t0 n) (tc 72 (t0 n) aj)) ak)) (by kernel_rfl) (by kernel_rfl) (q := qt)
 rfl
 (by kernel_rfl)
theorem t89 (n : Int) : aH prog 66 (e89 n) := aA [] au (tk (f := 60) (tc 78 (t8 n) (tc 138 (t8 n) aj)) (tk (f := 127) (tc 78 (t0 n) (tc 138 (t0 n) aj)) ak)) (by kernel_rfl) (by kernel_rfl) (q := qt)
 rfl
 (by kernel_rfl)
theorem t90 (n : Int) : aH prog 66 (e90 n) := aA [] au ak (by kernel_rfl) (by kernel_rfl) (q := qt)
 rfl
 (by kernel_rfl)
theorem t91 (n : Int) : aH prog 66 (e91 n) := aA [] au ak (by kernel_rfl) (by kernel_rfl) (q := qt)
 rfl
 (by kernel_rfl)
end Gv.LUpgradeCycle
set_option linter.unusedSimpArgs false
set_option linter.unusedVariables false
set_option maxRecDepth 100000
open Rx Go
namespace Gv.LUpgradeCycle
open Gv Rd
theorem t92 (n : Int) : aH prog 66 (e92 n) := aA [] au (tk (f := 60) (tc 38 (t8 n) (tc 74 (t8 n) aj)) (tk (f := 127) (tc 38 (t0 n) (tc 74 (t0 n) aj)) ak)) (by kernel_rfl) (by kernel_rfl) (q := qt)
 rfl
 (by kernel_rfl)
theorem t93 (n : Int) : aH prog 30 (e93 n) := aA [] au (tk (f := 60) (tc 17 (t84 n) (tc 43 (t84 n) (tc 48 (t84 n) (tc 53 (t84 n) (tc 58 (t84 n) aj))))) (tk (f := 45) (tc 33 (t6 n) aj) (tk (f := 63) (tc 34 (t86 n) aj) (tk (f := 66) (tc 35 (t87 n) (tc 36 (t88 n) (tc 37 (t89 n) (tc 38 (t90 n) (tc 39 (t91 n) (tc 40 (t92 n) aj)))))) (tk (f := 127) (tc 43 (t83 n) (tc 48 (t83 n) (tc 53 (t83 n) (tc 58 (t83 n) aj)))) ak))))) (by kernel_rfl) (by kernel_rfl) (q := rp (en (av n + (1 : Int))) 1 (rp (en (av n)) 2 (rp (en (av n + (1 : Int))) 8 (qt))))
 (aM rfl _ (aM rfl _ (aM rfl _ rfl)))
 (by kernel_rfl)
theorem t94 (n : Int) : aH prog 82 (e94 n) := aA [] au (tk (f := 30) (tc 19 (t93 n) aj) (tk (f := 60) (tc 21 (t84 n) (tc 30 (t84 n) aj)) (tk (f := 127) (tc 21 (t83 n) (tc 30 (t83 n) aj)) ak))) (by kernel_rfl) (by kernel_rfl) (q := rp (en (av n + (1 : Int))) 1 (rp (en (av n)) 1 (rp (en (av n + (1 : Int))) 4 (((fun n => n + (ByteArray.mk (#[35, 116])).size <= 100000) 0) /\
 (AU ((fun n => n + (ByteArray.mk (#[35, 116])).size) 0) ((fun n f => dL n f (tu (ByteArray.mk (#[35, 116])))) 0 row0)) /\
 (s23 = (ByteArray.mk ((lU ((fun n => n + (ByteArray.mk (#[35, 116])).size) 0) ((fun n f => dL n f (tu (ByteArray.mk (#[35, 116])))) 0 row0)).toArray))) /\
 rp (en (av n + (1 : Int))) 1 (rp (en (av n)) 1 (qt))))))
 (by
 obtain ⟨h0, h1, h2, h3, h4, h5, h6, h7⟩ := fx n
 iterate 3 refine aM rfl _ ?_
 refine ⟨by simp only [ByteArray.size_append, jh, List.size_toArray, List.length_cons, List.length_nil, List.append_eq, List.length_append]; omega, ?_⟩
 refine ⟨uU (uT qN (ByteArray.mk (#[35, 116]))) (by simp only [ByteArray.size_append, jh, List.size_toArray, List.length_cons, List.length_nil, List.append_eq, List.length_append]; omega) (by simp only [ByteArray.size_append, jh, List.size_toArray, List.length_cons, List.length_nil, List.append_eq, List.length_append]; omega), ?_⟩
 refine ⟨JD (uT qN (ByteArray.mk (#[35, 116]))) (by (simp only [vZ, vF, List.append_assoc, List.nil_append, SE]) <;> kernel_rfl), ?_⟩
 iterate 2 refine aM rfl _ ?_
 rfl
 )
  (by kernel_rfl)
theorem t95 (n : Int) : aH prog 40 (e95 n) := aA [] au (tk (f := 22) (tc 19 (t75 n) aj) (tk (f := 59) (tc 92 (t85 n) aj) (tk (f := 82) (tc 131166 (t94 n) aj) ak))) (by kernel_rfl) (by kernel_rfl) (q := rp (en (av n)) 4 (rp (en (av n + (1 : Int))) 1 (rp (en (av n)) 1 ((s23 = s23) /\
 rp (en (av n + (1 : Int))) 1 (rp (en (av n)) 1 (qt))))))
 (by
 obtain ⟨h0, h1, h2, h3, h4, h5, h6, h7⟩ := fx n
 iterate 3 refine aM rfl _ ?_
 refine ⟨rfl, ?_⟩
 iterate 2 refine aM rfl _ ?_
 rfl
 )
  (by kernel_rfl)
theorem t96 (n : Int) : aH prog 30 (e96 n) := aA [] au (tk (f := 60) (tc 16 (t84 n) (tc 42 (t84 n) (tc 47 (t84 n) (tc 52 (t84 n) (tc 57 (t84 n) aj))))) (tk (f := 45) (tc 32 (t6 n) aj) (tk (f := 63) (tc 33 (t52 n) aj) (tk (f := 66) (tc 34 (t53 n) (tc 35 (t54 n) (tc 36 (t55 n) (tc 37 (t56 n) (tc 38 (t57 n) (tc 39 (t58 n) aj)))))) (tk (f := 127) (tc 42 (t83 n) (tc 47 (t83 n) (tc 52 (t83 n) (tc 57 (t83 n) aj)))) ak))))) (by kernel_rfl) (by kernel_rfl) (q := rp (en (av n + (1 : Int))) 1 (rp (en (av n)) 2 (rp (en (av n + (1 : Int))) 8 (qt))))
 (aM rfl _ (aM rfl _ (aM rfl _ rfl)))
 (by kernel_rfl)
theorem t97 (n : Int) : aH prog 22 (e97 n) := aA [] au (tk (f := 30) (tc 17 (t96 n) aj) ak) (by kernel_rfl) (by kernel_rfl) (q := rp (en (av n + (1 : Int))) 1 (rp (en (av n)) 1 (qt)))
 (aM rfl _ (aM rfl _ rfl))
 (by kernel_rfl)
theorem t98 (n : Int) : aH prog 45 (e98 n) := aA [] au ak (by kernel_rfl) (by kernel_rfl) (q := qt)
 rfl
 (by kernel_rfl)
end Gv.LUpgradeCycle
