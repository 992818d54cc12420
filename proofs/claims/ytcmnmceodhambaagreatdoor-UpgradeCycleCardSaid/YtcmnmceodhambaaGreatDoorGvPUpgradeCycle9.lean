/- Told parts of UpgradeCycle. Printed by gvgen.py. -/
import Derived.Test.YtcmnmceodhambaaGreatDoorGvUUpgradeCycle
import Derived.Test.YtcmnmceodhambaaGreatDoorGvPUpgradeCycle6
import Derived.Test.YtcmnmceodhambaaGreatDoorGvPUpgradeCycle0
import Derived.Test.YtcmnmceodhambaaGreatDoorGvPUpgradeCycle3
set_option linter.unusedSimpArgs false
set_option linter.unusedVariables false
set_option maxRecDepth 100000
open Rx Go
namespace Gv.LUpgradeCycle
open Gv Rd
theorem t99 (n : Int) : aH prog 28 (e99 n) := aA [] au (tk (f := 45) (tc 5 (t98 n) aj) ak) (by kernel_rfl) (by kernel_rfl) (q := rp ((D (.arr 4 2 (dxL [(sy s18), (sy s9)])) : SV) = D (.arr 4 2 (dxL [(sy s18), (sy s9)]))) 1 (rp ((D (.arr 4 3 (dxL [(sy s17), (ls [(sy s19), (sy s6)]), (ls [(sy s19), (ls [(sy s14), (sy s6)])])])) : SV) = D (.arr 4 3 (dxL [(sy s17), (ls [(sy s19), (sy s6)]), (ls [(sy s19), (ls [(sy s14), (sy s6)])])]))) 1 (rp ((D (.arr 4 2 (dxL [(sy s19), (sy s6)])) : SV) = D (.arr 4 2 (dxL [(sy s19), (sy s6)]))) 1 (rp ((D (.arr 4 2 (dxL [(sy s19), (ls [(sy s14), (sy s6)])])) : SV) = D (.arr 4 2 (dxL [(sy s19), (ls [(sy s14), (sy s6)])]))) 1 (rp ((D (.arr 4 2 (dxL [(sy s14), (sy s6)])) : SV) = D (.arr 4 2 (dxL [(sy s14), (sy s6)]))) 1 (qt))))))
 (aM rfl _ (aM rfl _ (aM rfl _ (aM rfl _ (aM rfl _ rfl)))))
 (by kernel_rfl)
theorem Ue (n : Int) : aH prog 45 (e100 n) := aA [] au ak (by kernel_rfl) (by kernel_rfl) (q := qt)
 rfl
 (by kernel_rfl)
theorem Ws (n : Int) : aH prog 63 (Xw n) := aA [] au ak (by kernel_rfl) (by kernel_rfl) (q := qt)
 rfl
 (by kernel_rfl)
theorem Wq (n : Int) : aH prog 66 (Xy n) := aA [] au (tk (f := 60) (tc 26 (t8 n) (tc 42 (t8 n) (tc 73 (t8 n) (tc 85 (t8 n) aj)))) (tk (f := 127) (tc 26 (t0 n) (tc 42 (t0 n) (tc 73 (t0 n) (tc 85 (t0 n) aj)))) ak)) (by kernel_rfl) (by kernel_rfl) (q := qt)
 rfl
 (by kernel_rfl)
theorem V8 (n : Int) : aH prog 66 (Xo n) := aA [] au (tk (f := 60) (tc 26 (t8 n) (tc 72 (t8 n) aj)) (tk (f := 127) (tc 26 (t0 n) (tc 72 (t0 n) aj)) ak)) (by kernel_rfl) (by kernel_rfl) (q := qt)
 rfl
 (by kernel_rfl)
theorem VG (n : Int) : aH prog 66 (Yi n) := aA [] au (tk (f := 60) (tc 78 (t8 n) (tc 138 (t8 n) aj)) (tk (f := 127) (tc 78 (t0 n) (tc 138 (t0 n) aj)) ak)) (by kernel_rfl) (by kernel_rfl) (q := qt)
 rfl
 (by kernel_rfl)
theorem t105 (n : Int) : aH prog 66 (Yj n) := aA [] au ak (by kernel_rfl) (by kernel_rfl) (q := qt)
 rfl
 (by kernel_rfl)
theorem VW (n : Int) : aH prog 66 (Xn n) := aA [] au ak (by kernel_rfl) (by kernel_rfl) (q := qt)
 rfl
 (by kernel_rfl)
theorem t107 (n : Int) : aH prog 66 (X9 n) := aA [] au (tk (f := 60) (tc 38 (t8 n) (tc 74 (t8 n) aj)) (tk (f := 127) (tc 38 (t0 n) (tc 74 (t0 n) aj)) ak)) (by kernel_rfl) (by kernel_rfl) (q := qt)
 rfl
 (by kernel_rfl)
theorem VI (n : Int) : aH prog 66 (e108 n) := aA [] au ak (by kernel_rfl) (by kernel_rfl) (q := qt)
 rfl
 (by kernel_rfl)
end Gv.LUpgradeCycle
set_option linter.unusedSimpArgs false
set_option linter.unusedVariables false
set_option maxRecDepth 100000
open Rx Go
namespace Gv.LUpgradeCycle
open Gv Rd
theorem t109 (n : Int) : aH prog 30 (e109 n) := aA [] au (tk (f := 60) (tc 17 (t84 n) (tc 47 (t84 n) (tc 52 (t84 n) (tc 57 (t84 n) (tc 62 (t84 n) (tc 67 (t84 n) aj)))))) (tk (f := 45) (tc 36 (Ue n) aj) (tk (f := 63) (tc 37 (Ws n) aj) (tk (f := 66) (tc 38 (Wq n) (tc 39 (V8 n) (tc 40 (VG n) (tc 41 (t105 n) (tc 42 (VW n) (tc 43 (t107 n) (tc 44 (VI n) aj))))))) (tk (f := 127) (tc 47 (t83 n) (tc 52 (t83 n) (tc 57 (t83 n) (tc 62 (t83 n) (tc 67 (t83 n) aj))))) ak))))) (by kernel_rfl) (by kernel_rfl) (q := rp (en (av n + (1 : Int))) 1 (rp (en (av n)) 2 (rp (en (av n + (1 : Int))) 10 (qt))))
 (aM rfl _ (aM rfl _ (aM rfl _ rfl)))
 (by kernel_rfl)
theorem vK (n : Int) : aH prog 127 (XH n) := aA [] au ak (by kernel_rfl) (by kernel_rfl) (q := rp ((.mp (.int .i64) .bool [((0 : Int), true), ((2 : Int), true), ((4 : Int), true), ((9 : Int), true), ((14 : Int), true), ((19 : Int), true), ((24 : Int), true)] : Ob) = .mp (.int .i64) .bool [((0 : Int), true), ((2 : Int), true), ((4 : Int), true), ((9 : Int), true), ((14 : Int), true), ((19 : Int), true), ((24 : Int), true)]) 1 (qt))
 (aM rfl _ rfl)
 (by kernel_rfl)
theorem rT (n : Int) : aH prog 60 (X3 n) := aA [] au (tk (f := 127) (tc 2 (vK n) aj) ak) (by kernel_rfl) (by kernel_rfl) (q := rp (en (av n + (1 : Int))) 1 (qt))
 (aM rfl _ rfl)
 (by kernel_rfl)
theorem Ye (n : Int) : aH prog 57 (Xl n) := aA [] au (tk (f := 30) (tc 21 (t109 n) aj) (tk (f := 60) (tc 8401 (t84 n) (tc 8469 (rT n) aj)) ak)) (by kernel_rfl) (by kernel_rfl) (q := rp (en (av n + (1 : Int))) 1 (rp (en (av n)) 1 (rp (en (av n + (1 : Int))) 3 (rp (en (av n)) 1 (qt)))))
 (aM rfl _ (aM rfl _ (aM rfl _ (aM rfl _ rfl))))
 (by kernel_rfl)
theorem XO (n : Int) : aH prog 29 (XG n) := aA [] au (tk (f := 30) (tc 28 (t96 n) (tc 422 (t109 n) aj)) (tk (f := 57) (tc 426 (Ye n) aj) ak)) (by kernel_rfl) (by kernel_rfl) (q := rp (en (av n + (1 : Int))) 1 (rp (en (av n)) 1 (rp (en (av n + (1 : Int))) 1 (rp (en (av n)) 1 (rp (en (av n + (1 : Int))) 1 (rp (en (av n)) 1 (rp (en (av n + (1 : Int))) 1 (rp (en (av n)) 1 (qt)))))))))
 (aM rfl _ (aM rfl _ (aM rfl _ (aM rfl _ (aM rfl _ (aM rfl _ (aM rfl _ (aM rfl _ rfl))))))))
 (by kernel_rfl)
theorem X5 (n : Int) : aH prog 39 (Vz n) := aA [(17, [(ls [(sy s5), (ls [(sy s18), (sy s9)]), (ls [(sy s17), (ls [(sy s19), (sy s6)]), (ls [(sy s19), (ls [(sy s14), (sy s6)])])])])])] au (tk (f := 22) (tc 17 (t97 n) aj) (tk (f := 28) (tc 21 (t99 n) aj) (tk (f := 29) (tc 32 (XO n) aj) ak))) (by kernel_rfl) (by kernel_rfl) (q := (s24.size <= 3000 /\ oz 400 s24 = some (RR.mk (pF ([ls [sy (ByteArray.mk (#[100, 101, 102, 105, 110, 101])), ls [sy (ByteArray.mk (#[115, 117, 109])), sy (ByteArray.mk (#[110]))], ls [sy (ByteArray.mk (#[43])), ls [sy (ByteArray.mk (#[112, 45, 97])), sy (ByteArray.mk (#[120]))], ls [sy (ByteArray.mk (#[112, 45, 97])), ls [sy (ByteArray.mk (#[112, 45, 98])), sy (ByteArray.mk (#[120]))]]]]])) 0 0) /\ nL ([ls [sy (ByteArray.mk (#[100, 101, 102, 105, 110, 101])), ls [sy (ByteArray.mk (#[115, 117, 109])), sy (ByteArray.mk (#[110]))], ls [sy (ByteArray.mk (#[43])), ls [sy (ByteArray.mk (#[112, 45, 97])), sy (ByteArray.mk (#[120]))], ls [sy (ByteArray.mk (#[112, 45, 97])), ls [sy (ByteArray.mk (#[112, 45, 98])), sy (ByteArray.mk (#[120]))]]]]])) /\
 rp (en (av n + (1 : Int))) 1 (rp (en (av n)) 1 (rp (((dxL [(ls [(sy s5), (ls [(sy s18), (sy s9)]), (ls [(sy s17), (ls [(sy s19), (sy s6)]), (ls [(sy s19), (ls [(sy s14), (sy s6)])])])])]) : Nat -> Nat -> Dt) = (dxL [(ls [(sy s5), (ls [(sy s18), (sy s9)]), (ls [(sy s17), (ls [(sy s19), (sy s6)]), (ls [(sy s19), (ls [(sy s14), (sy s6)])])])])])) 1 (rp (en (av n + (1 : Int))) 1 (rp (en (av n)) 1 (rp (en (av n + (1 : Int))) 1 (rp (en (av n)) 1 (qt))))))))
 (by
 obtain ⟨h0, h1, h2, h3, h4, h5, h6, h7⟩ := fx n
 refine ⟨⟨by decide, by kernel_rfl, by simp [nL, Dx.fits, ls, sy, num, nu]⟩, ?_⟩
 iterate 7 refine aM rfl _ ?_
 rfl
 )
  (by kernel_rfl)
end Gv.LUpgradeCycle
set_option linter.unusedSimpArgs false
set_option linter.unusedVariables false
set_option maxRecDepth 100000
open Rx Go
namespace Gv.LUpgradeCycle
open Gv Rd
theorem VF (n : Int) : aH prog 30 (e115 n) := aA [] au (tk (f := 60) (tc 17 (rT n) (tc 47 (rT n) (tc 52 (rT n) (tc 57 (rT n) (tc 62 (rT n) (tc 67 (rT n) aj)))))) (tk (f := 45) (tc 36 (Ue n) aj) (tk (f := 63) (tc 37 (Ws n) aj) (tk (f := 66) (tc 38 (Wq n) (tc 39 (V8 n) (tc 40 (VG n) (tc 41 (t105 n) (tc 42 (VW n) (tc 43 (t107 n) (tc 44 (VI n) aj))))))) (tk (f := 127) (tc 47 (vK n) (tc 52 (vK n) (tc 57 (vK n) (tc 62 (vK n) (tc 67 (vK n) aj))))) ak))))) (by kernel_rfl) (by kernel_rfl) (q := rp (en (av n + (1 : Int))) 1 (rp (en (av n)) 2 (rp (en (av n + (1 : Int))) 10 (qt))))
 (aM rfl _ (aM rfl _ (aM rfl _ rfl)))
 (by kernel_rfl)
theorem t116 (n : Int) : aH prog 22 (e116 n) := aA [] au (tk (f := 30) (tc 18 (VF n) aj) ak) (by kernel_rfl) (by kernel_rfl) (q := rp (en (av n + (1 : Int))) 1 (rp (en (av n)) 1 (qt)))
 (aM rfl _ (aM rfl _ rfl))
 (by kernel_rfl)
theorem t117 (n : Int) : aH prog 66 (e117 n) := aA [] au (tk (f := 60) (tc 45 (t8 n) (tc 82 (t8 n) aj)) (tk (f := 127) (tc 45 (t0 n) (tc 82 (t0 n) aj)) ak)) (by kernel_rfl) (by kernel_rfl) (q := qt)
 rfl
 (by kernel_rfl)
theorem X0 (n : Int) : aH prog 59 (e118 n) := aA [] au (tk (f := 30) (tc 22 (VF n) aj) (tk (f := 66) (tc 207 (t117 n) aj) ak)) (by kernel_rfl) (by kernel_rfl) (q := rp (en (av n + (1 : Int))) 1 (rp (en (av n)) 1 (rp (en (av n + (1 : Int) + (2 : Int))) 2 (rp (en (av n + (1 : Int))) 1 (rp (en (av n)) 1 (qt))))))
 (aM rfl _ (aM rfl _ (aM rfl _ (aM rfl _ (aM rfl _ rfl)))))
 (by kernel_rfl)
theorem t119 (n : Int) : aH prog 63 (e119 n) := aA [] au ak (by kernel_rfl) (by kernel_rfl) (q := qt)
 rfl
 (by kernel_rfl)
theorem XI (n : Int) : aH prog 66 (e120 n) := aA [] au (tk (f := 60) (tc 26 (t8 n) (tc 42 (t8 n) (tc 73 (t8 n) (tc 85 (t8 n) aj)))) (tk (f := 127) (tc 26 (t0 n) (tc 42 (t0 n) (tc 73 (t0 n) (tc 85 (t0 n) aj)))) ak)) (by kernel_rfl) (by kernel_rfl) (q := qt)
 rfl
 (by kernel_rfl)
theorem XK (n : Int) : aH prog 66 (XQ n) := aA [] au (tk (f := 60) (tc 26 (t8 n) (tc 72 (t8 n) aj)) (tk (f := 127) (tc 26 (t0 n) (tc 72 (t0 n) aj)) ak)) (by kernel_rfl) (by kernel_rfl) (q := qt)
 rfl
 (by kernel_rfl)
end Gv.LUpgradeCycle
set_option linter.unusedSimpArgs false
set_option linter.unusedVariables false
set_option maxRecDepth 100000
open Rx Go
namespace Gv.LUpgradeCycle
open Gv Rd
theorem Xr (n : Int) : aH prog 66 (XZ n) := aA [] au (tk (f := 60) (tc 78 (t8 n) (tc 138 (t8 n) aj)) (tk (f := 127) (tc 78 (t0 n) (tc 138 (t0 n) aj)) ak)) (by kernel_rfl) (by kernel_rfl) (q := qt)
 rfl
 (by kernel_rfl)
theorem XF (n : Int) : aH prog 66 (XD n) := aA [] au ak (by kernel_rfl) (by kernel_rfl) (q := qt)
 rfl
 (by kernel_rfl)
theorem t124 (n : Int) : aH prog 66 (Xq n) := aA [] au ak (by kernel_rfl) (by kernel_rfl) (q := qt)
 rfl
 (by kernel_rfl)
theorem Yd (n : Int) : aH prog 66 (e125 n) := aA [] au (tk (f := 60) (tc 38 (t8 n) (tc 74 (t8 n) aj)) (tk (f := 127) (tc 38 (t0 n) (tc 74 (t0 n) aj)) ak)) (by kernel_rfl) (by kernel_rfl) (q := qt)
 rfl
 (by kernel_rfl)
theorem Yb (n : Int) : aH prog 66 (e126 n) := aA [] au ak (by kernel_rfl) (by kernel_rfl) (q := qt)
 rfl
 (by kernel_rfl)
theorem t127 (n : Int) : aH prog 30 (e127 n) := aA [] au (tk (f := 60) (tc 18 (rT n) (tc 48 (rT n) (tc 53 (rT n) (tc 58 (rT n) (tc 63 (rT n) (tc 68 (rT n) aj)))))) (tk (f := 45) (tc 37 (Ue n) aj) (tk (f := 63) (tc 38 (t119 n) aj) (tk (f := 66) (tc 39 (XI n) (tc 40 (XK n) (tc 41 (Xr n) (tc 42 (XF n) (tc 43 (t124 n) (tc 44 (Yd n) (tc 45 (Yb n) aj))))))) (tk (f := 127) (tc 48 (vK n) (tc 53 (vK n) (tc 58 (vK n) (tc 63 (vK n) (tc 68 (vK n) aj))))) ak))))) (by kernel_rfl) (by kernel_rfl) (q := rp (en (av n + (1 : Int))) 1 (rp (en (av n)) 2 (rp (en (av n + (1 : Int))) 10 (qt))))
 (aM rfl _ (aM rfl _ (aM rfl _ rfl)))
 (by kernel_rfl)
theorem XR (n : Int) : aH prog 82 (e128 n) := aA [] au (tk (f := 30) (tc 20 (t127 n) aj) (tk (f := 60) (tc 22 (rT n) (tc 31 (rT n) aj)) (tk (f := 127) (tc 22 (vK n) (tc 31 (vK n) aj)) ak))) (by kernel_rfl) (by kernel_rfl) (q := rp (en (av n + (1 : Int))) 1 (rp (en (av n)) 1 (rp (en (av n + (1 : Int))) 4 (((fun n_1 => n_1 + (aP (av n + 1 + 2)).size <= 100000) 0) /\
 (AU ((fun n_1 => n_1 + (aP (av n + 1 + 2)).size) 0) ((fun n_1 f => dL n_1 f (tu (aP (av n + 1 + 2)))) 0 row0)) /\
 (aP (av n + 1 + 2) = (ByteArray.mk ((lU ((fun n_1 => n_1 + (aP (av n + 1 + 2)).size) 0) ((fun n_1 f => dL n_1 f (tu (aP (av n + 1 + 2)))) 0 row0)).toArray))) /\
 rp (en (av n + (1 : Int))) 1 (rp (en (av n)) 1 (qt))))))
 (by
 obtain ⟨h0, h1, h2, h3, h4, h5, h6, h7⟩ := fx n
 iterate 3 refine aM rfl _ ?_
 refine ⟨by simp only [ByteArray.size_append, jh, List.size_toArray, List.length_cons, List.length_nil, List.append_eq, List.length_append]; omega, ?_⟩
 refine ⟨uU (uT qN (aP (av n + 1 + 2))) (by simp only [ByteArray.size_append, jh, List.size_toArray, List.length_cons, List.length_nil, List.append_eq, List.length_append]; omega) (by simp only [ByteArray.size_append, jh, List.size_toArray, List.length_cons, List.length_nil, List.append_eq, List.length_append]; omega), ?_⟩
 refine ⟨JD (uT qN (aP (av n + 1 + 2))) (by (simp only [vZ, vF, List.append_assoc, List.nil_append]) <;> kernel_rfl), ?_⟩
 iterate 2 refine aM rfl _ ?_
 rfl
 )
  (by kernel_rfl)
theorem XW (n : Int) : aH prog 40 (e129 n) := aA [] au (tk (f := 22) (tc 20 (t116 n) aj) (tk (f := 59) (tc 93 (X0 n) aj) (tk (f := 82) (tc 131167 (XR n) aj) ak))) (by kernel_rfl) (by kernel_rfl) (q := rp (en (av n + (1 : Int))) 1 (rp (en (av n)) 1 (rp (en (av n + (1 : Int))) 1 (rp (en (av n)) 1 (rp (en (av n + (1 : Int) + (2 : Int))) 1 (rp (en (av n + (1 : Int))) 1 (rp (en (av n)) 1 ((aP (av n + 1 + 2) = aP (av n + 1 + 2)) /\
 rp (en (av n + (1 : Int))) 1 (rp (en (av n)) 1 (qt))))))))))
 (by
 obtain ⟨h0, h1, h2, h3, h4, h5, h6, h7⟩ := fx n
 iterate 7 refine aM rfl _ ?_
 refine ⟨rfl, ?_⟩
 iterate 2 refine aM rfl _ ?_
 rfl
 )
  (by kernel_rfl)
end Gv.LUpgradeCycle
set_option linter.unusedSimpArgs false
set_option linter.unusedVariables false
open Rx Go
namespace Gv
open Rd LUpgradeCycle
noncomputable def lV (n : Int) : TL := [(39, [(16, (e34 n)), (45, (e74 n)), (83, (Vz n))]), (40, [(31, (e47 n)), (64, (e95 n)), (103, (e129 n))])]
def lW (n : Int) : Prop :=
 ((((ByteArray.mk (#[40, 114, 101, 99, 111, 114, 100, 32, 112, 32, 97, 32, 98, 41, 32, 40, 100, 101, 102, 105, 110, 101, 32, 120, 32, 40, 112, 32])).size : Nat) : Int) + (((aP (av n)).size : Nat) : Int) <= 9223372036854775807) /\
 (((((ByteArray.mk (#[40, 114, 101, 99, 111, 114, 100, 32, 112, 32, 97, 32, 98, 41, 32, 40, 100, 101, 102, 105, 110, 101, 32, 120, 32, 40, 112, 32])) ++ aP (av n)).size : Nat) : Int) + (((ByteArray.mk (([32, 48, 41, 41, 32, 40, 100, 101, 102, 105, 110, 101, 32, 121, 32, 40, 112, 32, 49, 32, 120, 41, 41, 32, 40, 100, 101, 102, 105, 110, 101, 32, 40, 116, 105, 101, 32, 110, 41, 32, 40, 98, 101, 103, 105, 110, 32, 40, 112, 45].append [98, 33, 32, 120, 32, 121, 41, 32, 48, 41, 41, 32, 40, 100, 101, 102, 105, 110, 101, 32, 40, 97, 115, 107, 32, 110, 41, 32, 40, 101, 113, 63, 32, 120, 32, 40, 112, 45, 98, 32, 40, 112, 45, 98, 32, 120, 41, 41, 41, 41]).toArray)).size : Nat) : Int) <= 9223372036854775807) /\
 (s20 ++ aP (av n) ++ s21 = (ByteArray.mk (#[40, 114, 101, 99, 111, 114, 100, 32, 112, 32, 97, 32, 98, 41, 32, 40, 100, 101, 102, 105, 110, 101, 32, 120, 32, 40, 112, 32])) ++ aP (av n) ++ (ByteArray.mk (([32, 48, 41, 41, 32, 40, 100, 101, 102, 105, 110, 101, 32, 121, 32, 40, 112, 32, 49, 32, 120, 41, 41, 32, 40, 100, 101, 102, 105, 110, 101, 32, 40, 116, 105, 101, 32, 110, 41, 32, 40, 98, 101, 103, 105, 110, 32, 40, 112, 45].append [98, 33, 32, 120, 32, 121, 41, 32, 48, 41, 41, 32, 40, 100, 101, 102, 105, 110, 101, 32, 40, 97, 115, 107, 32, 110, 41, 32, 40, 101, 113, 63, 32, 120, 32, 40, 112, 45, 98, 32, 40, 112, 45, 98, 32, 120, 41, 41, 41, 41]).toArray))) /\
 rp (en (av n)) 6 (rp (en (av n + (1 : Int))) 1 (rp (en (av n)) 1 (rp (en (av n + (1 : Int))) 1 (rp (en (av n)) 1 ((((s23.data.toList == (ByteArray.mk (#[35, 116])).data.toList) = true -> ((((aP (av n + 1 + 2)).data.toList == (aP (av n + 1 + 2)).data.toList) = true -> (aP (av n + 1 + 2) = aP (av n + 1 + 2)) /\
 (aP (av n + 1 + 2) = aP (av n + 1 + 2)) /\
 qt) /\ (((aP (av n + 1 + 2)).data.toList == (aP (av n + 1 + 2)).data.toList) = false -> (aP (av n + 1 + 2) = aP (av n + 1 + 2)) /\
 (aP (av n + 1 + 2) = aP (av n + 1 + 2)) /\
 ((SV.kb false : SV) = .kb true)))) /\ ((s23.data.toList == (ByteArray.mk (#[35, 116])).data.toList) = false -> ((SV.kb false : SV) = .kb true))))))))
set_option maxRecDepth 100000 in
theorem qW (n : Int) : (lW n) = (Qo [] [(257, Rm)] (lV n) 9 [any n]).holds fun y => y.1 = .kb true := by
 kernel_rfl
set_option maxRecDepth 100000 in
theorem rR (n : Int) : lW n := by
 obtain ⟨h0, h1, h2, h3, h4, h5, h6, h7⟩ := fx n
 unfold lW
 refine ⟨by simp only [ByteArray.size_append, jh, List.size_toArray, List.length_cons, List.length_nil, List.append_eq, List.length_append]; omega, ?_⟩
 refine ⟨by simp only [ByteArray.size_append, jh, List.size_toArray, List.length_cons, List.length_nil, List.append_eq, List.length_append]; omega, ?_⟩
 refine ⟨rfl, ?_⟩
 iterate 5 refine aM rfl _ ?_
 refine ⟨fun _ => ?_, fun h => absurd ((show (s23.data.toList == (ByteArray.mk (#[35, 116])).data.toList) = true by first | exact beq_self_eq_true _ | (rw [beq_iff_eq]; simp only [vZ, vF, List.append_assoc, List.nil_append, SE]; try kernel_rfl)).symm.trans h) (by decide)⟩
 refine ⟨fun _ => ?_, fun h => absurd ((show ((aP (av n + 1 + 2)).data.toList == (aP (av n + 1 + 2)).data.toList) = true by first | exact beq_self_eq_true _ | (rw [beq_iff_eq]; simp only [vZ, vF, List.append_assoc, List.nil_append]; try kernel_rfl)).symm.trans h) (by decide)⟩
 refine ⟨rfl, ?_⟩
 refine ⟨rfl, ?_⟩
 rfl
theorem vX (n : Int) : TOk (lV n) := (zf (mH (t34 n) (mH (t74 n) (mH (X5 n) aj))) (zf (mH (t47 n) (mH (t95 n) (mH (XW n) aj))) ak))
theorem vg (n : Int) : (Qo [] [(257, Rm)] (lV n) 9 [any n]).holds fun y => y.1 = .kb true := by
 rw [← qW]
 exact rR n
set_option maxRecDepth 100000 in
theorem sF (n : Int) {w : World} {vs : List Value} (hgl : Pers C0.W w Glob.ok) (hr : relL C0 w [any n] vs) : Calls prog 9 vs.toArray w fun e w' => e = .returned (.bool true) /\ Same w w' := by
 · exact Ol au (vX n) hgl hr (vg n)
end Gv
