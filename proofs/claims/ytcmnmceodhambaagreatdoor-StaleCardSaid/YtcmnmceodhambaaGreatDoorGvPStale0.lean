/- Told parts of Stale. Printed by gvgen.py. -/
import Derived.Test.YtcmnmceodhambaaGreatDoorGvUStale
set_option linter.unusedSimpArgs false
set_option linter.unusedVariables false
set_option maxRecDepth 100000
open Rx Go
namespace Gv.LStale
open Gv Rd
theorem t0 (n m : Int) : aH prog 127 (e0 n m) := aB [] av (by kernel_rfl) (by kernel_rfl) (q := rp ((.mp (.int .i64) .bool [] : Ob) = .mp (.int .i64) .bool []) 1 (qt))
 (au rfl _ rfl)
 (by kernel_rfl)
theorem t1 (n m : Int) : aH prog 60 (e1 n m) := aB [] (tk (f := 127) (tc 1 (t0 n m) aj) av) (by kernel_rfl) (by kernel_rfl) (q := qt)
 rfl
 (by kernel_rfl)
theorem t2 (n m : Int) : aH prog 45 (e2 n m) := aB [] av (by kernel_rfl) (by kernel_rfl) (q := qt)
 rfl
 (by kernel_rfl)
theorem t3 (n m : Int) : aH prog 30 (e3 n m) := aB [] (tk (f := 60) (tc 1 (t1 n m) aj) (tk (f := 45) (tc 2 (t2 n m) aj) av)) (by kernel_rfl) (by kernel_rfl) (q := qt)
 rfl
 (by kernel_rfl)
theorem t4 (n m : Int) : aH prog 22 (e4 n m) := aB [] (tk (f := 30) (tc 2 (t3 n m) aj) av) (by kernel_rfl) (by kernel_rfl) (q := qt)
 rfl
 (by kernel_rfl)
theorem t5 (n m : Int) : aH prog 28 (e5 n m) := aB [] (tk (f := 45) (tc 2 (t2 n m) aj) av) (by kernel_rfl) (by kernel_rfl) (q := rp ((D (.arr 4 2 (dxL [(sy s7), (sy s8)])) : SV) = D (.arr 4 2 (dxL [(sy s7), (sy s8)]))) 1 (rp ((D (.arr 4 2 (dxL [(sy s10), (sy s8)])) : SV) = D (.arr 4 2 (dxL [(sy s10), (sy s8)]))) 1 (rp ((D (.arr 4 2 (dxL [(sy s12), (sy s8)])) : SV) = D (.arr 4 2 (dxL [(sy s12), (sy s8)]))) 1 (rp ((D (.arr 4 3 (dxL [(sy s2), (nu 0 99 (ah n)), (nu 0 99 (ah m))])) : SV) = D (.arr 4 3 (dxL [(sy s2), (nu 0 99 (ah n)), (nu 0 99 (ah m))]))) 1 (rp ((D (.arr 4 2 (dxL [(sy s9), (sy s6)])) : SV) = D (.arr 4 2 (dxL [(sy s9), (sy s6)]))) 1 (rp ((D (.arr 4 2 (dxL [(sy s11), (sy s6)])) : SV) = D (.arr 4 2 (dxL [(sy s11), (sy s6)]))) 1 (rp ((D (.arr 4 3 (dxL [(sy s2), (sy s8), (sy s8)])) : SV) = D (.arr 4 3 (dxL [(sy s2), (sy s8), (sy s8)]))) 1 (rp (en (ah m)) 1 (rp (((dxL []) : Nat -> Nat -> Dt) = (dxL [])) 2 (rp (en (ah n)) 1 (qt)))))))))))
 (au rfl _ (au rfl _ (au rfl _ (au rfl _ (au rfl _ (au rfl _ (au rfl _ (au rfl _ (au rfl _ (au rfl _ rfl))))))))))
 (by kernel_rfl)
theorem t6 (n m : Int) : aH prog 45 (e6 n m) := aB [] av (by kernel_rfl) (by kernel_rfl) (q := qt)
 rfl
 (by kernel_rfl)
theorem t7 (n m : Int) : aH prog 63 (e7 n m) := aB [] av (by kernel_rfl) (by kernel_rfl) (q := qt)
 rfl
 (by kernel_rfl)
theorem t8 (n m : Int) : aH prog 60 (e8 n m) := aB [] (tk (f := 127) (tc 1 (t0 n m) aj) av) (by kernel_rfl) (by kernel_rfl) (q := qt)
 rfl
 (by kernel_rfl)
theorem t9 (n m : Int) : aH prog 66 (e9 n m) := aB [] (tk (f := 60) (tc 26 (t8 n m) (tc 42 (t8 n m) (tc 73 (t8 n m) (tc 85 (t8 n m) aj)))) (tk (f := 127) (tc 26 (t0 n m) (tc 42 (t0 n m) (tc 73 (t0 n m) (tc 85 (t0 n m) aj)))) av)) (by kernel_rfl) (by kernel_rfl) (q := qt)
 rfl
 (by kernel_rfl)
theorem t10 (n m : Int) : aH prog 66 (e10 n m) := aB [] av (by kernel_rfl) (by kernel_rfl) (q := qt)
 rfl
 (by kernel_rfl)
theorem t11 (n m : Int) : aH prog 66 (e11 n m) := aB [] av (by kernel_rfl) (by kernel_rfl) (q := qt)
 rfl
 (by kernel_rfl)
theorem t12 (n m : Int) : aH prog 66 (e12 n m) := aB [] av (by kernel_rfl) (by kernel_rfl) (q := qt)
 rfl
 (by kernel_rfl)
theorem t13 (n m : Int) : aH prog 30 (e13 n m) := aB [] (tk (f := 60) (tc 10 (t1 n m) (tc 34 (t1 n m) (tc 39 (t1 n m) (tc 44 (t1 n m) (tc 49 (t1 n m) aj))))) (tk (f := 45) (tc 26 (t6 n m) aj) (tk (f := 63) (tc 27 (t7 n m) aj) (tk (f := 66) (tc 28 (t9 n m) (tc 29 (t10 n m) (tc 30 (t11 n m) (tc 31 (t12 n m) aj)))) (tk (f := 127) (tc 34 (t0 n m) (tc 39 (t0 n m) (tc 44 (t0 n m) (tc 49 (t0 n m) aj)))) av))))) (by kernel_rfl) (by kernel_rfl) (q := rp (en (ah m)) 1 (rp (en (ah n)) 1 (rp (en (ah m)) 1 (rp (en (ah n)) 1 (qt)))))
 (au rfl _ (au rfl _ (au rfl _ (au rfl _ rfl))))
 (by kernel_rfl)
theorem t14 (n m : Int) : aH prog 127 (e14 n m) := aB [] av (by kernel_rfl) (by kernel_rfl) (q := rp ((.mp (.int .i64) .bool [((0 : Int), true)] : Ob) = .mp (.int .i64) .bool [((0 : Int), true)]) 1 (qt))
 (au rfl _ rfl)
 (by kernel_rfl)
theorem t15 (n m : Int) : aH prog 60 (e15 n m) := aB [] (tk (f := 127) (tc 2 (t14 n m) aj) av) (by kernel_rfl) (by kernel_rfl) (q := qt)
 rfl
 (by kernel_rfl)
theorem t16 (n m : Int) : aH prog 57 (e16 n m) := aB [] (tk (f := 30) (tc 14 (t13 n m) aj) (tk (f := 60) (tc 8370 (t1 n m) (tc 8438 (t15 n m) aj)) av)) (by kernel_rfl) (by kernel_rfl) (q := rp (en (ah m)) 1 (rp (en (ah n)) 1 (rp (en (ah m)) 1 (rp (en (ah n)) 1 (qt)))))
 (au rfl _ (au rfl _ (au rfl _ (au rfl _ rfl))))
 (by kernel_rfl)
theorem t17 (n m : Int) : aH prog 63 (e17 n m) := aB [] av (by kernel_rfl) (by kernel_rfl) (q := qt)
 rfl
 (by kernel_rfl)
theorem t18 (n m : Int) : aH prog 30 (e18 n m) := aB [] (tk (f := 60) (tc 11 (t15 n m) (tc 35 (t15 n m) (tc 40 (t15 n m) (tc 45 (t15 n m) (tc 50 (t15 n m) aj))))) (tk (f := 45) (tc 27 (t6 n m) aj) (tk (f := 63) (tc 28 (t17 n m) aj) (tk (f := 66) (tc 29 (t9 n m) (tc 30 (t10 n m) (tc 31 (t11 n m) (tc 32 (t12 n m) aj)))) (tk (f := 127) (tc 35 (t14 n m) (tc 40 (t14 n m) (tc 45 (t14 n m) (tc 50 (t14 n m) aj)))) av))))) (by kernel_rfl) (by kernel_rfl) (q := rp (en (ah m)) 1 (rp (en (ah n)) 1 (rp (en (ah m)) 1 (rp (en (ah n)) 1 (qt)))))
 (au rfl _ (au rfl _ (au rfl _ (au rfl _ rfl))))
 (by kernel_rfl)
theorem t19 (n m : Int) : aH prog 127 (e19 n m) := aB [] av (by kernel_rfl) (by kernel_rfl) (q := rp ((.mp (.int .i64) .bool [((0 : Int), true), ((2 : Int), true)] : Ob) = .mp (.int .i64) .bool [((0 : Int), true), ((2 : Int), true)]) 1 (qt))
 (au rfl _ rfl)
 (by kernel_rfl)
theorem t20 (n m : Int) : aH prog 60 (e20 n m) := aB [] (tk (f := 127) (tc 2 (t19 n m) aj) av) (by kernel_rfl) (by kernel_rfl) (q := qt)
 rfl
 (by kernel_rfl)
theorem t21 (n m : Int) : aH prog 57 (e21 n m) := aB [] (tk (f := 30) (tc 15 (t18 n m) aj) (tk (f := 60) (tc 8371 (t15 n m) (tc 8439 (t20 n m) aj)) av)) (by kernel_rfl) (by kernel_rfl) (q := rp (en (ah m)) 1 (rp (en (ah n)) 1 (rp (en (ah m)) 1 (rp (en (ah n)) 1 (qt)))))
 (au rfl _ (au rfl _ (au rfl _ (au rfl _ rfl))))
 (by kernel_rfl)
end Gv.LStale
set_option linter.unusedSimpArgs false
set_option linter.unusedVariables false
set_option maxRecDepth 100000
open Rx Go
namespace Gv.LStale
open Gv Rd
theorem t22 (n m : Int) : aH prog 30 (e22 n m) := aB [] (tk (f := 60) (tc 11 (t20 n m) (tc 35 (t20 n m) (tc 40 (t20 n m) (tc 45 (t20 n m) (tc 50 (t20 n m) aj))))) (tk (f := 45) (tc 27 (t6 n m) aj) (tk (f := 63) (tc 28 (t17 n m) aj) (tk (f := 66) (tc 29 (t9 n m) (tc 30 (t10 n m) (tc 31 (t11 n m) (tc 32 (t12 n m) aj)))) (tk (f := 127) (tc 35 (t19 n m) (tc 40 (t19 n m) (tc 45 (t19 n m) (tc 50 (t19 n m) aj)))) av))))) (by kernel_rfl) (by kernel_rfl) (q := rp (en (ah m)) 1 (rp (en (ah n)) 1 (rp (en (ah m)) 1 (rp (en (ah n)) 1 (qt)))))
 (au rfl _ (au rfl _ (au rfl _ (au rfl _ rfl))))
 (by kernel_rfl)
theorem t23 (n m : Int) : aH prog 127 (e23 n m) := aB [] av (by kernel_rfl) (by kernel_rfl) (q := rp ((.mp (.int .i64) .bool [((0 : Int), true), ((2 : Int), true), ((4 : Int), true)] : Ob) = .mp (.int .i64) .bool [((0 : Int), true), ((2 : Int), true), ((4 : Int), true)]) 1 (qt))
 (au rfl _ rfl)
 (by kernel_rfl)
theorem t24 (n m : Int) : aH prog 60 (e24 n m) := aB [] (tk (f := 127) (tc 2 (t23 n m) aj) av) (by kernel_rfl) (by kernel_rfl) (q := qt)
 rfl
 (by kernel_rfl)
theorem t25 (n m : Int) : aH prog 57 (e25 n m) := aB [] (tk (f := 30) (tc 15 (t22 n m) aj) (tk (f := 60) (tc 8371 (t20 n m) (tc 8439 (t24 n m) aj)) av)) (by kernel_rfl) (by kernel_rfl) (q := rp (en (ah m)) 1 (rp (en (ah n)) 1 (rp (en (ah m)) 1 (rp (en (ah n)) 1 (qt)))))
 (au rfl _ (au rfl _ (au rfl _ (au rfl _ rfl))))
 (by kernel_rfl)
theorem t26 (n m : Int) : aH prog 30 (e26 n m) := aB [] (tk (f := 60) (tc 11 (t24 n m) (tc 35 (t24 n m) (tc 40 (t24 n m) (tc 45 (t24 n m) (tc 50 (t24 n m) aj))))) (tk (f := 45) (tc 27 (t6 n m) aj) (tk (f := 63) (tc 28 (t17 n m) aj) (tk (f := 66) (tc 29 (t9 n m) (tc 30 (t10 n m) (tc 31 (t11 n m) (tc 32 (t12 n m) aj)))) (tk (f := 127) (tc 35 (t23 n m) (tc 40 (t23 n m) (tc 45 (t23 n m) (tc 50 (t23 n m) aj)))) av))))) (by kernel_rfl) (by kernel_rfl) (q := rp (en (ah m)) 1 (rp (en (ah n)) 1 (rp (en (ah m)) 1 (rp (en (ah n)) 1 (qt)))))
 (au rfl _ (au rfl _ (au rfl _ (au rfl _ rfl))))
 (by kernel_rfl)
theorem t27 (n m : Int) : aH prog 59 (e27 n m) := aB [] (tk (f := 30) (tc 15 (t26 n m) aj) (tk (f := 66) (tc 176 (t9 n m) aj) av)) (by kernel_rfl) (by kernel_rfl) (q := rp (en (ah m)) 1 (rp (en (ah n)) 1 (rp (en (ah m)) 1 (rp (en (ah n)) 1 (rp (en (ah m)) 1 (rp (en (ah n)) 1 (rp (en (ah m)) 1 (rp (en (ah n)) 1 (qt)))))))))
 (au rfl _ (au rfl _ (au rfl _ (au rfl _ (au rfl _ (au rfl _ (au rfl _ (au rfl _ rfl))))))))
 (by kernel_rfl)
end Gv.LStale
set_option linter.unusedSimpArgs false
set_option linter.unusedVariables false
set_option maxRecDepth 100000
open Rx Go
namespace Gv.LStale
open Gv Rd
theorem t28 (n m : Int) : aH prog 29 (e28 n m) := aB [] (tk (f := 30) (tc 18 (t3 n m) (tc 599 (t13 n m) aj)) (tk (f := 57) (tc 604 (t16 n m) (tc 622 (t21 n m) (tc 641 (t25 n m) aj))) (tk (f := 59) (tc 660 (t27 n m) aj) av))) (by kernel_rfl) (by kernel_rfl) (q := rp (en (ah m)) 1 (rp (en (ah n)) 1 (rp (en (ah m)) 1 (rp (en (ah n)) 1 (rp (en (ah m)) 1 (rp (en (ah n)) 1 (rp (en (ah m)) 1 (rp (en (ah n)) 1 (rp (en (ah m)) 1 (rp (en (ah n)) 1 (rp (en (ah m)) 1 (rp (en (ah n)) 1 (rp (en (ah m)) 1 (rp (en (ah n)) 1 (rp (en (ah m)) 1 (rp (en (ah n)) 1 (qt)))))))))))))))))
 (au rfl _ (au rfl _ (au rfl _ (au rfl _ (au rfl _ (au rfl _ (au rfl _ (au rfl _ (au rfl _ (au rfl _ (au rfl _ (au rfl _ (au rfl _ (au rfl _ (au rfl _ (au rfl _ rfl))))))))))))))))
 (by kernel_rfl)
theorem t29 (n m : Int) : aH prog 39 (e29 n m) := aB [(2, [(ls [(sy s1), (sy s2), (sy s3), (sy s4)]), (ls [(sy s5), (sy s6), (ls [(sy s2), (nu 0 99 (ah n)), (nu 0 99 (ah m))])]), (ls [(sy s5), (ls [(sy s7), (sy s8)]), (ls [(sy s9), (sy s6)])]), (ls [(sy s5), (ls [(sy s10), (sy s8)]), (ls [(sy s11), (sy s6)])]), (ls [(sy s5), (ls [(sy s12), (sy s8)]), (ls [(sy s2), (sy s8), (sy s8)])])])] (tk (f := 22) (tc 2 (t4 n m) aj) (tk (f := 28) (tc 3 (t5 n m) aj) (tk (f := 29) (tc 19 (t28 n m) aj) av))) (by kernel_rfl) (by kernel_rfl) (q := ((s16 ++ aC (ah n) ++ s17 ++ aC (ah m) ++ s18).size <= 3000 /\ oC 400 (s16 ++ aC (ah n) ++ s17 ++ aC (ah m) ++ s18) = some (RR.mk (oU ([ls [sy (ByteArray.mk (#[114, 101, 99, 111, 114, 100])), sy (ByteArray.mk (#[112])), sy (ByteArray.mk (#[97])), sy (ByteArray.mk (#[98]))], ls [sy (ByteArray.mk (#[100, 101, 102, 105, 110, 101])), sy (ByteArray.mk (#[120])), ls [sy (ByteArray.mk (#[112])), nu 0 99 (ah n), nu 0 99 (ah m)]], ls [sy (ByteArray.mk (#[100, 101, 102, 105, 110, 101])), ls [sy (ByteArray.mk (#[102])), sy (ByteArray.mk (#[110]))], ls [sy (ByteArray.mk (#[112, 45, 97])), sy (ByteArray.mk (#[120]))]], ls [sy (ByteArray.mk (#[100, 101, 102, 105, 110, 101])), ls [sy (ByteArray.mk (#[103])), sy (ByteArray.mk (#[110]))], ls [sy (ByteArray.mk (#[112, 45, 98])), sy (ByteArray.mk (#[120]))]], ls [sy (ByteArray.mk (#[100, 101, 102, 105, 110, 101])), ls [sy (ByteArray.mk (#[104])), sy (ByteArray.mk (#[110]))], ls [sy (ByteArray.mk (#[112])), sy (ByteArray.mk (#[110])), sy (ByteArray.mk (#[110]))]]])) 0 0) /\ nJ ([ls [sy (ByteArray.mk (#[114, 101, 99, 111, 114, 100])), sy (ByteArray.mk (#[112])), sy (ByteArray.mk (#[97])), sy (ByteArray.mk (#[98]))], ls [sy (ByteArray.mk (#[100, 101, 102, 105, 110, 101])), sy (ByteArray.mk (#[120])), ls [sy (ByteArray.mk (#[112])), nu 0 99 (ah n), nu 0 99 (ah m)]], ls [sy (ByteArray.mk (#[100, 101, 102, 105, 110, 101])), ls [sy (ByteArray.mk (#[102])), sy (ByteArray.mk (#[110]))], ls [sy (ByteArray.mk (#[112, 45, 97])), sy (ByteArray.mk (#[120]))]], ls [sy (ByteArray.mk (#[100, 101, 102, 105, 110, 101])), ls [sy (ByteArray.mk (#[103])), sy (ByteArray.mk (#[110]))], ls [sy (ByteArray.mk (#[112, 45, 98])), sy (ByteArray.mk (#[120]))]], ls [sy (ByteArray.mk (#[100, 101, 102, 105, 110, 101])), ls [sy (ByteArray.mk (#[104])), sy (ByteArray.mk (#[110]))], ls [sy (ByteArray.mk (#[112])), sy (ByteArray.mk (#[110])), sy (ByteArray.mk (#[110]))]]])) /\
 rp (((dxL [(ls [(sy s1), (sy s2), (sy s3), (sy s4)]), (ls [(sy s5), (sy s6), (ls [(sy s2), (nu 0 99 (ah n)), (nu 0 99 (ah m))])]), (ls [(sy s5), (ls [(sy s7), (sy s8)]), (ls [(sy s9), (sy s6)])]), (ls [(sy s5), (ls [(sy s10), (sy s8)]), (ls [(sy s11), (sy s6)])]), (ls [(sy s5), (ls [(sy s12), (sy s8)]), (ls [(sy s2), (sy s8), (sy s8)])])]) : Nat -> Nat -> Dt) = (dxL [(ls [(sy s1), (sy s2), (sy s3), (sy s4)]), (ls [(sy s5), (sy s6), (ls [(sy s2), (nu 0 99 (ah n)), (nu 0 99 (ah m))])]), (ls [(sy s5), (ls [(sy s7), (sy s8)]), (ls [(sy s9), (sy s6)])]), (ls [(sy s5), (ls [(sy s10), (sy s8)]), (ls [(sy s11), (sy s6)])]), (ls [(sy s5), (ls [(sy s12), (sy s8)]), (ls [(sy s2), (sy s8), (sy s8)])])])) 1 (rp (en (ah m)) 1 (rp (((dxL []) : Nat -> Nat -> Dt) = (dxL [])) 2 (rp (en (ah n)) 1 (rp (en (ah m)) 1 (rp (en (ah n)) 1 (rp (en (ah m)) 1 (rp (en (ah n)) 1 (rp (en (ah m)) 1 (rp (en (ah n)) 1 (qt)))))))))))
 (by
 obtain ⟨h0, h1, h2, h3, h4, h5, h6, h7, h8, h9⟩ := fx n m
 refine ⟨QS (by repeat first | exact UW | apply QN | apply VZ | exact VR (by kernel_rfl) | exact TN (by omega) (by omega) | exact VT (by omega) (by omega) (by omega) (by omega)) (by simp only [ByteArray.size_append, bU, List.size_toArray, List.length_cons, List.length_nil, List.append_eq, List.length_append, VX, Wm, V7]; omega) (by (simp only [lU, lH, List.append_assoc, List.nil_append, Wx, Sy, Wy]) <;> kernel_rfl) (by kernel_rfl) (by kernel_rfl) (by kernel_rfl), ?_⟩
 iterate 10 refine au rfl _ ?_
 rfl
 )
  (by kernel_rfl)
end Gv.LStale
set_option linter.unusedSimpArgs false
set_option linter.unusedVariables false
set_option maxRecDepth 100000
open Rx Go
namespace Gv.LStale
open Gv Rd
theorem t30 (n m : Int) : aH prog 127 (e30 n m) := aB [] av (by kernel_rfl) (by kernel_rfl) (q := rp ((.mp (.int .i64) .bool [((0 : Int), true), ((2 : Int), true), ((4 : Int), true), ((6 : Int), true)] : Ob) = .mp (.int .i64) .bool [((0 : Int), true), ((2 : Int), true), ((4 : Int), true), ((6 : Int), true)]) 1 (qt))
 (au rfl _ rfl)
 (by kernel_rfl)
theorem t31 (n m : Int) : aH prog 60 (e31 n m) := aB [] (tk (f := 127) (tc 2 (t30 n m) aj) av) (by kernel_rfl) (by kernel_rfl) (q := rp (en (ah m)) 1 (rp (en (ah n)) 1 (qt)))
 (au rfl _ (au rfl _ rfl))
 (by kernel_rfl)
theorem t32 (n m : Int) : aH prog 63 (e32 n m) := aB [] av (by kernel_rfl) (by kernel_rfl) (q := qt)
 rfl
 (by kernel_rfl)
theorem t33 (n m : Int) : aH prog 66 (e33 n m) := aB [] (tk (f := 60) (tc 26 (t8 n m) (tc 42 (t8 n m) (tc 73 (t8 n m) (tc 85 (t8 n m) aj)))) (tk (f := 127) (tc 26 (t0 n m) (tc 42 (t0 n m) (tc 73 (t0 n m) (tc 85 (t0 n m) aj)))) av)) (by kernel_rfl) (by kernel_rfl) (q := qt)
 rfl
 (by kernel_rfl)
theorem t34 (n m : Int) : aH prog 66 (e34 n m) := aB [] av (by kernel_rfl) (by kernel_rfl) (q := qt)
 rfl
 (by kernel_rfl)
theorem t35 (n m : Int) : aH prog 66 (e35 n m) := aB [] av (by kernel_rfl) (by kernel_rfl) (q := qt)
 rfl
 (by kernel_rfl)
theorem t36 (n m : Int) : aH prog 66 (e36 n m) := aB [] av (by kernel_rfl) (by kernel_rfl) (q := qt)
 rfl
 (by kernel_rfl)
theorem t37 (n m : Int) : aH prog 30 (e37 n m) := aB [] (tk (f := 60) (tc 12 (t31 n m) (tc 36 (t31 n m) (tc 41 (t31 n m) (tc 46 (t31 n m) (tc 51 (t31 n m) aj))))) (tk (f := 45) (tc 28 (t6 n m) aj) (tk (f := 63) (tc 29 (t32 n m) aj) (tk (f := 66) (tc 30 (t33 n m) (tc 31 (t34 n m) (tc 32 (t35 n m) (tc 33 (t36 n m) aj)))) (tk (f := 127) (tc 36 (t30 n m) (tc 41 (t30 n m) (tc 46 (t30 n m) (tc 51 (t30 n m) aj)))) av))))) (by kernel_rfl) (by kernel_rfl) (q := rp (en (ah m)) 1 (rp (en (ah n)) 1 (rp (en (ah m)) 1 (rp (en (ah n)) 1 (rp (en (ah m)) 1 (rp (en (ah n)) 1 (rp (en (ah m)) 1 (rp (en (ah n)) 1 (rp (en (ah m)) 1 (rp (en (ah n)) 1 (rp (en (ah m)) 1 (rp (en (ah n)) 1 (rp (en (ah m)) 1 (rp (en (ah n)) 1 (rp (en (ah m)) 1 (rp (en (ah n)) 1 (rp (en (ah m)) 1 (rp (en (ah n)) 1 (rp (en (ah m)) 1 (rp (en (ah n)) 1 (rp (en (ah m)) 1 (rp (en (ah n)) 1 (rp (en (ah m)) 1 (rp (en (ah n)) 1 (qt)))))))))))))))))))))))))
 (au rfl _ (au rfl _ (au rfl _ (au rfl _ (au rfl _ (au rfl _ (au rfl _ (au rfl _ (au rfl _ (au rfl _ (au rfl _ (au rfl _ (au rfl _ (au rfl _ (au rfl _ (au rfl _ (au rfl _ (au rfl _ (au rfl _ (au rfl _ (au rfl _ (au rfl _ (au rfl _ (au rfl _ rfl))))))))))))))))))))))))
 (by kernel_rfl)
theorem t38 (n m : Int) : aH prog 22 (e38 n m) := aB [] (tk (f := 30) (tc 13 (t37 n m) aj) av) (by kernel_rfl) (by kernel_rfl) (q := rp (en (ah m)) 1 (rp (en (ah n)) 1 (rp (en (ah m)) 1 (rp (en (ah n)) 1 (rp (en (ah m)) 1 (rp (en (ah n)) 1 (qt)))))))
 (au rfl _ (au rfl _ (au rfl _ (au rfl _ (au rfl _ (au rfl _ rfl))))))
 (by kernel_rfl)
theorem t39 (n m : Int) : aH prog 66 (e39 n m) := aB [] (tk (f := 60) (tc 42 (t8 n m) (tc 76 (t8 n m) aj)) (tk (f := 127) (tc 42 (t0 n m) (tc 76 (t0 n m) aj)) av)) (by kernel_rfl) (by kernel_rfl) (q := qt)
 rfl
 (by kernel_rfl)
theorem t40 (n m : Int) : aH prog 59 (e40 n m) := aB [] (tk (f := 30) (tc 17 (t37 n m) aj) (tk (f := 66) (tc 178 (t39 n m) aj) av)) (by kernel_rfl) (by kernel_rfl) (q := rp (en (ah m)) 1 (rp (en (ah n)) 1 (rp (en (ah m)) 1 (rp (en (ah n)) 1 (rp (en (ah m)) 1 (rp (en (ah n)) 3 (rp (en (ah m)) 1 (rp (en (ah n)) 1 (rp (en (ah m)) 1 (rp (en (ah n)) 1 (qt)))))))))))
 (au rfl _ (au rfl _ (au rfl _ (au rfl _ (au rfl _ (au rfl _ (au rfl _ (au rfl _ (au rfl _ (au rfl _ rfl))))))))))
 (by kernel_rfl)
theorem t41 (n m : Int) : aH prog 63 (e41 n m) := aB [] av (by kernel_rfl) (by kernel_rfl) (q := qt)
 rfl
 (by kernel_rfl)
end Gv.LStale
set_option linter.unusedSimpArgs false
set_option linter.unusedVariables false
set_option maxRecDepth 100000
open Rx Go
namespace Gv.LStale
open Gv Rd
theorem t42 (n m : Int) : aH prog 30 (e42 n m) := aB [] (tk (f := 60) (tc 12 (t31 n m) (tc 36 (t31 n m) (tc 41 (t31 n m) (tc 46 (t31 n m) (tc 51 (t31 n m) aj))))) (tk (f := 45) (tc 28 (t6 n m) aj) (tk (f := 63) (tc 29 (t41 n m) aj) (tk (f := 66) (tc 30 (t33 n m) (tc 31 (t34 n m) (tc 32 (t35 n m) (tc 33 (t36 n m) aj)))) (tk (f := 127) (tc 36 (t30 n m) (tc 41 (t30 n m) (tc 46 (t30 n m) (tc 51 (t30 n m) aj)))) av))))) (by kernel_rfl) (by kernel_rfl) (q := rp (en (ah m)) 1 (rp (en (ah n)) 1 (rp (en (ah m)) 1 (rp (en (ah n)) 1 (rp (en (ah m)) 1 (rp (en (ah n)) 1 (rp (en (ah m)) 1 (rp (en (ah n)) 1 (rp (en (ah m)) 1 (rp (en (ah n)) 1 (rp (en (ah m)) 1 (rp (en (ah n)) 1 (rp (en (ah m)) 1 (rp (en (ah n)) 1 (rp (en (ah m)) 1 (rp (en (ah n)) 1 (rp (en (ah m)) 1 (rp (en (ah n)) 1 (rp (en (ah m)) 1 (rp (en (ah n)) 1 (rp (en (ah m)) 1 (rp (en (ah n)) 1 (qt)))))))))))))))))))))))
 (au rfl _ (au rfl _ (au rfl _ (au rfl _ (au rfl _ (au rfl _ (au rfl _ (au rfl _ (au rfl _ (au rfl _ (au rfl _ (au rfl _ (au rfl _ (au rfl _ (au rfl _ (au rfl _ (au rfl _ (au rfl _ (au rfl _ (au rfl _ (au rfl _ (au rfl _ rfl))))))))))))))))))))))
 (by kernel_rfl)
theorem t43 (n m : Int) : aH prog 82 (e43 n m) := aB [] (tk (f := 30) (tc 14 (t42 n m) aj) (tk (f := 60) (tc 16 (t31 n m) (tc 25 (t31 n m) aj)) (tk (f := 127) (tc 16 (t30 n m) (tc 25 (t30 n m) aj)) av))) (by kernel_rfl) (by kernel_rfl) (q := rp (en (ah m)) 1 (rp (en (ah n)) 1 (rp (en (ah m)) 1 (rp (en (ah n)) 1 (rp (en (ah m)) 1 (rp (en (ah n)) 1 (rp (en (ah m)) 1 (rp (en (ah n)) 1 (rp (en (ah m)) 1 (rp (en (ah n)) 1 (rp (en (ah m)) 1 (rp (en (ah n)) 1 (((fun n_1 => n_1 + (aC (ah n)).size <= 100000) 0) /\
 (rG ((fun n_1 => n_1 + (aC (ah n)).size) 0) ((fun n_1 f => bP n_1 f (kP (aC (ah n)))) 0 row0)) /\
 (aC (ah n) = (ByteArray.mk ((kD ((fun n_1 => n_1 + (aC (ah n)).size) 0) ((fun n_1 f => bP n_1 f (kP (aC (ah n)))) 0 row0)).toArray))) /\
 rp (en (ah m)) 1 (rp (en (ah n)) 1 (rp (en (ah m)) 1 (rp (en (ah n)) 1 (qt)))))))))))))))))
 (by
 obtain ⟨h0, h1, h2, h3, h4, h5, h6, h7, h8, h9⟩ := fx n m
 iterate 12 refine au rfl _ ?_
 refine ⟨by simp only [ByteArray.size_append, bU, List.size_toArray, List.length_cons, List.length_nil, List.append_eq, List.length_append]; omega, ?_⟩
 refine ⟨l5 (gQ iR (aC (ah n))) (by simp only [ByteArray.size_append, bU, List.size_toArray, List.length_cons, List.length_nil, List.append_eq, List.length_append]; omega) (by simp only [ByteArray.size_append, bU, List.size_toArray, List.length_cons, List.length_nil, List.append_eq, List.length_append]; omega), ?_⟩
 refine ⟨zl (gQ iR (aC (ah n))) (by (simp only [lU, lH, List.append_assoc, List.nil_append]) <;> kernel_rfl), ?_⟩
 iterate 4 refine au rfl _ ?_
 rfl
 )
  (by kernel_rfl)
theorem t44 (n m : Int) : aH prog 40 (e44 n m) := aB [] (tk (f := 22) (tc 15 (t38 n m) aj) (tk (f := 59) (tc 88 (t40 n m) aj) (tk (f := 82) (tc 131162 (t43 n m) aj) av))) (by kernel_rfl) (by kernel_rfl) (q := rp (en (ah m)) 1 (rp (en (ah n)) 1 (rp (en (ah m)) 1 (rp (en (ah n)) 1 (rp (en (ah m)) 1 (rp (en (ah n)) 1 (rp (en (ah m)) 1 (rp (en (ah n)) 1 (rp (en (ah m)) 1 (rp (en (ah n)) 1 (rp (en (ah m)) 1 (rp (en (ah n)) 2 (rp (en (ah m)) 1 (rp (en (ah n)) 1 (rp (en (ah m)) 1 (rp (en (ah n)) 1 ((aC (ah n) = aC (ah n)) /\
 rp (en (ah m)) 1 (rp (en (ah n)) 1 (rp (en (ah m)) 1 (rp (en (ah n)) 1 (qt)))))))))))))))))))))
 (by
 obtain ⟨h0, h1, h2, h3, h4, h5, h6, h7, h8, h9⟩ := fx n m
 iterate 16 refine au rfl _ ?_
 refine ⟨rfl, ?_⟩
 iterate 4 refine au rfl _ ?_
 rfl
 )
  (by kernel_rfl)
theorem t45 (n m : Int) : aH prog 30 (e45 n m) := aB [] (tk (f := 60) (tc 11 (t31 n m) (tc 35 (t31 n m) (tc 40 (t31 n m) (tc 45 (t31 n m) (tc 50 (t31 n m) aj))))) (tk (f := 45) (tc 27 (t6 n m) aj) (tk (f := 63) (tc 28 (t17 n m) aj) (tk (f := 66) (tc 29 (t9 n m) (tc 30 (t10 n m) (tc 31 (t11 n m) (tc 32 (t12 n m) aj)))) (tk (f := 127) (tc 35 (t30 n m) (tc 40 (t30 n m) (tc 45 (t30 n m) (tc 50 (t30 n m) aj)))) av))))) (by kernel_rfl) (by kernel_rfl) (q := rp (en (ah m)) 1 (rp (en (ah n)) 1 (rp (en (ah m)) 1 (rp (en (ah n)) 1 (rp (en (ah m)) 1 (rp (en (ah n)) 1 (rp (en (ah m)) 1 (rp (en (ah n)) 1 (rp (en (ah m)) 1 (rp (en (ah n)) 1 (rp (en (ah m)) 1 (rp (en (ah n)) 1 (rp (en (ah m)) 1 (rp (en (ah n)) 1 (rp (en (ah m)) 1 (rp (en (ah n)) 1 (rp (en (ah m)) 1 (rp (en (ah n)) 1 (rp (en (ah m)) 1 (rp (en (ah n)) 1 (rp (en (ah m)) 1 (rp (en (ah n)) 1 (qt)))))))))))))))))))))))
 (au rfl _ (au rfl _ (au rfl _ (au rfl _ (au rfl _ (au rfl _ (au rfl _ (au rfl _ (au rfl _ (au rfl _ (au rfl _ (au rfl _ (au rfl _ (au rfl _ (au rfl _ (au rfl _ (au rfl _ (au rfl _ (au rfl _ (au rfl _ (au rfl _ (au rfl _ rfl))))))))))))))))))))))
 (by kernel_rfl)
theorem t46 (n m : Int) : aH prog 22 (e46 n m) := aB [] (tk (f := 30) (tc 12 (t45 n m) aj) av) (by kernel_rfl) (by kernel_rfl) (q := rp (en (ah m)) 1 (rp (en (ah n)) 1 (rp (en (ah m)) 1 (rp (en (ah n)) 1 (qt)))))
 (au rfl _ (au rfl _ (au rfl _ (au rfl _ rfl))))
 (by kernel_rfl)
theorem t47 (n m : Int) : aH prog 66 (e47 n m) := aB [] (tk (f := 60) (tc 43 (t8 n m) (tc 78 (t8 n m) aj)) (tk (f := 127) (tc 43 (t0 n m) (tc 78 (t0 n m) aj)) av)) (by kernel_rfl) (by kernel_rfl) (q := qt)
 rfl
 (by kernel_rfl)
end Gv.LStale
