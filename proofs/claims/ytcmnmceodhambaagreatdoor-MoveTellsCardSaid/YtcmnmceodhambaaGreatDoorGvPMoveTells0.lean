/- Told parts of MoveTells. Printed by gvgen.py. -/
import Derived.Test.YtcmnmceodhambaaGreatDoorGvUMoveTells
set_option linter.unusedSimpArgs false
set_option linter.unusedVariables false
set_option maxRecDepth 100000
open Rx Go
namespace Gv.LMoveTells
open Gv Rd
theorem t0 (n m : Int) : aU prog 127 (e0 n m) := aP [] aD (by kernel_rfl) (by kernel_rfl) (q := rp ((.mp (.int .i64) .bool [] : Ob) = .mp (.int .i64) .bool []) 1 (qt))
 (av rfl _ rfl)
 (by kernel_rfl)
theorem t1 (n m : Int) : aU prog 60 (e1 n m) := aP [] (tk (f := 127) (tc 1 (t0 n m) aA) aD) (by kernel_rfl) (by kernel_rfl) (q := qt)
 rfl
 (by kernel_rfl)
theorem t2 (n m : Int) : aU prog 45 (e2 n m) := aP [] aD (by kernel_rfl) (by kernel_rfl) (q := qt)
 rfl
 (by kernel_rfl)
theorem t3 (n m : Int) : aU prog 30 (e3 n m) := aP [] (tk (f := 60) (tc 1 (t1 n m) aA) (tk (f := 45) (tc 2 (t2 n m) aA) aD)) (by kernel_rfl) (by kernel_rfl) (q := qt)
 rfl
 (by kernel_rfl)
theorem t4 (n m : Int) : aU prog 22 (e4 n m) := aP [] (tk (f := 30) (tc 2 (t3 n m) aA) aD) (by kernel_rfl) (by kernel_rfl) (q := qt)
 rfl
 (by kernel_rfl)
theorem t5 (n m : Int) : aU prog 28 (e5 n m) := aP [] (tk (f := 45) (tc 2 (t2 n m) aA) aD) (by kernel_rfl) (by kernel_rfl) (q := rp ((D (.arr 4 2 (dxL [(sy s7), (sy s8)])) : SV) = D (.arr 4 2 (dxL [(sy s7), (sy s8)]))) 1 (rp ((D (.arr 4 3 (dxL [(sy s2), (nu 0 999 (ah n)), (nu 0 999 (ah m))])) : SV) = D (.arr 4 3 (dxL [(sy s2), (nu 0 999 (ah n)), (nu 0 999 (ah m))]))) 1 (rp (en (ah m)) 1 (rp (((dxL []) : Nat -> Nat -> Dt) = (dxL [])) 2 (rp (en (ah n)) 1 (qt))))))
 (av rfl _ (av rfl _ (av rfl _ (av rfl _ (av rfl _ rfl)))))
 (by kernel_rfl)
theorem t6 (n m : Int) : aU prog 45 (e6 n m) := aP [] aD (by kernel_rfl) (by kernel_rfl) (q := qt)
 rfl
 (by kernel_rfl)
theorem t7 (n m : Int) : aU prog 63 (e7 n m) := aP [] aD (by kernel_rfl) (by kernel_rfl) (q := qt)
 rfl
 (by kernel_rfl)
theorem t8 (n m : Int) : aU prog 60 (e8 n m) := aP [] (tk (f := 127) (tc 1 (t0 n m) aA) aD) (by kernel_rfl) (by kernel_rfl) (q := qt)
 rfl
 (by kernel_rfl)
theorem t9 (n m : Int) : aU prog 66 (e9 n m) := aP [] (tk (f := 60) (tc 26 (t8 n m) (tc 42 (t8 n m) (tc 73 (t8 n m) (tc 85 (t8 n m) aA)))) (tk (f := 127) (tc 26 (t0 n m) (tc 42 (t0 n m) (tc 73 (t0 n m) (tc 85 (t0 n m) aA)))) aD)) (by kernel_rfl) (by kernel_rfl) (q := qt)
 rfl
 (by kernel_rfl)
theorem t10 (n m : Int) : aU prog 66 (e10 n m) := aP [] aD (by kernel_rfl) (by kernel_rfl) (q := qt)
 rfl
 (by kernel_rfl)
theorem t11 (n m : Int) : aU prog 30 (e11 n m) := aP [] (tk (f := 60) (tc 8 (t1 n m) (tc 24 (t1 n m) (tc 29 (t1 n m) aA))) (tk (f := 45) (tc 18 (t6 n m) aA) (tk (f := 63) (tc 19 (t7 n m) aA) (tk (f := 66) (tc 20 (t9 n m) (tc 21 (t10 n m) aA)) (tk (f := 127) (tc 24 (t0 n m) (tc 29 (t0 n m) aA)) aD))))) (by kernel_rfl) (by kernel_rfl) (q := rp (en (ah m)) 1 (rp (en (ah n)) 1 (rp (en (ah m)) 1 (rp (en (ah n)) 1 (qt)))))
 (av rfl _ (av rfl _ (av rfl _ (av rfl _ rfl))))
 (by kernel_rfl)
theorem t12 (n m : Int) : aU prog 127 (e12 n m) := aP [] aD (by kernel_rfl) (by kernel_rfl) (q := rp ((.mp (.int .i64) .bool [((0 : Int), true)] : Ob) = .mp (.int .i64) .bool [((0 : Int), true)]) 1 (qt))
 (av rfl _ rfl)
 (by kernel_rfl)
theorem t13 (n m : Int) : aU prog 60 (e13 n m) := aP [] (tk (f := 127) (tc 2 (t12 n m) aA) aD) (by kernel_rfl) (by kernel_rfl) (q := qt)
 rfl
 (by kernel_rfl)
theorem t14 (n m : Int) : aU prog 57 (e14 n m) := aP [] (tk (f := 30) (tc 12 (t11 n m) aA) (tk (f := 60) (tc 8358 (t1 n m) (tc 8426 (t13 n m) aA)) aD)) (by kernel_rfl) (by kernel_rfl) (q := rp (en (ah m)) 1 (rp (en (ah n)) 1 (rp (en (ah m)) 1 (rp (en (ah n)) 1 (qt)))))
 (av rfl _ (av rfl _ (av rfl _ (av rfl _ rfl))))
 (by kernel_rfl)
theorem t15 (n m : Int) : aU prog 63 (e15 n m) := aP [] aD (by kernel_rfl) (by kernel_rfl) (q := qt)
 rfl
 (by kernel_rfl)
theorem t16 (n m : Int) : aU prog 30 (e16 n m) := aP [] (tk (f := 60) (tc 9 (t13 n m) (tc 25 (t13 n m) (tc 30 (t13 n m) aA))) (tk (f := 45) (tc 19 (t6 n m) aA) (tk (f := 63) (tc 20 (t15 n m) aA) (tk (f := 66) (tc 21 (t9 n m) (tc 22 (t10 n m) aA)) (tk (f := 127) (tc 25 (t12 n m) (tc 30 (t12 n m) aA)) aD))))) (by kernel_rfl) (by kernel_rfl) (q := rp (en (ah m)) 1 (rp (en (ah n)) 1 (rp (en (ah m)) 1 (rp (en (ah n)) 1 (qt)))))
 (av rfl _ (av rfl _ (av rfl _ (av rfl _ rfl))))
 (by kernel_rfl)
theorem t17 (n m : Int) : aU prog 59 (e17 n m) := aP [] (tk (f := 30) (tc 13 (t16 n m) aA) (tk (f := 66) (tc 164 (t9 n m) aA) aD)) (by kernel_rfl) (by kernel_rfl) (q := rp (en (ah m)) 1 (rp (en (ah n)) 1 (rp (en (ah m)) 1 (rp (en (ah n)) 1 (rp (en (ah m)) 1 (rp (en (ah n)) 1 (rp (en (ah m)) 1 (rp (en (ah n)) 1 (qt)))))))))
 (av rfl _ (av rfl _ (av rfl _ (av rfl _ (av rfl _ (av rfl _ (av rfl _ (av rfl _ rfl))))))))
 (by kernel_rfl)
theorem t18 (n m : Int) : aU prog 29 (e18 n m) := aP [] (tk (f := 30) (tc 9 (t3 n m) (tc 339 (t11 n m) aA)) (tk (f := 57) (tc 344 (t14 n m) aA) (tk (f := 59) (tc 359 (t17 n m) aA) aD))) (by kernel_rfl) (by kernel_rfl) (q := rp (en (ah m)) 1 (rp (en (ah n)) 1 (rp (en (ah m)) 1 (rp (en (ah n)) 1 (rp (en (ah m)) 1 (rp (en (ah n)) 1 (rp (en (ah m)) 1 (rp (en (ah n)) 1 (rp (en (ah m)) 1 (rp (en (ah n)) 1 (rp (en (ah m)) 1 (rp (en (ah n)) 1 (qt)))))))))))))
 (av rfl _ (av rfl _ (av rfl _ (av rfl _ (av rfl _ (av rfl _ (av rfl _ (av rfl _ (av rfl _ (av rfl _ (av rfl _ (av rfl _ rfl))))))))))))
 (by kernel_rfl)
theorem t19 (n m : Int) : aU prog 39 (e19 n m) := aP [(2, [(ls [(sy s1), (sy s2), (sy s3), (sy s4)]), (ls [(sy s5), (sy s6), (ls [(sy s2), (nu 0 999 (ah n)), (nu 0 999 (ah m))])]), (ls [(sy s5), (ls [(sy s7), (sy s8)]), (sy s6)])])] (tk (f := 22) (tc 2 (t4 n m) aA) (tk (f := 28) (tc 3 (t5 n m) aA) (tk (f := 29) (tc 10 (t18 n m) aA) aD))) (by kernel_rfl) (by kernel_rfl) (q := ((s19 ++ ak (ah n) ++ s20 ++ ak (ah m) ++ s21).size <= 3000 /\ qy 400 (s19 ++ ak (ah n) ++ s20 ++ ak (ah m) ++ s21) = some (RR.mk (pI ([ls [sy (ByteArray.mk (#[114, 101, 99, 111, 114, 100])), sy (ByteArray.mk (#[112])), sy (ByteArray.mk (#[97])), sy (ByteArray.mk (#[98]))], ls [sy (ByteArray.mk (#[100, 101, 102, 105, 110, 101])), sy (ByteArray.mk (#[120])), ls [sy (ByteArray.mk (#[112])), nu 0 999 (ah n), nu 0 999 (ah m)]], ls [sy (ByteArray.mk (#[100, 101, 102, 105, 110, 101])), ls [sy (ByteArray.mk (#[115, 104, 111, 119])), sy (ByteArray.mk (#[110]))], sy (ByteArray.mk (#[120]))]])) 0 0) /\ nI ([ls [sy (ByteArray.mk (#[114, 101, 99, 111, 114, 100])), sy (ByteArray.mk (#[112])), sy (ByteArray.mk (#[97])), sy (ByteArray.mk (#[98]))], ls [sy (ByteArray.mk (#[100, 101, 102, 105, 110, 101])), sy (ByteArray.mk (#[120])), ls [sy (ByteArray.mk (#[112])), nu 0 999 (ah n), nu 0 999 (ah m)]], ls [sy (ByteArray.mk (#[100, 101, 102, 105, 110, 101])), ls [sy (ByteArray.mk (#[115, 104, 111, 119])), sy (ByteArray.mk (#[110]))], sy (ByteArray.mk (#[120]))]])) /\
 rp (((dxL [(ls [(sy s1), (sy s2), (sy s3), (sy s4)]), (ls [(sy s5), (sy s6), (ls [(sy s2), (nu 0 999 (ah n)), (nu 0 999 (ah m))])]), (ls [(sy s5), (ls [(sy s7), (sy s8)]), (sy s6)])]) : Nat -> Nat -> Dt) = (dxL [(ls [(sy s1), (sy s2), (sy s3), (sy s4)]), (ls [(sy s5), (sy s6), (ls [(sy s2), (nu 0 999 (ah n)), (nu 0 999 (ah m))])]), (ls [(sy s5), (ls [(sy s7), (sy s8)]), (sy s6)])])) 1 (rp (en (ah m)) 1 (rp (((dxL []) : Nat -> Nat -> Dt) = (dxL [])) 2 (rp (en (ah n)) 1 (rp (en (ah m)) 1 (rp (en (ah n)) 1 (rp (en (ah m)) 1 (rp (en (ah n)) 1 (rp (en (ah m)) 1 (rp (en (ah n)) 1 (qt)))))))))))
 (by
 obtain ⟨h0, h1, h2, h3, h4, h5, h6, h7, h8, h9⟩ := fx n m
 refine ⟨Rm (by repeat first | exact TN | apply QK | apply V8 | exact Vz (by kernel_rfl) | exact Ud (by omega) (by omega) | exact Wv (by omega) (by omega) (by omega) (by omega)) (by simp only [ByteArray.size_append, aM, List.size_toArray, List.length_cons, List.length_nil, List.append_eq, List.length_append, VR, Vv, Wo]; omega) (by (simp only [zu, zw, List.append_assoc, List.nil_append, Vr, PL, VP]) <;> kernel_rfl) (by kernel_rfl) (by kernel_rfl) (by kernel_rfl), ?_⟩
 iterate 10 refine av rfl _ ?_
 rfl
 )
  (by kernel_rfl)
theorem t20 (n m : Int) : aU prog 127 (e20 n m) := aP [] aD (by kernel_rfl) (by kernel_rfl) (q := rp ((.mp (.int .i64) .bool [((0 : Int), true), ((2 : Int), true)] : Ob) = .mp (.int .i64) .bool [((0 : Int), true), ((2 : Int), true)]) 1 (qt))
 (av rfl _ rfl)
 (by kernel_rfl)
theorem t21 (n m : Int) : aU prog 60 (e21 n m) := aP [] (tk (f := 127) (tc 2 (t20 n m) aA) aD) (by kernel_rfl) (by kernel_rfl) (q := rp (en (ah m)) 1 (rp (en (ah n)) 1 (qt)))
 (av rfl _ (av rfl _ rfl))
 (by kernel_rfl)
theorem t22 (n m : Int) : aU prog 63 (e22 n m) := aP [] aD (by kernel_rfl) (by kernel_rfl) (q := qt)
 rfl
 (by kernel_rfl)
end Gv.LMoveTells
