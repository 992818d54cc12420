/- Told parts of Mutual. Printed by gvgen.py. -/
import Derived.Test.YtcmnmceodhambaaGreatDoorGvKMutual
set_option linter.unusedSimpArgs false
set_option linter.unusedVariables false
set_option maxRecDepth 100000
open Rx Go
namespace Gv.LMutual
open Gv Rd
theorem t0 (n : Int) : bW prog 127 (e0 n) := dK [] aJ (by kernel_rfl) (by kernel_rfl) (q := rp ((.mp (.int .i64) .bool [] : Ob) = .mp (.int .i64) .bool []) 1 (qt))
 (jc rfl _ rfl)
 (by kernel_rfl)
theorem t1 (n : Int) : bW prog 60 (e1 n) := dK [] (tk (f := 127) (tc 1 (t0 n) aD) aJ) (by kernel_rfl) (by kernel_rfl) (q := qt)
 rfl
 (by kernel_rfl)
theorem t2 (n : Int) : bW prog 45 (e2 n) := dK [] aJ (by kernel_rfl) (by kernel_rfl) (q := qt)
 rfl
 (by kernel_rfl)
theorem t3 (n : Int) : bW prog 30 (e3 n) := dK [] (tk (f := 60) (tc 1 (t1 n) aD) (tk (f := 45) (tc 2 (t2 n) aD) aJ)) (by kernel_rfl) (by kernel_rfl) (q := qt)
 rfl
 (by kernel_rfl)
theorem t4 (n : Int) : bW prog 22 (e4 n) := dK [] (tk (f := 30) (tc 2 (t3 n) aD) aJ) (by kernel_rfl) (by kernel_rfl) (q := qt)
 rfl
 (by kernel_rfl)
theorem t5 (n : Int) : bW prog 28 (e5 n) := dK [] (tk (f := 45) (tc 2 (t2 n) aD) aJ) (by kernel_rfl) (by kernel_rfl) (q := rp ((D (.arr 4 2 (dxL [(sy s2), (sy s3)])) : SV) = D (.arr 4 2 (dxL [(sy s2), (sy s3)]))) 1 (rp ((D (.arr 4 2 (dxL [(sy s6), (sy s3)])) : SV) = D (.arr 4 2 (dxL [(sy s6), (sy s3)]))) 1 (rp ((D (.arr 4 4 (dxL [(sy s4), (ls [(sy s5), (sy s3), (num 0)]), (Dx.mk 2 none 1 noS []), (ls [(sy s6), (ls [(sy s7), (sy s3), (num 1)])])])) : SV) = D (.arr 4 4 (dxL [(sy s4), (ls [(sy s5), (sy s3), (num 0)]), (Dx.mk 2 none 1 noS []), (ls [(sy s6), (ls [(sy s7), (sy s3), (num 1)])])]))) 1 (rp ((D (.arr 4 3 (dxL [(sy s5), (sy s3), (num 0)])) : SV) = D (.arr 4 3 (dxL [(sy s5), (sy s3), (num 0)]))) 1 (rp ((D (.arr 4 2 (dxL [(sy s6), (ls [(sy s7), (sy s3), (num 1)])])) : SV) = D (.arr 4 2 (dxL [(sy s6), (ls [(sy s7), (sy s3), (num 1)])]))) 1 (rp ((D (.arr 4 3 (dxL [(sy s7), (sy s3), (num 1)])) : SV) = D (.arr 4 3 (dxL [(sy s7), (sy s3), (num 1)]))) 1 (rp ((D (.arr 4 4 (dxL [(sy s4), (ls [(sy s5), (sy s3), (num 0)]), (Dx.mk 2 none 0 noS []), (ls [(sy s2), (ls [(sy s7), (sy s3), (num 1)])])])) : SV) = D (.arr 4 4 (dxL [(sy s4), (ls [(sy s5), (sy s3), (num 0)]), (Dx.mk 2 none 0 noS []), (ls [(sy s2), (ls [(sy s7), (sy s3), (num 1)])])]))) 1 (rp ((D (.arr 4 3 (dxL [(sy s5), (sy s3), (num 0)])) : SV) = D (.arr 4 3 (dxL [(sy s5), (sy s3), (num 0)]))) 1 (rp ((D (.arr 4 2 (dxL [(sy s2), (ls [(sy s7), (sy s3), (num 1)])])) : SV) = D (.arr 4 2 (dxL [(sy s2), (ls [(sy s7), (sy s3), (num 1)])]))) 1 (rp ((D (.arr 4 3 (dxL [(sy s7), (sy s3), (num 1)])) : SV) = D (.arr 4 3 (dxL [(sy s7), (sy s3), (num 1)]))) 1 (rp (((dxL []) : Nat -> Nat -> Dt) = (dxL [])) 6 (qt))))))))))))
 (jc rfl _ (jc rfl _ (jc rfl _ (jc rfl _ (jc rfl _ (jc rfl _ (jc rfl _ (jc rfl _ (jc rfl _ (jc rfl _ (jc rfl _ rfl)))))))))))
 (by kernel_rfl)
theorem t6 (n : Int) : bW prog 45 (e6 n) := dK [] aJ (by kernel_rfl) (by kernel_rfl) (q := qt)
 rfl
 (by kernel_rfl)
theorem t7 (n : Int) : bW prog 60 (e7 n) := dK [] (tk (f := 127) (tc 1 (t0 n) aD) aJ) (by kernel_rfl) (by kernel_rfl) (q := qt)
 rfl
 (by kernel_rfl)
theorem t8 (n : Int) : bW prog 66 (e8 n) := dK [] (tk (f := 60) (tc 43 (t7 n) (tc 113 (t7 n) (tc 139 (t7 n) (tc 173 (t7 n) (tc 193 (t7 n) (tc 237 (t7 n) aD)))))) (tk (f := 127) (tc 43 (t0 n) (tc 113 (t0 n) (tc 139 (t0 n) (tc 173 (t0 n) (tc 193 (t0 n) (tc 237 (t0 n) aD)))))) aJ)) (by kernel_rfl) (by kernel_rfl) (q := qt)
 rfl
 (by kernel_rfl)
theorem t9 (n : Int) : bW prog 66 (e9 n) := dK [] (tk (f := 60) (tc 43 (t7 n) (tc 112 (t7 n) (tc 138 (t7 n) (tc 172 (t7 n) (tc 192 (t7 n) (tc 235 (t7 n) aD)))))) (tk (f := 127) (tc 43 (t0 n) (tc 112 (t0 n) (tc 138 (t0 n) (tc 172 (t0 n) (tc 192 (t0 n) (tc 235 (t0 n) aD)))))) aJ)) (by kernel_rfl) (by kernel_rfl) (q := qt)
 rfl
 (by kernel_rfl)
theorem t10 (n : Int) : bW prog 30 (e10 n) := dK [] (tk (f := 60) (tc 5 (t1 n) (tc 17 (t1 n) (tc 22 (t1 n) aD))) (tk (f := 45) (tc 12 (t6 n) aD) (tk (f := 66) (tc 13 (t8 n) (tc 14 (t9 n) aD)) (tk (f := 127) (tc 17 (t0 n) (tc 22 (t0 n) aD)) aJ)))) (by kernel_rfl) (by kernel_rfl) (q := qt)
 rfl
 (by kernel_rfl)
theorem t11 (n : Int) : bW prog 127 (e11 n) := dK [] aJ (by kernel_rfl) (by kernel_rfl) (q := rp ((.mp (.int .i64) .bool [((0 : Int), true)] : Ob) = .mp (.int .i64) .bool [((0 : Int), true)]) 1 (qt))
 (jc rfl _ rfl)
 (by kernel_rfl)
theorem t12 (n : Int) : bW prog 60 (e12 n) := dK [] (tk (f := 127) (tc 2 (t11 n) aD) aJ) (by kernel_rfl) (by kernel_rfl) (q := qt)
 rfl
 (by kernel_rfl)
theorem t13 (n : Int) : bW prog 57 (e13 n) := dK [] (tk (f := 30) (tc 9 (t10 n) aD) (tk (f := 60) (tc 8346 (t1 n) (tc 8414 (t12 n) aD)) aJ)) (by kernel_rfl) (by kernel_rfl) (q := qt)
 rfl
 (by kernel_rfl)
theorem t14 (n : Int) : bW prog 30 (e14 n) := dK [] (tk (f := 60) (tc 6 (t12 n) (tc 18 (t12 n) (tc 23 (t12 n) aD))) (tk (f := 45) (tc 13 (t6 n) aD) (tk (f := 66) (tc 14 (t8 n) (tc 15 (t9 n) aD)) (tk (f := 127) (tc 18 (t11 n) (tc 23 (t11 n) aD)) aJ)))) (by kernel_rfl) (by kernel_rfl) (q := qt)
 rfl
 (by kernel_rfl)
theorem t15 (n : Int) : bW prog 127 (e15 n) := dK [] aJ (by kernel_rfl) (by kernel_rfl) (q := rp ((.mp (.int .i64) .bool [((0 : Int), true), ((2 : Int), true)] : Ob) = .mp (.int .i64) .bool [((0 : Int), true), ((2 : Int), true)]) 1 (qt))
 (jc rfl _ rfl)
 (by kernel_rfl)
theorem t16 (n : Int) : bW prog 60 (e16 n) := dK [] (tk (f := 127) (tc 2 (t15 n) aD) aJ) (by kernel_rfl) (by kernel_rfl) (q := qt)
 rfl
 (by kernel_rfl)
theorem t17 (n : Int) : bW prog 57 (e17 n) := dK [] (tk (f := 30) (tc 10 (t14 n) aD) (tk (f := 60) (tc 8347 (t12 n) (tc 8415 (t16 n) aD)) aJ)) (by kernel_rfl) (by kernel_rfl) (q := qt)
 rfl
 (by kernel_rfl)
end Gv.LMutual
set_option linter.unusedSimpArgs false
set_option linter.unusedVariables false
set_option maxRecDepth 100000
open Rx Go
namespace Gv.LMutual
open Gv Rd
theorem t18 (n : Int) : bW prog 29 (e18 n) := dK [] (tk (f := 30) (tc 16 (t3 n) (tc 672 (t10 n) aD)) (tk (f := 57) (tc 676 (t13 n) (tc 688 (t17 n) aD)) aJ)) (by kernel_rfl) (by kernel_rfl) (q := qt)
 rfl
 (by kernel_rfl)
theorem t19 (n : Int) : bW prog 39 (e19 n) := dK [(2, [(ls [(sy s1), (ls [(sy s2), (sy s3)]), (ls [(sy s4), (ls [(sy s5), (sy s3), (num 0)]), (Dx.mk 2 none 1 noS []), (ls [(sy s6), (ls [(sy s7), (sy s3), (num 1)])])])]), (ls [(sy s1), (ls [(sy s6), (sy s3)]), (ls [(sy s4), (ls [(sy s5), (sy s3), (num 0)]), (Dx.mk 2 none 0 noS []), (ls [(sy s2), (ls [(sy s7), (sy s3), (num 1)])])])])])] (tk (f := 22) (tc 2 (t4 n) aD) (tk (f := 28) (tc 3 (t5 n) aD) (tk (f := 29) (tc 17 (t18 n) aD) aJ))) (by kernel_rfl) (by kernel_rfl) (q := (s8.size <= 3000 /\ uj 400 s8 = some (RR.mk (sK ([ls [sy (ByteArray.mk (#[100, 101, 102, 105, 110, 101])), ls [sy (ByteArray.mk (#[101, 118, 101, 110])), sy (ByteArray.mk (#[110]))], ls [sy (ByteArray.mk (#[105, 102])), ls [sy (ByteArray.mk (#[61])), sy (ByteArray.mk (#[110])), num 0], Dx.mk 2 none 1 noS [], ls [sy (ByteArray.mk (#[111, 100, 100])), ls [sy (ByteArray.mk (#[45])), sy (ByteArray.mk (#[110])), num 1]]]], ls [sy (ByteArray.mk (#[100, 101, 102, 105, 110, 101])), ls [sy (ByteArray.mk (#[111, 100, 100])), sy (ByteArray.mk (#[110]))], ls [sy (ByteArray.mk (#[105, 102])), ls [sy (ByteArray.mk (#[61])), sy (ByteArray.mk (#[110])), num 0], Dx.mk 2 none 0 noS [], ls [sy (ByteArray.mk (#[101, 118, 101, 110])), ls [sy (ByteArray.mk (#[45])), sy (ByteArray.mk (#[110])), num 1]]]]])) 0 0) /\ uh ([ls [sy (ByteArray.mk (#[100, 101, 102, 105, 110, 101])), ls [sy (ByteArray.mk (#[101, 118, 101, 110])), sy (ByteArray.mk (#[110]))], ls [sy (ByteArray.mk (#[105, 102])), ls [sy (ByteArray.mk (#[61])), sy (ByteArray.mk (#[110])), num 0], Dx.mk 2 none 1 noS [], ls [sy (ByteArray.mk (#[111, 100, 100])), ls [sy (ByteArray.mk (#[45])), sy (ByteArray.mk (#[110])), num 1]]]], ls [sy (ByteArray.mk (#[100, 101, 102, 105, 110, 101])), ls [sy (ByteArray.mk (#[111, 100, 100])), sy (ByteArray.mk (#[110]))], ls [sy (ByteArray.mk (#[105, 102])), ls [sy (ByteArray.mk (#[61])), sy (ByteArray.mk (#[110])), num 0], Dx.mk 2 none 0 noS [], ls [sy (ByteArray.mk (#[101, 118, 101, 110])), ls [sy (ByteArray.mk (#[45])), sy (ByteArray.mk (#[110])), num 1]]]]])) /\
 rp (((dxL [(ls [(sy s1), (ls [(sy s2), (sy s3)]), (ls [(sy s4), (ls [(sy s5), (sy s3), (num 0)]), (Dx.mk 2 none 1 noS []), (ls [(sy s6), (ls [(sy s7), (sy s3), (num 1)])])])]), (ls [(sy s1), (ls [(sy s6), (sy s3)]), (ls [(sy s4), (ls [(sy s5), (sy s3), (num 0)]), (Dx.mk 2 none 0 noS []), (ls [(sy s2), (ls [(sy s7), (sy s3), (num 1)])])])])]) : Nat -> Nat -> Dt) = (dxL [(ls [(sy s1), (ls [(sy s2), (sy s3)]), (ls [(sy s4), (ls [(sy s5), (sy s3), (num 0)]), (Dx.mk 2 none 1 noS []), (ls [(sy s6), (ls [(sy s7), (sy s3), (num 1)])])])]), (ls [(sy s1), (ls [(sy s6), (sy s3)]), (ls [(sy s4), (ls [(sy s5), (sy s3), (num 0)]), (Dx.mk 2 none 0 noS []), (ls [(sy s2), (ls [(sy s7), (sy s3), (num 1)])])])])])) 1 (rp (((dxL []) : Nat -> Nat -> Dt) = (dxL [])) 6 (qt)))
 (by
 obtain ⟨h0, h1, h2, h3, h4⟩ := fx n
 refine ⟨⟨by decide, by kernel_rfl, by simp [uh, Dx.fits, ls, sy, num, nu]⟩, ?_⟩
 iterate 2 refine jc rfl _ ?_
 rfl
 )
  (by kernel_rfl)
theorem t20 (n : Int) : bW prog 30 (e20 n) := dK [] (tk (f := 60) (tc 6 (t16 n) (tc 18 (t16 n) (tc 23 (t16 n) aD))) (tk (f := 45) (tc 13 (t6 n) aD) (tk (f := 66) (tc 14 (t8 n) (tc 15 (t9 n) aD)) (tk (f := 127) (tc 18 (t15 n) (tc 23 (t15 n) aD)) aJ)))) (by kernel_rfl) (by kernel_rfl) (q := qt)
 rfl
 (by kernel_rfl)
end Gv.LMutual
