/- What the told parts of UpgradeChain are made of. Printed by gvgen.py. -/
import Derived.Test.YtkbdcpkbmfegdaaGreatDoorGvO
set_option linter.unusedVariables false
set_option maxRecDepth 100000
open Rx Go
namespace Gv.LUpgradeChain
open Gv Rd
noncomputable section
def s1 : ByteArray := ⟨#[114, 101, 99, 111, 114, 100]⟩
def s2 : ByteArray := ⟨#[112]⟩
def s3 : ByteArray := ⟨#[97]⟩
def s4 : ByteArray := ⟨#[100, 101, 102, 105, 110, 101]⟩
def s5 : ByteArray := ⟨#[120]⟩
def s6 : ByteArray := ⟨#[115, 104, 111, 119]⟩
def s7 : ByteArray := ⟨#[110]⟩
def s8 : ByteArray := ⟨#[112, 45, 97]⟩
def s9 : ByteArray := ⟨#[40, 114, 101, 99, 111, 114, 100, 32, 112, 32, 97, 41, 32, 40, 100, 101, 102, 105, 110, 101, 32, 120, 32, 40, 112, 32]⟩
def s10 : ByteArray := ⟨#[41, 41, 32, 40, 100, 101, 102, 105, 110, 101, 32, 40, 115, 104, 111, 119, 32, 110, 41, 32, 40, 112, 45, 97, 32, 120, 41, 41]⟩
theorem adP : s9.size = 26 := rfl
theorem adO : s9.data.toList = [40, 114, 101, 99, 111, 114, 100, 32, 112, 32, 97, 41, 32, 40, 100, 101, 102, 105, 110, 101, 32, 120, 32, 40, 112, 32] := rfl
theorem ade : s10.size = 28 := rfl
theorem adb : s10.data.toList = [41, 41, 32, 40, 100, 101, 102, 105, 110, 101, 32, 40, 115, 104, 111, 119, 32, 110, 41, 32, 40, 112, 45, 97, 32, 120, 41, 41] := rfl
abbrev eu (n : Int) : Int := aR n 100
def o0 : Ob := vc 108 9 1 [C 3, I 0, I 0, S s0, aY, S s5, I 0, aY, aY] false
def o1 : Ob := vc 122 4 2 [S s5, C 3, I 0, S s0, S s6, C 3, I 0, S s0] false
def o2 : Ob := vc 206 8 5 [C 1, I 0, I 0, S s0, S s0, I 0, I 0, S s0, C 1, I 0, I 0, S s0, S s0, I 0, I 0, S s0, C 9, I 0, I 0, S s5, S s0, I 0, I 0, S s0, C 21, I 0, I 0, S s2, S s3, I 0, I 0, S s0, C 14, I 0, I 0, S s0, S s0, I 0, I 0, S s0] false
def o3 : Ob := vc 119 4 2 [J, J, I 0, J, J, J, I 0, J] false
def o4 : Ob := vc 122 4 2 [S s5, J, J, J, S s6, J, J, J] false
def o5 : Ob := vc 114 3 2 [C 8, C 1, S s0, C 1, I 0, S s0] true
def o6 : Ob := vc 114 3 2 [C 8, C 1, S s0, C 1, I 0, S s0] false
def o7 : Ob := .mp (.int .i64) .bool [((0 : Int), true)]
def o8 : Ob := vc 122 4 2 [S s5, C 3, I 0, S s0, S s6, C 5, C 0, S s0] false
def o9 : Ob := vc 122 4 2 [S s5, C 5, C 2, S s0, S s6, C 5, C 0, S s0] false
def p0 : Ob := vc 211 2 1 [S s2, V 2 1 0 1] false
def p1 : Ob := vc 160 10 2 [S s5, C 11, I 0, I 0, S s0, aY, S s2, I 0, aY, V 4 9 0 1, S s6, C 6, I 0, I 0, S s0, aY, S s0, I 0, V 5 1 0 1, V 3 9 0 1] false
def p2 : Ob := vc 108 9 1 [C 13, I 0, I 0, S s0, aY, S s2, I 0, V 6 1 0 1, V 7 9 0 1] true
def p3 (n : Int) : Ob := vc 108 9 1 [C 1, C 1, D (.ri .i64 0 99 (eu n)), S s0, D (.arr 4 0 (dxL [])), S s0, I 0, aY, aY] false
def p4 : Ob := vc 119 4 2 [I 0, I 0, I 0, V 4 8 0 5, I 1, I 1, I 0, V 3 8 0 5] false
def p5 : Ob := vc 209 3 1 [S s2, V 2 2 0 1, aY] false
def p6 (n : Int) : Ob := vc 206 8 5 [C 1, I 0, I 0, S s0, S s0, I 0, I 0, S s0, C 1, I 0, I 0, S s0, S s0, I 0, I 0, S s0, C 2, I 0, I 0, S s0, S s0, C 1, .ri .i64 0 99 (eu n), S s0, C 19, C 1, I 0, S s2, S s0, I 0, I 0, S s0, C 14, I 0, I 0, S s0, S s0, I 0, I 0, S s0] false
def p7 : Ob := vc 209 3 1 [S s2, J, J] false
def p8 : Ob := vc 119 4 2 [I 0, I 0, I 0, V 5 8 0 5, I 1, I 1, I 0, V 4 8 0 5] false
def p9 : Ob := vc 209 3 1 [S s2, V 6 2 0 1, aY] false
def p10 : Ob := vc 209 3 1 [S s2, V 14 2 0 1, aY] false
def p11 : Ob := vc 211 2 1 [S s2, V 15 1 0 1] false
def p12 : Ob := vc 211 2 1 [S s2, V 7 1 0 1] false
def p13 (n : Int) : Ob := vc 114 3 6 [C 8, C 1, S s0, C 1, I 0, S s0, C 9, C 0, S s0, C 1, C 0, S s0, C 1, C 1, S s0, C 1, .ri .i64 0 99 (eu n), S s0] false
def a0 : SV := .agg [aY, aY, aY, aY, C 1000]
def a1 : SV := .agg [V 0 4 0 2, J, V 1 3 0 1, J, J]
def a2 : SV := .agg [V 0 4 0 2, V 1 4 0 2, V 2 3 0 1, J, J]
def a3 : SV := .agg [V 0 4 0 2, V 1 4 0 2, V 2 3 0 1, aY, C 1000]
def a4 : SV := .agg [V 0 4 0 2, V 1 4 0 2, V 2 3 0 1, V 3 3 0 2, C 1000]
def w0 (n : Int) : List (Option Ob) := [some p0, some p1, some (vc 9 1 1 [S s3] false), some p2, some (p3 n), some (vc 9 1 1 [S s7] false), some (vc 9 1 1 [S s3] true), some o0]
def e0 (n : Int) : TE := ⟨0, [aY], [], .tup [.nm 0, .kb true], [some (.mp (.int .i64) .bool [])]⟩
def e1 (n : Int) : TE := ⟨0, [.agg [aY, C 1000]], [], I 0, []⟩
def e2 (n : Int) : TE := ⟨0, [.agg [aY, aY]], [], I 0, []⟩
def e3 (n : Int) : TE := ⟨0, [a0], [], I 0, []⟩
def e4 (n : Int) : TE := ⟨0, [a0], [], .tup [.agg [aY, aY], I 0], []⟩
def e5 (n : Int) : TE := ⟨0, [D (.arr 4 3 (dxL [(ls [(sy s1), (sy s2), (sy s3)]), (ls [(sy s4), (sy s5), (ls [(sy s2), (nu 0 99 (eu n))])]), (ls [(sy s4), (ls [(sy s6), (sy s7)]), (ls [(sy s8), (sy s5)])])])), .agg [aY, aY]], [], .tup [.agg [V 0 2 0 1, V 1 10 0 2, aY], I 0, I 0], (w0 n)⟩
def e6 (n : Int) : TE := ⟨2, [.agg [V 0 1 0 2, V 1 2 0 1]], [some (vc 9 1 2 [S s5, S s6] false), some (vc 211 2 1 [S s2, aY] false)], I 0, []⟩
def e7 (n : Int) : TE := ⟨6, [a1, .agg [S s2, V 2 2 0 1, aY]], [some p4, some p5, some (vc 211 2 1 [S s2, V 5 1 0 1] true), some o2, some (p6 n), some (vc 9 1 1 [S s3] false)], .kb true, []⟩
def e8 (n : Int) : TE := ⟨0, [.agg [aY, C 50]], [], I 0, []⟩
def e9 (n : Int) : TE := ⟨4, [a2, .agg [I 0, I 0, I 0, V 3 8 0 5]], [some o3, some o4, some p7, some (p6 n)], .kb true, []⟩
def e10 (n : Int) : TE := ⟨4, [a2, .agg [I 1, I 1, I 0, V 3 8 0 5]], [some o3, some o4, some p7, some o2], .kb true, []⟩
def e11 (n : Int) : TE := ⟨7, [a3], [some p4, some o1, some (vc 209 3 1 [S s2, V 5 2 0 1, aY] false), some o2, some (p6 n), some (vc 211 2 1 [S s2, V 6 1 0 1] true), some (vc 9 1 1 [S s3] false)], I 0, []⟩
def e12 (n : Int) : TE := ⟨1, [V 0 3 0 2], [some o6], .tup [.nm 1, .kb true], [some o7]⟩
def e13 (n : Int) : TE := ⟨1, [.agg [V 0 3 0 2, C 1000]], [some o6], I 0, []⟩
def e14 (n : Int) : TE := ⟨8, [a3, V 3 3 0 2, aY], [some p8, some o1, some p9, some o5, some o2, some (p6 n), some (vc 211 2 1 [S s2, V 7 1 0 1] true), some (vc 9 1 1 [S s3] false)], .tup [.agg [V 8 4 0 2, V 9 4 0 2, V 10 3 0 1, V 11 3 0 2, C 1000], .agg [C 5, C 0, S s0], I 0], [some (vc 119 4 2 [I 0, I 0, I 0, V 13 8 0 5, I 1, I 1, I 0, V 12 8 0 5] false), some o1, some p10, some o6, some o2, some (p6 n), some p11, some (vc 9 1 1 [S s3] false)]⟩
def e15 (n : Int) : TE := ⟨6, [a1, .agg [S s2, V 2 2 0 1, aY]], [some p4, some p5, some (vc 211 2 1 [S s2, V 5 1 0 1] false), some o2, some (p6 n), some (vc 9 1 1 [S s3] false)], .kb true, []⟩
def e16 (n : Int) : TE := ⟨8, [a4], [some p8, some o8, some p9, some o6, some o2, some (p6 n), some p12, some (vc 9 1 1 [S s3] false)], I 0, []⟩
def e17 (n : Int) : TE := ⟨8, [a4, .agg [I 0, I 0, I 0, V 4 8 0 5], I 20000], [some (vc 119 4 2 [I 0, I 0, I 0, V 4 8 0 5, I 1, I 1, I 0, V 5 8 0 5] false), some o8, some p9, some o6, some (p6 n), some o2, some p12, some (vc 9 1 1 [S s3] false)], .tup [.agg [.sl 8 4 0 2 (some 2), V 9 4 0 2, V 10 3 0 1, V 11 3 0 6, C 1000], .agg [C 5, C 2, S s0], I 0], [some (vc 119 4 3 [I 0, I 0, I 0, V 13 8 0 5, I 1, I 1, I 0, V 12 8 0 5, I 0, I 0, I 0, V 4 8 0 5] false), some o8, some p10, some (p13 n), some o2, some (p6 n), some p11, some (vc 9 1 1 [S s3] false)]⟩
def e18 (n : Int) : TE := ⟨8, [a0, .agg [V 0 2 0 1, V 1 10 0 2, aY]], (w0 n), .tup [.agg [.sl 8 4 0 2 (some 2), V 9 4 0 2, V 10 3 0 1, V 11 3 0 6, C 1000], I 0], [some (vc 119 4 3 [I 0, I 0, I 0, V 13 8 0 5, I 1, I 1, I 0, V 12 8 0 5, I 0, I 0, I 0, V 14 8 0 5] false), some o9, some (vc 209 3 1 [S s2, V 15 2 0 1, aY] false), some (p13 n), some o2, some (p6 n), some (p6 n), some (vc 211 2 1 [S s2, V 16 1 0 1] false), some (vc 9 1 1 [S s3] false)]⟩
def e19 (n : Int) : TE := ⟨0, [a0, .sy (s9 ++ aL (eu n) ++ s10)], [], .tup [.agg [.sl 0 4 0 2 (some 2), V 1 4 0 2, V 2 3 0 1, V 3 3 0 6, C 1000], I 0], [some (vc 119 4 3 [I 0, I 0, I 0, V 5 8 0 5, I 1, I 1, I 0, V 4 8 0 5, I 0, I 0, I 0, V 6 8 0 5] false), some o9, some (vc 209 3 1 [S s2, V 7 2 0 1, aY] false), some (p13 n), some o2, some (p6 n), some (p6 n), some (vc 211 2 1 [S s2, V 8 1 0 1] false), some (vc 9 1 1 [S s3] false)]⟩
end
theorem fx (n : Int) : 0 <= eu n /\ eu n < 100 /\ (aL (eu n)).size <= 3 /\ 0 < (aL (eu n)).size := by
 have h0 : 0 <= eu n := (uw n (by decide)).1
 have h1 : eu n < 100 := (uw n (by decide)).2
 refine ⟨h0, h1, Uo (by omega) (by omega), WM (by omega) (by omega)⟩
end Gv.LUpgradeChain
set_option linter.unusedSimpArgs false
set_option linter.unusedVariables false
set_option maxRecDepth 100000
open Rx Go
namespace Gv.LUpgradeChain
open Gv Rd
theorem t0 (n : Int) : aj prog 84 (e0 n) := iD [] aA (by kernel_rfl) (by kernel_rfl) (q := rp ((.mp (.int .i64) .bool [] : Ob) = .mp (.int .i64) .bool []) 1 (qt))
 (bC rfl _ rfl)
 (by kernel_rfl)
theorem t1 (n : Int) : aj prog 83 (e1 n) := iD [] (tk (f := 84) (tc 1 (t0 n) aK) aA) (by kernel_rfl) (by kernel_rfl) (q := qt)
 rfl
 (by kernel_rfl)
theorem t2 (n : Int) : aj prog 58 (e2 n) := iD [] aA (by kernel_rfl) (by kernel_rfl) (q := qt)
 rfl
 (by kernel_rfl)
theorem t3 (n : Int) : aj prog 56 (e3 n) := iD [] (tk (f := 83) (tc 1 (t1 n) aK) (tk (f := 58) (tc 2 (t2 n) aK) aA)) (by kernel_rfl) (by kernel_rfl) (q := qt)
 rfl
 (by kernel_rfl)
theorem t4 (n : Int) : aj prog 38 (e4 n) := iD [] (tk (f := 56) (tc 2 (t3 n) aK) aA) (by kernel_rfl) (by kernel_rfl) (q := qt)
 rfl
 (by kernel_rfl)
theorem t5 (n : Int) : aj prog 39 (e5 n) := iD [] (tk (f := 58) (tc 2 (t2 n) aK) aA) (by kernel_rfl) (by kernel_rfl) (q := rp ((D (.arr 4 2 (dxL [(sy s6), (sy s7)])) : SV) = D (.arr 4 2 (dxL [(sy s6), (sy s7)]))) 1 (rp ((D (.arr 4 2 (dxL [(sy s2), (nu 0 99 (eu n))])) : SV) = D (.arr 4 2 (dxL [(sy s2), (nu 0 99 (eu n))]))) 1 (rp ((D (.arr 4 2 (dxL [(sy s8), (sy s5)])) : SV) = D (.arr 4 2 (dxL [(sy s8), (sy s5)]))) 1 (rp (((dxL []) : Nat -> Nat -> Dt) = (dxL [])) 1 (rp (en (eu n)) 1 (qt))))))
 (bC rfl _ (bC rfl _ (bC rfl _ (bC rfl _ (bC rfl _ rfl)))))
 (by kernel_rfl)
theorem t6 (n : Int) : aj prog 58 (e6 n) := iD [] aA (by kernel_rfl) (by kernel_rfl) (q := qt)
 rfl
 (by kernel_rfl)
theorem t7 (n : Int) : aj prog 98 (e7 n) := iD [] aA (by kernel_rfl) (by kernel_rfl) (q := qt)
 rfl
 (by kernel_rfl)
theorem t8 (n : Int) : aj prog 83 (e8 n) := iD [] (tk (f := 84) (tc 1 (t0 n) aK) aA) (by kernel_rfl) (by kernel_rfl) (q := qt)
 rfl
 (by kernel_rfl)
theorem t9 (n : Int) : aj prog 77 (e9 n) := iD [] (tk (f := 83) (tc 26 (t8 n) (tc 57 (t8 n) aK)) (tk (f := 84) (tc 26 (t0 n) (tc 57 (t0 n) aK)) aA)) (by kernel_rfl) (by kernel_rfl) (q := qt)
 rfl
 (by kernel_rfl)
theorem t10 (n : Int) : aj prog 77 (e10 n) := iD [] aA (by kernel_rfl) (by kernel_rfl) (q := qt)
 rfl
 (by kernel_rfl)
theorem t11 (n : Int) : aj prog 56 (e11 n) := iD [] (tk (f := 83) (tc 8 (t1 n) (tc 24 (t1 n) (tc 29 (t1 n) aK))) (tk (f := 58) (tc 18 (t6 n) aK) (tk (f := 98) (tc 19 (t7 n) aK) (tk (f := 77) (tc 20 (t9 n) (tc 21 (t10 n) aK)) (tk (f := 84) (tc 24 (t0 n) (tc 29 (t0 n) aK)) aA))))) (by kernel_rfl) (by kernel_rfl) (q := rp (en (eu n)) 2 (qt))
 (bC rfl _ rfl)
 (by kernel_rfl)
theorem t12 (n : Int) : aj prog 84 (e12 n) := iD [] aA (by kernel_rfl) (by kernel_rfl) (q := rp ((.mp (.int .i64) .bool [((0 : Int), true)] : Ob) = .mp (.int .i64) .bool [((0 : Int), true)]) 1 (qt))
 (bC rfl _ rfl)
 (by kernel_rfl)
theorem t13 (n : Int) : aj prog 83 (e13 n) := iD [] (tk (f := 84) (tc 2 (t12 n) aK) aA) (by kernel_rfl) (by kernel_rfl) (q := qt)
 rfl
 (by kernel_rfl)
theorem t14 (n : Int) : aj prog 68 (e14 n) := iD [] (tk (f := 56) (tc 12 (t11 n) aK) (tk (f := 83) (tc 8358 (t1 n) (tc 8426 (t13 n) aK)) aA)) (by kernel_rfl) (by kernel_rfl) (q := rp (en (eu n)) 2 (qt))
 (bC rfl _ rfl)
 (by kernel_rfl)
theorem t15 (n : Int) : aj prog 98 (e15 n) := iD [] aA (by kernel_rfl) (by kernel_rfl) (q := qt)
 rfl
 (by kernel_rfl)
theorem t16 (n : Int) : aj prog 56 (e16 n) := iD [] (tk (f := 83) (tc 9 (t13 n) (tc 25 (t13 n) (tc 30 (t13 n) aK))) (tk (f := 58) (tc 19 (t6 n) aK) (tk (f := 98) (tc 20 (t15 n) aK) (tk (f := 77) (tc 21 (t9 n) (tc 22 (t10 n) aK)) (tk (f := 84) (tc 25 (t12 n) (tc 30 (t12 n) aK)) aA))))) (by kernel_rfl) (by kernel_rfl) (q := rp (en (eu n)) 2 (qt))
 (bC rfl _ rfl)
 (by kernel_rfl)
theorem t17 (n : Int) : aj prog 44 (e17 n) := iD [] (tk (f := 56) (tc 13 (t16 n) aK) (tk (f := 77) (tc 164 (t9 n) aK) aA)) (by kernel_rfl) (by kernel_rfl) (q := rp (en (eu n)) 4 (qt))
 (bC rfl _ rfl)
 (by kernel_rfl)
theorem t18 (n : Int) : aj prog 40 (e18 n) := iD [] (tk (f := 56) (tc 11 (t3 n) (tc 344 (t11 n) aK)) (tk (f := 68) (tc 349 (t14 n) aK) (tk (f := 44) (tc 364 (t17 n) aK) aA))) (by kernel_rfl) (by kernel_rfl) (q := rp (en (eu n)) 6 (qt))
 (bC rfl _ rfl)
 (by kernel_rfl)
theorem t19 (n : Int) : aj prog 28 (e19 n) := iD [(2, [(ls [(sy s1), (sy s2), (sy s3)]), (ls [(sy s4), (sy s5), (ls [(sy s2), (nu 0 99 (eu n))])]), (ls [(sy s4), (ls [(sy s6), (sy s7)]), (ls [(sy s8), (sy s5)])])])] (tk (f := 38) (tc 2 (t4 n) aK) (tk (f := 39) (tc 3 (t5 n) aK) (tk (f := 40) (tc 12 (t18 n) aK) aA))) (by kernel_rfl) (by kernel_rfl) (q := ((s9 ++ aL (eu n) ++ s10).size <= 3000 /\ qX 400 (s9 ++ aL (eu n) ++ s10) = some (RR.mk (nV ([ls [sy (ByteArray.mk (#[114, 101, 99, 111, 114, 100])), sy (ByteArray.mk (#[112])), sy (ByteArray.mk (#[97]))], ls [sy (ByteArray.mk (#[100, 101, 102, 105, 110, 101])), sy (ByteArray.mk (#[120])), ls [sy (ByteArray.mk (#[112])), nu 0 99 (eu n)]], ls [sy (ByteArray.mk (#[100, 101, 102, 105, 110, 101])), ls [sy (ByteArray.mk (#[115, 104, 111, 119])), sy (ByteArray.mk (#[110]))], ls [sy (ByteArray.mk (#[112, 45, 97])), sy (ByteArray.mk (#[120]))]]])) 0 0) /\ lV ([ls [sy (ByteArray.mk (#[114, 101, 99, 111, 114, 100])), sy (ByteArray.mk (#[112])), sy (ByteArray.mk (#[97]))], ls [sy (ByteArray.mk (#[100, 101, 102, 105, 110, 101])), sy (ByteArray.mk (#[120])), ls [sy (ByteArray.mk (#[112])), nu 0 99 (eu n)]], ls [sy (ByteArray.mk (#[100, 101, 102, 105, 110, 101])), ls [sy (ByteArray.mk (#[115, 104, 111, 119])), sy (ByteArray.mk (#[110]))], ls [sy (ByteArray.mk (#[112, 45, 97])), sy (ByteArray.mk (#[120]))]]])) /\
 rp (((dxL [(ls [(sy s1), (sy s2), (sy s3)]), (ls [(sy s4), (sy s5), (ls [(sy s2), (nu 0 99 (eu n))])]), (ls [(sy s4), (ls [(sy s6), (sy s7)]), (ls [(sy s8), (sy s5)])])]) : Nat -> Nat -> Dt) = (dxL [(ls [(sy s1), (sy s2), (sy s3)]), (ls [(sy s4), (sy s5), (ls [(sy s2), (nu 0 99 (eu n))])]), (ls [(sy s4), (ls [(sy s6), (sy s7)]), (ls [(sy s8), (sy s5)])])])) 1 (rp (((dxL []) : Nat -> Nat -> Dt) = (dxL [])) 1 (rp (en (eu n)) 4 (qt))))
 (by
 obtain ⟨h0, h1, h2, h3⟩ := fx n
 refine ⟨Xc (by repeat first | exact aap | apply Wn | apply acp | exact acu (by kernel_rfl) | exact aaq (by omega) (by omega) | exact acr (by omega) (by omega) (by omega) (by omega)) (by simp only [ByteArray.size_append, aa8, List.size_toArray, List.length_cons, List.length_nil, List.append_eq, List.length_append, ade, adP]; omega) (by (simp only [abM, abN, List.append_assoc, List.nil_append, adb, adO]) <;> kernel_rfl) (by kernel_rfl) (by kernel_rfl) (by kernel_rfl), ?_⟩
 iterate 3 refine bC rfl _ ?_
 rfl
 )
  (by kernel_rfl)
end Gv.LUpgradeChain
