/- What the told parts of ShowDeep are made of. Printed by gvgen.py. -/
import Derived.Test.YtkbdcpkbmfegdaaGreatDoorGvO
import Derived.Test.YtkbdcpkbmfegdaaGreatDoorGvSDx
set_option linter.unusedVariables false
set_option maxRecDepth 100000
open Rx Go
namespace Gv.LShowDeep
open Gv Rd
noncomputable section
def s1 : ByteArray := ⟨#[100, 101, 102, 105, 110, 101]⟩
def s2 : ByteArray := ⟨#[102]⟩
def s3 : ByteArray := ⟨#[110]⟩
def s4 : ByteArray := ⟨#[40, 100, 101, 102, 105, 110, 101, 32, 40, 102, 32, 110, 41, 32, 110, 41]⟩
theorem ads : s1.size = 6 := rfl
theorem adu : s1.data.toList = [100, 101, 102, 105, 110, 101] := rfl
theorem adr : s2.size = 1 := rfl
theorem adz : s2.data.toList = [102] := rfl
theorem adx : s3.size = 1 := rfl
theorem adw : s3.data.toList = [110] := rfl
theorem adt : s4.size = 16 := rfl
theorem adB : s4.data.toList = [40, 100, 101, 102, 105, 110, 101, 32, 40, 102, 32, 110, 41, 32, 110, 41] := rfl
def o0 : Ob := vc 108 9 1 [C 2, I 0, I 0, S s0, bD, S s3, I 0, bD, bD] true
def o1 : Ob := vc 122 4 1 [S s2, C 3, I 0, S s0] false
def o2 : Ob := vc 206 8 3 [C 1, I 0, I 0, S s0, S s0, I 0, I 0, S s0, C 3, C 0, I 0, S s0, S s0, I 0, I 0, S s0, C 14, I 0, I 0, S s0, S s0, I 0, I 0, S s0] false
def o3 : Ob := vc 119 4 1 [J, J, I 0, J] false
def o4 : Ob := vc 122 4 1 [S s2, J, J, J] false
def o5 : Ob := vc 114 3 2 [C 8, C 0, S s0, C 1, I 0, S s0] true
def o6 : Ob := vc 114 3 2 [C 8, C 0, S s0, C 1, I 0, S s0] false
def o7 : Ob := .mp (.int .i64) .bool [((0 : Int), true)]
def o8 : Ob := vc 122 4 1 [S s2, C 5, C 0, S s0] false
def p0 : Ob := vc 160 10 1 [S s2, C 6, I 0, I 0, S s0, bD, S s0, I 0, V 2 1 0 1, V 1 9 0 1] false
def p1 : Ob := vc 119 4 1 [I 1, I 1, I 0, V 3 8 0 3] false
def a0 : SV := .agg [bD, bD, bD, bD, C 4000]
def a1 : SV := .agg [V 0 4 0 1, V 1 4 0 1, bD, bD, C 4000]
def w0 : List (Option Ob) := [some p0, some o0, some (vc 9 1 1 [S s3] false)]
def e0 (n : Int) : TE := ⟨0, [.ri .i64 (-9223372036854775808) 9223372036854775807 (n), I 20], [], I 0, []⟩
def e1 (n : Int) : TE := ⟨0, [bD], [], .tup [.nm 0, .kb true], [some (.mp (.int .i64) .bool [])]⟩
def e2 (n : Int) : TE := ⟨0, [.agg [bD, C 4000]], [], I 0, []⟩
def e3 (n : Int) : TE := ⟨0, [.agg [bD, bD]], [], I 0, []⟩
def e4 (n : Int) : TE := ⟨0, [a0], [], I 0, []⟩
def e5 (n : Int) : TE := ⟨0, [a0], [], .tup [.agg [bD, bD], I 0], []⟩
def e6 (n : Int) : TE := ⟨0, [D (.arr 4 1 (dxL [(ls [(sy s1), (ls [(sy s2), (sy s3)]), (sy s3)])])), .agg [bD, bD]], [], .tup [.agg [bD, V 0 10 0 1, bD], I 0, I 0], w0⟩
def e7 (n : Int) : TE := ⟨1, [.agg [V 0 1 0 1, bD]], [some (vc 9 1 1 [S s2] false)], I 0, []⟩
def e8 (n : Int) : TE := ⟨3, [.agg [V 0 4 0 1, V 1 4 0 1, bD, J, J], .agg [I 1, I 1, I 0, V 2 8 0 3]], [some o3, some o4, some o2], .kb true, []⟩
def e9 (n : Int) : TE := ⟨3, [a1], [some (vc 119 4 1 [I 1, I 1, I 0, V 2 8 0 3] false), some o1, some o2], I 0, []⟩
def e10 (n : Int) : TE := ⟨1, [V 0 3 0 2], [some o6], .tup [.nm 1, .kb true], [some o7]⟩
def e11 (n : Int) : TE := ⟨1, [.agg [V 0 3 0 2, C 4000]], [some o6], I 0, []⟩
def e12 (n : Int) : TE := ⟨4, [a1, V 2 3 0 2, bD], [some p1, some o1, some o5, some o2], .tup [.agg [V 4 4 0 1, V 5 4 0 1, bD, V 6 3 0 2, C 4000], .agg [C 5, C 0, S s0], I 0], [some (vc 119 4 1 [I 1, I 1, I 0, V 7 8 0 3] false), some o1, some o6, some o2]⟩
def e13 (n : Int) : TE := ⟨3, [a0, .agg [bD, V 0 10 0 1, bD]], w0, .tup [.agg [V 3 4 0 1, V 4 4 0 1, bD, V 5 3 0 2, C 4000], I 0], [some (vc 119 4 1 [I 1, I 1, I 0, V 6 8 0 3] false), some o8, some o6, some o2]⟩
def e14 (n : Int) : TE := ⟨0, [a0, S s4], [], .tup [.agg [V 0 4 0 1, V 1 4 0 1, bD, V 2 3 0 2, C 4000], I 0], [some p1, some o8, some o6, some o2]⟩
def e16 (n : Int) : TE := ⟨0, [.ri .i64 (-9223372036854775808) 9223372036854775807 (n), I 20], [], I 1, []⟩
def e18 (n : Int) : TE := ⟨0, [.ri .i64 (-9223372036854775808) 9223372036854775807 (n), I 20], [], I 2, []⟩
def e20 (n : Int) : TE := ⟨0, [.ri .i64 (-9223372036854775808) 9223372036854775807 (n), I 20], [], I 3, []⟩
def e22 (n : Int) : TE := ⟨0, [.ri .i64 (-9223372036854775808) 9223372036854775807 (n), I 20], [], I 4, []⟩
def e24 (n : Int) : TE := ⟨0, [.ri .i64 (-9223372036854775808) 9223372036854775807 (n), I 20], [], I 5, []⟩
def e26 (n : Int) : TE := ⟨0, [.ri .i64 (-9223372036854775808) 9223372036854775807 (n), I 20], [], I 6, []⟩
def e28 (n : Int) : TE := ⟨0, [.ri .i64 (-9223372036854775808) 9223372036854775807 (n), I 20], [], I 7, []⟩
def e30 (n : Int) : TE := ⟨0, [.ri .i64 (-9223372036854775808) 9223372036854775807 (n), I 20], [], I 8, []⟩
def e32 (n : Int) : TE := ⟨0, [.ri .i64 (-9223372036854775808) 9223372036854775807 (n), I 20], [], I 9, []⟩
def e34 (n : Int) : TE := ⟨0, [.ri .i64 (-9223372036854775808) 9223372036854775807 (n), I 20], [], I 10, []⟩
def e36 (n : Int) : TE := ⟨0, [.ri .i64 (-9223372036854775808) 9223372036854775807 (n), I 20], [], I 11, []⟩
def e38 (n : Int) : TE := ⟨0, [.ri .i64 (-9223372036854775808) 9223372036854775807 (n), I 20], [], I 12, []⟩
def e40 (n : Int) : TE := ⟨0, [.ri .i64 (-9223372036854775808) 9223372036854775807 (n), I 20], [], I 13, []⟩
def e42 (n : Int) : TE := ⟨0, [.ri .i64 (-9223372036854775808) 9223372036854775807 (n), I 20], [], I 14, []⟩
def e44 (n : Int) : TE := ⟨0, [.ri .i64 (-9223372036854775808) 9223372036854775807 (n), I 20], [], I 15, []⟩
def e46 (n : Int) : TE := ⟨0, [.ri .i64 (-9223372036854775808) 9223372036854775807 (n), I 20], [], I 16, []⟩
def e48 (n : Int) : TE := ⟨0, [.ri .i64 (-9223372036854775808) 9223372036854775807 (n), I 20], [], I 17, []⟩
def e50 (n : Int) : TE := ⟨0, [.ri .i64 (-9223372036854775808) 9223372036854775807 (n), I 20], [], I 18, []⟩
def e52 (n : Int) : TE := ⟨0, [.ri .i64 (-9223372036854775808) 9223372036854775807 (n), I 20], [], I 19, []⟩
end
theorem fx (n : Int) : True := trivial
end Gv.LShowDeep
set_option linter.unusedSimpArgs false
set_option linter.unusedVariables false
set_option maxRecDepth 100000
open Rx Go
namespace Gv.LShowDeep
open Gv Rd
theorem t0 (n : Int) (hm : aj n 20 = 0) : ay prog 6 (e0 n) := bf (by decide) (by decide) hm
theorem t1 (n : Int) : ay prog 84 (e1 n) := bO [] Gv.SD.mok aJ (by kernel_rfl) (by kernel_rfl) (q := rp ((.mp (.int .i64) .bool [] : Ob) = .mp (.int .i64) .bool []) 1 (qt))
 (iP rfl _ rfl)
 (by kernel_rfl)
theorem t2 (n : Int) : ay prog 83 (e2 n) := bO [] Gv.SD.mok (tk (f := 84) (tc 1 (t1 n) aM) aJ) (by kernel_rfl) (by kernel_rfl) (q := qt)
 rfl
 (by kernel_rfl)
theorem t3 (n : Int) : ay prog 58 (e3 n) := bO [] Gv.SD.mok aJ (by kernel_rfl) (by kernel_rfl) (q := qt)
 rfl
 (by kernel_rfl)
theorem t4 (n : Int) : ay prog 56 (e4 n) := bO [] Gv.SD.mok (tk (f := 83) (tc 1 (t2 n) aM) (tk (f := 58) (tc 2 (t3 n) aM) aJ)) (by kernel_rfl) (by kernel_rfl) (q := qt)
 rfl
 (by kernel_rfl)
theorem t5 (n : Int) : ay prog 38 (e5 n) := bO [] Gv.SD.mok (tk (f := 56) (tc 2 (t4 n) aM) aJ) (by kernel_rfl) (by kernel_rfl) (q := qt)
 rfl
 (by kernel_rfl)
theorem t6 (n : Int) : ay prog 39 (e6 n) := bO [] Gv.SD.mok (tk (f := 58) (tc 2 (t3 n) aM) aJ) (by kernel_rfl) (by kernel_rfl) (q := rp ((D (.arr 4 2 (dxL [(sy s2), (sy s3)])) : SV) = D (.arr 4 2 (dxL [(sy s2), (sy s3)]))) 1 (qt))
 (iP rfl _ rfl)
 (by kernel_rfl)
theorem t7 (n : Int) : ay prog 58 (e7 n) := bO [] Gv.SD.mok aJ (by kernel_rfl) (by kernel_rfl) (q := qt)
 rfl
 (by kernel_rfl)
theorem t8 (n : Int) : ay prog 77 (e8 n) := bO [] Gv.SD.mok aJ (by kernel_rfl) (by kernel_rfl) (q := qt)
 rfl
 (by kernel_rfl)
theorem t9 (n : Int) : ay prog 56 (e9 n) := bO [] Gv.SD.mok (tk (f := 83) (tc 4 (t2 n) (tc 12 (t2 n) aM)) (tk (f := 58) (tc 8 (t7 n) aM) (tk (f := 77) (tc 9 (t8 n) aM) (tk (f := 84) (tc 12 (t1 n) aM) aJ)))) (by kernel_rfl) (by kernel_rfl) (q := qt)
 rfl
 (by kernel_rfl)
theorem t10 (n : Int) : ay prog 84 (e10 n) := bO [] Gv.SD.mok aJ (by kernel_rfl) (by kernel_rfl) (q := rp ((.mp (.int .i64) .bool [((0 : Int), true)] : Ob) = .mp (.int .i64) .bool [((0 : Int), true)]) 1 (qt))
 (iP rfl _ rfl)
 (by kernel_rfl)
theorem t11 (n : Int) : ay prog 83 (e11 n) := bO [] Gv.SD.mok (tk (f := 84) (tc 2 (t10 n) aM) aJ) (by kernel_rfl) (by kernel_rfl) (q := qt)
 rfl
 (by kernel_rfl)
theorem t12 (n : Int) : ay prog 68 (e12 n) := bO [] Gv.SD.mok (tk (f := 56) (tc 8 (t9 n) aM) (tk (f := 83) (tc 8340 (t2 n) (tc 8408 (t11 n) aM)) aJ)) (by kernel_rfl) (by kernel_rfl) (q := qt)
 rfl
 (by kernel_rfl)
theorem t13 (n : Int) : ay prog 40 (e13 n) := bO [] Gv.SD.mok (tk (f := 56) (tc 6 (t4 n) (tc 207 (t9 n) aM)) (tk (f := 68) (tc 211 (t12 n) aM) aJ)) (by kernel_rfl) (by kernel_rfl) (q := qt)
 rfl
 (by kernel_rfl)
theorem t14 (n : Int) : ay prog 28 (e14 n) := bO [(2, [(ls [(sy s1), (ls [(sy s2), (sy s3)]), (sy s3)])])] Gv.SD.mok (tk (f := 38) (tc 2 (t5 n) aM) (tk (f := 39) (tc 3 (t6 n) aM) (tk (f := 40) (tc 7 (t13 n) aM) aJ))) (by kernel_rfl) (by kernel_rfl) (q := (s4.size <= 3000 /\ vX 400 s4 = some (RR.mk (uI ([ls [sy (ByteArray.mk (#[100, 101, 102, 105, 110, 101])), ls [sy (ByteArray.mk (#[102])), sy (ByteArray.mk (#[110]))], sy (ByteArray.mk (#[110]))]])) 0 0) /\ wB ([ls [sy (ByteArray.mk (#[100, 101, 102, 105, 110, 101])), ls [sy (ByteArray.mk (#[102])), sy (ByteArray.mk (#[110]))], sy (ByteArray.mk (#[110]))]])) /\
 rp (((dxL [(ls [(sy s1), (ls [(sy s2), (sy s3)]), (sy s3)])]) : Nat -> Nat -> Dt) = (dxL [(ls [(sy s1), (ls [(sy s2), (sy s3)]), (sy s3)])])) 1 (qt))
 (by
 refine ⟨⟨by decide, by kernel_rfl, by simp [wB, Dx.fits, ls, sy, num, nu]⟩, ?_⟩
 refine iP rfl _ ?_
 rfl
 )
  (by kernel_rfl)
theorem t16 (n : Int) (hm : aj n 20 = 1) : ay prog 6 (e16 n) := bf (by decide) (by decide) hm
theorem t18 (n : Int) (hm : aj n 20 = 2) : ay prog 6 (e18 n) := bf (by decide) (by decide) hm
theorem t20 (n : Int) (hm : aj n 20 = 3) : ay prog 6 (e20 n) := bf (by decide) (by decide) hm
theorem t22 (n : Int) (hm : aj n 20 = 4) : ay prog 6 (e22 n) := bf (by decide) (by decide) hm
theorem t24 (n : Int) (hm : aj n 20 = 5) : ay prog 6 (e24 n) := bf (by decide) (by decide) hm
theorem t26 (n : Int) (hm : aj n 20 = 6) : ay prog 6 (e26 n) := bf (by decide) (by decide) hm
theorem t28 (n : Int) (hm : aj n 20 = 7) : ay prog 6 (e28 n) := bf (by decide) (by decide) hm
theorem t30 (n : Int) (hm : aj n 20 = 8) : ay prog 6 (e30 n) := bf (by decide) (by decide) hm
theorem t32 (n : Int) (hm : aj n 20 = 9) : ay prog 6 (e32 n) := bf (by decide) (by decide) hm
theorem t34 (n : Int) (hm : aj n 20 = 10) : ay prog 6 (e34 n) := bf (by decide) (by decide) hm
theorem t36 (n : Int) (hm : aj n 20 = 11) : ay prog 6 (e36 n) := bf (by decide) (by decide) hm
theorem t38 (n : Int) (hm : aj n 20 = 12) : ay prog 6 (e38 n) := bf (by decide) (by decide) hm
theorem t40 (n : Int) (hm : aj n 20 = 13) : ay prog 6 (e40 n) := bf (by decide) (by decide) hm
theorem t42 (n : Int) (hm : aj n 20 = 14) : ay prog 6 (e42 n) := bf (by decide) (by decide) hm
theorem t44 (n : Int) (hm : aj n 20 = 15) : ay prog 6 (e44 n) := bf (by decide) (by decide) hm
theorem t46 (n : Int) (hm : aj n 20 = 16) : ay prog 6 (e46 n) := bf (by decide) (by decide) hm
theorem t48 (n : Int) (hm : aj n 20 = 17) : ay prog 6 (e48 n) := bf (by decide) (by decide) hm
theorem t50 (n : Int) (hm : aj n 20 = 18) : ay prog 6 (e50 n) := bf (by decide) (by decide) hm
theorem t52 (n : Int) (hm : aj n 20 = 19) : ay prog 6 (e52 n) := bf (by decide) (by decide) hm
end Gv.LShowDeep
