/- What the told parts of Stale are made of. Printed by gvgen.py. -/
import Derived.Test.YtcmnmceodhambaaGreatDoorGvO
set_option linter.unusedVariables false
open Rx Go
namespace Gv.LStale
open Gv Rd
noncomputable section
def s1 : ByteArray := ⟨#[114, 101, 99, 111, 114, 100]⟩
def s2 : ByteArray := ⟨#[112]⟩
def s3 : ByteArray := ⟨#[97]⟩
def s4 : ByteArray := ⟨#[98]⟩
def s5 : ByteArray := ⟨#[100, 101, 102, 105, 110, 101]⟩
def s6 : ByteArray := ⟨#[120]⟩
def s7 : ByteArray := ⟨#[102]⟩
def s8 : ByteArray := ⟨#[110]⟩
def s9 : ByteArray := ⟨#[112, 45, 97]⟩
def s10 : ByteArray := ⟨#[103]⟩
def s11 : ByteArray := ⟨#[112, 45, 98]⟩
def s12 : ByteArray := ⟨#[104]⟩
def s13 : ByteArray := ⟨#[99]⟩
def s14 : ByteArray := ⟨#[117, 112, 103, 114, 97, 100, 101]⟩
def s15 : ByteArray := ⟨#[119, 97, 115]⟩
def s16 : ByteArray := ⟨#[40, 114, 101, 99, 111, 114, 100, 32, 112, 32, 97, 32, 98, 41, 32, 40, 100, 101, 102, 105, 110, 101, 32, 120, 32, 40, 112, 32]⟩
def s17 : ByteArray := ⟨#[32]⟩
def s18 : ByteArray := ⟨#[41, 41, 32, 40, 100, 101, 102, 105, 110, 101, 32, 40, 102, 32, 110, 41, 32, 40, 112, 45, 97, 32, 120, 41, 41, 32, 40, 100, 101, 102, 105, 110, 101, 32, 40, 103, 32, 110, 41, 32, 40, 112, 45, 98, 32, 120, 41, 41, 32, 40, 100, 101, 102, 105, 110, 101, 32, 40, 104, 32, 110, 41, 32, 40, 112, 32, 110, 32, 110, 41, 41]⟩
def s19 : ByteArray := ⟨#[40, 114, 101, 99, 111, 114, 100, 32, 112, 32, 99, 32, 98, 41, 32, 40, 117, 112, 103, 114, 97, 100, 101, 32, 112, 32, 55, 32, 40, 119, 97, 115, 32, 98, 41, 41]⟩
def s20 : ByteArray := ⟨#[35, 91, 112, 32]⟩
def s21 : ByteArray := ⟨#[93]⟩
def s22 : ByteArray := ⟨#[40, 114, 101, 99, 111, 114, 100, 32, 112, 32, 98, 41, 32, 40, 117, 112, 103, 114, 97, 100, 101, 32, 112, 32, 40, 119, 97, 115, 32, 98, 41, 41]⟩
theorem YF : s1.size = 6 := rfl
theorem YP : s1.data.toList = [114, 101, 99, 111, 114, 100] := rfl
theorem D6 : s2.size = 1 := rfl
theorem Xm : s2.data.toList = [112] := rfl
theorem YO : s3.size = 1 := rfl
theorem YS : s3.data.toList = [97] := rfl
theorem YI : s4.size = 1 := rfl
theorem YJ : s4.data.toList = [98] := rfl
theorem YQ : s5.size = 6 := rfl
theorem YE : s5.data.toList = [100, 101, 102, 105, 110, 101] := rfl
theorem YL : s6.size = 1 := rfl
theorem YR : s6.data.toList = [120] := rfl
theorem YT : s7.size = 1 := rfl
theorem YN : s7.data.toList = [102] := rfl
theorem YM : s8.size = 1 := rfl
theorem YD : s8.data.toList = [110] := rfl
theorem YK : s9.size = 3 := rfl
theorem YC : s9.data.toList = [112, 45, 97] := rfl
theorem Yr : s10.size = 1 := rfl
theorem Ym : s10.data.toList = [103] := rfl
theorem Yt : s11.size = 3 := rfl
theorem Yu : s11.data.toList = [112, 45, 98] := rfl
theorem Yy : s12.size = 1 := rfl
theorem Yx : s12.data.toList = [104] := rfl
theorem Yi : s13.size = 1 := rfl
theorem Yz : s13.data.toList = [99] := rfl
theorem Yh : s14.size = 7 := rfl
theorem Yq : s14.data.toList = [117, 112, 103, 114, 97, 100, 101] := rfl
theorem Yj : s15.size = 3 := rfl
theorem Yn : s15.data.toList = [119, 97, 115] := rfl
theorem VX : s16.size = 28 := rfl
theorem Wx : s16.data.toList = [40, 114, 101, 99, 111, 114, 100, 32, 112, 32, 97, 32, 98, 41, 32, 40, 100, 101, 102, 105, 110, 101, 32, 120, 32, 40, 112, 32] := rfl
theorem Wm : s17.size = 1 := rfl
theorem Sy : s17.data.toList = [32] := rfl
theorem V7 : s18.size = 71 := rfl
theorem Wy : s18.data.toList = [41, 41, 32, 40, 100, 101, 102, 105, 110, 101, 32, 40, 102, 32, 110, 41, 32, 40, 112, 45, 97, 32, 120, 41, 41, 32, 40, 100, 101, 102, 105, 110, 101, 32, 40, 103, 32, 110, 41, 32, 40, 112, 45, 98, 32, 120, 41, 41, 32, 40, 100, 101, 102, 105, 110, 101, 32, 40, 104, 32, 110, 41, 32, 40, 112, 32, 110, 32, 110, 41, 41] := rfl
theorem YA : s19.size = 36 := rfl
theorem Yl : s19.data.toList = [40, 114, 101, 99, 111, 114, 100, 32, 112, 32, 99, 32, 98, 41, 32, 40, 117, 112, 103, 114, 97, 100, 101, 32, 112, 32, 55, 32, 40, 119, 97, 115, 32, 98, 41, 41] := rfl
theorem Yw : s20.size = 4 := rfl
theorem Wp : s20.data.toList = [35, 91, 112, 32] := rfl
theorem Yp : s21.size = 1 := rfl
theorem Wt : s21.data.toList = [93] := rfl
theorem Yo : s22.size = 32 := rfl
theorem Yk : s22.data.toList = [40, 114, 101, 99, 111, 114, 100, 32, 112, 32, 98, 41, 32, 40, 117, 112, 103, 114, 97, 100, 101, 32, 112, 32, 40, 119, 97, 115, 32, 98, 41, 41] := rfl
abbrev ah (n : Int) : Int := gy n 100
def o0 : Ob := vc 134 9 2 [C 2, I 0, I 0, S s0, aO, S s8, I 0, aO, aO, C 2, I 0, I 0, S s0, aO, S s8, I 0, aO, aO] false
def o1 : Ob := vc 134 9 1 [C 3, I 0, I 0, S s0, aO, S s6, I 0, aO, aO] false
def o2 : Ob := vc 130 4 4 [S s6, C 3, I 0, S s0, S s7, C 3, I 0, S s0, S s10, C 3, I 0, S s0, S s12, C 3, I 0, S s0] false
def o3 : Ob := vc 200 8 7 [C 1, I 0, I 0, S s0, S s0, I 0, I 0, S s0, C 1, I 0, I 0, S s0, S s0, I 0, I 0, S s0, C 3, C 0, I 0, S s0, S s0, I 0, I 0, S s0, C 1, I 0, I 0, S s0, S s0, I 0, I 0, S s0, C 3, C 0, I 0, S s0, S s0, I 0, I 0, S s0, C 19, C 2, I 0, S s2, S s0, I 0, I 0, S s0, C 14, I 0, I 0, S s0, S s0, I 0, I 0, S s0] false
def o4 : Ob := vc 200 8 5 [C 1, I 0, I 0, S s0, S s0, I 0, I 0, S s0, C 1, I 0, I 0, S s0, S s0, I 0, I 0, S s0, C 9, I 0, I 0, S s6, S s0, I 0, I 0, S s0, C 21, I 0, I 0, S s2, S s3, I 0, I 0, S s0, C 14, I 0, I 0, S s0, S s0, I 0, I 0, S s0] false
def o5 : Ob := vc 200 8 5 [C 1, I 0, I 0, S s0, S s0, I 0, I 0, S s0, C 1, I 0, I 0, S s0, S s0, I 0, I 0, S s0, C 9, I 0, I 0, S s6, S s0, I 0, I 0, S s0, C 21, I 0, I 0, S s2, S s4, I 0, I 0, S s0, C 14, I 0, I 0, S s0, S s0, I 0, I 0, S s0] false
def o6 : Ob := vc 9 1 4 [S s6, S s7, S s10, S s12] false
def o7 : Ob := vc 140 4 4 [J, J, I 0, J, J, J, I 0, J, J, J, I 0, J, J, J, I 0, J] false
def o8 : Ob := vc 130 4 4 [S s6, J, J, J, S s7, J, J, J, S s10, J, J, J, S s12, J, J, J] false
def o9 : Ob := vc 126 3 2 [C 8, C 1, S s0, C 1, I 0, S s0] true
def o10 : Ob := vc 126 3 2 [C 8, C 1, S s0, C 1, I 0, S s0] false
def o11 : Ob := .mp (.int .i64) .bool [((0 : Int), true)]
def o12 : Ob := vc 130 4 4 [S s6, C 3, I 0, S s0, S s7, C 5, C 0, S s0, S s10, C 3, I 0, S s0, S s12, C 3, I 0, S s0] false
def o13 : Ob := vc 126 3 2 [C 8, C 2, S s0, C 1, I 0, S s0] true
def o14 : Ob := vc 126 3 4 [C 8, C 1, S s0, C 1, I 0, S s0, C 8, C 2, S s0, C 1, I 0, S s0] false
def o15 : Ob := .mp (.int .i64) .bool [((0 : Int), true), ((2 : Int), true)]
def o16 : Ob := vc 130 4 4 [S s6, C 3, I 0, S s0, S s7, C 5, C 0, S s0, S s10, C 5, C 2, S s0, S s12, C 3, I 0, S s0] false
def o17 : Ob := vc 126 3 2 [C 8, C 3, S s0, C 1, I 0, S s0] true
def o18 : Ob := vc 126 3 6 [C 8, C 1, S s0, C 1, I 0, S s0, C 8, C 2, S s0, C 1, I 0, S s0, C 8, C 3, S s0, C 1, I 0, S s0] false
def o19 : Ob := .mp (.int .i64) .bool [((0 : Int), true), ((2 : Int), true), ((4 : Int), true)]
def o20 : Ob := vc 130 4 4 [S s6, C 3, I 0, S s0, S s7, C 5, C 0, S s0, S s10, C 5, C 2, S s0, S s12, C 5, C 4, S s0] false
def o21 : Ob := vc 130 4 4 [S s6, C 5, C 6, S s0, S s7, C 5, C 0, S s0, S s10, C 5, C 2, S s0, S s12, C 5, C 4, S s0] false
def o22 : Ob := vc 47 4 1 [C 1, C 0, S s0, aO] true
def o23 : Ob := .mp (.int .i64) .bool [((0 : Int), true), ((2 : Int), true), ((4 : Int), true), ((6 : Int), true)]
def o24 : Ob := vc 140 4 5 [J, J, I 0, J, J, J, I 0, J, J, J, I 0, J, J, J, I 0, J, J, J, I 0, J] false
def o25 : Ob := vc 200 8 6 [C 1, I 0, I 0, S s0, S s0, I 0, I 0, S s0, C 1, I 0, I 0, S s0, S s0, I 0, I 0, S s0, C 9, I 0, I 0, S s7, S s0, I 0, I 0, S s0, C 1, I 0, I 0, S s0, S s0, I 0, I 0, S s0, C 2, I 0, I 0, S s0, S s0, C 1, C 0, S s0, C 13, C 1, I 0, S s0, S s0, I 0, I 0, S s0] false
def o26 : Ob := vc 200 8 6 [C 1, I 0, I 0, S s0, S s0, I 0, I 0, S s0, C 1, I 0, I 0, S s0, S s0, I 0, I 0, S s0, C 9, I 0, I 0, S s10, S s0, I 0, I 0, S s0, C 1, I 0, I 0, S s0, S s0, I 0, I 0, S s0, C 2, I 0, I 0, S s0, S s0, C 1, C 0, S s0, C 13, C 1, I 0, S s0, S s0, I 0, I 0, S s0] false
def o27 : Ob := vc 134 9 2 [C 1, C 1, C 7, S s0, D (.arr 4 0 (dxL [])), S s0, I 0, aO, aO, C 15, I 0, I 0, S s0, aO, S s0, C 1, aO, aO] false
def o28 : Ob := vc 200 8 3 [C 1, I 0, I 0, S s0, S s0, I 0, I 0, S s0, C 3, C 1, I 0, S s0, S s0, I 0, I 0, S s0, C 14, I 0, I 0, S s0, S s0, I 0, I 0, S s0] false
def o29 : Ob := vc 200 8 3 [C 1, I 0, I 0, S s0, S s0, I 0, I 0, S s0, C 2, I 0, I 0, S s0, S s0, C 1, C 7, S s0, C 14, I 0, I 0, S s0, S s0, I 0, I 0, S s0] false
def o30 : Ob := vc 140 4 6 [J, J, I 0, J, J, J, I 0, J, J, J, I 0, J, J, J, I 0, J, J, J, I 0, J, J, J, I 0, J] false
def o31 : Ob := vc 130 4 4 [S s6, C 5, I 0, S s0, S s7, C 5, I 5, S s0, S s10, C 5, I 7, S s0, S s12, C 5, I 9, S s0] false
def o32 : Ob := .mp (.int .i64) .bool [((0 : Int), true), ((5 : Int), true), ((7 : Int), true), ((9 : Int), true)]
def o33 : Ob := .mp (.int .i64) .bool [((0 : Int), true), ((5 : Int), true), ((7 : Int), true), ((9 : Int), true), ((11 : Int), true)]
def o34 : Ob := .mp (.int .i64) .bool [((0 : Int), true), ((2 : Int), true), ((4 : Int), true), ((6 : Int), true), ((11 : Int), true)]
def o35 : Ob := vc 140 4 7 [J, J, I 0, J, J, J, I 0, J, J, J, I 0, J, J, J, I 0, J, J, J, I 0, J, J, J, I 0, J, J, J, I 0, J] false
def o36 : Ob := vc 200 8 6 [C 1, I 0, I 0, S s0, S s0, I 0, I 0, S s0, C 1, I 0, I 0, S s0, S s0, I 0, I 0, S s0, C 9, I 0, I 0, S s12, S s0, I 0, I 0, S s0, C 1, I 0, I 0, S s0, S s0, I 0, I 0, S s0, C 2, I 0, I 0, S s0, S s0, C 1, C 0, S s0, C 13, C 1, I 0, S s0, S s0, I 0, I 0, S s0] false
def o37 : Ob := .mp (.int .i64) .bool [((0 : Int), true), ((2 : Int), true), ((4 : Int), true), ((6 : Int), true), ((11 : Int), true), ((16 : Int), true)]
def o38 : Ob := vc 134 9 1 [C 15, I 0, I 0, S s0, aO, S s0, C 1, aO, aO] false
def o39 : Ob := .mp (.int .i64) .bool [((0 : Int), true), ((2 : Int), true), ((4 : Int), true), ((6 : Int), true), ((11 : Int), true), ((16 : Int), true), ((21 : Int), true)]
def o40 : Ob := vc 140 4 8 [J, J, I 0, J, J, J, I 0, J, J, J, I 0, J, J, J, I 0, J, J, J, I 0, J, J, J, I 0, J, J, J, I 0, J, J, J, I 0, J] false
def p0 : Ob := vc 60 2 1 [S s2, V 2 1 0 2] false
def p1 : Ob := vc 136 10 4 [S s6, C 11, I 0, I 0, S s0, aO, S s2, I 0, aO, V 5 9 0 2, S s7, C 6, I 0, I 0, S s0, aO, S s0, I 0, V 8 1 0 1, V 4 9 0 1, S s10, C 6, I 0, I 0, S s0, aO, S s0, I 0, V 7 1 0 1, V 6 9 0 1, S s12, C 6, I 0, I 0, S s0, aO, S s0, I 0, V 9 1 0 1, V 3 9 0 1] false
def p2 : Ob := vc 9 1 2 [S s3, S s4] false
def p3 : Ob := vc 134 9 1 [C 11, I 0, I 0, S s0, aO, S s2, I 0, aO, V 10 9 0 2] true
def p4 : Ob := vc 134 9 1 [C 13, I 0, I 0, S s0, aO, S s2, I 0, V 11 1 0 1, V 12 9 0 1] true
def p5 (n m : Int) : Ob := vc 134 9 2 [C 1, C 1, D (.ri .i64 0 99 (ah n)), S s0, D (.arr 4 0 (dxL [])), S s0, I 0, aO, aO, C 1, C 1, D (.ri .i64 0 99 (ah m)), S s0, D (.arr 4 0 (dxL [])), S s0, I 0, aO, aO] false
def p6 : Ob := vc 134 9 1 [C 13, I 0, I 0, S s0, aO, S s2, I 0, V 13 1 0 1, V 14 9 0 1] true
def p7 : Ob := vc 140 4 4 [I 0, I 0, I 0, V 5 8 0 7, I 1, I 1, I 0, V 4 8 0 5, I 1, I 1, I 0, V 6 8 0 5, I 1, I 1, I 0, V 3 8 0 7] false
def p8 : Ob := vc 63 3 1 [S s2, V 2 2 0 1, aO] false
def p9 (n m : Int) : Ob := vc 200 8 7 [C 1, I 0, I 0, S s0, S s0, I 0, I 0, S s0, C 1, I 0, I 0, S s0, S s0, I 0, I 0, S s0, C 2, I 0, I 0, S s0, S s0, C 1, .ri .i64 0 99 (ah n), S s0, C 1, I 0, I 0, S s0, S s0, I 0, I 0, S s0, C 2, I 0, I 0, S s0, S s0, C 1, .ri .i64 0 99 (ah m), S s0, C 19, C 2, I 0, S s2, S s0, I 0, I 0, S s0, C 14, I 0, I 0, S s0, S s0, I 0, I 0, S s0] false
def p10 : Ob := vc 63 3 1 [S s2, J, J] false
def p11 : Ob := vc 140 4 4 [I 0, I 0, I 0, V 6 8 0 7, I 1, I 1, I 0, V 5 8 0 5, I 1, I 1, I 0, V 7 8 0 5, I 1, I 1, I 0, V 4 8 0 7] false
def p12 : Ob := vc 63 3 1 [S s2, V 8 2 0 1, aO] false
def p13 : Ob := vc 63 3 1 [S s2, V 18 2 0 1, aO] false
def p14 : Ob := vc 60 2 1 [S s2, V 19 1 0 2] false
def p15 : Ob := vc 60 2 1 [S s2, V 9 1 0 2] false
def p16 : Ob := vc 140 4 4 [I 0, I 0, I 0, V 7 8 0 7, I 1, I 1, I 0, V 6 8 0 5, I 1, I 1, I 0, V 8 8 0 5, I 1, I 1, I 0, V 5 8 0 7] false
def p17 : Ob := vc 63 3 1 [S s2, V 9 2 0 1, aO] false
def p18 : Ob := vc 60 2 1 [S s2, V 10 1 0 2] false
def p19 : Ob := vc 140 4 4 [I 0, I 0, I 0, V 17 8 0 7, I 1, I 1, I 0, V 16 8 0 5, I 1, I 1, I 0, V 18 8 0 5, I 1, I 1, I 0, V 15 8 0 7] false
def p20 : Ob := vc 63 3 1 [S s2, V 19 2 0 1, aO] false
def p21 : Ob := vc 60 2 1 [S s2, V 20 1 0 2] false
def p22 (n m : Int) : Ob := vc 126 3 11 [C 8, C 1, S s0, C 1, I 0, S s0, C 8, C 2, S s0, C 1, I 0, S s0, C 8, C 3, S s0, C 1, I 0, S s0, C 9, C 0, S s0, C 1, C 0, S s0, C 1, C 2, S s0, C 1, .ri .i64 0 99 (ah n), S s0, C 1, .ri .i64 0 99 (ah m), S s0] false
def p23 : Ob := vc 140 4 5 [I 0, I 0, I 0, V 6 8 0 7, I 1, I 1, I 0, V 5 8 0 5, I 1, I 1, I 0, V 8 8 0 5, I 1, I 1, I 0, V 4 8 0 7, I 0, I 0, I 0, V 7 8 0 7] false
def p24 : Ob := vc 60 2 1 [S s2, V 8 1 0 2] false
def p25 : Ob := vc 60 2 1 [S s2, V 13 1 0 2] false
def p26 : Ob := vc 140 4 5 [I 0, I 0, I 0, V 7 8 0 7, I 1, I 1, I 0, V 6 8 0 5, I 1, I 1, I 0, V 9 8 0 5, I 1, I 1, I 0, V 5 8 0 7, I 0, I 0, I 0, V 8 8 0 7] false
def p27 : Ob := vc 63 3 1 [S s2, V 10 2 0 1, aO] false
def p28 : Ob := vc 60 2 1 [S s2, V 11 1 0 2] false
def p29 : Ob := vc 63 3 1 [S s2, V 20 2 0 1, aO] false
def p30 : Ob := vc 60 2 1 [S s2, V 21 1 0 2] false
def p31 : Ob := vc 140 4 5 [I 0, I 0, I 0, V 5 8 0 7, I 1, I 1, I 0, V 4 8 0 5, I 1, I 1, I 0, V 7 8 0 5, I 1, I 1, I 0, V 3 8 0 7, I 0, I 0, I 0, V 6 8 0 6] false
def p32 : Ob := vc 140 4 5 [I 0, I 0, I 0, V 6 8 0 7, I 1, I 1, I 0, V 5 8 0 5, I 1, I 1, I 0, V 8 8 0 5, I 1, I 1, I 0, V 4 8 0 7, I 0, I 0, I 0, V 7 8 0 6] false
def p33 : Ob := vc 9 1 2 [S s13, S s4] false
def p34 : Ob := vc 140 4 6 [I 0, I 0, I 0, V 7 8 0 7, I 1, I 1, I 0, V 5 8 0 5, I 1, I 1, I 0, V 9 8 0 5, I 1, I 1, I 0, V 4 8 0 7, I 2, I 2, I 0, V 8 8 0 3, I 2, I 2, I 0, V 6 8 0 3] false
def p35 : Ob := vc 63 3 1 [S s2, V 2 2 0 2, V 3 1 0 1] false
def p36 : Ob := vc 3 1 2 [I 4, I 5] false
def p37 : Ob := vc 63 3 1 [S s2, V 10 2 0 2, V 11 1 0 1] false
def p38 : Ob := vc 60 2 2 [S s2, V 13 1 0 2, S s2, V 12 1 0 2] false
def p39 : Ob := vc 201 1 1 [V 14 1 0 2] false
def p40 (n m : Int) : Ob := vc 126 3 11 [C 9, C 0, S s0, C 1, C 0, S s0, C 1, C 2, S s0, C 1, .ri .i64 0 99 (ah n), S s0, C 1, .ri .i64 0 99 (ah m), S s0, C 8, C 1, S s0, C 1, I 0, S s0, C 8, C 2, S s0, C 1, I 0, S s0, C 8, C 3, S s0, C 1, I 0, S s0] false
def p41 (n m : Int) : Ob := vc 126 3 16 [C 9, C 0, S s0, C 1, C 0, S s0, C 1, C 2, S s0, C 1, .ri .i64 0 99 (ah n), S s0, C 1, .ri .i64 0 99 (ah m), S s0, C 8, C 1, S s0, C 1, I 0, S s0, C 8, C 2, S s0, C 1, I 0, S s0, C 8, C 3, S s0, C 1, I 0, S s0, C 9, C 0, S s0, C 1, C 1, S s0, C 1, C 2, S s0, C 1, C 7, S s0, C 1, .ri .i64 0 99 (ah m), S s0] false
def p42 (n m : Int) : Ob := vc 126 3 16 [C 10, C 11, S s0, C 1, I 0, S s0, C 1, C 2, S s0, C 3, I 0, S s0, C 3, I 0, S s0, C 8, C 1, S s0, C 1, I 0, S s0, C 8, C 2, S s0, C 1, I 0, S s0, C 8, C 3, S s0, C 1, I 0, S s0, C 9, C 0, S s0, C 1, C 1, S s0, C 1, C 2, S s0, C 1, C 7, S s0, C 1, .ri .i64 0 99 (ah m), S s0] false
def p43 : Ob := vc 60 2 1 [S s2, V 17 1 0 2] false
def p44 (n m : Int) : Ob := vc 126 3 16 [C 8, C 1, S s0, C 1, I 0, S s0, C 8, C 2, S s0, C 1, I 0, S s0, C 8, C 3, S s0, C 1, I 0, S s0, C 9, C 0, S s0, C 1, C 0, S s0, C 1, C 2, S s0, C 1, .ri .i64 0 99 (ah n), S s0, C 1, .ri .i64 0 99 (ah m), S s0, C 9, C 0, S s0, C 1, C 1, S s0, C 1, C 2, S s0, C 1, C 7, S s0, C 1, .ri .i64 0 99 (ah m), S s0] false
def p45 (n m : Int) : Ob := vc 126 3 16 [C 8, C 1, S s0, C 1, I 0, S s0, C 8, C 2, S s0, C 1, I 0, S s0, C 8, C 3, S s0, C 1, I 0, S s0, C 10, C 11, S s0, C 1, I 0, S s0, C 1, C 2, S s0, C 3, I 0, S s0, C 3, I 0, S s0, C 9, C 0, S s0, C 1, C 1, S s0, C 1, C 2, S s0, C 1, C 7, S s0, C 1, .ri .i64 0 99 (ah m), S s0] false
def p46 : Ob := vc 140 4 6 [I 0, I 0, I 0, V 8 8 0 7, I 1, I 1, I 0, V 6 8 0 5, I 1, I 1, I 0, V 10 8 0 5, I 1, I 1, I 0, V 5 8 0 7, I 2, I 2, I 0, V 9 8 0 3, I 2, I 2, I 0, V 7 8 0 3] false
def p47 : Ob := vc 63 3 1 [S s2, V 11 2 0 2, V 12 1 0 1] false
def p48 : Ob := vc 60 2 2 [S s2, V 14 1 0 2, S s2, V 13 1 0 2] false
def p49 : Ob := vc 201 1 1 [V 15 1 0 2] false
def p50 : Ob := vc 140 4 7 [I 0, I 0, I 0, V 23 8 0 7, I 1, I 1, I 0, V 21 8 0 5, I 1, I 1, I 0, V 25 8 0 5, I 1, I 1, I 0, V 20 8 0 7, I 2, I 2, I 0, V 24 8 0 3, I 2, I 2, I 0, V 22 8 0 3, I 0, I 0, I 0, V 4 8 0 6] false
def p51 : Ob := vc 63 3 1 [S s2, V 26 2 0 2, V 27 1 0 1] false
def p52 : Ob := vc 60 2 2 [S s2, V 29 1 0 2, S s2, V 28 1 0 2] false
def p53 : Ob := vc 201 1 1 [V 30 1 0 2] false
def p54 : Ob := vc 140 4 7 [I 0, I 0, I 0, V 7 8 0 7, I 1, I 1, I 0, V 5 8 0 5, I 1, I 1, I 0, V 9 8 0 5, I 1, I 1, I 0, V 4 8 0 7, I 2, I 2, I 0, V 8 8 0 3, I 2, I 2, I 0, V 6 8 0 3, I 0, I 0, I 0, V 10 8 0 6] false
def p55 : Ob := vc 60 2 2 [S s2, V 12 1 0 2, S s2, V 11 1 0 2] false
def p56 : Ob := vc 201 1 1 [V 13 1 0 2] false
def p57 : Ob := vc 140 4 6 [I 0, I 0, I 0, V 23 8 0 7, I 1, I 1, I 0, V 21 8 0 5, I 1, I 1, I 0, V 25 8 0 5, I 1, I 1, I 0, V 20 8 0 7, I 2, I 2, I 0, V 24 8 0 3, I 2, I 2, I 0, V 22 8 0 3] false
def p58 (n m : Int) : Ob := vc 126 3 21 [C 8, C 1, S s0, C 1, I 0, S s0, C 8, C 2, S s0, C 1, I 0, S s0, C 8, C 3, S s0, C 1, I 0, S s0, C 10, C 11, S s0, C 1, I 0, S s0, C 1, C 2, S s0, C 3, I 0, S s0, C 3, I 0, S s0, C 9, C 0, S s0, C 1, C 1, S s0, C 1, C 2, S s0, C 1, C 7, S s0, C 1, .ri .i64 0 99 (ah m), S s0, C 9, C 0, S s0, C 1, C 1, S s0, C 1, C 2, S s0, C 1, C 0, S s0, C 1, C 0, S s0] false
def p59 : Ob := vc 140 4 7 [I 0, I 0, I 0, V 7 8 0 7, I 1, I 1, I 0, V 5 8 0 5, I 1, I 1, I 0, V 9 8 0 5, I 1, I 1, I 0, V 4 8 0 7, I 2, I 2, I 0, V 8 8 0 3, I 2, I 2, I 0, V 6 8 0 3, I 2, I 2, I 0, V 10 8 0 3] false
def p60 : Ob := vc 63 3 1 [S s2, V 2 2 0 3, V 3 1 0 2] false
def p61 : Ob := vc 63 3 1 [S s2, V 11 2 0 3, V 12 1 0 2] false
def p62 : Ob := vc 60 2 3 [S s2, V 14 1 0 2, S s2, V 13 1 0 2, S s2, V 15 1 0 1] false
def p63 : Ob := vc 201 1 2 [V 17 1 0 2, V 16 1 0 1] false
def p64 (n m : Int) : Ob := vc 126 3 11 [C 9, C 0, S s0, C 1, C 1, S s0, C 1, C 2, S s0, C 1, C 7, S s0, C 1, .ri .i64 0 99 (ah m), S s0, C 8, C 1, S s0, C 1, I 0, S s0, C 8, C 2, S s0, C 1, I 0, S s0, C 8, C 3, S s0, C 1, I 0, S s0] false
def p65 (n m : Int) : Ob := vc 126 3 15 [C 9, C 0, S s0, C 1, C 1, S s0, C 1, C 2, S s0, C 1, C 7, S s0, C 1, .ri .i64 0 99 (ah m), S s0, C 8, C 1, S s0, C 1, I 0, S s0, C 8, C 2, S s0, C 1, I 0, S s0, C 8, C 3, S s0, C 1, I 0, S s0, C 9, C 0, S s0, C 1, C 2, S s0, C 1, C 1, S s0, C 1, .ri .i64 0 99 (ah m), S s0] false
def p66 (n m : Int) : Ob := vc 126 3 15 [C 10, C 11, S s0, C 1, I 0, S s0, C 1, C 2, S s0, C 3, I 0, S s0, C 3, I 0, S s0, C 8, C 1, S s0, C 1, I 0, S s0, C 8, C 2, S s0, C 1, I 0, S s0, C 8, C 3, S s0, C 1, I 0, S s0, C 9, C 0, S s0, C 1, C 2, S s0, C 1, C 1, S s0, C 1, .ri .i64 0 99 (ah m), S s0] false
def p67 : Ob := vc 140 4 7 [I 0, I 0, I 0, V 26 8 0 7, I 1, I 1, I 0, V 24 8 0 5, I 1, I 1, I 0, V 28 8 0 5, I 1, I 1, I 0, V 23 8 0 7, I 2, I 2, I 0, V 27 8 0 3, I 2, I 2, I 0, V 25 8 0 3, I 2, I 2, I 0, V 29 8 0 3] false
def p68 : Ob := vc 63 3 1 [S s2, V 30 2 0 3, V 31 1 0 2] false
def p69 : Ob := vc 60 2 3 [S s2, V 33 1 0 2, S s2, V 32 1 0 2, S s2, V 34 1 0 1] false
def p70 : Ob := vc 201 1 2 [V 36 1 0 2, V 35 1 0 1] false
def p71 : Ob := vc 60 2 1 [S s2, V 20 1 0 1] false
def p72 (n m : Int) : Ob := vc 126 3 25 [C 8, C 1, S s0, C 1, I 0, S s0, C 8, C 2, S s0, C 1, I 0, S s0, C 8, C 3, S s0, C 1, I 0, S s0, C 10, C 11, S s0, C 1, I 0, S s0, C 1, C 2, S s0, C 3, I 0, S s0, C 3, I 0, S s0, C 9, C 0, S s0, C 1, C 1, S s0, C 1, C 2, S s0, C 1, C 7, S s0, C 1, .ri .i64 0 99 (ah m), S s0, C 9, C 0, S s0, C 1, C 1, S s0, C 1, C 2, S s0, C 1, C 0, S s0, C 1, C 0, S s0, C 9, C 0, S s0, C 1, C 2, S s0, C 1, C 1, S s0, C 1, .ri .i64 0 99 (ah m), S s0] false
def p73 (n m : Int) : Ob := vc 126 3 25 [C 8, C 1, S s0, C 1, I 0, S s0, C 8, C 2, S s0, C 1, I 0, S s0, C 8, C 3, S s0, C 1, I 0, S s0, C 10, C 11, S s0, C 1, I 0, S s0, C 1, C 2, S s0, C 3, I 0, S s0, C 3, I 0, S s0, C 10, C 21, S s0, C 1, I 0, S s0, C 1, C 2, S s0, C 3, I 0, S s0, C 3, I 0, S s0, C 9, C 0, S s0, C 1, C 1, S s0, C 1, C 2, S s0, C 1, C 0, S s0, C 1, C 0, S s0, C 9, C 0, S s0, C 1, C 2, S s0, C 1, C 1, S s0, C 1, .ri .i64 0 99 (ah m), S s0] false
def p74 : Ob := vc 140 4 7 [I 0, I 0, I 0, V 8 8 0 7, I 1, I 1, I 0, V 6 8 0 5, I 1, I 1, I 0, V 10 8 0 5, I 1, I 1, I 0, V 5 8 0 7, I 2, I 2, I 0, V 9 8 0 3, I 2, I 2, I 0, V 7 8 0 3, I 2, I 2, I 0, V 11 8 0 3] false
def p75 : Ob := vc 63 3 1 [S s2, V 12 2 0 3, V 13 1 0 2] false
def p76 : Ob := vc 60 2 3 [S s2, V 15 1 0 2, S s2, V 14 1 0 2, S s2, V 16 1 0 1] false
def p77 : Ob := vc 201 1 2 [V 18 1 0 2, V 17 1 0 1] false
def p78 : Ob := vc 140 4 8 [I 0, I 0, I 0, V 8 8 0 7, I 1, I 1, I 0, V 6 8 0 5, I 1, I 1, I 0, V 10 8 0 5, I 1, I 1, I 0, V 5 8 0 7, I 2, I 2, I 0, V 9 8 0 3, I 2, I 2, I 0, V 7 8 0 3, I 2, I 2, I 0, V 11 8 0 3, I 0, I 0, I 0, V 4 8 0 6] false
def a0 : SV := .agg [aO, aO, aO, aO, C 4000]
def a1 : SV := .agg [V 0 4 0 4, J, V 1 3 0 1, J, J]
def a2 : SV := .agg [V 0 4 0 4, V 1 4 0 4, V 2 3 0 1, J, J]
def a3 : SV := .agg [I 0, I 0, I 0, V 3 8 0 7]
def a4 : SV := .agg [I 1, I 1, I 0, V 3 8 0 5]
def a5 : SV := .agg [I 1, I 1, I 0, V 3 8 0 7]
def a6 : SV := .agg [V 0 4 0 4, V 1 4 0 4, V 2 3 0 1, aO, C 4000]
def a7 : SV := .agg [V 0 4 0 4, V 1 4 0 4, V 2 3 0 1, V 3 3 0 2, C 4000]
def a8 : SV := .agg [V 0 4 0 4, V 1 4 0 4, V 2 3 0 1, V 3 3 0 4, C 4000]
def a9 : SV := .agg [V 0 4 0 4, V 1 4 0 4, V 2 3 0 1, V 3 3 0 6, C 4000]
def a10 : SV := .agg [.sl 0 4 0 4 (some 4), J, V 1 3 0 1, J, J]
def a11 : SV := .agg [.sl 0 4 0 4 (some 4), V 1 4 0 4, V 2 3 0 1, J, J]
def a12 : SV := .agg [.sl 0 4 0 4 (some 4), V 1 4 0 4, V 2 3 0 1, V 3 3 0 11, C 4000]
def a13 : SV := .agg [I 0, I 0, I 0, V 3 8 0 6]
def a14 : SV := .agg [I 0, I 0, I 0, V 4 8 0 6]
def a15 : SV := .agg [C 2, S s0, S s7, V 4 4 0 1, C 5000]
def a16 : SV := .agg [V 0 4 0 4, V 1 4 0 4, V 2 3 0 1, V 3 3 0 11, C 4000]
def a17 (n m : Int) : SV := .agg [C 1, .ri .i64 0 99 (ah m), S s0]
def a18 : SV := .agg [C 2, S s0, S s10, V 4 4 0 1, C 5000]
def a19 : SV := .agg [S s2, V 2 2 0 2, V 3 1 0 1]
def a20 : SV := .agg [V 0 4 0 6, V 1 4 0 4, V 2 3 0 1, J, J]
def a21 : SV := .agg [I 2, I 2, I 0, V 3 8 0 3]
def a22 : SV := .agg [V 0 4 0 6, V 1 4 0 4, V 2 3 0 1, V 3 3 0 11, C 4000]
def a23 : SV := .agg [V 4 2 0 1, aO, V 5 2 0 1]
def a24 : SV := .agg [.sl 0 4 0 6 (some 6), J, V 1 3 0 1, J, J]
def a25 : SV := .agg [.sl 0 4 0 6 (some 6), V 1 4 0 4, V 2 3 0 1, J, J]
def a26 : SV := .agg [.sl 0 4 0 6 (some 6), V 1 4 0 4, V 2 3 0 1, V 3 3 0 16, C 4000]
def a27 : SV := .agg [V 0 4 0 6, V 1 4 0 4, V 2 3 0 1, V 3 3 0 16, C 4000]
def a28 : SV := .agg [.sl 0 4 0 6 (some 6), V 1 4 0 4, V 2 3 0 1, V 3 3 0 21, C 4000]
def a29 : SV := .agg [C 2, S s0, S s12, V 4 4 0 1, C 5000]
def a30 : SV := .agg [V 0 4 0 6, V 1 4 0 4, V 2 3 0 1, V 3 3 0 21, C 4000]
def a31 : SV := .agg [S s2, V 2 2 0 3, V 3 1 0 2]
def a32 : SV := .agg [V 0 4 0 7, V 1 4 0 4, V 2 3 0 1, J, J]
def a33 : SV := .agg [V 0 4 0 7, V 1 4 0 4, V 2 3 0 1, V 3 3 0 21, C 4000]
def a34 : SV := .agg [V 0 4 0 7, V 1 4 0 4, V 2 3 0 1, V 3 3 0 11, C 4000]
def a35 : SV := .agg [.sl 0 4 0 7 (some 7), V 1 4 0 4, V 2 3 0 1, J, J]
def a36 : SV := .agg [.sl 0 4 0 7 (some 7), V 1 4 0 4, V 2 3 0 1, V 3 3 0 25, C 4000]
def a37 : SV := .agg [V 0 4 0 7, V 1 4 0 4, V 2 3 0 1, V 3 3 0 25, C 4000]
def w0 (n m : Int) : List (Option Ob) := [some p0, some p1, some p2, some p3, some p4, some (p5 n m), some p6, some (vc 9 1 1 [S s8] false), some (vc 9 1 1 [S s8] false), some (vc 9 1 1 [S s8] false), some o0, some (vc 9 1 1 [S s3] true), some o1, some (vc 9 1 1 [S s4] true), some o1]
def w1 (n m : Int) : List (Option Ob) := [some p23, some o21, some p17, some (p22 n m), some o3, some o4, some (p9 n m), some (p9 n m), some o5, some p18, some p2]
def w2 (n m : Int) : List (Option Ob) := [some p32, some o21, some p17, some (p22 n m), some o3, some o4, some (p9 n m), some o25, some o5, some p18, some p2]
def w3 (n m : Int) : List (Option Ob) := [some p19, some o21, some p20, some (p22 n m), some o3, some o4, some (p9 n m), some o5, some p21, some p2]
def w4 (n m : Int) : List (Option Ob) := [some p11, some o21, some p12, some (p22 n m), some o3, some o4, some (p9 n m), some o5, some p15, some p2]
def w5 (n m : Int) : List (Option Ob) := [some p32, some o21, some p17, some (p22 n m), some o3, some o4, some (p9 n m), some o26, some o5, some p18, some p2]
def w6 (n m : Int) : List (Option Ob) := [some p34, some o21, some p37, some (p22 n m), some o3, some o4, some o28, some (p9 n m), some o29, some o5, some p38, some p39, some p33, some p2, some p36]
def w7 (n m : Int) : List (Option Ob) := [some p34, some o31, some p37, some (p40 n m), some o3, some o4, some o28, some (p9 n m), some o29, some o5, some p38, some p39, some p33, some p2, some p36]
def w8 (n m : Int) : List (Option Ob) := [some p46, some o21, some p47, some (p22 n m), some o22, some o3, some o4, some o28, some (p9 n m), some o29, some o5, some p48, some p49, some p33, some p2, some p36]
def w9 (n m : Int) : List (Option Ob) := [some o35, some o8, some p10, some (p9 n m)]
def w10 : List (Option Ob) := [some o35, some o8, some p10, some o4]
def w11 : List (Option Ob) := [some o35, some o8, some p10, some o5]
def w12 : List (Option Ob) := [some o35, some o8, some p10, some o3]
def w13 : List (Option Ob) := [some o35, some o8, some p10, some o29]
def w14 : List (Option Ob) := [some o35, some o8, some p10, some o28]
def w15 (n m : Int) : List (Option Ob) := [some p54, some o21, some p47, some (p45 n m), some o3, some o4, some o28, some (p9 n m), some o29, some o5, some o26, some p48, some p49, some p33, some p2, some p36]
def w16 (n m : Int) : List (Option Ob) := [some p57, some o21, some p51, some (p45 n m), some o3, some o4, some o28, some (p9 n m), some o29, some o5, some p52, some p53, some p33, some p2, some p36]
def w17 (n m : Int) : List (Option Ob) := [some p34, some o21, some p37, some (p45 n m), some o3, some o4, some o28, some (p9 n m), some o29, some o5, some p38, some p39, some p33, some p2, some p36]
def w18 (n m : Int) : List (Option Ob) := [some p54, some o21, some p47, some (p58 n m), some o3, some o4, some o28, some (p9 n m), some o29, some o5, some o36, some p48, some p49, some p33, some p2, some p36]
def w19 (n m : Int) : List (Option Ob) := [some p57, some o21, some p51, some (p58 n m), some o3, some o4, some o28, some (p9 n m), some o29, some o5, some p52, some p53, some p33, some p2, some p36]
def w20 (n m : Int) : List (Option Ob) := [some p34, some o21, some p37, some (p58 n m), some o3, some o4, some o28, some (p9 n m), some o29, some o5, some p38, some p39, some p33, some p2, some p36]
def w21 (n m : Int) : List (Option Ob) := [some p59, some o21, some p61, some (p58 n m), some o3, some o4, some o28, some (p9 n m), some o29, some o5, some o28, some p62, some p63, some p33, some p2, some (vc 9 1 1 [S s4] false), some (vc 3 1 1 [I 6] false), some p36]
def w22 (n m : Int) : List (Option Ob) := [some p59, some o31, some p61, some (p64 n m), some o3, some o4, some o28, some (p9 n m), some o29, some o5, some o28, some p62, some p63, some p33, some p2, some (vc 9 1 1 [S s4] false), some (vc 3 1 1 [I 6] false), some p36]
def w23 : List (Option Ob) := [some o6, some p71, some (vc 9 1 1 [S s4] false)]
def w24 (n m : Int) : List (Option Ob) := [some p78, some o21, some p75, some (p73 n m), some o26, some o3, some o4, some o28, some (p9 n m), some o29, some o5, some o28, some p76, some p77, some p33, some p2, some (vc 9 1 1 [S s4] false), some (vc 3 1 1 [I 6] false), some p36]
def w25 (n m : Int) : List (Option Ob) := [some p67, some o21, some p68, some (p73 n m), some o3, some o4, some o28, some (p9 n m), some o29, some o5, some o28, some p69, some p70, some p33, some p2, some (vc 9 1 1 [S s4] false), some (vc 3 1 1 [I 6] false), some p36]
def w26 (n m : Int) : List (Option Ob) := [some p59, some o21, some p61, some (p73 n m), some o3, some o4, some o28, some (p9 n m), some o29, some o5, some o28, some p62, some p63, some p33, some p2, some (vc 9 1 1 [S s4] false), some (vc 3 1 1 [I 6] false), some p36]
def e0 (n m : Int) : TE := ⟨0, [aO], [], .tup [.nm 0, .kb true], [some (.mp (.int .i64) .bool [])]⟩
def e1 (n m : Int) : TE := ⟨0, [.agg [aO, C 4000]], [], I 0, []⟩
def e2 (n m : Int) : TE := ⟨0, [.agg [aO, aO]], [], I 0, []⟩
def e3 (n m : Int) : TE := ⟨0, [a0], [], I 0, []⟩
def e4 (n m : Int) : TE := ⟨0, [a0], [], .tup [.agg [aO, aO], I 0], []⟩
def e5 (n m : Int) : TE := ⟨0, [D (.arr 4 5 (dxL [(ls [(sy s1), (sy s2), (sy s3), (sy s4)]), (ls [(sy s5), (sy s6), (ls [(sy s2), (nu 0 99 (ah n)), (nu 0 99 (ah m))])]), (ls [(sy s5), (ls [(sy s7), (sy s8)]), (ls [(sy s9), (sy s6)])]), (ls [(sy s5), (ls [(sy s10), (sy s8)]), (ls [(sy s11), (sy s6)])]), (ls [(sy s5), (ls [(sy s12), (sy s8)]), (ls [(sy s2), (sy s8), (sy s8)])])])), .agg [aO, aO]], [], .tup [.agg [V 0 2 0 1, V 1 10 0 4, aO], I 0, I 0], (w0 n m)⟩
def e6 (n m : Int) : TE := ⟨2, [.agg [V 0 1 0 4, V 1 2 0 1]], [some o6, some (vc 60 2 1 [S s2, aO] false)], I 0, []⟩
def e7 (n m : Int) : TE := ⟨8, [a1, .agg [S s2, V 2 2 0 1, aO]], [some p7, some p8, some (vc 60 2 1 [S s2, V 7 1 0 2] true), some o3, some o4, some (p9 n m), some o5, some p2], .kb true, []⟩
def e8 (n m : Int) : TE := ⟨0, [.agg [aO, C 50]], [], I 0, []⟩
def e9 (n m : Int) : TE := ⟨4, [a2, a3], [some o7, some o8, some p10, some (p9 n m)], .kb true, []⟩
def e10 (n m : Int) : TE := ⟨4, [a2, a4], [some o7, some o8, some p10, some o4], .kb true, []⟩
def e11 (n m : Int) : TE := ⟨4, [a2, a4], [some o7, some o8, some p10, some o5], .kb true, []⟩
def e12 (n m : Int) : TE := ⟨4, [a2, a5], [some o7, some o8, some p10, some o3], .kb true, []⟩
def e13 (n m : Int) : TE := ⟨9, [a6], [some p7, some o2, some (vc 63 3 1 [S s2, V 7 2 0 1, aO] false), some o3, some o4, some (p9 n m), some o5, some (vc 60 2 1 [S s2, V 8 1 0 2] true), some p2], I 0, []⟩
def e14 (n m : Int) : TE := ⟨1, [V 0 3 0 2], [some o10], .tup [.nm 1, .kb true], [some o11]⟩
def e15 (n m : Int) : TE := ⟨1, [.agg [V 0 3 0 2, C 4000]], [some o10], I 0, []⟩
def e16 (n m : Int) : TE := ⟨10, [a6, V 3 3 0 2, aO], [some p11, some o2, some p12, some o9, some o3, some o4, some (p9 n m), some o5, some (vc 60 2 1 [S s2, V 9 1 0 2] true), some p2], .tup [.agg [V 10 4 0 4, V 11 4 0 4, V 12 3 0 1, V 13 3 0 2, C 4000], .agg [C 5, C 0, S s0], I 0], [some (vc 140 4 4 [I 0, I 0, I 0, V 16 8 0 7, I 1, I 1, I 0, V 15 8 0 5, I 1, I 1, I 0, V 17 8 0 5, I 1, I 1, I 0, V 14 8 0 7] false), some o2, some p13, some o10, some o3, some o4, some (p9 n m), some o5, some p14, some p2]⟩
def e17 (n m : Int) : TE := ⟨8, [a1, .agg [S s2, V 2 2 0 1, aO]], [some p7, some p8, some (vc 60 2 1 [S s2, V 7 1 0 2] false), some o3, some o4, some (p9 n m), some o5, some p2], .kb true, []⟩
def e18 (n m : Int) : TE := ⟨10, [a7], [some p11, some o12, some p12, some o10, some o3, some o4, some (p9 n m), some o5, some p15, some p2], I 0, []⟩
def e19 (n m : Int) : TE := ⟨1, [V 0 3 0 4], [some o14], .tup [.nm 1, .kb true], [some o15]⟩
def e20 (n m : Int) : TE := ⟨1, [.agg [V 0 3 0 4, C 4000]], [some o14], I 0, []⟩
def e21 (n m : Int) : TE := ⟨11, [a7, V 4 3 0 2, aO], [some p16, some o12, some p17, some o10, some o13, some o3, some o4, some (p9 n m), some o5, some p18, some p2], .tup [.agg [V 11 4 0 4, V 12 4 0 4, V 13 3 0 1, V 14 3 0 4, C 4000], .agg [C 5, C 2, S s0], I 0], [some p19, some o12, some p20, some o14, some o3, some o4, some (p9 n m), some o5, some p21, some p2]⟩
def e22 (n m : Int) : TE := ⟨10, [a8], [some p11, some o16, some p12, some o14, some o3, some o4, some (p9 n m), some o5, some p15, some p2], I 0, []⟩
def e23 (n m : Int) : TE := ⟨1, [V 0 3 0 6], [some o18], .tup [.nm 1, .kb true], [some o19]⟩
def e24 (n m : Int) : TE := ⟨1, [.agg [V 0 3 0 6, C 4000]], [some o18], I 0, []⟩
def e25 (n m : Int) : TE := ⟨11, [a8, V 4 3 0 2, aO], [some p16, some o16, some p17, some o14, some o17, some o3, some o4, some (p9 n m), some o5, some p18, some p2], .tup [.agg [V 11 4 0 4, V 12 4 0 4, V 13 3 0 1, V 14 3 0 6, C 4000], .agg [C 5, C 4, S s0], I 0], [some p19, some o16, some p20, some o18, some o3, some o4, some (p9 n m), some o5, some p21, some p2]⟩
def e26 (n m : Int) : TE := ⟨10, [a9], [some p11, some o20, some p12, some o18, some o3, some o4, some (p9 n m), some o5, some p15, some p2], I 0, []⟩
def e27 (n m : Int) : TE := ⟨10, [a9, .agg [I 0, I 0, I 0, V 4 8 0 7], I 20000], [some (vc 140 4 4 [I 0, I 0, I 0, V 4 8 0 7, I 1, I 1, I 0, V 6 8 0 5, I 1, I 1, I 0, V 7 8 0 5, I 1, I 1, I 0, V 5 8 0 7] false), some o20, some p12, some o18, some (p9 n m), some o3, some o4, some o5, some p15, some p2], .tup [.agg [.sl 10 4 0 4 (some 4), V 11 4 0 4, V 12 3 0 1, V 13 3 0 11, C 4000], .agg [C 5, C 6, S s0], I 0], [some (vc 140 4 5 [I 0, I 0, I 0, V 16 8 0 7, I 1, I 1, I 0, V 15 8 0 5, I 1, I 1, I 0, V 17 8 0 5, I 1, I 1, I 0, V 14 8 0 7, I 0, I 0, I 0, V 4 8 0 7] false), some o20, some p13, some (p22 n m), some o3, some o4, some (p9 n m), some o5, some p14, some p2]⟩
def e28 (n m : Int) : TE := ⟨15, [a0, .agg [V 0 2 0 1, V 1 10 0 4, aO]], (w0 n m), .tup [.agg [.sl 15 4 0 4 (some 4), V 16 4 0 4, V 17 3 0 1, V 18 3 0 11, C 4000], I 0], [some (vc 140 4 5 [I 0, I 0, I 0, V 21 8 0 7, I 1, I 1, I 0, V 20 8 0 5, I 1, I 1, I 0, V 23 8 0 5, I 1, I 1, I 0, V 19 8 0 7, I 0, I 0, I 0, V 22 8 0 7] false), some o21, some (vc 63 3 1 [S s2, V 24 2 0 1, aO] false), some (p22 n m), some o3, some o4, some (p9 n m), some (p9 n m), some o5, some (vc 60 2 1 [S s2, V 25 1 0 2] false), some p2]⟩
def e29 (n m : Int) : TE := ⟨0, [a0, .sy (s16 ++ aC (ah n) ++ s17 ++ aC (ah m) ++ s18)], [], .tup [.agg [.sl 0 4 0 4 (some 4), V 1 4 0 4, V 2 3 0 1, V 3 3 0 11, C 4000], I 0], (w1 n m)⟩
def e30 (n m : Int) : TE := ⟨1, [V 0 3 0 11], [some (p22 n m)], .tup [.nm 1, .kb true], [some o23]⟩
def e31 (n m : Int) : TE := ⟨1, [.agg [V 0 3 0 11, C 4000]], [some (p22 n m)], I 0, []⟩
def e32 (n m : Int) : TE := ⟨9, [a10, .agg [S s2, V 2 2 0 1, aO]], [some (vc 140 4 5 [I 0, I 0, I 0, V 5 8 0 7, I 1, I 1, I 0, V 4 8 0 5, I 1, I 1, I 0, V 7 8 0 5, I 1, I 1, I 0, V 3 8 0 7, I 0, I 0, I 0, V 6 8 0 7] false), some p8, some p24, some o3, some o4, some (p9 n m), some (p9 n m), some o5, some p2], .kb true, []⟩
def e33 (n m : Int) : TE := ⟨4, [a11, a3], [some o24, some o8, some p10, some (p9 n m)], .kb true, []⟩
def e34 (n m : Int) : TE := ⟨4, [a11, a4], [some o24, some o8, some p10, some o4], .kb true, []⟩
def e35 (n m : Int) : TE := ⟨4, [a11, a4], [some o24, some o8, some p10, some o5], .kb true, []⟩
def e36 (n m : Int) : TE := ⟨4, [a11, a5], [some o24, some o8, some p10, some o3], .kb true, []⟩
def e37 (n m : Int) : TE := ⟨11, [a12], (w1 n m), I 0, []⟩
def e38 (n m : Int) : TE := ⟨11, [a12], (w1 n m), .tup [.agg [V 11 1 0 4, V 12 2 0 1], I 0], [some o6, some p25, some p2]⟩
def e39 (n m : Int) : TE := ⟨4, [a11, a13], [some o24, some o8, some p10, some o25], .kb true, []⟩
def e40 (n m : Int) : TE := ⟨12, [a12, a14, I 5000], [some p26, some o21, some p27, some (p22 n m), some o25, some o3, some o4, some (p9 n m), some (p9 n m), some o5, some p28, some p2], .tup [.agg [.sl 12 4 0 4 (some 4), V 13 4 0 4, V 14 3 0 1, V 15 3 0 11, C 4000], .agg [C 1, .ri .i64 0 99 (ah n), S s0], I 0], [some (vc 140 4 5 [I 0, I 0, I 0, V 18 8 0 7, I 1, I 1, I 0, V 17 8 0 5, I 1, I 1, I 0, V 19 8 0 5, I 1, I 1, I 0, V 16 8 0 7, I 0, I 0, I 0, V 4 8 0 6] false), some o21, some p29, some (p22 n m), some o3, some o4, some (p9 n m), some o5, some p30, some p2]⟩
def e41 (n m : Int) : TE := ⟨9, [a10, .agg [S s2, V 2 2 0 1, aO]], [some p31, some p8, some p24, some o3, some o4, some (p9 n m), some o25, some o5, some p2], .kb true, []⟩
def e42 (n m : Int) : TE := ⟨11, [a12], (w2 n m), I 0, []⟩
def e43 (n m : Int) : TE := ⟨11, [a12, .agg [C 1, .ri .i64 0 99 (ah n), S s0]], (w2 n m), .tup [.agg [V 11 4 0 4, V 12 4 0 4, V 13 3 0 1, V 14 3 0 11, C 4000], .sy (aC (ah n)), I 0], (w3 n m)⟩
def e44 (n m : Int) : TE := ⟨12, [a12, a15], [some p26, some o21, some p27, some (p22 n m), some o22, some o3, some o4, some (p9 n m), some (p9 n m), some o5, some p28, some p2], .tup [.agg [V 12 4 0 4, V 13 4 0 4, V 14 3 0 1, V 15 3 0 11, C 4000], .sy (aC (ah n)), I 0], [some (vc 140 4 4 [I 0, I 0, I 0, V 18 8 0 7, I 1, I 1, I 0, V 17 8 0 5, I 1, I 1, I 0, V 19 8 0 5, I 1, I 1, I 0, V 16 8 0 7] false), some o21, some p29, some (p22 n m), some o3, some o4, some (p9 n m), some o5, some p30, some p2]⟩
def e45 (n m : Int) : TE := ⟨10, [a16], (w4 n m), I 0, []⟩
def e46 (n m : Int) : TE := ⟨10, [a16], (w4 n m), .tup [.agg [V 10 1 0 4, V 11 2 0 1], I 0], [some o6, some (vc 60 2 1 [S s2, V 12 1 0 2] false), some p2]⟩
def e47 (n m : Int) : TE := ⟨4, [a2, a13], [some o7, some o8, some p10, some o26], .kb true, []⟩
def e48 (n m : Int) : TE := ⟨11, [a16, a14, I 5000], [some p16, some o21, some p17, some (p22 n m), some o26, some o3, some o4, some (p9 n m), some o5, some p18, some p2], .tup [.agg [.sl 11 4 0 4 (some 4), V 12 4 0 4, V 13 3 0 1, V 14 3 0 11, C 4000], .agg [C 1, .ri .i64 0 99 (ah m), S s0], I 0], [some (vc 140 4 5 [I 0, I 0, I 0, V 17 8 0 7, I 1, I 1, I 0, V 16 8 0 5, I 1, I 1, I 0, V 18 8 0 5, I 1, I 1, I 0, V 15 8 0 7, I 0, I 0, I 0, V 4 8 0 6] false), some o21, some p20, some (p22 n m), some o3, some o4, some (p9 n m), some o5, some p21, some p2]⟩
def e49 (n m : Int) : TE := ⟨9, [a10, .agg [S s2, V 2 2 0 1, aO]], [some p31, some p8, some p24, some o3, some o4, some (p9 n m), some o26, some o5, some p2], .kb true, []⟩
def e50 (n m : Int) : TE := ⟨11, [a12], (w5 n m), I 0, []⟩
def e51 (n m : Int) : TE := ⟨11, [a12, (a17 n m)], (w5 n m), .tup [.agg [V 11 4 0 4, V 12 4 0 4, V 13 3 0 1, V 14 3 0 11, C 4000], .sy (aC (ah m)), I 0], (w3 n m)⟩
def e52 (n m : Int) : TE := ⟨11, [a16, a18], [some p16, some o21, some p17, some (p22 n m), some o22, some o3, some o4, some (p9 n m), some o5, some p18, some p2], .tup [.agg [V 11 4 0 4, V 12 4 0 4, V 13 3 0 1, V 14 3 0 11, C 4000], .sy (aC (ah m)), I 0], (w3 n m)⟩
def e53 (n m : Int) : TE := ⟨3, [.agg [V 0 1 0 4, V 1 2 0 1]], [some o6, some p0, some p2], I 0, []⟩
def e54 (n m : Int) : TE := ⟨3, [D (.arr 4 2 (dxL [(ls [(sy s1), (sy s2), (sy s13), (sy s4)]), (ls [(sy s14), (sy s2), (num 7), (ls [(sy s15), (sy s4)])])])), .agg [V 0 1 0 4, V 1 2 0 1]], [some o6, some p0, some p2], .tup [.agg [V 3 2 0 1, aO, V 4 2 0 1], I 0, I 0], [some (vc 60 2 1 [S s2, V 5 1 0 2] false), some (vc 194 2 1 [S s2, V 6 9 0 2] false), some p33, some o27]⟩
def e55 (n m : Int) : TE := ⟨13, [.agg [V 0 4 0 6, J, V 1 3 0 1, J, J], a19], [some p34, some p35, some (vc 60 2 2 [S s2, V 11 1 0 2, S s2, V 10 1 0 2] false), some (vc 201 1 1 [V 12 1 0 2] false), some o3, some o4, some o28, some (p9 n m), some o29, some o5, some p33, some p2, some p36], .kb true, []⟩
def e56 (n m : Int) : TE := ⟨4, [a20, a3], [some o30, some o8, some p10, some (p9 n m)], .kb true, []⟩
def e57 (n m : Int) : TE := ⟨4, [a20, a4], [some o30, some o8, some p10, some o4], .kb true, []⟩
def e58 (n m : Int) : TE := ⟨4, [a20, a4], [some o30, some o8, some p10, some o5], .kb true, []⟩
def e59 (n m : Int) : TE := ⟨4, [a20, a5], [some o30, some o8, some p10, some o3], .kb true, []⟩
def e60 (n m : Int) : TE := ⟨4, [a20, a21], [some o30, some o8, some p10, some o29], .kb true, []⟩
def e61 (n m : Int) : TE := ⟨4, [a20, a21], [some o30, some o8, some p10, some o28], .kb true, []⟩
def e62 (n m : Int) : TE := ⟨15, [a22], (w6 n m), I 0, []⟩
def e63 (n m : Int) : TE := ⟨1, [V 0 3 0 11], [some (p40 n m)], .tup [.nm 1, .kb true], [some o32]⟩
def e64 (n m : Int) : TE := ⟨1, [.agg [V 0 3 0 11, C 4000]], [some (p40 n m)], I 0, []⟩
def e65 (n m : Int) : TE := ⟨15, [a22], (w7 n m), I 0, []⟩
def e66 (n m : Int) : TE := ⟨1, [V 0 3 0 16], [some (p41 n m)], .tup [.nm 1, .kb true], [some o33]⟩
def e67 (n m : Int) : TE := ⟨1, [.agg [V 0 3 0 16, C 4000]], [some (p41 n m)], I 0, []⟩
def e68 (n m : Int) : TE := ⟨1, [V 0 3 0 16], [some (p42 n m)], .tup [.nm 1, .kb true], [some o33]⟩
def e69 (n m : Int) : TE := ⟨1, [.agg [V 0 3 0 16, C 4000]], [some (p42 n m)], I 0, []⟩
def e70 (n m : Int) : TE := ⟨15, [a22, .agg [C 5, C 0, S s0]], (w7 n m), .tup [.agg [V 15 4 0 6, V 16 4 0 4, V 17 3 0 1, V 18 3 0 16, C 4000], .agg [C 5, I 11, S s0], I 0], [some (vc 140 4 6 [I 0, I 0, I 0, V 22 8 0 7, I 1, I 1, I 0, V 20 8 0 5, I 1, I 1, I 0, V 24 8 0 5, I 1, I 1, I 0, V 19 8 0 7, I 2, I 2, I 0, V 23 8 0 3, I 2, I 2, I 0, V 21 8 0 3] false), some o31, some (vc 63 3 1 [S s2, V 25 2 0 2, V 26 1 0 1] false), some (p42 n m), some o3, some o4, some o28, some (p9 n m), some o29, some o5, some (vc 60 2 2 [S s2, V 28 1 0 2, S s2, V 27 1 0 2] false), some (vc 201 1 1 [V 29 1 0 2] false), some p33, some p2, some p36]⟩
def e71 (n m : Int) : TE := ⟨14, [a16, a23], [some (vc 140 4 4 [I 0, I 0, I 0, V 8 8 0 7, I 1, I 1, I 0, V 7 8 0 5, I 1, I 1, I 0, V 9 8 0 5, I 1, I 1, I 0, V 6 8 0 7] false), some o21, some p27, some (p22 n m), some p28, some (vc 194 2 1 [S s2, V 12 9 0 2] false), some o3, some o4, some (p9 n m), some o5, some p25, some p33, some o27, some p2], .tup [.agg [V 14 4 0 6, V 15 4 0 4, V 16 3 0 1, V 17 3 0 11, C 4000], I 0], [some (vc 140 4 6 [I 0, I 0, I 0, V 21 8 0 7, I 1, I 1, I 0, V 19 8 0 5, I 1, I 1, I 0, V 23 8 0 5, I 1, I 1, I 0, V 18 8 0 7, I 2, I 2, I 0, V 22 8 0 3, I 2, I 2, I 0, V 20 8 0 3] false), some o21, some (vc 63 3 1 [S s2, V 24 2 0 2, V 25 1 0 1] false), some (p22 n m), some o3, some o4, some o28, some (p9 n m), some o29, some o5, some (vc 60 2 2 [S s2, V 27 1 0 2, S s2, V 26 1 0 2] false), some (vc 201 1 1 [V 28 1 0 2] false), some p33, some p2, some p36]⟩
def e72 (n m : Int) : TE := ⟨10, [a16, S s19], (w4 n m), .tup [.agg [V 10 4 0 6, V 11 4 0 4, V 12 3 0 1, V 13 3 0 11, C 4000], I 0], [some (vc 140 4 6 [I 0, I 0, I 0, V 17 8 0 7, I 1, I 1, I 0, V 15 8 0 5, I 1, I 1, I 0, V 19 8 0 5, I 1, I 1, I 0, V 14 8 0 7, I 2, I 2, I 0, V 18 8 0 3, I 2, I 2, I 0, V 16 8 0 3] false), some o21, some (vc 63 3 1 [S s2, V 20 2 0 2, V 21 1 0 1] false), some (p22 n m), some o3, some o4, some o28, some (p9 n m), some o29, some o5, some (vc 60 2 2 [S s2, V 23 1 0 2, S s2, V 22 1 0 2] false), some (vc 201 1 1 [V 24 1 0 2] false), some p33, some p2, some p36]⟩
def e73 (n m : Int) : TE := ⟨15, [a22], (w6 n m), .tup [.agg [V 15 1 0 4, V 16 2 0 1], I 0], [some o6, some p43, some p33]⟩
def e74 (n m : Int) : TE := ⟨4, [a20, a13], [some o30, some o8, some p10, some o25], .kb true, []⟩
def e75 (n m : Int) : TE := ⟨1, [V 0 3 0 16], [some (p44 n m)], .tup [.nm 1, .kb true], [some o34]⟩
def e76 (n m : Int) : TE := ⟨1, [.agg [V 0 3 0 16, C 4000]], [some (p44 n m)], I 0, []⟩
def e77 (n m : Int) : TE := ⟨1, [V 0 3 0 16], [some (p45 n m)], .tup [.nm 1, .kb true], [some o34]⟩
def e78 (n m : Int) : TE := ⟨1, [.agg [V 0 3 0 16, C 4000]], [some (p45 n m)], I 0, []⟩
def e79 (n m : Int) : TE := ⟨16, [a22, a14, I 5000], [some p46, some o21, some p47, some (p22 n m), some o25, some o3, some o4, some o28, some (p9 n m), some o29, some o5, some p48, some p49, some p33, some p2, some p36], .tup [.agg [aO, aO, aO, aO, I 0], .agg [I 0, I 0, S s0], I 13], []⟩
def e80 (n m : Int) : TE := ⟨16, [a22, a15], (w8 n m), .tup [.agg [V 0 4 0 6, V 1 4 0 4, V 2 3 0 1, V 3 3 0 11, C 4000], S s0, I 13], []⟩
def e81 (n m : Int) : TE := ⟨4, [a20, a13], [some o30, some o8, some p10, some o26], .kb true, []⟩
def e82 (n m : Int) : TE := ⟨16, [a22, a14, I 5000], [some p46, some o21, some p47, some (p22 n m), some o26, some o3, some o4, some o28, some (p9 n m), some o29, some o5, some p48, some p49, some p33, some p2, some p36], .tup [.agg [.sl 16 4 0 6 (some 6), V 17 4 0 4, V 18 3 0 1, V 19 3 0 16, C 4000], .agg [C 1, .ri .i64 0 99 (ah m), S s0], I 0], [some p50, some o21, some p51, some (p45 n m), some o3, some o4, some o28, some (p9 n m), some o29, some o5, some p52, some p53, some p33, some p2, some p36]⟩
def e83 (n m : Int) : TE := ⟨14, [a24, a19], [some p54, some p35, some p55, some p56, some o3, some o4, some o28, some (p9 n m), some o29, some o5, some o26, some p33, some p2, some p36], .kb true, []⟩
def e84 (n m : Int) : TE := ⟨4, [a25, a3], (w9 n m), .kb true, []⟩
def e85 (n m : Int) : TE := ⟨4, [a25, a4], w10, .kb true, []⟩
def e86 (n m : Int) : TE := ⟨4, [a25, a4], w11, .kb true, []⟩
def e87 (n m : Int) : TE := ⟨4, [a25, a5], w12, .kb true, []⟩
def e88 (n m : Int) : TE := ⟨4, [a25, a21], w13, .kb true, []⟩
def e89 (n m : Int) : TE := ⟨4, [a25, a21], w14, .kb true, []⟩
def e90 (n m : Int) : TE := ⟨16, [a26], (w15 n m), I 0, []⟩
def e91 (n m : Int) : TE := ⟨16, [a26, (a17 n m)], (w15 n m), .tup [.agg [V 16 4 0 6, V 17 4 0 4, V 18 3 0 1, V 19 3 0 16, C 4000], .sy (aC (ah m)), I 0], (w16 n m)⟩
def e92 (n m : Int) : TE := ⟨16, [a22, a18], (w8 n m), .tup [.agg [V 16 4 0 6, V 17 4 0 4, V 18 3 0 1, V 19 3 0 16, C 4000], .sy (aC (ah m)), I 0], (w16 n m)⟩
def e93 (n m : Int) : TE := ⟨15, [a27], (w17 n m), I 0, []⟩
def e94 (n m : Int) : TE := ⟨15, [a27], (w17 n m), .tup [.agg [V 15 1 0 4, V 16 2 0 1], I 0], [some o6, some p43, some p33]⟩
def e95 (n m : Int) : TE := ⟨4, [a20, a13], [some o30, some o8, some p10, some o36], .kb true, []⟩
def e96 (n m : Int) : TE := ⟨16, [a27, a14, I 5000], [some p46, some o21, some p47, some (p45 n m), some o36, some o3, some o4, some o28, some (p9 n m), some o29, some o5, some p48, some p49, some p33, some p2, some p36], .tup [.agg [.sl 16 4 0 6 (some 6), V 17 4 0 4, V 18 3 0 1, V 19 3 0 21, C 4000], .agg [C 5, C 16, S s0], I 0], [some p50, some o21, some p51, some (p58 n m), some o3, some o4, some o28, some (p9 n m), some o29, some o5, some p52, some p53, some p33, some p2, some p36]⟩
def e97 (n m : Int) : TE := ⟨1, [V 0 3 0 21], [some (p58 n m)], .tup [.nm 1, .kb true], [some o37]⟩
def e98 (n m : Int) : TE := ⟨1, [.agg [V 0 3 0 21, C 4000]], [some (p58 n m)], I 0, []⟩
def e99 (n m : Int) : TE := ⟨14, [a24, a19], [some p54, some p35, some p55, some p56, some o3, some o4, some o28, some (p9 n m), some o29, some o5, some o36, some p33, some p2, some p36], .kb true, []⟩
def e100 (n m : Int) : TE := ⟨16, [a28], (w18 n m), I 0, []⟩
def WW (n m : Int) : TE := ⟨16, [a28, .agg [C 5, C 16, S s0]], (w18 n m), .tup [.agg [V 16 4 0 6, V 17 4 0 4, V 18 3 0 1, V 19 3 0 21, C 4000], .sy (s20 ++ aC 0 ++ s17 ++ aC 0 ++ s21), I 0], (w19 n m)⟩
def VW (n m : Int) : TE := ⟨16, [a27, a29], [some p46, some o21, some p47, some (p45 n m), some o22, some o3, some o4, some o28, some (p9 n m), some o29, some o5, some p48, some p49, some p33, some p2, some p36], .tup [.agg [V 16 4 0 6, V 17 4 0 4, V 18 3 0 1, V 19 3 0 21, C 4000], .sy (s20 ++ aC 0 ++ s17 ++ aC 0 ++ s21), I 0], (w19 n m)⟩
def X7 (n m : Int) : TE := ⟨15, [a30], (w20 n m), I 0, []⟩
def Xe (n m : Int) : TE := ⟨15, [a30], (w20 n m), .tup [.agg [V 15 1 0 4, V 16 2 0 1], I 0], [some o6, some p43, some p33]⟩
def Xu (n m : Int) : TE := ⟨3, [.agg [V 0 1 0 4, V 1 2 0 1]], [some o6, some p0, some p33], I 0, []⟩
def Xg (n m : Int) : TE := ⟨3, [D (.arr 4 2 (dxL [(ls [(sy s1), (sy s2), (sy s4)]), (ls [(sy s14), (sy s2), (ls [(sy s15), (sy s4)])])])), .agg [V 0 1 0 4, V 1 2 0 1]], [some o6, some p0, some p33], .tup [.agg [V 3 2 0 1, aO, V 4 2 0 1], I 0, I 0], [some (vc 60 2 1 [S s2, V 5 1 0 1] false), some (vc 194 2 1 [S s2, V 6 9 0 1] false), some (vc 9 1 1 [S s4] false), some o38]⟩
def XE (n m : Int) : TE := ⟨16, [.agg [V 0 4 0 7, J, V 1 3 0 1, J, J], a31], [some p59, some p60, some (vc 60 2 3 [S s2, V 12 1 0 2, S s2, V 11 1 0 2, S s2, V 13 1 0 1] false), some (vc 201 1 2 [V 15 1 0 2, V 14 1 0 1] false), some o3, some o4, some o28, some (p9 n m), some o29, some o5, some o28, some p33, some p2, some (vc 9 1 1 [S s4] false), some (vc 3 1 1 [I 6] false), some p36], .kb true, []⟩
def e108 (n m : Int) : TE := ⟨4, [a32, a3], (w9 n m), .kb true, []⟩
def e109 (n m : Int) : TE := ⟨4, [a32, a4], w10, .kb true, []⟩
def WT (n m : Int) : TE := ⟨4, [a32, a4], w11, .kb true, []⟩
def XK (n m : Int) : TE := ⟨4, [a32, a5], w12, .kb true, []⟩
def Xc (n m : Int) : TE := ⟨4, [a32, a21], w13, .kb true, []⟩
def Xl (n m : Int) : TE := ⟨4, [a32, a21], w14, .kb true, []⟩
def Xp (n m : Int) : TE := ⟨18, [a33], (w21 n m), I 0, []⟩
def e115 (n m : Int) : TE := ⟨1, [V 0 3 0 11], [some (p64 n m)], .tup [.nm 1, .kb true], [some o32]⟩
def e116 (n m : Int) : TE := ⟨1, [.agg [V 0 3 0 11, C 4000]], [some (p64 n m)], I 0, []⟩
def e117 (n m : Int) : TE := ⟨18, [a34], (w22 n m), I 0, []⟩
def e118 (n m : Int) : TE := ⟨1, [V 0 3 0 15], [some (p65 n m)], .tup [.nm 1, .kb true], [some o33]⟩
def e119 (n m : Int) : TE := ⟨1, [.agg [V 0 3 0 15, C 4000]], [some (p65 n m)], I 0, []⟩
def e120 (n m : Int) : TE := ⟨1, [V 0 3 0 15], [some (p66 n m)], .tup [.nm 1, .kb true], [some o33]⟩
def X4 (n m : Int) : TE := ⟨1, [.agg [V 0 3 0 15, C 4000]], [some (p66 n m)], I 0, []⟩
def Xx (n m : Int) : TE := ⟨18, [a34, .agg [C 5, C 0, S s0]], (w22 n m), .tup [.agg [V 18 4 0 7, V 19 4 0 4, V 20 3 0 1, V 21 3 0 15, C 4000], .agg [C 5, I 11, S s0], I 0], [some (vc 140 4 7 [I 0, I 0, I 0, V 25 8 0 7, I 1, I 1, I 0, V 23 8 0 5, I 1, I 1, I 0, V 27 8 0 5, I 1, I 1, I 0, V 22 8 0 7, I 2, I 2, I 0, V 26 8 0 3, I 2, I 2, I 0, V 24 8 0 3, I 2, I 2, I 0, V 28 8 0 3] false), some o31, some (vc 63 3 1 [S s2, V 29 2 0 3, V 30 1 0 2] false), some (p66 n m), some o3, some o4, some o28, some (p9 n m), some o29, some o5, some o28, some (vc 60 2 3 [S s2, V 32 1 0 2, S s2, V 31 1 0 2, S s2, V 33 1 0 1] false), some (vc 201 1 2 [V 35 1 0 2, V 34 1 0 1] false), some p33, some p2, some (vc 9 1 1 [S s4] false), some (vc 3 1 1 [I 6] false), some p36]⟩
def X6 (n m : Int) : TE := ⟨19, [a30, a23], [some (vc 140 4 6 [I 0, I 0, I 0, V 9 8 0 7, I 1, I 1, I 0, V 7 8 0 5, I 1, I 1, I 0, V 11 8 0 5, I 1, I 1, I 0, V 6 8 0 7, I 2, I 2, I 0, V 10 8 0 3, I 2, I 2, I 0, V 8 8 0 3] false), some o21, some (vc 63 3 1 [S s2, V 12 2 0 2, V 13 1 0 1] false), some (p58 n m), some (vc 60 2 1 [S s2, V 14 1 0 1] false), some (vc 194 2 1 [S s2, V 15 9 0 1] false), some o3, some o4, some o28, some (p9 n m), some o29, some o5, some (vc 60 2 2 [S s2, V 17 1 0 2, S s2, V 16 1 0 2] false), some (vc 201 1 1 [V 18 1 0 2] false), some (vc 9 1 1 [S s4] false), some o38, some p33, some p2, some p36], .tup [.agg [V 19 4 0 7, V 20 4 0 4, V 21 3 0 1, V 22 3 0 21, C 4000], I 0], [some p67, some o21, some p68, some (p58 n m), some o3, some o4, some o28, some (p9 n m), some o29, some o5, some o28, some p69, some p70, some p33, some p2, some (vc 9 1 1 [S s4] false), some (vc 3 1 1 [I 6] false), some p36]⟩
def Wv (n m : Int) : TE := ⟨15, [a30, S s22], (w20 n m), .tup [.agg [V 15 4 0 7, V 16 4 0 4, V 17 3 0 1, V 18 3 0 21, C 4000], I 0], [some (vc 140 4 7 [I 0, I 0, I 0, V 22 8 0 7, I 1, I 1, I 0, V 20 8 0 5, I 1, I 1, I 0, V 24 8 0 5, I 1, I 1, I 0, V 19 8 0 7, I 2, I 2, I 0, V 23 8 0 3, I 2, I 2, I 0, V 21 8 0 3, I 2, I 2, I 0, V 25 8 0 3] false), some o21, some (vc 63 3 1 [S s2, V 26 2 0 3, V 27 1 0 2] false), some (p58 n m), some o3, some o4, some o28, some (p9 n m), some o29, some o5, some o28, some (vc 60 2 3 [S s2, V 29 1 0 2, S s2, V 28 1 0 2, S s2, V 30 1 0 1] false), some (vc 201 1 2 [V 32 1 0 2, V 31 1 0 1] false), some p33, some p2, some (vc 9 1 1 [S s4] false), some (vc 3 1 1 [I 6] false), some p36]⟩
def e125 (n m : Int) : TE := ⟨18, [a33], (w21 n m), .tup [.agg [V 18 1 0 4, V 19 2 0 1], I 0], w23⟩
def e126 (n m : Int) : TE := ⟨4, [a32, a13], [some o35, some o8, some p10, some o26], .kb true, []⟩
def e127 (n m : Int) : TE := ⟨1, [V 0 3 0 25], [some (p72 n m)], .tup [.nm 1, .kb true], [some o39]⟩
def e128 (n m : Int) : TE := ⟨1, [.agg [V 0 3 0 25, C 4000]], [some (p72 n m)], I 0, []⟩
def e129 (n m : Int) : TE := ⟨1, [V 0 3 0 25], [some (p73 n m)], .tup [.nm 1, .kb true], [some o39]⟩
def XF (n m : Int) : TE := ⟨1, [.agg [V 0 3 0 25, C 4000]], [some (p73 n m)], I 0, []⟩
def XL (n m : Int) : TE := ⟨19, [a33, a14, I 5000], [some p74, some o21, some p75, some (p58 n m), some o26, some o3, some o4, some o28, some (p9 n m), some o29, some o5, some o28, some p76, some p77, some p33, some p2, some (vc 9 1 1 [S s4] false), some (vc 3 1 1 [I 6] false), some p36], .tup [.agg [.sl 19 4 0 7 (some 7), V 20 4 0 4, V 21 3 0 1, V 22 3 0 25, C 4000], .agg [C 1, .ri .i64 0 99 (ah m), S s0], I 0], [some (vc 140 4 8 [I 0, I 0, I 0, V 26 8 0 7, I 1, I 1, I 0, V 24 8 0 5, I 1, I 1, I 0, V 28 8 0 5, I 1, I 1, I 0, V 23 8 0 7, I 2, I 2, I 0, V 27 8 0 3, I 2, I 2, I 0, V 25 8 0 3, I 2, I 2, I 0, V 29 8 0 3, I 0, I 0, I 0, V 4 8 0 6] false), some o21, some p68, some (p73 n m), some o3, some o4, some o28, some (p9 n m), some o29, some o5, some o28, some p69, some p70, some p33, some p2, some (vc 9 1 1 [S s4] false), some (vc 3 1 1 [I 6] false), some p36]⟩
def XW (n m : Int) : TE := ⟨17, [.agg [.sl 0 4 0 7 (some 7), J, V 1 3 0 1, J, J], a31], [some p78, some p60, some (vc 60 2 3 [S s2, V 13 1 0 2, S s2, V 12 1 0 2, S s2, V 14 1 0 1] false), some (vc 201 1 2 [V 16 1 0 2, V 15 1 0 1] false), some o26, some o3, some o4, some o28, some (p9 n m), some o29, some o5, some o28, some p33, some p2, some (vc 9 1 1 [S s4] false), some (vc 3 1 1 [I 6] false), some p36], .kb true, []⟩
def XI (n m : Int) : TE := ⟨4, [a35, a3], [some o40, some o8, some p10, some (p9 n m)], .kb true, []⟩
def Xb (n m : Int) : TE := ⟨4, [a35, a4], [some o40, some o8, some p10, some o4], .kb true, []⟩
def X3 (n m : Int) : TE := ⟨4, [a35, a4], [some o40, some o8, some p10, some o5], .kb true, []⟩
def WZ (n m : Int) : TE := ⟨4, [a35, a5], [some o40, some o8, some p10, some o3], .kb true, []⟩
def e137 (n m : Int) : TE := ⟨4, [a35, a21], [some o40, some o8, some p10, some o29], .kb true, []⟩
def e138 (n m : Int) : TE := ⟨4, [a35, a21], [some o40, some o8, some p10, some o28], .kb true, []⟩
def X0 (n m : Int) : TE := ⟨19, [a36], (w24 n m), I 0, []⟩
def Xn (n m : Int) : TE := ⟨19, [a36, (a17 n m)], (w24 n m), .tup [.agg [V 19 4 0 7, V 20 4 0 4, V 21 3 0 1, V 22 3 0 25, C 4000], .sy (aC (ah m)), I 0], (w25 n m)⟩
def Ws (n m : Int) : TE := ⟨19, [a33, a18], [some p74, some o21, some p75, some (p58 n m), some o22, some o3, some o4, some o28, some (p9 n m), some o29, some o5, some o28, some p76, some p77, some p33, some p2, some (vc 9 1 1 [S s4] false), some (vc 3 1 1 [I 6] false), some p36], .tup [.agg [V 19 4 0 7, V 20 4 0 4, V 21 3 0 1, V 22 3 0 25, C 4000], .sy (aC (ah m)), I 0], (w25 n m)⟩
def Xj (n m : Int) : TE := ⟨18, [a37], (w26 n m), I 0, []⟩
def e143 (n m : Int) : TE := ⟨18, [a37], (w26 n m), .tup [.agg [V 18 1 0 4, V 19 2 0 1], I 0], w23⟩
def Xf (n m : Int) : TE := ⟨4, [a32, a13], [some o35, some o8, some p10, some o36], .kb true, []⟩
def Xk (n m : Int) : TE := ⟨19, [a37, a14, I 5000], [some p74, some o21, some p75, some (p73 n m), some o36, some o3, some o4, some o28, some (p9 n m), some o29, some o5, some o28, some p76, some p77, some p33, some p2, some (vc 9 1 1 [S s4] false), some (vc 3 1 1 [I 6] false), some p36], .tup [.agg [aO, aO, aO, aO, I 0], .agg [I 0, I 0, S s0], I 10], []⟩
def Vk (n m : Int) : TE := ⟨19, [a37, a29], [some p74, some o21, some p75, some (p73 n m), some o22, some o3, some o4, some o28, some (p9 n m), some o29, some o5, some o28, some p76, some p77, some p33, some p2, some (vc 9 1 1 [S s4] false), some (vc 3 1 1 [I 6] false), some p36], .tup [.agg [V 0 4 0 7, V 1 4 0 4, V 2 3 0 1, V 3 3 0 25, C 4000], S s0, I 10], []⟩
end
theorem fx (n m : Int) : 0 <= ah n /\ ah n < 100 /\ 0 <= ah m /\ ah m < 100 /\ (aC (ah m)).size <= 3 /\ 0 < (aC (ah m)).size /\ (aC (ah n)).size <= 3 /\ 0 < (aC (ah n)).size /\ (aC 0).size <= 3 /\ 0 < (aC 0).size := by
 have h0 : 0 <= ah n := (iM n (by decide)).1
 have h1 : ah n < 100 := (iM n (by decide)).2
 have h2 : 0 <= ah m := (iM m (by decide)).1
 have h3 : ah m < 100 := (iM m (by decide)).2
 refine ⟨h0, h1, h2, h3, Al (by omega) (by omega), Dr (by omega) (by omega), Al (by omega) (by omega), Dr (by omega) (by omega), Al (by omega) (by omega), Dr (by omega) (by omega)⟩
end Gv.LStale
