/- What the told parts of MoveTells are made of. Printed by gvgen.py. -/
import Derived.Test.YtcmnmceodhambaaGreatDoorGvO
set_option linter.unusedVariables false
open Rx Go
namespace Gv.LMoveTells
open Gv Rd
noncomputable section
def s1 : ByteArray := ⟨#[114, 101, 99, 111, 114, 100]⟩
def s2 : ByteArray := ⟨#[112]⟩
def s3 : ByteArray := ⟨#[97]⟩
def s4 : ByteArray := ⟨#[98]⟩
def s5 : ByteArray := ⟨#[100, 101, 102, 105, 110, 101]⟩
def s6 : ByteArray := ⟨#[120]⟩
def s7 : ByteArray := ⟨#[115, 104, 111, 119]⟩
def s8 : ByteArray := ⟨#[110]⟩
def s9 : ByteArray := ⟨#[115]⟩
def s10 : ByteArray := ⟨#[100]⟩
def s11 : ByteArray := ⟨#[117, 112, 103, 114, 97, 100, 101]⟩
def s12 : ByteArray := ⟨#[43]⟩
def s13 : ByteArray := ⟨#[119, 97, 115]⟩
def s14 : ByteArray := ⟨#[105, 102]⟩
def s15 : ByteArray := ⟨#[60]⟩
def s16 : ByteArray := ⟨#[113, 117, 111, 116, 101]⟩
def s17 : ByteArray := ⟨#[108, 101, 115, 115]⟩
def s18 : ByteArray := ⟨#[45]⟩
def s19 : ByteArray := ⟨#[40, 114, 101, 99, 111, 114, 100, 32, 112, 32, 97, 32, 98, 41, 32, 40, 100, 101, 102, 105, 110, 101, 32, 120, 32, 40, 112, 32]⟩
def s20 : ByteArray := ⟨#[32]⟩
def s21 : ByteArray := ⟨#[41, 41, 32, 40, 100, 101, 102, 105, 110, 101, 32, 40, 115, 104, 111, 119, 32, 110, 41, 32, 120, 41]⟩
def s22 : ByteArray := ⟨#[40, 114, 101, 99, 111, 114, 100, 32, 112, 32, 115, 32, 100, 41, 32, 40, 117, 112, 103, 114, 97, 100, 101, 32, 112, 32, 40, 43, 32, 40, 119, 97, 115, 32, 97, 41, 32, 40, 119, 97, 115, 32, 98, 41, 41, 32, 40, 105, 102, 32, 40, 60, 32, 40, 119, 97, 115, 32, 97, 41, 32, 40, 119, 97, 115, 32, 98, 41, 41, 32, 39, 40, 108, 101, 115, 115, 41, 32, 40, 45, 32, 40, 119, 97, 115, 32, 97, 41, 32, 40, 119, 97, 115, 32, 98, 41, 41, 41, 41]⟩
def s23 : ByteArray := ⟨#[99, 111, 110, 115]⟩
def s24 : ByteArray := ⟨#[35, 91, 112, 32]⟩
def s25 : ByteArray := ⟨#[32, 40, 108, 101, 115, 115, 41, 93]⟩
def s26 : ByteArray := ⟨#[93]⟩
theorem X6 : s1.size = 6 := rfl
theorem X0 : s1.data.toList = [114, 101, 99, 111, 114, 100] := rfl
theorem fF : s2.size = 1 := rfl
theorem VD : s2.data.toList = [112] := rfl
theorem XL : s3.size = 1 := rfl
theorem XT : s3.data.toList = [97] := rfl
theorem XU : s4.size = 1 := rfl
theorem X4 : s4.data.toList = [98] := rfl
theorem XQ : s5.size = 6 := rfl
theorem X7 : s5.data.toList = [100, 101, 102, 105, 110, 101] := rfl
theorem XP : s6.size = 1 := rfl
theorem XM : s6.data.toList = [120] := rfl
theorem XK : s7.size = 4 := rfl
theorem XO : s7.data.toList = [115, 104, 111, 119] := rfl
theorem XW : s8.size = 1 := rfl
theorem X5 : s8.data.toList = [110] := rfl
theorem X3 : s9.size = 1 := rfl
theorem XR : s9.data.toList = [115] := rfl
theorem Xp : s10.size = 1 := rfl
theorem Xk : s10.data.toList = [100] := rfl
theorem Xy : s11.size = 7 := rfl
theorem Xv : s11.data.toList = [117, 112, 103, 114, 97, 100, 101] := rfl
theorem XD : s12.size = 1 := rfl
theorem XJ : s12.data.toList = [43] := rfl
theorem Xx : s13.size = 3 := rfl
theorem XI : s13.data.toList = [119, 97, 115] := rfl
theorem Xw : s14.size = 2 := rfl
theorem Xl : s14.data.toList = [105, 102] := rfl
theorem Xm : s15.size = 1 := rfl
theorem Xn : s15.data.toList = [60] := rfl
theorem Xq : s16.size = 5 := rfl
theorem Xu : s16.data.toList = [113, 117, 111, 116, 101] := rfl
theorem Gm : s17.size = 4 := rfl
theorem VE : s17.data.toList = [108, 101, 115, 115] := rfl
theorem XH : s18.size = 1 := rfl
theorem Xz : s18.data.toList = [45] := rfl
theorem VR : s19.size = 28 := rfl
theorem Vr : s19.data.toList = [40, 114, 101, 99, 111, 114, 100, 32, 112, 32, 97, 32, 98, 41, 32, 40, 100, 101, 102, 105, 110, 101, 32, 120, 32, 40, 112, 32] := rfl
theorem Vv : s20.size = 1 := rfl
theorem PL : s20.data.toList = [32] := rfl
theorem Wo : s21.size = 22 := rfl
theorem VP : s21.data.toList = [41, 41, 32, 40, 100, 101, 102, 105, 110, 101, 32, 40, 115, 104, 111, 119, 32, 110, 41, 32, 120, 41] := rfl
theorem XB : s22.size = 99 := rfl
theorem Xt : s22.data.toList = [40, 114, 101, 99, 111, 114, 100, 32, 112, 32, 115, 32, 100, 41, 32, 40, 117, 112, 103, 114, 97, 100, 101, 32, 112, 32, 40, 43, 32, 40, 119, 97, 115, 32, 97, 41, 32, 40, 119, 97, 115, 32, 98, 41, 41, 32, 40, 105, 102, 32, 40, 60, 32, 40, 119, 97, 115, 32, 97, 41, 32, 40, 119, 97, 115, 32, 98, 41, 41, 32, 39, 40, 108, 101, 115, 115, 41, 32, 40, 45, 32, 40, 119, 97, 115, 32, 97, 41, 32, 40, 119, 97, 115, 32, 98, 41, 41, 41, 41] := rfl
theorem XF : s23.size = 4 := rfl
theorem XG : s23.data.toList = [99, 111, 110, 115] := rfl
theorem XA : s24.size = 4 := rfl
theorem Lh : s24.data.toList = [35, 91, 112, 32] := rfl
theorem Xr : s25.size = 8 := rfl
theorem SX : s25.data.toList = [32, 40, 108, 101, 115, 115, 41, 93] := rfl
theorem Xo : s26.size = 1 := rfl
theorem Tg : s26.data.toList = [93] := rfl
abbrev ah (n : Int) : Int := gD n 1000
def o0 : Ob := vc 134 9 1 [C 3, I 0, I 0, S s0, aN, S s6, I 0, aN, aN] true
def o1 : Ob := vc 130 4 2 [S s6, C 3, I 0, S s0, S s7, C 3, I 0, S s0] false
def o2 : Ob := vc 200 8 3 [C 1, I 0, I 0, S s0, S s0, I 0, I 0, S s0, C 9, I 0, I 0, S s6, S s0, I 0, I 0, S s0, C 14, I 0, I 0, S s0, S s0, I 0, I 0, S s0] false
def o3 : Ob := vc 140 4 2 [J, J, I 0, J, J, J, I 0, J] false
def o4 : Ob := vc 130 4 2 [S s6, J, J, J, S s7, J, J, J] false
def o5 : Ob := vc 126 3 2 [C 8, C 1, S s0, C 1, I 0, S s0] true
def o6 : Ob := vc 126 3 2 [C 8, C 1, S s0, C 1, I 0, S s0] false
def o7 : Ob := .mp (.int .i64) .bool [((0 : Int), true)]
def o8 : Ob := vc 130 4 2 [S s6, C 3, I 0, S s0, S s7, C 5, C 0, S s0] false
def o9 : Ob := vc 130 4 2 [S s6, C 5, C 2, S s0, S s7, C 5, C 0, S s0] false
def o10 : Ob := .mp (.int .i64) .bool [((0 : Int), true), ((2 : Int), true)]
def o11 : Ob := vc 140 4 3 [J, J, I 0, J, J, J, I 0, J, J, J, I 0, J] false
def o12 : Ob := vc 134 9 2 [C 15, I 0, I 0, S s0, aN, S s0, C 0, aN, aN, C 15, I 0, I 0, S s0, aN, S s0, C 1, aN, aN] false
def o13 : Ob := vc 200 8 20 [C 1, I 0, I 0, S s0, S s0, I 0, I 0, S s0, C 1, I 0, I 0, S s0, S s0, I 0, I 0, S s0, C 1, I 0, I 0, S s0, S s0, I 0, I 0, S s0, C 3, C 0, I 0, S s0, S s0, I 0, I 0, S s0, C 1, I 0, I 0, S s0, S s0, I 0, I 0, S s0, C 3, C 1, I 0, S s0, S s0, I 0, I 0, S s0, C 18, C 2, I 0, S s15, S s0, I 0, I 0, S s0, C 16, I 13, I 0, S s0, S s0, I 0, I 0, S s0, C 1, I 0, I 0, S s0, S s0, I 0, I 0, S s0, C 2, I 0, I 0, S s0, S s0, C 4, I 0, S s17, C 2, I 0, I 0, S s0, S s0, C 3, I 0, S s0, C 18, C 2, I 0, S s23, S s0, I 0, I 0, S s0, C 14, I 0, I 0, S s0, S s0, I 0, I 0, S s0, C 1, I 0, I 0, S s0, S s0, I 0, I 0, S s0, C 1, I 0, I 0, S s0, S s0, I 0, I 0, S s0, C 3, C 0, I 0, S s0, S s0, I 0, I 0, S s0, C 1, I 0, I 0, S s0, S s0, I 0, I 0, S s0, C 3, C 1, I 0, S s0, S s0, I 0, I 0, S s0, C 18, C 2, I 0, S s18, S s0, I 0, I 0, S s0, C 14, I 0, I 0, S s0, S s0, I 0, I 0, S s0] false
def o14 : Ob := vc 200 8 7 [C 1, I 0, I 0, S s0, S s0, I 0, I 0, S s0, C 1, I 0, I 0, S s0, S s0, I 0, I 0, S s0, C 3, C 0, I 0, S s0, S s0, I 0, I 0, S s0, C 1, I 0, I 0, S s0, S s0, I 0, I 0, S s0, C 3, C 1, I 0, S s0, S s0, I 0, I 0, S s0, C 18, C 2, I 0, S s12, S s0, I 0, I 0, S s0, C 14, I 0, I 0, S s0, S s0, I 0, I 0, S s0] false
def o15 : Ob := vc 140 4 4 [J, J, I 0, J, J, J, I 0, J, J, J, I 0, J, J, J, I 0, J] false
def o16 : Ob := vc 130 4 2 [S s6, C 5, I 0, S s0, S s7, C 5, I 5, S s0] false
def o17 : Ob := .mp (.int .i64) .bool [((0 : Int), true), ((5 : Int), true)]
def o18 : Ob := .mp (.int .i64) .bool [((0 : Int), true), ((5 : Int), true), ((7 : Int), true), ((10 : Int), true)]
def o19 : Ob := vc 47 4 1 [C 1, I 0, S s0, aN] true
def o20 : Ob := vc 200 8 6 [C 1, I 0, I 0, S s0, S s0, I 0, I 0, S s0, C 1, I 0, I 0, S s0, S s0, I 0, I 0, S s0, C 9, I 0, I 0, S s7, S s0, I 0, I 0, S s0, C 1, I 0, I 0, S s0, S s0, I 0, I 0, S s0, C 2, I 0, I 0, S s0, S s0, C 1, C 0, S s0, C 13, C 1, I 0, S s0, S s0, I 0, I 0, S s0] false
def o21 : Ob := vc 140 4 5 [J, J, I 0, J, J, J, I 0, J, J, J, I 0, J, J, J, I 0, J, J, J, I 0, J] false
def o22 : Ob := .mp (.int .i64) .bool [((0 : Int), true), ((5 : Int), true), ((7 : Int), true)]
def p0 : Ob := vc 60 2 1 [S s2, V 2 1 0 2] false
def p1 : Ob := vc 136 10 2 [S s6, C 11, I 0, I 0, S s0, aN, S s2, I 0, aN, V 4 9 0 2, S s7, C 6, I 0, I 0, S s0, aN, S s0, I 0, V 5 1 0 1, V 3 9 0 1] false
def p2 : Ob := vc 9 1 2 [S s3, S s4] false
def p3 (n m : Int) : Ob := vc 134 9 2 [C 1, C 1, D (.ri .i64 0 999 (ah n)), S s0, D (.arr 4 0 (dxL [])), S s0, I 0, aN, aN, C 1, C 1, D (.ri .i64 0 999 (ah m)), S s0, D (.arr 4 0 (dxL [])), S s0, I 0, aN, aN] false
def p4 : Ob := vc 9 1 2 [S s6, S s7] false
def p5 : Ob := vc 140 4 2 [I 0, I 0, I 0, V 4 8 0 7, I 1, I 1, I 0, V 3 8 0 3] false
def p6 : Ob := vc 63 3 1 [S s2, V 2 2 0 1, aN] false
def p7 (n m : Int) : Ob := vc 200 8 7 [C 1, I 0, I 0, S s0, S s0, I 0, I 0, S s0, C 1, I 0, I 0, S s0, S s0, I 0, I 0, S s0, C 2, I 0, I 0, S s0, S s0, C 1, .ri .i64 0 999 (ah n), S s0, C 1, I 0, I 0, S s0, S s0, I 0, I 0, S s0, C 2, I 0, I 0, S s0, S s0, C 1, .ri .i64 0 999 (ah m), S s0, C 19, C 2, I 0, S s2, S s0, I 0, I 0, S s0, C 14, I 0, I 0, S s0, S s0, I 0, I 0, S s0] false
def p8 : Ob := vc 63 3 1 [S s2, J, J] false
def p9 : Ob := vc 140 4 2 [I 0, I 0, I 0, V 5 8 0 7, I 1, I 1, I 0, V 4 8 0 3] false
def p10 : Ob := vc 63 3 1 [S s2, V 6 2 0 1, aN] false
def p11 : Ob := vc 63 3 1 [S s2, V 14 2 0 1, aN] false
def p12 : Ob := vc 60 2 1 [S s2, V 15 1 0 2] false
def p13 : Ob := vc 60 2 1 [S s2, V 5 1 0 2] false
def p14 : Ob := vc 60 2 1 [S s2, V 7 1 0 2] false
def p15 (n m : Int) : Ob := vc 126 3 7 [C 8, C 1, S s0, C 1, I 0, S s0, C 9, C 0, S s0, C 1, C 0, S s0, C 1, C 2, S s0, C 1, .ri .i64 0 999 (ah n), S s0, C 1, .ri .i64 0 999 (ah m), S s0] false
def p16 : Ob := vc 140 4 3 [I 0, I 0, I 0, V 5 8 0 7, I 1, I 1, I 0, V 4 8 0 3, I 0, I 0, I 0, V 6 8 0 7] false
def p17 : Ob := vc 63 3 1 [S s2, V 7 2 0 1, aN] false
def p18 : Ob := vc 60 2 1 [S s2, V 8 1 0 2] false
def p19 : Ob := vc 9 1 2 [S s9, S s10] false
def p20 : Ob := vc 140 4 4 [I 0, I 0, I 0, V 6 8 0 7, I 1, I 1, I 0, V 5 8 0 3, I 2, I 2, I 0, V 7 8 0 7, I 2, I 2, I 0, V 4 8 0 20] false
def p21 : Ob := vc 63 3 1 [S s2, V 2 2 0 2, V 3 1 0 1] false
def p22 : Ob := vc 3 1 2 [I 2, I 3] false
def p23 : Ob := vc 63 3 1 [S s2, V 8 2 0 2, V 9 1 0 1] false
def p24 : Ob := vc 60 2 2 [S s2, V 11 1 0 2, S s2, V 10 1 0 2] false
def p25 : Ob := vc 201 1 1 [V 12 1 0 2] false
def p26 (n m : Int) : Ob := vc 126 3 7 [C 9, C 0, S s0, C 1, C 0, S s0, C 1, C 2, S s0, C 1, .ri .i64 0 999 (ah n), S s0, C 1, .ri .i64 0 999 (ah m), S s0, C 8, C 1, S s0, C 1, I 0, S s0] false
def p27 (n m : Int) : Ob := vc 126 3 15 [C 9, C 0, S s0, C 1, C 0, S s0, C 1, C 2, S s0, C 1, .ri .i64 0 999 (ah n), S s0, C 1, .ri .i64 0 999 (ah m), S s0, C 8, C 1, S s0, C 1, I 0, S s0, C 6, I 0, S s0, C 4, I 0, S s17, C 3, I 0, S s0, C 9, C 0, S s0, C 1, C 1, S s0, C 1, C 2, S s0, C 1, .ri .i64 0 1998 (ah n + ah m), S s0, C 5, C 7, S s0] false
def p28 (n m : Int) : Ob := vc 126 3 15 [C 10, C 10, S s0, C 1, I 0, S s0, C 1, C 2, S s0, C 3, I 0, S s0, C 3, I 0, S s0, C 8, C 1, S s0, C 1, I 0, S s0, C 6, I 0, S s0, C 4, I 0, S s17, C 3, I 0, S s0, C 9, C 0, S s0, C 1, C 1, S s0, C 1, C 2, S s0, C 1, .ri .i64 0 1998 (ah n + ah m), S s0, C 5, C 7, S s0] false
def p29 : Ob := vc 140 4 4 [I 0, I 0, I 0, V 19 8 0 7, I 1, I 1, I 0, V 18 8 0 3, I 2, I 2, I 0, V 20 8 0 7, I 2, I 2, I 0, V 17 8 0 20] false
def p30 : Ob := vc 63 3 1 [S s2, V 21 2 0 2, V 22 1 0 1] false
def p31 : Ob := vc 60 2 2 [S s2, V 24 1 0 2, S s2, V 23 1 0 2] false
def p32 : Ob := vc 201 1 1 [V 25 1 0 2] false
def p33 : Ob := vc 140 4 3 [I 0, I 0, I 0, V 7 8 0 7, I 1, I 1, I 0, V 6 8 0 3, I 0, I 0, I 0, V 8 8 0 7] false
def p34 : Ob := vc 63 3 1 [S s2, V 9 2 0 1, aN] false
def p35 : Ob := vc 60 2 1 [S s2, V 10 1 0 2] false
def p36 : Ob := vc 194 2 1 [S s2, V 11 9 0 2] false
def p37 : Ob := vc 60 2 1 [S s2, V 12 1 0 2] false
def p38 : Ob := vc 134 9 2 [C 10, I 0, I 0, S s0, aN, S s12, I 0, aN, V 14 9 0 2, C 4, I 0, I 0, S s0, aN, S s0, I 0, aN, V 13 9 0 3] false
def p39 : Ob := vc 134 9 3 [C 10, I 0, I 0, S s0, aN, S s15, I 0, aN, V 15 9 0 2, C 1, C 4, C 0, S s0, D (.arr 4 1 (dxL [(sy s17)])), S s0, I 0, aN, aN, C 10, I 0, I 0, S s0, aN, S s18, I 0, aN, V 16 9 0 2] false
def p40 : Ob := vc 140 4 4 [I 0, I 0, I 0, V 23 8 0 7, I 1, I 1, I 0, V 22 8 0 3, I 2, I 2, I 0, V 24 8 0 7, I 2, I 2, I 0, V 21 8 0 20] false
def p41 : Ob := vc 63 3 1 [S s2, V 25 2 0 2, V 26 1 0 1] false
def p42 : Ob := vc 60 2 2 [S s2, V 28 1 0 2, S s2, V 27 1 0 2] false
def p43 : Ob := vc 201 1 1 [V 29 1 0 2] false
def p44 : Ob := vc 140 4 4 [I 0, I 0, I 0, V 15 8 0 7, I 1, I 1, I 0, V 14 8 0 3, I 2, I 2, I 0, V 16 8 0 7, I 2, I 2, I 0, V 13 8 0 20] false
def p45 : Ob := vc 63 3 1 [S s2, V 17 2 0 2, V 18 1 0 1] false
def p46 : Ob := vc 60 2 2 [S s2, V 20 1 0 2, S s2, V 19 1 0 2] false
def p47 : Ob := vc 201 1 1 [V 21 1 0 2] false
def p48 : Ob := vc 140 4 4 [I 0, I 0, I 0, V 7 8 0 7, I 1, I 1, I 0, V 6 8 0 3, I 2, I 2, I 0, V 8 8 0 7, I 2, I 2, I 0, V 5 8 0 20] false
def p49 : Ob := vc 63 3 1 [S s2, V 9 2 0 2, V 10 1 0 1] false
def p50 : Ob := vc 60 2 2 [S s2, V 12 1 0 2, S s2, V 11 1 0 2] false
def p51 : Ob := vc 201 1 1 [V 13 1 0 2] false
def p52 : Ob := vc 63 3 1 [S s2, V 22 2 0 2, V 23 1 0 1] false
def p53 : Ob := vc 60 2 2 [S s2, V 25 1 0 2, S s2, V 24 1 0 2] false
def p54 : Ob := vc 201 1 1 [V 26 1 0 2] false
def p55 : Ob := vc 140 4 5 [I 0, I 0, I 0, V 6 8 0 7, I 1, I 1, I 0, V 5 8 0 3, I 2, I 2, I 0, V 8 8 0 7, I 2, I 2, I 0, V 4 8 0 20, I 0, I 0, I 0, V 7 8 0 6] false
def p56 : Ob := vc 140 4 4 [I 0, I 0, I 0, V 20 8 0 7, I 1, I 1, I 0, V 19 8 0 3, I 2, I 2, I 0, V 21 8 0 7, I 2, I 2, I 0, V 18 8 0 20] false
def p57 (n m : Int) : Ob := vc 126 3 12 [C 9, C 0, S s0, C 1, C 0, S s0, C 1, C 2, S s0, C 1, .ri .i64 0 999 (ah n), S s0, C 1, .ri .i64 0 999 (ah m), S s0, C 8, C 1, S s0, C 1, I 0, S s0, C 9, C 0, S s0, C 1, C 1, S s0, C 1, C 2, S s0, C 1, .ri .i64 0 1998 (ah n + ah m), S s0, C 1, .ri .i64 (-999) 999 (ah n - ah m), S s0] false
def p58 (n m : Int) : Ob := vc 126 3 12 [C 10, C 7, S s0, C 1, I 0, S s0, C 1, C 2, S s0, C 3, I 0, S s0, C 3, I 0, S s0, C 8, C 1, S s0, C 1, I 0, S s0, C 9, C 0, S s0, C 1, C 1, S s0, C 1, C 2, S s0, C 1, .ri .i64 0 1998 (ah n + ah m), S s0, C 1, .ri .i64 (-999) 999 (ah n - ah m), S s0] false
def a0 : SV := .agg [aN, aN, aN, aN, C 500]
def a1 : SV := .agg [V 0 4 0 2, J, V 1 3 0 1, J, J]
def a2 : SV := .agg [V 0 4 0 2, V 1 4 0 2, V 2 3 0 1, J, J]
def a3 : SV := .agg [I 0, I 0, I 0, V 3 8 0 7]
def a4 : SV := .agg [I 1, I 1, I 0, V 3 8 0 3]
def a5 : SV := .agg [V 0 4 0 2, V 1 4 0 2, V 2 3 0 1, aN, C 500]
def a6 : SV := .agg [V 0 4 0 2, V 1 4 0 2, V 2 3 0 1, V 3 3 0 2, C 500]
def a7 : SV := .agg [.sl 0 4 0 2 (some 2), V 1 4 0 2, V 2 3 0 1, J, J]
def a8 : SV := .agg [.sl 0 4 0 2 (some 2), V 1 4 0 2, V 2 3 0 1, V 3 3 0 7, C 500]
def a9 : SV := .agg [S s2, V 2 2 0 2, V 3 1 0 1]
def a10 : SV := .agg [V 0 4 0 4, V 1 4 0 2, V 2 3 0 1, J, J]
def a11 : SV := .agg [I 2, I 2, I 0, V 3 8 0 7]
def a12 : SV := .agg [I 2, I 2, I 0, V 3 8 0 20]
def a13 : SV := .agg [V 0 4 0 4, V 1 4 0 2, V 2 3 0 1, V 3 3 0 7, C 500]
def a14 : SV := .agg [V 4 2 0 1, aN, V 5 2 0 1]
def a15 : SV := .agg [.sl 0 4 0 4 (some 4), V 1 4 0 2, V 2 3 0 1, J, J]
def a16 : SV := .agg [.sl 0 4 0 4 (some 4), V 1 4 0 2, V 2 3 0 1, V 3 3 0 7, C 500]
def a17 : SV := .agg [C 2, S s0, S s7, V 4 4 0 1, C 100]
def w0 (n m : Int) : List (Option Ob) := [some p0, some p1, some p2, some o0, some (p3 n m), some (vc 9 1 1 [S s8] false)]
def w1 (n m : Int) : List (Option Ob) := [some p16, some o9, some p17, some (p15 n m), some o2, some (p7 n m), some (p7 n m), some p18, some p2]
def w2 (n m : Int) : List (Option Ob) := [some p20, some o9, some p23, some (p15 n m), some o13, some o2, some (p7 n m), some o14, some p24, some p25, some p19, some p2, some p22]
def w3 (n m : Int) : List (Option Ob) := [some p20, some o16, some p23, some (p26 n m), some o13, some o2, some (p7 n m), some o14, some p24, some p25, some p19, some p2, some p22]
def w4 (n m : Int) : List (Option Ob) := [some p33, some o9, some p34, some (p15 n m), some p35, some p36, some o2, some (p7 n m), some (p7 n m), some p37, some p19, some p38, some p2, some p39, some o12, some o12, some o12]
def w5 (n m : Int) : List (Option Ob) := [some p40, some o9, some p41, some (p15 n m), some o13, some o2, some (p7 n m), some o14, some p42, some p43, some p19, some p2, some p22]
def w6 (n m : Int) : List (Option Ob) := [some p44, some o9, some p45, some (p15 n m), some o13, some o2, some (p7 n m), some o14, some p46, some p47, some p19, some p2, some p22]
def w7 (n m : Int) : List (Option Ob) := [some p55, some o9, some p49, some (p15 n m), some o13, some o2, some (p7 n m), some o20, some o14, some p50, some p51, some p19, some p2, some p22]
def w8 (n m : Int) : List (Option Ob) := [some p56, some o16, some p52, some (p28 n m), some o13, some o2, some (p7 n m), some o14, some p53, some p54, some p19, some p2, some p22]
def w9 (n m : Int) : List (Option Ob) := [some p48, some o9, some p49, some (p15 n m), some o19, some o13, some o2, some (p7 n m), some o14, some p50, some p51, some p19, some p2, some p22]
def w10 (n m : Int) : List (Option Ob) := [some p56, some o16, some p52, some (p58 n m), some o13, some o2, some (p7 n m), some o14, some p53, some p54, some p19, some p2, some p22]
def e0 (n m : Int) : TE := ⟨0, [aN], [], .tup [.nm 0, .kb true], [some (.mp (.int .i64) .bool [])]⟩
def e1 (n m : Int) : TE := ⟨0, [.agg [aN, C 500]], [], I 0, []⟩
def e2 (n m : Int) : TE := ⟨0, [.agg [aN, aN]], [], I 0, []⟩
def e3 (n m : Int) : TE := ⟨0, [a0], [], I 0, []⟩
def e4 (n m : Int) : TE := ⟨0, [a0], [], .tup [.agg [aN, aN], I 0], []⟩
def e5 (n m : Int) : TE := ⟨0, [D (.arr 4 3 (dxL [(ls [(sy s1), (sy s2), (sy s3), (sy s4)]), (ls [(sy s5), (sy s6), (ls [(sy s2), (nu 0 999 (ah n)), (nu 0 999 (ah m))])]), (ls [(sy s5), (ls [(sy s7), (sy s8)]), (sy s6)])])), .agg [aN, aN]], [], .tup [.agg [V 0 2 0 1, V 1 10 0 2, aN], I 0, I 0], (w0 n m)⟩
def e6 (n m : Int) : TE := ⟨2, [.agg [V 0 1 0 2, V 1 2 0 1]], [some p4, some (vc 60 2 1 [S s2, aN] false)], I 0, []⟩
def e7 (n m : Int) : TE := ⟨6, [a1, .agg [S s2, V 2 2 0 1, aN]], [some p5, some p6, some (vc 60 2 1 [S s2, V 5 1 0 2] true), some o2, some (p7 n m), some p2], .kb true, []⟩
def e8 (n m : Int) : TE := ⟨0, [.agg [aN, C 50]], [], I 0, []⟩
def e9 (n m : Int) : TE := ⟨4, [a2, a3], [some o3, some o4, some p8, some (p7 n m)], .kb true, []⟩
def e10 (n m : Int) : TE := ⟨4, [a2, a4], [some o3, some o4, some p8, some o2], .kb true, []⟩
def e11 (n m : Int) : TE := ⟨7, [a5], [some p5, some o1, some (vc 63 3 1 [S s2, V 5 2 0 1, aN] false), some o2, some (p7 n m), some (vc 60 2 1 [S s2, V 6 1 0 2] true), some p2], I 0, []⟩
def e12 (n m : Int) : TE := ⟨1, [V 0 3 0 2], [some o6], .tup [.nm 1, .kb true], [some o7]⟩
def e13 (n m : Int) : TE := ⟨1, [.agg [V 0 3 0 2, C 500]], [some o6], I 0, []⟩
def e14 (n m : Int) : TE := ⟨8, [a5, V 3 3 0 2, aN], [some p9, some o1, some p10, some o5, some o2, some (p7 n m), some (vc 60 2 1 [S s2, V 7 1 0 2] true), some p2], .tup [.agg [V 8 4 0 2, V 9 4 0 2, V 10 3 0 1, V 11 3 0 2, C 500], .agg [C 5, C 0, S s0], I 0], [some (vc 140 4 2 [I 0, I 0, I 0, V 13 8 0 7, I 1, I 1, I 0, V 12 8 0 3] false), some o1, some p11, some o6, some o2, some (p7 n m), some p12, some p2]⟩
def e15 (n m : Int) : TE := ⟨6, [a1, .agg [S s2, V 2 2 0 1, aN]], [some p5, some p6, some p13, some o2, some (p7 n m), some p2], .kb true, []⟩
def e16 (n m : Int) : TE := ⟨8, [a6], [some p9, some o8, some p10, some o6, some o2, some (p7 n m), some p14, some p2], I 0, []⟩
def e17 (n m : Int) : TE := ⟨8, [a6, .agg [I 0, I 0, I 0, V 4 8 0 7], I 20000], [some (vc 140 4 2 [I 0, I 0, I 0, V 4 8 0 7, I 1, I 1, I 0, V 5 8 0 3] false), some o8, some p10, some o6, some (p7 n m), some o2, some p14, some p2], .tup [.agg [.sl 8 4 0 2 (some 2), V 9 4 0 2, V 10 3 0 1, V 11 3 0 7, C 500], .agg [C 5, C 2, S s0], I 0], [some (vc 140 4 3 [I 0, I 0, I 0, V 13 8 0 7, I 1, I 1, I 0, V 12 8 0 3, I 0, I 0, I 0, V 4 8 0 7] false), some o8, some p11, some (p15 n m), some o2, some (p7 n m), some p12, some p2]⟩
def e18 (n m : Int) : TE := ⟨6, [a0, .agg [V 0 2 0 1, V 1 10 0 2, aN]], (w0 n m), .tup [.agg [.sl 6 4 0 2 (some 2), V 7 4 0 2, V 8 3 0 1, V 9 3 0 7, C 500], I 0], [some (vc 140 4 3 [I 0, I 0, I 0, V 11 8 0 7, I 1, I 1, I 0, V 10 8 0 3, I 0, I 0, I 0, V 12 8 0 7] false), some o9, some (vc 63 3 1 [S s2, V 13 2 0 1, aN] false), some (p15 n m), some o2, some (p7 n m), some (p7 n m), some (vc 60 2 1 [S s2, V 14 1 0 2] false), some p2]⟩
def e19 (n m : Int) : TE := ⟨0, [a0, .sy (s19 ++ ak (ah n) ++ s20 ++ ak (ah m) ++ s21)], [], .tup [.agg [.sl 0 4 0 2 (some 2), V 1 4 0 2, V 2 3 0 1, V 3 3 0 7, C 500], I 0], (w1 n m)⟩
def e20 (n m : Int) : TE := ⟨1, [V 0 3 0 7], [some (p15 n m)], .tup [.nm 1, .kb true], [some o10]⟩
def e21 (n m : Int) : TE := ⟨1, [.agg [V 0 3 0 7, C 500]], [some (p15 n m)], I 0, []⟩
def e22 (n m : Int) : TE := ⟨7, [.agg [.sl 0 4 0 2 (some 2), J, V 1 3 0 1, J, J], .agg [S s2, V 2 2 0 1, aN]], [some (vc 140 4 3 [I 0, I 0, I 0, V 4 8 0 7, I 1, I 1, I 0, V 3 8 0 3, I 0, I 0, I 0, V 5 8 0 7] false), some p6, some (vc 60 2 1 [S s2, V 6 1 0 2] false), some o2, some (p7 n m), some (p7 n m), some p2], .kb true, []⟩
def e23 (n m : Int) : TE := ⟨4, [a7, a3], [some o11, some o4, some p8, some (p7 n m)], .kb true, []⟩
def e24 (n m : Int) : TE := ⟨4, [a7, a4], [some o11, some o4, some p8, some o2], .kb true, []⟩
def e25 (n m : Int) : TE := ⟨9, [a8], (w1 n m), I 0, []⟩
def e26 (n m : Int) : TE := ⟨9, [a8], (w1 n m), .tup [.agg [V 9 1 0 2, V 10 2 0 1], I 0], [some p4, some (vc 60 2 1 [S s2, V 11 1 0 2] false), some p2]⟩
def e27 (n m : Int) : TE := ⟨3, [.agg [V 0 1 0 2, V 1 2 0 1]], [some p4, some p0, some p2], I 0, []⟩
def e28 (n m : Int) : TE := ⟨3, [D (.arr 4 2 (dxL [(ls [(sy s1), (sy s2), (sy s9), (sy s10)]), (ls [(sy s11), (sy s2), (ls [(sy s12), (ls [(sy s13), (sy s3)]), (ls [(sy s13), (sy s4)])]), (ls [(sy s14), (ls [(sy s15), (ls [(sy s13), (sy s3)]), (ls [(sy s13), (sy s4)])]), (ls [(sy s16), (ls [(sy s17)])]), (ls [(sy s18), (ls [(sy s13), (sy s3)]), (ls [(sy s13), (sy s4)])])])])])), .agg [V 0 1 0 2, V 1 2 0 1]], [some p4, some p0, some p2], .tup [.agg [V 3 2 0 1, aN, V 4 2 0 1], I 0, I 0], [some p13, some (vc 194 2 1 [S s2, V 6 9 0 2] false), some p19, some (vc 134 9 2 [C 10, I 0, I 0, S s0, aN, S s12, I 0, aN, V 8 9 0 2, C 4, I 0, I 0, S s0, aN, S s0, I 0, aN, V 7 9 0 3] false), some (vc 134 9 3 [C 10, I 0, I 0, S s0, aN, S s15, I 0, aN, V 9 9 0 2, C 1, C 4, C 0, S s0, D (.arr 4 1 (dxL [(sy s17)])), S s0, I 0, aN, aN, C 10, I 0, I 0, S s0, aN, S s18, I 0, aN, V 10 9 0 2] false), some o12, some o12, some o12]⟩
def e29 (n m : Int) : TE := ⟨11, [.agg [V 0 4 0 4, J, V 1 3 0 1, J, J], a9], [some p20, some p21, some (vc 60 2 2 [S s2, V 9 1 0 2, S s2, V 8 1 0 2] false), some (vc 201 1 1 [V 10 1 0 2] false), some o13, some o2, some (p7 n m), some o14, some p19, some p2, some p22], .kb true, []⟩
def e30 (n m : Int) : TE := ⟨4, [a10, a3], [some o15, some o4, some p8, some (p7 n m)], .kb true, []⟩
def e31 (n m : Int) : TE := ⟨4, [a10, a4], [some o15, some o4, some p8, some o2], .kb true, []⟩
def e32 (n m : Int) : TE := ⟨4, [a10, a11], [some o15, some o4, some p8, some o14], .kb true, []⟩
def e33 (n m : Int) : TE := ⟨4, [a10, a12], [some o15, some o4, some p8, some o13], .kb true, []⟩
def e34 (n m : Int) : TE := ⟨13, [a13], (w2 n m), I 0, []⟩
def e35 (n m : Int) : TE := ⟨1, [V 0 3 0 7], [some (p26 n m)], .tup [.nm 1, .kb true], [some o17]⟩
def e36 (n m : Int) : TE := ⟨1, [.agg [V 0 3 0 7, C 500]], [some (p26 n m)], I 0, []⟩
def e37 (n m : Int) : TE := ⟨13, [a13], (w3 n m), I 0, []⟩
def e38 (n m : Int) : TE := ⟨1, [V 0 3 0 15], [some (p27 n m)], .tup [.nm 1, .kb true], [some o18]⟩
def e39 (n m : Int) : TE := ⟨1, [.agg [V 0 3 0 15, C 500]], [some (p27 n m)], I 0, []⟩
def e40 (n m : Int) : TE := ⟨1, [V 0 3 0 15], [some (p28 n m)], .tup [.nm 1, .kb true], [some o18]⟩
def e41 (n m : Int) : TE := ⟨1, [.agg [V 0 3 0 15, C 500]], [some (p28 n m)], I 0, []⟩
def e42 (n m : Int) : TE := ⟨13, [a13, .agg [C 5, C 0, S s0]], (w3 n m), .tup [.agg [V 13 4 0 4, V 14 4 0 2, V 15 3 0 1, V 16 3 0 15, C 500], .agg [C 5, I 10, S s0], I 0], [some p29, some o16, some p30, some (p28 n m), some o13, some o2, some (p7 n m), some o14, some p31, some p32, some p19, some p2, some p22]⟩
def e43 (n m : Int) : TE := ⟨17, [a8, a14], (w4 n m), .tup [.agg [V 17 4 0 4, V 18 4 0 2, V 19 3 0 1, V 20 3 0 7, C 500], I 0], (w5 n m)⟩
def e44 (n m : Int) : TE := ⟨9, [a8, S s22], (w1 n m), .tup [.agg [V 9 4 0 4, V 10 4 0 2, V 11 3 0 1, V 12 3 0 7, C 500], I 0], (w6 n m)⟩
def e45 (n m : Int) : TE := ⟨13, [a13], (w2 n m), .tup [.agg [V 13 1 0 2, V 14 2 0 1], I 0], [some p4, some p12, some p19]⟩
def e46 (n m : Int) : TE := ⟨4, [a10, .agg [I 0, I 0, I 0, V 3 8 0 6]], [some o15, some o4, some p8, some o20], .kb true, []⟩
def e47 (n m : Int) : TE := ⟨14, [a13, .agg [I 0, I 0, I 0, V 4 8 0 6], I 100], [some p48, some o9, some p49, some (p15 n m), some o20, some o13, some o2, some (p7 n m), some o14, some p50, some p51, some p19, some p2, some p22], .tup [.agg [.sl 14 4 0 4 (some 4), V 15 4 0 2, V 16 3 0 1, V 17 3 0 7, C 500], .agg [C 5, C 2, S s0], I 0], [some (vc 140 4 5 [I 0, I 0, I 0, V 20 8 0 7, I 1, I 1, I 0, V 19 8 0 3, I 2, I 2, I 0, V 21 8 0 7, I 2, I 2, I 0, V 18 8 0 20, I 0, I 0, I 0, V 4 8 0 6] false), some o9, some p52, some (p15 n m), some o13, some o2, some (p7 n m), some o14, some p53, some p54, some p19, some p2, some p22]⟩
def e48 (n m : Int) : TE := ⟨12, [.agg [.sl 0 4 0 4 (some 4), J, V 1 3 0 1, J, J], a9], [some p55, some p21, some (vc 60 2 2 [S s2, V 10 1 0 2, S s2, V 9 1 0 2] false), some (vc 201 1 1 [V 11 1 0 2] false), some o13, some o2, some (p7 n m), some o20, some o14, some p19, some p2, some p22], .kb true, []⟩
def e49 (n m : Int) : TE := ⟨4, [a15, a3], [some o21, some o4, some p8, some (p7 n m)], .kb true, []⟩
def e50 (n m : Int) : TE := ⟨4, [a15, a4], [some o21, some o4, some p8, some o2], .kb true, []⟩
def e51 (n m : Int) : TE := ⟨4, [a15, a11], [some o21, some o4, some p8, some o14], .kb true, []⟩
def e52 (n m : Int) : TE := ⟨4, [a15, a12], [some o21, some o4, some p8, some o13], .kb true, []⟩
def e53 (n m : Int) : TE := ⟨14, [a16], (w7 n m), I 0, []⟩
def e54 (n m : Int) : TE := ⟨14, [a16, .agg [C 5, C 2, S s0]], (w7 n m), .tup [.agg [V 14 4 0 4, V 15 4 0 2, V 16 3 0 1, V 17 3 0 15, C 500], .sy (s24 ++ ak (ah n + ah m) ++ s25), I 0], (w8 n m)⟩
def e55 (n m : Int) : TE := ⟨14, [a13, a17], (w9 n m), .tup [.agg [V 14 4 0 4, V 15 4 0 2, V 16 3 0 1, V 17 3 0 15, C 500], .sy (s24 ++ ak (ah n + ah m) ++ s25), I 0], (w8 n m)⟩
def e57 (n m : Int) : TE := ⟨1, [V 0 3 0 12], [some (p57 n m)], .tup [.nm 1, .kb true], [some o22]⟩
def e58 (n m : Int) : TE := ⟨1, [.agg [V 0 3 0 12, C 500]], [some (p57 n m)], I 0, []⟩
def e59 (n m : Int) : TE := ⟨1, [V 0 3 0 12], [some (p58 n m)], .tup [.nm 1, .kb true], [some o22]⟩
def e60 (n m : Int) : TE := ⟨1, [.agg [V 0 3 0 12, C 500]], [some (p58 n m)], I 0, []⟩
def e61 (n m : Int) : TE := ⟨13, [a13, .agg [C 5, C 0, S s0]], (w3 n m), .tup [.agg [V 13 4 0 4, V 14 4 0 2, V 15 3 0 1, V 16 3 0 12, C 500], .agg [C 5, I 7, S s0], I 0], [some p29, some o16, some p30, some (p58 n m), some o13, some o2, some (p7 n m), some o14, some p31, some p32, some p19, some p2, some p22]⟩
def e62 (n m : Int) : TE := ⟨17, [a8, a14], (w4 n m), .tup [.agg [V 17 4 0 4, V 18 4 0 2, V 19 3 0 1, V 20 3 0 7, C 500], I 0], (w5 n m)⟩
def e63 (n m : Int) : TE := ⟨9, [a8, S s22], (w1 n m), .tup [.agg [V 9 4 0 4, V 10 4 0 2, V 11 3 0 1, V 12 3 0 7, C 500], I 0], (w6 n m)⟩
def e64 (n m : Int) : TE := ⟨14, [a16, .agg [C 5, C 2, S s0]], (w7 n m), .tup [.agg [V 14 4 0 4, V 15 4 0 2, V 16 3 0 1, V 17 3 0 12, C 500], .sy (s24 ++ ak (ah n + ah m) ++ s20 ++ ak (ah n - ah m) ++ s26), I 0], (w10 n m)⟩
def e65 (n m : Int) : TE := ⟨14, [a13, a17], (w9 n m), .tup [.agg [V 14 4 0 4, V 15 4 0 2, V 16 3 0 1, V 17 3 0 12, C 500], .sy (s24 ++ ak (ah n + ah m) ++ s20 ++ ak (ah n - ah m) ++ s26), I 0], (w10 n m)⟩
end
theorem fx (n m : Int) : 0 <= ah n /\ ah n < 1000 /\ 0 <= ah m /\ ah m < 1000 /\ (ak (ah m)).size <= 3 /\ 0 < (ak (ah m)).size /\ (ak (ah n + ah m)).size <= 5 /\ (ak (ah n - ah m)).size <= 5 /\ (ak (ah n)).size <= 3 /\ 0 < (ak (ah n)).size := by
 have h0 : 0 <= ah n := (iQ n (by decide)).1
 have h1 : ah n < 1000 := (iQ n (by decide)).2
 have h2 : 0 <= ah m := (iQ m (by decide)).1
 have h3 : ah m < 1000 := (iQ m (by decide)).2
 refine ⟨h0, h1, h2, h3, Iy (by omega) (by omega), La (by omega) (by omega), Ki (by omega) (by omega), Ki (by omega) (by omega), Iy (by omega) (by omega), La (by omega) (by omega)⟩
end Gv.LMoveTells
