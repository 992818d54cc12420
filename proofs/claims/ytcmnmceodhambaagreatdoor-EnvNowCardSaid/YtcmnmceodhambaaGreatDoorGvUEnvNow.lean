/- What the told parts of EnvNow are made of. Printed by gvgen.py. -/
import Derived.Test.YtcmnmceodhambaaGreatDoorGvE
set_option linter.unusedVariables false
open Rx Go
namespace Gv.LEnvNow
open Gv Rd
noncomputable section
def s1 : ByteArray := ⟨#[114, 101, 99, 111, 114, 100]⟩
def s2 : ByteArray := ⟨#[112]⟩
def s3 : ByteArray := ⟨#[97]⟩
def s4 : ByteArray := ⟨#[100, 101, 102, 105, 110, 101]⟩
def s5 : ByteArray := ⟨#[120]⟩
def s6 : ByteArray := ⟨#[102, 48]⟩
def s7 : ByteArray := ⟨#[110]⟩
def s8 : ByteArray := ⟨#[98, 48]⟩
def s9 : ByteArray := ⟨#[117, 112, 103, 114, 97, 100, 101]⟩
def s10 : ByteArray := ⟨#[119, 97, 115]⟩
def s11 : ByteArray := ⟨#[102, 49]⟩
def s12 : ByteArray := ⟨#[98, 49]⟩
def s13 : ByteArray := ⟨#[102, 50]⟩
def s14 : ByteArray := ⟨#[98, 50]⟩
def s15 : ByteArray := ⟨#[102, 51]⟩
def s16 : ByteArray := ⟨#[98, 51]⟩
def s17 : ByteArray := ⟨#[102, 52]⟩
def s18 : ByteArray := ⟨#[98, 52]⟩
def s19 : ByteArray := ⟨#[40, 114, 101, 99, 111, 114, 100, 32, 112, 32, 97, 41, 32, 40, 100, 101, 102, 105, 110, 101, 32, 120, 32, 49, 41]⟩
def s20 : ByteArray := ⟨#[40, 100, 101, 102, 105, 110, 101, 32, 40, 102]⟩
def s21 : ByteArray := ⟨#[32, 110, 41, 32, 110, 41, 32, 40, 114, 101, 99, 111, 114, 100, 32, 112, 32, 97, 32, 98]⟩
def s22 : ByteArray := ⟨#[41, 32, 40, 117, 112, 103, 114, 97, 100, 101, 32, 112, 32, 40, 119, 97, 115, 32, 97, 41, 32, 49, 41]⟩
theorem YT : s1.size = 6 := rfl
theorem YN : s1.data.toList = [114, 101, 99, 111, 114, 100] := rfl
theorem YI : s2.size = 1 := rfl
theorem YM : s2.data.toList = [112] := rfl
theorem YR : s3.size = 1 := rfl
theorem YD : s3.data.toList = [97] := rfl
theorem YB : s4.size = 6 := rfl
theorem YK : s4.data.toList = [100, 101, 102, 105, 110, 101] := rfl
theorem YP : s5.size = 1 := rfl
theorem YG : s5.data.toList = [120] := rfl
theorem YQ : s6.size = 2 := rfl
theorem XU : s6.data.toList = [102, 48] := rfl
theorem YE : s7.size = 1 := rfl
theorem YC : s7.data.toList = [110] := rfl
theorem YJ : s8.size = 2 := rfl
theorem XD : s8.data.toList = [98, 48] := rfl
theorem YS : s9.size = 7 := rfl
theorem YH : s9.data.toList = [117, 112, 103, 114, 97, 100, 101] := rfl
theorem Yn : s10.size = 3 := rfl
theorem Yx : s10.data.toList = [119, 97, 115] := rfl
theorem Ym : s11.size = 2 := rfl
theorem Wj : s11.data.toList = [102, 49] := rfl
theorem Yr : s12.size = 2 := rfl
theorem Ww : s12.data.toList = [98, 49] := rfl
theorem Yv : s13.size = 2 := rfl
theorem W9 : s13.data.toList = [102, 50] := rfl
theorem Yq : s14.size = 2 := rfl
theorem WC : s14.data.toList = [98, 50] := rfl
theorem YA : s15.size = 2 := rfl
theorem V4 : s15.data.toList = [102, 51] := rfl
theorem Yy : s16.size = 2 := rfl
theorem WJ : s16.data.toList = [98, 51] := rfl
theorem Yp : s17.size = 2 := rfl
theorem WW : s17.data.toList = [102, 52] := rfl
theorem Yz : s18.size = 2 := rfl
theorem WB : s18.data.toList = [98, 52] := rfl
theorem Yt : s19.size = 25 := rfl
theorem Yo : s19.data.toList = [40, 114, 101, 99, 111, 114, 100, 32, 112, 32, 97, 41, 32, 40, 100, 101, 102, 105, 110, 101, 32, 120, 32, 49, 41] := rfl
theorem Hw : s20.size = 10 := rfl
theorem IE : s20.data.toList = [40, 100, 101, 102, 105, 110, 101, 32, 40, 102] := rfl
theorem IK : s21.size = 20 := rfl
theorem Ih : s21.data.toList = [32, 110, 41, 32, 110, 41, 32, 40, 114, 101, 99, 111, 114, 100, 32, 112, 32, 97, 32, 98] := rfl
theorem GX : s22.size = 23 := rfl
theorem HV : s22.data.toList = [41, 32, 40, 117, 112, 103, 114, 97, 100, 101, 32, 112, 32, 40, 119, 97, 115, 32, 97, 41, 32, 49, 41] := rfl
def o0 : Ob := vc 136 10 1 [S s5, C 1, C 1, C 1, S s0, D (.arr 4 0 (dxL [])), S s0, I 0, aU, aU] false
def o1 : Ob := vc 130 4 1 [S s5, C 3, I 0, S s0] false
def o2 : Ob := vc 200 8 3 [C 1, I 0, I 0, S s0, S s0, I 0, I 0, S s0, C 2, I 0, I 0, S s0, S s0, C 1, C 1, S s0, C 14, I 0, I 0, S s0, S s0, I 0, I 0, S s0] false
def o3 : Ob := vc 140 4 1 [J, J, I 0, J] false
def o4 : Ob := vc 130 4 1 [S s5, J, J, J] false
def o5 : Ob := vc 130 4 1 [S s5, C 1, C 1, S s0] false
def o6 : Ob := vc 140 4 2 [J, J, I 0, J, J, J, I 0, J] false
def o7 : Ob := vc 134 9 1 [C 2, I 0, I 0, S s0, aU, S s7, I 0, aU, aU] true
def o8 : Ob := vc 134 9 2 [C 15, I 0, I 0, S s0, aU, S s0, C 0, aU, aU, C 1, C 1, C 1, S s0, D (.arr 4 0 (dxL [])), S s0, I 0, aU, aU] false
def o9 : Ob := vc 130 4 2 [S s5, C 1, C 1, S s0, S s6, C 3, I 0, S s0] false
def o10 : Ob := vc 200 8 3 [C 1, I 0, I 0, S s0, S s0, I 0, I 0, S s0, C 3, C 0, I 0, S s0, S s0, I 0, I 0, S s0, C 14, I 0, I 0, S s0, S s0, I 0, I 0, S s0] false
def o11 : Ob := vc 140 4 4 [J, J, I 0, J, J, J, I 0, J, J, J, I 0, J, J, J, I 0, J] false
def o12 : Ob := vc 130 4 2 [S s5, J, J, J, S s6, J, J, J] false
def o13 : Ob := vc 126 3 2 [C 8, C 3, S s0, C 1, I 0, S s0] true
def o14 : Ob := vc 126 3 2 [C 8, C 3, S s0, C 1, I 0, S s0] false
def o15 : Ob := .mp (.int .i64) .bool [((0 : Int), true)]
def o16 : Ob := vc 130 4 2 [S s5, C 1, C 1, S s0, S s6, C 5, C 0, S s0] false
def o17 : Ob := vc 130 4 3 [S s5, C 1, C 1, S s0, S s6, C 5, C 0, S s0, S s11, C 3, I 0, S s0] false
def o18 : Ob := vc 9 1 3 [S s5, S s6, S s11] false
def o19 : Ob := vc 140 4 7 [J, J, I 0, J, J, J, I 0, J, J, J, I 0, J, J, J, I 0, J, J, J, I 0, J, J, J, I 0, J, J, J, I 0, J] false
def o20 : Ob := vc 130 4 3 [S s5, J, J, J, S s6, J, J, J, S s11, J, J, J] false
def o21 : Ob := vc 126 3 2 [C 8, C 6, S s0, C 1, I 0, S s0] true
def o22 : Ob := vc 126 3 4 [C 8, C 3, S s0, C 1, I 0, S s0, C 8, C 6, S s0, C 1, I 0, S s0] false
def o23 : Ob := .mp (.int .i64) .bool [((0 : Int), true), ((2 : Int), true)]
def o24 : Ob := vc 130 4 3 [S s5, C 1, C 1, S s0, S s6, C 5, C 0, S s0, S s11, C 5, C 2, S s0] false
def o25 : Ob := vc 130 4 4 [S s5, C 1, C 1, S s0, S s6, C 5, C 0, S s0, S s11, C 5, C 2, S s0, S s13, C 3, I 0, S s0] false
def o26 : Ob := vc 9 1 4 [S s5, S s6, S s11, S s13] false
def o27 : Ob := vc 140 4 10 [J, J, I 0, J, J, J, I 0, J, J, J, I 0, J, J, J, I 0, J, J, J, I 0, J, J, J, I 0, J, J, J, I 0, J, J, J, I 0, J, J, J, I 0, J, J, J, I 0, J] false
def o28 : Ob := vc 130 4 4 [S s5, J, J, J, S s6, J, J, J, S s11, J, J, J, S s13, J, J, J] false
def o29 : Ob := vc 126 3 2 [C 8, C 9, S s0, C 1, I 0, S s0] true
def o30 : Ob := vc 126 3 6 [C 8, C 3, S s0, C 1, I 0, S s0, C 8, C 6, S s0, C 1, I 0, S s0, C 8, C 9, S s0, C 1, I 0, S s0] false
def o31 : Ob := .mp (.int .i64) .bool [((0 : Int), true), ((2 : Int), true), ((4 : Int), true)]
def o32 : Ob := vc 130 4 4 [S s5, C 1, C 1, S s0, S s6, C 5, C 0, S s0, S s11, C 5, C 2, S s0, S s13, C 5, C 4, S s0] false
def o33 : Ob := vc 130 4 5 [S s5, C 1, C 1, S s0, S s6, C 5, C 0, S s0, S s11, C 5, C 2, S s0, S s13, C 5, C 4, S s0, S s15, C 3, I 0, S s0] false
def o34 : Ob := vc 9 1 5 [S s5, S s6, S s11, S s13, S s15] false
def o35 : Ob := vc 140 4 13 [J, J, I 0, J, J, J, I 0, J, J, J, I 0, J, J, J, I 0, J, J, J, I 0, J, J, J, I 0, J, J, J, I 0, J, J, J, I 0, J, J, J, I 0, J, J, J, I 0, J, J, J, I 0, J, J, J, I 0, J, J, J, I 0, J] false
def o36 : Ob := vc 130 4 5 [S s5, J, J, J, S s6, J, J, J, S s11, J, J, J, S s13, J, J, J, S s15, J, J, J] false
def o37 : Ob := vc 126 3 2 [C 8, C 12, S s0, C 1, I 0, S s0] true
def o38 : Ob := vc 126 3 8 [C 8, C 3, S s0, C 1, I 0, S s0, C 8, C 6, S s0, C 1, I 0, S s0, C 8, C 9, S s0, C 1, I 0, S s0, C 8, C 12, S s0, C 1, I 0, S s0] false
def o39 : Ob := .mp (.int .i64) .bool [((0 : Int), true), ((2 : Int), true), ((4 : Int), true), ((6 : Int), true)]
def o40 : Ob := vc 130 4 5 [S s5, C 1, C 1, S s0, S s6, C 5, C 0, S s0, S s11, C 5, C 2, S s0, S s13, C 5, C 4, S s0, S s15, C 5, C 6, S s0] false
def o41 : Ob := vc 130 4 6 [S s5, C 1, C 1, S s0, S s6, C 5, C 0, S s0, S s11, C 5, C 2, S s0, S s13, C 5, C 4, S s0, S s15, C 5, C 6, S s0, S s17, C 3, I 0, S s0] false
def o42 : Ob := vc 9 1 6 [S s5, S s6, S s11, S s13, S s15, S s17] false
def o43 : Ob := vc 140 4 16 [J, J, I 0, J, J, J, I 0, J, J, J, I 0, J, J, J, I 0, J, J, J, I 0, J, J, J, I 0, J, J, J, I 0, J, J, J, I 0, J, J, J, I 0, J, J, J, I 0, J, J, J, I 0, J, J, J, I 0, J, J, J, I 0, J, J, J, I 0, J, J, J, I 0, J, J, J, I 0, J] false
def o44 : Ob := vc 130 4 6 [S s5, J, J, J, S s6, J, J, J, S s11, J, J, J, S s13, J, J, J, S s15, J, J, J, S s17, J, J, J] false
def o45 : Ob := vc 126 3 2 [C 8, C 15, S s0, C 1, I 0, S s0] true
def o46 : Ob := vc 126 3 10 [C 8, C 3, S s0, C 1, I 0, S s0, C 8, C 6, S s0, C 1, I 0, S s0, C 8, C 9, S s0, C 1, I 0, S s0, C 8, C 12, S s0, C 1, I 0, S s0, C 8, C 15, S s0, C 1, I 0, S s0] false
def o47 : Ob := .mp (.int .i64) .bool [((0 : Int), true), ((2 : Int), true), ((4 : Int), true), ((6 : Int), true), ((8 : Int), true)]
def o48 : Ob := vc 130 4 6 [S s5, C 1, C 1, S s0, S s6, C 5, C 0, S s0, S s11, C 5, C 2, S s0, S s13, C 5, C 4, S s0, S s15, C 5, C 6, S s0, S s17, C 5, C 8, S s0] false
def p0 : Ob := vc 60 2 1 [S s2, V 2 1 0 1] false
def p1 : Ob := vc 60 2 1 [S s2, aU] false
def p2 : Ob := vc 140 4 1 [I 0, I 0, I 0, V 3 8 0 3] false
def p3 : Ob := vc 63 3 1 [S s2, V 2 2 0 1, aU] false
def p4 : Ob := vc 63 3 1 [S s2, J, J] false
def p5 : Ob := vc 63 3 1 [S s2, V 4 2 0 1, aU] false
def p6 : Ob := vc 60 2 1 [S s2, V 5 1 0 1] true
def p7 : Ob := vc 140 4 2 [I 0, I 0, I 0, V 7 8 0 3, I 0, I 0, I 0, V 6 8 0 3] false
def p8 : Ob := vc 63 3 1 [S s2, V 8 2 0 1, aU] false
def p9 : Ob := vc 60 2 1 [S s2, V 9 1 0 1] false
def p10 : Ob := vc 140 4 2 [I 0, I 0, I 0, V 4 8 0 3, I 0, I 0, I 0, V 3 8 0 3] false
def p11 : Ob := vc 63 3 1 [S s2, V 5 2 0 1, aU] false
def p12 : Ob := vc 60 2 1 [S s2, V 6 1 0 1] false
def p13 : Ob := vc 60 2 1 [S s2, V 6 1 0 2] false
def p14 : Ob := vc 194 2 1 [S s2, V 9 9 0 2] false
def p15 : Ob := vc 9 1 2 [S s3, S s8] false
def p16 : Ob := vc 9 1 2 [S s5, S s6] false
def p17 : Ob := vc 140 4 4 [I 0, I 0, I 0, V 6 8 0 3, I 1, I 1, I 0, V 5 8 0 3, I 1, I 1, I 0, V 7 8 0 3, I 1, I 1, I 0, V 4 8 0 3] false
def p18 : Ob := vc 3 1 2 [I 1, I 2] false
def p19 : Ob := vc 63 3 1 [S s2, V 8 2 0 2, V 9 1 0 1] false
def p20 : Ob := vc 60 2 2 [S s2, V 11 1 0 1, S s2, V 10 1 0 2] false
def p21 : Ob := vc 201 1 1 [V 12 1 0 2] false
def p22 : Ob := vc 60 2 2 [S s2, V 18 1 0 1, S s2, V 17 1 0 2] false
def p23 : Ob := vc 201 1 1 [V 19 1 0 2] false
def p24 : Ob := vc 60 2 1 [S s2, V 2 1 0 2] false
def p25 : Ob := vc 9 1 2 [S s3, S s12] false
def p26 : Ob := vc 140 4 7 [I 0, I 0, I 0, V 7 8 0 3, I 1, I 1, I 0, V 5 8 0 3, I 1, I 1, I 0, V 9 8 0 3, I 1, I 1, I 0, V 4 8 0 3, I 2, I 2, I 0, V 8 8 0 3, I 2, I 2, I 0, V 6 8 0 3, I 1, I 1, I 0, V 10 8 0 3] false
def p27 : Ob := vc 3 1 2 [I 4, I 5] false
def p28 : Ob := vc 63 3 1 [S s2, V 11 2 0 3, V 12 1 0 2] false
def p29 : Ob := vc 60 2 3 [S s2, V 14 1 0 1, S s2, V 13 1 0 2, S s2, V 15 1 0 2] false
def p30 : Ob := vc 201 1 2 [V 17 1 0 2, V 16 1 0 2] false
def p31 : Ob := vc 9 1 2 [S s3, S s14] false
def p32 : Ob := vc 140 4 10 [I 0, I 0, I 0, V 9 8 0 3, I 1, I 1, I 0, V 6 8 0 3, I 1, I 1, I 0, V 12 8 0 3, I 1, I 1, I 0, V 5 8 0 3, I 2, I 2, I 0, V 11 8 0 3, I 2, I 2, I 0, V 8 8 0 3, I 1, I 1, I 0, V 13 8 0 3, I 2, I 2, I 0, V 4 8 0 3, I 2, I 2, I 0, V 10 8 0 3, I 1, I 1, I 0, V 7 8 0 3] false
def p33 : Ob := vc 3 1 2 [I 7, I 8] false
def p34 : Ob := vc 63 3 1 [S s2, V 14 2 0 4, V 15 1 0 3] false
def p35 : Ob := vc 60 2 4 [S s2, V 18 1 0 1, S s2, V 17 1 0 2, S s2, V 19 1 0 2, S s2, V 16 1 0 2] false
def p36 : Ob := vc 201 1 3 [V 21 1 0 2, V 20 1 0 2, V 22 1 0 2] false
def p37 : Ob := vc 9 1 2 [S s3, S s16] false
def p38 : Ob := vc 140 4 13 [I 0, I 0, I 0, V 10 8 0 3, I 1, I 1, I 0, V 7 8 0 3, I 1, I 1, I 0, V 14 8 0 3, I 1, I 1, I 0, V 5 8 0 3, I 2, I 2, I 0, V 12 8 0 3, I 2, I 2, I 0, V 9 8 0 3, I 1, I 1, I 0, V 16 8 0 3, I 2, I 2, I 0, V 4 8 0 3, I 2, I 2, I 0, V 11 8 0 3, I 1, I 1, I 0, V 8 8 0 3, I 2, I 2, I 0, V 15 8 0 3, I 2, I 2, I 0, V 6 8 0 3, I 1, I 1, I 0, V 13 8 0 3] false
def p39 : Ob := vc 3 1 2 [I 10, I 11] false
def p40 : Ob := vc 63 3 1 [S s2, V 17 2 0 5, V 18 1 0 4] false
def p41 : Ob := vc 60 2 5 [S s2, V 21 1 0 1, S s2, V 20 1 0 2, S s2, V 23 1 0 2, S s2, V 19 1 0 2, S s2, V 22 1 0 2] false
def p42 : Ob := vc 201 1 4 [V 26 1 0 2, V 25 1 0 2, V 27 1 0 2, V 24 1 0 2] false
def p43 : Ob := vc 9 1 2 [S s3, S s18] false
def p44 : Ob := vc 140 4 16 [I 0, I 0, I 0, V 12 8 0 3, I 1, I 1, I 0, V 8 8 0 3, I 1, I 1, I 0, V 16 8 0 3, I 1, I 1, I 0, V 6 8 0 3, I 2, I 2, I 0, V 14 8 0 3, I 2, I 2, I 0, V 10 8 0 3, I 1, I 1, I 0, V 18 8 0 3, I 2, I 2, I 0, V 5 8 0 3, I 2, I 2, I 0, V 13 8 0 3, I 1, I 1, I 0, V 9 8 0 3, I 2, I 2, I 0, V 17 8 0 3, I 2, I 2, I 0, V 7 8 0 3, I 1, I 1, I 0, V 15 8 0 3, I 2, I 2, I 0, V 11 8 0 3, I 2, I 2, I 0, V 19 8 0 3, I 1, I 1, I 0, V 4 8 0 3] false
def p45 : Ob := vc 3 1 2 [I 13, I 14] false
def p46 : Ob := vc 63 3 1 [S s2, V 20 2 0 6, V 21 1 0 5] false
def p47 : Ob := vc 60 2 6 [S s2, V 25 1 0 1, S s2, V 23 1 0 2, S s2, V 27 1 0 2, S s2, V 22 1 0 2, S s2, V 26 1 0 2, S s2, V 24 1 0 2] false
def p48 : Ob := vc 201 1 5 [V 30 1 0 2, V 29 1 0 2, V 32 1 0 2, V 28 1 0 2, V 31 1 0 2] false
def a0 : SV := .agg [aU, aU, aU, aU, C 1000]
def a1 : SV := .agg [I 0, I 0, I 0, V 3 8 0 3]
def a2 : SV := .agg [V 0 4 0 1, V 1 4 0 1, V 2 3 0 1, aU, C 1000]
def a3 : SV := .agg [.sl 0 4 0 1 (some 1), V 1 4 0 1, V 2 3 0 1, aU, C 1000]
def a4 : SV := .agg [V 0 4 0 4, V 1 4 0 2, V 2 3 0 1, J, J]
def a5 : SV := .agg [I 1, I 1, I 0, V 3 8 0 3]
def a6 : SV := .agg [V 0 4 0 4, V 1 4 0 2, V 2 3 0 1, aU, C 1000]
def a7 : SV := .agg [V 0 4 0 4, V 1 4 0 2, V 2 3 0 1, V 3 3 0 2, C 1000]
def a8 : SV := .agg [V 0 4 0 7, V 1 4 0 3, V 2 3 0 1, J, J]
def a9 : SV := .agg [I 2, I 2, I 0, V 3 8 0 3]
def a10 : SV := .agg [V 0 4 0 7, V 1 4 0 3, V 2 3 0 1, V 3 3 0 2, C 1000]
def a11 : SV := .agg [V 4 2 0 1, V 5 10 0 1, V 6 2 0 1]
def a12 : SV := .agg [V 0 4 0 7, V 1 4 0 3, V 2 3 0 1, V 3 3 0 4, C 1000]
def a13 : SV := .agg [V 0 4 0 10, V 1 4 0 4, V 2 3 0 1, J, J]
def a14 : SV := .agg [V 0 4 0 10, V 1 4 0 4, V 2 3 0 1, V 3 3 0 4, C 1000]
def a15 : SV := .agg [V 0 4 0 10, V 1 4 0 4, V 2 3 0 1, V 3 3 0 6, C 1000]
def a16 : SV := .agg [V 0 4 0 13, V 1 4 0 5, V 2 3 0 1, J, J]
def a17 : SV := .agg [V 0 4 0 13, V 1 4 0 5, V 2 3 0 1, V 3 3 0 6, C 1000]
def a18 : SV := .agg [V 0 4 0 13, V 1 4 0 5, V 2 3 0 1, V 3 3 0 8, C 1000]
def a19 : SV := .agg [V 0 4 0 16, V 1 4 0 6, V 2 3 0 1, J, J]
def a20 : SV := .agg [V 0 4 0 16, V 1 4 0 6, V 2 3 0 1, V 3 3 0 8, C 1000]
def a21 : SV := .agg [V 0 4 0 16, V 1 4 0 6, V 2 3 0 1, V 3 3 0 10, C 1000]
def w0 : List (Option Ob) := [some p0, some o0, some (vc 9 1 1 [S s3] false)]
def w1 : List (Option Ob) := [some p2, some o1, some p5, some o2, some p6, some (vc 9 1 1 [S s3] false)]
def w2 : List (Option Ob) := [some p10, some o5, some p11, some o2, some o2, some p12, some (vc 9 1 1 [S s3] false)]
def w3 : List (Option Ob) := [some (vc 9 1 1 [S s5] false), some p0, some (vc 9 1 1 [S s3] false)]
def w4 : List (Option Ob) := [some o11, some o12, some p4, some o2]
def w5 : List (Option Ob) := [some p17, some o16, some p19, some o14, some o10, some o10, some o2, some o2, some p20, some p21, some p15, some (vc 9 1 1 [S s3] false), some p18]
def w6 : List (Option Ob) := [some o19, some o20, some p4, some o2]
def w7 : List (Option Ob) := [some o19, some o20, some p4, some o10]
def w8 : List (Option Ob) := [some p26, some o24, some p28, some o22, some o10, some o10, some o2, some o2, some o10, some o2, some o10, some p29, some p30, some p15, some (vc 9 1 1 [S s3] false), some p25, some p27, some p18]
def w9 : List (Option Ob) := [some o27, some o28, some p4, some o2]
def w10 : List (Option Ob) := [some o27, some o28, some p4, some o10]
def w11 : List (Option Ob) := [some p32, some o32, some p34, some o30, some o10, some o10, some o10, some o10, some o2, some o2, some o2, some o10, some o2, some o10, some p35, some p36, some p31, some p15, some (vc 9 1 1 [S s3] false), some p25, some p27, some p18, some p33]
def w12 : List (Option Ob) := [some o35, some o36, some p4, some o2]
def w13 : List (Option Ob) := [some o35, some o36, some p4, some o10]
def w14 : List (Option Ob) := [some p38, some o40, some p40, some o38, some o10, some o10, some o2, some o10, some o10, some o2, some o2, some o2, some o10, some o10, some o2, some o10, some o10, some p41, some p42, some p31, some p15, some (vc 9 1 1 [S s3] false), some p37, some p25, some p39, some p27, some p18, some p33]
def w15 : List (Option Ob) := [some o43, some o44, some p4, some o2]
def w16 : List (Option Ob) := [some o43, some o44, some p4, some o10]
def w17 : List (Option Ob) := [some p44, some o48, some p46, some o46, some o10, some o10, some o10, some o2, some o10, some o10, some o2, some o10, some o2, some o2, some o10, some o10, some o2, some o10, some o10, some o2, some p47, some p48, some p31, some p15, some p43, some (vc 9 1 1 [S s3] false), some p37, some p25, some p39, some p27, some p18, some p45, some p33]
def e0 (n : Int) : TE := ⟨0, [.ri .i64 (-9223372036854775808) 9223372036854775807 (n), I 6], [], I 0, []⟩
def e1 (n : Int) : TE := ⟨0, [aU], [], .tup [.nm 0, .kb true], [some (.mp (.int .i64) .bool [])]⟩
def e2 (n : Int) : TE := ⟨0, [.agg [aU, C 1000]], [], I 0, []⟩
def e3 (n : Int) : TE := ⟨0, [.agg [aU, aU]], [], I 0, []⟩
def e4 (n : Int) : TE := ⟨0, [a0], [], I 0, []⟩
def e5 (n : Int) : TE := ⟨0, [a0], [], .tup [.agg [aU, aU], I 0], []⟩
def e6 (n : Int) : TE := ⟨0, [D (.arr 4 2 (dxL [(ls [(sy s1), (sy s2), (sy s3)]), (ls [(sy s4), (sy s5), (num 1)])])), .agg [aU, aU]], [], .tup [.agg [V 0 2 0 1, V 1 10 0 1, aU], I 0, I 0], w0⟩
def e7 (n : Int) : TE := ⟨2, [.agg [V 0 1 0 1, V 1 2 0 1]], [some (vc 9 1 1 [S s5] false), some p1], I 0, []⟩
def e8 (n : Int) : TE := ⟨5, [.agg [V 0 4 0 1, J, V 1 3 0 1, J, J], .agg [S s2, V 2 2 0 1, aU]], [some p2, some p3, some (vc 60 2 1 [S s2, V 4 1 0 1] true), some o2, some (vc 9 1 1 [S s3] false)], .kb true, []⟩
def e9 (n : Int) : TE := ⟨0, [.agg [aU, C 50]], [], I 0, []⟩
def e10 (n : Int) : TE := ⟨4, [.agg [V 0 4 0 1, V 1 4 0 1, V 2 3 0 1, J, J], a1], [some o3, some o4, some p4, some o2], .kb true, []⟩
def e11 (n : Int) : TE := ⟨6, [a2], w1, I 0, []⟩
def e12 (n : Int) : TE := ⟨6, [a2, a1, I 20000], w1, .tup [.agg [.sl 6 4 0 1 (some 1), V 7 4 0 1, V 8 3 0 1, aU, C 1000], .agg [C 1, C 1, S s0], I 0], [some (vc 140 4 2 [I 0, I 0, I 0, V 9 8 0 3, I 0, I 0, I 0, V 3 8 0 3] false), some o1, some (vc 63 3 1 [S s2, V 10 2 0 1, aU] false), some o2, some (vc 60 2 1 [S s2, V 11 1 0 1] false), some (vc 9 1 1 [S s3] false)]⟩
def e13 (n : Int) : TE := ⟨3, [a0, .agg [V 0 2 0 1, V 1 10 0 1, aU]], w0, .tup [.agg [.sl 3 4 0 1 (some 1), V 4 4 0 1, V 5 3 0 1, aU, C 1000], I 0], [some p7, some o5, some p8, some o2, some o2, some p9, some (vc 9 1 1 [S s3] false)]⟩
def e14 (n : Int) : TE := ⟨0, [a0, S s19], [], .tup [.agg [.sl 0 4 0 1 (some 1), V 1 4 0 1, V 2 3 0 1, aU, C 1000], I 0], w2⟩
def e15 (n : Int) : TE := ⟨6, [.agg [.sl 0 4 0 1 (some 1), J, V 1 3 0 1, J, J], .agg [S s2, V 2 2 0 1, aU]], [some p10, some p3, some (vc 60 2 1 [S s2, V 5 1 0 1] false), some o2, some o2, some (vc 9 1 1 [S s3] false)], .kb true, []⟩
def e16 (n : Int) : TE := ⟨4, [.agg [.sl 0 4 0 1 (some 1), V 1 4 0 1, V 2 3 0 1, J, J], a1], [some o6, some o4, some p4, some o2], .kb true, []⟩
def e17 (n : Int) : TE := ⟨7, [a3], w2, I 0, []⟩
def e18 (n : Int) : TE := ⟨7, [a3], w2, .tup [.agg [V 7 1 0 1, V 8 2 0 1], I 0], [some (vc 9 1 1 [S s5] false), some p9, some (vc 9 1 1 [S s3] false)]⟩
def e20 (n : Int) : TE := ⟨0, [.ri .i64 (-9223372036854775808) 9223372036854775807 (n), I 6], [], I 1, []⟩
def e21 (n : Int) : TE := ⟨3, [.agg [V 0 1 0 1, V 1 2 0 1]], w3, I 0, []⟩
def e22 (n : Int) : TE := ⟨3, [D (.arr 4 3 (dxL [(ls [(sy s4), (ls [(sy s6), (sy s7)]), (sy s7)]), (ls [(sy s1), (sy s2), (sy s3), (sy s8)]), (ls [(sy s9), (sy s2), (ls [(sy s10), (sy s3)]), (num 1)])])), .agg [V 0 1 0 1, V 1 2 0 1]], w3, .tup [.agg [V 3 2 0 1, V 4 10 0 1, V 5 2 0 1], I 0, I 0], [some p13, some (vc 136 10 1 [S s6, C 6, I 0, I 0, S s0, aU, S s0, I 0, V 8 1 0 1, V 7 9 0 1] false), some p14, some p15, some o7, some (vc 9 1 1 [S s7] false), some o8]⟩
def e23 (n : Int) : TE := ⟨2, [.agg [V 0 1 0 2, V 1 2 0 1]], [some p16, some p1], I 0, []⟩
def e24 (n : Int) : TE := ⟨11, [.agg [V 0 4 0 4, J, V 1 3 0 1, J, J], .agg [S s2, V 2 2 0 2, V 3 1 0 1]], [some p17, some (vc 63 3 1 [S s2, V 2 2 0 2, V 3 1 0 1] false), some (vc 60 2 2 [S s2, V 9 1 0 1, S s2, V 8 1 0 2] false), some (vc 201 1 1 [V 10 1 0 2] false), some o10, some o10, some o2, some o2, some p15, some (vc 9 1 1 [S s3] false), some p18], .kb true, []⟩
def e25 (n : Int) : TE := ⟨4, [a4, a1], w4, .kb true, []⟩
def e26 (n : Int) : TE := ⟨4, [a4, a5], [some o11, some o12, some p4, some o10], .kb true, []⟩
def e27 (n : Int) : TE := ⟨4, [a4, a5], w4, .kb true, []⟩
def e28 (n : Int) : TE := ⟨12, [a6], [some (vc 140 4 4 [I 0, I 0, I 0, V 5 8 0 3, I 1, I 1, I 0, V 4 8 0 3, I 1, I 1, I 0, V 6 8 0 3, I 1, I 1, I 0, V 3 8 0 3] false), some o9, some (vc 63 3 1 [S s2, V 7 2 0 2, V 8 1 0 1] false), some o10, some o10, some o2, some o2, some (vc 60 2 2 [S s2, V 10 1 0 1, S s2, V 9 1 0 2] false), some (vc 201 1 1 [V 11 1 0 2] false), some p15, some (vc 9 1 1 [S s3] false), some p18], I 0, []⟩
def e29 (n : Int) : TE := ⟨1, [V 0 3 0 2], [some o14], .tup [.nm 1, .kb true], [some o15]⟩
def e30 (n : Int) : TE := ⟨1, [.agg [V 0 3 0 2, C 1000]], [some o14], I 0, []⟩
def e31 (n : Int) : TE := ⟨13, [a6, V 3 3 0 2, aU], [some p17, some o9, some p19, some o13, some o10, some o10, some o2, some o2, some p20, some p21, some p15, some (vc 9 1 1 [S s3] false), some p18], .tup [.agg [V 13 4 0 4, V 14 4 0 2, V 15 3 0 1, V 16 3 0 2, C 1000], .agg [C 5, C 0, S s0], I 0], [some (vc 140 4 4 [I 0, I 0, I 0, V 19 8 0 3, I 1, I 1, I 0, V 18 8 0 3, I 1, I 1, I 0, V 20 8 0 3, I 1, I 1, I 0, V 17 8 0 3] false), some o9, some (vc 63 3 1 [S s2, V 21 2 0 2, V 22 1 0 1] false), some o14, some o10, some o10, some o2, some o2, some (vc 60 2 2 [S s2, V 24 1 0 1, S s2, V 23 1 0 2] false), some (vc 201 1 1 [V 25 1 0 2] false), some p15, some (vc 9 1 1 [S s3] false), some p18]⟩
def e32 (n : Int) : TE := ⟨14, [a3, .agg [V 3 2 0 1, V 4 10 0 1, V 5 2 0 1]], [some p7, some o5, some p8, some (vc 60 2 1 [S s2, V 9 1 0 2] false), some (vc 136 10 1 [S s6, C 6, I 0, I 0, S s0, aU, S s0, I 0, V 11 1 0 1, V 10 9 0 1] false), some (vc 194 2 1 [S s2, V 12 9 0 2] false), some o2, some o2, some (vc 60 2 1 [S s2, V 13 1 0 1] false), some p15, some o7, some (vc 9 1 1 [S s7] false), some o8, some (vc 9 1 1 [S s3] false)], .tup [.agg [V 14 4 0 4, V 15 4 0 2, V 16 3 0 1, V 17 3 0 2, C 1000], I 0], [some (vc 140 4 4 [I 0, I 0, I 0, V 20 8 0 3, I 1, I 1, I 0, V 19 8 0 3, I 1, I 1, I 0, V 21 8 0 3, I 1, I 1, I 0, V 18 8 0 3] false), some o16, some (vc 63 3 1 [S s2, V 22 2 0 2, V 23 1 0 1] false), some o14, some o10, some o10, some o2, some o2, some (vc 60 2 2 [S s2, V 25 1 0 1, S s2, V 24 1 0 2] false), some (vc 201 1 1 [V 26 1 0 2] false), some p15, some (vc 9 1 1 [S s3] false), some p18]⟩
def e33 (n : Int) : TE := ⟨7, [a3, .sy (s20 ++ aj 0 ++ s21 ++ aj 0 ++ s22)], w2, .tup [.agg [V 7 4 0 4, V 8 4 0 2, V 9 3 0 1, V 10 3 0 2, C 1000], I 0], [some (vc 140 4 4 [I 0, I 0, I 0, V 13 8 0 3, I 1, I 1, I 0, V 12 8 0 3, I 1, I 1, I 0, V 14 8 0 3, I 1, I 1, I 0, V 11 8 0 3] false), some o16, some (vc 63 3 1 [S s2, V 15 2 0 2, V 16 1 0 1] false), some o14, some o10, some o10, some o2, some o2, some p22, some p23, some p15, some (vc 9 1 1 [S s3] false), some p18]⟩
def e34 (n : Int) : TE := ⟨13, [a7], w5, I 0, []⟩
def e35 (n : Int) : TE := ⟨13, [a7], w5, .tup [.agg [V 13 1 0 2, V 14 2 0 1], I 0], [some p16, some (vc 60 2 1 [S s2, V 15 1 0 2] false), some p15]⟩
def e37 (n : Int) : TE := ⟨0, [.ri .i64 (-9223372036854775808) 9223372036854775807 (n), I 6], [], I 2, []⟩
def e38 (n : Int) : TE := ⟨3, [.agg [V 0 1 0 2, V 1 2 0 1]], [some p16, some p24, some p15], I 0, []⟩
def e39 (n : Int) : TE := ⟨3, [D (.arr 4 3 (dxL [(ls [(sy s4), (ls [(sy s11), (sy s7)]), (sy s7)]), (ls [(sy s1), (sy s2), (sy s3), (sy s12)]), (ls [(sy s9), (sy s2), (ls [(sy s10), (sy s3)]), (num 1)])])), .agg [V 0 1 0 2, V 1 2 0 1]], [some p16, some p24, some p15], .tup [.agg [V 3 2 0 1, V 4 10 0 1, V 5 2 0 1], I 0, I 0], [some p13, some (vc 136 10 1 [S s11, C 6, I 0, I 0, S s0, aU, S s0, I 0, V 8 1 0 1, V 7 9 0 1] false), some p14, some p25, some o7, some (vc 9 1 1 [S s7] false), some o8]⟩
def e40 (n : Int) : TE := ⟨2, [.agg [V 0 1 0 3, V 1 2 0 1]], [some o18, some p1], I 0, []⟩
def e41 (n : Int) : TE := ⟨16, [.agg [V 0 4 0 7, J, V 1 3 0 1, J, J], .agg [S s2, V 2 2 0 3, V 3 1 0 2]], [some p26, some (vc 63 3 1 [S s2, V 2 2 0 3, V 3 1 0 2] false), some (vc 60 2 3 [S s2, V 12 1 0 1, S s2, V 11 1 0 2, S s2, V 13 1 0 2] false), some (vc 201 1 2 [V 15 1 0 2, V 14 1 0 2] false), some o10, some o10, some o2, some o2, some o10, some o2, some o10, some p15, some (vc 9 1 1 [S s3] false), some p25, some p27, some p18], .kb true, []⟩
def e42 (n : Int) : TE := ⟨4, [a8, a1], w6, .kb true, []⟩
def e43 (n : Int) : TE := ⟨4, [a8, a5], w7, .kb true, []⟩
def e44 (n : Int) : TE := ⟨4, [a8, a5], w6, .kb true, []⟩
def e45 (n : Int) : TE := ⟨4, [a8, a9], w7, .kb true, []⟩
def e46 (n : Int) : TE := ⟨4, [a8, a9], w6, .kb true, []⟩
def e47 (n : Int) : TE := ⟨18, [a10], [some p26, some o17, some p28, some o14, some o10, some o10, some o2, some o2, some o10, some o2, some o10, some p29, some p30, some p15, some (vc 9 1 1 [S s3] false), some p25, some p27, some p18], I 0, []⟩
def e48 (n : Int) : TE := ⟨1, [V 0 3 0 4], [some o22], .tup [.nm 1, .kb true], [some o23]⟩
def e49 (n : Int) : TE := ⟨1, [.agg [V 0 3 0 4, C 1000]], [some o22], I 0, []⟩
def e50 (n : Int) : TE := ⟨19, [a10, V 4 3 0 2, aU], [some (vc 140 4 7 [I 0, I 0, I 0, V 8 8 0 3, I 1, I 1, I 0, V 6 8 0 3, I 1, I 1, I 0, V 10 8 0 3, I 1, I 1, I 0, V 5 8 0 3, I 2, I 2, I 0, V 9 8 0 3, I 2, I 2, I 0, V 7 8 0 3, I 1, I 1, I 0, V 11 8 0 3] false), some o17, some (vc 63 3 1 [S s2, V 12 2 0 3, V 13 1 0 2] false), some o14, some o21, some o10, some o10, some o2, some o2, some o10, some o2, some o10, some (vc 60 2 3 [S s2, V 15 1 0 1, S s2, V 14 1 0 2, S s2, V 16 1 0 2] false), some (vc 201 1 2 [V 18 1 0 2, V 17 1 0 2] false), some p15, some (vc 9 1 1 [S s3] false), some p25, some p27, some p18], .tup [.agg [V 19 4 0 7, V 20 4 0 3, V 21 3 0 1, V 22 3 0 4, C 1000], .agg [C 5, C 2, S s0], I 0], [some (vc 140 4 7 [I 0, I 0, I 0, V 26 8 0 3, I 1, I 1, I 0, V 24 8 0 3, I 1, I 1, I 0, V 28 8 0 3, I 1, I 1, I 0, V 23 8 0 3, I 2, I 2, I 0, V 27 8 0 3, I 2, I 2, I 0, V 25 8 0 3, I 1, I 1, I 0, V 29 8 0 3] false), some o17, some (vc 63 3 1 [S s2, V 30 2 0 3, V 31 1 0 2] false), some o22, some o10, some o10, some o2, some o2, some o10, some o2, some o10, some (vc 60 2 3 [S s2, V 33 1 0 1, S s2, V 32 1 0 2, S s2, V 34 1 0 2] false), some (vc 201 1 2 [V 36 1 0 2, V 35 1 0 2] false), some p15, some (vc 9 1 1 [S s3] false), some p25, some p27, some p18]⟩
def e51 (n : Int) : TE := ⟨20, [a7, a11], [some (vc 140 4 4 [I 0, I 0, I 0, V 9 8 0 3, I 1, I 1, I 0, V 8 8 0 3, I 1, I 1, I 0, V 10 8 0 3, I 1, I 1, I 0, V 7 8 0 3] false), some o16, some (vc 63 3 1 [S s2, V 11 2 0 2, V 12 1 0 1] false), some o14, some (vc 60 2 1 [S s2, V 13 1 0 2] false), some (vc 136 10 1 [S s11, C 6, I 0, I 0, S s0, aU, S s0, I 0, V 15 1 0 1, V 14 9 0 1] false), some (vc 194 2 1 [S s2, V 16 9 0 2] false), some o10, some o10, some o2, some o2, some p22, some p23, some p25, some o7, some (vc 9 1 1 [S s7] false), some o8, some p15, some (vc 9 1 1 [S s3] false), some p18], .tup [.agg [V 20 4 0 7, V 21 4 0 3, V 22 3 0 1, V 23 3 0 4, C 1000], I 0], [some (vc 140 4 7 [I 0, I 0, I 0, V 27 8 0 3, I 1, I 1, I 0, V 25 8 0 3, I 1, I 1, I 0, V 29 8 0 3, I 1, I 1, I 0, V 24 8 0 3, I 2, I 2, I 0, V 28 8 0 3, I 2, I 2, I 0, V 26 8 0 3, I 1, I 1, I 0, V 30 8 0 3] false), some o24, some (vc 63 3 1 [S s2, V 31 2 0 3, V 32 1 0 2] false), some o22, some o10, some o10, some o2, some o2, some o10, some o2, some o10, some (vc 60 2 3 [S s2, V 34 1 0 1, S s2, V 33 1 0 2, S s2, V 35 1 0 2] false), some (vc 201 1 2 [V 37 1 0 2, V 36 1 0 2] false), some p15, some (vc 9 1 1 [S s3] false), some p25, some p27, some p18]⟩
def e52 (n : Int) : TE := ⟨13, [a7, .sy (s20 ++ aj 1 ++ s21 ++ aj 1 ++ s22)], w5, .tup [.agg [V 13 4 0 7, V 14 4 0 3, V 15 3 0 1, V 16 3 0 4, C 1000], I 0], [some (vc 140 4 7 [I 0, I 0, I 0, V 20 8 0 3, I 1, I 1, I 0, V 18 8 0 3, I 1, I 1, I 0, V 22 8 0 3, I 1, I 1, I 0, V 17 8 0 3, I 2, I 2, I 0, V 21 8 0 3, I 2, I 2, I 0, V 19 8 0 3, I 1, I 1, I 0, V 23 8 0 3] false), some o24, some (vc 63 3 1 [S s2, V 24 2 0 3, V 25 1 0 2] false), some o22, some o10, some o10, some o2, some o2, some o10, some o2, some o10, some (vc 60 2 3 [S s2, V 27 1 0 1, S s2, V 26 1 0 2, S s2, V 28 1 0 2] false), some (vc 201 1 2 [V 30 1 0 2, V 29 1 0 2] false), some p15, some (vc 9 1 1 [S s3] false), some p25, some p27, some p18]⟩
def e53 (n : Int) : TE := ⟨18, [a12], w8, I 0, []⟩
def e54 (n : Int) : TE := ⟨18, [a12], w8, .tup [.agg [V 18 1 0 3, V 19 2 0 1], I 0], [some o18, some (vc 60 2 1 [S s2, V 20 1 0 2] false), some p25]⟩
def e56 (n : Int) : TE := ⟨0, [.ri .i64 (-9223372036854775808) 9223372036854775807 (n), I 6], [], I 3, []⟩
def e57 (n : Int) : TE := ⟨3, [.agg [V 0 1 0 3, V 1 2 0 1]], [some o18, some p24, some p25], I 0, []⟩
def e58 (n : Int) : TE := ⟨3, [D (.arr 4 3 (dxL [(ls [(sy s4), (ls [(sy s13), (sy s7)]), (sy s7)]), (ls [(sy s1), (sy s2), (sy s3), (sy s14)]), (ls [(sy s9), (sy s2), (ls [(sy s10), (sy s3)]), (num 1)])])), .agg [V 0 1 0 3, V 1 2 0 1]], [some o18, some p24, some p25], .tup [.agg [V 3 2 0 1, V 4 10 0 1, V 5 2 0 1], I 0, I 0], [some p13, some (vc 136 10 1 [S s13, C 6, I 0, I 0, S s0, aU, S s0, I 0, V 8 1 0 1, V 7 9 0 1] false), some p14, some p31, some o7, some (vc 9 1 1 [S s7] false), some o8]⟩
def e59 (n : Int) : TE := ⟨2, [.agg [V 0 1 0 4, V 1 2 0 1]], [some o26, some p1], I 0, []⟩
def e60 (n : Int) : TE := ⟨21, [.agg [V 0 4 0 10, J, V 1 3 0 1, J, J], .agg [S s2, V 2 2 0 4, V 3 1 0 3]], [some p32, some (vc 63 3 1 [S s2, V 2 2 0 4, V 3 1 0 3] false), some (vc 60 2 4 [S s2, V 16 1 0 1, S s2, V 15 1 0 2, S s2, V 17 1 0 2, S s2, V 14 1 0 2] false), some (vc 201 1 3 [V 19 1 0 2, V 18 1 0 2, V 20 1 0 2] false), some o10, some o10, some o10, some o10, some o2, some o2, some o2, some o10, some o2, some o10, some p31, some p15, some (vc 9 1 1 [S s3] false), some p25, some p27, some p18, some p33], .kb true, []⟩
def e61 (n : Int) : TE := ⟨4, [a13, a1], w9, .kb true, []⟩
def e62 (n : Int) : TE := ⟨4, [a13, a5], w10, .kb true, []⟩
def e63 (n : Int) : TE := ⟨4, [a13, a5], w9, .kb true, []⟩
def e64 (n : Int) : TE := ⟨4, [a13, a9], w10, .kb true, []⟩
def e65 (n : Int) : TE := ⟨4, [a13, a9], w9, .kb true, []⟩
def e66 (n : Int) : TE := ⟨23, [a14], [some p32, some o25, some p34, some o22, some o10, some o10, some o10, some o10, some o2, some o2, some o2, some o10, some o2, some o10, some p35, some p36, some p31, some p15, some (vc 9 1 1 [S s3] false), some p25, some p27, some p18, some p33], I 0, []⟩
def e67 (n : Int) : TE := ⟨1, [V 0 3 0 6], [some o30], .tup [.nm 1, .kb true], [some o31]⟩
def e68 (n : Int) : TE := ⟨1, [.agg [V 0 3 0 6, C 1000]], [some o30], I 0, []⟩
def e69 (n : Int) : TE := ⟨24, [a14, V 4 3 0 2, aU], [some (vc 140 4 10 [I 0, I 0, I 0, V 10 8 0 3, I 1, I 1, I 0, V 7 8 0 3, I 1, I 1, I 0, V 13 8 0 3, I 1, I 1, I 0, V 6 8 0 3, I 2, I 2, I 0, V 12 8 0 3, I 2, I 2, I 0, V 9 8 0 3, I 1, I 1, I 0, V 14 8 0 3, I 2, I 2, I 0, V 5 8 0 3, I 2, I 2, I 0, V 11 8 0 3, I 1, I 1, I 0, V 8 8 0 3] false), some o25, some (vc 63 3 1 [S s2, V 15 2 0 4, V 16 1 0 3] false), some o22, some o29, some o10, some o10, some o10, some o10, some o2, some o2, some o2, some o10, some o2, some o10, some (vc 60 2 4 [S s2, V 19 1 0 1, S s2, V 18 1 0 2, S s2, V 20 1 0 2, S s2, V 17 1 0 2] false), some (vc 201 1 3 [V 22 1 0 2, V 21 1 0 2, V 23 1 0 2] false), some p31, some p15, some (vc 9 1 1 [S s3] false), some p25, some p27, some p18, some p33], .tup [.agg [V 24 4 0 10, V 25 4 0 4, V 26 3 0 1, V 27 3 0 6, C 1000], .agg [C 5, C 4, S s0], I 0], [some (vc 140 4 10 [I 0, I 0, I 0, V 33 8 0 3, I 1, I 1, I 0, V 30 8 0 3, I 1, I 1, I 0, V 36 8 0 3, I 1, I 1, I 0, V 29 8 0 3, I 2, I 2, I 0, V 35 8 0 3, I 2, I 2, I 0, V 32 8 0 3, I 1, I 1, I 0, V 37 8 0 3, I 2, I 2, I 0, V 28 8 0 3, I 2, I 2, I 0, V 34 8 0 3, I 1, I 1, I 0, V 31 8 0 3] false), some o25, some (vc 63 3 1 [S s2, V 38 2 0 4, V 39 1 0 3] false), some o30, some o10, some o10, some o10, some o10, some o2, some o2, some o2, some o10, some o2, some o10, some (vc 60 2 4 [S s2, V 42 1 0 1, S s2, V 41 1 0 2, S s2, V 43 1 0 2, S s2, V 40 1 0 2] false), some (vc 201 1 3 [V 45 1 0 2, V 44 1 0 2, V 46 1 0 2] false), some p31, some p15, some (vc 9 1 1 [S s3] false), some p25, some p27, some p18, some p33]⟩
def e70 (n : Int) : TE := ⟨25, [a12, a11], [some (vc 140 4 7 [I 0, I 0, I 0, V 10 8 0 3, I 1, I 1, I 0, V 8 8 0 3, I 1, I 1, I 0, V 12 8 0 3, I 1, I 1, I 0, V 7 8 0 3, I 2, I 2, I 0, V 11 8 0 3, I 2, I 2, I 0, V 9 8 0 3, I 1, I 1, I 0, V 13 8 0 3] false), some o24, some (vc 63 3 1 [S s2, V 14 2 0 3, V 15 1 0 2] false), some o22, some (vc 60 2 1 [S s2, V 16 1 0 2] false), some (vc 136 10 1 [S s13, C 6, I 0, I 0, S s0, aU, S s0, I 0, V 18 1 0 1, V 17 9 0 1] false), some (vc 194 2 1 [S s2, V 19 9 0 2] false), some o10, some o10, some o2, some o2, some o10, some o2, some o10, some (vc 60 2 3 [S s2, V 21 1 0 1, S s2, V 20 1 0 2, S s2, V 22 1 0 2] false), some (vc 201 1 2 [V 24 1 0 2, V 23 1 0 2] false), some p31, some o7, some (vc 9 1 1 [S s7] false), some o8, some p15, some (vc 9 1 1 [S s3] false), some p25, some p27, some p18], .tup [.agg [V 25 4 0 10, V 26 4 0 4, V 27 3 0 1, V 28 3 0 6, C 1000], I 0], [some (vc 140 4 10 [I 0, I 0, I 0, V 34 8 0 3, I 1, I 1, I 0, V 31 8 0 3, I 1, I 1, I 0, V 37 8 0 3, I 1, I 1, I 0, V 30 8 0 3, I 2, I 2, I 0, V 36 8 0 3, I 2, I 2, I 0, V 33 8 0 3, I 1, I 1, I 0, V 38 8 0 3, I 2, I 2, I 0, V 29 8 0 3, I 2, I 2, I 0, V 35 8 0 3, I 1, I 1, I 0, V 32 8 0 3] false), some o32, some (vc 63 3 1 [S s2, V 39 2 0 4, V 40 1 0 3] false), some o30, some o10, some o10, some o10, some o10, some o2, some o2, some o2, some o10, some o2, some o10, some (vc 60 2 4 [S s2, V 43 1 0 1, S s2, V 42 1 0 2, S s2, V 44 1 0 2, S s2, V 41 1 0 2] false), some (vc 201 1 3 [V 46 1 0 2, V 45 1 0 2, V 47 1 0 2] false), some p31, some p15, some (vc 9 1 1 [S s3] false), some p25, some p27, some p18, some p33]⟩
def e71 (n : Int) : TE := ⟨18, [a12, .sy (s20 ++ aj 2 ++ s21 ++ aj 2 ++ s22)], w8, .tup [.agg [V 18 4 0 10, V 19 4 0 4, V 20 3 0 1, V 21 3 0 6, C 1000], I 0], [some (vc 140 4 10 [I 0, I 0, I 0, V 27 8 0 3, I 1, I 1, I 0, V 24 8 0 3, I 1, I 1, I 0, V 30 8 0 3, I 1, I 1, I 0, V 23 8 0 3, I 2, I 2, I 0, V 29 8 0 3, I 2, I 2, I 0, V 26 8 0 3, I 1, I 1, I 0, V 31 8 0 3, I 2, I 2, I 0, V 22 8 0 3, I 2, I 2, I 0, V 28 8 0 3, I 1, I 1, I 0, V 25 8 0 3] false), some o32, some (vc 63 3 1 [S s2, V 32 2 0 4, V 33 1 0 3] false), some o30, some o10, some o10, some o10, some o10, some o2, some o2, some o2, some o10, some o2, some o10, some (vc 60 2 4 [S s2, V 36 1 0 1, S s2, V 35 1 0 2, S s2, V 37 1 0 2, S s2, V 34 1 0 2] false), some (vc 201 1 3 [V 39 1 0 2, V 38 1 0 2, V 40 1 0 2] false), some p31, some p15, some (vc 9 1 1 [S s3] false), some p25, some p27, some p18, some p33]⟩
def e72 (n : Int) : TE := ⟨23, [a15], w11, I 0, []⟩
def e73 (n : Int) : TE := ⟨23, [a15], w11, .tup [.agg [V 23 1 0 4, V 24 2 0 1], I 0], [some o26, some (vc 60 2 1 [S s2, V 25 1 0 2] false), some p31]⟩
def e75 (n : Int) : TE := ⟨0, [.ri .i64 (-9223372036854775808) 9223372036854775807 (n), I 6], [], I 4, []⟩
def e76 (n : Int) : TE := ⟨3, [.agg [V 0 1 0 4, V 1 2 0 1]], [some o26, some p24, some p31], I 0, []⟩
def e77 (n : Int) : TE := ⟨3, [D (.arr 4 3 (dxL [(ls [(sy s4), (ls [(sy s15), (sy s7)]), (sy s7)]), (ls [(sy s1), (sy s2), (sy s3), (sy s16)]), (ls [(sy s9), (sy s2), (ls [(sy s10), (sy s3)]), (num 1)])])), .agg [V 0 1 0 4, V 1 2 0 1]], [some o26, some p24, some p31], .tup [.agg [V 3 2 0 1, V 4 10 0 1, V 5 2 0 1], I 0, I 0], [some p13, some (vc 136 10 1 [S s15, C 6, I 0, I 0, S s0, aU, S s0, I 0, V 8 1 0 1, V 7 9 0 1] false), some p14, some p37, some o7, some (vc 9 1 1 [S s7] false), some o8]⟩
def e78 (n : Int) : TE := ⟨2, [.agg [V 0 1 0 5, V 1 2 0 1]], [some o34, some p1], I 0, []⟩
def e79 (n : Int) : TE := ⟨26, [.agg [V 0 4 0 13, J, V 1 3 0 1, J, J], .agg [S s2, V 2 2 0 5, V 3 1 0 4]], [some p38, some (vc 63 3 1 [S s2, V 2 2 0 5, V 3 1 0 4] false), some (vc 60 2 5 [S s2, V 19 1 0 1, S s2, V 18 1 0 2, S s2, V 21 1 0 2, S s2, V 17 1 0 2, S s2, V 20 1 0 2] false), some (vc 201 1 4 [V 24 1 0 2, V 23 1 0 2, V 25 1 0 2, V 22 1 0 2] false), some o10, some o10, some o2, some o10, some o10, some o2, some o2, some o2, some o10, some o10, some o2, some o10, some o10, some p31, some p15, some (vc 9 1 1 [S s3] false), some p37, some p25, some p39, some p27, some p18, some p33], .kb true, []⟩
def e80 (n : Int) : TE := ⟨4, [a16, a1], w12, .kb true, []⟩
def e81 (n : Int) : TE := ⟨4, [a16, a5], w13, .kb true, []⟩
def e82 (n : Int) : TE := ⟨4, [a16, a5], w12, .kb true, []⟩
def e83 (n : Int) : TE := ⟨4, [a16, a9], w13, .kb true, []⟩
def e84 (n : Int) : TE := ⟨4, [a16, a9], w12, .kb true, []⟩
def e85 (n : Int) : TE := ⟨28, [a17], [some p38, some o33, some p40, some o30, some o10, some o10, some o2, some o10, some o10, some o2, some o2, some o2, some o10, some o10, some o2, some o10, some o10, some p41, some p42, some p31, some p15, some (vc 9 1 1 [S s3] false), some p37, some p25, some p39, some p27, some p18, some p33], I 0, []⟩
def e86 (n : Int) : TE := ⟨1, [V 0 3 0 8], [some o38], .tup [.nm 1, .kb true], [some o39]⟩
def e87 (n : Int) : TE := ⟨1, [.agg [V 0 3 0 8, C 1000]], [some o38], I 0, []⟩
def e88 (n : Int) : TE := ⟨29, [a17, V 4 3 0 2, aU], [some (vc 140 4 13 [I 0, I 0, I 0, V 11 8 0 3, I 1, I 1, I 0, V 8 8 0 3, I 1, I 1, I 0, V 15 8 0 3, I 1, I 1, I 0, V 6 8 0 3, I 2, I 2, I 0, V 13 8 0 3, I 2, I 2, I 0, V 10 8 0 3, I 1, I 1, I 0, V 17 8 0 3, I 2, I 2, I 0, V 5 8 0 3, I 2, I 2, I 0, V 12 8 0 3, I 1, I 1, I 0, V 9 8 0 3, I 2, I 2, I 0, V 16 8 0 3, I 2, I 2, I 0, V 7 8 0 3, I 1, I 1, I 0, V 14 8 0 3] false), some o33, some (vc 63 3 1 [S s2, V 18 2 0 5, V 19 1 0 4] false), some o30, some o37, some o10, some o10, some o2, some o10, some o10, some o2, some o2, some o2, some o10, some o10, some o2, some o10, some o10, some (vc 60 2 5 [S s2, V 22 1 0 1, S s2, V 21 1 0 2, S s2, V 24 1 0 2, S s2, V 20 1 0 2, S s2, V 23 1 0 2] false), some (vc 201 1 4 [V 27 1 0 2, V 26 1 0 2, V 28 1 0 2, V 25 1 0 2] false), some p31, some p15, some (vc 9 1 1 [S s3] false), some p37, some p25, some p39, some p27, some p18, some p33], .tup [.agg [V 29 4 0 13, V 30 4 0 5, V 31 3 0 1, V 32 3 0 8, C 1000], .agg [C 5, C 6, S s0], I 0], [some (vc 140 4 13 [I 0, I 0, I 0, V 39 8 0 3, I 1, I 1, I 0, V 36 8 0 3, I 1, I 1, I 0, V 43 8 0 3, I 1, I 1, I 0, V 34 8 0 3, I 2, I 2, I 0, V 41 8 0 3, I 2, I 2, I 0, V 38 8 0 3, I 1, I 1, I 0, V 45 8 0 3, I 2, I 2, I 0, V 33 8 0 3, I 2, I 2, I 0, V 40 8 0 3, I 1, I 1, I 0, V 37 8 0 3, I 2, I 2, I 0, V 44 8 0 3, I 2, I 2, I 0, V 35 8 0 3, I 1, I 1, I 0, V 42 8 0 3] false), some o33, some (vc 63 3 1 [S s2, V 46 2 0 5, V 47 1 0 4] false), some o38, some o10, some o10, some o2, some o10, some o10, some o2, some o2, some o2, some o10, some o10, some o2, some o10, some o10, some (vc 60 2 5 [S s2, V 50 1 0 1, S s2, V 49 1 0 2, S s2, V 52 1 0 2, S s2, V 48 1 0 2, S s2, V 51 1 0 2] false), some (vc 201 1 4 [V 55 1 0 2, V 54 1 0 2, V 56 1 0 2, V 53 1 0 2] false), some p31, some p15, some (vc 9 1 1 [S s3] false), some p37, some p25, some p39, some p27, some p18, some p33]⟩
def e89 (n : Int) : TE := ⟨30, [a15, a11], [some (vc 140 4 10 [I 0, I 0, I 0, V 12 8 0 3, I 1, I 1, I 0, V 9 8 0 3, I 1, I 1, I 0, V 15 8 0 3, I 1, I 1, I 0, V 8 8 0 3, I 2, I 2, I 0, V 14 8 0 3, I 2, I 2, I 0, V 11 8 0 3, I 1, I 1, I 0, V 16 8 0 3, I 2, I 2, I 0, V 7 8 0 3, I 2, I 2, I 0, V 13 8 0 3, I 1, I 1, I 0, V 10 8 0 3] false), some o32, some (vc 63 3 1 [S s2, V 17 2 0 4, V 18 1 0 3] false), some o30, some (vc 60 2 1 [S s2, V 19 1 0 2] false), some (vc 136 10 1 [S s15, C 6, I 0, I 0, S s0, aU, S s0, I 0, V 21 1 0 1, V 20 9 0 1] false), some (vc 194 2 1 [S s2, V 22 9 0 2] false), some o10, some o10, some o10, some o10, some o2, some o2, some o2, some o10, some o2, some o10, some (vc 60 2 4 [S s2, V 25 1 0 1, S s2, V 24 1 0 2, S s2, V 26 1 0 2, S s2, V 23 1 0 2] false), some (vc 201 1 3 [V 28 1 0 2, V 27 1 0 2, V 29 1 0 2] false), some p37, some o7, some (vc 9 1 1 [S s7] false), some o8, some p31, some p15, some (vc 9 1 1 [S s3] false), some p25, some p27, some p18, some p33], .tup [.agg [V 30 4 0 13, V 31 4 0 5, V 32 3 0 1, V 33 3 0 8, C 1000], I 0], [some (vc 140 4 13 [I 0, I 0, I 0, V 40 8 0 3, I 1, I 1, I 0, V 37 8 0 3, I 1, I 1, I 0, V 44 8 0 3, I 1, I 1, I 0, V 35 8 0 3, I 2, I 2, I 0, V 42 8 0 3, I 2, I 2, I 0, V 39 8 0 3, I 1, I 1, I 0, V 46 8 0 3, I 2, I 2, I 0, V 34 8 0 3, I 2, I 2, I 0, V 41 8 0 3, I 1, I 1, I 0, V 38 8 0 3, I 2, I 2, I 0, V 45 8 0 3, I 2, I 2, I 0, V 36 8 0 3, I 1, I 1, I 0, V 43 8 0 3] false), some o40, some (vc 63 3 1 [S s2, V 47 2 0 5, V 48 1 0 4] false), some o38, some o10, some o10, some o2, some o10, some o10, some o2, some o2, some o2, some o10, some o10, some o2, some o10, some o10, some (vc 60 2 5 [S s2, V 51 1 0 1, S s2, V 50 1 0 2, S s2, V 53 1 0 2, S s2, V 49 1 0 2, S s2, V 52 1 0 2] false), some (vc 201 1 4 [V 56 1 0 2, V 55 1 0 2, V 57 1 0 2, V 54 1 0 2] false), some p31, some p15, some (vc 9 1 1 [S s3] false), some p37, some p25, some p39, some p27, some p18, some p33]⟩
def e90 (n : Int) : TE := ⟨23, [a15, .sy (s20 ++ aj 3 ++ s21 ++ aj 3 ++ s22)], w11, .tup [.agg [V 23 4 0 13, V 24 4 0 5, V 25 3 0 1, V 26 3 0 8, C 1000], I 0], [some (vc 140 4 13 [I 0, I 0, I 0, V 33 8 0 3, I 1, I 1, I 0, V 30 8 0 3, I 1, I 1, I 0, V 37 8 0 3, I 1, I 1, I 0, V 28 8 0 3, I 2, I 2, I 0, V 35 8 0 3, I 2, I 2, I 0, V 32 8 0 3, I 1, I 1, I 0, V 39 8 0 3, I 2, I 2, I 0, V 27 8 0 3, I 2, I 2, I 0, V 34 8 0 3, I 1, I 1, I 0, V 31 8 0 3, I 2, I 2, I 0, V 38 8 0 3, I 2, I 2, I 0, V 29 8 0 3, I 1, I 1, I 0, V 36 8 0 3] false), some o40, some (vc 63 3 1 [S s2, V 40 2 0 5, V 41 1 0 4] false), some o38, some o10, some o10, some o2, some o10, some o10, some o2, some o2, some o2, some o10, some o10, some o2, some o10, some o10, some (vc 60 2 5 [S s2, V 44 1 0 1, S s2, V 43 1 0 2, S s2, V 46 1 0 2, S s2, V 42 1 0 2, S s2, V 45 1 0 2] false), some (vc 201 1 4 [V 49 1 0 2, V 48 1 0 2, V 50 1 0 2, V 47 1 0 2] false), some p31, some p15, some (vc 9 1 1 [S s3] false), some p37, some p25, some p39, some p27, some p18, some p33]⟩
def e91 (n : Int) : TE := ⟨28, [a18], w14, I 0, []⟩
def e92 (n : Int) : TE := ⟨28, [a18], w14, .tup [.agg [V 28 1 0 5, V 29 2 0 1], I 0], [some o34, some (vc 60 2 1 [S s2, V 30 1 0 2] false), some p37]⟩
def e94 (n : Int) : TE := ⟨0, [.ri .i64 (-9223372036854775808) 9223372036854775807 (n), I 6], [], I 5, []⟩
def e95 (n : Int) : TE := ⟨3, [.agg [V 0 1 0 5, V 1 2 0 1]], [some o34, some p24, some p37], I 0, []⟩
def e96 (n : Int) : TE := ⟨3, [D (.arr 4 3 (dxL [(ls [(sy s4), (ls [(sy s17), (sy s7)]), (sy s7)]), (ls [(sy s1), (sy s2), (sy s3), (sy s18)]), (ls [(sy s9), (sy s2), (ls [(sy s10), (sy s3)]), (num 1)])])), .agg [V 0 1 0 5, V 1 2 0 1]], [some o34, some p24, some p37], .tup [.agg [V 3 2 0 1, V 4 10 0 1, V 5 2 0 1], I 0, I 0], [some p13, some (vc 136 10 1 [S s17, C 6, I 0, I 0, S s0, aU, S s0, I 0, V 8 1 0 1, V 7 9 0 1] false), some p14, some p43, some o7, some (vc 9 1 1 [S s7] false), some o8]⟩
def e97 (n : Int) : TE := ⟨2, [.agg [V 0 1 0 6, V 1 2 0 1]], [some o42, some p1], I 0, []⟩
def e98 (n : Int) : TE := ⟨31, [.agg [V 0 4 0 16, J, V 1 3 0 1, J, J], .agg [S s2, V 2 2 0 6, V 3 1 0 5]], [some p44, some (vc 63 3 1 [S s2, V 2 2 0 6, V 3 1 0 5] false), some (vc 60 2 6 [S s2, V 23 1 0 1, S s2, V 21 1 0 2, S s2, V 25 1 0 2, S s2, V 20 1 0 2, S s2, V 24 1 0 2, S s2, V 22 1 0 2] false), some (vc 201 1 5 [V 28 1 0 2, V 27 1 0 2, V 30 1 0 2, V 26 1 0 2, V 29 1 0 2] false), some o10, some o10, some o10, some o2, some o10, some o10, some o2, some o10, some o2, some o2, some o10, some o10, some o2, some o10, some o10, some o2, some p31, some p15, some p43, some (vc 9 1 1 [S s3] false), some p37, some p25, some p39, some p27, some p18, some p45, some p33], .kb true, []⟩
def e99 (n : Int) : TE := ⟨4, [a19, a1], w15, .kb true, []⟩
def e100 (n : Int) : TE := ⟨4, [a19, a5], w16, .kb true, []⟩
def XC (n : Int) : TE := ⟨4, [a19, a5], w15, .kb true, []⟩
def XO (n : Int) : TE := ⟨4, [a19, a9], w16, .kb true, []⟩
def Yi (n : Int) : TE := ⟨4, [a19, a9], w15, .kb true, []⟩
def XP (n : Int) : TE := ⟨33, [a20], [some p44, some o41, some p46, some o38, some o10, some o10, some o10, some o2, some o10, some o10, some o2, some o10, some o2, some o2, some o10, some o10, some o2, some o10, some o10, some o2, some p47, some p48, some p31, some p15, some p43, some (vc 9 1 1 [S s3] false), some p37, some p25, some p39, some p27, some p18, some p45, some p33], I 0, []⟩
def XE (n : Int) : TE := ⟨1, [V 0 3 0 10], [some o46], .tup [.nm 1, .kb true], [some o47]⟩
def Xz (n : Int) : TE := ⟨1, [.agg [V 0 3 0 10, C 1000]], [some o46], I 0, []⟩
def Xq (n : Int) : TE := ⟨34, [a20, V 4 3 0 2, aU], [some (vc 140 4 16 [I 0, I 0, I 0, V 13 8 0 3, I 1, I 1, I 0, V 9 8 0 3, I 1, I 1, I 0, V 17 8 0 3, I 1, I 1, I 0, V 7 8 0 3, I 2, I 2, I 0, V 15 8 0 3, I 2, I 2, I 0, V 11 8 0 3, I 1, I 1, I 0, V 19 8 0 3, I 2, I 2, I 0, V 6 8 0 3, I 2, I 2, I 0, V 14 8 0 3, I 1, I 1, I 0, V 10 8 0 3, I 2, I 2, I 0, V 18 8 0 3, I 2, I 2, I 0, V 8 8 0 3, I 1, I 1, I 0, V 16 8 0 3, I 2, I 2, I 0, V 12 8 0 3, I 2, I 2, I 0, V 20 8 0 3, I 1, I 1, I 0, V 5 8 0 3] false), some o41, some (vc 63 3 1 [S s2, V 21 2 0 6, V 22 1 0 5] false), some o38, some o45, some o10, some o10, some o10, some o2, some o10, some o10, some o2, some o10, some o2, some o2, some o10, some o10, some o2, some o10, some o10, some o2, some (vc 60 2 6 [S s2, V 26 1 0 1, S s2, V 24 1 0 2, S s2, V 28 1 0 2, S s2, V 23 1 0 2, S s2, V 27 1 0 2, S s2, V 25 1 0 2] false), some (vc 201 1 5 [V 31 1 0 2, V 30 1 0 2, V 33 1 0 2, V 29 1 0 2, V 32 1 0 2] false), some p31, some p15, some p43, some (vc 9 1 1 [S s3] false), some p37, some p25, some p39, some p27, some p18, some p45, some p33], .tup [.agg [V 34 4 0 16, V 35 4 0 6, V 36 3 0 1, V 37 3 0 10, C 1000], .agg [C 5, C 8, S s0], I 0], [some (vc 140 4 16 [I 0, I 0, I 0, V 46 8 0 3, I 1, I 1, I 0, V 42 8 0 3, I 1, I 1, I 0, V 50 8 0 3, I 1, I 1, I 0, V 40 8 0 3, I 2, I 2, I 0, V 48 8 0 3, I 2, I 2, I 0, V 44 8 0 3, I 1, I 1, I 0, V 52 8 0 3, I 2, I 2, I 0, V 39 8 0 3, I 2, I 2, I 0, V 47 8 0 3, I 1, I 1, I 0, V 43 8 0 3, I 2, I 2, I 0, V 51 8 0 3, I 2, I 2, I 0, V 41 8 0 3, I 1, I 1, I 0, V 49 8 0 3, I 2, I 2, I 0, V 45 8 0 3, I 2, I 2, I 0, V 53 8 0 3, I 1, I 1, I 0, V 38 8 0 3] false), some o41, some (vc 63 3 1 [S s2, V 54 2 0 6, V 55 1 0 5] false), some o46, some o10, some o10, some o10, some o2, some o10, some o10, some o2, some o10, some o2, some o2, some o10, some o10, some o2, some o10, some o10, some o2, some (vc 60 2 6 [S s2, V 59 1 0 1, S s2, V 57 1 0 2, S s2, V 61 1 0 2, S s2, V 56 1 0 2, S s2, V 60 1 0 2, S s2, V 58 1 0 2] false), some (vc 201 1 5 [V 64 1 0 2, V 63 1 0 2, V 66 1 0 2, V 62 1 0 2, V 65 1 0 2] false), some p31, some p15, some p43, some (vc 9 1 1 [S s3] false), some p37, some p25, some p39, some p27, some p18, some p45, some p33]⟩
def e108 (n : Int) : TE := ⟨35, [a18, a11], [some (vc 140 4 13 [I 0, I 0, I 0, V 13 8 0 3, I 1, I 1, I 0, V 10 8 0 3, I 1, I 1, I 0, V 17 8 0 3, I 1, I 1, I 0, V 8 8 0 3, I 2, I 2, I 0, V 15 8 0 3, I 2, I 2, I 0, V 12 8 0 3, I 1, I 1, I 0, V 19 8 0 3, I 2, I 2, I 0, V 7 8 0 3, I 2, I 2, I 0, V 14 8 0 3, I 1, I 1, I 0, V 11 8 0 3, I 2, I 2, I 0, V 18 8 0 3, I 2, I 2, I 0, V 9 8 0 3, I 1, I 1, I 0, V 16 8 0 3] false), some o40, some (vc 63 3 1 [S s2, V 20 2 0 5, V 21 1 0 4] false), some o38, some (vc 60 2 1 [S s2, V 22 1 0 2] false), some (vc 136 10 1 [S s17, C 6, I 0, I 0, S s0, aU, S s0, I 0, V 24 1 0 1, V 23 9 0 1] false), some (vc 194 2 1 [S s2, V 25 9 0 2] false), some o10, some o10, some o2, some o10, some o10, some o2, some o2, some o2, some o10, some o10, some o2, some o10, some o10, some (vc 60 2 5 [S s2, V 28 1 0 1, S s2, V 27 1 0 2, S s2, V 30 1 0 2, S s2, V 26 1 0 2, S s2, V 29 1 0 2] false), some (vc 201 1 4 [V 33 1 0 2, V 32 1 0 2, V 34 1 0 2, V 31 1 0 2] false), some p43, some o7, some (vc 9 1 1 [S s7] false), some o8, some p31, some p15, some (vc 9 1 1 [S s3] false), some p37, some p25, some p39, some p27, some p18, some p33], .tup [.agg [V 35 4 0 16, V 36 4 0 6, V 37 3 0 1, V 38 3 0 10, C 1000], I 0], [some (vc 140 4 16 [I 0, I 0, I 0, V 47 8 0 3, I 1, I 1, I 0, V 43 8 0 3, I 1, I 1, I 0, V 51 8 0 3, I 1, I 1, I 0, V 41 8 0 3, I 2, I 2, I 0, V 49 8 0 3, I 2, I 2, I 0, V 45 8 0 3, I 1, I 1, I 0, V 53 8 0 3, I 2, I 2, I 0, V 40 8 0 3, I 2, I 2, I 0, V 48 8 0 3, I 1, I 1, I 0, V 44 8 0 3, I 2, I 2, I 0, V 52 8 0 3, I 2, I 2, I 0, V 42 8 0 3, I 1, I 1, I 0, V 50 8 0 3, I 2, I 2, I 0, V 46 8 0 3, I 2, I 2, I 0, V 54 8 0 3, I 1, I 1, I 0, V 39 8 0 3] false), some o48, some (vc 63 3 1 [S s2, V 55 2 0 6, V 56 1 0 5] false), some o46, some o10, some o10, some o10, some o2, some o10, some o10, some o2, some o10, some o2, some o2, some o10, some o10, some o2, some o10, some o10, some o2, some (vc 60 2 6 [S s2, V 60 1 0 1, S s2, V 58 1 0 2, S s2, V 62 1 0 2, S s2, V 57 1 0 2, S s2, V 61 1 0 2, S s2, V 59 1 0 2] false), some (vc 201 1 5 [V 65 1 0 2, V 64 1 0 2, V 67 1 0 2, V 63 1 0 2, V 66 1 0 2] false), some p31, some p15, some p43, some (vc 9 1 1 [S s3] false), some p37, some p25, some p39, some p27, some p18, some p45, some p33]⟩
def e109 (n : Int) : TE := ⟨28, [a18, .sy (s20 ++ aj 4 ++ s21 ++ aj 4 ++ s22)], w14, .tup [.agg [V 28 4 0 16, V 29 4 0 6, V 30 3 0 1, V 31 3 0 10, C 1000], I 0], [some (vc 140 4 16 [I 0, I 0, I 0, V 40 8 0 3, I 1, I 1, I 0, V 36 8 0 3, I 1, I 1, I 0, V 44 8 0 3, I 1, I 1, I 0, V 34 8 0 3, I 2, I 2, I 0, V 42 8 0 3, I 2, I 2, I 0, V 38 8 0 3, I 1, I 1, I 0, V 46 8 0 3, I 2, I 2, I 0, V 33 8 0 3, I 2, I 2, I 0, V 41 8 0 3, I 1, I 1, I 0, V 37 8 0 3, I 2, I 2, I 0, V 45 8 0 3, I 2, I 2, I 0, V 35 8 0 3, I 1, I 1, I 0, V 43 8 0 3, I 2, I 2, I 0, V 39 8 0 3, I 2, I 2, I 0, V 47 8 0 3, I 1, I 1, I 0, V 32 8 0 3] false), some o48, some (vc 63 3 1 [S s2, V 48 2 0 6, V 49 1 0 5] false), some o46, some o10, some o10, some o10, some o2, some o10, some o10, some o2, some o10, some o2, some o2, some o10, some o10, some o2, some o10, some o10, some o2, some (vc 60 2 6 [S s2, V 53 1 0 1, S s2, V 51 1 0 2, S s2, V 55 1 0 2, S s2, V 50 1 0 2, S s2, V 54 1 0 2, S s2, V 52 1 0 2] false), some (vc 201 1 5 [V 58 1 0 2, V 57 1 0 2, V 60 1 0 2, V 56 1 0 2, V 59 1 0 2] false), some p31, some p15, some p43, some (vc 9 1 1 [S s3] false), some p37, some p25, some p39, some p27, some p18, some p45, some p33]⟩
def Yh (n : Int) : TE := ⟨33, [a21], w17, I 0, []⟩
def WH (n : Int) : TE := ⟨33, [a21], w17, .tup [.agg [V 33 1 0 6, V 34 2 0 1], I 0], [some o42, some (vc 60 2 1 [S s2, V 35 1 0 2] false), some p43]⟩
end
theorem fx (n : Int) : (aj 0).size <= 3 /\ 0 < (aj 0).size /\ (aj 1).size <= 3 /\ 0 < (aj 1).size /\ (aj 2).size <= 3 /\ 0 < (aj 2).size /\ (aj 3).size <= 3 /\ 0 < (aj 3).size /\ (aj 4).size <= 3 /\ 0 < (aj 4).size := by
 refine ⟨oz (by omega) (by omega), tY (by omega) (by omega), oz (by omega) (by omega), tY (by omega) (by omega), oz (by omega) (by omega), tY (by omega) (by omega), oz (by omega) (by omega), tY (by omega) (by omega), oz (by omega) (by omega), tY (by omega) (by omega)⟩
end Gv.LEnvNow
