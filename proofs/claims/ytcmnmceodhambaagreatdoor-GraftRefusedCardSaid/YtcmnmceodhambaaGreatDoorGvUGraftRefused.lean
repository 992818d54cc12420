/- What the told parts of GraftRefused are made of. Printed by gvgen.py. -/
import Derived.Test.YtcmnmceodhambaaGreatDoorGvO
import Derived.Test.YtcmnmceodhambaaGreatDoorGvKGraftRefused
set_option linter.unusedVariables false
open Rx Go
namespace Gv.LGraftRefused
open Gv Rd
noncomputable section
def s1 : ByteArray := ⟨#[114, 101, 99, 111, 114, 100]⟩
def s2 : ByteArray := ⟨#[112]⟩
def s3 : ByteArray := ⟨#[97]⟩
def s4 : ByteArray := ⟨#[98]⟩
def s5 : ByteArray := ⟨#[100, 101, 102, 105, 110, 101]⟩
def s6 : ByteArray := ⟨#[120]⟩
def s7 : ByteArray := ⟨#[113, 117, 111, 116, 101]⟩
def s8 : ByteArray := ⟨#[102]⟩
def s9 : ByteArray := ⟨#[110]⟩
def s10 : ByteArray := ⟨#[117, 112, 103, 114, 97, 100, 101]⟩
def s11 : ByteArray := ⟨#[99, 97, 114]⟩
def s12 : ByteArray := ⟨#[119, 97, 115]⟩
def s13 : ByteArray := ⟨#[43]⟩
def s14 : ByteArray := ⟨#[122]⟩
def s15 : ByteArray := ⟨#[101, 114, 114, 111, 114]⟩
def s16 : ByteArray := ⟨#[108, 111, 111, 112]⟩
def s17 : ByteArray := ⟨#[113, 117, 111, 116, 105, 101, 110, 116]⟩
def s18 : ByteArray := ⟨#[40, 114, 101, 99, 111, 114, 100, 32, 112, 32, 97, 32, 98, 41, 32, 40, 100, 101, 102, 105, 110, 101, 32, 120, 32, 40, 112, 32, 49, 32, 39, 40, 50, 41, 41, 41, 32, 40, 100, 101, 102, 105, 110, 101, 32, 40, 102, 32, 110, 41, 32, 120, 41]⟩
def s19 : ByteArray := ⟨#[99, 111, 110, 115]⟩
theorem Z0 : s1.size = 6 := rfl
theorem ZY : s1.data.toList = [114, 101, 99, 111, 114, 100] := rfl
theorem ZV : s2.size = 1 := rfl
theorem Z4 : s2.data.toList = [112] := rfl
theorem aac : s3.size = 1 := rfl
theorem ZX : s3.data.toList = [97] := rfl
theorem aaf : s4.size = 1 := rfl
theorem ZT : s4.data.toList = [98] := rfl
theorem ZU : s5.size = 6 := rfl
theorem ZQ : s5.data.toList = [100, 101, 102, 105, 110, 101] := rfl
theorem ZR : s6.size = 1 := rfl
theorem Z5 : s6.data.toList = [120] := rfl
theorem aae : s7.size = 5 := rfl
theorem ZO : s7.data.toList = [113, 117, 111, 116, 101] := rfl
theorem Z9 : s8.size = 1 := rfl
theorem ZW : s8.data.toList = [102] := rfl
theorem ZP : s9.size = 1 := rfl
theorem Z8 : s9.data.toList = [110] := rfl
theorem Zz : s10.size = 7 := rfl
theorem ZK : s10.data.toList = [117, 112, 103, 114, 97, 100, 101] := rfl
theorem Zx : s11.size = 3 := rfl
theorem Zv : s11.data.toList = [99, 97, 114] := rfl
theorem ZM : s12.size = 3 := rfl
theorem ZA : s12.data.toList = [119, 97, 115] := rfl
theorem ZJ : s13.size = 1 := rfl
theorem ZB : s13.data.toList = [43] := rfl
theorem ZN : s14.size = 1 := rfl
theorem Zo : s14.data.toList = [122] := rfl
theorem ZH : s15.size = 5 := rfl
theorem Zn : s15.data.toList = [101, 114, 114, 111, 114] := rfl
theorem ZI : s16.size = 4 := rfl
theorem Zu : s16.data.toList = [108, 111, 111, 112] := rfl
theorem Zq : s17.size = 8 := rfl
theorem Zt : s17.data.toList = [113, 117, 111, 116, 105, 101, 110, 116] := rfl
theorem Zp : s18.size = 53 := rfl
theorem ZF : s18.data.toList = [40, 114, 101, 99, 111, 114, 100, 32, 112, 32, 97, 32, 98, 41, 32, 40, 100, 101, 102, 105, 110, 101, 32, 120, 32, 40, 112, 32, 49, 32, 39, 40, 50, 41, 41, 41, 32, 40, 100, 101, 102, 105, 110, 101, 32, 40, 102, 32, 110, 41, 32, 120, 41] := rfl
theorem ZL : s19.size = 4 := rfl
theorem ZC : s19.data.toList = [99, 111, 110, 115] := rfl
def o0 : Ob := vc 134 9 1 [C 3, I 0, I 0, S s0, ak, S s6, I 0, ak, ak] true
def o1 : Ob := vc 134 9 2 [C 1, C 1, C 1, S s0, D (.arr 4 0 (dxL [])), S s0, I 0, ak, ak, C 1, C 4, C 0, S s0, D (.arr 4 1 (dxL [(num 2)])), S s0, I 0, ak, ak] false
def o2 : Ob := vc 130 4 2 [S s6, C 3, I 0, S s0, S s8, C 3, I 0, S s0] false
def o3 : Ob := vc 200 8 3 [C 1, I 0, I 0, S s0, S s0, I 0, I 0, S s0, C 9, I 0, I 0, S s6, S s0, I 0, I 0, S s0, C 14, I 0, I 0, S s0, S s0, I 0, I 0, S s0] false
def o4 : Ob := vc 200 8 9 [C 1, I 0, I 0, S s0, S s0, I 0, I 0, S s0, C 1, I 0, I 0, S s0, S s0, I 0, I 0, S s0, C 2, I 0, I 0, S s0, S s0, C 1, C 1, S s0, C 1, I 0, I 0, S s0, S s0, I 0, I 0, S s0, C 2, I 0, I 0, S s0, S s0, C 1, C 2, S s0, C 2, I 0, I 0, S s0, S s0, C 3, I 0, S s0, C 18, C 2, I 0, S s19, S s0, I 0, I 0, S s0, C 19, C 2, I 0, S s2, S s0, I 0, I 0, S s0, C 14, I 0, I 0, S s0, S s0, I 0, I 0, S s0] false
def o5 : Ob := vc 140 4 2 [J, J, I 0, J, J, J, I 0, J] false
def o6 : Ob := vc 130 4 2 [S s6, J, J, J, S s8, J, J, J] false
def o7 : Ob := vc 126 3 2 [C 8, C 1, S s0, C 1, I 0, S s0] true
def o8 : Ob := vc 126 3 2 [C 8, C 1, S s0, C 1, I 0, S s0] false
def o9 : Ob := .mp (.int .i64) .bool [((0 : Int), true)]
def o10 : Ob := vc 130 4 2 [S s6, C 3, I 0, S s0, S s8, C 5, C 0, S s0] false
def o11 : Ob := .cells 282 [C 2, I 0, C 3, I 0, S s0, ak, ak]
def o12 : Ob := vc 126 3 10 [C 8, C 1, S s0, C 1, I 0, S s0, C 6, I 0, S s0, C 1, C 2, S s0, C 3, I 0, S s0, C 9, C 0, S s0, C 1, C 0, S s0, C 1, C 2, S s0, C 1, C 1, S s0, C 5, C 2, S s0] false
def o13 : Ob := vc 130 4 2 [S s6, C 5, C 5, S s0, S s8, C 5, C 0, S s0] false
def o14 : Ob := .mp (.int .i64) .bool [((0 : Int), true), ((2 : Int), true), ((5 : Int), true)]
def o15 : Ob := vc 140 4 3 [J, J, I 0, J, J, J, I 0, J, J, J, I 0, J] false
def o16 : Ob := vc 134 9 1 [C 15, I 0, I 0, S s0, ak, S s0, C 0, ak, ak] false
def o17 : Ob := vc 200 8 5 [C 1, I 0, I 0, S s0, S s0, I 0, I 0, S s0, C 1, I 0, I 0, S s0, S s0, I 0, I 0, S s0, C 3, C 0, I 0, S s0, S s0, I 0, I 0, S s0, C 18, C 1, I 0, S s11, S s0, I 0, I 0, S s0, C 14, I 0, I 0, S s0, S s0, I 0, I 0, S s0] false
def o18 : Ob := vc 130 4 2 [S s6, C 5, I 0, S s0, S s8, C 5, I 5, S s0] false
def o19 : Ob := vc 126 3 10 [C 9, C 0, S s0, C 1, C 0, S s0, C 1, C 2, S s0, C 1, C 1, S s0, C 5, I 7, S s0, C 8, C 1, S s0, C 1, I 0, S s0, C 6, I 0, S s0, C 1, C 2, S s0, C 3, I 0, S s0] false
def o20 : Ob := .mp (.int .i64) .bool [((0 : Int), true), ((5 : Int), true), ((7 : Int), true)]
def o21 : Ob := vc 126 3 2 [C 1, C 1, S s0, C 5, I 7, S s0] false
def o22 : Ob := vc 126 3 1 [C 5, C 0, S s0] true
def o23 : Ob := vc 134 9 2 [C 15, I 0, I 0, S s0, ak, S s0, C 1, ak, ak, C 1, C 1, C 1, S s0, D (.arr 4 0 (dxL [])), S s0, I 0, ak, ak] false
def o24 : Ob := vc 200 8 7 [C 1, I 0, I 0, S s0, S s0, I 0, I 0, S s0, C 1, I 0, I 0, S s0, S s0, I 0, I 0, S s0, C 3, C 1, I 0, S s0, S s0, I 0, I 0, S s0, C 1, I 0, I 0, S s0, S s0, I 0, I 0, S s0, C 2, I 0, I 0, S s0, S s0, C 1, C 1, S s0, C 18, C 2, I 0, S s13, S s0, I 0, I 0, S s0, C 14, I 0, I 0, S s0, S s0, I 0, I 0, S s0] false
def o25 : Ob := vc 134 9 1 [C 1, C 1, C 1, S s0, D (.arr 4 0 (dxL [])), S s0, I 0, ak, ak] false
def o26 : Ob := vc 130 4 3 [S s6, C 5, C 5, S s0, S s8, C 5, C 0, S s0, S s14, C 3, I 0, S s0] false
def o27 : Ob := vc 200 8 5 [C 1, I 0, I 0, S s0, S s0, I 0, I 0, S s0, C 1, I 0, I 0, S s0, S s0, I 0, I 0, S s0, C 2, I 0, I 0, S s0, S s0, C 1, C 1, S s0, C 18, C 1, I 0, S s11, S s0, I 0, I 0, S s0, C 14, I 0, I 0, S s0, S s0, I 0, I 0, S s0] false
def o28 : Ob := vc 9 1 3 [S s6, S s8, S s14] false
def o29 : Ob := vc 130 4 3 [S s6, J, J, J, S s8, J, J, J, S s14, J, J, J] false
def o30 : Ob := .cells 282 [C 3, I 0, C 3, I 0, S s0, ak, ak]
def o31 : Ob := vc 200 8 5 [C 1, I 0, I 0, S s0, S s0, I 0, I 0, S s0, C 1, I 0, I 0, S s0, S s0, I 0, I 0, S s0, C 2, I 0, I 0, S s0, S s0, C 1, C 1, S s0, C 18, C 1, I 0, S s15, S s0, I 0, I 0, S s0, C 14, I 0, I 0, S s0, S s0, I 0, I 0, S s0] false
def o32 : Ob := vc 134 9 1 [C 3, I 0, I 0, S s0, ak, S s8, I 0, ak, ak] false
def o33 : Ob := vc 200 8 4 [C 1, I 0, I 0, S s0, S s0, I 0, I 0, S s0, C 1, I 0, I 0, S s0, S s0, I 0, I 0, S s0, C 9, I 0, I 0, S s8, S s0, I 0, I 0, S s0, C 13, C 0, I 0, S s0, S s0, I 0, I 0, S s0] false
def o34 : Ob := vc 134 9 2 [C 3, I 0, I 0, S s0, ak, S s16, I 0, ak, ak, C 1, C 1, C 1, S s0, D (.arr 4 0 (dxL [])), S s0, I 0, ak, ak] false
def o35 : Ob := vc 134 9 2 [C 3, I 0, I 0, S s0, ak, S s16, I 0, ak, ak, C 2, I 0, I 0, S s0, ak, S s9, I 0, ak, ak] false
def o36 : Ob := vc 130 4 4 [S s6, C 5, C 5, S s0, S s8, C 5, C 0, S s0, S s16, C 3, I 0, S s0, S s14, C 3, I 0, S s0] false
def o37 : Ob := vc 200 8 6 [C 1, I 0, I 0, S s0, S s0, I 0, I 0, S s0, C 1, I 0, I 0, S s0, S s0, I 0, I 0, S s0, C 9, I 0, I 0, S s16, S s0, I 0, I 0, S s0, C 1, I 0, I 0, S s0, S s0, I 0, I 0, S s0, C 2, I 0, I 0, S s0, S s0, C 1, C 1, S s0, C 13, C 1, I 0, S s0, S s0, I 0, I 0, S s0] false
def o38 : Ob := vc 200 8 6 [C 1, I 0, I 0, S s0, S s0, I 0, I 0, S s0, C 1, I 0, I 0, S s0, S s0, I 0, I 0, S s0, C 9, I 0, I 0, S s16, S s0, I 0, I 0, S s0, C 1, I 0, I 0, S s0, S s0, I 0, I 0, S s0, C 3, C 0, I 0, S s0, S s0, I 0, I 0, S s0, C 13, C 1, I 0, S s0, S s0, I 0, I 0, S s0] false
def o39 : Ob := vc 9 1 4 [S s6, S s8, S s16, S s14] false
def o40 : Ob := vc 140 4 4 [J, J, I 0, J, J, J, I 0, J, J, J, I 0, J, J, J, I 0, J] false
def o41 : Ob := vc 130 4 4 [S s6, J, J, J, S s8, J, J, J, S s16, J, J, J, S s14, J, J, J] false
def o42 : Ob := vc 126 3 2 [C 8, C 2, S s0, C 1, I 0, S s0] true
def o43 : Ob := vc 126 3 12 [C 8, C 1, S s0, C 1, I 0, S s0, C 6, I 0, S s0, C 1, C 2, S s0, C 3, I 0, S s0, C 9, C 0, S s0, C 1, C 0, S s0, C 1, C 2, S s0, C 1, C 1, S s0, C 5, C 2, S s0, C 8, C 2, S s0, C 1, I 0, S s0] false
def o44 : Ob := .mp (.int .i64) .bool [((0 : Int), true), ((2 : Int), true), ((5 : Int), true), ((10 : Int), true)]
def o45 : Ob := vc 130 4 4 [S s6, C 5, C 5, S s0, S s8, C 5, C 0, S s0, S s16, C 5, C 10, S s0, S s14, C 3, I 0, S s0] false
def o46 : Ob := .cells 282 [C 4, I 0, C 3, I 0, S s0, ak, ak]
def o47 : Ob := vc 200 8 5 [C 1, I 0, I 0, S s0, S s0, I 0, I 0, S s0, C 1, I 0, I 0, S s0, S s0, I 0, I 0, S s0, C 3, C 0, I 0, S s0, S s0, I 0, I 0, S s0, C 18, C 1, I 0, S s15, S s0, I 0, I 0, S s0, C 14, I 0, I 0, S s0, S s0, I 0, I 0, S s0] false
def o48 : Ob := vc 134 9 2 [C 15, I 0, I 0, S s0, ak, S s0, C 0, ak, ak, C 1, C 1, C 0, S s0, D (.arr 4 0 (dxL [])), S s0, I 0, ak, ak] false
def o49 : Ob := vc 200 8 7 [C 1, I 0, I 0, S s0, S s0, I 0, I 0, S s0, C 1, I 0, I 0, S s0, S s0, I 0, I 0, S s0, C 3, C 0, I 0, S s0, S s0, I 0, I 0, S s0, C 1, I 0, I 0, S s0, S s0, I 0, I 0, S s0, C 2, I 0, I 0, S s0, S s0, C 1, C 0, S s0, C 18, C 2, I 0, S s17, S s0, I 0, I 0, S s0, C 14, I 0, I 0, S s0, S s0, I 0, I 0, S s0] false
def p0 : Ob := vc 60 2 1 [S s2, V 2 1 0 2] false
def p1 : Ob := vc 136 10 2 [S s6, C 11, I 0, I 0, S s0, ak, S s2, I 0, ak, V 4 9 0 2, S s8, C 6, I 0, I 0, S s0, ak, S s0, I 0, V 5 1 0 1, V 3 9 0 1] false
def p2 : Ob := vc 9 1 2 [S s3, S s4] false
def p3 : Ob := vc 9 1 2 [S s6, S s8] false
def p4 : Ob := vc 60 2 1 [S s2, ak] false
def p5 : Ob := vc 140 4 2 [I 0, I 0, I 0, V 4 8 0 9, I 1, I 1, I 0, V 3 8 0 3] false
def p6 : Ob := vc 63 3 1 [S s2, V 2 2 0 1, ak] false
def p7 : Ob := vc 63 3 1 [S s2, J, J] false
def p8 : Ob := vc 140 4 2 [I 0, I 0, I 0, V 5 8 0 9, I 1, I 1, I 0, V 4 8 0 3] false
def p9 : Ob := vc 63 3 1 [S s2, V 6 2 0 1, ak] false
def p10 : Ob := vc 63 3 1 [S s2, V 14 2 0 1, ak] false
def p11 : Ob := vc 60 2 1 [S s2, V 15 1 0 2] false
def p12 : Ob := vc 60 2 1 [S s2, V 7 1 0 2] false
def p13 : Ob := vc 140 4 3 [I 0, I 0, I 0, V 5 8 0 9, I 1, I 1, I 0, V 4 8 0 3, I 0, I 0, I 0, V 6 8 0 9] false
def p14 : Ob := vc 63 3 1 [S s2, V 7 2 0 1, ak] false
def p15 : Ob := vc 60 2 1 [S s2, V 8 1 0 2] false
def p16 : Ob := vc 60 2 1 [S s2, V 6 1 0 2] false
def p17 : Ob := vc 140 4 3 [I 0, I 0, I 0, V 6 8 0 9, I 1, I 1, I 0, V 5 8 0 3, I 0, I 0, I 0, V 7 8 0 9] false
def p18 : Ob := vc 63 3 1 [S s2, V 8 2 0 1, ak] false
def p19 : Ob := vc 60 2 1 [S s2, V 10 1 0 2] false
def p20 : Ob := vc 60 2 1 [S s2, V 5 1 0 1] false
def p21 : Ob := vc 194 2 1 [S s2, V 6 9 0 1] false
def p22 : Ob := vc 140 4 3 [I 0, I 0, I 0, V 5 8 0 9, I 1, I 1, I 0, V 4 8 0 3, I 2, I 2, I 0, V 6 8 0 5] false
def p23 : Ob := vc 63 3 1 [S s2, V 2 2 0 2, V 3 1 0 1] false
def p24 : Ob := vc 60 2 2 [S s2, V 8 1 0 2, S s2, V 7 1 0 1] false
def p25 : Ob := vc 201 1 1 [V 9 1 0 1] false
def p26 : Ob := vc 63 3 1 [S s2, V 7 2 0 2, V 8 1 0 1] false
def p27 : Ob := vc 60 2 2 [S s2, V 10 1 0 2, S s2, V 9 1 0 1] false
def p28 : Ob := vc 201 1 1 [V 11 1 0 1] false
def p29 : Ob := vc 140 4 3 [I 0, I 0, I 0, V 7 8 0 9, I 1, I 1, I 0, V 6 8 0 3, I 0, I 0, I 0, V 8 8 0 9] false
def p30 : Ob := vc 63 3 1 [S s2, V 9 2 0 1, ak] false
def p31 : Ob := vc 60 2 1 [S s2, V 10 1 0 1] false
def p32 : Ob := vc 194 2 1 [S s2, V 11 9 0 1] false
def p33 : Ob := vc 60 2 1 [S s2, V 12 1 0 2] false
def p34 : Ob := vc 140 4 3 [I 0, I 0, I 0, V 5 8 0 9, I 1, I 1, I 0, V 4 8 0 3, I 2, I 2, I 0, V 6 8 0 7] false
def p35 : Ob := vc 140 4 3 [I 0, I 0, I 0, V 4 8 0 9, I 1, I 1, I 0, V 3 8 0 3, I 0, I 0, I 0, V 5 8 0 5] false
def p36 : Ob := vc 140 4 3 [I 0, I 0, I 0, V 5 8 0 9, I 1, I 1, I 0, V 4 8 0 3, I 0, I 0, I 0, V 6 8 0 5] false
def p37 : Ob := vc 140 4 3 [I 0, I 0, I 0, V 6 8 0 9, I 1, I 1, I 0, V 5 8 0 3, I 0, I 0, I 0, V 4 8 0 5] false
def p38 : Ob := vc 140 4 4 [I 0, I 0, I 0, V 6 8 0 9, I 1, I 1, I 0, V 5 8 0 3, I 1, I 1, I 0, V 7 8 0 6, I 0, I 0, I 0, V 4 8 0 6] false
def p39 : Ob := vc 60 2 1 [S s2, V 9 1 0 2] false
def a0 : SV := .agg [ak, ak, ak, ak, C 500]
def a1 : SV := .agg [V 0 4 0 2, J, V 1 3 0 1, J, J]
def a2 : SV := .agg [V 0 4 0 2, V 1 4 0 2, V 2 3 0 1, J, J]
def a3 : SV := .agg [I 0, I 0, I 0, V 3 8 0 9]
def a4 : SV := .agg [I 1, I 1, I 0, V 3 8 0 3]
def a5 : SV := .agg [V 0 4 0 2, V 1 4 0 2, V 2 3 0 1, ak, C 500]
def a6 : SV := .agg [V 0 4 0 2, V 1 4 0 2, V 2 3 0 1, V 3 3 0 2, C 500]
def a7 : SV := .agg [.sl 0 4 0 2 (some 2), V 1 4 0 2, V 2 3 0 1, J, J]
def a8 : SV := .agg [.sl 0 4 0 2 (some 2), V 1 4 0 2, V 2 3 0 1, V 3 3 0 10, C 500]
def a9 : SV := .agg [V 0 4 0 3, J, V 1 3 0 1, J, J]
def a10 : SV := .agg [S s2, V 2 2 0 2, V 3 1 0 1]
def a11 : SV := .agg [V 0 4 0 3, V 1 4 0 2, V 2 3 0 1, J, J]
def a12 : SV := .agg [I 2, I 2, I 0, V 3 8 0 5]
def a13 : SV := .agg [V 0 4 0 3, V 1 4 0 2, V 2 3 0 1, V 3 3 0 10, C 500]
def a14 : SV := .agg [V 4 2 0 1, ak, V 5 2 0 1]
def a15 : SV := .agg [I 2, I 2, I 0, V 3 8 0 7]
def a16 : SV := .agg [V 0 4 0 3, V 1 4 0 3, V 2 3 0 1, J, J]
def a17 : SV := .agg [I 0, I 0, I 0, V 3 8 0 5]
def a18 : SV := .agg [V 0 4 0 3, V 1 4 0 3, V 2 3 0 1, V 3 3 0 10, C 500]
def a19 : SV := .agg [I 0, I 0, I 0, V 4 8 0 5]
def a20 : SV := .agg [ak, V 4 10 0 1, ak]
def a21 : SV := .agg [V 0 4 0 4, V 1 4 0 4, V 2 3 0 1, J, J]
def a22 : SV := .agg [V 0 4 0 4, V 1 4 0 4, V 2 3 0 1, V 3 3 0 10, C 500]
def w0 : List (Option Ob) := [some p0, some p1, some p2, some o0, some o1, some (vc 9 1 1 [S s9] false)]
def w1 : List (Option Ob) := [some p13, some o13, some p14, some o12, some o3, some o4, some o4, some p15, some p2]
def w2 : List (Option Ob) := [some o15, some o6, some p7, some o4]
def w3 : List (Option Ob) := [some o15, some o6, some p7, some o3]
def w4 : List (Option Ob) := [some p22, some o18, some p26, some o19, some o3, some o4, some o17, some p27, some p28, some (vc 9 1 1 [S s3] false), some p2, some (vc 3 1 1 [I 2] false)]
def w5 : List (Option Ob) := [some p34, some o18, some p26, some o19, some o3, some o4, some o24, some p27, some p28, some (vc 9 1 1 [S s3] false), some p2, some (vc 3 1 1 [I 2] false)]
def w6 : List (Option Ob) := [some p22, some o18, some p26, some o19, some o3, some o4, some o47, some p27, some p28, some (vc 9 1 1 [S s3] false), some p2, some (vc 3 1 1 [I 2] false)]
def w7 : List (Option Ob) := [some p34, some o18, some p26, some o19, some o3, some o4, some o49, some p27, some p28, some (vc 9 1 1 [S s3] false), some p2, some (vc 3 1 1 [I 2] false)]
def e0 (n : Int) : TE := ⟨0, [ak], [], .tup [.nm 0, .kb true], [some (.mp (.int .i64) .bool [])]⟩
def e1 (n : Int) : TE := ⟨0, [.agg [ak, C 500]], [], I 0, []⟩
def e2 (n : Int) : TE := ⟨0, [.agg [ak, ak]], [], I 0, []⟩
def e3 (n : Int) : TE := ⟨0, [a0], [], I 0, []⟩
def e4 (n : Int) : TE := ⟨0, [a0], [], .tup [.agg [ak, ak], I 0], []⟩
def e5 (n : Int) : TE := ⟨0, [D (.arr 4 3 (dxL [(ls [(sy s1), (sy s2), (sy s3), (sy s4)]), (ls [(sy s5), (sy s6), (ls [(sy s2), (num 1), (ls [(sy s7), (ls [(num 2)])])])]), (ls [(sy s5), (ls [(sy s8), (sy s9)]), (sy s6)])])), .agg [ak, ak]], [], .tup [.agg [V 0 2 0 1, V 1 10 0 2, ak], I 0, I 0], w0⟩
def e6 (n : Int) : TE := ⟨2, [.agg [V 0 1 0 2, V 1 2 0 1]], [some p3, some p4], I 0, []⟩
def e7 (n : Int) : TE := ⟨6, [a1, .agg [S s2, V 2 2 0 1, ak]], [some p5, some p6, some (vc 60 2 1 [S s2, V 5 1 0 2] true), some o3, some o4, some p2], .kb true, []⟩
def e8 (n : Int) : TE := ⟨0, [.agg [ak, C 50]], [], I 0, []⟩
def e9 (n : Int) : TE := ⟨4, [a2, a3], [some o5, some o6, some p7, some o4], .kb true, []⟩
def e10 (n : Int) : TE := ⟨4, [a2, a4], [some o5, some o6, some p7, some o3], .kb true, []⟩
def e11 (n : Int) : TE := ⟨7, [a5], [some p5, some o2, some (vc 63 3 1 [S s2, V 5 2 0 1, ak] false), some o3, some o4, some (vc 60 2 1 [S s2, V 6 1 0 2] true), some p2], I 0, []⟩
def e12 (n : Int) : TE := ⟨1, [V 0 3 0 2], [some o8], .tup [.nm 1, .kb true], [some o9]⟩
def e13 (n : Int) : TE := ⟨1, [.agg [V 0 3 0 2, C 500]], [some o8], I 0, []⟩
def e14 (n : Int) : TE := ⟨8, [a5, V 3 3 0 2, ak], [some p8, some o2, some p9, some o7, some o3, some o4, some (vc 60 2 1 [S s2, V 7 1 0 2] true), some p2], .tup [.agg [V 8 4 0 2, V 9 4 0 2, V 10 3 0 1, V 11 3 0 2, C 500], .agg [C 5, C 0, S s0], I 0], [some (vc 140 4 2 [I 0, I 0, I 0, V 13 8 0 9, I 1, I 1, I 0, V 12 8 0 3] false), some o2, some p10, some o8, some o3, some o4, some p11, some p2]⟩
def e15 (n : Int) : TE := ⟨6, [a1, .agg [S s2, V 2 2 0 1, ak]], [some p5, some p6, some (vc 60 2 1 [S s2, V 5 1 0 2] false), some o3, some o4, some p2], .kb true, []⟩
def e16 (n : Int) : TE := ⟨8, [a6], [some p8, some o10, some p9, some o8, some o3, some o4, some p12, some p2], I 0, []⟩
def e17 (n : Int) : TE := ⟨8, [a6, .agg [I 0, I 0, I 0, V 4 8 0 9], I 20000], [some (vc 140 4 2 [I 0, I 0, I 0, V 4 8 0 9, I 1, I 1, I 0, V 5 8 0 3] false), some o10, some p9, some o8, some o4, some o3, some p12, some p2], .tup [.agg [.sl 8 4 0 2 (some 2), V 9 4 0 2, V 10 3 0 1, V 11 3 0 10, C 500], .agg [C 5, C 5, S s0], I 0], [some (vc 140 4 3 [I 0, I 0, I 0, V 13 8 0 9, I 1, I 1, I 0, V 12 8 0 3, I 0, I 0, I 0, V 4 8 0 9] false), some o10, some p10, some o12, some o3, some o4, some p11, some p2]⟩
def e18 (n : Int) : TE := ⟨6, [a0, .agg [V 0 2 0 1, V 1 10 0 2, ak]], w0, .tup [.agg [.sl 6 4 0 2 (some 2), V 7 4 0 2, V 8 3 0 1, V 9 3 0 10, C 500], I 0], [some (vc 140 4 3 [I 0, I 0, I 0, V 11 8 0 9, I 1, I 1, I 0, V 10 8 0 3, I 0, I 0, I 0, V 12 8 0 9] false), some o13, some (vc 63 3 1 [S s2, V 13 2 0 1, ak] false), some o12, some o3, some o4, some o4, some (vc 60 2 1 [S s2, V 14 1 0 2] false), some p2]⟩
def e19 (n : Int) : TE := ⟨0, [a0, S s18], [], .tup [.agg [.sl 0 4 0 2 (some 2), V 1 4 0 2, V 2 3 0 1, V 3 3 0 10, C 500], I 0], w1⟩
def e20 (n : Int) : TE := ⟨0, [.ri .i64 (-9223372036854775808) 9223372036854775807 (n), I 9], [], I 0, []⟩
def e21 (n : Int) : TE := ⟨1, [V 0 3 0 10], [some o12], .tup [.nm 1, .kb true], [some o14]⟩
def e22 (n : Int) : TE := ⟨1, [.agg [V 0 3 0 10, C 500]], [some o12], I 0, []⟩
def e23 (n : Int) : TE := ⟨7, [.agg [.sl 0 4 0 2 (some 2), J, V 1 3 0 1, J, J], .agg [S s2, V 2 2 0 1, ak]], [some (vc 140 4 3 [I 0, I 0, I 0, V 4 8 0 9, I 1, I 1, I 0, V 3 8 0 3, I 0, I 0, I 0, V 5 8 0 9] false), some p6, some p16, some o3, some o4, some o4, some p2], .kb true, []⟩
def e24 (n : Int) : TE := ⟨4, [a7, a3], w2, .kb true, []⟩
def e25 (n : Int) : TE := ⟨4, [a7, a4], w3, .kb true, []⟩
def e26 (n : Int) : TE := ⟨9, [a8], w1, I 0, []⟩
def e27 (n : Int) : TE := ⟨9, [a8], w1, .tup [.agg [V 9 1 0 2, V 10 2 0 1], I 0], [some p3, some (vc 60 2 1 [S s2, V 11 1 0 2] false), some p2]⟩
def e28 (n : Int) : TE := ⟨3, [.agg [V 0 1 0 2, V 1 2 0 1]], [some p3, some p0, some p2], I 0, []⟩
def e29 (n : Int) : TE := ⟨3, [D (.arr 4 1 (dxL [(ls [(sy s1), (sy s2), (sy s3)])])), .agg [V 0 1 0 2, V 1 2 0 1]], [some p3, some p0, some p2], .tup [.agg [V 3 2 0 1, ak, ak], I 0, I 0], [some (vc 60 2 1 [S s2, V 4 1 0 1] false), some (vc 9 1 1 [S s3] false)]⟩
def e30 (n : Int) : TE := ⟨11, [a8, .agg [V 4 2 0 1, ak, ak]], [some p17, some o13, some p18, some o12, some (vc 60 2 1 [S s2, V 9 1 0 1] false), some o3, some o4, some o4, some p19, some (vc 9 1 1 [S s3] false), some p2], .tup [.agg [ak, ak, ak, ak, I 0], I 6], []⟩
def e32 (n : Int) : TE := ⟨0, [.ri .i64 (-9223372036854775808) 9223372036854775807 (n), I 9], [], I 1, []⟩
def e33 (n : Int) : TE := ⟨3, [D (.arr 4 2 (dxL [(ls [(sy s1), (sy s2), (sy s3)]), (ls [(sy s10), (sy s2), (ls [(sy s11), (ls [(sy s12), (sy s3)])])])])), .agg [V 0 1 0 2, V 1 2 0 1]], [some p3, some p0, some p2], .tup [.agg [V 3 2 0 1, ak, V 4 2 0 1], I 0, I 0], [some p20, some p21, some (vc 9 1 1 [S s3] false), some (vc 134 9 1 [C 10, I 0, I 0, S s0, ak, S s11, I 0, ak, V 7 9 0 1] false), some o16]⟩
def e34 (n : Int) : TE := ⟨10, [a9, a10], [some p22, some p23, some p24, some p25, some o3, some o4, some o17, some (vc 9 1 1 [S s3] false), some p2, some (vc 3 1 1 [I 2] false)], .kb true, []⟩
def e35 (n : Int) : TE := ⟨4, [a11, a3], w2, .kb true, []⟩
def e36 (n : Int) : TE := ⟨4, [a11, a4], w3, .kb true, []⟩
def e37 (n : Int) : TE := ⟨4, [a11, a12], [some o15, some o6, some p7, some o17], .kb true, []⟩
def e38 (n : Int) : TE := ⟨12, [a13], [some p22, some o13, some p26, some o12, some o3, some o4, some o17, some p27, some p28, some (vc 9 1 1 [S s3] false), some p2, some (vc 3 1 1 [I 2] false)], I 0, []⟩
def e39 (n : Int) : TE := ⟨1, [V 0 3 0 10], [some o19], .tup [.nm 1, .kb true], [some o20]⟩
def e40 (n : Int) : TE := ⟨1, [.agg [V 0 3 0 10, C 500]], [some o19], I 0, []⟩
def e41 (n : Int) : TE := ⟨12, [a13], w4, I 0, []⟩
def e42 (n : Int) : TE := ⟨12, [a13, .agg [C 5, C 0, S s0]], w4, .tup [.agg [ak, ak, ak, ak, I 0], .agg [I 0, I 0, S s0], I 3], []⟩
def e43 (n : Int) : TE := ⟨14, [a8, a14], [some p29, some o13, some p30, some o12, some p31, some p32, some o3, some o4, some o4, some p33, some (vc 9 1 1 [S s3] false), some (vc 134 9 1 [C 10, I 0, I 0, S s0, ak, S s11, I 0, ak, V 13 9 0 1] false), some p2, some o16], .tup [.agg [ak, ak, ak, ak, I 0], I 3], []⟩
def e45 (n : Int) : TE := ⟨0, [.ri .i64 (-9223372036854775808) 9223372036854775807 (n), I 9], [], I 2, []⟩
def e46 (n : Int) : TE := ⟨3, [D (.arr 4 2 (dxL [(ls [(sy s1), (sy s2), (sy s3)]), (ls [(sy s10), (sy s2), (ls [(sy s13), (ls [(sy s12), (sy s4)]), (num 1)])])])), .agg [V 0 1 0 2, V 1 2 0 1]], [some p3, some p0, some p2], .tup [.agg [V 3 2 0 1, ak, V 4 2 0 1], I 0, I 0], [some p20, some p21, some (vc 9 1 1 [S s3] false), some (vc 134 9 1 [C 10, I 0, I 0, S s0, ak, S s13, I 0, ak, V 7 9 0 2] false), some o23]⟩
def e47 (n : Int) : TE := ⟨10, [a9, a10], [some p34, some p23, some p24, some p25, some o3, some o4, some o24, some (vc 9 1 1 [S s3] false), some p2, some (vc 3 1 1 [I 2] false)], .kb true, []⟩
def e48 (n : Int) : TE := ⟨4, [a11, a15], [some o15, some o6, some p7, some o24], .kb true, []⟩
def e49 (n : Int) : TE := ⟨12, [a13], [some p34, some o13, some p26, some o12, some o3, some o4, some o24, some p27, some p28, some (vc 9 1 1 [S s3] false), some p2, some (vc 3 1 1 [I 2] false)], I 0, []⟩
def e50 (n : Int) : TE := ⟨12, [a13], w5, I 0, []⟩
def e51 (n : Int) : TE := ⟨12, [a13, .agg [C 5, C 0, S s0]], w5, .tup [.agg [ak, ak, ak, ak, I 0], .agg [I 0, I 0, S s0], I 3], []⟩
def e52 (n : Int) : TE := ⟨14, [a8, a14], [some p29, some o13, some p30, some o12, some p31, some p32, some o3, some o4, some o4, some p33, some (vc 9 1 1 [S s3] false), some (vc 134 9 1 [C 10, I 0, I 0, S s0, ak, S s13, I 0, ak, V 13 9 0 2] false), some p2, some o23], .tup [.agg [ak, ak, ak, ak, I 0], I 3], []⟩
def e54 (n : Int) : TE := ⟨0, [.ri .i64 (-9223372036854775808) 9223372036854775807 (n), I 9], [], I 3, []⟩
def e55 (n : Int) : TE := ⟨3, [D (.arr 4 1 (dxL [(ls [(sy s5), (sy s14), (ls [(sy s11), (num 1)])])])), .agg [V 0 1 0 2, V 1 2 0 1]], [some p3, some p0, some p2], .tup [.agg [ak, V 3 10 0 1, ak], I 0, I 0], [some (vc 136 10 1 [S s14, C 10, I 0, I 0, S s0, ak, S s11, I 0, ak, V 4 9 0 1] false), some o25]⟩
def e56 (n : Int) : TE := ⟨2, [.agg [V 0 1 0 3, V 1 2 0 1]], [some o28, some p4], I 0, []⟩
def e57 (n : Int) : TE := ⟨7, [a9, .agg [S s2, V 2 2 0 1, ak]], [some p35, some p6, some p16, some o3, some o4, some o27, some p2], .kb true, []⟩
def e58 (n : Int) : TE := ⟨4, [a16, a3], [some o15, some o29, some p7, some o4], .kb true, []⟩
def e59 (n : Int) : TE := ⟨4, [a16, a4], [some o15, some o29, some p7, some o3], .kb true, []⟩
def e60 (n : Int) : TE := ⟨4, [a16, a17], [some o15, some o29, some p7, some o27], .kb true, []⟩
def e61 (n : Int) : TE := ⟨9, [a18], [some p36, some o26, some p14, some o12, some o3, some o4, some o27, some p15, some p2], I 0, []⟩
def e62 (n : Int) : TE := ⟨9, [a18, a19, I 20000], [some p37, some o26, some p14, some o12, some o27, some o3, some o4, some p15, some p2], .tup [.agg [ak, ak, ak, ak, I 0], .agg [I 0, I 0, S s0], I 3], []⟩
def e63 (n : Int) : TE := ⟨11, [a8, a20], [some p17, some o13, some p18, some o12, some (vc 136 10 1 [S s14, C 10, I 0, I 0, S s0, ak, S s11, I 0, ak, V 9 9 0 1] false), some o3, some o4, some o4, some p19, some o25, some p2], .tup [.agg [ak, ak, ak, ak, I 0], I 3], []⟩
def e65 (n : Int) : TE := ⟨0, [.ri .i64 (-9223372036854775808) 9223372036854775807 (n), I 9], [], I 4, []⟩
def e66 (n : Int) : TE := ⟨3, [D (.arr 4 1 (dxL [(ls [(sy s5), (sy s14), (ls [(sy s15), (num 1)])])])), .agg [V 0 1 0 2, V 1 2 0 1]], [some p3, some p0, some p2], .tup [.agg [ak, V 3 10 0 1, ak], I 0, I 0], [some (vc 136 10 1 [S s14, C 10, I 0, I 0, S s0, ak, S s15, I 0, ak, V 4 9 0 1] false), some o25]⟩
def e67 (n : Int) : TE := ⟨7, [a9, .agg [S s2, V 2 2 0 1, ak]], [some p35, some p6, some p16, some o3, some o4, some o31, some p2], .kb true, []⟩
def e68 (n : Int) : TE := ⟨4, [a16, a17], [some o15, some o29, some p7, some o31], .kb true, []⟩
def e69 (n : Int) : TE := ⟨9, [a18], [some p36, some o26, some p14, some o12, some o3, some o4, some o31, some p15, some p2], I 0, []⟩
def e70 (n : Int) : TE := ⟨9, [a18, a19, I 20000], [some p37, some o26, some p14, some o12, some o31, some o3, some o4, some p15, some p2], .tup [.agg [ak, ak, ak, ak, I 0], .agg [I 0, I 0, S s0], I 14], []⟩
def e71 (n : Int) : TE := ⟨11, [a8, a20], [some p17, some o13, some p18, some o12, some (vc 136 10 1 [S s14, C 10, I 0, I 0, S s0, ak, S s15, I 0, ak, V 9 9 0 1] false), some o3, some o4, some o4, some p19, some o25, some p2], .tup [.agg [ak, ak, ak, ak, I 0], I 14], []⟩
def e73 (n : Int) : TE := ⟨0, [.ri .i64 (-9223372036854775808) 9223372036854775807 (n), I 9], [], I 5, []⟩
def e74 (n : Int) : TE := ⟨3, [D (.arr 4 1 (dxL [(ls [(sy s5), (sy s14), (ls [(sy s8)])])])), .agg [V 0 1 0 2, V 1 2 0 1]], [some p3, some p0, some p2], .tup [.agg [ak, V 3 10 0 1, ak], I 0, I 0], [some (vc 136 10 1 [S s14, C 9, I 0, I 0, S s0, ak, S s0, I 0, ak, V 4 9 0 1] false), some o32]⟩
def e75 (n : Int) : TE := ⟨7, [a9, .agg [S s2, V 2 2 0 1, ak]], [some (vc 140 4 3 [I 0, I 0, I 0, V 4 8 0 9, I 1, I 1, I 0, V 3 8 0 3, I 0, I 0, I 0, V 5 8 0 4] false), some p6, some p16, some o3, some o4, some o33, some p2], .kb true, []⟩
def e76 (n : Int) : TE := ⟨4, [a16, .agg [I 0, I 0, I 0, V 3 8 0 4]], [some o15, some o29, some p7, some o33], .kb true, []⟩
def e77 (n : Int) : TE := ⟨9, [a18], [some (vc 140 4 3 [I 0, I 0, I 0, V 5 8 0 9, I 1, I 1, I 0, V 4 8 0 3, I 0, I 0, I 0, V 6 8 0 4] false), some o26, some p14, some o12, some o3, some o4, some o33, some p15, some p2], I 0, []⟩
def e78 (n : Int) : TE := ⟨9, [a18, .agg [I 0, I 0, I 0, V 4 8 0 4], I 20000], [some (vc 140 4 3 [I 0, I 0, I 0, V 6 8 0 9, I 1, I 1, I 0, V 5 8 0 3, I 0, I 0, I 0, V 4 8 0 4] false), some o26, some p14, some o12, some o33, some o3, some o4, some p15, some p2], .tup [.agg [ak, ak, ak, ak, I 0], .agg [I 0, I 0, S s0], I 10], []⟩
def e79 (n : Int) : TE := ⟨11, [a8, a20], [some p17, some o13, some p18, some o12, some (vc 136 10 1 [S s14, C 9, I 0, I 0, S s0, ak, S s0, I 0, ak, V 9 9 0 1] false), some o3, some o4, some o4, some p19, some o32, some p2], .tup [.agg [ak, ak, ak, ak, I 0], I 10], []⟩
def e81 (n : Int) : TE := ⟨0, [.ri .i64 (-9223372036854775808) 9223372036854775807 (n), I 9], [], I 6, []⟩
def e82 (n : Int) : TE := ⟨3, [D (.arr 4 2 (dxL [(ls [(sy s5), (ls [(sy s16), (sy s9)]), (ls [(sy s16), (sy s9)])]), (ls [(sy s5), (sy s14), (ls [(sy s16), (num 1)])])])), .agg [V 0 1 0 2, V 1 2 0 1]], [some p3, some p0, some p2], .tup [.agg [ak, V 3 10 0 2, ak], I 0, I 0], [some (vc 136 10 2 [S s16, C 6, I 0, I 0, S s0, ak, S s0, I 0, V 6 1 0 1, V 5 9 0 1, S s14, C 9, I 0, I 0, S s0, ak, S s0, I 0, ak, V 4 9 0 2] false), some o34, some (vc 134 9 1 [C 9, I 0, I 0, S s0, ak, S s0, I 0, ak, V 7 9 0 2] true), some (vc 9 1 1 [S s9] false), some o35]⟩
def e83 (n : Int) : TE := ⟨2, [.agg [V 0 1 0 4, V 1 2 0 1]], [some o39, some p4], I 0, []⟩
def e84 (n : Int) : TE := ⟨8, [.agg [V 0 4 0 4, J, V 1 3 0 1, J, J], .agg [S s2, V 2 2 0 1, ak]], [some (vc 140 4 4 [I 0, I 0, I 0, V 5 8 0 9, I 1, I 1, I 0, V 4 8 0 3, I 1, I 1, I 0, V 6 8 0 6, I 0, I 0, I 0, V 3 8 0 6] false), some p6, some p12, some o37, some o3, some o4, some o38, some p2], .kb true, []⟩
def e85 (n : Int) : TE := ⟨4, [a21, a3], [some o40, some o41, some p7, some o4], .kb true, []⟩
def e86 (n : Int) : TE := ⟨4, [a21, a4], [some o40, some o41, some p7, some o3], .kb true, []⟩
def e87 (n : Int) : TE := ⟨4, [a21, .agg [I 1, I 1, I 0, V 3 8 0 6]], [some o40, some o41, some p7, some o38], .kb true, []⟩
def e88 (n : Int) : TE := ⟨4, [a21, .agg [I 0, I 0, I 0, V 3 8 0 6]], [some o40, some o41, some p7, some o37], .kb true, []⟩
def e89 (n : Int) : TE := ⟨10, [a22], [some p38, some o36, some p18, some o12, some o37, some o3, some o4, some o38, some p39, some p2], I 0, []⟩
def e90 (n : Int) : TE := ⟨1, [V 0 3 0 12], [some o43], .tup [.nm 1, .kb true], [some o44]⟩
def e91 (n : Int) : TE := ⟨1, [.agg [V 0 3 0 12, C 500]], [some o43], I 0, []⟩
def e92 (n : Int) : TE := ⟨11, [a22, V 4 3 0 2, ak], [some (vc 140 4 4 [I 0, I 0, I 0, V 7 8 0 9, I 1, I 1, I 0, V 6 8 0 3, I 1, I 1, I 0, V 8 8 0 6, I 0, I 0, I 0, V 5 8 0 6] false), some o36, some p30, some o12, some o42, some o37, some o3, some o4, some o38, some p19, some p2], .tup [.agg [V 11 4 0 4, V 12 4 0 4, V 13 3 0 1, V 14 3 0 12, C 500], .agg [C 5, C 10, S s0], I 0], [some (vc 140 4 4 [I 0, I 0, I 0, V 17 8 0 9, I 1, I 1, I 0, V 16 8 0 3, I 1, I 1, I 0, V 18 8 0 6, I 0, I 0, I 0, V 15 8 0 6] false), some o36, some (vc 63 3 1 [S s2, V 19 2 0 1, ak] false), some o43, some o37, some o3, some o4, some o38, some (vc 60 2 1 [S s2, V 20 1 0 2] false), some p2]⟩
def e93 (n : Int) : TE := ⟨10, [.agg [V 0 4 0 4, V 1 4 0 4, V 2 3 0 1, V 3 3 0 12, C 500]], [some p38, some o45, some p18, some o43, some o37, some o3, some o4, some o38, some p39, some p2], I 0, []⟩
def e94 (n : Int) : TE := ⟨14, [a8, .agg [ak, V 4 10 0 2, ak]], [some p17, some o13, some p18, some o12, some (vc 136 10 2 [S s16, C 6, I 0, I 0, S s0, ak, S s0, I 0, V 11 1 0 1, V 10 9 0 1, S s14, C 9, I 0, I 0, S s0, ak, S s0, I 0, ak, V 9 9 0 2] false), some o3, some o4, some o4, some p33, some o34, some (vc 134 9 1 [C 9, I 0, I 0, S s0, ak, S s0, I 0, ak, V 13 9 0 2] true), some (vc 9 1 1 [S s9] false), some p2, some o35], .tup [.agg [ak, ak, ak, ak, I 0], I 11], []⟩
def e96 (n : Int) : TE := ⟨0, [.ri .i64 (-9223372036854775808) 9223372036854775807 (n), I 9], [], I 7, []⟩
def e97 (n : Int) : TE := ⟨3, [D (.arr 4 2 (dxL [(ls [(sy s1), (sy s2), (sy s3)]), (ls [(sy s10), (sy s2), (ls [(sy s15), (ls [(sy s12), (sy s3)])])])])), .agg [V 0 1 0 2, V 1 2 0 1]], [some p3, some p0, some p2], .tup [.agg [V 3 2 0 1, ak, V 4 2 0 1], I 0, I 0], [some p20, some p21, some (vc 9 1 1 [S s3] false), some (vc 134 9 1 [C 10, I 0, I 0, S s0, ak, S s15, I 0, ak, V 7 9 0 1] false), some o16]⟩
def e98 (n : Int) : TE := ⟨10, [a9, a10], [some p22, some p23, some p24, some p25, some o3, some o4, some o47, some (vc 9 1 1 [S s3] false), some p2, some (vc 3 1 1 [I 2] false)], .kb true, []⟩
def e99 (n : Int) : TE := ⟨4, [a11, a12], [some o15, some o6, some p7, some o47], .kb true, []⟩
def e100 (n : Int) : TE := ⟨12, [a13], [some p22, some o13, some p26, some o12, some o3, some o4, some o47, some p27, some p28, some (vc 9 1 1 [S s3] false), some p2, some (vc 3 1 1 [I 2] false)], I 0, []⟩
def Y3 (n : Int) : TE := ⟨12, [a13], w6, I 0, []⟩
def YD (n : Int) : TE := ⟨12, [a13, .agg [C 5, C 0, S s0]], w6, .tup [.agg [ak, ak, ak, ak, I 0], .agg [I 0, I 0, S s0], I 14], []⟩
def Xg (n : Int) : TE := ⟨14, [a8, a14], [some p29, some o13, some p30, some o12, some p31, some p32, some o3, some o4, some o4, some p33, some (vc 9 1 1 [S s3] false), some (vc 134 9 1 [C 10, I 0, I 0, S s0, ak, S s15, I 0, ak, V 13 9 0 1] false), some p2, some o16], .tup [.agg [ak, ak, ak, ak, I 0], I 14], []⟩
def XY (n : Int) : TE := ⟨0, [.ri .i64 (-9223372036854775808) 9223372036854775807 (n), I 9], [], I 8, []⟩
def Xo (n : Int) : TE := ⟨3, [D (.arr 4 2 (dxL [(ls [(sy s1), (sy s2), (sy s3)]), (ls [(sy s10), (sy s2), (ls [(sy s17), (ls [(sy s12), (sy s3)]), (num 0)])])])), .agg [V 0 1 0 2, V 1 2 0 1]], [some p3, some p0, some p2], .tup [.agg [V 3 2 0 1, ak, V 4 2 0 1], I 0, I 0], [some p20, some p21, some (vc 9 1 1 [S s3] false), some (vc 134 9 1 [C 10, I 0, I 0, S s0, ak, S s17, I 0, ak, V 7 9 0 2] false), some o48]⟩
def Zc (n : Int) : TE := ⟨10, [a9, a10], [some p34, some p23, some p24, some p25, some o3, some o4, some o49, some (vc 9 1 1 [S s3] false), some p2, some (vc 3 1 1 [I 2] false)], .kb true, []⟩
def e108 (n : Int) : TE := ⟨4, [a11, a15], [some o15, some o6, some p7, some o49], .kb true, []⟩
def e109 (n : Int) : TE := ⟨12, [a13], [some p34, some o13, some p26, some o12, some o3, some o4, some o49, some p27, some p28, some (vc 9 1 1 [S s3] false), some p2, some (vc 3 1 1 [I 2] false)], I 0, []⟩
def YM (n : Int) : TE := ⟨12, [a13], w7, I 0, []⟩
def YS (n : Int) : TE := ⟨12, [a13, .agg [C 5, C 0, S s0]], w7, .tup [.agg [ak, ak, ak, ak, I 0], .agg [I 0, I 0, S s0], I 2], []⟩
def Yd (n : Int) : TE := ⟨14, [a8, a14], [some p29, some o13, some p30, some o12, some p31, some p32, some o3, some o4, some o4, some p33, some (vc 9 1 1 [S s3] false), some (vc 134 9 1 [C 10, I 0, I 0, S s0, ak, S s17, I 0, ak, V 13 9 0 2] false), some p2, some o48], .tup [.agg [ak, ak, ak, ak, I 0], I 2], []⟩
end
theorem fx (n : Int) : True := trivial
end Gv.LGraftRefused
