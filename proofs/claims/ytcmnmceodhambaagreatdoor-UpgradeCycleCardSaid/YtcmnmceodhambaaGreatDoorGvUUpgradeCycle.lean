/- What the told parts of UpgradeCycle are made of. Printed by gvgen.py. -/
import Derived.Test.YtcmnmceodhambaaGreatDoorGvO
set_option linter.unusedVariables false
open Rx Go
namespace Gv.LUpgradeCycle
open Gv Rd
noncomputable section
def s1 : ByteArray := ⟨#[114, 101, 99, 111, 114, 100]⟩
def s2 : ByteArray := ⟨#[112]⟩
def s3 : ByteArray := ⟨#[97]⟩
def s4 : ByteArray := ⟨#[98]⟩
def s5 : ByteArray := ⟨#[100, 101, 102, 105, 110, 101]⟩
def s6 : ByteArray := ⟨#[120]⟩
def s7 : ByteArray := ⟨#[121]⟩
def s8 : ByteArray := ⟨#[116, 105, 101]⟩
def s9 : ByteArray := ⟨#[110]⟩
def s10 : ByteArray := ⟨#[98, 101, 103, 105, 110]⟩
def s11 : ByteArray := ⟨#[112, 45, 98, 33]⟩
def s12 : ByteArray := ⟨#[97, 115, 107]⟩
def s13 : ByteArray := ⟨#[101, 113, 63]⟩
def s14 : ByteArray := ⟨#[112, 45, 98]⟩
def s15 : ByteArray := ⟨#[117, 112, 103, 114, 97, 100, 101]⟩
def s16 : ByteArray := ⟨#[119, 97, 115]⟩
def s17 : ByteArray := ⟨#[43]⟩
def s18 : ByteArray := ⟨#[115, 117, 109]⟩
def s19 : ByteArray := ⟨#[112, 45, 97]⟩
def s20 : ByteArray := ⟨#[40, 114, 101, 99, 111, 114, 100, 32, 112, 32, 97, 32, 98, 41, 32, 40, 100, 101, 102, 105, 110, 101, 32, 120, 32, 40, 112, 32]⟩
def s21 : ByteArray := ⟨#[32, 48, 41, 41, 32, 40, 100, 101, 102, 105, 110, 101, 32, 121, 32, 40, 112, 32, 49, 32, 120, 41, 41, 32, 40, 100, 101, 102, 105, 110, 101, 32, 40, 116, 105, 101, 32, 110, 41, 32, 40, 98, 101, 103, 105, 110, 32, 40, 112, 45, 98, 33, 32, 120, 32, 121, 41, 32, 48, 41, 41, 32, 40, 100, 101, 102, 105, 110, 101, 32, 40, 97, 115, 107, 32, 110, 41, 32, 40, 101, 113, 63, 32, 120, 32, 40, 112, 45, 98, 32, 40, 112, 45, 98, 32, 120, 41, 41, 41, 41]⟩
def s22 : ByteArray := ⟨#[40, 114, 101, 99, 111, 114, 100, 32, 112, 32, 98, 32, 97, 41, 32, 40, 117, 112, 103, 114, 97, 100, 101, 32, 112, 32, 40, 119, 97, 115, 32, 98, 41, 32, 40, 43, 32, 40, 119, 97, 115, 32, 97, 41, 32, 49, 41, 41]⟩
def s23 : ByteArray := ⟨#[35, 116]⟩
def s24 : ByteArray := ⟨#[40, 100, 101, 102, 105, 110, 101, 32, 40, 115, 117, 109, 32, 110, 41, 32, 40, 43, 32, 40, 112, 45, 97, 32, 120, 41, 32, 40, 112, 45, 97, 32, 40, 112, 45, 98, 32, 120, 41, 41, 41, 41]⟩
theorem Y5 : s1.size = 6 := rfl
theorem YR : s1.data.toList = [114, 101, 99, 111, 114, 100] := rfl
theorem Y7 : s2.size = 1 := rfl
theorem YV : s2.data.toList = [112] := rfl
theorem YO : s3.size = 1 := rfl
theorem YW : s3.data.toList = [97] := rfl
theorem Y6 : s4.size = 1 := rfl
theorem YX : s4.data.toList = [98] := rfl
theorem Y4 : s5.size = 6 := rfl
theorem YZ : s5.data.toList = [100, 101, 102, 105, 110, 101] := rfl
theorem YQ : s6.size = 1 := rfl
theorem Y0 : s6.data.toList = [120] := rfl
theorem YT : s7.size = 1 := rfl
theorem Y3 : s7.data.toList = [121] := rfl
theorem YS : s8.size = 3 := rfl
theorem Y2 : s8.data.toList = [116, 105, 101] := rfl
theorem YP : s9.size = 1 := rfl
theorem Y1 : s9.data.toList = [110] := rfl
theorem YG : s10.size = 5 := rfl
theorem YA : s10.data.toList = [98, 101, 103, 105, 110] := rfl
theorem Yl : s11.size = 4 := rfl
theorem YD : s11.data.toList = [112, 45, 98, 33] := rfl
theorem Yw : s12.size = 3 := rfl
theorem Yr : s12.data.toList = [97, 115, 107] := rfl
theorem YJ : s13.size = 3 := rfl
theorem Yo : s13.data.toList = [101, 113, 63] := rfl
theorem YE : s14.size = 3 := rfl
theorem Ym : s14.data.toList = [112, 45, 98] := rfl
theorem YF : s15.size = 7 := rfl
theorem YB : s15.data.toList = [117, 112, 103, 114, 97, 100, 101] := rfl
theorem Yt : s16.size = 3 := rfl
theorem Yy : s16.data.toList = [119, 97, 115] := rfl
theorem YC : s17.size = 1 := rfl
theorem YK : s17.data.toList = [43] := rfl
theorem YM : s18.size = 3 := rfl
theorem Yx : s18.data.toList = [115, 117, 109] := rfl
theorem Yu : s19.size = 3 := rfl
theorem YL : s19.data.toList = [112, 45, 97] := rfl
theorem V6 : s20.size = 28 := rfl
theorem VO : s20.data.toList = [40, 114, 101, 99, 111, 114, 100, 32, 112, 32, 97, 32, 98, 41, 32, 40, 100, 101, 102, 105, 110, 101, 32, 120, 32, 40, 112, 32] := rfl
theorem VN : s21.size = 100 := rfl
theorem Vx : s21.data.toList = [32, 48, 41, 41, 32, 40, 100, 101, 102, 105, 110, 101, 32, 121, 32, 40, 112, 32, 49, 32, 120, 41, 41, 32, 40, 100, 101, 102, 105, 110, 101, 32, 40, 116, 105, 101, 32, 110, 41, 32, 40, 98, 101, 103, 105, 110, 32, 40, 112, 45, 98, 33, 32, 120, 32, 121, 41, 32, 48, 41, 41, 32, 40, 100, 101, 102, 105, 110, 101, 32, 40, 97, 115, 107, 32, 110, 41, 32, 40, 101, 113, 63, 32, 120, 32, 40, 112, 45, 98, 32, 40, 112, 45, 98, 32, 120, 41, 41, 41, 41] := rfl
theorem Yn : s22.size = 48 := rfl
theorem Yp : s22.data.toList = [40, 114, 101, 99, 111, 114, 100, 32, 112, 32, 98, 32, 97, 41, 32, 40, 117, 112, 103, 114, 97, 100, 101, 32, 112, 32, 40, 119, 97, 115, 32, 98, 41, 32, 40, 43, 32, 40, 119, 97, 115, 32, 97, 41, 32, 49, 41, 41] := rfl
theorem Yz : s23.size = 2 := rfl
theorem SE : s23.data.toList = [35, 116] := rfl
theorem YI : s24.size = 42 := rfl
theorem YH : s24.data.toList = [40, 100, 101, 102, 105, 110, 101, 32, 40, 115, 117, 109, 32, 110, 41, 32, 40, 43, 32, 40, 112, 45, 97, 32, 120, 41, 32, 40, 112, 45, 97, 32, 40, 112, 45, 98, 32, 120, 41, 41, 41, 41] := rfl
abbrev av (n : Int) : Int := gy n 100
def o0 : Ob := vc 134 9 2 [C 1, C 1, C 1, S s0, D (.arr 4 0 (dxL [])), S s0, I 0, aG, aG, C 3, I 0, I 0, S s0, aG, S s6, I 0, aG, aG] false
def o1 : Ob := vc 134 9 2 [C 3, I 0, I 0, S s0, aG, S s6, I 0, aG, aG, C 3, I 0, I 0, S s0, aG, S s7, I 0, aG, aG] false
def o2 : Ob := vc 134 9 1 [C 3, I 0, I 0, S s0, aG, S s6, I 0, aG, aG] false
def o3 : Ob := vc 130 4 4 [S s6, C 3, I 0, S s0, S s7, C 3, I 0, S s0, S s8, C 3, I 0, S s0, S s12, C 3, I 0, S s0] false
def o4 : Ob := vc 200 8 11 [C 1, I 0, I 0, S s0, S s0, I 0, I 0, S s0, C 1, I 0, I 0, S s0, S s0, I 0, I 0, S s0, C 9, I 0, I 0, S s6, S s0, I 0, I 0, S s0, C 1, I 0, I 0, S s0, S s0, I 0, I 0, S s0, C 1, I 0, I 0, S s0, S s0, I 0, I 0, S s0, C 1, I 0, I 0, S s0, S s0, I 0, I 0, S s0, C 9, I 0, I 0, S s6, S s0, I 0, I 0, S s0, C 21, I 0, I 0, S s2, S s4, I 0, I 0, S s0, C 21, I 0, I 0, S s2, S s4, I 0, I 0, S s0, C 18, C 2, I 0, S s13, S s0, I 0, I 0, S s0, C 14, I 0, I 0, S s0, S s0, I 0, I 0, S s0] false
def o5 : Ob := vc 200 8 7 [C 1, I 0, I 0, S s0, S s0, I 0, I 0, S s0, C 1, I 0, I 0, S s0, S s0, I 0, I 0, S s0, C 2, I 0, I 0, S s0, S s0, C 1, C 1, S s0, C 1, I 0, I 0, S s0, S s0, I 0, I 0, S s0, C 9, I 0, I 0, S s6, S s0, I 0, I 0, S s0, C 19, C 2, I 0, S s2, S s0, I 0, I 0, S s0, C 14, I 0, I 0, S s0, S s0, I 0, I 0, S s0] false
def o6 : Ob := vc 200 8 11 [C 1, I 0, I 0, S s0, S s0, I 0, I 0, S s0, C 1, I 0, I 0, S s0, S s0, I 0, I 0, S s0, C 1, I 0, I 0, S s0, S s0, I 0, I 0, S s0, C 9, I 0, I 0, S s6, S s0, I 0, I 0, S s0, C 1, I 0, I 0, S s0, S s0, I 0, I 0, S s0, C 9, I 0, I 0, S s7, S s0, I 0, I 0, S s0, C 22, I 0, I 0, S s2, S s4, I 0, I 0, S s0, C 17, I 0, I 0, S s0, S s0, I 0, I 0, S s0, C 1, I 0, I 0, S s0, S s0, I 0, I 0, S s0, C 2, I 0, I 0, S s0, S s0, C 1, C 0, S s0, C 14, I 0, I 0, S s0, S s0, I 0, I 0, S s0] false
def o7 : Ob := vc 9 1 4 [S s6, S s7, S s8, S s12] false
def o8 : Ob := vc 140 4 4 [J, J, I 0, J, J, J, I 0, J, J, J, I 0, J, J, J, I 0, J] false
def o9 : Ob := vc 130 4 4 [S s6, J, J, J, S s7, J, J, J, S s8, J, J, J, S s12, J, J, J] false
def o10 : Ob := vc 126 3 2 [C 8, C 2, S s0, C 1, I 0, S s0] true
def o11 : Ob := vc 126 3 2 [C 8, C 2, S s0, C 1, I 0, S s0] false
def o12 : Ob := .mp (.int .i64) .bool [((0 : Int), true)]
def o13 : Ob := vc 130 4 4 [S s6, C 3, I 0, S s0, S s7, C 3, I 0, S s0, S s8, C 5, C 0, S s0, S s12, C 3, I 0, S s0] false
def o14 : Ob := vc 126 3 2 [C 8, C 3, S s0, C 1, I 0, S s0] true
def o15 : Ob := vc 126 3 4 [C 8, C 2, S s0, C 1, I 0, S s0, C 8, C 3, S s0, C 1, I 0, S s0] false
def o16 : Ob := .mp (.int .i64) .bool [((0 : Int), true), ((2 : Int), true)]
def o17 : Ob := vc 130 4 4 [S s6, C 3, I 0, S s0, S s7, C 3, I 0, S s0, S s8, C 5, C 0, S s0, S s12, C 5, C 2, S s0] false
def o18 : Ob := vc 130 4 4 [S s6, C 5, C 4, S s0, S s7, C 3, I 0, S s0, S s8, C 5, C 0, S s0, S s12, C 5, C 2, S s0] false
def o19 : Ob := .mp (.int .i64) .bool [((0 : Int), true), ((2 : Int), true), ((4 : Int), true)]
def o20 : Ob := vc 140 4 5 [J, J, I 0, J, J, J, I 0, J, J, J, I 0, J, J, J, I 0, J, J, J, I 0, J] false
def o21 : Ob := vc 130 4 4 [S s6, C 5, C 4, S s0, S s7, C 5, C 9, S s0, S s8, C 5, C 0, S s0, S s12, C 5, C 2, S s0] false
def o22 : Ob := vc 47 4 1 [C 1, C 0, S s0, aG] true
def o23 : Ob := .mp (.int .i64) .bool [((0 : Int), true), ((2 : Int), true), ((4 : Int), true), ((9 : Int), true)]
def o24 : Ob := vc 200 8 6 [C 1, I 0, I 0, S s0, S s0, I 0, I 0, S s0, C 1, I 0, I 0, S s0, S s0, I 0, I 0, S s0, C 9, I 0, I 0, S s8, S s0, I 0, I 0, S s0, C 1, I 0, I 0, S s0, S s0, I 0, I 0, S s0, C 2, I 0, I 0, S s0, S s0, C 1, C 0, S s0, C 13, C 1, I 0, S s0, S s0, I 0, I 0, S s0] false
def o25 : Ob := vc 134 9 2 [C 15, I 0, I 0, S s0, aG, S s0, C 0, aG, aG, C 1, C 1, C 1, S s0, D (.arr 4 0 (dxL [])), S s0, I 0, aG, aG] false
def o26 : Ob := vc 200 8 7 [C 1, I 0, I 0, S s0, S s0, I 0, I 0, S s0, C 1, I 0, I 0, S s0, S s0, I 0, I 0, S s0, C 3, C 0, I 0, S s0, S s0, I 0, I 0, S s0, C 1, I 0, I 0, S s0, S s0, I 0, I 0, S s0, C 2, I 0, I 0, S s0, S s0, C 1, C 1, S s0, C 18, C 2, I 0, S s17, S s0, I 0, I 0, S s0, C 14, I 0, I 0, S s0, S s0, I 0, I 0, S s0] false
def o27 : Ob := vc 200 8 3 [C 1, I 0, I 0, S s0, S s0, I 0, I 0, S s0, C 3, C 1, I 0, S s0, S s0, I 0, I 0, S s0, C 14, I 0, I 0, S s0, S s0, I 0, I 0, S s0] false
def o28 : Ob := vc 140 4 6 [J, J, I 0, J, J, J, I 0, J, J, J, I 0, J, J, J, I 0, J, J, J, I 0, J, J, J, I 0, J] false
def o29 : Ob := vc 130 4 4 [S s6, C 5, I 0, S s0, S s7, C 5, I 5, S s0, S s8, C 5, I 10, S s0, S s12, C 5, I 12, S s0] false
def o30 : Ob := .mp (.int .i64) .bool [((0 : Int), true), ((5 : Int), true), ((10 : Int), true), ((12 : Int), true)]
def o31 : Ob := .mp (.int .i64) .bool [((0 : Int), true), ((5 : Int), true), ((10 : Int), true), ((12 : Int), true), ((14 : Int), true)]
def o32 : Ob := vc 200 8 6 [C 1, I 0, I 0, S s0, S s0, I 0, I 0, S s0, C 1, I 0, I 0, S s0, S s0, I 0, I 0, S s0, C 9, I 0, I 0, S s12, S s0, I 0, I 0, S s0, C 1, I 0, I 0, S s0, S s0, I 0, I 0, S s0, C 2, I 0, I 0, S s0, S s0, C 1, C 0, S s0, C 13, C 1, I 0, S s0, S s0, I 0, I 0, S s0] false
def o33 : Ob := .mp (.int .i64) .bool [((0 : Int), true), ((2 : Int), true), ((4 : Int), true), ((9 : Int), true), ((14 : Int), true)]
def o34 : Ob := .mp (.int .i64) .bool [((0 : Int), true), ((2 : Int), true), ((4 : Int), true), ((9 : Int), true), ((14 : Int), true), ((19 : Int), true)]
def o35 : Ob := vc 140 4 7 [J, J, I 0, J, J, J, I 0, J, J, J, I 0, J, J, J, I 0, J, J, J, I 0, J, J, J, I 0, J, J, J, I 0, J] false
def o36 : Ob := vc 130 4 5 [S s6, C 5, C 4, S s0, S s7, C 5, C 9, S s0, S s8, C 5, C 0, S s0, S s12, C 5, C 2, S s0, S s18, C 3, I 0, S s0] false
def o37 : Ob := vc 200 8 13 [C 1, I 0, I 0, S s0, S s0, I 0, I 0, S s0, C 1, I 0, I 0, S s0, S s0, I 0, I 0, S s0, C 1, I 0, I 0, S s0, S s0, I 0, I 0, S s0, C 9, I 0, I 0, S s6, S s0, I 0, I 0, S s0, C 21, I 0, I 0, S s2, S s3, I 0, I 0, S s0, C 1, I 0, I 0, S s0, S s0, I 0, I 0, S s0, C 1, I 0, I 0, S s0, S s0, I 0, I 0, S s0, C 1, I 0, I 0, S s0, S s0, I 0, I 0, S s0, C 9, I 0, I 0, S s6, S s0, I 0, I 0, S s0, C 21, I 0, I 0, S s2, S s4, I 0, I 0, S s0, C 21, I 0, I 0, S s2, S s3, I 0, I 0, S s0, C 18, C 2, I 0, S s17, S s0, I 0, I 0, S s0, C 14, I 0, I 0, S s0, S s0, I 0, I 0, S s0] false
def o38 : Ob := vc 9 1 5 [S s6, S s7, S s8, S s12, S s18] false
def o39 : Ob := vc 130 4 5 [S s6, J, J, J, S s7, J, J, J, S s8, J, J, J, S s12, J, J, J, S s18, J, J, J] false
def o40 : Ob := vc 126 3 2 [C 8, C 6, S s0, C 1, I 0, S s0] true
def o41 : Ob := .mp (.int .i64) .bool [((0 : Int), true), ((2 : Int), true), ((4 : Int), true), ((9 : Int), true), ((14 : Int), true), ((19 : Int), true), ((24 : Int), true)]
def o42 : Ob := vc 130 4 5 [S s6, C 5, C 4, S s0, S s7, C 5, C 9, S s0, S s8, C 5, C 0, S s0, S s12, C 5, C 2, S s0, S s18, C 5, C 24, S s0] false
def o43 : Ob := vc 200 8 6 [C 1, I 0, I 0, S s0, S s0, I 0, I 0, S s0, C 1, I 0, I 0, S s0, S s0, I 0, I 0, S s0, C 9, I 0, I 0, S s18, S s0, I 0, I 0, S s0, C 1, I 0, I 0, S s0, S s0, I 0, I 0, S s0, C 2, I 0, I 0, S s0, S s0, C 1, C 0, S s0, C 13, C 1, I 0, S s0, S s0, I 0, I 0, S s0] false
def o44 : Ob := vc 140 4 8 [J, J, I 0, J, J, J, I 0, J, J, J, I 0, J, J, J, I 0, J, J, J, I 0, J, J, J, I 0, J, J, J, I 0, J, J, J, I 0, J] false
def p0 : Ob := vc 60 2 1 [S s2, V 2 1 0 2] false
def p1 : Ob := vc 136 10 4 [S s6, C 11, I 0, I 0, S s0, aG, S s2, I 0, aG, V 5 9 0 2, S s7, C 11, I 0, I 0, S s0, aG, S s2, I 0, aG, V 4 9 0 2, S s8, C 6, I 0, I 0, S s0, aG, S s0, I 0, V 7 1 0 1, V 6 9 0 1, S s12, C 6, I 0, I 0, S s0, aG, S s0, I 0, V 8 1 0 1, V 3 9 0 1] false
def p2 : Ob := vc 9 1 2 [S s3, S s4] false
def p3 : Ob := vc 134 9 1 [C 10, I 0, I 0, S s0, aG, S s13, I 0, aG, V 9 9 0 2] true
def p4 (n : Int) : Ob := vc 134 9 2 [C 1, C 1, D (.ri .i64 0 99 (av n)), S s0, D (.arr 4 0 (dxL [])), S s0, I 0, aG, aG, C 1, C 1, C 0, S s0, D (.arr 4 0 (dxL [])), S s0, I 0, aG, aG] false
def p5 : Ob := vc 134 9 1 [C 7, I 0, I 0, S s0, aG, S s0, I 0, aG, V 10 9 0 2] true
def p6 : Ob := vc 134 9 2 [C 3, I 0, I 0, S s0, aG, S s6, I 0, aG, aG, C 13, I 0, I 0, S s0, aG, S s2, I 0, V 12 1 0 1, V 11 9 0 1] false
def p7 : Ob := vc 134 9 2 [C 14, I 0, I 0, S s0, aG, S s2, I 0, V 13 1 0 1, V 14 9 0 2, C 1, C 1, C 0, S s0, D (.arr 4 0 (dxL [])), S s0, I 0, aG, aG] false
def p8 : Ob := vc 134 9 1 [C 13, I 0, I 0, S s0, aG, S s2, I 0, V 15 1 0 1, V 16 9 0 1] false
def p9 : Ob := vc 60 2 1 [S s2, aG] false
def p10 : Ob := vc 140 4 4 [I 0, I 0, I 0, V 5 8 0 7, I 0, I 0, I 0, V 4 8 0 7, I 1, I 1, I 0, V 6 8 0 11, I 1, I 1, I 0, V 3 8 0 11] false
def p11 : Ob := vc 63 3 1 [S s2, V 2 2 0 1, aG] false
def p12 (n : Int) : Ob := vc 200 8 7 [C 1, I 0, I 0, S s0, S s0, I 0, I 0, S s0, C 1, I 0, I 0, S s0, S s0, I 0, I 0, S s0, C 2, I 0, I 0, S s0, S s0, C 1, .ri .i64 0 99 (av n), S s0, C 1, I 0, I 0, S s0, S s0, I 0, I 0, S s0, C 2, I 0, I 0, S s0, S s0, C 1, C 0, S s0, C 19, C 2, I 0, S s2, S s0, I 0, I 0, S s0, C 14, I 0, I 0, S s0, S s0, I 0, I 0, S s0] false
def p13 : Ob := vc 63 3 1 [S s2, J, J] false
def p14 : Ob := vc 140 4 4 [I 0, I 0, I 0, V 6 8 0 7, I 0, I 0, I 0, V 5 8 0 7, I 1, I 1, I 0, V 7 8 0 11, I 1, I 1, I 0, V 4 8 0 11] false
def p15 : Ob := vc 63 3 1 [S s2, V 8 2 0 1, aG] false
def p16 : Ob := vc 63 3 1 [S s2, V 18 2 0 1, aG] false
def p17 : Ob := vc 60 2 1 [S s2, V 19 1 0 2] false
def p18 : Ob := vc 60 2 1 [S s2, V 9 1 0 2] false
def p19 : Ob := vc 63 3 1 [S s2, V 9 2 0 1, aG] false
def p20 : Ob := vc 60 2 1 [S s2, V 10 1 0 2] false
def p21 : Ob := vc 140 4 4 [I 0, I 0, I 0, V 17 8 0 7, I 0, I 0, I 0, V 16 8 0 7, I 1, I 1, I 0, V 18 8 0 11, I 1, I 1, I 0, V 15 8 0 11] false
def p22 : Ob := vc 63 3 1 [S s2, V 19 2 0 1, aG] false
def p23 : Ob := vc 60 2 1 [S s2, V 20 1 0 2] false
def p24 (n : Int) : Ob := vc 126 3 9 [C 8, C 2, S s0, C 1, I 0, S s0, C 8, C 3, S s0, C 1, I 0, S s0, C 9, C 0, S s0, C 1, C 0, S s0, C 1, C 2, S s0, C 1, .ri .i64 0 99 (av n), S s0, C 1, C 0, S s0] false
def p25 : Ob := vc 140 4 5 [I 0, I 0, I 0, V 5 8 0 7, I 0, I 0, I 0, V 4 8 0 7, I 1, I 1, I 0, V 7 8 0 11, I 1, I 1, I 0, V 3 8 0 11, I 0, I 0, I 0, V 6 8 0 7] false
def p26 : Ob := vc 60 2 1 [S s2, V 8 1 0 2] false
def p27 : Ob := vc 140 4 5 [I 0, I 0, I 0, V 6 8 0 7, I 0, I 0, I 0, V 5 8 0 7, I 1, I 1, I 0, V 8 8 0 11, I 1, I 1, I 0, V 4 8 0 11, I 0, I 0, I 0, V 7 8 0 7] false
def p28 (n : Int) : Ob := vc 126 3 14 [C 8, C 2, S s0, C 1, I 0, S s0, C 8, C 3, S s0, C 1, I 0, S s0, C 9, C 0, S s0, C 1, C 0, S s0, C 1, C 2, S s0, C 1, .ri .i64 0 99 (av n), S s0, C 1, C 0, S s0, C 9, C 0, S s0, C 1, C 0, S s0, C 1, C 2, S s0, C 1, C 1, S s0, C 5, C 4, S s0] false
def p29 : Ob := vc 60 2 1 [S s2, V 13 1 0 2] false
def p30 : Ob := vc 140 4 5 [I 0, I 0, I 0, V 7 8 0 7, I 0, I 0, I 0, V 6 8 0 7, I 1, I 1, I 0, V 9 8 0 11, I 1, I 1, I 0, V 5 8 0 11, I 0, I 0, I 0, V 8 8 0 7] false
def p31 : Ob := vc 63 3 1 [S s2, V 10 2 0 1, aG] false
def p32 : Ob := vc 60 2 1 [S s2, V 11 1 0 2] false
def p33 : Ob := vc 63 3 1 [S s2, V 20 2 0 1, aG] false
def p34 (n : Int) : Ob := vc 126 3 14 [C 8, C 2, S s0, C 1, I 0, S s0, C 8, C 3, S s0, C 1, I 0, S s0, C 9, C 0, S s0, C 1, C 0, S s0, C 1, C 2, S s0, C 1, .ri .i64 0 99 (av n), S s0, C 5, C 9, S s0, C 9, C 0, S s0, C 1, C 0, S s0, C 1, C 2, S s0, C 1, C 1, S s0, C 5, C 4, S s0] false
def p35 : Ob := vc 60 2 1 [S s2, V 21 1 0 2] false
def p36 : Ob := vc 140 4 5 [I 0, I 0, I 0, V 6 8 0 7, I 0, I 0, I 0, V 5 8 0 7, I 1, I 1, I 0, V 8 8 0 11, I 1, I 1, I 0, V 4 8 0 11, I 0, I 0, I 0, V 7 8 0 6] false
def p37 : Ob := vc 9 1 2 [S s4, S s3] false
def p38 : Ob := vc 140 4 6 [I 0, I 0, I 0, V 7 8 0 7, I 0, I 0, I 0, V 5 8 0 7, I 1, I 1, I 0, V 9 8 0 11, I 1, I 1, I 0, V 4 8 0 11, I 2, I 2, I 0, V 8 8 0 3, I 2, I 2, I 0, V 6 8 0 7] false
def p39 : Ob := vc 63 3 1 [S s2, V 2 2 0 2, V 3 1 0 1] false
def p40 : Ob := vc 3 1 2 [I 4, I 5] false
def p41 : Ob := vc 63 3 1 [S s2, V 10 2 0 2, V 11 1 0 1] false
def p42 : Ob := vc 60 2 2 [S s2, V 13 1 0 2, S s2, V 12 1 0 2] false
def p43 : Ob := vc 201 1 1 [V 14 1 0 2] false
def p44 (n : Int) : Ob := vc 126 3 14 [C 9, C 0, S s0, C 1, C 0, S s0, C 1, C 2, S s0, C 1, .ri .i64 0 99 (av n), S s0, C 5, I 5, S s0, C 9, C 0, S s0, C 1, C 0, S s0, C 1, C 2, S s0, C 1, C 1, S s0, C 5, I 0, S s0, C 8, C 2, S s0, C 1, I 0, S s0, C 8, C 3, S s0, C 1, I 0, S s0] false
def p45 (n : Int) : Ob := vc 126 3 19 [C 9, C 0, S s0, C 1, C 0, S s0, C 1, C 2, S s0, C 1, .ri .i64 0 99 (av n), S s0, C 5, I 5, S s0, C 9, C 0, S s0, C 1, C 0, S s0, C 1, C 2, S s0, C 1, C 1, S s0, C 5, I 0, S s0, C 8, C 2, S s0, C 1, I 0, S s0, C 8, C 3, S s0, C 1, I 0, S s0, C 9, C 0, S s0, C 1, C 1, S s0, C 1, C 2, S s0, C 5, I 5, S s0, C 1, .ri .i64 1 100 (av n + (1 : Int)), S s0] false
def p46 (n : Int) : Ob := vc 126 3 19 [C 10, C 14, S s0, C 1, I 0, S s0, C 1, C 2, S s0, C 3, I 0, S s0, C 3, I 0, S s0, C 9, C 0, S s0, C 1, C 0, S s0, C 1, C 2, S s0, C 1, C 1, S s0, C 5, I 0, S s0, C 8, C 2, S s0, C 1, I 0, S s0, C 8, C 3, S s0, C 1, I 0, S s0, C 9, C 0, S s0, C 1, C 1, S s0, C 1, C 2, S s0, C 5, I 5, S s0, C 1, .ri .i64 1 100 (av n + (1 : Int)), S s0] false
def p47 : Ob := vc 140 4 6 [I 0, I 0, I 0, V 22 8 0 7, I 0, I 0, I 0, V 20 8 0 7, I 1, I 1, I 0, V 24 8 0 11, I 1, I 1, I 0, V 19 8 0 11, I 2, I 2, I 0, V 23 8 0 3, I 2, I 2, I 0, V 21 8 0 7] false
def p48 : Ob := vc 63 3 1 [S s2, V 25 2 0 2, V 26 1 0 1] false
def p49 : Ob := vc 60 2 2 [S s2, V 28 1 0 2, S s2, V 27 1 0 2] false
def p50 : Ob := vc 201 1 1 [V 29 1 0 2] false
def p51 (n : Int) : Ob := vc 126 3 19 [C 9, C 0, S s0, C 1, C 0, S s0, C 1, C 2, S s0, C 1, .ri .i64 0 99 (av n), S s0, C 5, I 5, S s0, C 9, C 0, S s0, C 1, C 0, S s0, C 1, C 2, S s0, C 1, C 1, S s0, C 5, I 0, S s0, C 8, C 2, S s0, C 1, I 0, S s0, C 8, C 3, S s0, C 1, I 0, S s0, C 9, C 0, S s0, C 1, C 1, S s0, C 1, C 2, S s0, C 5, I 0, S s0, C 1, C 2, S s0] false
def p52 (n : Int) : Ob := vc 126 3 19 [C 9, C 0, S s0, C 1, C 0, S s0, C 1, C 2, S s0, C 1, .ri .i64 0 99 (av n), S s0, C 5, I 5, S s0, C 10, C 14, S s0, C 1, I 0, S s0, C 1, C 2, S s0, C 3, I 0, S s0, C 3, I 0, S s0, C 8, C 2, S s0, C 1, I 0, S s0, C 8, C 3, S s0, C 1, I 0, S s0, C 9, C 0, S s0, C 1, C 1, S s0, C 1, C 2, S s0, C 5, I 0, S s0, C 1, C 2, S s0] false
def p53 : Ob := vc 60 2 1 [S s2, V 17 1 0 2] false
def p54 (n : Int) : Ob := vc 126 3 19 [C 8, C 2, S s0, C 1, I 0, S s0, C 8, C 3, S s0, C 1, I 0, S s0, C 9, C 0, S s0, C 1, C 0, S s0, C 1, C 2, S s0, C 1, .ri .i64 0 99 (av n), S s0, C 5, C 9, S s0, C 9, C 0, S s0, C 1, C 0, S s0, C 1, C 2, S s0, C 1, C 1, S s0, C 5, C 4, S s0, C 9, C 0, S s0, C 1, C 1, S s0, C 1, C 2, S s0, C 5, C 9, S s0, C 1, .ri .i64 1 100 (av n + (1 : Int)), S s0] false
def p55 (n : Int) : Ob := vc 126 3 19 [C 8, C 2, S s0, C 1, I 0, S s0, C 8, C 3, S s0, C 1, I 0, S s0, C 10, C 14, S s0, C 1, I 0, S s0, C 1, C 2, S s0, C 3, I 0, S s0, C 3, I 0, S s0, C 9, C 0, S s0, C 1, C 0, S s0, C 1, C 2, S s0, C 1, C 1, S s0, C 5, C 4, S s0, C 9, C 0, S s0, C 1, C 1, S s0, C 1, C 2, S s0, C 5, C 9, S s0, C 1, .ri .i64 1 100 (av n + (1 : Int)), S s0] false
def p56 (n : Int) : Ob := vc 126 3 24 [C 8, C 2, S s0, C 1, I 0, S s0, C 8, C 3, S s0, C 1, I 0, S s0, C 10, C 14, S s0, C 1, I 0, S s0, C 1, C 2, S s0, C 3, I 0, S s0, C 3, I 0, S s0, C 9, C 0, S s0, C 1, C 0, S s0, C 1, C 2, S s0, C 1, C 1, S s0, C 5, C 4, S s0, C 9, C 0, S s0, C 1, C 1, S s0, C 1, C 2, S s0, C 5, C 9, S s0, C 1, .ri .i64 1 100 (av n + (1 : Int)), S s0, C 9, C 0, S s0, C 1, C 1, S s0, C 1, C 2, S s0, C 5, C 4, S s0, C 1, C 2, S s0] false
def p57 (n : Int) : Ob := vc 126 3 24 [C 8, C 2, S s0, C 1, I 0, S s0, C 8, C 3, S s0, C 1, I 0, S s0, C 10, C 14, S s0, C 1, I 0, S s0, C 1, C 2, S s0, C 3, I 0, S s0, C 3, I 0, S s0, C 10, C 19, S s0, C 1, I 0, S s0, C 1, C 2, S s0, C 3, I 0, S s0, C 3, I 0, S s0, C 9, C 0, S s0, C 1, C 1, S s0, C 1, C 2, S s0, C 5, C 9, S s0, C 1, .ri .i64 1 100 (av n + (1 : Int)), S s0, C 9, C 0, S s0, C 1, C 1, S s0, C 1, C 2, S s0, C 5, C 4, S s0, C 1, C 2, S s0] false
def p58 : Ob := vc 140 4 6 [I 0, I 0, I 0, V 8 8 0 7, I 0, I 0, I 0, V 6 8 0 7, I 1, I 1, I 0, V 10 8 0 11, I 1, I 1, I 0, V 5 8 0 11, I 2, I 2, I 0, V 9 8 0 3, I 2, I 2, I 0, V 7 8 0 7] false
def p59 : Ob := vc 63 3 1 [S s2, V 11 2 0 2, V 12 1 0 1] false
def p60 : Ob := vc 60 2 2 [S s2, V 14 1 0 2, S s2, V 13 1 0 2] false
def p61 : Ob := vc 201 1 1 [V 15 1 0 2] false
def p62 : Ob := vc 63 3 1 [S s2, V 26 2 0 2, V 27 1 0 1] false
def p63 : Ob := vc 60 2 2 [S s2, V 29 1 0 2, S s2, V 28 1 0 2] false
def p64 : Ob := vc 201 1 1 [V 30 1 0 2] false
def p65 : Ob := vc 140 4 7 [I 0, I 0, I 0, V 7 8 0 7, I 0, I 0, I 0, V 5 8 0 7, I 1, I 1, I 0, V 9 8 0 11, I 1, I 1, I 0, V 4 8 0 11, I 2, I 2, I 0, V 8 8 0 3, I 2, I 2, I 0, V 6 8 0 7, I 0, I 0, I 0, V 10 8 0 6] false
def p66 : Ob := vc 60 2 2 [S s2, V 12 1 0 2, S s2, V 11 1 0 2] false
def p67 : Ob := vc 201 1 1 [V 13 1 0 2] false
def p68 : Ob := vc 140 4 6 [I 0, I 0, I 0, V 23 8 0 7, I 0, I 0, I 0, V 21 8 0 7, I 1, I 1, I 0, V 25 8 0 11, I 1, I 1, I 0, V 20 8 0 11, I 2, I 2, I 0, V 24 8 0 3, I 2, I 2, I 0, V 22 8 0 7] false
def p69 : Ob := vc 140 4 7 [I 0, I 0, I 0, V 7 8 0 7, I 0, I 0, I 0, V 5 8 0 7, I 1, I 1, I 0, V 9 8 0 11, I 1, I 1, I 0, V 4 8 0 11, I 2, I 2, I 0, V 8 8 0 3, I 2, I 2, I 0, V 6 8 0 7, I 1, I 1, I 0, V 10 8 0 13] false
def p70 (n : Int) : Ob := vc 126 3 26 [C 8, C 2, S s0, C 1, I 0, S s0, C 8, C 3, S s0, C 1, I 0, S s0, C 10, C 14, S s0, C 1, I 0, S s0, C 1, C 2, S s0, C 3, I 0, S s0, C 3, I 0, S s0, C 10, C 19, S s0, C 1, I 0, S s0, C 1, C 2, S s0, C 3, I 0, S s0, C 3, I 0, S s0, C 9, C 0, S s0, C 1, C 1, S s0, C 1, C 2, S s0, C 5, C 9, S s0, C 1, .ri .i64 1 100 (av n + (1 : Int)), S s0, C 9, C 0, S s0, C 1, C 1, S s0, C 1, C 2, S s0, C 5, C 4, S s0, C 1, C 2, S s0, C 8, C 6, S s0, C 1, I 0, S s0] false
def p71 : Ob := vc 140 4 7 [I 0, I 0, I 0, V 8 8 0 7, I 0, I 0, I 0, V 6 8 0 7, I 1, I 1, I 0, V 10 8 0 11, I 1, I 1, I 0, V 5 8 0 11, I 2, I 2, I 0, V 9 8 0 3, I 2, I 2, I 0, V 7 8 0 7, I 1, I 1, I 0, V 11 8 0 13] false
def p72 : Ob := vc 63 3 1 [S s2, V 12 2 0 2, V 13 1 0 1] false
def p73 : Ob := vc 60 2 2 [S s2, V 15 1 0 2, S s2, V 14 1 0 2] false
def p74 : Ob := vc 201 1 1 [V 16 1 0 2] false
def p75 : Ob := vc 140 4 7 [I 0, I 0, I 0, V 24 8 0 7, I 0, I 0, I 0, V 22 8 0 7, I 1, I 1, I 0, V 26 8 0 11, I 1, I 1, I 0, V 21 8 0 11, I 2, I 2, I 0, V 25 8 0 3, I 2, I 2, I 0, V 23 8 0 7, I 1, I 1, I 0, V 27 8 0 13] false
def p76 : Ob := vc 63 3 1 [S s2, V 28 2 0 2, V 29 1 0 1] false
def p77 : Ob := vc 60 2 2 [S s2, V 31 1 0 2, S s2, V 30 1 0 2] false
def p78 : Ob := vc 201 1 1 [V 32 1 0 2] false
def p79 : Ob := vc 140 4 8 [I 0, I 0, I 0, V 8 8 0 7, I 0, I 0, I 0, V 6 8 0 7, I 1, I 1, I 0, V 10 8 0 11, I 1, I 1, I 0, V 5 8 0 11, I 2, I 2, I 0, V 9 8 0 3, I 2, I 2, I 0, V 7 8 0 7, I 1, I 1, I 0, V 11 8 0 13, I 0, I 0, I 0, V 4 8 0 6] false
def a0 : SV := .agg [aG, aG, aG, aG, C 4000]
def a1 : SV := .agg [V 0 4 0 4, J, V 1 3 0 1, J, J]
def a2 : SV := .agg [V 0 4 0 4, V 1 4 0 4, V 2 3 0 1, J, J]
def a3 : SV := .agg [I 0, I 0, I 0, V 3 8 0 7]
def a4 : SV := .agg [I 1, I 1, I 0, V 3 8 0 11]
def a5 : SV := .agg [V 0 4 0 4, V 1 4 0 4, V 2 3 0 1, aG, C 4000]
def a6 : SV := .agg [V 0 4 0 4, V 1 4 0 4, V 2 3 0 1, V 3 3 0 2, C 4000]
def a7 : SV := .agg [V 0 4 0 4, V 1 4 0 4, V 2 3 0 1, V 3 3 0 4, C 4000]
def a8 : SV := .agg [I 0, I 0, I 0, V 4 8 0 7]
def a9 : SV := .agg [.sl 0 4 0 4 (some 4), J, V 1 3 0 1, J, J]
def a10 : SV := .agg [.sl 0 4 0 4 (some 4), V 1 4 0 4, V 2 3 0 1, J, J]
def a11 : SV := .agg [.sl 0 4 0 4 (some 4), V 1 4 0 4, V 2 3 0 1, V 3 3 0 9, C 4000]
def a12 : SV := .agg [.sl 0 4 0 4 (some 4), V 1 4 0 4, V 2 3 0 1, V 3 3 0 14, C 4000]
def a13 : SV := .agg [I 0, I 0, I 0, V 3 8 0 6]
def a14 : SV := .agg [I 0, I 0, I 0, V 4 8 0 6]
def a15 : SV := .agg [V 0 4 0 4, V 1 4 0 4, V 2 3 0 1, V 3 3 0 14, C 4000]
def a16 : SV := .agg [S s2, V 2 2 0 2, V 3 1 0 1]
def a17 : SV := .agg [V 0 4 0 6, V 1 4 0 4, V 2 3 0 1, J, J]
def a18 : SV := .agg [I 2, I 2, I 0, V 3 8 0 3]
def a19 : SV := .agg [I 2, I 2, I 0, V 3 8 0 7]
def a20 : SV := .agg [V 0 4 0 6, V 1 4 0 4, V 2 3 0 1, V 3 3 0 14, C 4000]
def a21 : SV := .agg [.sl 0 4 0 6 (some 6), V 1 4 0 4, V 2 3 0 1, J, J]
def a22 : SV := .agg [.sl 0 4 0 6 (some 6), V 1 4 0 4, V 2 3 0 1, V 3 3 0 24, C 4000]
def a23 : SV := .agg [V 0 4 0 6, V 1 4 0 4, V 2 3 0 1, V 3 3 0 24, C 4000]
def a24 : SV := .agg [V 0 4 0 7, V 1 4 0 5, V 2 3 0 1, J, J]
def a25 : SV := .agg [I 1, I 1, I 0, V 3 8 0 13]
def a26 : SV := .agg [V 0 4 0 7, V 1 4 0 5, V 2 3 0 1, V 3 3 0 24, C 4000]
def a27 : SV := .agg [V 0 4 0 7, V 1 4 0 5, V 2 3 0 1, V 3 3 0 26, C 4000]
def a28 : SV := .agg [.sl 0 4 0 7 (some 7), V 1 4 0 5, V 2 3 0 1, J, J]
def a29 : SV := .agg [.sl 0 4 0 7 (some 7), V 1 4 0 5, V 2 3 0 1, V 3 3 0 26, C 4000]
def w0 (n : Int) : List (Option Ob) := [some p0, some p1, some p2, some p3, some o0, some (p4 n), some p5, some (vc 9 1 1 [S s9] false), some (vc 9 1 1 [S s9] false), some p6, some p7, some p8, some (vc 9 1 1 [S s4] true), some (vc 9 1 1 [S s4] true), some o1, some (vc 9 1 1 [S s4] true), some o2]
def w1 (n : Int) : List (Option Ob) := [some p27, some o21, some p19, some (p28 n), some o4, some o5, some (p12 n), some o5, some o6, some p20, some p2]
def w2 (n : Int) : List (Option Ob) := [some p36, some o21, some p19, some (p34 n), some o4, some o5, some (p12 n), some o24, some o6, some p20, some p2]
def w3 (n : Int) : List (Option Ob) := [some p14, some o21, some p15, some (p34 n), some o4, some o5, some (p12 n), some o6, some p18, some p2]
def w4 (n : Int) : List (Option Ob) := [some p38, some o21, some p41, some (p34 n), some o4, some o5, some o26, some (p12 n), some o27, some o6, some p42, some p43, some p37, some p2, some p40]
def w5 (n : Int) : List (Option Ob) := [some p38, some o29, some p41, some (p44 n), some o4, some o5, some o26, some (p12 n), some o27, some o6, some p42, some p43, some p37, some p2, some p40]
def w6 (n : Int) : List (Option Ob) := [some p65, some o21, some p59, some (p57 n), some o4, some o5, some o26, some (p12 n), some o27, some o6, some o32, some p60, some p61, some p37, some p2, some p40]
def w7 (n : Int) : List (Option Ob) := [some p68, some o21, some p62, some (p57 n), some o4, some o5, some o26, some (p12 n), some o27, some o6, some p63, some p64, some p37, some p2, some p40]
def w8 (n : Int) : List (Option Ob) := [some p38, some o21, some p41, some (p57 n), some o4, some o5, some o26, some (p12 n), some o27, some o6, some p42, some p43, some p37, some p2, some p40]
def w9 (n : Int) : List (Option Ob) := [some p69, some o42, some p59, some (p70 n), some o4, some o5, some o26, some (p12 n), some o27, some o6, some o37, some p60, some p61, some p37, some p2, some p40]
def w10 (n : Int) : List (Option Ob) := [some p79, some o42, some p72, some (p70 n), some o43, some o4, some o5, some o26, some (p12 n), some o27, some o6, some o37, some p73, some p74, some p37, some p2, some p40]
def w11 (n : Int) : List (Option Ob) := [some p75, some o42, some p76, some (p70 n), some o4, some o5, some o26, some (p12 n), some o27, some o6, some o37, some p77, some p78, some p37, some p2, some p40]
def e0 (n : Int) : TE := ⟨0, [aG], [], .tup [.nm 0, .kb true], [some (.mp (.int .i64) .bool [])]⟩
def e1 (n : Int) : TE := ⟨0, [.agg [aG, C 4000]], [], I 0, []⟩
def e2 (n : Int) : TE := ⟨0, [.agg [aG, aG]], [], I 0, []⟩
def e3 (n : Int) : TE := ⟨0, [a0], [], I 0, []⟩
def e4 (n : Int) : TE := ⟨0, [a0], [], .tup [.agg [aG, aG], I 0], []⟩
def e5 (n : Int) : TE := ⟨0, [D (.arr 4 5 (dxL [(ls [(sy s1), (sy s2), (sy s3), (sy s4)]), (ls [(sy s5), (sy s6), (ls [(sy s2), (nu 0 99 (av n)), (num 0)])]), (ls [(sy s5), (sy s7), (ls [(sy s2), (num 1), (sy s6)])]), (ls [(sy s5), (ls [(sy s8), (sy s9)]), (ls [(sy s10), (ls [(sy s11), (sy s6), (sy s7)]), (num 0)])]), (ls [(sy s5), (ls [(sy s12), (sy s9)]), (ls [(sy s13), (sy s6), (ls [(sy s14), (ls [(sy s14), (sy s6)])])])])])), .agg [aG, aG]], [], .tup [.agg [V 0 2 0 1, V 1 10 0 4, aG], I 0, I 0], (w0 n)⟩
def e6 (n : Int) : TE := ⟨2, [.agg [V 0 1 0 4, V 1 2 0 1]], [some o7, some p9], I 0, []⟩
def e7 (n : Int) : TE := ⟨8, [a1, .agg [S s2, V 2 2 0 1, aG]], [some p10, some p11, some (vc 60 2 1 [S s2, V 7 1 0 2] true), some o4, some o5, some (p12 n), some o6, some p2], .kb true, []⟩
def e8 (n : Int) : TE := ⟨0, [.agg [aG, C 50]], [], I 0, []⟩
def e9 (n : Int) : TE := ⟨4, [a2, a3], [some o8, some o9, some p13, some (p12 n)], .kb true, []⟩
def e10 (n : Int) : TE := ⟨4, [a2, a3], [some o8, some o9, some p13, some o5], .kb true, []⟩
def e11 (n : Int) : TE := ⟨4, [a2, a4], [some o8, some o9, some p13, some o6], .kb true, []⟩
def e12 (n : Int) : TE := ⟨4, [a2, a4], [some o8, some o9, some p13, some o4], .kb true, []⟩
def e13 (n : Int) : TE := ⟨9, [a5], [some p10, some o3, some (vc 63 3 1 [S s2, V 7 2 0 1, aG] false), some o4, some o5, some (p12 n), some o6, some (vc 60 2 1 [S s2, V 8 1 0 2] true), some p2], I 0, []⟩
def e14 (n : Int) : TE := ⟨1, [V 0 3 0 2], [some o11], .tup [.nm 1, .kb true], [some o12]⟩
def e15 (n : Int) : TE := ⟨1, [.agg [V 0 3 0 2, C 4000]], [some o11], I 0, []⟩
def e16 (n : Int) : TE := ⟨10, [a5, V 3 3 0 2, aG], [some p14, some o3, some p15, some o10, some o4, some o5, some (p12 n), some o6, some (vc 60 2 1 [S s2, V 9 1 0 2] true), some p2], .tup [.agg [V 10 4 0 4, V 11 4 0 4, V 12 3 0 1, V 13 3 0 2, C 4000], .agg [C 5, C 0, S s0], I 0], [some (vc 140 4 4 [I 0, I 0, I 0, V 16 8 0 7, I 0, I 0, I 0, V 15 8 0 7, I 1, I 1, I 0, V 17 8 0 11, I 1, I 1, I 0, V 14 8 0 11] false), some o3, some p16, some o11, some o4, some o5, some (p12 n), some o6, some p17, some p2]⟩
def e17 (n : Int) : TE := ⟨8, [a1, .agg [S s2, V 2 2 0 1, aG]], [some p10, some p11, some (vc 60 2 1 [S s2, V 7 1 0 2] false), some o4, some o5, some (p12 n), some o6, some p2], .kb true, []⟩
def e18 (n : Int) : TE := ⟨10, [a6], [some p14, some o13, some p15, some o11, some o4, some o5, some (p12 n), some o6, some p18, some p2], I 0, []⟩
def e19 (n : Int) : TE := ⟨1, [V 0 3 0 4], [some o15], .tup [.nm 1, .kb true], [some o16]⟩
def e20 (n : Int) : TE := ⟨1, [.agg [V 0 3 0 4, C 4000]], [some o15], I 0, []⟩
def e21 (n : Int) : TE := ⟨11, [a6, V 4 3 0 2, aG], [some (vc 140 4 4 [I 0, I 0, I 0, V 7 8 0 7, I 0, I 0, I 0, V 6 8 0 7, I 1, I 1, I 0, V 8 8 0 11, I 1, I 1, I 0, V 5 8 0 11] false), some o13, some p19, some o11, some o14, some o4, some o5, some (p12 n), some o6, some p20, some p2], .tup [.agg [V 11 4 0 4, V 12 4 0 4, V 13 3 0 1, V 14 3 0 4, C 4000], .agg [C 5, C 2, S s0], I 0], [some p21, some o13, some p22, some o15, some o4, some o5, some (p12 n), some o6, some p23, some p2]⟩
def e22 (n : Int) : TE := ⟨10, [a7], [some p14, some o17, some p15, some o15, some o4, some o5, some (p12 n), some o6, some p18, some p2], I 0, []⟩
def e23 (n : Int) : TE := ⟨10, [a7, a8, I 20000], [some (vc 140 4 4 [I 0, I 0, I 0, V 4 8 0 7, I 0, I 0, I 0, V 6 8 0 7, I 1, I 1, I 0, V 7 8 0 11, I 1, I 1, I 0, V 5 8 0 11] false), some o17, some p15, some o15, some (p12 n), some o4, some o5, some o6, some p18, some p2], .tup [.agg [.sl 10 4 0 4 (some 4), V 11 4 0 4, V 12 3 0 1, V 13 3 0 9, C 4000], .agg [C 5, C 4, S s0], I 0], [some (vc 140 4 5 [I 0, I 0, I 0, V 16 8 0 7, I 0, I 0, I 0, V 15 8 0 7, I 1, I 1, I 0, V 17 8 0 11, I 1, I 1, I 0, V 14 8 0 11, I 0, I 0, I 0, V 4 8 0 7] false), some o17, some p16, some (p24 n), some o4, some o5, some (p12 n), some o6, some p17, some p2]⟩
def e24 (n : Int) : TE := ⟨1, [V 0 3 0 9], [some (p24 n)], .tup [.nm 1, .kb true], [some o19]⟩
def e25 (n : Int) : TE := ⟨1, [.agg [V 0 3 0 9, C 4000]], [some (p24 n)], I 0, []⟩
def e26 (n : Int) : TE := ⟨9, [a9, .agg [S s2, V 2 2 0 1, aG]], [some p25, some p11, some p26, some o4, some o5, some (p12 n), some (p12 n), some o6, some p2], .kb true, []⟩
def e27 (n : Int) : TE := ⟨4, [a10, a3], [some o20, some o9, some p13, some (p12 n)], .kb true, []⟩
def e28 (n : Int) : TE := ⟨4, [a10, a3], [some o20, some o9, some p13, some o5], .kb true, []⟩
def e29 (n : Int) : TE := ⟨4, [a10, a4], [some o20, some o9, some p13, some o6], .kb true, []⟩
def e30 (n : Int) : TE := ⟨4, [a10, a4], [some o20, some o9, some p13, some o4], .kb true, []⟩
def e31 (n : Int) : TE := ⟨11, [a11], [some p27, some o18, some p19, some (p24 n), some o4, some o5, some (p12 n), some (p12 n), some o6, some p20, some p2], I 0, []⟩
def e32 (n : Int) : TE := ⟨11, [a11, a8, I 20000], [some (vc 140 4 5 [I 0, I 0, I 0, V 6 8 0 7, I 0, I 0, I 0, V 4 8 0 7, I 1, I 1, I 0, V 8 8 0 11, I 1, I 1, I 0, V 5 8 0 11, I 0, I 0, I 0, V 7 8 0 7] false), some o18, some p19, some (p24 n), some o5, some o4, some (p12 n), some (p12 n), some o6, some p20, some p2], .tup [.agg [.sl 11 4 0 4 (some 4), V 12 4 0 4, V 13 3 0 1, V 14 3 0 14, C 4000], .agg [C 5, C 9, S s0], I 0], [some (vc 140 4 5 [I 0, I 0, I 0, V 17 8 0 7, I 0, I 0, I 0, V 16 8 0 7, I 1, I 1, I 0, V 18 8 0 11, I 1, I 1, I 0, V 15 8 0 11, I 0, I 0, I 0, V 4 8 0 7] false), some o18, some p22, some (p28 n), some o4, some o5, some (p12 n), some o6, some p23, some p2]⟩
def e33 (n : Int) : TE := ⟨17, [a0, .agg [V 0 2 0 1, V 1 10 0 4, aG]], (w0 n), .tup [.agg [.sl 17 4 0 4 (some 4), V 18 4 0 4, V 19 3 0 1, V 20 3 0 14, C 4000], I 0], [some (vc 140 4 5 [I 0, I 0, I 0, V 23 8 0 7, I 0, I 0, I 0, V 22 8 0 7, I 1, I 1, I 0, V 25 8 0 11, I 1, I 1, I 0, V 21 8 0 11, I 0, I 0, I 0, V 24 8 0 7] false), some o21, some (vc 63 3 1 [S s2, V 26 2 0 1, aG] false), some (p28 n), some o4, some o5, some (p12 n), some o5, some o6, some (vc 60 2 1 [S s2, V 27 1 0 2] false), some p2]⟩
def e34 (n : Int) : TE := ⟨0, [a0, .sy (s20 ++ aP (av n) ++ s21)], [], .tup [.agg [.sl 0 4 0 4 (some 4), V 1 4 0 4, V 2 3 0 1, V 3 3 0 14, C 4000], I 0], (w1 n)⟩
def e35 (n : Int) : TE := ⟨1, [V 0 3 0 14], [some (p28 n)], .tup [.nm 1, .kb true], [some o23]⟩
def e36 (n : Int) : TE := ⟨1, [.agg [V 0 3 0 14, C 4000]], [some (p28 n)], I 0, []⟩
def e37 (n : Int) : TE := ⟨9, [a9, .agg [S s2, V 2 2 0 1, aG]], [some p25, some p11, some p26, some o4, some o5, some (p12 n), some o5, some o6, some p2], .kb true, []⟩
def e38 (n : Int) : TE := ⟨11, [a12], (w1 n), I 0, []⟩
def e39 (n : Int) : TE := ⟨11, [a12], (w1 n), .tup [.agg [V 11 1 0 4, V 12 2 0 1], I 0], [some o7, some p29, some p2]⟩
def e40 (n : Int) : TE := ⟨4, [a10, a13], [some o20, some o9, some p13, some o24], .kb true, []⟩
def e41 (n : Int) : TE := ⟨12, [a12, a14, I 5000], [some p30, some o21, some p31, some (p28 n), some o24, some o4, some o5, some (p12 n), some o5, some o6, some p32, some p2], .tup [.agg [.sl 12 4 0 4 (some 4), V 13 4 0 4, V 14 3 0 1, V 15 3 0 14, C 4000], .agg [C 1, C 0, S s0], I 0], [some (vc 140 4 5 [I 0, I 0, I 0, V 18 8 0 7, I 0, I 0, I 0, V 17 8 0 7, I 1, I 1, I 0, V 19 8 0 11, I 1, I 1, I 0, V 16 8 0 11, I 0, I 0, I 0, V 4 8 0 6] false), some o21, some p33, some (p34 n), some o4, some o5, some (p12 n), some o6, some p35, some p2]⟩
def e42 (n : Int) : TE := ⟨1, [V 0 3 0 14], [some (p34 n)], .tup [.nm 1, .kb true], [some o23]⟩
def e43 (n : Int) : TE := ⟨1, [.agg [V 0 3 0 14, C 4000]], [some (p34 n)], I 0, []⟩
def e44 (n : Int) : TE := ⟨9, [a9, .agg [S s2, V 2 2 0 1, aG]], [some (vc 140 4 5 [I 0, I 0, I 0, V 5 8 0 7, I 0, I 0, I 0, V 4 8 0 7, I 1, I 1, I 0, V 7 8 0 11, I 1, I 1, I 0, V 3 8 0 11, I 0, I 0, I 0, V 6 8 0 6] false), some p11, some p26, some o4, some o5, some (p12 n), some o24, some o6, some p2], .kb true, []⟩
def e45 (n : Int) : TE := ⟨11, [a12], (w2 n), I 0, []⟩
def e46 (n : Int) : TE := ⟨11, [a12, .agg [C 1, C 0, S s0]], (w2 n), .tup [.agg [V 11 4 0 4, V 12 4 0 4, V 13 3 0 1, V 14 3 0 14, C 4000], .sy (aP 0), I 0], [some p21, some o21, some p22, some (p34 n), some o4, some o5, some (p12 n), some o6, some p23, some p2]⟩
def e47 (n : Int) : TE := ⟨12, [a12, .agg [C 2, S s0, S s8, V 4 4 0 1, C 5000]], [some p30, some o21, some p31, some (p28 n), some o22, some o4, some o5, some (p12 n), some o5, some o6, some p32, some p2], .tup [.agg [V 12 4 0 4, V 13 4 0 4, V 14 3 0 1, V 15 3 0 14, C 4000], .sy (aP 0), I 0], [some (vc 140 4 4 [I 0, I 0, I 0, V 18 8 0 7, I 0, I 0, I 0, V 17 8 0 7, I 1, I 1, I 0, V 19 8 0 11, I 1, I 1, I 0, V 16 8 0 11] false), some o21, some p33, some (p34 n), some o4, some o5, some (p12 n), some o6, some p35, some p2]⟩
def e48 (n : Int) : TE := ⟨10, [a15], (w3 n), I 0, []⟩
def e49 (n : Int) : TE := ⟨10, [a15], (w3 n), .tup [.agg [V 10 1 0 4, V 11 2 0 1], I 0], [some o7, some (vc 60 2 1 [S s2, V 12 1 0 2] false), some p2]⟩
def e50 (n : Int) : TE := ⟨3, [.agg [V 0 1 0 4, V 1 2 0 1]], [some o7, some p0, some p2], I 0, []⟩
def e51 (n : Int) : TE := ⟨3, [D (.arr 4 2 (dxL [(ls [(sy s1), (sy s2), (sy s4), (sy s3)]), (ls [(sy s15), (sy s2), (ls [(sy s16), (sy s4)]), (ls [(sy s17), (ls [(sy s16), (sy s3)]), (num 1)])])])), .agg [V 0 1 0 4, V 1 2 0 1]], [some o7, some p0, some p2], .tup [.agg [V 3 2 0 1, aG, V 4 2 0 1], I 0, I 0], [some (vc 60 2 1 [S s2, V 5 1 0 2] false), some (vc 194 2 1 [S s2, V 6 9 0 2] false), some p37, some (vc 134 9 2 [C 15, I 0, I 0, S s0, aG, S s0, C 1, aG, aG, C 10, I 0, I 0, S s0, aG, S s17, I 0, aG, V 7 9 0 2] false), some o25]⟩
def e52 (n : Int) : TE := ⟨13, [.agg [V 0 4 0 6, J, V 1 3 0 1, J, J], a16], [some p38, some p39, some (vc 60 2 2 [S s2, V 11 1 0 2, S s2, V 10 1 0 2] false), some (vc 201 1 1 [V 12 1 0 2] false), some o4, some o5, some o26, some (p12 n), some o27, some o6, some p37, some p2, some p40], .kb true, []⟩
def e53 (n : Int) : TE := ⟨4, [a17, a3], [some o28, some o9, some p13, some (p12 n)], .kb true, []⟩
def e54 (n : Int) : TE := ⟨4, [a17, a3], [some o28, some o9, some p13, some o5], .kb true, []⟩
def e55 (n : Int) : TE := ⟨4, [a17, a4], [some o28, some o9, some p13, some o6], .kb true, []⟩
def e56 (n : Int) : TE := ⟨4, [a17, a4], [some o28, some o9, some p13, some o4], .kb true, []⟩
def e57 (n : Int) : TE := ⟨4, [a17, a18], [some o28, some o9, some p13, some o27], .kb true, []⟩
def e58 (n : Int) : TE := ⟨4, [a17, a19], [some o28, some o9, some p13, some o26], .kb true, []⟩
def e59 (n : Int) : TE := ⟨15, [a20], (w4 n), I 0, []⟩
def e60 (n : Int) : TE := ⟨1, [V 0 3 0 14], [some (p44 n)], .tup [.nm 1, .kb true], [some o30]⟩
def e61 (n : Int) : TE := ⟨1, [.agg [V 0 3 0 14, C 4000]], [some (p44 n)], I 0, []⟩
def e62 (n : Int) : TE := ⟨15, [a20], (w5 n), I 0, []⟩
def e63 (n : Int) : TE := ⟨1, [V 0 3 0 19], [some (p45 n)], .tup [.nm 1, .kb true], [some o31]⟩
def e64 (n : Int) : TE := ⟨1, [.agg [V 0 3 0 19, C 4000]], [some (p45 n)], I 0, []⟩
def e65 (n : Int) : TE := ⟨1, [V 0 3 0 19], [some (p46 n)], .tup [.nm 1, .kb true], [some o31]⟩
def e66 (n : Int) : TE := ⟨1, [.agg [V 0 3 0 19, C 4000]], [some (p46 n)], I 0, []⟩
def e67 (n : Int) : TE := ⟨15, [a20, .agg [C 5, C 0, S s0]], (w5 n), .tup [.agg [V 15 4 0 6, V 16 4 0 4, V 17 3 0 1, V 18 3 0 19, C 4000], .agg [C 5, I 14, S s0], I 0], [some p47, some o29, some p48, some (p46 n), some o4, some o5, some o26, some (p12 n), some o27, some o6, some p49, some p50, some p37, some p2, some p40]⟩
def e68 (n : Int) : TE := ⟨1, [V 0 3 0 19], [some (p51 n)], .tup [.nm 1, .kb true], [some o31]⟩
def e69 (n : Int) : TE := ⟨1, [.agg [V 0 3 0 19, C 4000]], [some (p51 n)], I 0, []⟩
def e70 (n : Int) : TE := ⟨1, [V 0 3 0 19], [some (p52 n)], .tup [.nm 1, .kb true], [some o31]⟩
def e71 (n : Int) : TE := ⟨1, [.agg [V 0 3 0 19, C 4000]], [some (p52 n)], I 0, []⟩
def e72 (n : Int) : TE := ⟨15, [a20, .agg [C 5, C 5, S s0]], (w5 n), .tup [.agg [V 15 4 0 6, V 16 4 0 4, V 17 3 0 1, V 18 3 0 19, C 4000], .agg [C 5, I 14, S s0], I 0], [some p47, some o29, some p48, some (p52 n), some o4, some o5, some o26, some (p12 n), some o27, some o6, some p49, some p50, some p37, some p2, some p40]⟩
def e73 (n : Int) : TE := ⟨15, [a15, .agg [V 4 2 0 1, aG, V 5 2 0 1]], [some (vc 140 4 4 [I 0, I 0, I 0, V 8 8 0 7, I 0, I 0, I 0, V 7 8 0 7, I 1, I 1, I 0, V 9 8 0 11, I 1, I 1, I 0, V 6 8 0 11] false), some o21, some p31, some (p34 n), some p32, some (vc 194 2 1 [S s2, V 12 9 0 2] false), some o4, some o5, some (p12 n), some o6, some p29, some p37, some (vc 134 9 2 [C 15, I 0, I 0, S s0, aG, S s0, C 1, aG, aG, C 10, I 0, I 0, S s0, aG, S s17, I 0, aG, V 14 9 0 2] false), some p2, some o25], .tup [.agg [V 15 4 0 6, V 16 4 0 4, V 17 3 0 1, V 18 3 0 14, C 4000], I 0], [some p47, some o21, some p48, some (p34 n), some o4, some o5, some o26, some (p12 n), some o27, some o6, some p49, some p50, some p37, some p2, some p40]⟩
def e74 (n : Int) : TE := ⟨10, [a15, S s22], (w3 n), .tup [.agg [V 10 4 0 6, V 11 4 0 4, V 12 3 0 1, V 13 3 0 14, C 4000], I 0], [some (vc 140 4 6 [I 0, I 0, I 0, V 17 8 0 7, I 0, I 0, I 0, V 15 8 0 7, I 1, I 1, I 0, V 19 8 0 11, I 1, I 1, I 0, V 14 8 0 11, I 2, I 2, I 0, V 18 8 0 3, I 2, I 2, I 0, V 16 8 0 7] false), some o21, some (vc 63 3 1 [S s2, V 20 2 0 2, V 21 1 0 1] false), some (p34 n), some o4, some o5, some o26, some (p12 n), some o27, some o6, some (vc 60 2 2 [S s2, V 23 1 0 2, S s2, V 22 1 0 2] false), some (vc 201 1 1 [V 24 1 0 2] false), some p37, some p2, some p40]⟩
def e75 (n : Int) : TE := ⟨15, [a20], (w4 n), .tup [.agg [V 15 1 0 4, V 16 2 0 1], I 0], [some o7, some p53, some p37]⟩
def e76 (n : Int) : TE := ⟨4, [a17, a13], [some o28, some o9, some p13, some o32], .kb true, []⟩
def e77 (n : Int) : TE := ⟨1, [V 0 3 0 19], [some (p54 n)], .tup [.nm 1, .kb true], [some o33]⟩
def e78 (n : Int) : TE := ⟨1, [.agg [V 0 3 0 19, C 4000]], [some (p54 n)], I 0, []⟩
def e79 (n : Int) : TE := ⟨1, [V 0 3 0 19], [some (p55 n)], .tup [.nm 1, .kb true], [some o33]⟩
def e80 (n : Int) : TE := ⟨1, [.agg [V 0 3 0 19, C 4000]], [some (p55 n)], I 0, []⟩
def e81 (n : Int) : TE := ⟨1, [V 0 3 0 24], [some (p56 n)], .tup [.nm 1, .kb true], [some o34]⟩
def e82 (n : Int) : TE := ⟨1, [.agg [V 0 3 0 24, C 4000]], [some (p56 n)], I 0, []⟩
def e83 (n : Int) : TE := ⟨1, [V 0 3 0 24], [some (p57 n)], .tup [.nm 1, .kb true], [some o34]⟩
def e84 (n : Int) : TE := ⟨1, [.agg [V 0 3 0 24, C 4000]], [some (p57 n)], I 0, []⟩
def e85 (n : Int) : TE := ⟨16, [a20, a14, I 5000], [some p58, some o21, some p59, some (p34 n), some o32, some o4, some o5, some o26, some (p12 n), some o27, some o6, some p60, some p61, some p37, some p2, some p40], .tup [.agg [.sl 16 4 0 6 (some 6), V 17 4 0 4, V 18 3 0 1, V 19 3 0 24, C 4000], .agg [C 2, I 1, S s0], I 0], [some (vc 140 4 7 [I 0, I 0, I 0, V 23 8 0 7, I 0, I 0, I 0, V 21 8 0 7, I 1, I 1, I 0, V 25 8 0 11, I 1, I 1, I 0, V 20 8 0 11, I 2, I 2, I 0, V 24 8 0 3, I 2, I 2, I 0, V 22 8 0 7, I 0, I 0, I 0, V 4 8 0 6] false), some o21, some p62, some (p57 n), some o4, some o5, some o26, some (p12 n), some o27, some o6, some p63, some p64, some p37, some p2, some p40]⟩
def e86 (n : Int) : TE := ⟨14, [.agg [.sl 0 4 0 6 (some 6), J, V 1 3 0 1, J, J], a16], [some p65, some p39, some p66, some p67, some o4, some o5, some o26, some (p12 n), some o27, some o6, some o32, some p37, some p2, some p40], .kb true, []⟩
def e87 (n : Int) : TE := ⟨4, [a21, a3], [some o35, some o9, some p13, some (p12 n)], .kb true, []⟩
def e88 (n : Int) : TE := ⟨4, [a21, a3], [some o35, some o9, some p13, some o5], .kb true, []⟩
def e89 (n : Int) : TE := ⟨4, [a21, a4], [some o35, some o9, some p13, some o6], .kb true, []⟩
def e90 (n : Int) : TE := ⟨4, [a21, a4], [some o35, some o9, some p13, some o4], .kb true, []⟩
def e91 (n : Int) : TE := ⟨4, [a21, a18], [some o35, some o9, some p13, some o27], .kb true, []⟩
def e92 (n : Int) : TE := ⟨4, [a21, a19], [some o35, some o9, some p13, some o26], .kb true, []⟩
def e93 (n : Int) : TE := ⟨16, [a22], (w6 n), I 0, []⟩
def e94 (n : Int) : TE := ⟨16, [a22, .agg [C 2, I 1, S s0]], (w6 n), .tup [.agg [V 16 4 0 6, V 17 4 0 4, V 18 3 0 1, V 19 3 0 24, C 4000], .sy s23, I 0], (w7 n)⟩
def e95 (n : Int) : TE := ⟨16, [a20, .agg [C 2, S s0, S s12, V 4 4 0 1, C 5000]], [some p58, some o21, some p59, some (p34 n), some o22, some o4, some o5, some o26, some (p12 n), some o27, some o6, some p60, some p61, some p37, some p2, some p40], .tup [.agg [V 16 4 0 6, V 17 4 0 4, V 18 3 0 1, V 19 3 0 24, C 4000], .sy s23, I 0], (w7 n)⟩
def e96 (n : Int) : TE := ⟨15, [a23], (w8 n), I 0, []⟩
def e97 (n : Int) : TE := ⟨15, [a23], (w8 n), .tup [.agg [V 15 1 0 4, V 16 2 0 1], I 0], [some o7, some p53, some p37]⟩
def e98 (n : Int) : TE := ⟨3, [.agg [V 0 1 0 4, V 1 2 0 1]], [some o7, some p0, some p37], I 0, []⟩
def e99 (n : Int) : TE := ⟨3, [D (.arr 4 1 (dxL [(ls [(sy s5), (ls [(sy s18), (sy s9)]), (ls [(sy s17), (ls [(sy s19), (sy s6)]), (ls [(sy s19), (ls [(sy s14), (sy s6)])])])])])), .agg [V 0 1 0 4, V 1 2 0 1]], [some o7, some p0, some p37], .tup [.agg [aG, V 3 10 0 1, aG], I 0, I 0], [some (vc 136 10 1 [S s18, C 6, I 0, I 0, S s0, aG, S s0, I 0, V 5 1 0 1, V 4 9 0 1] false), some (vc 134 9 1 [C 10, I 0, I 0, S s0, aG, S s17, I 0, aG, V 6 9 0 2] true), some (vc 9 1 1 [S s9] false), some (vc 134 9 2 [C 13, I 0, I 0, S s0, aG, S s2, I 0, V 7 1 0 1, V 10 9 0 1, C 13, I 0, I 0, S s0, aG, S s2, I 0, V 9 1 0 1, V 8 9 0 1] false), some (vc 9 1 1 [S s3] true), some (vc 134 9 1 [C 13, I 0, I 0, S s0, aG, S s2, I 0, V 11 1 0 1, V 12 9 0 1] false), some (vc 9 1 1 [S s3] true), some o2, some (vc 9 1 1 [S s4] true), some o2]⟩
def e100 (n : Int) : TE := ⟨2, [.agg [V 0 1 0 5, V 1 2 0 1]], [some o38, some p9], I 0, []⟩
def Xw (n : Int) : TE := ⟨14, [.agg [V 0 4 0 7, J, V 1 3 0 1, J, J], a16], [some p69, some p39, some p66, some p67, some o4, some o5, some o26, some (p12 n), some o27, some o6, some o37, some p37, some p2, some p40], .kb true, []⟩
def Xy (n : Int) : TE := ⟨4, [a24, a3], [some o35, some o39, some p13, some (p12 n)], .kb true, []⟩
def Xo (n : Int) : TE := ⟨4, [a24, a3], [some o35, some o39, some p13, some o5], .kb true, []⟩
def Yi (n : Int) : TE := ⟨4, [a24, a4], [some o35, some o39, some p13, some o6], .kb true, []⟩
def Yj (n : Int) : TE := ⟨4, [a24, a4], [some o35, some o39, some p13, some o4], .kb true, []⟩
def Xn (n : Int) : TE := ⟨4, [a24, a18], [some o35, some o39, some p13, some o27], .kb true, []⟩
def X9 (n : Int) : TE := ⟨4, [a24, a19], [some o35, some o39, some p13, some o26], .kb true, []⟩
def e108 (n : Int) : TE := ⟨4, [a24, a25], [some o35, some o39, some p13, some o37], .kb true, []⟩
def e109 (n : Int) : TE := ⟨16, [a26], [some p69, some o36, some p59, some (p57 n), some o4, some o5, some o26, some (p12 n), some o27, some o6, some o37, some p60, some p61, some p37, some p2, some p40], I 0, []⟩
def XH (n : Int) : TE := ⟨1, [V 0 3 0 26], [some (p70 n)], .tup [.nm 1, .kb true], [some o41]⟩
def X3 (n : Int) : TE := ⟨1, [.agg [V 0 3 0 26, C 4000]], [some (p70 n)], I 0, []⟩
def Xl (n : Int) : TE := ⟨17, [a26, V 4 3 0 2, aG], [some p71, some o36, some p72, some (p57 n), some o40, some o4, some o5, some o26, some (p12 n), some o27, some o6, some o37, some p73, some p74, some p37, some p2, some p40], .tup [.agg [V 17 4 0 7, V 18 4 0 5, V 19 3 0 1, V 20 3 0 26, C 4000], .agg [C 5, C 24, S s0], I 0], [some p75, some o36, some p76, some (p70 n), some o4, some o5, some o26, some (p12 n), some o27, some o6, some o37, some p77, some p78, some p37, some p2, some p40]⟩
def XG (n : Int) : TE := ⟨25, [a23, .agg [aG, V 4 10 0 1, aG]], [some p58, some o21, some p59, some (p57 n), some (vc 136 10 1 [S s18, C 6, I 0, I 0, S s0, aG, S s0, I 0, V 14 1 0 1, V 13 9 0 1] false), some o4, some o5, some o26, some (p12 n), some o27, some o6, some (vc 60 2 2 [S s2, V 16 1 0 2, S s2, V 15 1 0 2] false), some (vc 201 1 1 [V 17 1 0 2] false), some (vc 134 9 1 [C 10, I 0, I 0, S s0, aG, S s17, I 0, aG, V 18 9 0 2] true), some (vc 9 1 1 [S s9] false), some p37, some p2, some p40, some (vc 134 9 2 [C 13, I 0, I 0, S s0, aG, S s2, I 0, V 19 1 0 1, V 22 9 0 1, C 13, I 0, I 0, S s0, aG, S s2, I 0, V 21 1 0 1, V 20 9 0 1] false), some (vc 9 1 1 [S s3] true), some (vc 134 9 1 [C 13, I 0, I 0, S s0, aG, S s2, I 0, V 23 1 0 1, V 24 9 0 1] false), some (vc 9 1 1 [S s3] true), some o2, some (vc 9 1 1 [S s4] true), some o2], .tup [.agg [V 25 4 0 7, V 26 4 0 5, V 27 3 0 1, V 28 3 0 26, C 4000], I 0], [some (vc 140 4 7 [I 0, I 0, I 0, V 32 8 0 7, I 0, I 0, I 0, V 30 8 0 7, I 1, I 1, I 0, V 34 8 0 11, I 1, I 1, I 0, V 29 8 0 11, I 2, I 2, I 0, V 33 8 0 3, I 2, I 2, I 0, V 31 8 0 7, I 1, I 1, I 0, V 35 8 0 13] false), some o42, some (vc 63 3 1 [S s2, V 36 2 0 2, V 37 1 0 1] false), some (p70 n), some o4, some o5, some o26, some (p12 n), some o27, some o6, some o37, some (vc 60 2 2 [S s2, V 39 1 0 2, S s2, V 38 1 0 2] false), some (vc 201 1 1 [V 40 1 0 2] false), some p37, some p2, some p40]⟩
def Vz (n : Int) : TE := ⟨15, [a23, S s24], (w8 n), .tup [.agg [V 15 4 0 7, V 16 4 0 5, V 17 3 0 1, V 18 3 0 26, C 4000], I 0], [some (vc 140 4 7 [I 0, I 0, I 0, V 22 8 0 7, I 0, I 0, I 0, V 20 8 0 7, I 1, I 1, I 0, V 24 8 0 11, I 1, I 1, I 0, V 19 8 0 11, I 2, I 2, I 0, V 23 8 0 3, I 2, I 2, I 0, V 21 8 0 7, I 1, I 1, I 0, V 25 8 0 13] false), some o42, some p62, some (p70 n), some o4, some o5, some o26, some (p12 n), some o27, some o6, some o37, some p63, some p64, some p37, some p2, some p40]⟩
def e115 (n : Int) : TE := ⟨16, [a27], (w9 n), I 0, []⟩
def e116 (n : Int) : TE := ⟨16, [a27], (w9 n), .tup [.agg [V 16 1 0 5, V 17 2 0 1], I 0], [some o38, some (vc 60 2 1 [S s2, V 18 1 0 2] false), some p37]⟩
def e117 (n : Int) : TE := ⟨4, [a24, a13], [some o35, some o39, some p13, some o43], .kb true, []⟩
def e118 (n : Int) : TE := ⟨17, [a27, a14, I 5000], [some p71, some o42, some p72, some (p70 n), some o43, some o4, some o5, some o26, some (p12 n), some o27, some o6, some o37, some p73, some p74, some p37, some p2, some p40], .tup [.agg [.sl 17 4 0 7 (some 7), V 18 4 0 5, V 19 3 0 1, V 20 3 0 26, C 4000], .agg [C 1, .ri .i64 3 102 (av n + (1 : Int) + (2 : Int)), S s0], I 0], [some (vc 140 4 8 [I 0, I 0, I 0, V 24 8 0 7, I 0, I 0, I 0, V 22 8 0 7, I 1, I 1, I 0, V 26 8 0 11, I 1, I 1, I 0, V 21 8 0 11, I 2, I 2, I 0, V 25 8 0 3, I 2, I 2, I 0, V 23 8 0 7, I 1, I 1, I 0, V 27 8 0 13, I 0, I 0, I 0, V 4 8 0 6] false), some o42, some p76, some (p70 n), some o4, some o5, some o26, some (p12 n), some o27, some o6, some o37, some p77, some p78, some p37, some p2, some p40]⟩
def e119 (n : Int) : TE := ⟨15, [.agg [.sl 0 4 0 7 (some 7), J, V 1 3 0 1, J, J], a16], [some p79, some p39, some p42, some p43, some o43, some o4, some o5, some o26, some (p12 n), some o27, some o6, some o37, some p37, some p2, some p40], .kb true, []⟩
def e120 (n : Int) : TE := ⟨4, [a28, a3], [some o44, some o39, some p13, some (p12 n)], .kb true, []⟩
def XQ (n : Int) : TE := ⟨4, [a28, a3], [some o44, some o39, some p13, some o5], .kb true, []⟩
def XZ (n : Int) : TE := ⟨4, [a28, a4], [some o44, some o39, some p13, some o6], .kb true, []⟩
def XD (n : Int) : TE := ⟨4, [a28, a4], [some o44, some o39, some p13, some o4], .kb true, []⟩
def Xq (n : Int) : TE := ⟨4, [a28, a18], [some o44, some o39, some p13, some o27], .kb true, []⟩
def e125 (n : Int) : TE := ⟨4, [a28, a19], [some o44, some o39, some p13, some o26], .kb true, []⟩
def e126 (n : Int) : TE := ⟨4, [a28, a25], [some o44, some o39, some p13, some o37], .kb true, []⟩
def e127 (n : Int) : TE := ⟨17, [a29], (w10 n), I 0, []⟩
def e128 (n : Int) : TE := ⟨17, [a29, .agg [C 1, .ri .i64 3 102 (av n + (1 : Int) + (2 : Int)), S s0]], (w10 n), .tup [.agg [V 17 4 0 7, V 18 4 0 5, V 19 3 0 1, V 20 3 0 26, C 4000], .sy (aP (av n + (1 : Int) + (2 : Int))), I 0], (w11 n)⟩
def e129 (n : Int) : TE := ⟨17, [a27, .agg [C 2, S s0, S s18, V 4 4 0 1, C 5000]], [some p71, some o42, some p72, some (p70 n), some o22, some o4, some o5, some o26, some (p12 n), some o27, some o6, some o37, some p73, some p74, some p37, some p2, some p40], .tup [.agg [V 17 4 0 7, V 18 4 0 5, V 19 3 0 1, V 20 3 0 26, C 4000], .sy (aP (av n + (1 : Int) + (2 : Int))), I 0], (w11 n)⟩
end
theorem fx (n : Int) : 0 <= av n /\ av n < 100 /\ (aP (av n + 1 + 2)).size <= 3 /\ 0 < (aP (av n + 1 + 2)).size /\ (aP (av n)).size <= 3 /\ 0 < (aP (av n)).size /\ (aP 0).size <= 3 /\ 0 < (aP 0).size := by
 have h0 : 0 <= av n := (rz n (by decide)).1
 have h1 : av n < 100 := (rz n (by decide)).2
 refine ⟨h0, h1, zB (by omega) (by omega), F3 (by omega) (by omega), zB (by omega) (by omega), F3 (by omega) (by omega), zB (by omega) (by omega), F3 (by omega) (by omega)⟩
end Gv.LUpgradeCycle
