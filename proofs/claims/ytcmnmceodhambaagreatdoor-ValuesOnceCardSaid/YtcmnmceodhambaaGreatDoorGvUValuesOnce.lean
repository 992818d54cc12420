/- What the told parts of ValuesOnce are made of. Printed by gvgen.py. -/
import Derived.Test.YtcmnmceodhambaaGreatDoorGvO
set_option linter.unusedVariables false
open Rx Go
namespace Gv.LValuesOnce
open Gv Rd
noncomputable section
def s1 : ByteArray := ⟨#[100, 101, 102, 105, 110, 101]⟩
def s2 : ByteArray := ⟨#[120]⟩
def s3 : ByteArray := ⟨#[102]⟩
def s4 : ByteArray := ⟨#[121]⟩
def s5 : ByteArray := ⟨#[110]⟩
def s6 : ByteArray := ⟨#[43]⟩
def s7 : ByteArray := ⟨#[115, 104, 111, 119]⟩
def s8 : ByteArray := ⟨#[99, 111, 110, 115]⟩
def s9 : ByteArray := ⟨#[101, 114, 114, 111, 114]⟩
def s10 : ByteArray := ⟨#[122]⟩
def s11 : ByteArray := ⟨#[40, 100, 101, 102, 105, 110, 101, 32, 120, 32, 40, 102, 32]⟩
def s12 : ByteArray := ⟨#[41, 41, 32, 40, 100, 101, 102, 105, 110, 101, 32, 121, 32, 40, 102, 32, 120, 41, 41, 32, 40, 100, 101, 102, 105, 110, 101, 32, 40, 102, 32, 110, 41, 32, 40, 43, 32, 110, 32, 49, 41, 41, 32, 40, 100, 101, 102, 105, 110, 101, 32, 40, 115, 104, 111, 119, 32, 110, 41, 32, 40, 99, 111, 110, 115, 32, 120, 32, 121, 41, 41]⟩
def s13 : ByteArray := ⟨#[40]⟩
def s14 : ByteArray := ⟨#[32, 46, 32]⟩
def s15 : ByteArray := ⟨#[41]⟩
def s16 : ByteArray := ⟨#[40, 100, 101, 102, 105, 110, 101, 32, 121, 32, 40, 101, 114, 114, 111, 114, 32, 49, 41, 41, 32, 40, 100, 101, 102, 105, 110, 101, 32, 122, 32, 40, 43, 32, 120, 32, 121, 41, 41, 32, 32, 40, 100, 101, 102, 105, 110, 101, 32, 40, 115, 104, 111, 119, 32, 110, 41, 32, 122, 41]⟩
theorem s1_z : s1.size = 6 := rfl
theorem s1_t : s1.data.toList = [100, 101, 102, 105, 110, 101] := rfl
theorem s2_z : s2.size = 1 := rfl
theorem s2_t : s2.data.toList = [120] := rfl
theorem s3_z : s3.size = 1 := rfl
theorem s3_t : s3.data.toList = [102] := rfl
theorem s4_z : s4.size = 1 := rfl
theorem s4_t : s4.data.toList = [121] := rfl
theorem s5_z : s5.size = 1 := rfl
theorem s5_t : s5.data.toList = [110] := rfl
theorem s6_z : s6.size = 1 := rfl
theorem s6_t : s6.data.toList = [43] := rfl
theorem s7_z : s7.size = 4 := rfl
theorem s7_t : s7.data.toList = [115, 104, 111, 119] := rfl
theorem s8_z : s8.size = 4 := rfl
theorem s8_t : s8.data.toList = [99, 111, 110, 115] := rfl
theorem s9_z : s9.size = 5 := rfl
theorem s9_t : s9.data.toList = [101, 114, 114, 111, 114] := rfl
theorem s10_z : s10.size = 1 := rfl
theorem s10_t : s10.data.toList = [122] := rfl
theorem s11_z : s11.size = 13 := rfl
theorem s11_t : s11.data.toList = [40, 100, 101, 102, 105, 110, 101, 32, 120, 32, 40, 102, 32] := rfl
theorem s12_z : s12.size = 71 := rfl
theorem s12_t : s12.data.toList = [41, 41, 32, 40, 100, 101, 102, 105, 110, 101, 32, 121, 32, 40, 102, 32, 120, 41, 41, 32, 40, 100, 101, 102, 105, 110, 101, 32, 40, 102, 32, 110, 41, 32, 40, 43, 32, 110, 32, 49, 41, 41, 32, 40, 100, 101, 102, 105, 110, 101, 32, 40, 115, 104, 111, 119, 32, 110, 41, 32, 40, 99, 111, 110, 115, 32, 120, 32, 121, 41, 41] := rfl
theorem s13_z : s13.size = 1 := rfl
theorem s13_t : s13.data.toList = [40] := rfl
theorem s14_z : s14.size = 3 := rfl
theorem s14_t : s14.data.toList = [32, 46, 32] := rfl
theorem s15_z : s15.size = 1 := rfl
theorem s15_t : s15.data.toList = [41] := rfl
theorem s16_z : s16.size = 60 := rfl
theorem s16_t : s16.data.toList = [40, 100, 101, 102, 105, 110, 101, 32, 121, 32, 40, 101, 114, 114, 111, 114, 32, 49, 41, 41, 32, 40, 100, 101, 102, 105, 110, 101, 32, 122, 32, 40, 43, 32, 120, 32, 121, 41, 41, 32, 32, 40, 100, 101, 102, 105, 110, 101, 32, 40, 115, 104, 111, 119, 32, 110, 41, 32, 122, 41] := rfl
abbrev pk100 (n : Int) : Int := pickedS n 100
def o0 : Ob := vc 134 9 2 [C 3, I 0, I 0, S s0, nilSl, S s3, I 0, nilSl, nilSl, C 3, I 0, I 0, S s0, nilSl, S s2, I 0, nilSl, nilSl] false
def o1 : Ob := vc 134 9 2 [C 3, I 0, I 0, S s0, nilSl, S s2, I 0, nilSl, nilSl, C 3, I 0, I 0, S s0, nilSl, S s4, I 0, nilSl, nilSl] false
def o2 : Ob := vc 134 9 2 [C 2, I 0, I 0, S s0, nilSl, S s5, I 0, nilSl, nilSl, C 1, C 1, C 1, S s0, D (.arr 4 0 (dxL [])), S s0, I 0, nilSl, nilSl] false
def o3 : Ob := vc 130 4 4 [S s2, C 3, I 0, S s0, S s4, C 3, I 0, S s0, S s3, C 3, I 0, S s0, S s7, C 3, I 0, S s0] false
def o4 : Ob := vc 200 8 7 [C 1, I 0, I 0, S s0, S s0, I 0, I 0, S s0, C 1, I 0, I 0, S s0, S s0, I 0, I 0, S s0, C 9, I 0, I 0, S s2, S s0, I 0, I 0, S s0, C 1, I 0, I 0, S s0, S s0, I 0, I 0, S s0, C 9, I 0, I 0, S s4, S s0, I 0, I 0, S s0, C 18, C 2, I 0, S s8, S s0, I 0, I 0, S s0, C 14, I 0, I 0, S s0, S s0, I 0, I 0, S s0] false
def o5 : Ob := vc 200 8 6 [C 1, I 0, I 0, S s0, S s0, I 0, I 0, S s0, C 1, I 0, I 0, S s0, S s0, I 0, I 0, S s0, C 9, I 0, I 0, S s3, S s0, I 0, I 0, S s0, C 1, I 0, I 0, S s0, S s0, I 0, I 0, S s0, C 9, I 0, I 0, S s2, S s0, I 0, I 0, S s0, C 13, C 1, I 0, S s0, S s0, I 0, I 0, S s0] false
def o6 : Ob := vc 200 8 7 [C 1, I 0, I 0, S s0, S s0, I 0, I 0, S s0, C 1, I 0, I 0, S s0, S s0, I 0, I 0, S s0, C 3, C 0, I 0, S s0, S s0, I 0, I 0, S s0, C 1, I 0, I 0, S s0, S s0, I 0, I 0, S s0, C 2, I 0, I 0, S s0, S s0, C 1, C 1, S s0, C 18, C 2, I 0, S s6, S s0, I 0, I 0, S s0, C 14, I 0, I 0, S s0, S s0, I 0, I 0, S s0] false
def o7 : Ob := vc 9 1 4 [S s2, S s4, S s3, S s7] false
def o8 : Ob := vc 140 4 4 [J, J, I 0, J, J, J, I 0, J, J, J, I 0, J, J, J, I 0, J] false
def o9 : Ob := vc 130 4 4 [S s2, J, J, J, S s4, J, J, J, S s3, J, J, J, S s7, J, J, J] false
def o10 : Ob := vc 126 3 2 [C 8, C 2, S s0, C 1, I 0, S s0] true
def o11 : Ob := vc 126 3 2 [C 8, C 2, S s0, C 1, I 0, S s0] false
def o12 : Ob := .mp (.int .i64) .bool [((0 : Int), true)]
def o13 : Ob := vc 130 4 4 [S s2, C 3, I 0, S s0, S s4, C 3, I 0, S s0, S s3, C 5, C 0, S s0, S s7, C 3, I 0, S s0] false
def o14 : Ob := vc 126 3 2 [C 8, C 3, S s0, C 1, I 0, S s0] true
def o15 : Ob := vc 126 3 4 [C 8, C 2, S s0, C 1, I 0, S s0, C 8, C 3, S s0, C 1, I 0, S s0] false
def o16 : Ob := .mp (.int .i64) .bool [((0 : Int), true), ((2 : Int), true)]
def o17 : Ob := vc 130 4 4 [S s2, C 3, I 0, S s0, S s4, C 3, I 0, S s0, S s3, C 5, C 0, S s0, S s7, C 5, C 2, S s0] false
def o18 : Ob := vc 140 4 5 [J, J, I 0, J, J, J, I 0, J, J, J, I 0, J, J, J, I 0, J, J, J, I 0, J] false
def o19 : Ob := vc 47 4 1 [C 1, C 0, S s0, nilSl] true
def o20 : Ob := vc 200 8 6 [C 1, I 0, I 0, S s0, S s0, I 0, I 0, S s0, C 1, I 0, I 0, S s0, S s0, I 0, I 0, S s0, C 9, I 0, I 0, S s7, S s0, I 0, I 0, S s0, C 1, I 0, I 0, S s0, S s0, I 0, I 0, S s0, C 2, I 0, I 0, S s0, S s0, C 1, C 0, S s0, C 13, C 1, I 0, S s0, S s0, I 0, I 0, S s0] false
def o21 : Ob := .mp (.int .i64) .bool [((0 : Int), true), ((2 : Int), true), ((4 : Int), true)]
def o22 : Ob := vc 134 9 1 [C 1, C 1, C 1, S s0, D (.arr 4 0 (dxL [])), S s0, I 0, nilSl, nilSl] false
def o23 : Ob := vc 134 9 1 [C 3, I 0, I 0, S s0, nilSl, S s10, I 0, nilSl, nilSl] true
def o24 : Ob := vc 200 8 3 [C 1, I 0, I 0, S s0, S s0, I 0, I 0, S s0, C 9, I 0, I 0, S s10, S s0, I 0, I 0, S s0, C 14, I 0, I 0, S s0, S s0, I 0, I 0, S s0] false
def o25 : Ob := vc 200 8 7 [C 1, I 0, I 0, S s0, S s0, I 0, I 0, S s0, C 1, I 0, I 0, S s0, S s0, I 0, I 0, S s0, C 9, I 0, I 0, S s2, S s0, I 0, I 0, S s0, C 1, I 0, I 0, S s0, S s0, I 0, I 0, S s0, C 9, I 0, I 0, S s4, S s0, I 0, I 0, S s0, C 18, C 2, I 0, S s6, S s0, I 0, I 0, S s0, C 14, I 0, I 0, S s0, S s0, I 0, I 0, S s0] false
def o26 : Ob := vc 9 1 5 [S s2, S s4, S s3, S s7, S s10] false
def o27 : Ob := vc 140 4 6 [J, J, I 0, J, J, J, I 0, J, J, J, I 0, J, J, J, I 0, J, J, J, I 0, J, J, J, I 0, J] false
def o28 : Ob := vc 130 4 5 [S s2, J, J, J, S s4, J, J, J, S s3, J, J, J, S s7, J, J, J, S s10, J, J, J] false
def o29 : Ob := vc 126 3 2 [C 8, C 5, S s0, C 1, I 0, S s0] true
def o30 : Ob := .mp (.int .i64) .bool [((0 : Int), true), ((2 : Int), true), ((4 : Int), true), ((7 : Int), true)]
def o31 : Ob := vc 140 4 7 [J, J, I 0, J, J, J, I 0, J, J, J, I 0, J, J, J, I 0, J, J, J, I 0, J, J, J, I 0, J, J, J, I 0, J] false
def p0 : Ob := vc 136 10 4 [S s2, C 9, I 0, I 0, S s0, nilSl, S s0, I 0, nilSl, V 3 9 0 2, S s4, C 9, I 0, I 0, S s0, nilSl, S s0, I 0, nilSl, V 2 9 0 2, S s3, C 6, I 0, I 0, S s0, nilSl, S s0, I 0, V 5 1 0 1, V 4 9 0 1, S s7, C 6, I 0, I 0, S s0, nilSl, S s0, I 0, V 6 1 0 1, V 1 9 0 1] false
def p1 : Ob := vc 134 9 1 [C 10, I 0, I 0, S s0, nilSl, S s8, I 0, nilSl, V 7 9 0 2] true
def p2 (n : Int) : Ob := vc 134 9 2 [C 3, I 0, I 0, S s0, nilSl, S s3, I 0, nilSl, nilSl, C 1, C 1, D (.ri .i64 0 99 (pk100 n)), S s0, D (.arr 4 0 (dxL [])), S s0, I 0, nilSl, nilSl] false
def p3 : Ob := vc 134 9 1 [C 10, I 0, I 0, S s0, nilSl, S s6, I 0, nilSl, V 8 9 0 2] true
def p4 (n : Int) : Ob := vc 200 8 6 [C 1, I 0, I 0, S s0, S s0, I 0, I 0, S s0, C 1, I 0, I 0, S s0, S s0, I 0, I 0, S s0, C 9, I 0, I 0, S s3, S s0, I 0, I 0, S s0, C 1, I 0, I 0, S s0, S s0, I 0, I 0, S s0, C 2, I 0, I 0, S s0, S s0, C 1, .ri .i64 0 99 (pk100 n), S s0, C 13, C 1, I 0, S s0, S s0, I 0, I 0, S s0] false
def p5 : Ob := vc 140 4 4 [I 0, I 0, I 0, V 5 8 0 6, I 0, I 0, I 0, V 4 8 0 6, I 1, I 1, I 0, V 6 8 0 7, I 1, I 1, I 0, V 3 8 0 7] false
def p6 : Ob := vc 140 4 4 [I 0, I 0, I 0, V 6 8 0 6, I 0, I 0, I 0, V 5 8 0 6, I 1, I 1, I 0, V 7 8 0 7, I 1, I 1, I 0, V 4 8 0 7] false
def p7 : Ob := vc 140 4 4 [I 0, I 0, I 0, V 13 8 0 6, I 0, I 0, I 0, V 12 8 0 6, I 1, I 1, I 0, V 14 8 0 7, I 1, I 1, I 0, V 11 8 0 7] false
def p8 : Ob := vc 140 4 5 [I 0, I 0, I 0, V 5 8 0 6, I 0, I 0, I 0, V 4 8 0 6, I 1, I 1, I 0, V 7 8 0 7, I 1, I 1, I 0, V 3 8 0 7, I 0, I 0, I 0, V 6 8 0 6] false
def p9 (n : Int) : Ob := vc 130 4 4 [S s2, C 1, .ri .i64 1 100 (pk100 n + (1 : Int)), S s0, S s4, C 3, I 0, S s0, S s3, C 5, C 0, S s0, S s7, C 5, C 2, S s0] false
def p10 (n : Int) : Ob := vc 130 4 4 [S s2, C 1, .ri .i64 1 100 (pk100 n + (1 : Int)), S s0, S s4, C 1, .ri .i64 2 101 (pk100 n + (1 : Int) + (1 : Int)), S s0, S s3, C 5, C 0, S s0, S s7, C 5, C 2, S s0] false
def p11 : Ob := vc 140 4 5 [I 0, I 0, I 0, V 6 8 0 6, I 0, I 0, I 0, V 5 8 0 6, I 1, I 1, I 0, V 8 8 0 7, I 1, I 1, I 0, V 4 8 0 7, I 0, I 0, I 0, V 7 8 0 6] false
def p12 (n : Int) : Ob := vc 126 3 7 [C 8, C 2, S s0, C 1, I 0, S s0, C 8, C 3, S s0, C 1, I 0, S s0, C 6, I 0, S s0, C 1, .ri .i64 1 100 (pk100 n + (1 : Int)), S s0, C 1, .ri .i64 2 101 (pk100 n + (1 : Int) + (1 : Int)), S s0] false
def p13 : Ob := vc 140 4 6 [I 0, I 0, I 0, V 6 8 0 6, I 0, I 0, I 0, V 4 8 0 6, I 1, I 1, I 0, V 8 8 0 7, I 1, I 1, I 0, V 3 8 0 7, I 0, I 0, I 0, V 7 8 0 7, I 1, I 1, I 0, V 5 8 0 3] false
def p14 (n : Int) : Ob := vc 130 4 5 [S s2, C 1, .ri .i64 1 100 (pk100 n + (1 : Int)), S s0, S s4, C 1, .ri .i64 2 101 (pk100 n + (1 : Int) + (1 : Int)), S s0, S s3, C 5, C 0, S s0, S s7, C 5, C 2, S s0, S s10, C 3, I 0, S s0] false
def p15 (n : Int) : Ob := vc 126 3 9 [C 8, C 2, S s0, C 1, I 0, S s0, C 8, C 3, S s0, C 1, I 0, S s0, C 6, I 0, S s0, C 1, .ri .i64 1 100 (pk100 n + (1 : Int)), S s0, C 1, .ri .i64 2 101 (pk100 n + (1 : Int) + (1 : Int)), S s0, C 8, C 5, S s0, C 1, I 0, S s0] false
def p16 : Ob := vc 140 4 6 [I 0, I 0, I 0, V 16 8 0 6, I 0, I 0, I 0, V 14 8 0 6, I 1, I 1, I 0, V 18 8 0 7, I 1, I 1, I 0, V 13 8 0 7, I 0, I 0, I 0, V 17 8 0 7, I 1, I 1, I 0, V 15 8 0 3] false
def p17 (n : Int) : Ob := vc 130 4 5 [S s2, C 1, .ri .i64 1 100 (pk100 n + (1 : Int)), S s0, S s4, C 1, .ri .i64 2 101 (pk100 n + (1 : Int) + (1 : Int)), S s0, S s3, C 5, C 0, S s0, S s7, C 5, C 7, S s0, S s10, C 3, I 0, S s0] false
def p18 (n : Int) : Ob := vc 130 4 5 [S s2, C 1, .ri .i64 1 100 (pk100 n + (1 : Int)), S s0, S s4, C 1, .ri .i64 2 101 (pk100 n + (1 : Int) + (1 : Int)), S s0, S s3, C 5, C 0, S s0, S s7, C 5, C 7, S s0, S s10, C 1, .ri .i64 3 201 (pk100 n + (1 : Int) + (pk100 n + (1 : Int) + (1 : Int))), S s0] false
def p19 : Ob := vc 140 4 7 [I 0, I 0, I 0, V 6 8 0 6, I 0, I 0, I 0, V 4 8 0 6, I 1, I 1, I 0, V 8 8 0 7, I 1, I 1, I 0, V 3 8 0 7, I 0, I 0, I 0, V 7 8 0 7, I 1, I 1, I 0, V 5 8 0 3, I 0, I 0, I 0, V 9 8 0 7] false
def p20 : Ob := vc 140 4 7 [I 0, I 0, I 0, V 7 8 0 6, I 0, I 0, I 0, V 5 8 0 6, I 1, I 1, I 0, V 9 8 0 7, I 1, I 1, I 0, V 4 8 0 7, I 0, I 0, I 0, V 8 8 0 7, I 1, I 1, I 0, V 6 8 0 3, I 0, I 0, I 0, V 10 8 0 7] false
def p21 : Ob := vc 140 4 7 [I 0, I 0, I 0, V 6 8 0 6, I 0, I 0, I 0, V 4 8 0 6, I 1, I 1, I 0, V 8 8 0 7, I 1, I 1, I 0, V 3 8 0 7, I 0, I 0, I 0, V 7 8 0 7, I 1, I 1, I 0, V 5 8 0 3, I 0, I 0, I 0, V 9 8 0 6] false
def a0 : SV := .agg [nilSl, nilSl, nilSl, nilSl, C 4000]
def a1 : SV := .agg [V 0 4 0 4, V 1 4 0 4, nilSl, J, J]
def a2 : SV := .agg [I 0, I 0, I 0, V 2 8 0 6]
def a3 : SV := .agg [I 1, I 1, I 0, V 2 8 0 7]
def a4 : SV := .agg [V 0 4 0 4, V 1 4 0 4, nilSl, nilSl, C 4000]
def a5 : SV := .agg [V 0 4 0 4, V 1 4 0 4, nilSl, V 2 3 0 2, C 4000]
def a6 : SV := .agg [V 0 4 0 4, V 1 4 0 4, nilSl, V 2 3 0 4, C 4000]
def a7 : SV := .agg [I 0, I 0, I 0, V 3 8 0 6]
def a8 : SV := .agg [.sl 0 4 0 4 (some 4), V 1 4 0 4, nilSl, J, J]
def a9 : SV := .agg [.sl 0 4 0 4 (some 4), V 1 4 0 4, nilSl, V 2 3 0 4, C 4000]
def a10 : SV := .agg [.sl 0 4 0 4 (some 4), V 1 4 0 4, nilSl, V 2 3 0 7, C 4000]
def a11 : SV := .agg [C 2, S s0, S s7, V 3 4 0 1, C 5000]
def a12 : SV := .agg [V 0 4 0 4, V 1 4 0 4, nilSl, V 2 3 0 7, C 4000]
def a13 : SV := .agg [V 0 4 0 6, V 1 4 0 5, nilSl, J, J]
def a14 : SV := .agg [I 0, I 0, I 0, V 2 8 0 7]
def a15 : SV := .agg [I 1, I 1, I 0, V 2 8 0 3]
def a16 : SV := .agg [V 0 4 0 6, V 1 4 0 5, nilSl, V 2 3 0 7, C 4000]
def a17 : SV := .agg [V 0 4 0 6, V 1 4 0 5, nilSl, V 2 3 0 9, C 4000]
def a18 : SV := .agg [.sl 0 4 0 6 (some 6), V 1 4 0 5, nilSl, J, J]
def a19 : SV := .agg [.sl 0 4 0 6 (some 6), V 1 4 0 5, nilSl, V 2 3 0 9, C 4000]
def w0 (n : Int) : List (Option Ob) := [some p0, some p1, some o0, some (p2 n), some p3, some (vc 9 1 1 [S s5] false), some (vc 9 1 1 [S s5] false), some o1, some o2]
def w1 (n : Int) : List (Option Ob) := [some p8, some (p10 n), some o15, some o4, some o5, some (p4 n), some o5, some o6]
def w2 (n : Int) : List (Option Ob) := [some p8, some (p10 n), some (p12 n), some o4, some o5, some (p4 n), some o20, some o6]
def w3 (n : Int) : List (Option Ob) := [some p5, some (p10 n), some (p12 n), some o4, some o5, some (p4 n), some o6]
def w4 (n : Int) : List (Option Ob) := [some p19, some (p18 n), some (p15 n), some o4, some o5, some o24, some (p4 n), some o25, some o6, some o25]
def w5 (n : Int) : List (Option Ob) := [some p21, some (p18 n), some (p15 n), some o4, some o5, some o24, some (p4 n), some o25, some o6, some o20]
def e0 (n : Int) : TE := ⟨0, [nilSl], [], .tup [.nm 0, .kb true], [some (.mp (.int .i64) .bool [])]⟩
def e1 (n : Int) : TE := ⟨0, [.agg [nilSl, C 4000]], [], I 0, []⟩
def e2 (n : Int) : TE := ⟨0, [.agg [nilSl, nilSl]], [], I 0, []⟩
def e3 (n : Int) : TE := ⟨0, [a0], [], I 0, []⟩
def e4 (n : Int) : TE := ⟨0, [a0], [], .tup [.agg [nilSl, nilSl], I 0], []⟩
def e5 (n : Int) : TE := ⟨0, [D (.arr 4 4 (dxL [(ls [(sy s1), (sy s2), (ls [(sy s3), (nu 0 99 (pk100 n))])]), (ls [(sy s1), (sy s4), (ls [(sy s3), (sy s2)])]), (ls [(sy s1), (ls [(sy s3), (sy s5)]), (ls [(sy s6), (sy s5), (num 1)])]), (ls [(sy s1), (ls [(sy s7), (sy s5)]), (ls [(sy s8), (sy s2), (sy s4)])])])), .agg [nilSl, nilSl]], [], .tup [.agg [nilSl, V 0 10 0 4, nilSl], I 0, I 0], (w0 n)⟩
def e6 (n : Int) : TE := ⟨1, [.agg [V 0 1 0 4, nilSl]], [some o7], I 0, []⟩
def e7 (n : Int) : TE := ⟨0, [.agg [nilSl, C 50]], [], I 0, []⟩
def e8 (n : Int) : TE := ⟨3, [a1, a2], [some o8, some o9, some (p4 n)], .kb true, []⟩
def e9 (n : Int) : TE := ⟨3, [a1, a2], [some o8, some o9, some o5], .kb true, []⟩
def e10 (n : Int) : TE := ⟨3, [a1, a3], [some o8, some o9, some o6], .kb true, []⟩
def e11 (n : Int) : TE := ⟨3, [a1, a3], [some o8, some o9, some o4], .kb true, []⟩
def e12 (n : Int) : TE := ⟨6, [a4], [some (vc 140 4 4 [I 0, I 0, I 0, V 4 8 0 6, I 0, I 0, I 0, V 3 8 0 6, I 1, I 1, I 0, V 5 8 0 7, I 1, I 1, I 0, V 2 8 0 7] false), some o3, some o4, some o5, some (p4 n), some o6], I 0, []⟩
def e13 (n : Int) : TE := ⟨1, [V 0 3 0 2], [some o11], .tup [.nm 1, .kb true], [some o12]⟩
def e14 (n : Int) : TE := ⟨1, [.agg [V 0 3 0 2, C 4000]], [some o11], I 0, []⟩
def e15 (n : Int) : TE := ⟨7, [a4, V 2 3 0 2, nilSl], [some p5, some o3, some o10, some o4, some o5, some (p4 n), some o6], .tup [.agg [V 7 4 0 4, V 8 4 0 4, nilSl, V 9 3 0 2, C 4000], .agg [C 5, C 0, S s0], I 0], [some (vc 140 4 4 [I 0, I 0, I 0, V 12 8 0 6, I 0, I 0, I 0, V 11 8 0 6, I 1, I 1, I 0, V 13 8 0 7, I 1, I 1, I 0, V 10 8 0 7] false), some o3, some o11, some o4, some o5, some (p4 n), some o6]⟩
def e16 (n : Int) : TE := ⟨7, [a5], [some p5, some o13, some o11, some o4, some o5, some (p4 n), some o6], I 0, []⟩
def e17 (n : Int) : TE := ⟨1, [V 0 3 0 4], [some o15], .tup [.nm 1, .kb true], [some o16]⟩
def e18 (n : Int) : TE := ⟨1, [.agg [V 0 3 0 4, C 4000]], [some o15], I 0, []⟩
def e19 (n : Int) : TE := ⟨8, [a5, V 3 3 0 2, nilSl], [some p6, some o13, some o11, some o14, some o4, some o5, some (p4 n), some o6], .tup [.agg [V 8 4 0 4, V 9 4 0 4, nilSl, V 10 3 0 4, C 4000], .agg [C 5, C 2, S s0], I 0], [some p7, some o13, some o15, some o4, some o5, some (p4 n), some o6]⟩
def e20 (n : Int) : TE := ⟨7, [a6], [some p5, some o17, some o15, some o4, some o5, some (p4 n), some o6], I 0, []⟩
def e21 (n : Int) : TE := ⟨7, [a6, a7, I 20000], [some (vc 140 4 4 [I 0, I 0, I 0, V 3 8 0 6, I 0, I 0, I 0, V 5 8 0 6, I 1, I 1, I 0, V 6 8 0 7, I 1, I 1, I 0, V 4 8 0 7] false), some o17, some o15, some (p4 n), some o4, some o5, some o6], .tup [.agg [.sl 7 4 0 4 (some 4), V 8 4 0 4, nilSl, V 9 3 0 4, C 4000], .agg [C 1, .ri .i64 1 100 (pk100 n + (1 : Int)), S s0], I 0], [some (vc 140 4 5 [I 0, I 0, I 0, V 12 8 0 6, I 0, I 0, I 0, V 11 8 0 6, I 1, I 1, I 0, V 13 8 0 7, I 1, I 1, I 0, V 10 8 0 7, I 0, I 0, I 0, V 3 8 0 6] false), some o17, some o15, some o4, some o5, some (p4 n), some o6]⟩
def e22 (n : Int) : TE := ⟨3, [a8, a2], [some o18, some o9, some (p4 n)], .kb true, []⟩
def e23 (n : Int) : TE := ⟨3, [a8, a2], [some o18, some o9, some o5], .kb true, []⟩
def e24 (n : Int) : TE := ⟨3, [a8, a3], [some o18, some o9, some o6], .kb true, []⟩
def e25 (n : Int) : TE := ⟨3, [a8, a3], [some o18, some o9, some o4], .kb true, []⟩
def e26 (n : Int) : TE := ⟨8, [a9], [some p8, some (p9 n), some o15, some o4, some o5, some (p4 n), some (p4 n), some o6], I 0, []⟩
def e27 (n : Int) : TE := ⟨8, [a9, a7, I 20000], [some (vc 140 4 5 [I 0, I 0, I 0, V 5 8 0 6, I 0, I 0, I 0, V 3 8 0 6, I 1, I 1, I 0, V 7 8 0 7, I 1, I 1, I 0, V 4 8 0 7, I 0, I 0, I 0, V 6 8 0 6] false), some (p9 n), some o15, some o5, some o4, some (p4 n), some (p4 n), some o6], .tup [.agg [.sl 8 4 0 4 (some 4), V 9 4 0 4, nilSl, V 10 3 0 4, C 4000], .agg [C 1, .ri .i64 2 101 (pk100 n + (1 : Int) + (1 : Int)), S s0], I 0], [some (vc 140 4 5 [I 0, I 0, I 0, V 13 8 0 6, I 0, I 0, I 0, V 12 8 0 6, I 1, I 1, I 0, V 14 8 0 7, I 1, I 1, I 0, V 11 8 0 7, I 0, I 0, I 0, V 3 8 0 6] false), some (p9 n), some o15, some o4, some o5, some (p4 n), some o6]⟩
def e28 (n : Int) : TE := ⟨9, [a0, .agg [nilSl, V 0 10 0 4, nilSl]], (w0 n), .tup [.agg [.sl 9 4 0 4 (some 4), V 10 4 0 4, nilSl, V 11 3 0 4, C 4000], I 0], [some (vc 140 4 5 [I 0, I 0, I 0, V 14 8 0 6, I 0, I 0, I 0, V 13 8 0 6, I 1, I 1, I 0, V 16 8 0 7, I 1, I 1, I 0, V 12 8 0 7, I 0, I 0, I 0, V 15 8 0 6] false), some (p10 n), some o15, some o4, some o5, some (p4 n), some o5, some o6]⟩
def e29 (n : Int) : TE := ⟨0, [a0, .sy (s11 ++ itoaB (pk100 n) ++ s12)], [], .tup [.agg [.sl 0 4 0 4 (some 4), V 1 4 0 4, nilSl, V 2 3 0 4, C 4000], I 0], (w1 n)⟩
def e30 (n : Int) : TE := ⟨8, [a9], (w1 n), I 0, []⟩
def e31 (n : Int) : TE := ⟨8, [a9], (w1 n), .tup [.agg [V 8 1 0 4, nilSl], I 0], [some o7]⟩
def e32 (n : Int) : TE := ⟨3, [a8, a2], [some o18, some o9, some o20], .kb true, []⟩
def e33 (n : Int) : TE := ⟨9, [a9, a7, I 5000], [some p11, some (p10 n), some o15, some o20, some o4, some o5, some (p4 n), some o5, some o6], .tup [.agg [.sl 9 4 0 4 (some 4), V 10 4 0 4, nilSl, V 11 3 0 7, C 4000], .agg [C 5, C 4, S s0], I 0], [some (vc 140 4 5 [I 0, I 0, I 0, V 14 8 0 6, I 0, I 0, I 0, V 13 8 0 6, I 1, I 1, I 0, V 15 8 0 7, I 1, I 1, I 0, V 12 8 0 7, I 0, I 0, I 0, V 3 8 0 6] false), some (p10 n), some (p12 n), some o4, some o5, some (p4 n), some o6]⟩
def e34 (n : Int) : TE := ⟨1, [V 0 3 0 7], [some (p12 n)], .tup [.nm 1, .kb true], [some o21]⟩
def e35 (n : Int) : TE := ⟨1, [.agg [V 0 3 0 7, C 4000]], [some (p12 n)], I 0, []⟩
def e36 (n : Int) : TE := ⟨8, [a10], (w2 n), I 0, []⟩
def e37 (n : Int) : TE := ⟨8, [a10, .agg [C 5, C 4, S s0]], (w2 n), .tup [.agg [V 8 4 0 4, V 9 4 0 4, nilSl, V 10 3 0 7, C 4000], .sy (s13 ++ itoaB (pk100 n + (1 : Int)) ++ s14 ++ itoaB (pk100 n + (1 : Int) + (1 : Int)) ++ s15), I 0], [some p7, some (p10 n), some (p12 n), some o4, some o5, some (p4 n), some o6]⟩
def e38 (n : Int) : TE := ⟨9, [a9, a11], [some p11, some (p10 n), some o15, some o19, some o4, some o5, some (p4 n), some o5, some o6], .tup [.agg [V 9 4 0 4, V 10 4 0 4, nilSl, V 11 3 0 7, C 4000], .sy (s13 ++ itoaB (pk100 n + (1 : Int)) ++ s14 ++ itoaB (pk100 n + (1 : Int) + (1 : Int)) ++ s15), I 0], [some (vc 140 4 4 [I 0, I 0, I 0, V 14 8 0 6, I 0, I 0, I 0, V 13 8 0 6, I 1, I 1, I 0, V 15 8 0 7, I 1, I 1, I 0, V 12 8 0 7] false), some (p10 n), some (p12 n), some o4, some o5, some (p4 n), some o6]⟩
def e39 (n : Int) : TE := ⟨7, [a12], (w3 n), I 0, []⟩
def e40 (n : Int) : TE := ⟨7, [a12], (w3 n), .tup [.agg [V 7 1 0 4, nilSl], I 0], [some o7]⟩
def e41 (n : Int) : TE := ⟨1, [D (.arr 4 3 (dxL [(ls [(sy s1), (sy s4), (ls [(sy s9), (num 1)])]), (ls [(sy s1), (sy s10), (ls [(sy s6), (sy s2), (sy s4)])]), (ls [(sy s1), (ls [(sy s7), (sy s5)]), (sy s10)])])), .agg [V 0 1 0 4, nilSl]], [some o7], .tup [.agg [nilSl, V 1 10 0 3, nilSl], I 0, I 0], [some (vc 136 10 3 [S s4, C 10, I 0, I 0, S s0, nilSl, S s9, I 0, nilSl, V 3 9 0 1, S s10, C 10, I 0, I 0, S s0, nilSl, S s6, I 0, nilSl, V 2 9 0 2, S s7, C 6, I 0, I 0, S s0, nilSl, S s0, I 0, V 5 1 0 1, V 4 9 0 1] false), some o1, some o22, some o23, some (vc 9 1 1 [S s5] false)]⟩
def e42 (n : Int) : TE := ⟨1, [.agg [V 0 1 0 5, nilSl]], [some o26], I 0, []⟩
def e43 (n : Int) : TE := ⟨3, [a13, a2], [some o27, some o28, some (p4 n)], .kb true, []⟩
def e44 (n : Int) : TE := ⟨3, [a13, a2], [some o27, some o28, some o5], .kb true, []⟩
def e45 (n : Int) : TE := ⟨3, [a13, a3], [some o27, some o28, some o6], .kb true, []⟩
def e46 (n : Int) : TE := ⟨3, [a13, a3], [some o27, some o28, some o4], .kb true, []⟩
def e47 (n : Int) : TE := ⟨3, [a13, a14], [some o27, some o28, some o25], .kb true, []⟩
def e48 (n : Int) : TE := ⟨3, [a13, a15], [some o27, some o28, some o24], .kb true, []⟩
def e49 (n : Int) : TE := ⟨9, [a16], [some p13, some (p14 n), some (p12 n), some o4, some o5, some o24, some (p4 n), some o25, some o6], I 0, []⟩
def e50 (n : Int) : TE := ⟨1, [V 0 3 0 9], [some (p15 n)], .tup [.nm 1, .kb true], [some o30]⟩
def e51 (n : Int) : TE := ⟨1, [.agg [V 0 3 0 9, C 4000]], [some (p15 n)], I 0, []⟩
def e52 (n : Int) : TE := ⟨10, [a16, V 3 3 0 2, nilSl], [some (vc 140 4 6 [I 0, I 0, I 0, V 7 8 0 6, I 0, I 0, I 0, V 5 8 0 6, I 1, I 1, I 0, V 9 8 0 7, I 1, I 1, I 0, V 4 8 0 7, I 0, I 0, I 0, V 8 8 0 7, I 1, I 1, I 0, V 6 8 0 3] false), some (p14 n), some (p12 n), some o29, some o4, some o5, some o24, some (p4 n), some o25, some o6], .tup [.agg [V 10 4 0 6, V 11 4 0 5, nilSl, V 12 3 0 9, C 4000], .agg [C 5, C 7, S s0], I 0], [some p16, some (p14 n), some (p15 n), some o4, some o5, some o24, some (p4 n), some o25, some o6]⟩
def e53 (n : Int) : TE := ⟨9, [a17], [some p13, some (p17 n), some (p15 n), some o4, some o5, some o24, some (p4 n), some o25, some o6], I 0, []⟩
def e54 (n : Int) : TE := ⟨9, [a17, .agg [I 0, I 0, I 0, V 3 8 0 7], I 20000], [some (vc 140 4 6 [I 0, I 0, I 0, V 7 8 0 6, I 0, I 0, I 0, V 5 8 0 6, I 1, I 1, I 0, V 8 8 0 7, I 1, I 1, I 0, V 4 8 0 7, I 0, I 0, I 0, V 3 8 0 7, I 1, I 1, I 0, V 6 8 0 3] false), some (p17 n), some (p15 n), some o25, some o4, some o5, some o24, some (p4 n), some o6], .tup [.agg [.sl 9 4 0 6 (some 6), V 10 4 0 5, nilSl, V 11 3 0 9, C 4000], .agg [C 1, .ri .i64 3 201 (pk100 n + (1 : Int) + (pk100 n + (1 : Int) + (1 : Int))), S s0], I 0], [some (vc 140 4 7 [I 0, I 0, I 0, V 15 8 0 6, I 0, I 0, I 0, V 13 8 0 6, I 1, I 1, I 0, V 17 8 0 7, I 1, I 1, I 0, V 12 8 0 7, I 0, I 0, I 0, V 16 8 0 7, I 1, I 1, I 0, V 14 8 0 3, I 0, I 0, I 0, V 3 8 0 7] false), some (p17 n), some (p15 n), some o4, some o5, some o24, some (p4 n), some o25, some o6]⟩
def e55 (n : Int) : TE := ⟨12, [a12, .agg [nilSl, V 3 10 0 3, nilSl]], [some p6, some (p10 n), some (p12 n), some (vc 136 10 3 [S s4, C 10, I 0, I 0, S s0, nilSl, S s9, I 0, nilSl, V 9 9 0 1, S s10, C 10, I 0, I 0, S s0, nilSl, S s6, I 0, nilSl, V 8 9 0 2, S s7, C 6, I 0, I 0, S s0, nilSl, S s0, I 0, V 11 1 0 1, V 10 9 0 1] false), some o4, some o5, some (p4 n), some o6, some o1, some o22, some o23, some (vc 9 1 1 [S s5] false)], .tup [.agg [.sl 12 4 0 6 (some 6), V 13 4 0 5, nilSl, V 14 3 0 9, C 4000], I 0], [some (vc 140 4 7 [I 0, I 0, I 0, V 18 8 0 6, I 0, I 0, I 0, V 16 8 0 6, I 1, I 1, I 0, V 20 8 0 7, I 1, I 1, I 0, V 15 8 0 7, I 0, I 0, I 0, V 19 8 0 7, I 1, I 1, I 0, V 17 8 0 3, I 0, I 0, I 0, V 21 8 0 7] false), some (p18 n), some (p15 n), some o4, some o5, some o24, some (p4 n), some o25, some o6, some o25]⟩
def e56 (n : Int) : TE := ⟨7, [a12, S s16], (w3 n), .tup [.agg [.sl 7 4 0 6 (some 6), V 8 4 0 5, nilSl, V 9 3 0 9, C 4000], I 0], [some (vc 140 4 7 [I 0, I 0, I 0, V 13 8 0 6, I 0, I 0, I 0, V 11 8 0 6, I 1, I 1, I 0, V 15 8 0 7, I 1, I 1, I 0, V 10 8 0 7, I 0, I 0, I 0, V 14 8 0 7, I 1, I 1, I 0, V 12 8 0 3, I 0, I 0, I 0, V 16 8 0 7] false), some (p18 n), some (p15 n), some o4, some o5, some o24, some (p4 n), some o25, some o6, some o25]⟩
def e57 (n : Int) : TE := ⟨3, [a18, a2], [some o31, some o28, some (p4 n)], .kb true, []⟩
def e58 (n : Int) : TE := ⟨3, [a18, a2], [some o31, some o28, some o5], .kb true, []⟩
def e59 (n : Int) : TE := ⟨3, [a18, a3], [some o31, some o28, some o6], .kb true, []⟩
def e60 (n : Int) : TE := ⟨3, [a18, a3], [some o31, some o28, some o4], .kb true, []⟩
def e61 (n : Int) : TE := ⟨3, [a18, a14], [some o31, some o28, some o25], .kb true, []⟩
def e62 (n : Int) : TE := ⟨3, [a18, a15], [some o31, some o28, some o24], .kb true, []⟩
def e63 (n : Int) : TE := ⟨10, [a19], (w4 n), I 0, []⟩
def e64 (n : Int) : TE := ⟨10, [a19], (w4 n), .tup [.agg [V 10 1 0 5, nilSl], I 0], [some o26]⟩
def e65 (n : Int) : TE := ⟨3, [a18, a2], [some o31, some o28, some o20], .kb true, []⟩
def e66 (n : Int) : TE := ⟨11, [a19, a7, I 5000], [some p20, some (p18 n), some (p15 n), some o20, some o4, some o5, some o24, some (p4 n), some o25, some o6, some o25], .tup [.agg [.sl 11 4 0 6 (some 6), V 12 4 0 5, nilSl, V 13 3 0 9, C 4000], .agg [C 1, .ri .i64 3 201 (pk100 n + (1 : Int) + (pk100 n + (1 : Int) + (1 : Int))), S s0], I 0], [some (vc 140 4 7 [I 0, I 0, I 0, V 17 8 0 6, I 0, I 0, I 0, V 15 8 0 6, I 1, I 1, I 0, V 19 8 0 7, I 1, I 1, I 0, V 14 8 0 7, I 0, I 0, I 0, V 18 8 0 7, I 1, I 1, I 0, V 16 8 0 3, I 0, I 0, I 0, V 3 8 0 6] false), some (p18 n), some (p15 n), some o4, some o5, some o24, some (p4 n), some o25, some o6]⟩
def e67 (n : Int) : TE := ⟨10, [a19], (w5 n), I 0, []⟩
def e68 (n : Int) : TE := ⟨10, [a19, .agg [C 1, .ri .i64 3 201 (pk100 n + (1 : Int) + (pk100 n + (1 : Int) + (1 : Int))), S s0]], (w5 n), .tup [.agg [V 10 4 0 6, V 11 4 0 5, nilSl, V 12 3 0 9, C 4000], .sy (itoaB (pk100 n + (1 : Int) + (pk100 n + (1 : Int) + (1 : Int)))), I 0], [some p16, some (p18 n), some (p15 n), some o4, some o5, some o24, some (p4 n), some o25, some o6]⟩
def e69 (n : Int) : TE := ⟨11, [a19, a11], [some p20, some (p18 n), some (p15 n), some o19, some o4, some o5, some o24, some (p4 n), some o25, some o6, some o25], .tup [.agg [V 11 4 0 6, V 12 4 0 5, nilSl, V 13 3 0 9, C 4000], .sy (itoaB (pk100 n + (1 : Int) + (pk100 n + (1 : Int) + (1 : Int)))), I 0], [some (vc 140 4 6 [I 0, I 0, I 0, V 17 8 0 6, I 0, I 0, I 0, V 15 8 0 6, I 1, I 1, I 0, V 19 8 0 7, I 1, I 1, I 0, V 14 8 0 7, I 0, I 0, I 0, V 18 8 0 7, I 1, I 1, I 0, V 16 8 0 3] false), some (p18 n), some (p15 n), some o4, some o5, some o24, some (p4 n), some o25, some o6]⟩
end
theorem fx (n : Int) : 0 ≤ pk100 n ∧ pk100 n < 100 ∧ (itoaB (2 * pk100 n + 3)).size ≤ 3 ∧ 0 < (itoaB (2 * pk100 n + 3)).size ∧ (itoaB (pk100 n + 1 + (pk100 n + 1 + 1))).size ≤ 3 ∧ 0 < (itoaB (pk100 n + 1 + (pk100 n + 1 + 1))).size ∧ (itoaB (pk100 n + 1 + 1)).size ≤ 3 ∧ 0 < (itoaB (pk100 n + 1 + 1)).size ∧ (itoaB (pk100 n + 1)).size ≤ 3 ∧ 0 < (itoaB (pk100 n + 1)).size ∧ (itoaB (pk100 n + 2)).size ≤ 3 ∧ 0 < (itoaB (pk100 n + 2)).size ∧ (itoaB (pk100 n)).size ≤ 3 ∧ 0 < (itoaB (pk100 n)).size := by
 have h0 : 0 ≤ pk100 n := (picked_bounds n (by decide)).1
 have h1 : pk100 n < 100 := (picked_bounds n (by decide)).2
 refine ⟨h0, h1, num_size (by omega) (by omega), num_pos (by omega) (by omega), num_size (by omega) (by omega), num_pos (by omega) (by omega), num_size (by omega) (by omega), num_pos (by omega) (by omega), num_size (by omega) (by omega), num_pos (by omega) (by omega), num_size (by omega) (by omega), num_pos (by omega) (by omega), num_size (by omega) (by omega), num_pos (by omega) (by omega)⟩
end Gv.LValuesOnce
