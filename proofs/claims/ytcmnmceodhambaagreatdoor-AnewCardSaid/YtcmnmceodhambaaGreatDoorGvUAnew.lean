/- What the told parts of Anew are made of. Printed by gvgen.py. -/
import Derived.Test.YtcmnmceodhambaaGreatDoorGvO
set_option linter.unusedVariables false
open Rx Go
namespace Gv.LAnew
open Gv Rd
noncomputable section
def s1 : ByteArray := ⟨#[100, 101, 102, 105, 110, 101]⟩
def s2 : ByteArray := ⟨#[102]⟩
def s3 : ByteArray := ⟨#[110]⟩
def s4 : ByteArray := ⟨#[103]⟩
def s5 : ByteArray := ⟨#[111, 108, 100]⟩
def s6 : ByteArray := ⟨#[104]⟩
def s7 : ByteArray := ⟨#[40, 100, 101, 102, 105, 110, 101, 32, 40, 102, 32, 110, 41, 32]⟩
def s8 : ByteArray := ⟨#[41, 32, 40, 100, 101, 102, 105, 110, 101, 32, 40, 103, 32, 110, 41, 32, 40, 102, 32, 110, 41, 41, 32, 40, 100, 101, 102, 105, 110, 101, 32, 111, 108, 100, 32, 102, 41, 32, 40, 100, 101, 102, 105, 110, 101, 32, 40, 104, 32, 110, 41, 32, 40, 111, 108, 100, 32, 110, 41, 41]⟩
def s9 : ByteArray := ⟨#[41]⟩
theorem s1_z : s1.size = 6 := rfl
theorem s1_t : s1.data.toList = [100, 101, 102, 105, 110, 101] := rfl
theorem s2_z : s2.size = 1 := rfl
theorem s2_t : s2.data.toList = [102] := rfl
theorem s3_z : s3.size = 1 := rfl
theorem s3_t : s3.data.toList = [110] := rfl
theorem s4_z : s4.size = 1 := rfl
theorem s4_t : s4.data.toList = [103] := rfl
theorem s5_z : s5.size = 3 := rfl
theorem s5_t : s5.data.toList = [111, 108, 100] := rfl
theorem s6_z : s6.size = 1 := rfl
theorem s6_t : s6.data.toList = [104] := rfl
theorem s7_z : s7.size = 14 := rfl
theorem s7_t : s7.data.toList = [40, 100, 101, 102, 105, 110, 101, 32, 40, 102, 32, 110, 41, 32] := rfl
theorem s8_z : s8.size = 60 := rfl
theorem s8_t : s8.data.toList = [41, 32, 40, 100, 101, 102, 105, 110, 101, 32, 40, 103, 32, 110, 41, 32, 40, 102, 32, 110, 41, 41, 32, 40, 100, 101, 102, 105, 110, 101, 32, 111, 108, 100, 32, 102, 41, 32, 40, 100, 101, 102, 105, 110, 101, 32, 40, 104, 32, 110, 41, 32, 40, 111, 108, 100, 32, 110, 41, 41] := rfl
theorem s9_z : s9.size = 1 := rfl
theorem s9_t : s9.data.toList = [41] := rfl
abbrev pk100 (n : Int) : Int := pickedS n 100
def o0 : Ob := vc 134 9 2 [C 3, I 0, I 0, S s0, nilSl, S s5, I 0, nilSl, nilSl, C 2, I 0, I 0, S s0, nilSl, S s3, I 0, nilSl, nilSl] false
def o1 : Ob := vc 134 9 2 [C 3, I 0, I 0, S s0, nilSl, S s2, I 0, nilSl, nilSl, C 2, I 0, I 0, S s0, nilSl, S s3, I 0, nilSl, nilSl] false
def o2 : Ob := vc 130 4 4 [S s2, C 3, I 0, S s0, S s4, C 3, I 0, S s0, S s5, C 3, I 0, S s0, S s6, C 3, I 0, S s0] false
def o3 : Ob := vc 200 8 6 [C 1, I 0, I 0, S s0, S s0, I 0, I 0, S s0, C 1, I 0, I 0, S s0, S s0, I 0, I 0, S s0, C 9, I 0, I 0, S s5, S s0, I 0, I 0, S s0, C 1, I 0, I 0, S s0, S s0, I 0, I 0, S s0, C 3, C 0, I 0, S s0, S s0, I 0, I 0, S s0, C 13, C 1, I 0, S s0, S s0, I 0, I 0, S s0] false
def o4 : Ob := vc 200 8 6 [C 1, I 0, I 0, S s0, S s0, I 0, I 0, S s0, C 1, I 0, I 0, S s0, S s0, I 0, I 0, S s0, C 9, I 0, I 0, S s2, S s0, I 0, I 0, S s0, C 1, I 0, I 0, S s0, S s0, I 0, I 0, S s0, C 3, C 0, I 0, S s0, S s0, I 0, I 0, S s0, C 13, C 1, I 0, S s0, S s0, I 0, I 0, S s0] false
def o5 : Ob := vc 200 8 3 [C 1, I 0, I 0, S s0, S s0, I 0, I 0, S s0, C 9, I 0, I 0, S s2, S s0, I 0, I 0, S s0, C 14, I 0, I 0, S s0, S s0, I 0, I 0, S s0] false
def o6 : Ob := vc 9 1 4 [S s2, S s4, S s5, S s6] false
def o7 : Ob := vc 140 4 4 [J, J, I 0, J, J, J, I 0, J, J, J, I 0, J, J, J, I 0, J] false
def o8 : Ob := vc 130 4 4 [S s2, J, J, J, S s4, J, J, J, S s5, J, J, J, S s6, J, J, J] false
def o9 : Ob := vc 126 3 2 [C 8, C 0, S s0, C 1, I 0, S s0] true
def o10 : Ob := vc 126 3 2 [C 8, C 0, S s0, C 1, I 0, S s0] false
def o11 : Ob := .mp (.int .i64) .bool [((0 : Int), true)]
def o12 : Ob := vc 130 4 4 [S s2, C 5, C 0, S s0, S s4, C 3, I 0, S s0, S s5, C 3, I 0, S s0, S s6, C 3, I 0, S s0] false
def o13 : Ob := vc 126 3 2 [C 8, C 1, S s0, C 1, I 0, S s0] true
def o14 : Ob := vc 126 3 4 [C 8, C 0, S s0, C 1, I 0, S s0, C 8, C 1, S s0, C 1, I 0, S s0] false
def o15 : Ob := .mp (.int .i64) .bool [((0 : Int), true), ((2 : Int), true)]
def o16 : Ob := vc 130 4 4 [S s2, C 5, C 0, S s0, S s4, C 5, C 2, S s0, S s5, C 3, I 0, S s0, S s6, C 3, I 0, S s0] false
def o17 : Ob := vc 126 3 2 [C 8, C 3, S s0, C 1, I 0, S s0] true
def o18 : Ob := vc 126 3 6 [C 8, C 0, S s0, C 1, I 0, S s0, C 8, C 1, S s0, C 1, I 0, S s0, C 8, C 3, S s0, C 1, I 0, S s0] false
def o19 : Ob := .mp (.int .i64) .bool [((0 : Int), true), ((2 : Int), true), ((4 : Int), true)]
def o20 : Ob := vc 130 4 4 [S s2, C 5, C 0, S s0, S s4, C 5, C 2, S s0, S s5, C 3, I 0, S s0, S s6, C 5, C 4, S s0] false
def o21 : Ob := vc 130 4 4 [S s2, C 5, C 0, S s0, S s4, C 5, C 2, S s0, S s5, C 5, C 0, S s0, S s6, C 5, C 4, S s0] false
def o22 : Ob := vc 47 4 1 [C 1, C 0, S s0, nilSl] true
def o23 : Ob := vc 140 4 5 [J, J, I 0, J, J, J, I 0, J, J, J, I 0, J, J, J, I 0, J, J, J, I 0, J] false
def o24 : Ob := vc 200 8 6 [C 1, I 0, I 0, S s0, S s0, I 0, I 0, S s0, C 1, I 0, I 0, S s0, S s0, I 0, I 0, S s0, C 9, I 0, I 0, S s4, S s0, I 0, I 0, S s0, C 1, I 0, I 0, S s0, S s0, I 0, I 0, S s0, C 2, I 0, I 0, S s0, S s0, C 1, C 0, S s0, C 13, C 1, I 0, S s0, S s0, I 0, I 0, S s0] false
def o25 : Ob := vc 200 8 6 [C 1, I 0, I 0, S s0, S s0, I 0, I 0, S s0, C 1, I 0, I 0, S s0, S s0, I 0, I 0, S s0, C 9, I 0, I 0, S s6, S s0, I 0, I 0, S s0, C 1, I 0, I 0, S s0, S s0, I 0, I 0, S s0, C 2, I 0, I 0, S s0, S s0, C 1, C 0, S s0, C 13, C 1, I 0, S s0, S s0, I 0, I 0, S s0] false
def o26 : Ob := vc 126 3 2 [C 8, C 4, S s0, C 1, I 0, S s0] true
def o27 : Ob := vc 126 3 8 [C 8, C 0, S s0, C 1, I 0, S s0, C 8, C 1, S s0, C 1, I 0, S s0, C 8, C 3, S s0, C 1, I 0, S s0, C 8, C 4, S s0, C 1, I 0, S s0] false
def o28 : Ob := .mp (.int .i64) .bool [((0 : Int), true), ((2 : Int), true), ((4 : Int), true), ((6 : Int), true)]
def o29 : Ob := vc 130 4 4 [S s2, C 5, C 6, S s0, S s4, C 5, C 2, S s0, S s5, C 5, C 0, S s0, S s6, C 5, C 4, S s0] false
def o30 : Ob := vc 140 4 6 [J, J, I 0, J, J, J, I 0, J, J, J, I 0, J, J, J, I 0, J, J, J, I 0, J, J, J, I 0, J] false
def p0 : Ob := vc 136 10 4 [S s2, C 6, I 0, I 0, S s0, nilSl, S s0, I 0, V 4 1 0 1, V 3 9 0 1, S s4, C 6, I 0, I 0, S s0, nilSl, S s0, I 0, V 5 1 0 1, V 2 9 0 1, S s5, C 3, I 0, I 0, S s0, nilSl, S s2, I 0, nilSl, nilSl, S s6, C 6, I 0, I 0, S s0, nilSl, S s0, I 0, V 6 1 0 1, V 1 9 0 1] false
def p1 : Ob := vc 134 9 1 [C 9, I 0, I 0, S s0, nilSl, S s0, I 0, nilSl, V 7 9 0 2] true
def p2 : Ob := vc 134 9 1 [C 9, I 0, I 0, S s0, nilSl, S s0, I 0, nilSl, V 8 9 0 2] true
def p3 (n m : Int) : Ob := vc 134 9 1 [C 1, C 1, D (.ri .i64 0 99 (pk100 n)), S s0, D (.arr 4 0 (dxL [])), S s0, I 0, nilSl, nilSl] true
def p4 (n m : Int) : Ob := vc 200 8 3 [C 1, I 0, I 0, S s0, S s0, I 0, I 0, S s0, C 2, I 0, I 0, S s0, S s0, C 1, .ri .i64 0 99 (pk100 n), S s0, C 14, I 0, I 0, S s0, S s0, I 0, I 0, S s0] false
def p5 : Ob := vc 140 4 4 [I 1, I 1, I 0, V 5 8 0 3, I 1, I 1, I 0, V 4 8 0 6, I 0, I 0, I 0, V 6 8 0 3, I 1, I 1, I 0, V 3 8 0 6] false
def p6 : Ob := vc 140 4 4 [I 1, I 1, I 0, V 6 8 0 3, I 1, I 1, I 0, V 5 8 0 6, I 0, I 0, I 0, V 7 8 0 3, I 1, I 1, I 0, V 4 8 0 6] false
def p7 : Ob := vc 140 4 4 [I 1, I 1, I 0, V 13 8 0 3, I 1, I 1, I 0, V 12 8 0 6, I 0, I 0, I 0, V 14 8 0 3, I 1, I 1, I 0, V 11 8 0 6] false
def p8 : Ob := vc 140 4 5 [I 1, I 1, I 0, V 5 8 0 3, I 1, I 1, I 0, V 4 8 0 6, I 0, I 0, I 0, V 7 8 0 3, I 1, I 1, I 0, V 3 8 0 6, I 0, I 0, I 0, V 6 8 0 3] false
def p9 : Ob := vc 140 4 5 [I 1, I 1, I 0, V 6 8 0 3, I 1, I 1, I 0, V 5 8 0 6, I 0, I 0, I 0, V 8 8 0 3, I 1, I 1, I 0, V 4 8 0 6, I 0, I 0, I 0, V 7 8 0 3] false
def p10 : Ob := vc 140 4 5 [I 1, I 1, I 0, V 5 8 0 3, I 1, I 1, I 0, V 4 8 0 6, I 0, I 0, I 0, V 7 8 0 3, I 1, I 1, I 0, V 3 8 0 6, I 0, I 0, I 0, V 6 8 0 6] false
def p11 (n m : Int) : Ob := vc 134 9 1 [C 1, C 1, D (.ri .i64 0 99 (pk100 m)), S s0, D (.arr 4 0 (dxL [])), S s0, I 0, nilSl, nilSl] true
def p12 (n m : Int) : Ob := vc 200 8 3 [C 1, I 0, I 0, S s0, S s0, I 0, I 0, S s0, C 2, I 0, I 0, S s0, S s0, C 1, .ri .i64 0 99 (pk100 m), S s0, C 14, I 0, I 0, S s0, S s0, I 0, I 0, S s0] false
def p13 : Ob := vc 140 4 5 [I 1, I 1, I 0, V 5 8 0 3, I 1, I 1, I 0, V 4 8 0 6, I 0, I 0, I 0, V 7 8 0 3, I 1, I 1, I 0, V 3 8 0 6, I 1, I 1, I 0, V 6 8 0 3] false
def p14 : Ob := vc 140 4 5 [I 1, I 1, I 0, V 6 8 0 3, I 1, I 1, I 0, V 5 8 0 6, I 0, I 0, I 0, V 8 8 0 3, I 1, I 1, I 0, V 4 8 0 6, I 1, I 1, I 0, V 7 8 0 3] false
def p15 : Ob := vc 140 4 5 [I 1, I 1, I 0, V 14 8 0 3, I 1, I 1, I 0, V 13 8 0 6, I 0, I 0, I 0, V 16 8 0 3, I 1, I 1, I 0, V 12 8 0 6, I 1, I 1, I 0, V 15 8 0 3] false
def p16 : Ob := vc 140 4 6 [I 1, I 1, I 0, V 14 8 0 3, I 1, I 1, I 0, V 13 8 0 6, I 0, I 0, I 0, V 16 8 0 3, I 1, I 1, I 0, V 12 8 0 6, I 1, I 1, I 0, V 15 8 0 3, I 0, I 0, I 0, V 3 8 0 6] false
def p17 : Ob := vc 140 4 6 [I 1, I 1, I 0, V 6 8 0 3, I 1, I 1, I 0, V 4 8 0 6, I 0, I 0, I 0, V 8 8 0 3, I 1, I 1, I 0, V 3 8 0 6, I 1, I 1, I 0, V 7 8 0 3, I 0, I 0, I 0, V 5 8 0 6] false
def a0 : SV := .agg [nilSl, nilSl, nilSl, nilSl, C 4000]
def a1 : SV := .agg [V 0 4 0 4, V 1 4 0 4, nilSl, J, J]
def a2 : SV := .agg [I 1, I 1, I 0, V 2 8 0 3]
def a3 : SV := .agg [I 1, I 1, I 0, V 2 8 0 6]
def a4 : SV := .agg [I 0, I 0, I 0, V 2 8 0 3]
def a5 : SV := .agg [V 0 4 0 4, V 1 4 0 4, nilSl, nilSl, C 4000]
def a6 : SV := .agg [V 0 4 0 4, V 1 4 0 4, nilSl, V 2 3 0 2, C 4000]
def a7 : SV := .agg [V 0 4 0 4, V 1 4 0 4, nilSl, V 2 3 0 4, C 4000]
def a8 : SV := .agg [V 0 4 0 4, V 1 4 0 4, nilSl, V 2 3 0 6, C 4000]
def a9 : SV := .agg [.sl 0 4 0 4 (some 4), V 1 4 0 4, nilSl, J, J]
def a10 : SV := .agg [.sl 0 4 0 4 (some 4), V 1 4 0 4, nilSl, V 2 3 0 6, C 4000]
def a11 : SV := .agg [I 0, I 0, I 0, V 2 8 0 6]
def a12 : SV := .agg [I 0, I 0, I 0, V 3 8 0 6]
def a13 (n m : Int) : SV := .agg [C 1, .ri .i64 0 99 (pk100 n), S s0]
def a14 : SV := .agg [C 2, S s0, S s4, V 3 4 0 1, C 5000]
def a15 : SV := .agg [C 2, S s0, S s6, V 3 4 0 1, C 5000]
def a16 : SV := .agg [V 0 4 0 5, V 1 4 0 4, nilSl, J, J]
def a17 : SV := .agg [V 0 4 0 5, V 1 4 0 4, nilSl, V 2 3 0 6, C 4000]
def a18 : SV := .agg [V 0 4 0 5, V 1 4 0 4, nilSl, V 2 3 0 8, C 4000]
def a19 : SV := .agg [.sl 0 4 0 5 (some 5), V 1 4 0 4, nilSl, J, J]
def a20 : SV := .agg [.sl 0 4 0 5 (some 5), V 1 4 0 4, nilSl, V 2 3 0 8, C 4000]
def w0 (n m : Int) : List (Option Ob) := [some p0, some p1, some p2, some (p3 n m), some (vc 9 1 1 [S s3] false), some (vc 9 1 1 [S s3] false), some (vc 9 1 1 [S s3] false), some o0, some o1]
def w1 (n m : Int) : List (Option Ob) := [some p8, some o21, some o18, some o3, some o4, some (p4 n m), some o5, some o5]
def w2 (n m : Int) : List (Option Ob) := [some o23, some o8, some (p4 n m)]
def w3 (n m : Int) : List (Option Ob) := [some p10, some o21, some o18, some o3, some o4, some (p4 n m), some o24, some o5]
def w4 (n m : Int) : List (Option Ob) := [some p7, some o21, some o18, some o3, some o4, some (p4 n m), some o5]
def w5 (n m : Int) : List (Option Ob) := [some p5, some o21, some o18, some o3, some o4, some (p4 n m), some o5]
def w6 (n m : Int) : List (Option Ob) := [some p10, some o21, some o18, some o3, some o4, some (p4 n m), some o25, some o5]
def w7 (n m : Int) : List (Option Ob) := [some p13, some o29, some o27, some o3, some o4, some (p4 n m), some (p12 n m), some o5]
def w8 (n m : Int) : List (Option Ob) := [some p16, some o29, some o27, some o3, some o4, some (p4 n m), some (p12 n m), some o5]
def w9 (n m : Int) : List (Option Ob) := [some p17, some o29, some o27, some o3, some o4, some o24, some (p4 n m), some (p12 n m), some o5]
def w10 (n m : Int) : List (Option Ob) := [some p15, some o29, some o27, some o3, some o4, some (p4 n m), some (p12 n m), some o5]
def w11 (n m : Int) : List (Option Ob) := [some p14, some o29, some o27, some o22, some o3, some o4, some (p4 n m), some (p12 n m), some o5]
def w12 (n m : Int) : List (Option Ob) := [some p17, some o29, some o27, some o3, some o4, some o25, some (p4 n m), some (p12 n m), some o5]
def e0 (n m : Int) : TE := ⟨0, [nilSl], [], .tup [.nm 0, .kb true], [some (.mp (.int .i64) .bool [])]⟩
def e1 (n m : Int) : TE := ⟨0, [.agg [nilSl, C 4000]], [], I 0, []⟩
def e2 (n m : Int) : TE := ⟨0, [.agg [nilSl, nilSl]], [], I 0, []⟩
def e3 (n m : Int) : TE := ⟨0, [a0], [], I 0, []⟩
def e4 (n m : Int) : TE := ⟨0, [a0], [], .tup [.agg [nilSl, nilSl], I 0], []⟩
def e5 (n m : Int) : TE := ⟨0, [D (.arr 4 4 (dxL [(ls [(sy s1), (ls [(sy s2), (sy s3)]), (nu 0 99 (pk100 n))]), (ls [(sy s1), (ls [(sy s4), (sy s3)]), (ls [(sy s2), (sy s3)])]), (ls [(sy s1), (sy s5), (sy s2)]), (ls [(sy s1), (ls [(sy s6), (sy s3)]), (ls [(sy s5), (sy s3)])])])), .agg [nilSl, nilSl]], [], .tup [.agg [nilSl, V 0 10 0 4, nilSl], I 0, I 0], (w0 n m)⟩
def e6 (n m : Int) : TE := ⟨1, [.agg [V 0 1 0 4, nilSl]], [some o6], I 0, []⟩
def e7 (n m : Int) : TE := ⟨0, [.agg [nilSl, C 50]], [], I 0, []⟩
def e8 (n m : Int) : TE := ⟨3, [a1, a2], [some o7, some o8, some (p4 n m)], .kb true, []⟩
def e9 (n m : Int) : TE := ⟨3, [a1, a3], [some o7, some o8, some o4], .kb true, []⟩
def e10 (n m : Int) : TE := ⟨3, [a1, a4], [some o7, some o8, some o5], .kb true, []⟩
def e11 (n m : Int) : TE := ⟨3, [a1, a3], [some o7, some o8, some o3], .kb true, []⟩
def e12 (n m : Int) : TE := ⟨6, [a5], [some (vc 140 4 4 [I 1, I 1, I 0, V 4 8 0 3, I 1, I 1, I 0, V 3 8 0 6, I 0, I 0, I 0, V 5 8 0 3, I 1, I 1, I 0, V 2 8 0 6] false), some o2, some o3, some o4, some (p4 n m), some o5], I 0, []⟩
def e13 (n m : Int) : TE := ⟨1, [V 0 3 0 2], [some o10], .tup [.nm 1, .kb true], [some o11]⟩
def e14 (n m : Int) : TE := ⟨1, [.agg [V 0 3 0 2, C 4000]], [some o10], I 0, []⟩
def e15 (n m : Int) : TE := ⟨7, [a5, V 2 3 0 2, nilSl], [some p5, some o2, some o9, some o3, some o4, some (p4 n m), some o5], .tup [.agg [V 7 4 0 4, V 8 4 0 4, nilSl, V 9 3 0 2, C 4000], .agg [C 5, C 0, S s0], I 0], [some (vc 140 4 4 [I 1, I 1, I 0, V 12 8 0 3, I 1, I 1, I 0, V 11 8 0 6, I 0, I 0, I 0, V 13 8 0 3, I 1, I 1, I 0, V 10 8 0 6] false), some o2, some o10, some o3, some o4, some (p4 n m), some o5]⟩
def e16 (n m : Int) : TE := ⟨7, [a6], [some p5, some o12, some o10, some o3, some o4, some (p4 n m), some o5], I 0, []⟩
def e17 (n m : Int) : TE := ⟨1, [V 0 3 0 4], [some o14], .tup [.nm 1, .kb true], [some o15]⟩
def e18 (n m : Int) : TE := ⟨1, [.agg [V 0 3 0 4, C 4000]], [some o14], I 0, []⟩
def e19 (n m : Int) : TE := ⟨8, [a6, V 3 3 0 2, nilSl], [some p6, some o12, some o10, some o13, some o3, some o4, some (p4 n m), some o5], .tup [.agg [V 8 4 0 4, V 9 4 0 4, nilSl, V 10 3 0 4, C 4000], .agg [C 5, C 2, S s0], I 0], [some p7, some o12, some o14, some o3, some o4, some (p4 n m), some o5]⟩
def e20 (n m : Int) : TE := ⟨7, [a7], [some p5, some o16, some o14, some o3, some o4, some (p4 n m), some o5], I 0, []⟩
def e21 (n m : Int) : TE := ⟨1, [V 0 3 0 6], [some o18], .tup [.nm 1, .kb true], [some o19]⟩
def e22 (n m : Int) : TE := ⟨1, [.agg [V 0 3 0 6, C 4000]], [some o18], I 0, []⟩
def e23 (n m : Int) : TE := ⟨8, [a7, V 3 3 0 2, nilSl], [some p6, some o16, some o14, some o17, some o3, some o4, some (p4 n m), some o5], .tup [.agg [V 8 4 0 4, V 9 4 0 4, nilSl, V 10 3 0 6, C 4000], .agg [C 5, C 4, S s0], I 0], [some p7, some o16, some o18, some o3, some o4, some (p4 n m), some o5]⟩
def e24 (n m : Int) : TE := ⟨7, [a8], [some p5, some o20, some o18, some o3, some o4, some (p4 n m), some o5], I 0, []⟩
def e25 (n m : Int) : TE := ⟨7, [a8, .agg [I 0, I 0, I 0, V 3 8 0 3], I 20000], [some (vc 140 4 4 [I 1, I 1, I 0, V 6 8 0 3, I 1, I 1, I 0, V 5 8 0 6, I 0, I 0, I 0, V 3 8 0 3, I 1, I 1, I 0, V 4 8 0 6] false), some o20, some o18, some o5, some o3, some o4, some (p4 n m)], .tup [.agg [.sl 7 4 0 4 (some 4), V 8 4 0 4, nilSl, V 9 3 0 6, C 4000], .agg [C 5, C 0, S s0], I 0], [some (vc 140 4 5 [I 1, I 1, I 0, V 12 8 0 3, I 1, I 1, I 0, V 11 8 0 6, I 0, I 0, I 0, V 13 8 0 3, I 1, I 1, I 0, V 10 8 0 6, I 0, I 0, I 0, V 3 8 0 3] false), some o20, some o18, some o3, some o4, some (p4 n m), some o5]⟩
def e26 (n m : Int) : TE := ⟨9, [a0, .agg [nilSl, V 0 10 0 4, nilSl]], (w0 n m), .tup [.agg [.sl 9 4 0 4 (some 4), V 10 4 0 4, nilSl, V 11 3 0 6, C 4000], I 0], [some (vc 140 4 5 [I 1, I 1, I 0, V 14 8 0 3, I 1, I 1, I 0, V 13 8 0 6, I 0, I 0, I 0, V 16 8 0 3, I 1, I 1, I 0, V 12 8 0 6, I 0, I 0, I 0, V 15 8 0 3] false), some o21, some o18, some o3, some o4, some (p4 n m), some o5, some o5]⟩
def e27 (n m : Int) : TE := ⟨0, [a0, .sy (s7 ++ itoaB (pk100 n) ++ s8)], [], .tup [.agg [.sl 0 4 0 4 (some 4), V 1 4 0 4, nilSl, V 2 3 0 6, C 4000], I 0], (w1 n m)⟩
def e28 (n m : Int) : TE := ⟨3, [a9, a2], (w2 n m), .kb true, []⟩
def e29 (n m : Int) : TE := ⟨3, [a9, a3], [some o23, some o8, some o4], .kb true, []⟩
def e30 (n m : Int) : TE := ⟨3, [a9, a4], [some o23, some o8, some o5], .kb true, []⟩
def e31 (n m : Int) : TE := ⟨3, [a9, a3], [some o23, some o8, some o3], .kb true, []⟩
def e32 (n m : Int) : TE := ⟨8, [a10], (w1 n m), I 0, []⟩
def e33 (n m : Int) : TE := ⟨8, [a10], (w1 n m), .tup [.agg [V 8 1 0 4, nilSl], I 0], [some o6]⟩
def e34 (n m : Int) : TE := ⟨3, [a9, a11], [some o23, some o8, some o24], .kb true, []⟩
def e35 (n m : Int) : TE := ⟨9, [a10, a12, I 5000], [some p9, some o21, some o18, some o24, some o3, some o4, some (p4 n m), some o5, some o5], .tup [.agg [.sl 9 4 0 4 (some 4), V 10 4 0 4, nilSl, V 11 3 0 6, C 4000], .agg [C 1, .ri .i64 0 99 (pk100 n), S s0], I 0], [some (vc 140 4 5 [I 1, I 1, I 0, V 14 8 0 3, I 1, I 1, I 0, V 13 8 0 6, I 0, I 0, I 0, V 15 8 0 3, I 1, I 1, I 0, V 12 8 0 6, I 0, I 0, I 0, V 3 8 0 6] false), some o21, some o18, some o3, some o4, some (p4 n m), some o5]⟩
def e36 (n m : Int) : TE := ⟨8, [a10], (w3 n m), I 0, []⟩
def e37 (n m : Int) : TE := ⟨8, [a10, (a13 n m)], (w3 n m), .tup [.agg [V 8 4 0 4, V 9 4 0 4, nilSl, V 10 3 0 6, C 4000], .sy (itoaB (pk100 n)), I 0], (w4 n m)⟩
def e38 (n m : Int) : TE := ⟨9, [a10, a14], [some p9, some o21, some o18, some o22, some o3, some o4, some (p4 n m), some o5, some o5], .tup [.agg [V 9 4 0 4, V 10 4 0 4, nilSl, V 11 3 0 6, C 4000], .sy (itoaB (pk100 n)), I 0], [some (vc 140 4 4 [I 1, I 1, I 0, V 14 8 0 3, I 1, I 1, I 0, V 13 8 0 6, I 0, I 0, I 0, V 15 8 0 3, I 1, I 1, I 0, V 12 8 0 6] false), some o21, some o18, some o3, some o4, some (p4 n m), some o5]⟩
def e39 (n m : Int) : TE := ⟨7, [a8], (w5 n m), I 0, []⟩
def e40 (n m : Int) : TE := ⟨7, [a8], (w5 n m), .tup [.agg [V 7 1 0 4, nilSl], I 0], [some o6]⟩
def e41 (n m : Int) : TE := ⟨3, [a1, a11], [some o7, some o8, some o25], .kb true, []⟩
def e42 (n m : Int) : TE := ⟨8, [a8, a12, I 5000], [some p6, some o21, some o18, some o25, some o3, some o4, some (p4 n m), some o5], .tup [.agg [.sl 8 4 0 4 (some 4), V 9 4 0 4, nilSl, V 10 3 0 6, C 4000], .agg [C 1, .ri .i64 0 99 (pk100 n), S s0], I 0], [some (vc 140 4 5 [I 1, I 1, I 0, V 13 8 0 3, I 1, I 1, I 0, V 12 8 0 6, I 0, I 0, I 0, V 14 8 0 3, I 1, I 1, I 0, V 11 8 0 6, I 0, I 0, I 0, V 3 8 0 6] false), some o21, some o18, some o3, some o4, some (p4 n m), some o5]⟩
def e43 (n m : Int) : TE := ⟨8, [a10], (w6 n m), I 0, []⟩
def e44 (n m : Int) : TE := ⟨8, [a10, (a13 n m)], (w6 n m), .tup [.agg [V 8 4 0 4, V 9 4 0 4, nilSl, V 10 3 0 6, C 4000], .sy (itoaB (pk100 n)), I 0], (w4 n m)⟩
def e45 (n m : Int) : TE := ⟨8, [a8, a15], [some p6, some o21, some o18, some o22, some o3, some o4, some (p4 n m), some o5], .tup [.agg [V 8 4 0 4, V 9 4 0 4, nilSl, V 10 3 0 6, C 4000], .sy (itoaB (pk100 n)), I 0], (w4 n m)⟩
def e46 (n m : Int) : TE := ⟨1, [D (.arr 4 1 (dxL [(ls [(sy s1), (ls [(sy s2), (sy s3)]), (nu 0 99 (pk100 m))])])), .agg [V 0 1 0 4, nilSl]], [some o6], .tup [.agg [nilSl, V 1 10 0 1, nilSl], I 0, I 0], [some (vc 136 10 1 [S s2, C 6, I 0, I 0, S s0, nilSl, S s0, I 0, V 3 1 0 1, V 2 9 0 1] false), some (p11 n m), some (vc 9 1 1 [S s3] false)]⟩
def e47 (n m : Int) : TE := ⟨3, [a16, a2], (w2 n m), .kb true, []⟩
def e48 (n m : Int) : TE := ⟨3, [a16, a3], [some o23, some o8, some o4], .kb true, []⟩
def e49 (n m : Int) : TE := ⟨3, [a16, a4], [some o23, some o8, some o5], .kb true, []⟩
def e50 (n m : Int) : TE := ⟨3, [a16, a3], [some o23, some o8, some o3], .kb true, []⟩
def e51 (n m : Int) : TE := ⟨3, [a16, a2], [some o23, some o8, some (p12 n m)], .kb true, []⟩
def e52 (n m : Int) : TE := ⟨8, [a17], [some p13, some o21, some o18, some o3, some o4, some (p4 n m), some (p12 n m), some o5], I 0, []⟩
def e53 (n m : Int) : TE := ⟨1, [V 0 3 0 8], [some o27], .tup [.nm 1, .kb true], [some o28]⟩
def e54 (n m : Int) : TE := ⟨1, [.agg [V 0 3 0 8, C 4000]], [some o27], I 0, []⟩
def e55 (n m : Int) : TE := ⟨9, [a17, V 3 3 0 2, nilSl], [some p14, some o21, some o18, some o26, some o3, some o4, some (p4 n m), some (p12 n m), some o5], .tup [.agg [V 9 4 0 5, V 10 4 0 4, nilSl, V 11 3 0 8, C 4000], .agg [C 5, C 6, S s0], I 0], [some p15, some o21, some o27, some o3, some o4, some (p4 n m), some (p12 n m), some o5]⟩
def e56 (n m : Int) : TE := ⟨10, [a8, .agg [nilSl, V 3 10 0 1, nilSl]], [some p6, some o21, some o18, some (vc 136 10 1 [S s2, C 6, I 0, I 0, S s0, nilSl, S s0, I 0, V 9 1 0 1, V 8 9 0 1] false), some o3, some o4, some (p4 n m), some o5, some (p11 n m), some (vc 9 1 1 [S s3] false)], .tup [.agg [V 10 4 0 5, V 11 4 0 4, nilSl, V 12 3 0 8, C 4000], I 0], [some (vc 140 4 5 [I 1, I 1, I 0, V 15 8 0 3, I 1, I 1, I 0, V 14 8 0 6, I 0, I 0, I 0, V 17 8 0 3, I 1, I 1, I 0, V 13 8 0 6, I 1, I 1, I 0, V 16 8 0 3] false), some o29, some o27, some o3, some o4, some (p4 n m), some (p12 n m), some o5]⟩
def e57 (n m : Int) : TE := ⟨7, [a8, .sy (s7 ++ itoaB (pk100 m) ++ s9)], (w5 n m), .tup [.agg [V 7 4 0 5, V 8 4 0 4, nilSl, V 9 3 0 8, C 4000], I 0], [some (vc 140 4 5 [I 1, I 1, I 0, V 12 8 0 3, I 1, I 1, I 0, V 11 8 0 6, I 0, I 0, I 0, V 14 8 0 3, I 1, I 1, I 0, V 10 8 0 6, I 1, I 1, I 0, V 13 8 0 3] false), some o29, some o27, some o3, some o4, some (p4 n m), some (p12 n m), some o5]⟩
def e58 (n m : Int) : TE := ⟨8, [a18], (w7 n m), I 0, []⟩
def e59 (n m : Int) : TE := ⟨8, [a18], (w7 n m), .tup [.agg [V 8 1 0 4, nilSl], I 0], [some o6]⟩
def e60 (n m : Int) : TE := ⟨3, [a16, a11], [some o23, some o8, some o24], .kb true, []⟩
def e61 (n m : Int) : TE := ⟨9, [a18, a12, I 5000], [some p14, some o29, some o27, some o24, some o3, some o4, some (p4 n m), some (p12 n m), some o5], .tup [.agg [.sl 9 4 0 5 (some 5), V 10 4 0 4, nilSl, V 11 3 0 8, C 4000], .agg [C 1, .ri .i64 0 99 (pk100 m), S s0], I 0], (w8 n m)⟩
def e62 (n m : Int) : TE := ⟨3, [a19, a2], [some o30, some o8, some (p4 n m)], .kb true, []⟩
def e63 (n m : Int) : TE := ⟨3, [a19, a3], [some o30, some o8, some o4], .kb true, []⟩
def e64 (n m : Int) : TE := ⟨3, [a19, a4], [some o30, some o8, some o5], .kb true, []⟩
def e65 (n m : Int) : TE := ⟨3, [a19, a3], [some o30, some o8, some o3], .kb true, []⟩
def e66 (n m : Int) : TE := ⟨3, [a19, a2], [some o30, some o8, some (p12 n m)], .kb true, []⟩
def e67 (n m : Int) : TE := ⟨9, [a20], (w9 n m), I 0, []⟩
def e68 (n m : Int) : TE := ⟨9, [a20, .agg [C 1, .ri .i64 0 99 (pk100 m), S s0]], (w9 n m), .tup [.agg [V 9 4 0 5, V 10 4 0 4, nilSl, V 11 3 0 8, C 4000], .sy (itoaB (pk100 m)), I 0], (w10 n m)⟩
def e69 (n m : Int) : TE := ⟨9, [a18, a14], (w11 n m), .tup [.agg [V 9 4 0 5, V 10 4 0 4, nilSl, V 11 3 0 8, C 4000], .sy (itoaB (pk100 m)), I 0], (w10 n m)⟩
def e70 (n m : Int) : TE := ⟨3, [a16, a11], [some o23, some o8, some o25], .kb true, []⟩
def e71 (n m : Int) : TE := ⟨9, [a18, a12, I 5000], [some p14, some o29, some o27, some o25, some o3, some o4, some (p4 n m), some (p12 n m), some o5], .tup [.agg [.sl 9 4 0 5 (some 5), V 10 4 0 4, nilSl, V 11 3 0 8, C 4000], .agg [C 1, .ri .i64 0 99 (pk100 n), S s0], I 0], (w8 n m)⟩
def e72 (n m : Int) : TE := ⟨9, [a20], (w12 n m), I 0, []⟩
def e73 (n m : Int) : TE := ⟨9, [a20, (a13 n m)], (w12 n m), .tup [.agg [V 9 4 0 5, V 10 4 0 4, nilSl, V 11 3 0 8, C 4000], .sy (itoaB (pk100 n)), I 0], (w10 n m)⟩
def e74 (n m : Int) : TE := ⟨9, [a18, a15], (w11 n m), .tup [.agg [V 9 4 0 5, V 10 4 0 4, nilSl, V 11 3 0 8, C 4000], .sy (itoaB (pk100 n)), I 0], (w10 n m)⟩
end
theorem fx (n m : Int) : 0 ≤ pk100 n ∧ pk100 n < 100 ∧ 0 ≤ pk100 m ∧ pk100 m < 100 ∧ (itoaB (pk100 m)).size ≤ 3 ∧ 0 < (itoaB (pk100 m)).size ∧ (itoaB (pk100 n)).size ≤ 3 ∧ 0 < (itoaB (pk100 n)).size := by
 have h0 : 0 ≤ pk100 n := (picked_bounds n (by decide)).1
 have h1 : pk100 n < 100 := (picked_bounds n (by decide)).2
 have h2 : 0 ≤ pk100 m := (picked_bounds m (by decide)).1
 have h3 : pk100 m < 100 := (picked_bounds m (by decide)).2
 refine ⟨h0, h1, h2, h3, num_size (by omega) (by omega), num_pos (by omega) (by omega), num_size (by omega) (by omega), num_pos (by omega) (by omega)⟩
end Gv.LAnew
