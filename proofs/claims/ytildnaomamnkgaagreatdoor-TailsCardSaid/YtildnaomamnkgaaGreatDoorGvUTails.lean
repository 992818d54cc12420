/- What the told parts of Tails are made of. Printed by gvgen.py. -/
import Derived.Test.YtildnaomamnkgaaGreatDoorGvO
import Derived.Test.YtildnaomamnkgaaGreatDoorGvKTails
import Derived.Test.YtildnaomamnkgaaGreatDoorGvKTails2a
set_option linter.unusedVariables false
set_option maxRecDepth 100000
open Rx Go
namespace Gv.LTails
open Gv Rd
noncomputable section
def s1 : ByteArray := ⟨#[100, 101, 102, 105, 110, 101]⟩
def s2 : ByteArray := ⟨#[102]⟩
def s3 : ByteArray := ⟨#[110]⟩
def s4 : ByteArray := ⟨#[105, 102]⟩
def s5 : ByteArray := ⟨#[61]⟩
def s6 : ByteArray := ⟨#[113, 117, 111, 116, 101]⟩
def s7 : ByteArray := ⟨#[100, 111, 110, 101]⟩
def s8 : ByteArray := ⟨#[45]⟩
def s9 : ByteArray := ⟨#[43]⟩
def s10 : ByteArray := ⟨#[40, 100, 101, 102, 105, 110, 101, 32, 40, 102, 32, 110, 41, 32, 40, 105, 102, 32, 40, 61, 32, 110, 32, 48, 41, 32, 39, 100, 111, 110, 101, 32, 40, 102, 32, 40, 45, 32, 110, 32, 49, 41, 41, 41, 41]⟩
def s11 : ByteArray := ⟨#[40, 100, 101, 102, 105, 110, 101, 32, 40, 102, 32, 110, 41, 32, 40, 105, 102, 32, 40, 61, 32, 110, 32, 48, 41, 32, 48, 32, 40, 43, 32, 49, 32, 40, 102, 32, 40, 45, 32, 110, 32, 49, 41, 41, 41, 41, 41]⟩
theorem af4 : s1.size = 6 := rfl
theorem af2 : s1.data.toList = [100, 101, 102, 105, 110, 101] := rfl
theorem agj : s2.size = 1 := rfl
theorem agb : s2.data.toList = [102] := rfl
theorem agd : s3.size = 1 := rfl
theorem af9 : s3.data.toList = [110] := rfl
theorem agi : s4.size = 2 := rfl
theorem afZ : s4.data.toList = [105, 102] := rfl
theorem agc : s5.size = 1 := rfl
theorem agf : s5.data.toList = [61] := rfl
theorem af7 : s6.size = 5 := rfl
theorem af6 : s6.data.toList = [113, 117, 111, 116, 101] := rfl
theorem WG : s7.size = 4 := rfl
theorem Wm : s7.data.toList = [100, 111, 110, 101] := rfl
theorem aga : s8.size = 1 := rfl
theorem af5 : s8.data.toList = [45] := rfl
theorem af3 : s9.size = 1 := rfl
theorem af0 : s9.data.toList = [43] := rfl
theorem afW : s10.size = 45 := rfl
theorem afV : s10.data.toList = [40, 100, 101, 102, 105, 110, 101, 32, 40, 102, 32, 110, 41, 32, 40, 105, 102, 32, 40, 61, 32, 110, 32, 48, 41, 32, 39, 100, 111, 110, 101, 32, 40, 102, 32, 40, 45, 32, 110, 32, 49, 41, 41, 41, 41] := rfl
theorem afT : s11.size = 47 := rfl
theorem afP : s11.data.toList = [40, 100, 101, 102, 105, 110, 101, 32, 40, 102, 32, 110, 41, 32, 40, 105, 102, 32, 40, 61, 32, 110, 32, 48, 41, 32, 48, 32, 40, 43, 32, 49, 32, 40, 102, 32, 40, 45, 32, 110, 32, 49, 41, 41, 41, 41, 41] := rfl
abbrev aR (n : Int) : Int := dJ n 300
def o0 : Ob := vc 90 9 2 [C 2, I 0, I 0, S s0, aC, S s3, I 0, aC, aC, C 1, C 1, C 0, S s0, D (.arr 4 0 (dxL [])), S s0, I 0, aC, aC] false
def o1 : Ob := vc 90 9 2 [C 2, I 0, I 0, S s0, aC, S s3, I 0, aC, aC, C 1, C 1, C 1, S s0, D (.arr 4 0 (dxL [])), S s0, I 0, aC, aC] false
def o2 : Ob := vc 54 4 1 [S s2, C 3, I 0, S s0] false
def o3 : Ob := vc 190 8 21 [C 1, I 0, I 0, S s0, S s0, I 0, I 0, S s0, C 1, I 0, I 0, S s0, S s0, I 0, I 0, S s0, C 1, I 0, I 0, S s0, S s0, I 0, I 0, S s0, C 3, C 0, I 0, S s0, S s0, I 0, I 0, S s0, C 1, I 0, I 0, S s0, S s0, I 0, I 0, S s0, C 2, I 0, I 0, S s0, S s0, C 1, C 0, S s0, C 18, C 2, I 0, S s5, S s0, I 0, I 0, S s0, C 16, I 11, I 0, S s0, S s0, I 0, I 0, S s0, C 1, I 0, I 0, S s0, S s0, I 0, I 0, S s0, C 2, I 0, I 0, S s0, S s0, C 4, I 0, S s7, C 14, I 0, I 0, S s0, S s0, I 0, I 0, S s0, C 1, I 0, I 0, S s0, S s0, I 0, I 0, S s0, C 1, I 0, I 0, S s0, S s0, I 0, I 0, S s0, C 9, I 0, I 0, S s2, S s0, I 0, I 0, S s0, C 1, I 0, I 0, S s0, S s0, I 0, I 0, S s0, C 1, I 0, I 0, S s0, S s0, I 0, I 0, S s0, C 3, C 0, I 0, S s0, S s0, I 0, I 0, S s0, C 1, I 0, I 0, S s0, S s0, I 0, I 0, S s0, C 2, I 0, I 0, S s0, S s0, C 1, C 1, S s0, C 18, C 2, I 0, S s8, S s0, I 0, I 0, S s0, C 13, C 1, I 0, S s0, S s0, I 0, I 0, S s0] false
def o4 : Ob := vc 54 4 1 [S s2, J, J, J] false
def o5 : Ob := vc 52 3 2 [C 8, C 0, S s0, C 1, I 0, S s0] true
def o6 : Ob := vc 52 3 2 [C 8, C 0, S s0, C 1, I 0, S s0] false
def o7 : Ob := .mp (.int .i64) .bool [((0 : Int), true)]
def o8 : Ob := vc 54 4 1 [S s2, C 5, C 0, S s0] false
def o9 : Ob := .cells 255 [C 1, I 0, C 3, I 0, S s0, aC, aC]
def o10 : Ob := vc 99 4 2 [J, J, I 0, J, J, J, I 0, J] false
def o11 : Ob := vc 190 8 26 [C 1, I 0, I 0, S s0, S s0, I 0, I 0, S s0, C 1, I 0, I 0, S s0, S s0, I 0, I 0, S s0, C 1, I 0, I 0, S s0, S s0, I 0, I 0, S s0, C 3, C 0, I 0, S s0, S s0, I 0, I 0, S s0, C 1, I 0, I 0, S s0, S s0, I 0, I 0, S s0, C 2, I 0, I 0, S s0, S s0, C 1, C 0, S s0, C 18, C 2, I 0, S s5, S s0, I 0, I 0, S s0, C 16, I 11, I 0, S s0, S s0, I 0, I 0, S s0, C 1, I 0, I 0, S s0, S s0, I 0, I 0, S s0, C 2, I 0, I 0, S s0, S s0, C 1, C 0, S s0, C 14, I 0, I 0, S s0, S s0, I 0, I 0, S s0, C 1, I 0, I 0, S s0, S s0, I 0, I 0, S s0, C 1, I 0, I 0, S s0, S s0, I 0, I 0, S s0, C 2, I 0, I 0, S s0, S s0, C 1, C 1, S s0, C 1, I 0, I 0, S s0, S s0, I 0, I 0, S s0, C 1, I 0, I 0, S s0, S s0, I 0, I 0, S s0, C 9, I 0, I 0, S s2, S s0, I 0, I 0, S s0, C 1, I 0, I 0, S s0, S s0, I 0, I 0, S s0, C 1, I 0, I 0, S s0, S s0, I 0, I 0, S s0, C 3, C 0, I 0, S s0, S s0, I 0, I 0, S s0, C 1, I 0, I 0, S s0, S s0, I 0, I 0, S s0, C 2, I 0, I 0, S s0, S s0, C 1, C 1, S s0, C 18, C 2, I 0, S s8, S s0, I 0, I 0, S s0, C 12, C 1, I 0, S s0, S s0, I 0, I 0, S s0, C 18, C 2, I 0, S s9, S s0, I 0, I 0, S s0, C 14, I 0, I 0, S s0, S s0, I 0, I 0, S s0] false
def p0 : Ob := vc 140 10 1 [S s2, C 6, I 0, I 0, S s0, aC, S s0, I 0, V 2 1 0 1, V 1 9 0 1] false
def p1 : Ob := vc 90 9 1 [C 4, I 0, I 0, S s0, aC, S s0, I 0, aC, V 3 9 0 3] true
def p2 : Ob := vc 90 9 3 [C 10, I 0, I 0, S s0, aC, S s5, I 0, aC, V 4 9 0 2, C 1, C 3, C 0, S s7, D (.arr 4 0 (dxL [])), S s0, I 0, aC, aC, C 9, I 0, I 0, S s0, aC, S s0, I 0, aC, V 5 9 0 2] false
def p3 : Ob := vc 90 9 2 [C 3, I 0, I 0, S s0, aC, S s2, I 0, aC, aC, C 10, I 0, I 0, S s0, aC, S s8, I 0, aC, V 6 9 0 2] false
def p4 : Ob := vc 99 4 1 [J, J, I 0, J] false
def p5 : Ob := vc 99 4 1 [I 1, I 1, I 0, V 3 8 0 21] false
def p6 : Ob := vc 99 4 1 [I 1, I 1, I 0, V 7 8 0 21] false
def p7 : Ob := vc 99 4 2 [I 1, I 1, I 0, V 3 8 0 21, I 0, I 0, I 0, J] false
def p8 : Ob := vc 99 4 1 [I 1, I 1, I 0, V 4 8 0 21] false
def p9 (n : Int) : Ob := vc 49 4 1 [C 1, .ri .i64 0 299 (aR n), S s0, aC] true
def p10 : Ob := vc 99 4 1 [I 1, I 1, I 0, V 8 8 0 21] false
def p11 : Ob := vc 90 9 3 [C 10, I 0, I 0, S s0, aC, S s5, I 0, aC, V 4 9 0 2, C 1, C 1, C 0, S s0, D (.arr 4 0 (dxL [])), S s0, I 0, aC, aC, C 10, I 0, I 0, S s0, aC, S s9, I 0, aC, V 5 9 0 2] false
def p12 : Ob := vc 90 9 2 [C 1, C 1, C 1, S s0, D (.arr 4 0 (dxL [])), S s0, I 0, aC, aC, C 9, I 0, I 0, S s0, aC, S s0, I 0, aC, V 6 9 0 2] false
def p13 : Ob := vc 90 9 2 [C 3, I 0, I 0, S s0, aC, S s2, I 0, aC, aC, C 10, I 0, I 0, S s0, aC, S s8, I 0, aC, V 7 9 0 2] false
def p14 : Ob := vc 99 4 1 [I 1, I 1, I 0, V 3 8 0 26] false
def p15 : Ob := vc 99 4 1 [I 1, I 1, I 0, V 7 8 0 26] false
def p16 : Ob := vc 99 4 2 [I 1, I 1, I 0, V 3 8 0 26, I 0, I 0, I 0, J] false
def p17 : Ob := vc 99 4 1 [I 1, I 1, I 0, V 4 8 0 26] false
def a0 : SV := .agg [aC, aC, aC, aC, C 2000]
def a1 : SV := .agg [V 0 4 0 1, V 1 4 0 1, aC, J, J]
def a2 : SV := .agg [I 1, I 1, I 0, V 2 8 0 21]
def a3 : SV := .agg [V 0 4 0 1, V 1 4 0 1, aC, aC, C 2000]
def a4 : SV := .agg [aC, V 0 10 0 1, aC]
def a5 : SV := .agg [V 0 4 0 1, V 1 4 0 1, aC, V 2 3 0 2, C 2000]
def a6 : SV := .agg [.sl 0 4 0 1 (some 1), V 1 4 0 1, aC, J, J]
def a7 : SV := .agg [.sl 0 4 0 1 (some 1), V 1 4 0 1, aC, V 2 3 0 2, C 2000]
def a8 : SV := .agg [C 2, S s0, S s2, V 3 4 0 1, C 20000]
def a9 : SV := .agg [I 1, I 1, I 0, V 2 8 0 26]
def w0 : List (Option Ob) := [some p0, some p1, some (vc 9 1 1 [S s3] false), some p2, some o0, some p3, some o1]
def w1 : List (Option Ob) := [some p5, some o8, some o6, some o3]
def w2 : List (Option Ob) := [some p7, some o8, some o6, some o3]
def w3 (n : Int) : List (Option Ob) := [some p8, some o8, some o6, some (p9 n), some o3]
def w4 : List (Option Ob) := [some p10, some o8, some o6, some o3]
def w5 : List (Option Ob) := [some p0, some p1, some (vc 9 1 1 [S s3] false), some p11, some o0, some p12, some p13, some o1]
def w6 : List (Option Ob) := [some p14, some o8, some o6, some o11]
def w7 : List (Option Ob) := [some p16, some o8, some o6, some o11]
def w8 (n : Int) : List (Option Ob) := [some p17, some o8, some o6, some (p9 n), some o11]
def e0 (n : Int) : TE := ⟨0, [aC], [], .tup [.nm 0, .kb true], [some (.mp (.int .i64) .bool [])]⟩
def e1 (n : Int) : TE := ⟨0, [.agg [aC, C 2000]], [], I 0, []⟩
def e2 (n : Int) : TE := ⟨0, [.agg [aC, aC]], [], I 0, []⟩
def e3 (n : Int) : TE := ⟨0, [a0], [], I 0, []⟩
def e4 (n : Int) : TE := ⟨0, [a0], [], .tup [.agg [aC, aC], I 0], []⟩
def e5 (n : Int) : TE := ⟨0, [D (.arr 4 1 (dxL [(ls [(sy s1), (ls [(sy s2), (sy s3)]), (ls [(sy s4), (ls [(sy s5), (sy s3), (num 0)]), (ls [(sy s6), (sy s7)]), (ls [(sy s2), (ls [(sy s8), (sy s3), (num 1)])])])])])), .agg [aC, aC]], [], .tup [.agg [aC, V 0 10 0 1, aC], I 0, I 0], w0⟩
def e6 (n : Int) : TE := ⟨1, [.agg [V 0 1 0 1, aC]], [some (vc 9 1 1 [S s2] false)], I 0, []⟩
def e7 (n : Int) : TE := ⟨0, [.agg [aC, C 50]], [], I 0, []⟩
def e8 (n : Int) : TE := ⟨3, [a1, a2], [some p4, some o4, some o3], .kb true, []⟩
def e9 (n : Int) : TE := ⟨3, [a3], [some (vc 99 4 1 [I 1, I 1, I 0, V 2 8 0 21] false), some o2, some o3], I 0, []⟩
def e10 (n : Int) : TE := ⟨1, [V 0 3 0 2], [some o6], .tup [.nm 1, .kb true], [some o7]⟩
def e11 (n : Int) : TE := ⟨1, [.agg [V 0 3 0 2, C 2000]], [some o6], I 0, []⟩
def e12 (n : Int) : TE := ⟨4, [a3, V 2 3 0 2, aC], [some p5, some o2, some o5, some o3], .tup [.agg [V 4 4 0 1, V 5 4 0 1, aC, V 6 3 0 2, C 2000], .agg [C 5, C 0, S s0], I 0], [some p6, some o2, some o6, some o3]⟩
def e13 (n : Int) : TE := ⟨7, [a0, a4], w0, .tup [.agg [V 7 4 0 1, V 8 4 0 1, aC, V 9 3 0 2, C 2000], I 0], [some (vc 99 4 1 [I 1, I 1, I 0, V 10 8 0 21] false), some o8, some o6, some o3]⟩
def e14 (n : Int) : TE := ⟨0, [a0, S s10], [], .tup [.agg [V 0 4 0 1, V 1 4 0 1, aC, V 2 3 0 2, C 2000], I 0], w1⟩
def e15 (n : Int) : TE := ⟨4, [a5], w1, I 0, []⟩
def e16 (n : Int) : TE := ⟨4, [a5], w1, .tup [.agg [V 4 1 0 1, aC], I 0], [some (vc 9 1 1 [S s2] false)]⟩
def e17 (n : Int) : TE := ⟨3, [a1, .agg [I 0, I 0, I 0, V 2 8 0 6]], [some p4, some o4, some (vc 190 8 6 [C 1, I 0, I 0, S s0, S s0, I 0, I 0, S s0, C 1, I 0, I 0, S s0, S s0, I 0, I 0, S s0, C 9, I 0, I 0, S s2, S s0, I 0, I 0, S s0, C 1, I 0, I 0, S s0, S s0, I 0, I 0, S s0, C 2, I 0, I 0, S s0, S s0, C 1, .ri .i64 0 299 (aR n), S s0, C 13, C 1, I 0, S s0, S s0, I 0, I 0, S s0] false)], .kb true, []⟩
def e18 (n : Int) : TE := ⟨3, [a6, a2], [some o10, some o4, some o3], .kb true, []⟩
def e19 (n : Int) : TE := ⟨4, [a7], w2, I 0, []⟩
def e20 (n : Int) : TE := ⟨4, [a7, .agg [C 4, I 0, S s7]], w2, .tup [.agg [V 4 4 0 1, V 5 4 0 1, aC, V 6 3 0 2, C 2000], .sy s7, I 0], [some p6, some o8, some o6, some o3]⟩
def e21 (n : Int) : TE := ⟨5, [a5, a8], (w3 n), .tup [.agg [V 5 4 0 1, V 6 4 0 1, aC, V 7 3 0 2, C 2000], .sy s7, I 0], w4⟩
def e22 (n : Int) : TE := ⟨0, [D (.arr 4 1 (dxL [(ls [(sy s1), (ls [(sy s2), (sy s3)]), (ls [(sy s4), (ls [(sy s5), (sy s3), (num 0)]), (num 0), (ls [(sy s9), (num 1), (ls [(sy s2), (ls [(sy s8), (sy s3), (num 1)])])])])])])), .agg [aC, aC]], [], .tup [.agg [aC, V 0 10 0 1, aC], I 0, I 0], w5⟩
def e23 (n : Int) : TE := ⟨3, [a1, a9], [some p4, some o4, some o11], .kb true, []⟩
def e24 (n : Int) : TE := ⟨3, [a3], [some (vc 99 4 1 [I 1, I 1, I 0, V 2 8 0 26] false), some o2, some o11], I 0, []⟩
def e25 (n : Int) : TE := ⟨4, [a3, V 2 3 0 2, aC], [some p14, some o2, some o5, some o11], .tup [.agg [V 4 4 0 1, V 5 4 0 1, aC, V 6 3 0 2, C 2000], .agg [C 5, C 0, S s0], I 0], [some p15, some o2, some o6, some o11]⟩
def e26 (n : Int) : TE := ⟨8, [a0, a4], w5, .tup [.agg [V 8 4 0 1, V 9 4 0 1, aC, V 10 3 0 2, C 2000], I 0], [some (vc 99 4 1 [I 1, I 1, I 0, V 11 8 0 26] false), some o8, some o6, some o11]⟩
def e27 (n : Int) : TE := ⟨0, [a0, S s11], [], .tup [.agg [V 0 4 0 1, V 1 4 0 1, aC, V 2 3 0 2, C 2000], I 0], w6⟩
def e28 (n : Int) : TE := ⟨4, [a5], w6, I 0, []⟩
def e29 (n : Int) : TE := ⟨4, [a5], w6, .tup [.agg [V 4 1 0 1, aC], I 0], [some (vc 9 1 1 [S s2] false)]⟩
def e30 (n : Int) : TE := ⟨3, [a6, a9], [some o10, some o4, some o11], .kb true, []⟩
def e31 (n : Int) : TE := ⟨4, [a7], w7, I 0, []⟩
def e32 (n : Int) : TE := ⟨4, [a7, .agg [C 1, .ri .i64 0 300 (aR n), S s0]], w7, .tup [.agg [V 4 4 0 1, V 5 4 0 1, aC, V 6 3 0 2, C 2000], .sy (bG (aR n)), I 0], [some p15, some o8, some o6, some o11]⟩
def e33 (n : Int) : TE := ⟨5, [a5, a8], (w8 n), .tup [.agg [V 5 4 0 1, V 6 4 0 1, aC, V 7 3 0 2, C 2000], .sy (bG (aR n)), I 0], [some (vc 99 4 1 [I 1, I 1, I 0, V 8 8 0 26] false), some o8, some o6, some o11]⟩
def e35 (n : Int) : TE := ⟨5, [a5, a8], (w3 n), .tup [.agg [V 5 4 0 1, V 6 4 0 1, aC, V 7 3 0 2, C 2000], .sy s7, I 0], w4⟩
def e36 (n : Int) : TE := ⟨5, [a5, a8], (w8 n), .tup [.agg [V 0 4 0 1, V 1 4 0 1, aC, V 2 3 0 2, C 2000], S s0, I 8], []⟩
end
theorem fx (n : Int) : 0 <= aR n /\ aR n < 300 /\ (bG (aR n)).size <= 3 /\ 0 < (bG (aR n)).size := by
 have h0 : 0 <= aR n := (gD n (by decide)).1
 have h1 : aR n < 300 := (gD n (by decide)).2
 refine ⟨h0, h1, Rs (by omega) (by omega), Ub (by omega) (by omega)⟩
end Gv.LTails
