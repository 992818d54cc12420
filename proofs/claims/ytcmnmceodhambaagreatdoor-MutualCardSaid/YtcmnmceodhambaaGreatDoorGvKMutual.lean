/- The loop of the machine in Mutual, told. Printed by loopMutual.py. -/
import Derived.Test.YtcmnmceodhambaaGreatDoorGvO
set_option linter.unusedSimpArgs false
set_option linter.unusedVariables false
set_option maxRecDepth 100000
open Rx Go Gv Rd
namespace Gv.KMutual
noncomputable section
def z1 : ByteArray := ⟨#[101, 118, 101, 110]⟩
def z2 : ByteArray := ⟨#[111, 100, 100]⟩
def z3 : ByteArray := ⟨#[61]⟩
def z4 : ByteArray := ⟨#[45]⟩
def fns : Ob := vc 140 4 3 [I 1, I 1, I 0, V 7 8 0 21, I 1, I 1, I 0, V 6 8 0 21, I 0, I 0, I 0, J] false
def globs : Ob := vc 130 4 2 [S z1, C 5, C 0, S s0, S z2, C 5, C 2, S s0] false
def words : Ob := vc 126 3 4 [C 8, C 0, S s0, C 1, I 0, S s0, C 8, C 1, S s0, C 1, I 0, S s0] false
def Ld : Ob := vc 200 8 21 [C 1, I 0, I 0, S s0, S s0, I 0, I 0, S s0, C 1, I 0, I 0, S s0, S s0, I 0, I 0, S s0, C 1, I 0, I 0, S s0, S s0, I 0, I 0, S s0, C 3, C 0, I 0, S s0, S s0, I 0, I 0, S s0, C 1, I 0, I 0, S s0, S s0, I 0, I 0, S s0, C 2, I 0, I 0, S s0, S s0, C 1, C 0, S s0, C 18, C 2, I 0, S z3, S s0, I 0, I 0, S s0, C 16, I 11, I 0, S s0, S s0, I 0, I 0, S s0, C 1, I 0, I 0, S s0, S s0, I 0, I 0, S s0, C 2, I 0, I 0, S s0, S s0, I 2, C 0, S s0, C 14, I 0, I 0, S s0, S s0, I 0, I 0, S s0, C 1, I 0, I 0, S s0, S s0, I 0, I 0, S s0, C 1, I 0, I 0, S s0, S s0, I 0, I 0, S s0, C 9, I 0, I 0, S z1, S s0, I 0, I 0, S s0, C 1, I 0, I 0, S s0, S s0, I 0, I 0, S s0, C 1, I 0, I 0, S s0, S s0, I 0, I 0, S s0, C 3, C 0, I 0, S s0, S s0, I 0, I 0, S s0, C 1, I 0, I 0, S s0, S s0, I 0, I 0, S s0, C 2, I 0, I 0, S s0, S s0, C 1, C 1, S s0, C 18, C 2, I 0, S z4, S s0, I 0, I 0, S s0, C 13, C 1, I 0, S s0, S s0, I 0, I 0, S s0] false
def Mf : Ob := vc 200 8 21 [C 1, I 0, I 0, S s0, S s0, I 0, I 0, S s0, C 1, I 0, I 0, S s0, S s0, I 0, I 0, S s0, C 1, I 0, I 0, S s0, S s0, I 0, I 0, S s0, C 3, C 0, I 0, S s0, S s0, I 0, I 0, S s0, C 1, I 0, I 0, S s0, S s0, I 0, I 0, S s0, C 2, I 0, I 0, S s0, S s0, C 1, C 0, S s0, C 18, C 2, I 0, S z3, S s0, I 0, I 0, S s0, C 16, I 11, I 0, S s0, S s0, I 0, I 0, S s0, C 1, I 0, I 0, S s0, S s0, I 0, I 0, S s0, C 2, I 0, I 0, S s0, S s0, I 2, C 1, S s0, C 14, I 0, I 0, S s0, S s0, I 0, I 0, S s0, C 1, I 0, I 0, S s0, S s0, I 0, I 0, S s0, C 1, I 0, I 0, S s0, S s0, I 0, I 0, S s0, C 9, I 0, I 0, S z2, S s0, I 0, I 0, S s0, C 1, I 0, I 0, S s0, S s0, I 0, I 0, S s0, C 1, I 0, I 0, S s0, S s0, I 0, I 0, S s0, C 3, C 0, I 0, S s0, S s0, I 0, I 0, S s0, C 1, I 0, I 0, S s0, S s0, I 0, I 0, S s0, C 2, I 0, I 0, S s0, S s0, C 1, C 1, S s0, C 18, C 2, I 0, S z4, S s0, I 0, I 0, S s0, C 13, C 1, I 0, S s0, S s0, I 0, I 0, S s0] false
def eE (r k x : Int) : ME := ⟨10, [.ptr 0 0, I 0, J, J, .ptr 1 0], [some (.cells 218 [V 2 4 0 3, V 3 4 0 2, aG, V 4 3 0 4, C 4000, V 5 1 0 1, .ri .i64 18 5000 x, I 0]), some (.cells 126 [I 0, I 0, S s0]), some fns, some globs, some words, some (vc 280 1 1 [.ptr 8 0] false), some Ld, some Mf, some (.cells 282 [C 0, I 0, C 5, C 0, S s0, V 9 3 0 1, aG]), some (vc 126 3 1 [C 1, .ri .i64 0 199 k, S s0] false)], .tup [.agg [I 2, C r, S s0], I 0], [some (.cells 218 [V 2 4 0 3, V 3 4 0 2, aG, V 4 3 0 4, C 4000, J, J, I 0]), none, some fns, some globs, some words, none, some Ld, some Mf, none, none]⟩
def eO (r k x : Int) : ME := ⟨10, [.ptr 0 0, I 0, J, J, .ptr 1 0], [some (.cells 218 [V 2 4 0 3, V 3 4 0 2, aG, V 4 3 0 4, C 4000, V 5 1 0 1, .ri .i64 18 5000 x, I 0]), some (.cells 126 [I 0, I 0, S s0]), some fns, some globs, some words, some (vc 280 1 1 [.ptr 8 0] false), some Ld, some Mf, some (.cells 282 [C 1, I 0, C 5, C 2, S s0, V 9 3 0 1, aG]), some (vc 126 3 1 [C 1, .ri .i64 0 199 k, S s0] false)], .tup [.agg [I 2, C r, S s0], I 0], [some (.cells 218 [V 2 4 0 3, V 3 4 0 2, aG, V 4 3 0 4, C 4000, J, J, I 0]), none, some fns, some globs, some words, none, some Ld, some Mf, none, none]⟩
def pE (r k : Int) : ME := ⟨9, [.ptr 0 0, I 0], [some (.cells 218 [V 1 4 0 3, V 2 4 0 2, aG, V 3 3 0 4, C 4000, V 4 1 0 1, C 5000, I 0]), some (vc 140 4 3 [I 1, I 1, I 0, V 6 8 0 21, I 1, I 1, I 0, V 5 8 0 21, I 0, I 0, I 0, V 7 8 0 6] false), some (vc 130 4 2 [S z1, C 5, C 0, S s0, S z2, C 5, C 2, S s0] false), some (vc 126 3 4 [C 8, C 0, S s0, C 1, I 0, S s0, C 8, C 1, S s0, C 1, I 0, S s0] false), some (vc 280 1 1 [.ptr 8 0] false), some (vc 200 8 21 [C 1, I 0, I 0, S s0, S s0, I 0, I 0, S s0, C 1, I 0, I 0, S s0, S s0, I 0, I 0, S s0, C 1, I 0, I 0, S s0, S s0, I 0, I 0, S s0, C 3, C 0, I 0, S s0, S s0, I 0, I 0, S s0, C 1, I 0, I 0, S s0, S s0, I 0, I 0, S s0, C 2, I 0, I 0, S s0, S s0, C 1, C 0, S s0, C 18, C 2, I 0, S z3, S s0, I 0, I 0, S s0, C 16, I 11, I 0, S s0, S s0, I 0, I 0, S s0, C 1, I 0, I 0, S s0, S s0, I 0, I 0, S s0, C 2, I 0, I 0, S s0, S s0, I 2, C 0, S s0, C 14, I 0, I 0, S s0, S s0, I 0, I 0, S s0, C 1, I 0, I 0, S s0, S s0, I 0, I 0, S s0, C 1, I 0, I 0, S s0, S s0, I 0, I 0, S s0, C 9, I 0, I 0, S z1, S s0, I 0, I 0, S s0, C 1, I 0, I 0, S s0, S s0, I 0, I 0, S s0, C 1, I 0, I 0, S s0, S s0, I 0, I 0, S s0, C 3, C 0, I 0, S s0, S s0, I 0, I 0, S s0, C 1, I 0, I 0, S s0, S s0, I 0, I 0, S s0, C 2, I 0, I 0, S s0, S s0, C 1, C 1, S s0, C 18, C 2, I 0, S z4, S s0, I 0, I 0, S s0, C 13, C 1, I 0, S s0, S s0, I 0, I 0, S s0] false), some (vc 200 8 21 [C 1, I 0, I 0, S s0, S s0, I 0, I 0, S s0, C 1, I 0, I 0, S s0, S s0, I 0, I 0, S s0, C 1, I 0, I 0, S s0, S s0, I 0, I 0, S s0, C 3, C 0, I 0, S s0, S s0, I 0, I 0, S s0, C 1, I 0, I 0, S s0, S s0, I 0, I 0, S s0, C 2, I 0, I 0, S s0, S s0, C 1, C 0, S s0, C 18, C 2, I 0, S z3, S s0, I 0, I 0, S s0, C 16, I 11, I 0, S s0, S s0, I 0, I 0, S s0, C 1, I 0, I 0, S s0, S s0, I 0, I 0, S s0, C 2, I 0, I 0, S s0, S s0, I 2, C 1, S s0, C 14, I 0, I 0, S s0, S s0, I 0, I 0, S s0, C 1, I 0, I 0, S s0, S s0, I 0, I 0, S s0, C 1, I 0, I 0, S s0, S s0, I 0, I 0, S s0, C 9, I 0, I 0, S z2, S s0, I 0, I 0, S s0, C 1, I 0, I 0, S s0, S s0, I 0, I 0, S s0, C 1, I 0, I 0, S s0, S s0, I 0, I 0, S s0, C 3, C 0, I 0, S s0, S s0, I 0, I 0, S s0, C 1, I 0, I 0, S s0, S s0, I 0, I 0, S s0, C 2, I 0, I 0, S s0, S s0, C 1, C 1, S s0, C 18, C 2, I 0, S z4, S s0, I 0, I 0, S s0, C 13, C 1, I 0, S s0, S s0, I 0, I 0, S s0] false), some (vc 200 8 6 [C 1, I 0, I 0, S s0, S s0, I 0, I 0, S s0, C 1, I 0, I 0, S s0, S s0, I 0, I 0, S s0, C 9, I 0, I 0, S z1, S s0, I 0, I 0, S s0, C 1, I 0, I 0, S s0, S s0, I 0, I 0, S s0, C 2, I 0, I 0, S s0, S s0, C 1, .ri .i64 0 199 k, S s0, C 13, C 1, I 0, S s0, S s0, I 0, I 0, S s0] false), some (.cells 282 [C 2, I 0, C 3, I 0, S s0, aG, aG])], .tup [.agg [I 2, C r, S s0], I 0], [some (.cells 218 [V 1 4 0 3, V 2 4 0 2, aG, V 3 3 0 4, C 4000, J, J, I 0]), some (vc 140 4 3 [I 1, I 1, I 0, V 6 8 0 21, I 1, I 1, I 0, V 5 8 0 21, I 0, I 0, I 0, J] false), some (vc 130 4 2 [S z1, C 5, C 0, S s0, S z2, C 5, C 2, S s0] false), some (vc 126 3 4 [C 8, C 0, S s0, C 1, I 0, S s0, C 8, C 1, S s0, C 1, I 0, S s0] false), none, some (vc 200 8 21 [C 1, I 0, I 0, S s0, S s0, I 0, I 0, S s0, C 1, I 0, I 0, S s0, S s0, I 0, I 0, S s0, C 1, I 0, I 0, S s0, S s0, I 0, I 0, S s0, C 3, C 0, I 0, S s0, S s0, I 0, I 0, S s0, C 1, I 0, I 0, S s0, S s0, I 0, I 0, S s0, C 2, I 0, I 0, S s0, S s0, C 1, C 0, S s0, C 18, C 2, I 0, S z3, S s0, I 0, I 0, S s0, C 16, I 11, I 0, S s0, S s0, I 0, I 0, S s0, C 1, I 0, I 0, S s0, S s0, I 0, I 0, S s0, C 2, I 0, I 0, S s0, S s0, I 2, C 0, S s0, C 14, I 0, I 0, S s0, S s0, I 0, I 0, S s0, C 1, I 0, I 0, S s0, S s0, I 0, I 0, S s0, C 1, I 0, I 0, S s0, S s0, I 0, I 0, S s0, C 9, I 0, I 0, S z1, S s0, I 0, I 0, S s0, C 1, I 0, I 0, S s0, S s0, I 0, I 0, S s0, C 1, I 0, I 0, S s0, S s0, I 0, I 0, S s0, C 3, C 0, I 0, S s0, S s0, I 0, I 0, S s0, C 1, I 0, I 0, S s0, S s0, I 0, I 0, S s0, C 2, I 0, I 0, S s0, S s0, C 1, C 1, S s0, C 18, C 2, I 0, S z4, S s0, I 0, I 0, S s0, C 13, C 1, I 0, S s0, S s0, I 0, I 0, S s0] false), some (vc 200 8 21 [C 1, I 0, I 0, S s0, S s0, I 0, I 0, S s0, C 1, I 0, I 0, S s0, S s0, I 0, I 0, S s0, C 1, I 0, I 0, S s0, S s0, I 0, I 0, S s0, C 3, C 0, I 0, S s0, S s0, I 0, I 0, S s0, C 1, I 0, I 0, S s0, S s0, I 0, I 0, S s0, C 2, I 0, I 0, S s0, S s0, C 1, C 0, S s0, C 18, C 2, I 0, S z3, S s0, I 0, I 0, S s0, C 16, I 11, I 0, S s0, S s0, I 0, I 0, S s0, C 1, I 0, I 0, S s0, S s0, I 0, I 0, S s0, C 2, I 0, I 0, S s0, S s0, I 2, C 1, S s0, C 14, I 0, I 0, S s0, S s0, I 0, I 0, S s0, C 1, I 0, I 0, S s0, S s0, I 0, I 0, S s0, C 1, I 0, I 0, S s0, S s0, I 0, I 0, S s0, C 9, I 0, I 0, S z2, S s0, I 0, I 0, S s0, C 1, I 0, I 0, S s0, S s0, I 0, I 0, S s0, C 1, I 0, I 0, S s0, S s0, I 0, I 0, S s0, C 3, C 0, I 0, S s0, S s0, I 0, I 0, S s0, C 1, I 0, I 0, S s0, S s0, I 0, I 0, S s0, C 2, I 0, I 0, S s0, S s0, C 1, C 1, S s0, C 18, C 2, I 0, S z4, S s0, I 0, I 0, S s0, C 13, C 1, I 0, S s0, S s0, I 0, I 0, S s0] false), none, none]⟩
def pO (r k : Int) : ME := ⟨9, [.ptr 0 0, I 0], [some (.cells 218 [V 1 4 0 3, V 2 4 0 2, aG, V 3 3 0 4, C 4000, V 4 1 0 1, C 5000, I 0]), some (vc 140 4 3 [I 1, I 1, I 0, V 6 8 0 21, I 1, I 1, I 0, V 5 8 0 21, I 0, I 0, I 0, V 7 8 0 6] false), some (vc 130 4 2 [S z1, C 5, C 0, S s0, S z2, C 5, C 2, S s0] false), some (vc 126 3 4 [C 8, C 0, S s0, C 1, I 0, S s0, C 8, C 1, S s0, C 1, I 0, S s0] false), some (vc 280 1 1 [.ptr 8 0] false), some (vc 200 8 21 [C 1, I 0, I 0, S s0, S s0, I 0, I 0, S s0, C 1, I 0, I 0, S s0, S s0, I 0, I 0, S s0, C 1, I 0, I 0, S s0, S s0, I 0, I 0, S s0, C 3, C 0, I 0, S s0, S s0, I 0, I 0, S s0, C 1, I 0, I 0, S s0, S s0, I 0, I 0, S s0, C 2, I 0, I 0, S s0, S s0, C 1, C 0, S s0, C 18, C 2, I 0, S z3, S s0, I 0, I 0, S s0, C 16, I 11, I 0, S s0, S s0, I 0, I 0, S s0, C 1, I 0, I 0, S s0, S s0, I 0, I 0, S s0, C 2, I 0, I 0, S s0, S s0, I 2, C 0, S s0, C 14, I 0, I 0, S s0, S s0, I 0, I 0, S s0, C 1, I 0, I 0, S s0, S s0, I 0, I 0, S s0, C 1, I 0, I 0, S s0, S s0, I 0, I 0, S s0, C 9, I 0, I 0, S z1, S s0, I 0, I 0, S s0, C 1, I 0, I 0, S s0, S s0, I 0, I 0, S s0, C 1, I 0, I 0, S s0, S s0, I 0, I 0, S s0, C 3, C 0, I 0, S s0, S s0, I 0, I 0, S s0, C 1, I 0, I 0, S s0, S s0, I 0, I 0, S s0, C 2, I 0, I 0, S s0, S s0, C 1, C 1, S s0, C 18, C 2, I 0, S z4, S s0, I 0, I 0, S s0, C 13, C 1, I 0, S s0, S s0, I 0, I 0, S s0] false), some (vc 200 8 21 [C 1, I 0, I 0, S s0, S s0, I 0, I 0, S s0, C 1, I 0, I 0, S s0, S s0, I 0, I 0, S s0, C 1, I 0, I 0, S s0, S s0, I 0, I 0, S s0, C 3, C 0, I 0, S s0, S s0, I 0, I 0, S s0, C 1, I 0, I 0, S s0, S s0, I 0, I 0, S s0, C 2, I 0, I 0, S s0, S s0, C 1, C 0, S s0, C 18, C 2, I 0, S z3, S s0, I 0, I 0, S s0, C 16, I 11, I 0, S s0, S s0, I 0, I 0, S s0, C 1, I 0, I 0, S s0, S s0, I 0, I 0, S s0, C 2, I 0, I 0, S s0, S s0, I 2, C 1, S s0, C 14, I 0, I 0, S s0, S s0, I 0, I 0, S s0, C 1, I 0, I 0, S s0, S s0, I 0, I 0, S s0, C 1, I 0, I 0, S s0, S s0, I 0, I 0, S s0, C 9, I 0, I 0, S z2, S s0, I 0, I 0, S s0, C 1, I 0, I 0, S s0, S s0, I 0, I 0, S s0, C 1, I 0, I 0, S s0, S s0, I 0, I 0, S s0, C 3, C 0, I 0, S s0, S s0, I 0, I 0, S s0, C 1, I 0, I 0, S s0, S s0, I 0, I 0, S s0, C 2, I 0, I 0, S s0, S s0, C 1, C 1, S s0, C 18, C 2, I 0, S z4, S s0, I 0, I 0, S s0, C 13, C 1, I 0, S s0, S s0, I 0, I 0, S s0] false), some (vc 200 8 6 [C 1, I 0, I 0, S s0, S s0, I 0, I 0, S s0, C 1, I 0, I 0, S s0, S s0, I 0, I 0, S s0, C 9, I 0, I 0, S z2, S s0, I 0, I 0, S s0, C 1, I 0, I 0, S s0, S s0, I 0, I 0, S s0, C 2, I 0, I 0, S s0, S s0, C 1, .ri .i64 0 199 k, S s0, C 13, C 1, I 0, S s0, S s0, I 0, I 0, S s0] false), some (.cells 282 [C 2, I 0, C 3, I 0, S s0, aG, aG])], .tup [.agg [I 2, C r, S s0], I 0], [some (.cells 218 [V 1 4 0 3, V 2 4 0 2, aG, V 3 3 0 4, C 4000, J, J, I 0]), some (vc 140 4 3 [I 1, I 1, I 0, V 6 8 0 21, I 1, I 1, I 0, V 5 8 0 21, I 0, I 0, I 0, J] false), some (vc 130 4 2 [S z1, C 5, C 0, S s0, S z2, C 5, C 2, S s0] false), some (vc 126 3 4 [C 8, C 0, S s0, C 1, I 0, S s0, C 8, C 1, S s0, C 1, I 0, S s0] false), none, some (vc 200 8 21 [C 1, I 0, I 0, S s0, S s0, I 0, I 0, S s0, C 1, I 0, I 0, S s0, S s0, I 0, I 0, S s0, C 1, I 0, I 0, S s0, S s0, I 0, I 0, S s0, C 3, C 0, I 0, S s0, S s0, I 0, I 0, S s0, C 1, I 0, I 0, S s0, S s0, I 0, I 0, S s0, C 2, I 0, I 0, S s0, S s0, C 1, C 0, S s0, C 18, C 2, I 0, S z3, S s0, I 0, I 0, S s0, C 16, I 11, I 0, S s0, S s0, I 0, I 0, S s0, C 1, I 0, I 0, S s0, S s0, I 0, I 0, S s0, C 2, I 0, I 0, S s0, S s0, I 2, C 0, S s0, C 14, I 0, I 0, S s0, S s0, I 0, I 0, S s0, C 1, I 0, I 0, S s0, S s0, I 0, I 0, S s0, C 1, I 0, I 0, S s0, S s0, I 0, I 0, S s0, C 9, I 0, I 0, S z1, S s0, I 0, I 0, S s0, C 1, I 0, I 0, S s0, S s0, I 0, I 0, S s0, C 1, I 0, I 0, S s0, S s0, I 0, I 0, S s0, C 3, C 0, I 0, S s0, S s0, I 0, I 0, S s0, C 1, I 0, I 0, S s0, S s0, I 0, I 0, S s0, C 2, I 0, I 0, S s0, S s0, C 1, C 1, S s0, C 18, C 2, I 0, S z4, S s0, I 0, I 0, S s0, C 13, C 1, I 0, S s0, S s0, I 0, I 0, S s0] false), some (vc 200 8 21 [C 1, I 0, I 0, S s0, S s0, I 0, I 0, S s0, C 1, I 0, I 0, S s0, S s0, I 0, I 0, S s0, C 1, I 0, I 0, S s0, S s0, I 0, I 0, S s0, C 3, C 0, I 0, S s0, S s0, I 0, I 0, S s0, C 1, I 0, I 0, S s0, S s0, I 0, I 0, S s0, C 2, I 0, I 0, S s0, S s0, C 1, C 0, S s0, C 18, C 2, I 0, S z3, S s0, I 0, I 0, S s0, C 16, I 11, I 0, S s0, S s0, I 0, I 0, S s0, C 1, I 0, I 0, S s0, S s0, I 0, I 0, S s0, C 2, I 0, I 0, S s0, S s0, I 2, C 1, S s0, C 14, I 0, I 0, S s0, S s0, I 0, I 0, S s0, C 1, I 0, I 0, S s0, S s0, I 0, I 0, S s0, C 1, I 0, I 0, S s0, S s0, I 0, I 0, S s0, C 9, I 0, I 0, S z2, S s0, I 0, I 0, S s0, C 1, I 0, I 0, S s0, S s0, I 0, I 0, S s0, C 1, I 0, I 0, S s0, S s0, I 0, I 0, S s0, C 3, C 0, I 0, S s0, S s0, I 0, I 0, S s0, C 1, I 0, I 0, S s0, S s0, I 0, I 0, S s0, C 2, I 0, I 0, S s0, S s0, C 1, C 1, S s0, C 18, C 2, I 0, S z4, S s0, I 0, I 0, S s0, C 13, C 1, I 0, S s0, S s0, I 0, I 0, S s0] false), none, none]⟩
end
theorem Y2 (k x : Int) (h0 : k = 0) (hp : k % 2 = 1) : LT (eE 0 k x) := seg_lt (tl := []) (es := []) [] aJ L8 (fun _ h => by cases h) (by kernel_rfl) (by kernel_rfl) (by kernel_rfl) 18 (q := (((k == 0) = true -> False) /\ ((k == 0) = false -> False))) (by
 refine ⟨fun hc1 => ?_, fun hc1 => ?_⟩
 · simp only [beq_iff_eq, beq_eq_false_iff_ne, ne_eq, decide_eq_true_eq, decide_eq_false_iff_not, Int.not_le, Int.not_lt] at hc1
   omega
 · simp only [beq_iff_eq, beq_eq_false_iff_ne, ne_eq, decide_eq_true_eq, decide_eq_false_iff_not, Int.not_le, Int.not_lt] at hc1
   omega
 ) (by kernel_rfl)
theorem Xl (k x : Int) (h0 : 0 < k) (h1 : k <= 199) (hx : 27 <= x) (hy : x <= 5000) (hp : k % 2 = 1) (ih : LT (eO 0 (k - 1) (x - 9))) : LT (eE 0 k x) := seg_lt (tl := []) (es := [eO 0 (k - 1) (x - 9)]) [] aJ (oW ih) (kY rfl) (by kernel_rfl) (by kernel_rfl) (by kernel_rfl) 18 (q := (((k == 0) = true -> False) /\ ((k == 0) = false -> (x - 9 = x - 1 - 1 - 1 - 1 - 1 - 1 - 1 - 1 - 1 /\ 18 <= x - 9 /\ x - 9 <= 5000) /\
 (k - 1 = k - 1 /\ 0 <= k - 1 /\ k - 1 <= 199) /\
 qt))) (by
 refine ⟨fun hc1 => ?_, fun hc1 => ?_⟩
 · simp only [beq_iff_eq, beq_eq_false_iff_ne, ne_eq, decide_eq_true_eq, decide_eq_false_iff_not, Int.not_le, Int.not_lt] at hc1
   omega
 · simp only [beq_iff_eq, beq_eq_false_iff_ne, ne_eq, decide_eq_true_eq, decide_eq_false_iff_not, Int.not_le, Int.not_lt] at hc1
   refine ⟨by omega, ?_⟩
   refine ⟨by omega, ?_⟩
   rfl
 ) (by kernel_rfl)
theorem XF (k x : Int) (h0 : k = 0) (hp : k % 2 = 0) : LT (eE 1 k x) := seg_lt (tl := []) (es := []) [] aJ L8 (fun _ h => by cases h) (by kernel_rfl) (by kernel_rfl) (by kernel_rfl) 18 (q := (((k == 0) = true -> qt) /\ ((k == 0) = false -> False))) (by
 refine ⟨fun hc1 => ?_, fun hc1 => ?_⟩
 · simp only [beq_iff_eq, beq_eq_false_iff_ne, ne_eq, decide_eq_true_eq, decide_eq_false_iff_not, Int.not_le, Int.not_lt] at hc1
   rfl
 · simp only [beq_iff_eq, beq_eq_false_iff_ne, ne_eq, decide_eq_true_eq, decide_eq_false_iff_not, Int.not_le, Int.not_lt] at hc1
   omega
 ) (by kernel_rfl)
theorem WI (k x : Int) (h0 : 0 < k) (h1 : k <= 199) (hx : 27 <= x) (hy : x <= 5000) (hp : k % 2 = 0) (ih : LT (eO 1 (k - 1) (x - 9))) : LT (eE 1 k x) := seg_lt (tl := []) (es := [eO 1 (k - 1) (x - 9)]) [] aJ (oW ih) (kY rfl) (by kernel_rfl) (by kernel_rfl) (by kernel_rfl) 18 (q := (((k == 0) = true -> qt) /\ ((k == 0) = false -> (x - 9 = x - 1 - 1 - 1 - 1 - 1 - 1 - 1 - 1 - 1 /\ 18 <= x - 9 /\ x - 9 <= 5000) /\
 (k - 1 = k - 1 /\ 0 <= k - 1 /\ k - 1 <= 199) /\
 qt))) (by
 refine ⟨fun hc1 => ?_, fun hc1 => ?_⟩
 · simp only [beq_iff_eq, beq_eq_false_iff_ne, ne_eq, decide_eq_true_eq, decide_eq_false_iff_not, Int.not_le, Int.not_lt] at hc1
   rfl
 · simp only [beq_iff_eq, beq_eq_false_iff_ne, ne_eq, decide_eq_true_eq, decide_eq_false_iff_not, Int.not_le, Int.not_lt] at hc1
   refine ⟨by omega, ?_⟩
   refine ⟨by omega, ?_⟩
   rfl
 ) (by kernel_rfl)
theorem WT (k x : Int) (h0 : k = 0) (hp : k % 2 = 0) : LT (eO 0 k x) := seg_lt (tl := []) (es := []) [] aJ L8 (fun _ h => by cases h) (by kernel_rfl) (by kernel_rfl) (by kernel_rfl) 18 (q := (((k == 0) = true -> qt) /\ ((k == 0) = false -> False))) (by
 refine ⟨fun hc1 => ?_, fun hc1 => ?_⟩
 · simp only [beq_iff_eq, beq_eq_false_iff_ne, ne_eq, decide_eq_true_eq, decide_eq_false_iff_not, Int.not_le, Int.not_lt] at hc1
   rfl
 · simp only [beq_iff_eq, beq_eq_false_iff_ne, ne_eq, decide_eq_true_eq, decide_eq_false_iff_not, Int.not_le, Int.not_lt] at hc1
   omega
 ) (by kernel_rfl)
theorem Xq (k x : Int) (h0 : 0 < k) (h1 : k <= 199) (hx : 27 <= x) (hy : x <= 5000) (hp : k % 2 = 0) (ih : LT (eE 0 (k - 1) (x - 9))) : LT (eO 0 k x) := seg_lt (tl := []) (es := [eE 0 (k - 1) (x - 9)]) [] aJ (oW ih) (kY rfl) (by kernel_rfl) (by kernel_rfl) (by kernel_rfl) 18 (q := (((k == 0) = true -> qt) /\ ((k == 0) = false -> (x - 9 = x - 1 - 1 - 1 - 1 - 1 - 1 - 1 - 1 - 1 /\ 18 <= x - 9 /\ x - 9 <= 5000) /\
 (k - 1 = k - 1 /\ 0 <= k - 1 /\ k - 1 <= 199) /\
 qt))) (by
 refine ⟨fun hc1 => ?_, fun hc1 => ?_⟩
 · simp only [beq_iff_eq, beq_eq_false_iff_ne, ne_eq, decide_eq_true_eq, decide_eq_false_iff_not, Int.not_le, Int.not_lt] at hc1
   rfl
 · simp only [beq_iff_eq, beq_eq_false_iff_ne, ne_eq, decide_eq_true_eq, decide_eq_false_iff_not, Int.not_le, Int.not_lt] at hc1
   refine ⟨by omega, ?_⟩
   refine ⟨by omega, ?_⟩
   rfl
 ) (by kernel_rfl)
theorem YX (k x : Int) (h0 : k = 0) (hp : k % 2 = 1) : LT (eO 1 k x) := seg_lt (tl := []) (es := []) [] aJ L8 (fun _ h => by cases h) (by kernel_rfl) (by kernel_rfl) (by kernel_rfl) 18 (q := (((k == 0) = true -> False) /\ ((k == 0) = false -> False))) (by
 refine ⟨fun hc1 => ?_, fun hc1 => ?_⟩
 · simp only [beq_iff_eq, beq_eq_false_iff_ne, ne_eq, decide_eq_true_eq, decide_eq_false_iff_not, Int.not_le, Int.not_lt] at hc1
   omega
 · simp only [beq_iff_eq, beq_eq_false_iff_ne, ne_eq, decide_eq_true_eq, decide_eq_false_iff_not, Int.not_le, Int.not_lt] at hc1
   omega
 ) (by kernel_rfl)
theorem WS (k x : Int) (h0 : 0 < k) (h1 : k <= 199) (hx : 27 <= x) (hy : x <= 5000) (hp : k % 2 = 1) (ih : LT (eE 1 (k - 1) (x - 9))) : LT (eO 1 k x) := seg_lt (tl := []) (es := [eE 1 (k - 1) (x - 9)]) [] aJ (oW ih) (kY rfl) (by kernel_rfl) (by kernel_rfl) (by kernel_rfl) 18 (q := (((k == 0) = true -> False) /\ ((k == 0) = false -> (x - 9 = x - 1 - 1 - 1 - 1 - 1 - 1 - 1 - 1 - 1 /\ 18 <= x - 9 /\ x - 9 <= 5000) /\
 (k - 1 = k - 1 /\ 0 <= k - 1 /\ k - 1 <= 199) /\
 qt))) (by
 refine ⟨fun hc1 => ?_, fun hc1 => ?_⟩
 · simp only [beq_iff_eq, beq_eq_false_iff_ne, ne_eq, decide_eq_true_eq, decide_eq_false_iff_not, Int.not_le, Int.not_lt] at hc1
   omega
 · simp only [beq_iff_eq, beq_eq_false_iff_ne, ne_eq, decide_eq_true_eq, decide_eq_false_iff_not, Int.not_le, Int.not_lt] at hc1
   refine ⟨by omega, ?_⟩
   refine ⟨by omega, ?_⟩
   rfl
 ) (by kernel_rfl)
theorem all : ∀ (n : Nat) (k x : Int), k = n -> n <= 199 -> 9 * k + 18 <= x -> x <= 5000 -> (k % 2 = 0 -> LT (eE 1 k x) /\ LT (eO 0 k x)) /\ (k % 2 = 1 -> LT (eE 0 k x) /\ LT (eO 1 k x))
 | 0, k, x, hk, hn, hx, hy => ⟨fun hp => ⟨XF k x (by omega) (by omega), WT k x (by omega) (by omega)⟩, fun hp => by omega⟩
 | n + 1, k, x, hk, hn, hx, hy => by
   obtain ⟨i0, i1⟩ := all n (k - 1) (x - 9) (by omega) (by omega) (by omega) (by omega)
   refine ⟨fun hp => ?_, fun hp => ?_⟩
   · obtain ⟨a, b⟩ := i1 (by omega)
     exact ⟨WI k x (by omega) (by omega) (by omega) (by omega) (by omega) b, Xq k x (by omega) (by omega) (by omega) (by omega) (by omega) a⟩
   · obtain ⟨a, b⟩ := i0 (by omega)
     exact ⟨Xl k x (by omega) (by omega) (by omega) (by omega) (by omega) b, WS k x (by omega) (by omega) (by omega) (by omega) (by omega) a⟩
theorem Wi (k : Int) (h0 : 0 <= k) (h1 : k < 200) (hp : k % 2 = 1) : tO prog 126 (pE 0 k) := Gh (tl := []) (es := [eE 0 k 4997]) (l := (eE 0 k 4997).al) [] aJ (oW ((all k.toNat k 4997 (by omega) (by omega) (by omega) (by omega)).2 hp).1) (kY rfl) (by kernel_rfl) (by kernel_rfl) (by kernel_rfl) 6 (q := ((4997 : Int) = (4997 : Int) /\ (18 : Int) <= (4997 : Int) /\ (4997 : Int) <= (5000 : Int)) /\
 rp (en (k)) 1 (qt)) (by
 refine ⟨by omega, ?_⟩
 refine jc rfl _ ?_
 rfl
 ) (by kernel_rfl)
theorem Vu (k : Int) (h0 : 0 <= k) (h1 : k < 200) (hp : k % 2 = 0) : tO prog 126 (pE 1 k) := Gh (tl := []) (es := [eE 1 k 4997]) (l := (eE 1 k 4997).al) [] aJ (oW ((all k.toNat k 4997 (by omega) (by omega) (by omega) (by omega)).1 hp).1) (kY rfl) (by kernel_rfl) (by kernel_rfl) (by kernel_rfl) 6 (q := ((4997 : Int) = (4997 : Int) /\ (18 : Int) <= (4997 : Int) /\ (4997 : Int) <= (5000 : Int)) /\
 rp (en (k)) 1 (qt)) (by
 refine ⟨by omega, ?_⟩
 refine jc rfl _ ?_
 rfl
 ) (by kernel_rfl)
theorem UZ (k : Int) (h0 : 0 <= k) (h1 : k < 200) (hp : k % 2 = 0) : tO prog 126 (pO 0 k) := Gh (tl := []) (es := [eO 0 k 4997]) (l := (eO 0 k 4997).al) [] aJ (oW ((all k.toNat k 4997 (by omega) (by omega) (by omega) (by omega)).1 hp).2) (kY rfl) (by kernel_rfl) (by kernel_rfl) (by kernel_rfl) 6 (q := ((4997 : Int) = (4997 : Int) /\ (18 : Int) <= (4997 : Int) /\ (4997 : Int) <= (5000 : Int)) /\
 rp (en (k)) 1 (qt)) (by
 refine ⟨by omega, ?_⟩
 refine jc rfl _ ?_
 rfl
 ) (by kernel_rfl)
theorem Wt (k : Int) (h0 : 0 <= k) (h1 : k < 200) (hp : k % 2 = 1) : tO prog 126 (pO 1 k) := Gh (tl := []) (es := [eO 1 k 4997]) (l := (eO 1 k 4997).al) [] aJ (oW ((all k.toNat k 4997 (by omega) (by omega) (by omega) (by omega)).2 hp).2) (kY rfl) (by kernel_rfl) (by kernel_rfl) (by kernel_rfl) 6 (q := ((4997 : Int) = (4997 : Int) /\ (18 : Int) <= (4997 : Int) /\ (4997 : Int) <= (5000 : Int)) /\
 rp (en (k)) 1 (qt)) (by
 refine ⟨by omega, ?_⟩
 refine jc rfl _ ?_
 rfl
 ) (by kernel_rfl)
theorem V6 (n : Int) (hm : bT n 200 % 2 = 0) : tO prog 126 (pE 1 (bT n 200)) := Vu _ (bD n (by decide)).1 (bD n (by decide)).2 hm
theorem UQ (n : Int) (hm : bT n 200 % 2 = 1) : tO prog 126 (pE 0 (bT n 200)) := Wi _ (bD n (by decide)).1 (bD n (by decide)).2 hm
theorem Vr (n : Int) (hm : bT n 200 % 2 = 0) : tO prog 126 (pO 0 (bT n 200)) := UZ _ (bD n (by decide)).1 (bD n (by decide)).2 hm
theorem Vx (n : Int) (hm : bT n 200 % 2 = 1) : tO prog 126 (pO 1 (bT n 200)) := Wt _ (bD n (by decide)).1 (bD n (by decide)).2 hm
end Gv.KMutual
set_option linter.unusedVariables false
open Rx Go
namespace Gv.LMutual
open Gv Rd
noncomputable section
def s1 : ByteArray := ⟨#[100, 101, 102, 105, 110, 101]⟩
def s2 : ByteArray := ⟨#[101, 118, 101, 110]⟩
def s3 : ByteArray := ⟨#[110]⟩
def s4 : ByteArray := ⟨#[105, 102]⟩
def s5 : ByteArray := ⟨#[61]⟩
def s6 : ByteArray := ⟨#[111, 100, 100]⟩
def s7 : ByteArray := ⟨#[45]⟩
def s8 : ByteArray := ⟨#[40, 100, 101, 102, 105, 110, 101, 32, 40, 101, 118, 101, 110, 32, 110, 41, 32, 40, 105, 102, 32, 40, 61, 32, 110, 32, 48, 41, 32, 35, 116, 32, 40, 111, 100, 100, 32, 40, 45, 32, 110, 32, 49, 41, 41, 41, 41, 32, 40, 100, 101, 102, 105, 110, 101, 32, 40, 111, 100, 100, 32, 110, 41, 32, 40, 105, 102, 32, 40, 61, 32, 110, 32, 48, 41, 32, 35, 102, 32, 40, 101, 118, 101, 110, 32, 40, 45, 32, 110, 32, 49, 41, 41, 41, 41]⟩
def s9 : ByteArray := ⟨#[35, 116]⟩
def s10 : ByteArray := ⟨#[35, 102]⟩
theorem Zm : s1.size = 6 := rfl
theorem Y7 : s1.data.toList = [100, 101, 102, 105, 110, 101] := rfl
theorem Zd : s2.size = 4 := rfl
theorem Ze : s2.data.toList = [101, 118, 101, 110] := rfl
theorem Zi : s3.size = 1 := rfl
theorem Za : s3.data.toList = [110] := rfl
theorem Zb : s4.size = 2 := rfl
theorem Y4 : s4.data.toList = [105, 102] := rfl
theorem Y9 : s5.size = 1 := rfl
theorem Zj : s5.data.toList = [61] := rfl
theorem Zl : s6.size = 3 := rfl
theorem Y5 : s6.data.toList = [111, 100, 100] := rfl
theorem Zf : s7.size = 1 := rfl
theorem Zg : s7.data.toList = [45] := rfl
theorem Zc : s8.size = 95 := rfl
theorem Y6 : s8.data.toList = [40, 100, 101, 102, 105, 110, 101, 32, 40, 101, 118, 101, 110, 32, 110, 41, 32, 40, 105, 102, 32, 40, 61, 32, 110, 32, 48, 41, 32, 35, 116, 32, 40, 111, 100, 100, 32, 40, 45, 32, 110, 32, 49, 41, 41, 41, 41, 32, 40, 100, 101, 102, 105, 110, 101, 32, 40, 111, 100, 100, 32, 110, 41, 32, 40, 105, 102, 32, 40, 61, 32, 110, 32, 48, 41, 32, 35, 102, 32, 40, 101, 118, 101, 110, 32, 40, 45, 32, 110, 32, 49, 41, 41, 41, 41] := rfl
theorem U7 : s9.size = 2 := rfl
theorem V4 : s9.data.toList = [35, 116] := rfl
theorem QY : s10.size = 2 := rfl
theorem Rq : s10.data.toList = [35, 102] := rfl
abbrev bn (n : Int) : Int := bT n 200
def o0 : Ob := vc 134 9 2 [C 2, I 0, I 0, S s0, aG, S s3, I 0, aG, aG, C 1, C 1, C 0, S s0, D (.arr 4 0 (dxL [])), S s0, I 0, aG, aG] false
def o1 : Ob := vc 134 9 2 [C 2, I 0, I 0, S s0, aG, S s3, I 0, aG, aG, C 1, C 1, C 1, S s0, D (.arr 4 0 (dxL [])), S s0, I 0, aG, aG] false
def o2 : Ob := vc 130 4 2 [S s2, C 3, I 0, S s0, S s6, C 3, I 0, S s0] false
def o3 : Ob := vc 200 8 21 [C 1, I 0, I 0, S s0, S s0, I 0, I 0, S s0, C 1, I 0, I 0, S s0, S s0, I 0, I 0, S s0, C 1, I 0, I 0, S s0, S s0, I 0, I 0, S s0, C 3, C 0, I 0, S s0, S s0, I 0, I 0, S s0, C 1, I 0, I 0, S s0, S s0, I 0, I 0, S s0, C 2, I 0, I 0, S s0, S s0, C 1, C 0, S s0, C 18, C 2, I 0, S s5, S s0, I 0, I 0, S s0, C 16, I 11, I 0, S s0, S s0, I 0, I 0, S s0, C 1, I 0, I 0, S s0, S s0, I 0, I 0, S s0, C 2, I 0, I 0, S s0, S s0, I 2, C 0, S s0, C 14, I 0, I 0, S s0, S s0, I 0, I 0, S s0, C 1, I 0, I 0, S s0, S s0, I 0, I 0, S s0, C 1, I 0, I 0, S s0, S s0, I 0, I 0, S s0, C 9, I 0, I 0, S s2, S s0, I 0, I 0, S s0, C 1, I 0, I 0, S s0, S s0, I 0, I 0, S s0, C 1, I 0, I 0, S s0, S s0, I 0, I 0, S s0, C 3, C 0, I 0, S s0, S s0, I 0, I 0, S s0, C 1, I 0, I 0, S s0, S s0, I 0, I 0, S s0, C 2, I 0, I 0, S s0, S s0, C 1, C 1, S s0, C 18, C 2, I 0, S s7, S s0, I 0, I 0, S s0, C 13, C 1, I 0, S s0, S s0, I 0, I 0, S s0] false
def o4 : Ob := vc 200 8 21 [C 1, I 0, I 0, S s0, S s0, I 0, I 0, S s0, C 1, I 0, I 0, S s0, S s0, I 0, I 0, S s0, C 1, I 0, I 0, S s0, S s0, I 0, I 0, S s0, C 3, C 0, I 0, S s0, S s0, I 0, I 0, S s0, C 1, I 0, I 0, S s0, S s0, I 0, I 0, S s0, C 2, I 0, I 0, S s0, S s0, C 1, C 0, S s0, C 18, C 2, I 0, S s5, S s0, I 0, I 0, S s0, C 16, I 11, I 0, S s0, S s0, I 0, I 0, S s0, C 1, I 0, I 0, S s0, S s0, I 0, I 0, S s0, C 2, I 0, I 0, S s0, S s0, I 2, C 1, S s0, C 14, I 0, I 0, S s0, S s0, I 0, I 0, S s0, C 1, I 0, I 0, S s0, S s0, I 0, I 0, S s0, C 1, I 0, I 0, S s0, S s0, I 0, I 0, S s0, C 9, I 0, I 0, S s6, S s0, I 0, I 0, S s0, C 1, I 0, I 0, S s0, S s0, I 0, I 0, S s0, C 1, I 0, I 0, S s0, S s0, I 0, I 0, S s0, C 3, C 0, I 0, S s0, S s0, I 0, I 0, S s0, C 1, I 0, I 0, S s0, S s0, I 0, I 0, S s0, C 2, I 0, I 0, S s0, S s0, C 1, C 1, S s0, C 18, C 2, I 0, S s7, S s0, I 0, I 0, S s0, C 13, C 1, I 0, S s0, S s0, I 0, I 0, S s0] false
def o5 : Ob := vc 140 4 2 [J, J, I 0, J, J, J, I 0, J] false
def o6 : Ob := vc 130 4 2 [S s2, J, J, J, S s6, J, J, J] false
def o7 : Ob := vc 126 3 2 [C 8, C 0, S s0, C 1, I 0, S s0] true
def o8 : Ob := vc 126 3 2 [C 8, C 0, S s0, C 1, I 0, S s0] false
def o9 : Ob := .mp (.int .i64) .bool [((0 : Int), true)]
def o10 : Ob := vc 130 4 2 [S s2, C 5, C 0, S s0, S s6, C 3, I 0, S s0] false
def o11 : Ob := vc 126 3 2 [C 8, C 1, S s0, C 1, I 0, S s0] true
def o12 : Ob := vc 126 3 4 [C 8, C 0, S s0, C 1, I 0, S s0, C 8, C 1, S s0, C 1, I 0, S s0] false
def o13 : Ob := .mp (.int .i64) .bool [((0 : Int), true), ((2 : Int), true)]
def o14 : Ob := vc 130 4 2 [S s2, C 5, C 0, S s0, S s6, C 5, C 2, S s0] false
def o15 : Ob := .cells 282 [C 2, I 0, C 3, I 0, S s0, aG, aG]
def o16 : Ob := vc 140 4 3 [J, J, I 0, J, J, J, I 0, J, J, J, I 0, J] false
def p0 : Ob := vc 136 10 2 [S s2, C 6, I 0, I 0, S s0, aG, S s0, I 0, V 3 1 0 1, V 2 9 0 1, S s6, C 6, I 0, I 0, S s0, aG, S s0, I 0, V 4 1 0 1, V 1 9 0 1] false
def p1 : Ob := vc 134 9 1 [C 4, I 0, I 0, S s0, aG, S s0, I 0, aG, V 5 9 0 3] true
def p2 : Ob := vc 134 9 1 [C 4, I 0, I 0, S s0, aG, S s0, I 0, aG, V 6 9 0 3] true
def p3 : Ob := vc 134 9 3 [C 10, I 0, I 0, S s0, aG, S s5, I 0, aG, V 7 9 0 2, C 1, C 2, C 0, S s0, D (.arr 4 0 (dxL [])), S s0, I 0, aG, aG, C 9, I 0, I 0, S s0, aG, S s0, I 0, aG, V 8 9 0 2] false
def p4 : Ob := vc 134 9 3 [C 10, I 0, I 0, S s0, aG, S s5, I 0, aG, V 9 9 0 2, C 1, C 2, C 1, S s0, D (.arr 4 0 (dxL [])), S s0, I 0, aG, aG, C 9, I 0, I 0, S s0, aG, S s0, I 0, aG, V 10 9 0 2] false
def p5 : Ob := vc 134 9 2 [C 3, I 0, I 0, S s0, aG, S s2, I 0, aG, aG, C 10, I 0, I 0, S s0, aG, S s7, I 0, aG, V 11 9 0 2] false
def p6 : Ob := vc 134 9 2 [C 3, I 0, I 0, S s0, aG, S s6, I 0, aG, aG, C 10, I 0, I 0, S s0, aG, S s7, I 0, aG, V 12 9 0 2] false
def p7 : Ob := vc 9 1 2 [S s2, S s6] false
def p8 : Ob := vc 140 4 2 [I 1, I 1, I 0, V 4 8 0 21, I 1, I 1, I 0, V 3 8 0 21] false
def p9 : Ob := vc 140 4 2 [I 1, I 1, I 0, V 9 8 0 21, I 1, I 1, I 0, V 8 8 0 21] false
def p10 : Ob := vc 140 4 2 [I 1, I 1, I 0, V 5 8 0 21, I 1, I 1, I 0, V 4 8 0 21] false
def p11 : Ob := vc 140 4 2 [I 1, I 1, I 0, V 10 8 0 21, I 1, I 1, I 0, V 9 8 0 21] false
def p12 : Ob := vc 140 4 3 [I 1, I 1, I 0, V 4 8 0 21, I 1, I 1, I 0, V 3 8 0 21, I 0, I 0, I 0, J] false
def p13 (n : Int) : Ob := vc 47 4 1 [C 1, .ri .i64 0 199 (bn n), S s0, aG] true
def a0 : SV := .agg [aG, aG, aG, aG, C 4000]
def a1 : SV := .agg [V 0 4 0 2, V 1 4 0 2, aG, J, J]
def a2 : SV := .agg [I 1, I 1, I 0, V 2 8 0 21]
def a3 : SV := .agg [V 0 4 0 2, V 1 4 0 2, aG, aG, C 4000]
def a4 : SV := .agg [V 0 4 0 2, V 1 4 0 2, aG, V 2 3 0 2, C 4000]
def a5 : SV := .agg [V 0 4 0 2, V 1 4 0 2, aG, V 2 3 0 4, C 4000]
def a6 : SV := .agg [I 0, I 0, I 0, V 2 8 0 6]
def a7 : SV := .agg [.sl 0 4 0 2 (some 2), V 1 4 0 2, aG, J, J]
def a8 : SV := .agg [.sl 0 4 0 2 (some 2), V 1 4 0 2, aG, V 2 3 0 4, C 4000]
def a9 : SV := .agg [C 2, S s0, S s2, V 3 4 0 1, C 5000]
def a10 : SV := .agg [C 2, S s0, S s6, V 3 4 0 1, C 5000]
def w0 : List (Option Ob) := [some p0, some p1, some p2, some (vc 9 1 1 [S s3] false), some (vc 9 1 1 [S s3] false), some p3, some p4, some o0, some p5, some o0, some p6, some o1, some o1]
def w1 : List (Option Ob) := [some p8, some o14, some o12, some o3, some o4]
def w2 : List (Option Ob) := [some p12, some o14, some o12, some o3, some o4]
def w3 : List (Option Ob) := [some p9, some o14, some o12, some o3, some o4]
def w4 (n : Int) : List (Option Ob) := [some p10, some o14, some o12, some (p13 n), some o3, some o4]
def w5 : List (Option Ob) := [some p11, some o14, some o12, some o3, some o4]
def e0 (n : Int) : TE := ⟨0, [aG], [], .tup [.nm 0, .kb true], [some (.mp (.int .i64) .bool [])]⟩
def e1 (n : Int) : TE := ⟨0, [.agg [aG, C 4000]], [], I 0, []⟩
def e2 (n : Int) : TE := ⟨0, [.agg [aG, aG]], [], I 0, []⟩
def e3 (n : Int) : TE := ⟨0, [a0], [], I 0, []⟩
def e4 (n : Int) : TE := ⟨0, [a0], [], .tup [.agg [aG, aG], I 0], []⟩
def e5 (n : Int) : TE := ⟨0, [D (.arr 4 2 (dxL [(ls [(sy s1), (ls [(sy s2), (sy s3)]), (ls [(sy s4), (ls [(sy s5), (sy s3), (num 0)]), (Dx.mk 2 none 1 noS []), (ls [(sy s6), (ls [(sy s7), (sy s3), (num 1)])])])]), (ls [(sy s1), (ls [(sy s6), (sy s3)]), (ls [(sy s4), (ls [(sy s5), (sy s3), (num 0)]), (Dx.mk 2 none 0 noS []), (ls [(sy s2), (ls [(sy s7), (sy s3), (num 1)])])])])])), .agg [aG, aG]], [], .tup [.agg [aG, V 0 10 0 2, aG], I 0, I 0], w0⟩
def e6 (n : Int) : TE := ⟨1, [.agg [V 0 1 0 2, aG]], [some p7], I 0, []⟩
def e7 (n : Int) : TE := ⟨0, [.agg [aG, C 50]], [], I 0, []⟩
def e8 (n : Int) : TE := ⟨3, [a1, a2], [some o5, some o6, some o4], .kb true, []⟩
def e9 (n : Int) : TE := ⟨3, [a1, a2], [some o5, some o6, some o3], .kb true, []⟩
def e10 (n : Int) : TE := ⟨4, [a3], [some (vc 140 4 2 [I 1, I 1, I 0, V 3 8 0 21, I 1, I 1, I 0, V 2 8 0 21] false), some o2, some o3, some o4], I 0, []⟩
def e11 (n : Int) : TE := ⟨1, [V 0 3 0 2], [some o8], .tup [.nm 1, .kb true], [some o9]⟩
def e12 (n : Int) : TE := ⟨1, [.agg [V 0 3 0 2, C 4000]], [some o8], I 0, []⟩
def e13 (n : Int) : TE := ⟨5, [a3, V 2 3 0 2, aG], [some p8, some o2, some o7, some o3, some o4], .tup [.agg [V 5 4 0 2, V 6 4 0 2, aG, V 7 3 0 2, C 4000], .agg [C 5, C 0, S s0], I 0], [some p9, some o2, some o8, some o3, some o4]⟩
def e14 (n : Int) : TE := ⟨5, [a4], [some p8, some o10, some o8, some o3, some o4], I 0, []⟩
def e15 (n : Int) : TE := ⟨1, [V 0 3 0 4], [some o12], .tup [.nm 1, .kb true], [some o13]⟩
def e16 (n : Int) : TE := ⟨1, [.agg [V 0 3 0 4, C 4000]], [some o12], I 0, []⟩
def e17 (n : Int) : TE := ⟨6, [a4, V 3 3 0 2, aG], [some p10, some o10, some o8, some o11, some o3, some o4], .tup [.agg [V 6 4 0 2, V 7 4 0 2, aG, V 8 3 0 4, C 4000], .agg [C 5, C 2, S s0], I 0], [some p11, some o10, some o12, some o3, some o4]⟩
def e18 (n : Int) : TE := ⟨13, [a0, .agg [aG, V 0 10 0 2, aG]], w0, .tup [.agg [V 13 4 0 2, V 14 4 0 2, aG, V 15 3 0 4, C 4000], I 0], [some (vc 140 4 2 [I 1, I 1, I 0, V 17 8 0 21, I 1, I 1, I 0, V 16 8 0 21] false), some o14, some o12, some o3, some o4]⟩
def e19 (n : Int) : TE := ⟨0, [a0, S s8], [], .tup [.agg [V 0 4 0 2, V 1 4 0 2, aG, V 2 3 0 4, C 4000], I 0], w1⟩
def e20 (n : Int) : TE := ⟨5, [a5], w1, I 0, []⟩
def e21 (n : Int) : TE := ⟨5, [a5], w1, .tup [.agg [V 5 1 0 2, aG], I 0], [some p7]⟩
def e22 (n : Int) : TE := ⟨3, [a1, a6], [some o5, some o6, some (vc 200 8 6 [C 1, I 0, I 0, S s0, S s0, I 0, I 0, S s0, C 1, I 0, I 0, S s0, S s0, I 0, I 0, S s0, C 9, I 0, I 0, S s2, S s0, I 0, I 0, S s0, C 1, I 0, I 0, S s0, S s0, I 0, I 0, S s0, C 2, I 0, I 0, S s0, S s0, C 1, .ri .i64 0 199 (bn n), S s0, C 13, C 1, I 0, S s0, S s0, I 0, I 0, S s0] false)], .kb true, []⟩
def e23 (n : Int) : TE := ⟨3, [a7, a2], [some o16, some o6, some o4], .kb true, []⟩
def e24 (n : Int) : TE := ⟨3, [a7, a2], [some o16, some o6, some o3], .kb true, []⟩
def e25 (n : Int) : TE := ⟨5, [a8], w2, I 0, []⟩
def e26 (n : Int) : TE := ⟨5, [a8, .agg [I 2, C 1, S s0]], w2, .tup [.agg [V 5 4 0 2, V 6 4 0 2, aG, V 7 3 0 4, C 4000], .sy s9, I 0], w3⟩
def e27 (n : Int) : TE := ⟨6, [a5, a9], (w4 n), .tup [.agg [V 6 4 0 2, V 7 4 0 2, aG, V 8 3 0 4, C 4000], .sy s9, I 0], w5⟩
def e28 (n : Int) : TE := ⟨3, [a1, a6], [some o5, some o6, some (vc 200 8 6 [C 1, I 0, I 0, S s0, S s0, I 0, I 0, S s0, C 1, I 0, I 0, S s0, S s0, I 0, I 0, S s0, C 9, I 0, I 0, S s6, S s0, I 0, I 0, S s0, C 1, I 0, I 0, S s0, S s0, I 0, I 0, S s0, C 2, I 0, I 0, S s0, S s0, C 1, .ri .i64 0 199 (bn n), S s0, C 13, C 1, I 0, S s0, S s0, I 0, I 0, S s0] false)], .kb true, []⟩
def e29 (n : Int) : TE := ⟨5, [a8, .agg [I 2, C 0, S s0]], w2, .tup [.agg [V 5 4 0 2, V 6 4 0 2, aG, V 7 3 0 4, C 4000], .sy s10, I 0], w3⟩
def e30 (n : Int) : TE := ⟨6, [a5, a10], (w4 n), .tup [.agg [V 6 4 0 2, V 7 4 0 2, aG, V 8 3 0 4, C 4000], .sy s10, I 0], w5⟩
def e32 (n : Int) : TE := ⟨6, [a5, a9], (w4 n), .tup [.agg [V 6 4 0 2, V 7 4 0 2, aG, V 8 3 0 4, C 4000], .sy s10, I 0], w5⟩
def e33 (n : Int) : TE := ⟨6, [a5, a10], (w4 n), .tup [.agg [V 6 4 0 2, V 7 4 0 2, aG, V 8 3 0 4, C 4000], .sy s9, I 0], w5⟩
end
theorem fx (n : Int) : 0 <= bn n /\ bn n < 200 /\ (bn n).tmod 2 = bn n % 2 /\ (gX (bn n)).size <= 3 /\ 0 < (gX (bn n)).size := by
 have h0 : 0 <= bn n := (bD n (by decide)).1
 have h1 : bn n < 200 := (bD n (by decide)).2
 have h2 : (bn n).tmod 2 = bn n % 2 := Int.tmod_eq_emod_of_nonneg (bD n (by decide)).1
 refine ⟨h0, h1, h2, Rj (by omega) (by omega), TD (by omega) (by omega)⟩
end Gv.LMutual
