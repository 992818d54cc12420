/- The loop of the machine in RollBack, told. Printed by loopRollBack.py. -/
import Derived.Test.YtildnaomamnkgaaGreatDoorGvO
set_option linter.unusedSimpArgs false
set_option linter.unusedVariables false
set_option maxRecDepth 100000
open Rx Go Gv Rd
namespace Gv.KRollBack
noncomputable section
def z1 : ByteArray := ⟨#[120]⟩
def z2 : ByteArray := ⟨#[108]⟩
def z3 : ByteArray := ⟨#[102]⟩
def z4 : ByteArray := ⟨#[115, 104, 111, 119]⟩
def z5 : ByteArray := ⟨#[99, 111, 110, 115]⟩
def z6 : ByteArray := ⟨#[61]⟩
def z7 : ByteArray := ⟨#[101, 114, 114, 111, 114]⟩
def z8 : ByteArray := ⟨#[43]⟩
def z9 : ByteArray := ⟨#[45]⟩
def rf (j : Nat) : List SV := @Nat.rec (fun _ => List SV) [C 3, I 0] (fun t _ => [C 5, C (Int.ofNat (Nat.add 4 (Nat.mul 3 t)))]) j
def cns (j : Nat) : List SV := @Nat.rec (fun _ => List SV) [] (fun t l => l ++ ([C 6, I 0, S s0, C 1, C (Int.ofNat (Nat.succ t)), S s0] ++ rf t ++ [S s0])) j
def fns : Ob := vc 99 4 5 [I 0, I 0, I 0, J, I 0, I 0, I 0, J, I 1, I 1, I 0, V 6 8 0 44, I 1, I 1, I 0, J, I 0, I 0, I 0, J] false
def Xm : Ob := vc 190 8 44 [C 1, I 0, I 0, S s0, S s0, I 0, I 0, S s0, C 1, I 0, I 0, S s0, S s0, I 0, I 0, S s0, C 1, I 0, I 0, S s0, S s0, I 0, I 0, S s0, C 3, C 0, I 0, S s0, S s0, I 0, I 0, S s0, C 1, I 0, I 0, S s0, S s0, I 0, I 0, S s0, C 2, I 0, I 0, S s0, S s0, C 1, C 0, S s0, C 18, C 2, I 0, S z6, S s0, I 0, I 0, S s0, C 16, I 13, I 0, S s0, S s0, I 0, I 0, S s0, C 1, I 0, I 0, S s0, S s0, I 0, I 0, S s0, C 1, I 0, I 0, S s0, S s0, I 0, I 0, S s0, C 9, I 0, I 0, S z1, S s0, I 0, I 0, S s0, C 18, C 1, I 0, S z7, S s0, I 0, I 0, S s0, C 14, I 0, I 0, S s0, S s0, I 0, I 0, S s0, C 1, I 0, I 0, S s0, S s0, I 0, I 0, S s0, C 1, I 0, I 0, S s0, S s0, I 0, I 0, S s0, C 1, I 0, I 0, S s0, S s0, I 0, I 0, S s0, C 1, I 0, I 0, S s0, S s0, I 0, I 0, S s0, C 9, I 0, I 0, S z1, S s0, I 0, I 0, S s0, C 1, I 0, I 0, S s0, S s0, I 0, I 0, S s0, C 2, I 0, I 0, S s0, S s0, C 1, C 1, S s0, C 18, C 2, I 0, S z8, S s0, I 0, I 0, S s0, C 10, I 0, I 0, S z1, S s0, I 0, I 0, S s0, C 2, I 0, I 0, S s0, S s0, C 3, I 0, S s0, C 17, I 0, I 0, S s0, S s0, I 0, I 0, S s0, C 1, I 0, I 0, S s0, S s0, I 0, I 0, S s0, C 1, I 0, I 0, S s0, S s0, I 0, I 0, S s0, C 1, I 0, I 0, S s0, S s0, I 0, I 0, S s0, C 9, I 0, I 0, S z1, S s0, I 0, I 0, S s0, C 1, I 0, I 0, S s0, S s0, I 0, I 0, S s0, C 9, I 0, I 0, S z2, S s0, I 0, I 0, S s0, C 18, C 2, I 0, S z5, S s0, I 0, I 0, S s0, C 10, I 0, I 0, S z2, S s0, I 0, I 0, S s0, C 2, I 0, I 0, S s0, S s0, C 3, I 0, S s0, C 17, I 0, I 0, S s0, S s0, I 0, I 0, S s0, C 1, I 0, I 0, S s0, S s0, I 0, I 0, S s0, C 1, I 0, I 0, S s0, S s0, I 0, I 0, S s0, C 9, I 0, I 0, S z3, S s0, I 0, I 0, S s0, C 1, I 0, I 0, S s0, S s0, I 0, I 0, S s0, C 1, I 0, I 0, S s0, S s0, I 0, I 0, S s0, C 3, C 0, I 0, S s0, S s0, I 0, I 0, S s0, C 1, I 0, I 0, S s0, S s0, I 0, I 0, S s0, C 2, I 0, I 0, S s0, S s0, C 1, C 1, S s0, C 18, C 2, I 0, S z9, S s0, I 0, I 0, S s0, C 13, C 1, I 0, S s0, S s0, I 0, I 0, S s0] false
def globs (j : Nat) : Ob := vc 54 4 4 ([S z1, C 1, C (j : Int), S s0, S z2] ++ rf j ++ [S s0, S z3, C 5, C 0, S s0, S z4, C 5, C 2, S s0]) false
def words (j : Nat) : Ob := vc 52 3 (Nat.add 4 (Nat.mul 3 j)) ([C 8, C 2, S s0, C 1, I 0, S s0, C 8, C 3, S s0, C 1, I 0, S s0] ++ cns j) false
def e (j : Nat) (k x c : Int) : ME := ⟨9, [.ptr 0 0, I 0, J, J, .ptr 1 0], [some (.cells 160 [V 2 4 0 5, V 3 4 0 4, aC, V 4 3 0 (Nat.add 4 (Nat.mul 3 j)), C 4000, V 5 1 0 1, .ri .i64 0 600 x, I 0]), some (.cells 52 [I 0, I 0, S s0]), some fns, some (globs j), some (words j), some (vc 253 1 1 [.ptr 7 0] false), some Xm, some (.cells 255 [C 2, I 0, C 5, C 0, S s0, V 8 3 0 1, aC]), some (vc 52 3 1 [C 1, .ri .i64 0 49 k, S s0] false)], .tup [.agg [I 0, I 0, S s0], .ri .i64 11 14 c], [none, none, none, none, none, none, none, none, none]⟩
def p (k x c : Int) : ME := ⟨11, [.ptr 0 0, I 0], [some (.cells 160 [V 1 4 0 5, V 2 4 0 4, aC, V 3 3 0 4, C 4000, V 4 1 0 1, .ri .i64 0 600 x, I 0]), some (vc 99 4 5 [I 0, I 0, I 0, V 7 8 0 3, I 0, I 0, I 0, V 6 8 0 3, I 1, I 1, I 0, V 9 8 0 44, I 1, I 1, I 0, V 5 8 0 7, I 0, I 0, I 0, V 8 8 0 6] false), some (vc 54 4 4 [S z1, C 1, C 0, S s0, S z2, C 3, I 0, S s0, S z3, C 5, C 0, S s0, S z4, C 5, C 2, S s0] false), some (vc 52 3 4 [C 8, C 2, S s0, C 1, I 0, S s0, C 8, C 3, S s0, C 1, I 0, S s0] false), some (vc 253 1 1 [.ptr 10 0] false), some (vc 190 8 7 [C 1, I 0, I 0, S s0, S s0, I 0, I 0, S s0, C 1, I 0, I 0, S s0, S s0, I 0, I 0, S s0, C 9, I 0, I 0, S z1, S s0, I 0, I 0, S s0, C 1, I 0, I 0, S s0, S s0, I 0, I 0, S s0, C 9, I 0, I 0, S z2, S s0, I 0, I 0, S s0, C 18, C 2, I 0, S z5, S s0, I 0, I 0, S s0, C 14, I 0, I 0, S s0, S s0, I 0, I 0, S s0] false), some (vc 190 8 3 [C 1, I 0, I 0, S s0, S s0, I 0, I 0, S s0, C 2, I 0, I 0, S s0, S s0, C 3, I 0, S s0, C 14, I 0, I 0, S s0, S s0, I 0, I 0, S s0] false), some (vc 190 8 3 [C 1, I 0, I 0, S s0, S s0, I 0, I 0, S s0, C 2, I 0, I 0, S s0, S s0, C 1, C 0, S s0, C 14, I 0, I 0, S s0, S s0, I 0, I 0, S s0] false), some (vc 190 8 6 [C 1, I 0, I 0, S s0, S s0, I 0, I 0, S s0, C 1, I 0, I 0, S s0, S s0, I 0, I 0, S s0, C 9, I 0, I 0, S z3, S s0, I 0, I 0, S s0, C 1, I 0, I 0, S s0, S s0, I 0, I 0, S s0, C 2, I 0, I 0, S s0, S s0, C 1, .ri .i64 0 49 k, S s0, C 13, C 1, I 0, S s0, S s0, I 0, I 0, S s0] false), some (vc 190 8 44 [C 1, I 0, I 0, S s0, S s0, I 0, I 0, S s0, C 1, I 0, I 0, S s0, S s0, I 0, I 0, S s0, C 1, I 0, I 0, S s0, S s0, I 0, I 0, S s0, C 3, C 0, I 0, S s0, S s0, I 0, I 0, S s0, C 1, I 0, I 0, S s0, S s0, I 0, I 0, S s0, C 2, I 0, I 0, S s0, S s0, C 1, C 0, S s0, C 18, C 2, I 0, S z6, S s0, I 0, I 0, S s0, C 16, I 13, I 0, S s0, S s0, I 0, I 0, S s0, C 1, I 0, I 0, S s0, S s0, I 0, I 0, S s0, C 1, I 0, I 0, S s0, S s0, I 0, I 0, S s0, C 9, I 0, I 0, S z1, S s0, I 0, I 0, S s0, C 18, C 1, I 0, S z7, S s0, I 0, I 0, S s0, C 14, I 0, I 0, S s0, S s0, I 0, I 0, S s0, C 1, I 0, I 0, S s0, S s0, I 0, I 0, S s0, C 1, I 0, I 0, S s0, S s0, I 0, I 0, S s0, C 1, I 0, I 0, S s0, S s0, I 0, I 0, S s0, C 1, I 0, I 0, S s0, S s0, I 0, I 0, S s0, C 9, I 0, I 0, S z1, S s0, I 0, I 0, S s0, C 1, I 0, I 0, S s0, S s0, I 0, I 0, S s0, C 2, I 0, I 0, S s0, S s0, C 1, C 1, S s0, C 18, C 2, I 0, S z8, S s0, I 0, I 0, S s0, C 10, I 0, I 0, S z1, S s0, I 0, I 0, S s0, C 2, I 0, I 0, S s0, S s0, C 3, I 0, S s0, C 17, I 0, I 0, S s0, S s0, I 0, I 0, S s0, C 1, I 0, I 0, S s0, S s0, I 0, I 0, S s0, C 1, I 0, I 0, S s0, S s0, I 0, I 0, S s0, C 1, I 0, I 0, S s0, S s0, I 0, I 0, S s0, C 9, I 0, I 0, S z1, S s0, I 0, I 0, S s0, C 1, I 0, I 0, S s0, S s0, I 0, I 0, S s0, C 9, I 0, I 0, S z2, S s0, I 0, I 0, S s0, C 18, C 2, I 0, S z5, S s0, I 0, I 0, S s0, C 10, I 0, I 0, S z2, S s0, I 0, I 0, S s0, C 2, I 0, I 0, S s0, S s0, C 3, I 0, S s0, C 17, I 0, I 0, S s0, S s0, I 0, I 0, S s0, C 1, I 0, I 0, S s0, S s0, I 0, I 0, S s0, C 1, I 0, I 0, S s0, S s0, I 0, I 0, S s0, C 9, I 0, I 0, S z3, S s0, I 0, I 0, S s0, C 1, I 0, I 0, S s0, S s0, I 0, I 0, S s0, C 1, I 0, I 0, S s0, S s0, I 0, I 0, S s0, C 3, C 0, I 0, S s0, S s0, I 0, I 0, S s0, C 1, I 0, I 0, S s0, S s0, I 0, I 0, S s0, C 2, I 0, I 0, S s0, S s0, C 1, C 1, S s0, C 18, C 2, I 0, S z9, S s0, I 0, I 0, S s0, C 13, C 1, I 0, S s0, S s0, I 0, I 0, S s0] false), some (.cells 255 [C 4, I 0, C 3, I 0, S s0, aC, aC])], .tup [.agg [I 0, I 0, S s0], .ri .i64 11 14 c], [none, none, none, none, none, none, none, none, none, none, none]⟩
end
def Q (k x c : Int) : Prop := (((x == 0) = true -> (c = 11 /\ 11 <= c /\ c <= 14) /\
 qt) /\ ((x == 0) = false -> (((x - 1 == 0) = true -> (c = 11 /\ 11 <= c /\ c <= 14) /\
 qt) /\ ((x - 1 == 0) = false -> (((x - 1 - 1 == 0) = true -> (c = 11 /\ 11 <= c /\ c <= 14) /\
 qt) /\ ((x - 1 - 1 == 0) = false -> (((x - 1 - 1 - 1 == 0) = true -> (c = 11 /\ 11 <= c /\ c <= 14) /\
 qt) /\ ((x - 1 - 1 - 1 == 0) = false -> (((k == 0) = true -> (((x - 1 - 1 - 1 - 1 == 0) = true -> (c = 11 /\ 11 <= c /\ c <= 14) /\
 qt) /\ ((x - 1 - 1 - 1 - 1 == 0) = false -> (((x - 1 - 1 - 1 - 1 - 1 == 0) = true -> (c = 11 /\ 11 <= c /\ c <= 14) /\
 qt) /\ ((x - 1 - 1 - 1 - 1 - 1 == 0) = false -> (c = 14 /\ 11 <= c /\ c <= 14) /\
 qt))))) /\ ((k == 0) = false -> (((x - 1 - 1 - 1 - 1 == 0) = true -> (c = 11 /\ 11 <= c /\ c <= 14) /\
 qt) /\ ((x - 1 - 1 - 1 - 1 == 0) = false -> (((x - 1 - 1 - 1 - 1 - 1 == 0) = true -> (c = 11 /\ 11 <= c /\ c <= 14) /\
 qt) /\ ((x - 1 - 1 - 1 - 1 - 1 == 0) = false -> (((x - 1 - 1 - 1 - 1 - 1 - 1 == 0) = true -> (c = 11 /\ 11 <= c /\ c <= 14) /\
 qt) /\ ((x - 1 - 1 - 1 - 1 - 1 - 1 == 0) = false -> (((x - 1 - 1 - 1 - 1 - 1 - 1 - 1 == 0) = true -> (c = 11 /\ 11 <= c /\ c <= 14) /\
 qt) /\ ((x - 1 - 1 - 1 - 1 - 1 - 1 - 1 == 0) = false -> (((x - 1 - 1 - 1 - 1 - 1 - 1 - 1 - 1 == 0) = true -> (c = 11 /\ 11 <= c /\ c <= 14) /\
 qt) /\ ((x - 1 - 1 - 1 - 1 - 1 - 1 - 1 - 1 == 0) = false -> (((x - 1 - 1 - 1 - 1 - 1 - 1 - 1 - 1 - 1 == 0) = true -> (c = 11 /\ 11 <= c /\ c <= 14) /\
 qt) /\ ((x - 1 - 1 - 1 - 1 - 1 - 1 - 1 - 1 - 1 == 0) = false -> (((x - 1 - 1 - 1 - 1 - 1 - 1 - 1 - 1 - 1 - 1 == 0) = true -> (c = 11 /\ 11 <= c /\ c <= 14) /\
 qt) /\ ((x - 1 - 1 - 1 - 1 - 1 - 1 - 1 - 1 - 1 - 1 == 0) = false -> (((x - 1 - 1 - 1 - 1 - 1 - 1 - 1 - 1 - 1 - 1 - 1 == 0) = true -> (c = 11 /\ 11 <= c /\ c <= 14) /\
 qt) /\ ((x - 1 - 1 - 1 - 1 - 1 - 1 - 1 - 1 - 1 - 1 - 1 == 0) = false -> (((x - 1 - 1 - 1 - 1 - 1 - 1 - 1 - 1 - 1 - 1 - 1 - 1 == 0) = true -> (c = 11 /\ 11 <= c /\ c <= 14) /\
 qt) /\ ((x - 1 - 1 - 1 - 1 - 1 - 1 - 1 - 1 - 1 - 1 - 1 - 1 == 0) = false -> (((x - 1 - 1 - 1 - 1 - 1 - 1 - 1 - 1 - 1 - 1 - 1 - 1 - 1 == 0) = true -> (c = 11 /\ 11 <= c /\ c <= 14) /\
 qt) /\ ((x - 1 - 1 - 1 - 1 - 1 - 1 - 1 - 1 - 1 - 1 - 1 - 1 - 1 == 0) = false -> (((x - 1 - 1 - 1 - 1 - 1 - 1 - 1 - 1 - 1 - 1 - 1 - 1 - 1 - 1 == 0) = true -> (c = 11 /\ 11 <= c /\ c <= 14) /\
 qt) /\ ((x - 1 - 1 - 1 - 1 - 1 - 1 - 1 - 1 - 1 - 1 - 1 - 1 - 1 - 1 == 0) = false -> (((x - 1 - 1 - 1 - 1 - 1 - 1 - 1 - 1 - 1 - 1 - 1 - 1 - 1 - 1 - 1 == 0) = true -> (c = 11 /\ 11 <= c /\ c <= 14) /\
 qt) /\ ((x - 1 - 1 - 1 - 1 - 1 - 1 - 1 - 1 - 1 - 1 - 1 - 1 - 1 - 1 - 1 == 0) = false -> (((x - 1 - 1 - 1 - 1 - 1 - 1 - 1 - 1 - 1 - 1 - 1 - 1 - 1 - 1 - 1 - 1 == 0) = true -> (c = 11 /\ 11 <= c /\ c <= 14) /\
 qt) /\ ((x - 1 - 1 - 1 - 1 - 1 - 1 - 1 - 1 - 1 - 1 - 1 - 1 - 1 - 1 - 1 - 1 == 0) = false -> (((x - 1 - 1 - 1 - 1 - 1 - 1 - 1 - 1 - 1 - 1 - 1 - 1 - 1 - 1 - 1 - 1 - 1 == 0) = true -> (c = 11 /\ 11 <= c /\ c <= 14) /\
 qt) /\ ((x - 1 - 1 - 1 - 1 - 1 - 1 - 1 - 1 - 1 - 1 - 1 - 1 - 1 - 1 - 1 - 1 - 1 == 0) = false -> (0 < k /\ 18 <= x) /\
 (x - 18 = x - 1 - 1 - 1 - 1 - 1 - 1 - 1 - 1 - 1 - 1 - 1 - 1 - 1 - 1 - 1 - 1 - 1 - 1 /\ 0 <= x - 18 /\ x - 18 <= 600) /\
 (k - 1 = k - 1 /\ 0 <= k - 1 /\ k - 1 <= 49) /\
 rp (en (c)) 1 (qt)))))))))))))))))))))))))))))))))))))))
theorem X0 (k x c : Int) (h0 : 0 <= k) (h1 : k <= 49) (hx : 0 <= x) (hy : x <= 600) (hc : (18 * k + 6 <= x /\ c = 14) ∨ (x < 18 * k + 6 /\ c = 11)) : Q k x c := by
 unfold Q
 refine ⟨fun hc1 => ?_, fun hc1 => ?_⟩
 · simp only [beq_iff_eq, beq_eq_false_iff_ne, ne_eq, decide_eq_true_eq, decide_eq_false_iff_not, Int.not_le, Int.not_lt] at hc1
   refine ⟨by omega, ?_⟩
   rfl
 · simp only [beq_iff_eq, beq_eq_false_iff_ne, ne_eq, decide_eq_true_eq, decide_eq_false_iff_not, Int.not_le, Int.not_lt] at hc1
   refine ⟨fun hc2 => ?_, fun hc2 => ?_⟩
   · simp only [beq_iff_eq, beq_eq_false_iff_ne, ne_eq, decide_eq_true_eq, decide_eq_false_iff_not, Int.not_le, Int.not_lt] at hc2
     refine ⟨by omega, ?_⟩
     rfl
   · simp only [beq_iff_eq, beq_eq_false_iff_ne, ne_eq, decide_eq_true_eq, decide_eq_false_iff_not, Int.not_le, Int.not_lt] at hc2
     refine ⟨fun hc3 => ?_, fun hc3 => ?_⟩
     · simp only [beq_iff_eq, beq_eq_false_iff_ne, ne_eq, decide_eq_true_eq, decide_eq_false_iff_not, Int.not_le, Int.not_lt] at hc3
       refine ⟨by omega, ?_⟩
       rfl
     · simp only [beq_iff_eq, beq_eq_false_iff_ne, ne_eq, decide_eq_true_eq, decide_eq_false_iff_not, Int.not_le, Int.not_lt] at hc3
       refine ⟨fun hc4 => ?_, fun hc4 => ?_⟩
       · simp only [beq_iff_eq, beq_eq_false_iff_ne, ne_eq, decide_eq_true_eq, decide_eq_false_iff_not, Int.not_le, Int.not_lt] at hc4
         refine ⟨by omega, ?_⟩
         rfl
       · simp only [beq_iff_eq, beq_eq_false_iff_ne, ne_eq, decide_eq_true_eq, decide_eq_false_iff_not, Int.not_le, Int.not_lt] at hc4
         refine ⟨fun hc5 => ?_, fun hc5 => ?_⟩
         · simp only [beq_iff_eq, beq_eq_false_iff_ne, ne_eq, decide_eq_true_eq, decide_eq_false_iff_not, Int.not_le, Int.not_lt] at hc5
           refine ⟨fun hc6 => ?_, fun hc6 => ?_⟩
           · simp only [beq_iff_eq, beq_eq_false_iff_ne, ne_eq, decide_eq_true_eq, decide_eq_false_iff_not, Int.not_le, Int.not_lt] at hc6
             refine ⟨by omega, ?_⟩
             rfl
           · simp only [beq_iff_eq, beq_eq_false_iff_ne, ne_eq, decide_eq_true_eq, decide_eq_false_iff_not, Int.not_le, Int.not_lt] at hc6
             refine ⟨fun hc7 => ?_, fun hc7 => ?_⟩
             · simp only [beq_iff_eq, beq_eq_false_iff_ne, ne_eq, decide_eq_true_eq, decide_eq_false_iff_not, Int.not_le, Int.not_lt] at hc7
               refine ⟨by omega, ?_⟩
               rfl
             · simp only [beq_iff_eq, beq_eq_false_iff_ne, ne_eq, decide_eq_true_eq, decide_eq_false_iff_not, Int.not_le, Int.not_lt] at hc7
               refine ⟨by omega, ?_⟩
               rfl
         · simp only [beq_iff_eq, beq_eq_false_iff_ne, ne_eq, decide_eq_true_eq, decide_eq_false_iff_not, Int.not_le, Int.not_lt] at hc5
           refine ⟨fun hc6 => ?_, fun hc6 => ?_⟩
           · simp only [beq_iff_eq, beq_eq_false_iff_ne, ne_eq, decide_eq_true_eq, decide_eq_false_iff_not, Int.not_le, Int.not_lt] at hc6
             refine ⟨by omega, ?_⟩
             rfl
           · simp only [beq_iff_eq, beq_eq_false_iff_ne, ne_eq, decide_eq_true_eq, decide_eq_false_iff_not, Int.not_le, Int.not_lt] at hc6
             refine ⟨fun hc7 => ?_, fun hc7 => ?_⟩
             · simp only [beq_iff_eq, beq_eq_false_iff_ne, ne_eq, decide_eq_true_eq, decide_eq_false_iff_not, Int.not_le, Int.not_lt] at hc7
               refine ⟨by omega, ?_⟩
               rfl
             · simp only [beq_iff_eq, beq_eq_false_iff_ne, ne_eq, decide_eq_true_eq, decide_eq_false_iff_not, Int.not_le, Int.not_lt] at hc7
               refine ⟨fun hc8 => ?_, fun hc8 => ?_⟩
               · simp only [beq_iff_eq, beq_eq_false_iff_ne, ne_eq, decide_eq_true_eq, decide_eq_false_iff_not, Int.not_le, Int.not_lt] at hc8
                 refine ⟨by omega, ?_⟩
                 rfl
               · simp only [beq_iff_eq, beq_eq_false_iff_ne, ne_eq, decide_eq_true_eq, decide_eq_false_iff_not, Int.not_le, Int.not_lt] at hc8
                 refine ⟨fun hc9 => ?_, fun hc9 => ?_⟩
                 · simp only [beq_iff_eq, beq_eq_false_iff_ne, ne_eq, decide_eq_true_eq, decide_eq_false_iff_not, Int.not_le, Int.not_lt] at hc9
                   refine ⟨by omega, ?_⟩
                   rfl
                 · simp only [beq_iff_eq, beq_eq_false_iff_ne, ne_eq, decide_eq_true_eq, decide_eq_false_iff_not, Int.not_le, Int.not_lt] at hc9
                   refine ⟨fun hc10 => ?_, fun hc10 => ?_⟩
                   · simp only [beq_iff_eq, beq_eq_false_iff_ne, ne_eq, decide_eq_true_eq, decide_eq_false_iff_not, Int.not_le, Int.not_lt] at hc10
                     refine ⟨by omega, ?_⟩
                     rfl
                   · simp only [beq_iff_eq, beq_eq_false_iff_ne, ne_eq, decide_eq_true_eq, decide_eq_false_iff_not, Int.not_le, Int.not_lt] at hc10
                     refine ⟨fun hc11 => ?_, fun hc11 => ?_⟩
                     · simp only [beq_iff_eq, beq_eq_false_iff_ne, ne_eq, decide_eq_true_eq, decide_eq_false_iff_not, Int.not_le, Int.not_lt] at hc11
                       refine ⟨by omega, ?_⟩
                       rfl
                     · simp only [beq_iff_eq, beq_eq_false_iff_ne, ne_eq, decide_eq_true_eq, decide_eq_false_iff_not, Int.not_le, Int.not_lt] at hc11
                       refine ⟨fun hc12 => ?_, fun hc12 => ?_⟩
                       · simp only [beq_iff_eq, beq_eq_false_iff_ne, ne_eq, decide_eq_true_eq, decide_eq_false_iff_not, Int.not_le, Int.not_lt] at hc12
                         refine ⟨by omega, ?_⟩
                         rfl
                       · simp only [beq_iff_eq, beq_eq_false_iff_ne, ne_eq, decide_eq_true_eq, decide_eq_false_iff_not, Int.not_le, Int.not_lt] at hc12
                         refine ⟨fun hc13 => ?_, fun hc13 => ?_⟩
                         · simp only [beq_iff_eq, beq_eq_false_iff_ne, ne_eq, decide_eq_true_eq, decide_eq_false_iff_not, Int.not_le, Int.not_lt] at hc13
                           refine ⟨by omega, ?_⟩
                           rfl
                         · simp only [beq_iff_eq, beq_eq_false_iff_ne, ne_eq, decide_eq_true_eq, decide_eq_false_iff_not, Int.not_le, Int.not_lt] at hc13
                           refine ⟨fun hc14 => ?_, fun hc14 => ?_⟩
                           · simp only [beq_iff_eq, beq_eq_false_iff_ne, ne_eq, decide_eq_true_eq, decide_eq_false_iff_not, Int.not_le, Int.not_lt] at hc14
                             refine ⟨by omega, ?_⟩
                             rfl
                           · simp only [beq_iff_eq, beq_eq_false_iff_ne, ne_eq, decide_eq_true_eq, decide_eq_false_iff_not, Int.not_le, Int.not_lt] at hc14
                             refine ⟨fun hc15 => ?_, fun hc15 => ?_⟩
                             · simp only [beq_iff_eq, beq_eq_false_iff_ne, ne_eq, decide_eq_true_eq, decide_eq_false_iff_not, Int.not_le, Int.not_lt] at hc15
                               refine ⟨by omega, ?_⟩
                               rfl
                             · simp only [beq_iff_eq, beq_eq_false_iff_ne, ne_eq, decide_eq_true_eq, decide_eq_false_iff_not, Int.not_le, Int.not_lt] at hc15
                               refine ⟨fun hc16 => ?_, fun hc16 => ?_⟩
                               · simp only [beq_iff_eq, beq_eq_false_iff_ne, ne_eq, decide_eq_true_eq, decide_eq_false_iff_not, Int.not_le, Int.not_lt] at hc16
                                 refine ⟨by omega, ?_⟩
                                 rfl
                               · simp only [beq_iff_eq, beq_eq_false_iff_ne, ne_eq, decide_eq_true_eq, decide_eq_false_iff_not, Int.not_le, Int.not_lt] at hc16
                                 refine ⟨fun hc17 => ?_, fun hc17 => ?_⟩
                                 · simp only [beq_iff_eq, beq_eq_false_iff_ne, ne_eq, decide_eq_true_eq, decide_eq_false_iff_not, Int.not_le, Int.not_lt] at hc17
                                   refine ⟨by omega, ?_⟩
                                   rfl
                                 · simp only [beq_iff_eq, beq_eq_false_iff_ne, ne_eq, decide_eq_true_eq, decide_eq_false_iff_not, Int.not_le, Int.not_lt] at hc17
                                   refine ⟨fun hc18 => ?_, fun hc18 => ?_⟩
                                   · simp only [beq_iff_eq, beq_eq_false_iff_ne, ne_eq, decide_eq_true_eq, decide_eq_false_iff_not, Int.not_le, Int.not_lt] at hc18
                                     refine ⟨by omega, ?_⟩
                                     rfl
                                   · simp only [beq_iff_eq, beq_eq_false_iff_ne, ne_eq, decide_eq_true_eq, decide_eq_false_iff_not, Int.not_le, Int.not_lt] at hc18
                                     refine ⟨fun hc19 => ?_, fun hc19 => ?_⟩
                                     · simp only [beq_iff_eq, beq_eq_false_iff_ne, ne_eq, decide_eq_true_eq, decide_eq_false_iff_not, Int.not_le, Int.not_lt] at hc19
                                       refine ⟨by omega, ?_⟩
                                       rfl
                                     · simp only [beq_iff_eq, beq_eq_false_iff_ne, ne_eq, decide_eq_true_eq, decide_eq_false_iff_not, Int.not_le, Int.not_lt] at hc19
                                       refine ⟨by omega, ?_⟩
                                       refine ⟨by omega, ?_⟩
                                       refine ⟨by omega, ?_⟩
                                       refine jd rfl _ ?_
                                       rfl
theorem st (j : Nat) (h : ∀ k x c, Q k x c = (aU [] [] (0 < k /\ 18 <= x) [e (j + 1) (k - 1) (x - 18) c] (e j k x c) 39).holds fun y => y.1 = .kb true) (k x c : Int) (h0 : 0 <= k) (h1 : k <= 49) (hx : 0 <= x) (hy : x <= 600) (hc : (18 * k + 6 <= x /\ c = 14) ∨ (x < 18 * k + 6 /\ c = 11))
  (hok : (e j k x c).ok = true) (hm : Nat.ble (e j k x c).m 16000000 = true) (ih : 0 < k /\ 18 <= x -> LT (e (j + 1) (k - 1) (x - 18) c)) : LT (e j k x c) :=
 TP (tl := []) (es := [e (j + 1) (k - 1) (x - 18) c]) (p := 0 < k /\ 18 <= x) [] aJ (fun hp => Oi (ih hp)) (LG rfl) hok (by kernel_rfl) hm 39 (X0 k x c h0 h1 hx hy hc) (h k x c)
theorem r0 : ∀ k x c, Q k x c = (aU [] [] (0 < k /\ 18 <= x) [e 1 (k - 1) (x - 18) c] (e 0 k x c) 39).holds fun y => y.1 = .kb true := fun k x c => by kernel_rfl
theorem r1 : ∀ k x c, Q k x c = (aU [] [] (0 < k /\ 18 <= x) [e 2 (k - 1) (x - 18) c] (e 1 k x c) 39).holds fun y => y.1 = .kb true := fun k x c => by kernel_rfl
theorem r2 : ∀ k x c, Q k x c = (aU [] [] (0 < k /\ 18 <= x) [e 3 (k - 1) (x - 18) c] (e 2 k x c) 39).holds fun y => y.1 = .kb true := fun k x c => by kernel_rfl
theorem r3 : ∀ k x c, Q k x c = (aU [] [] (0 < k /\ 18 <= x) [e 4 (k - 1) (x - 18) c] (e 3 k x c) 39).holds fun y => y.1 = .kb true := fun k x c => by kernel_rfl
theorem r4 : ∀ k x c, Q k x c = (aU [] [] (0 < k /\ 18 <= x) [e 5 (k - 1) (x - 18) c] (e 4 k x c) 39).holds fun y => y.1 = .kb true := fun k x c => by kernel_rfl
theorem r5 : ∀ k x c, Q k x c = (aU [] [] (0 < k /\ 18 <= x) [e 6 (k - 1) (x - 18) c] (e 5 k x c) 39).holds fun y => y.1 = .kb true := fun k x c => by kernel_rfl
theorem r6 : ∀ k x c, Q k x c = (aU [] [] (0 < k /\ 18 <= x) [e 7 (k - 1) (x - 18) c] (e 6 k x c) 39).holds fun y => y.1 = .kb true := fun k x c => by kernel_rfl
theorem r7 : ∀ k x c, Q k x c = (aU [] [] (0 < k /\ 18 <= x) [e 8 (k - 1) (x - 18) c] (e 7 k x c) 39).holds fun y => y.1 = .kb true := fun k x c => by kernel_rfl
theorem r8 : ∀ k x c, Q k x c = (aU [] [] (0 < k /\ 18 <= x) [e 9 (k - 1) (x - 18) c] (e 8 k x c) 39).holds fun y => y.1 = .kb true := fun k x c => by kernel_rfl
theorem r9 : ∀ k x c, Q k x c = (aU [] [] (0 < k /\ 18 <= x) [e 10 (k - 1) (x - 18) c] (e 9 k x c) 39).holds fun y => y.1 = .kb true := fun k x c => by kernel_rfl
theorem r10 : ∀ k x c, Q k x c = (aU [] [] (0 < k /\ 18 <= x) [e 11 (k - 1) (x - 18) c] (e 10 k x c) 39).holds fun y => y.1 = .kb true := fun k x c => by kernel_rfl
theorem r11 : ∀ k x c, Q k x c = (aU [] [] (0 < k /\ 18 <= x) [e 12 (k - 1) (x - 18) c] (e 11 k x c) 39).holds fun y => y.1 = .kb true := fun k x c => by kernel_rfl
theorem r12 : ∀ k x c, Q k x c = (aU [] [] (0 < k /\ 18 <= x) [e 13 (k - 1) (x - 18) c] (e 12 k x c) 39).holds fun y => y.1 = .kb true := fun k x c => by kernel_rfl
theorem r13 : ∀ k x c, Q k x c = (aU [] [] (0 < k /\ 18 <= x) [e 14 (k - 1) (x - 18) c] (e 13 k x c) 39).holds fun y => y.1 = .kb true := fun k x c => by kernel_rfl
theorem r14 : ∀ k x c, Q k x c = (aU [] [] (0 < k /\ 18 <= x) [e 15 (k - 1) (x - 18) c] (e 14 k x c) 39).holds fun y => y.1 = .kb true := fun k x c => by kernel_rfl
theorem r15 : ∀ k x c, Q k x c = (aU [] [] (0 < k /\ 18 <= x) [e 16 (k - 1) (x - 18) c] (e 15 k x c) 39).holds fun y => y.1 = .kb true := fun k x c => by kernel_rfl
theorem r16 : ∀ k x c, Q k x c = (aU [] [] (0 < k /\ 18 <= x) [e 17 (k - 1) (x - 18) c] (e 16 k x c) 39).holds fun y => y.1 = .kb true := fun k x c => by kernel_rfl
theorem r17 : ∀ k x c, Q k x c = (aU [] [] (0 < k /\ 18 <= x) [e 18 (k - 1) (x - 18) c] (e 17 k x c) 39).holds fun y => y.1 = .kb true := fun k x c => by kernel_rfl
theorem r18 : ∀ k x c, Q k x c = (aU [] [] (0 < k /\ 18 <= x) [e 19 (k - 1) (x - 18) c] (e 18 k x c) 39).holds fun y => y.1 = .kb true := fun k x c => by kernel_rfl
theorem r19 : ∀ k x c, Q k x c = (aU [] [] (0 < k /\ 18 <= x) [e 20 (k - 1) (x - 18) c] (e 19 k x c) 39).holds fun y => y.1 = .kb true := fun k x c => by kernel_rfl
theorem r20 : ∀ k x c, Q k x c = (aU [] [] (0 < k /\ 18 <= x) [e 21 (k - 1) (x - 18) c] (e 20 k x c) 39).holds fun y => y.1 = .kb true := fun k x c => by kernel_rfl
theorem r21 : ∀ k x c, Q k x c = (aU [] [] (0 < k /\ 18 <= x) [e 22 (k - 1) (x - 18) c] (e 21 k x c) 39).holds fun y => y.1 = .kb true := fun k x c => by kernel_rfl
theorem r22 : ∀ k x c, Q k x c = (aU [] [] (0 < k /\ 18 <= x) [e 23 (k - 1) (x - 18) c] (e 22 k x c) 39).holds fun y => y.1 = .kb true := fun k x c => by kernel_rfl
theorem r23 : ∀ k x c, Q k x c = (aU [] [] (0 < k /\ 18 <= x) [e 24 (k - 1) (x - 18) c] (e 23 k x c) 39).holds fun y => y.1 = .kb true := fun k x c => by kernel_rfl
theorem r24 : ∀ k x c, Q k x c = (aU [] [] (0 < k /\ 18 <= x) [e 25 (k - 1) (x - 18) c] (e 24 k x c) 39).holds fun y => y.1 = .kb true := fun k x c => by kernel_rfl
theorem r25 : ∀ k x c, Q k x c = (aU [] [] (0 < k /\ 18 <= x) [e 26 (k - 1) (x - 18) c] (e 25 k x c) 39).holds fun y => y.1 = .kb true := fun k x c => by kernel_rfl
theorem r26 : ∀ k x c, Q k x c = (aU [] [] (0 < k /\ 18 <= x) [e 27 (k - 1) (x - 18) c] (e 26 k x c) 39).holds fun y => y.1 = .kb true := fun k x c => by kernel_rfl
theorem r27 : ∀ k x c, Q k x c = (aU [] [] (0 < k /\ 18 <= x) [e 28 (k - 1) (x - 18) c] (e 27 k x c) 39).holds fun y => y.1 = .kb true := fun k x c => by kernel_rfl
theorem r28 : ∀ k x c, Q k x c = (aU [] [] (0 < k /\ 18 <= x) [e 29 (k - 1) (x - 18) c] (e 28 k x c) 39).holds fun y => y.1 = .kb true := fun k x c => by kernel_rfl
theorem r29 : ∀ k x c, Q k x c = (aU [] [] (0 < k /\ 18 <= x) [e 30 (k - 1) (x - 18) c] (e 29 k x c) 39).holds fun y => y.1 = .kb true := fun k x c => by kernel_rfl
theorem r30 : ∀ k x c, Q k x c = (aU [] [] (0 < k /\ 18 <= x) [e 31 (k - 1) (x - 18) c] (e 30 k x c) 39).holds fun y => y.1 = .kb true := fun k x c => by kernel_rfl
theorem r31 : ∀ k x c, Q k x c = (aU [] [] (0 < k /\ 18 <= x) [e 32 (k - 1) (x - 18) c] (e 31 k x c) 39).holds fun y => y.1 = .kb true := fun k x c => by kernel_rfl
theorem r32 : ∀ k x c, Q k x c = (aU [] [] (0 < k /\ 18 <= x) [e 33 (k - 1) (x - 18) c] (e 32 k x c) 39).holds fun y => y.1 = .kb true := fun k x c => by kernel_rfl
theorem r33 : ∀ k x c, Q k x c = (aU [] [] (0 < k /\ 18 <= x) [e 34 (k - 1) (x - 18) c] (e 33 k x c) 39).holds fun y => y.1 = .kb true := fun k x c => by kernel_rfl
theorem r34 : ∀ k x c, Q k x c = (aU [] [] (0 < k /\ 18 <= x) [e 35 (k - 1) (x - 18) c] (e 34 k x c) 39).holds fun y => y.1 = .kb true := fun k x c => by kernel_rfl
theorem r35 : ∀ k x c, Q k x c = (aU [] [] (0 < k /\ 18 <= x) [e 36 (k - 1) (x - 18) c] (e 35 k x c) 39).holds fun y => y.1 = .kb true := fun k x c => by kernel_rfl
theorem r36 : ∀ k x c, Q k x c = (aU [] [] (0 < k /\ 18 <= x) [e 37 (k - 1) (x - 18) c] (e 36 k x c) 39).holds fun y => y.1 = .kb true := fun k x c => by kernel_rfl
theorem r37 : ∀ k x c, Q k x c = (aU [] [] (0 < k /\ 18 <= x) [e 38 (k - 1) (x - 18) c] (e 37 k x c) 39).holds fun y => y.1 = .kb true := fun k x c => by kernel_rfl
theorem r38 : ∀ k x c, Q k x c = (aU [] [] (0 < k /\ 18 <= x) [e 39 (k - 1) (x - 18) c] (e 38 k x c) 39).holds fun y => y.1 = .kb true := fun k x c => by kernel_rfl
theorem r39 : ∀ k x c, Q k x c = (aU [] [] (0 < k /\ 18 <= x) [e 40 (k - 1) (x - 18) c] (e 39 k x c) 39).holds fun y => y.1 = .kb true := fun k x c => by kernel_rfl
theorem r40 : ∀ k x c, Q k x c = (aU [] [] (0 < k /\ 18 <= x) [e 41 (k - 1) (x - 18) c] (e 40 k x c) 39).holds fun y => y.1 = .kb true := fun k x c => by kernel_rfl
theorem r41 : ∀ k x c, Q k x c = (aU [] [] (0 < k /\ 18 <= x) [e 42 (k - 1) (x - 18) c] (e 41 k x c) 39).holds fun y => y.1 = .kb true := fun k x c => by kernel_rfl
theorem r42 : ∀ k x c, Q k x c = (aU [] [] (0 < k /\ 18 <= x) [e 43 (k - 1) (x - 18) c] (e 42 k x c) 39).holds fun y => y.1 = .kb true := fun k x c => by kernel_rfl
theorem r43 : ∀ k x c, Q k x c = (aU [] [] (0 < k /\ 18 <= x) [e 44 (k - 1) (x - 18) c] (e 43 k x c) 39).holds fun y => y.1 = .kb true := fun k x c => by kernel_rfl
theorem r44 : ∀ k x c, Q k x c = (aU [] [] (0 < k /\ 18 <= x) [e 45 (k - 1) (x - 18) c] (e 44 k x c) 39).holds fun y => y.1 = .kb true := fun k x c => by kernel_rfl
theorem r45 : ∀ k x c, Q k x c = (aU [] [] (0 < k /\ 18 <= x) [e 46 (k - 1) (x - 18) c] (e 45 k x c) 39).holds fun y => y.1 = .kb true := fun k x c => by kernel_rfl
theorem r46 : ∀ k x c, Q k x c = (aU [] [] (0 < k /\ 18 <= x) [e 47 (k - 1) (x - 18) c] (e 46 k x c) 39).holds fun y => y.1 = .kb true := fun k x c => by kernel_rfl
theorem r47 : ∀ k x c, Q k x c = (aU [] [] (0 < k /\ 18 <= x) [e 48 (k - 1) (x - 18) c] (e 47 k x c) 39).holds fun y => y.1 = .kb true := fun k x c => by kernel_rfl
theorem r48 : ∀ k x c, Q k x c = (aU [] [] (0 < k /\ 18 <= x) [e 49 (k - 1) (x - 18) c] (e 48 k x c) 39).holds fun y => y.1 = .kb true := fun k x c => by kernel_rfl
theorem r49 : ∀ k x c, Q k x c = (aU [] [] (0 < k /\ 18 <= x) [e 50 (k - 1) (x - 18) c] (e 49 k x c) 39).holds fun y => y.1 = .kb true := fun k x c => by kernel_rfl
theorem t49 (k x c : Int) (h0 : 0 <= k) (h1 : k <= 0) (hx : 0 <= x) (hy : x <= 600) (hc : (18 * k + 6 <= x /\ c = 14) ∨ (x < 18 * k + 6 /\ c = 11)) : LT (e 49 k x c) := st 49 r49 k x c h0 (by omega) hx hy hc (by kernel_rfl) (by kernel_rfl) (fun hp => absurd hp (by omega))
theorem t48 (k x c : Int) (h0 : 0 <= k) (h1 : k <= 1) (hx : 0 <= x) (hy : x <= 600) (hc : (18 * k + 6 <= x /\ c = 14) ∨ (x < 18 * k + 6 /\ c = 11)) : LT (e 48 k x c) := st 48 r48 k x c h0 (by omega) hx hy hc (by kernel_rfl) (by kernel_rfl) (fun hp => t49 (k - 1) (x - 18) c (by omega) (by omega) (by omega) (by omega) (by omega))
theorem t47 (k x c : Int) (h0 : 0 <= k) (h1 : k <= 2) (hx : 0 <= x) (hy : x <= 600) (hc : (18 * k + 6 <= x /\ c = 14) ∨ (x < 18 * k + 6 /\ c = 11)) : LT (e 47 k x c) := st 47 r47 k x c h0 (by omega) hx hy hc (by kernel_rfl) (by kernel_rfl) (fun hp => t48 (k - 1) (x - 18) c (by omega) (by omega) (by omega) (by omega) (by omega))
theorem t46 (k x c : Int) (h0 : 0 <= k) (h1 : k <= 3) (hx : 0 <= x) (hy : x <= 600) (hc : (18 * k + 6 <= x /\ c = 14) ∨ (x < 18 * k + 6 /\ c = 11)) : LT (e 46 k x c) := st 46 r46 k x c h0 (by omega) hx hy hc (by kernel_rfl) (by kernel_rfl) (fun hp => t47 (k - 1) (x - 18) c (by omega) (by omega) (by omega) (by omega) (by omega))
theorem t45 (k x c : Int) (h0 : 0 <= k) (h1 : k <= 4) (hx : 0 <= x) (hy : x <= 600) (hc : (18 * k + 6 <= x /\ c = 14) ∨ (x < 18 * k + 6 /\ c = 11)) : LT (e 45 k x c) := st 45 r45 k x c h0 (by omega) hx hy hc (by kernel_rfl) (by kernel_rfl) (fun hp => t46 (k - 1) (x - 18) c (by omega) (by omega) (by omega) (by omega) (by omega))
theorem t44 (k x c : Int) (h0 : 0 <= k) (h1 : k <= 5) (hx : 0 <= x) (hy : x <= 600) (hc : (18 * k + 6 <= x /\ c = 14) ∨ (x < 18 * k + 6 /\ c = 11)) : LT (e 44 k x c) := st 44 r44 k x c h0 (by omega) hx hy hc (by kernel_rfl) (by kernel_rfl) (fun hp => t45 (k - 1) (x - 18) c (by omega) (by omega) (by omega) (by omega) (by omega))
theorem t43 (k x c : Int) (h0 : 0 <= k) (h1 : k <= 6) (hx : 0 <= x) (hy : x <= 600) (hc : (18 * k + 6 <= x /\ c = 14) ∨ (x < 18 * k + 6 /\ c = 11)) : LT (e 43 k x c) := st 43 r43 k x c h0 (by omega) hx hy hc (by kernel_rfl) (by kernel_rfl) (fun hp => t44 (k - 1) (x - 18) c (by omega) (by omega) (by omega) (by omega) (by omega))
theorem t42 (k x c : Int) (h0 : 0 <= k) (h1 : k <= 7) (hx : 0 <= x) (hy : x <= 600) (hc : (18 * k + 6 <= x /\ c = 14) ∨ (x < 18 * k + 6 /\ c = 11)) : LT (e 42 k x c) := st 42 r42 k x c h0 (by omega) hx hy hc (by kernel_rfl) (by kernel_rfl) (fun hp => t43 (k - 1) (x - 18) c (by omega) (by omega) (by omega) (by omega) (by omega))
theorem t41 (k x c : Int) (h0 : 0 <= k) (h1 : k <= 8) (hx : 0 <= x) (hy : x <= 600) (hc : (18 * k + 6 <= x /\ c = 14) ∨ (x < 18 * k + 6 /\ c = 11)) : LT (e 41 k x c) := st 41 r41 k x c h0 (by omega) hx hy hc (by kernel_rfl) (by kernel_rfl) (fun hp => t42 (k - 1) (x - 18) c (by omega) (by omega) (by omega) (by omega) (by omega))
theorem t40 (k x c : Int) (h0 : 0 <= k) (h1 : k <= 9) (hx : 0 <= x) (hy : x <= 600) (hc : (18 * k + 6 <= x /\ c = 14) ∨ (x < 18 * k + 6 /\ c = 11)) : LT (e 40 k x c) := st 40 r40 k x c h0 (by omega) hx hy hc (by kernel_rfl) (by kernel_rfl) (fun hp => t41 (k - 1) (x - 18) c (by omega) (by omega) (by omega) (by omega) (by omega))
theorem t39 (k x c : Int) (h0 : 0 <= k) (h1 : k <= 10) (hx : 0 <= x) (hy : x <= 600) (hc : (18 * k + 6 <= x /\ c = 14) ∨ (x < 18 * k + 6 /\ c = 11)) : LT (e 39 k x c) := st 39 r39 k x c h0 (by omega) hx hy hc (by kernel_rfl) (by kernel_rfl) (fun hp => t40 (k - 1) (x - 18) c (by omega) (by omega) (by omega) (by omega) (by omega))
theorem t38 (k x c : Int) (h0 : 0 <= k) (h1 : k <= 11) (hx : 0 <= x) (hy : x <= 600) (hc : (18 * k + 6 <= x /\ c = 14) ∨ (x < 18 * k + 6 /\ c = 11)) : LT (e 38 k x c) := st 38 r38 k x c h0 (by omega) hx hy hc (by kernel_rfl) (by kernel_rfl) (fun hp => t39 (k - 1) (x - 18) c (by omega) (by omega) (by omega) (by omega) (by omega))
theorem t37 (k x c : Int) (h0 : 0 <= k) (h1 : k <= 12) (hx : 0 <= x) (hy : x <= 600) (hc : (18 * k + 6 <= x /\ c = 14) ∨ (x < 18 * k + 6 /\ c = 11)) : LT (e 37 k x c) := st 37 r37 k x c h0 (by omega) hx hy hc (by kernel_rfl) (by kernel_rfl) (fun hp => t38 (k - 1) (x - 18) c (by omega) (by omega) (by omega) (by omega) (by omega))
theorem t36 (k x c : Int) (h0 : 0 <= k) (h1 : k <= 13) (hx : 0 <= x) (hy : x <= 600) (hc : (18 * k + 6 <= x /\ c = 14) ∨ (x < 18 * k + 6 /\ c = 11)) : LT (e 36 k x c) := st 36 r36 k x c h0 (by omega) hx hy hc (by kernel_rfl) (by kernel_rfl) (fun hp => t37 (k - 1) (x - 18) c (by omega) (by omega) (by omega) (by omega) (by omega))
theorem t35 (k x c : Int) (h0 : 0 <= k) (h1 : k <= 14) (hx : 0 <= x) (hy : x <= 600) (hc : (18 * k + 6 <= x /\ c = 14) ∨ (x < 18 * k + 6 /\ c = 11)) : LT (e 35 k x c) := st 35 r35 k x c h0 (by omega) hx hy hc (by kernel_rfl) (by kernel_rfl) (fun hp => t36 (k - 1) (x - 18) c (by omega) (by omega) (by omega) (by omega) (by omega))
theorem t34 (k x c : Int) (h0 : 0 <= k) (h1 : k <= 15) (hx : 0 <= x) (hy : x <= 600) (hc : (18 * k + 6 <= x /\ c = 14) ∨ (x < 18 * k + 6 /\ c = 11)) : LT (e 34 k x c) := st 34 r34 k x c h0 (by omega) hx hy hc (by kernel_rfl) (by kernel_rfl) (fun hp => t35 (k - 1) (x - 18) c (by omega) (by omega) (by omega) (by omega) (by omega))
theorem t33 (k x c : Int) (h0 : 0 <= k) (h1 : k <= 16) (hx : 0 <= x) (hy : x <= 600) (hc : (18 * k + 6 <= x /\ c = 14) ∨ (x < 18 * k + 6 /\ c = 11)) : LT (e 33 k x c) := st 33 r33 k x c h0 (by omega) hx hy hc (by kernel_rfl) (by kernel_rfl) (fun hp => t34 (k - 1) (x - 18) c (by omega) (by omega) (by omega) (by omega) (by omega))
theorem t32 (k x c : Int) (h0 : 0 <= k) (h1 : k <= 17) (hx : 0 <= x) (hy : x <= 600) (hc : (18 * k + 6 <= x /\ c = 14) ∨ (x < 18 * k + 6 /\ c = 11)) : LT (e 32 k x c) := st 32 r32 k x c h0 (by omega) hx hy hc (by kernel_rfl) (by kernel_rfl) (fun hp => t33 (k - 1) (x - 18) c (by omega) (by omega) (by omega) (by omega) (by omega))
theorem t31 (k x c : Int) (h0 : 0 <= k) (h1 : k <= 18) (hx : 0 <= x) (hy : x <= 600) (hc : (18 * k + 6 <= x /\ c = 14) ∨ (x < 18 * k + 6 /\ c = 11)) : LT (e 31 k x c) := st 31 r31 k x c h0 (by omega) hx hy hc (by kernel_rfl) (by kernel_rfl) (fun hp => t32 (k - 1) (x - 18) c (by omega) (by omega) (by omega) (by omega) (by omega))
theorem t30 (k x c : Int) (h0 : 0 <= k) (h1 : k <= 19) (hx : 0 <= x) (hy : x <= 600) (hc : (18 * k + 6 <= x /\ c = 14) ∨ (x < 18 * k + 6 /\ c = 11)) : LT (e 30 k x c) := st 30 r30 k x c h0 (by omega) hx hy hc (by kernel_rfl) (by kernel_rfl) (fun hp => t31 (k - 1) (x - 18) c (by omega) (by omega) (by omega) (by omega) (by omega))
theorem t29 (k x c : Int) (h0 : 0 <= k) (h1 : k <= 20) (hx : 0 <= x) (hy : x <= 600) (hc : (18 * k + 6 <= x /\ c = 14) ∨ (x < 18 * k + 6 /\ c = 11)) : LT (e 29 k x c) := st 29 r29 k x c h0 (by omega) hx hy hc (by kernel_rfl) (by kernel_rfl) (fun hp => t30 (k - 1) (x - 18) c (by omega) (by omega) (by omega) (by omega) (by omega))
theorem t28 (k x c : Int) (h0 : 0 <= k) (h1 : k <= 21) (hx : 0 <= x) (hy : x <= 600) (hc : (18 * k + 6 <= x /\ c = 14) ∨ (x < 18 * k + 6 /\ c = 11)) : LT (e 28 k x c) := st 28 r28 k x c h0 (by omega) hx hy hc (by kernel_rfl) (by kernel_rfl) (fun hp => t29 (k - 1) (x - 18) c (by omega) (by omega) (by omega) (by omega) (by omega))
theorem t27 (k x c : Int) (h0 : 0 <= k) (h1 : k <= 22) (hx : 0 <= x) (hy : x <= 600) (hc : (18 * k + 6 <= x /\ c = 14) ∨ (x < 18 * k + 6 /\ c = 11)) : LT (e 27 k x c) := st 27 r27 k x c h0 (by omega) hx hy hc (by kernel_rfl) (by kernel_rfl) (fun hp => t28 (k - 1) (x - 18) c (by omega) (by omega) (by omega) (by omega) (by omega))
theorem t26 (k x c : Int) (h0 : 0 <= k) (h1 : k <= 23) (hx : 0 <= x) (hy : x <= 600) (hc : (18 * k + 6 <= x /\ c = 14) ∨ (x < 18 * k + 6 /\ c = 11)) : LT (e 26 k x c) := st 26 r26 k x c h0 (by omega) hx hy hc (by kernel_rfl) (by kernel_rfl) (fun hp => t27 (k - 1) (x - 18) c (by omega) (by omega) (by omega) (by omega) (by omega))
theorem t25 (k x c : Int) (h0 : 0 <= k) (h1 : k <= 24) (hx : 0 <= x) (hy : x <= 600) (hc : (18 * k + 6 <= x /\ c = 14) ∨ (x < 18 * k + 6 /\ c = 11)) : LT (e 25 k x c) := st 25 r25 k x c h0 (by omega) hx hy hc (by kernel_rfl) (by kernel_rfl) (fun hp => t26 (k - 1) (x - 18) c (by omega) (by omega) (by omega) (by omega) (by omega))
theorem t24 (k x c : Int) (h0 : 0 <= k) (h1 : k <= 25) (hx : 0 <= x) (hy : x <= 600) (hc : (18 * k + 6 <= x /\ c = 14) ∨ (x < 18 * k + 6 /\ c = 11)) : LT (e 24 k x c) := st 24 r24 k x c h0 (by omega) hx hy hc (by kernel_rfl) (by kernel_rfl) (fun hp => t25 (k - 1) (x - 18) c (by omega) (by omega) (by omega) (by omega) (by omega))
theorem t23 (k x c : Int) (h0 : 0 <= k) (h1 : k <= 26) (hx : 0 <= x) (hy : x <= 600) (hc : (18 * k + 6 <= x /\ c = 14) ∨ (x < 18 * k + 6 /\ c = 11)) : LT (e 23 k x c) := st 23 r23 k x c h0 (by omega) hx hy hc (by kernel_rfl) (by kernel_rfl) (fun hp => t24 (k - 1) (x - 18) c (by omega) (by omega) (by omega) (by omega) (by omega))
theorem t22 (k x c : Int) (h0 : 0 <= k) (h1 : k <= 27) (hx : 0 <= x) (hy : x <= 600) (hc : (18 * k + 6 <= x /\ c = 14) ∨ (x < 18 * k + 6 /\ c = 11)) : LT (e 22 k x c) := st 22 r22 k x c h0 (by omega) hx hy hc (by kernel_rfl) (by kernel_rfl) (fun hp => t23 (k - 1) (x - 18) c (by omega) (by omega) (by omega) (by omega) (by omega))
theorem t21 (k x c : Int) (h0 : 0 <= k) (h1 : k <= 28) (hx : 0 <= x) (hy : x <= 600) (hc : (18 * k + 6 <= x /\ c = 14) ∨ (x < 18 * k + 6 /\ c = 11)) : LT (e 21 k x c) := st 21 r21 k x c h0 (by omega) hx hy hc (by kernel_rfl) (by kernel_rfl) (fun hp => t22 (k - 1) (x - 18) c (by omega) (by omega) (by omega) (by omega) (by omega))
theorem t20 (k x c : Int) (h0 : 0 <= k) (h1 : k <= 29) (hx : 0 <= x) (hy : x <= 600) (hc : (18 * k + 6 <= x /\ c = 14) ∨ (x < 18 * k + 6 /\ c = 11)) : LT (e 20 k x c) := st 20 r20 k x c h0 (by omega) hx hy hc (by kernel_rfl) (by kernel_rfl) (fun hp => t21 (k - 1) (x - 18) c (by omega) (by omega) (by omega) (by omega) (by omega))
theorem t19 (k x c : Int) (h0 : 0 <= k) (h1 : k <= 30) (hx : 0 <= x) (hy : x <= 600) (hc : (18 * k + 6 <= x /\ c = 14) ∨ (x < 18 * k + 6 /\ c = 11)) : LT (e 19 k x c) := st 19 r19 k x c h0 (by omega) hx hy hc (by kernel_rfl) (by kernel_rfl) (fun hp => t20 (k - 1) (x - 18) c (by omega) (by omega) (by omega) (by omega) (by omega))
theorem t18 (k x c : Int) (h0 : 0 <= k) (h1 : k <= 31) (hx : 0 <= x) (hy : x <= 600) (hc : (18 * k + 6 <= x /\ c = 14) ∨ (x < 18 * k + 6 /\ c = 11)) : LT (e 18 k x c) := st 18 r18 k x c h0 (by omega) hx hy hc (by kernel_rfl) (by kernel_rfl) (fun hp => t19 (k - 1) (x - 18) c (by omega) (by omega) (by omega) (by omega) (by omega))
theorem t17 (k x c : Int) (h0 : 0 <= k) (h1 : k <= 32) (hx : 0 <= x) (hy : x <= 600) (hc : (18 * k + 6 <= x /\ c = 14) ∨ (x < 18 * k + 6 /\ c = 11)) : LT (e 17 k x c) := st 17 r17 k x c h0 (by omega) hx hy hc (by kernel_rfl) (by kernel_rfl) (fun hp => t18 (k - 1) (x - 18) c (by omega) (by omega) (by omega) (by omega) (by omega))
theorem t16 (k x c : Int) (h0 : 0 <= k) (h1 : k <= 33) (hx : 0 <= x) (hy : x <= 600) (hc : (18 * k + 6 <= x /\ c = 14) ∨ (x < 18 * k + 6 /\ c = 11)) : LT (e 16 k x c) := st 16 r16 k x c h0 (by omega) hx hy hc (by kernel_rfl) (by kernel_rfl) (fun hp => t17 (k - 1) (x - 18) c (by omega) (by omega) (by omega) (by omega) (by omega))
theorem t15 (k x c : Int) (h0 : 0 <= k) (h1 : k <= 34) (hx : 0 <= x) (hy : x <= 600) (hc : (18 * k + 6 <= x /\ c = 14) ∨ (x < 18 * k + 6 /\ c = 11)) : LT (e 15 k x c) := st 15 r15 k x c h0 (by omega) hx hy hc (by kernel_rfl) (by kernel_rfl) (fun hp => t16 (k - 1) (x - 18) c (by omega) (by omega) (by omega) (by omega) (by omega))
theorem t14 (k x c : Int) (h0 : 0 <= k) (h1 : k <= 35) (hx : 0 <= x) (hy : x <= 600) (hc : (18 * k + 6 <= x /\ c = 14) ∨ (x < 18 * k + 6 /\ c = 11)) : LT (e 14 k x c) := st 14 r14 k x c h0 (by omega) hx hy hc (by kernel_rfl) (by kernel_rfl) (fun hp => t15 (k - 1) (x - 18) c (by omega) (by omega) (by omega) (by omega) (by omega))
theorem t13 (k x c : Int) (h0 : 0 <= k) (h1 : k <= 36) (hx : 0 <= x) (hy : x <= 600) (hc : (18 * k + 6 <= x /\ c = 14) ∨ (x < 18 * k + 6 /\ c = 11)) : LT (e 13 k x c) := st 13 r13 k x c h0 (by omega) hx hy hc (by kernel_rfl) (by kernel_rfl) (fun hp => t14 (k - 1) (x - 18) c (by omega) (by omega) (by omega) (by omega) (by omega))
theorem t12 (k x c : Int) (h0 : 0 <= k) (h1 : k <= 37) (hx : 0 <= x) (hy : x <= 600) (hc : (18 * k + 6 <= x /\ c = 14) ∨ (x < 18 * k + 6 /\ c = 11)) : LT (e 12 k x c) := st 12 r12 k x c h0 (by omega) hx hy hc (by kernel_rfl) (by kernel_rfl) (fun hp => t13 (k - 1) (x - 18) c (by omega) (by omega) (by omega) (by omega) (by omega))
theorem t11 (k x c : Int) (h0 : 0 <= k) (h1 : k <= 38) (hx : 0 <= x) (hy : x <= 600) (hc : (18 * k + 6 <= x /\ c = 14) ∨ (x < 18 * k + 6 /\ c = 11)) : LT (e 11 k x c) := st 11 r11 k x c h0 (by omega) hx hy hc (by kernel_rfl) (by kernel_rfl) (fun hp => t12 (k - 1) (x - 18) c (by omega) (by omega) (by omega) (by omega) (by omega))
theorem t10 (k x c : Int) (h0 : 0 <= k) (h1 : k <= 39) (hx : 0 <= x) (hy : x <= 600) (hc : (18 * k + 6 <= x /\ c = 14) ∨ (x < 18 * k + 6 /\ c = 11)) : LT (e 10 k x c) := st 10 r10 k x c h0 (by omega) hx hy hc (by kernel_rfl) (by kernel_rfl) (fun hp => t11 (k - 1) (x - 18) c (by omega) (by omega) (by omega) (by omega) (by omega))
theorem t9 (k x c : Int) (h0 : 0 <= k) (h1 : k <= 40) (hx : 0 <= x) (hy : x <= 600) (hc : (18 * k + 6 <= x /\ c = 14) ∨ (x < 18 * k + 6 /\ c = 11)) : LT (e 9 k x c) := st 9 r9 k x c h0 (by omega) hx hy hc (by kernel_rfl) (by kernel_rfl) (fun hp => t10 (k - 1) (x - 18) c (by omega) (by omega) (by omega) (by omega) (by omega))
theorem t8 (k x c : Int) (h0 : 0 <= k) (h1 : k <= 41) (hx : 0 <= x) (hy : x <= 600) (hc : (18 * k + 6 <= x /\ c = 14) ∨ (x < 18 * k + 6 /\ c = 11)) : LT (e 8 k x c) := st 8 r8 k x c h0 (by omega) hx hy hc (by kernel_rfl) (by kernel_rfl) (fun hp => t9 (k - 1) (x - 18) c (by omega) (by omega) (by omega) (by omega) (by omega))
theorem t7 (k x c : Int) (h0 : 0 <= k) (h1 : k <= 42) (hx : 0 <= x) (hy : x <= 600) (hc : (18 * k + 6 <= x /\ c = 14) ∨ (x < 18 * k + 6 /\ c = 11)) : LT (e 7 k x c) := st 7 r7 k x c h0 (by omega) hx hy hc (by kernel_rfl) (by kernel_rfl) (fun hp => t8 (k - 1) (x - 18) c (by omega) (by omega) (by omega) (by omega) (by omega))
theorem t6 (k x c : Int) (h0 : 0 <= k) (h1 : k <= 43) (hx : 0 <= x) (hy : x <= 600) (hc : (18 * k + 6 <= x /\ c = 14) ∨ (x < 18 * k + 6 /\ c = 11)) : LT (e 6 k x c) := st 6 r6 k x c h0 (by omega) hx hy hc (by kernel_rfl) (by kernel_rfl) (fun hp => t7 (k - 1) (x - 18) c (by omega) (by omega) (by omega) (by omega) (by omega))
theorem t5 (k x c : Int) (h0 : 0 <= k) (h1 : k <= 44) (hx : 0 <= x) (hy : x <= 600) (hc : (18 * k + 6 <= x /\ c = 14) ∨ (x < 18 * k + 6 /\ c = 11)) : LT (e 5 k x c) := st 5 r5 k x c h0 (by omega) hx hy hc (by kernel_rfl) (by kernel_rfl) (fun hp => t6 (k - 1) (x - 18) c (by omega) (by omega) (by omega) (by omega) (by omega))
theorem t4 (k x c : Int) (h0 : 0 <= k) (h1 : k <= 45) (hx : 0 <= x) (hy : x <= 600) (hc : (18 * k + 6 <= x /\ c = 14) ∨ (x < 18 * k + 6 /\ c = 11)) : LT (e 4 k x c) := st 4 r4 k x c h0 (by omega) hx hy hc (by kernel_rfl) (by kernel_rfl) (fun hp => t5 (k - 1) (x - 18) c (by omega) (by omega) (by omega) (by omega) (by omega))
theorem t3 (k x c : Int) (h0 : 0 <= k) (h1 : k <= 46) (hx : 0 <= x) (hy : x <= 600) (hc : (18 * k + 6 <= x /\ c = 14) ∨ (x < 18 * k + 6 /\ c = 11)) : LT (e 3 k x c) := st 3 r3 k x c h0 (by omega) hx hy hc (by kernel_rfl) (by kernel_rfl) (fun hp => t4 (k - 1) (x - 18) c (by omega) (by omega) (by omega) (by omega) (by omega))
theorem t2 (k x c : Int) (h0 : 0 <= k) (h1 : k <= 47) (hx : 0 <= x) (hy : x <= 600) (hc : (18 * k + 6 <= x /\ c = 14) ∨ (x < 18 * k + 6 /\ c = 11)) : LT (e 2 k x c) := st 2 r2 k x c h0 (by omega) hx hy hc (by kernel_rfl) (by kernel_rfl) (fun hp => t3 (k - 1) (x - 18) c (by omega) (by omega) (by omega) (by omega) (by omega))
theorem t1 (k x c : Int) (h0 : 0 <= k) (h1 : k <= 48) (hx : 0 <= x) (hy : x <= 600) (hc : (18 * k + 6 <= x /\ c = 14) ∨ (x < 18 * k + 6 /\ c = 11)) : LT (e 1 k x c) := st 1 r1 k x c h0 (by omega) hx hy hc (by kernel_rfl) (by kernel_rfl) (fun hp => t2 (k - 1) (x - 18) c (by omega) (by omega) (by omega) (by omega) (by omega))
theorem t0 (k x c : Int) (h0 : 0 <= k) (h1 : k <= 49) (hx : 0 <= x) (hy : x <= 600) (hc : (18 * k + 6 <= x /\ c = 14) ∨ (x < 18 * k + 6 /\ c = 11)) : LT (e 0 k x c) := st 0 r0 k x c h0 (by omega) hx hy hc (by kernel_rfl) (by kernel_rfl) (fun hp => t1 (k - 1) (x - 18) c (by omega) (by omega) (by omega) (by omega) (by omega))
theorem Xw (k x y c : Int) (h0 : 0 <= k) (h1 : k <= 49) (hx : 0 <= x) (hy : x <= 600) (hyx : (3 <= x /\ y = x - 3) ∨ (x < 3 /\ y = 0)) (hc : (18 * k + 9 <= x /\ c = 14) ∨ (x < 18 * k + 9 /\ c = 11)) : IC prog 67 (p k x c) := U8 (tl := []) (es := [e 0 k y c]) (l := (e 0 k y c).al) [] aJ (Oi (t0 k y c h0 h1 (by omega) (by omega) (by omega))) (LG rfl) (by kernel_rfl) (by kernel_rfl) (by kernel_rfl) 6 (q := (((x == 0) = true -> (c = 11 /\ 11 <= c /\ c <= 14) /\
 qt) /\ ((x == 0) = false -> (((x - 1 == 0) = true -> (c = 11 /\ 11 <= c /\ c <= 14) /\
 qt) /\ ((x - 1 == 0) = false -> (((x - 1 - 1 == 0) = true -> (c = 11 /\ 11 <= c /\ c <= 14) /\
 qt) /\ ((x - 1 - 1 == 0) = false -> (y = x - 1 - 1 - 1 /\ 0 <= y /\ y <= 600) /\
 rp (en (k)) 1 (rp (en (c)) 1 (qt))))))))) (by
 refine ⟨fun hc1 => ?_, fun hc1 => ?_⟩
 · simp only [beq_iff_eq, beq_eq_false_iff_ne, ne_eq, decide_eq_true_eq, decide_eq_false_iff_not, Int.not_le, Int.not_lt] at hc1
   refine ⟨by omega, ?_⟩
   rfl
 · simp only [beq_iff_eq, beq_eq_false_iff_ne, ne_eq, decide_eq_true_eq, decide_eq_false_iff_not, Int.not_le, Int.not_lt] at hc1
   refine ⟨fun hc2 => ?_, fun hc2 => ?_⟩
   · simp only [beq_iff_eq, beq_eq_false_iff_ne, ne_eq, decide_eq_true_eq, decide_eq_false_iff_not, Int.not_le, Int.not_lt] at hc2
     refine ⟨by omega, ?_⟩
     rfl
   · simp only [beq_iff_eq, beq_eq_false_iff_ne, ne_eq, decide_eq_true_eq, decide_eq_false_iff_not, Int.not_le, Int.not_lt] at hc2
     refine ⟨fun hc3 => ?_, fun hc3 => ?_⟩
     · simp only [beq_iff_eq, beq_eq_false_iff_ne, ne_eq, decide_eq_true_eq, decide_eq_false_iff_not, Int.not_le, Int.not_lt] at hc3
       refine ⟨by omega, ?_⟩
       rfl
     · simp only [beq_iff_eq, beq_eq_false_iff_ne, ne_eq, decide_eq_true_eq, decide_eq_false_iff_not, Int.not_le, Int.not_lt] at hc3
       refine ⟨by omega, ?_⟩
       iterate 2 refine jd rfl _ ?_
       rfl
 ) (by kernel_rfl)
def cc (n m : Int) : Int := if 18 * bH n 50 + 9 <= bH m 600 then 14 else 11
theorem PK (n m : Int) : (18 * bH n 50 + 9 <= bH m 600 /\ cc n m = 14) ∨ (bH m 600 < 18 * bH n 50 + 9 /\ cc n m = 11) := by
 unfold cc
 split
 · exact .inl ⟨by assumption, rfl⟩
 · exact .inr ⟨by omega, rfl⟩
theorem XZ (n m : Int) : IC prog 67 (p (bH n 50) (bH m 600) (cc n m)) := by
 have h := eX n (m := 50) (by decide)
 have h' := eX m (m := 600) (by decide)
 rcases (by omega : 3 <= bH m 600 ∨ bH m 600 < 3) with hx | hx
 · exact Xw _ _ (bH m 600 - 3) _ h.1 (by omega) h'.1 (by omega) (.inl ⟨hx, rfl⟩) (PK n m)
 · exact Xw _ _ 0 _ h.1 (by omega) h'.1 (by omega) (.inr ⟨hx, rfl⟩) (PK n m)
end Gv.KRollBack
set_option linter.unusedVariables false
set_option maxRecDepth 100000
open Rx Go
namespace Gv.LRollBack
open Gv Rd
noncomputable section
def s1 : ByteArray := ⟨#[100, 101, 102, 105, 110, 101]⟩
def s2 : ByteArray := ⟨#[120]⟩
def s3 : ByteArray := ⟨#[108]⟩
def s4 : ByteArray := ⟨#[113, 117, 111, 116, 101]⟩
def s5 : ByteArray := ⟨#[102]⟩
def s6 : ByteArray := ⟨#[110]⟩
def s7 : ByteArray := ⟨#[105, 102]⟩
def s8 : ByteArray := ⟨#[61]⟩
def s9 : ByteArray := ⟨#[101, 114, 114, 111, 114]⟩
def s10 : ByteArray := ⟨#[98, 101, 103, 105, 110]⟩
def s11 : ByteArray := ⟨#[115, 101, 116, 33]⟩
def s12 : ByteArray := ⟨#[43]⟩
def s13 : ByteArray := ⟨#[99, 111, 110, 115]⟩
def s14 : ByteArray := ⟨#[45]⟩
def s15 : ByteArray := ⟨#[115, 104, 111, 119]⟩
def s16 : ByteArray := ⟨#[40, 100, 101, 102, 105, 110, 101, 32, 120, 32, 48, 41, 32, 40, 100, 101, 102, 105, 110, 101, 32, 108, 32, 39, 40, 41, 41, 32, 40, 100, 101, 102, 105, 110, 101, 32, 40, 102, 32, 110, 41, 32, 40, 105, 102, 32, 40, 61, 32, 110, 32, 48, 41, 32, 40, 101, 114, 114, 111, 114, 32, 120, 41, 32, 40, 98, 101, 103, 105, 110, 32, 40, 115, 101, 116, 33, 32, 120, 32, 40, 43, 32, 120, 32, 49, 41, 41, 32, 40, 115, 101, 116, 33, 32, 108, 32, 40, 99, 111, 110, 115, 32, 120, 32, 108, 41, 41, 32, 40, 102, 32, 40, 45, 32, 110, 32, 49, 41, 41, 41, 41, 41, 32, 40, 100, 101, 102, 105, 110, 101, 32, 40, 115, 104, 111, 119, 32, 110, 41, 32, 40, 99, 111, 110, 115, 32, 120, 32, 108, 41, 41]⟩
def s17 : ByteArray := ⟨#[40]⟩
def s18 : ByteArray := ⟨#[41]⟩
theorem YW : s1.size = 6 := rfl
theorem YU : s1.data.toList = [100, 101, 102, 105, 110, 101] := rfl
theorem YX : s2.size = 1 := rfl
theorem Y1 : s2.data.toList = [120] := rfl
theorem YV : s3.size = 1 := rfl
theorem YS : s3.data.toList = [108] := rfl
theorem Y6 : s4.size = 5 := rfl
theorem Zd : s4.data.toList = [113, 117, 111, 116, 101] := rfl
theorem Y4 : s5.size = 1 := rfl
theorem Y0 : s5.data.toList = [102] := rfl
theorem Za : s6.size = 1 := rfl
theorem Y8 : s6.data.toList = [110] := rfl
theorem Y7 : s7.size = 2 := rfl
theorem Zb : s7.data.toList = [105, 102] := rfl
theorem YZ : s8.size = 1 := rfl
theorem Y5 : s8.data.toList = [61] := rfl
theorem Y9 : s9.size = 5 := rfl
theorem Y3 : s9.data.toList = [101, 114, 114, 111, 114] := rfl
theorem Yx : s10.size = 5 := rfl
theorem YG : s10.data.toList = [98, 101, 103, 105, 110] := rfl
theorem YL : s11.size = 4 := rfl
theorem YD : s11.data.toList = [115, 101, 116, 33] := rfl
theorem YK : s12.size = 1 := rfl
theorem YN : s12.data.toList = [43] := rfl
theorem YC : s13.size = 4 := rfl
theorem Yy : s13.data.toList = [99, 111, 110, 115] := rfl
theorem YR : s14.size = 1 := rfl
theorem Yz : s14.data.toList = [45] := rfl
theorem YM : s15.size = 4 := rfl
theorem YO : s15.data.toList = [115, 104, 111, 119] := rfl
theorem YI : s16.size = 151 := rfl
theorem YB : s16.data.toList = [40, 100, 101, 102, 105, 110, 101, 32, 120, 32, 48, 41, 32, 40, 100, 101, 102, 105, 110, 101, 32, 108, 32, 39, 40, 41, 41, 32, 40, 100, 101, 102, 105, 110, 101, 32, 40, 102, 32, 110, 41, 32, 40, 105, 102, 32, 40, 61, 32, 110, 32, 48, 41, 32, 40, 101, 114, 114, 111, 114, 32, 120, 41, 32, 40, 98, 101, 103, 105, 110, 32, 40, 115, 101, 116, 33, 32, 120, 32, 40, 43, 32, 120, 32, 49, 41, 41, 32, 40, 115, 101, 116, 33, 32, 108, 32, 40, 99, 111, 110, 115, 32, 120, 32, 108, 41, 41, 32, 40, 102, 32, 40, 45, 32, 110, 32, 49, 41, 41, 41, 41, 41, 32, 40, 100, 101, 102, 105, 110, 101, 32, 40, 115, 104, 111, 119, 32, 110, 41, 32, 40, 99, 111, 110, 115, 32, 120, 32, 108, 41, 41] := rfl
theorem YF : s17.size = 1 := rfl
theorem Q6 : s17.data.toList = [40] := rfl
theorem YE : s18.size = 1 := rfl
theorem Ot : s18.data.toList = [41] := rfl
abbrev Az (n : Int) : Int := bH n 50
abbrev mJ (n : Int) : Int := bH n 600
def o0 : Ob := vc 90 9 2 [C 3, I 0, I 0, S s0, aC, S s2, I 0, aC, aC, C 3, I 0, I 0, S s0, aC, S s3, I 0, aC, aC] false
def o1 : Ob := vc 90 9 1 [C 3, I 0, I 0, S s0, aC, S s2, I 0, aC, aC] false
def o2 : Ob := vc 90 9 2 [C 2, I 0, I 0, S s0, aC, S s6, I 0, aC, aC, C 1, C 1, C 0, S s0, D (.arr 4 0 (dxL [])), S s0, I 0, aC, aC] false
def o3 : Ob := vc 90 9 2 [C 3, I 0, I 0, S s0, aC, S s2, I 0, aC, aC, C 1, C 1, C 1, S s0, D (.arr 4 0 (dxL [])), S s0, I 0, aC, aC] false
def o4 : Ob := vc 90 9 2 [C 2, I 0, I 0, S s0, aC, S s6, I 0, aC, aC, C 1, C 1, C 1, S s0, D (.arr 4 0 (dxL [])), S s0, I 0, aC, aC] false
def o5 : Ob := vc 54 4 4 [S s2, C 3, I 0, S s0, S s3, C 3, I 0, S s0, S s5, C 3, I 0, S s0, S s15, C 3, I 0, S s0] false
def o6 : Ob := vc 190 8 7 [C 1, I 0, I 0, S s0, S s0, I 0, I 0, S s0, C 1, I 0, I 0, S s0, S s0, I 0, I 0, S s0, C 9, I 0, I 0, S s2, S s0, I 0, I 0, S s0, C 1, I 0, I 0, S s0, S s0, I 0, I 0, S s0, C 9, I 0, I 0, S s3, S s0, I 0, I 0, S s0, C 18, C 2, I 0, S s13, S s0, I 0, I 0, S s0, C 14, I 0, I 0, S s0, S s0, I 0, I 0, S s0] false
def o7 : Ob := vc 190 8 3 [C 1, I 0, I 0, S s0, S s0, I 0, I 0, S s0, C 2, I 0, I 0, S s0, S s0, C 3, I 0, S s0, C 14, I 0, I 0, S s0, S s0, I 0, I 0, S s0] false
def o8 : Ob := vc 190 8 3 [C 1, I 0, I 0, S s0, S s0, I 0, I 0, S s0, C 2, I 0, I 0, S s0, S s0, C 1, C 0, S s0, C 14, I 0, I 0, S s0, S s0, I 0, I 0, S s0] false
def o9 : Ob := vc 190 8 44 [C 1, I 0, I 0, S s0, S s0, I 0, I 0, S s0, C 1, I 0, I 0, S s0, S s0, I 0, I 0, S s0, C 1, I 0, I 0, S s0, S s0, I 0, I 0, S s0, C 3, C 0, I 0, S s0, S s0, I 0, I 0, S s0, C 1, I 0, I 0, S s0, S s0, I 0, I 0, S s0, C 2, I 0, I 0, S s0, S s0, C 1, C 0, S s0, C 18, C 2, I 0, S s8, S s0, I 0, I 0, S s0, C 16, I 13, I 0, S s0, S s0, I 0, I 0, S s0, C 1, I 0, I 0, S s0, S s0, I 0, I 0, S s0, C 1, I 0, I 0, S s0, S s0, I 0, I 0, S s0, C 9, I 0, I 0, S s2, S s0, I 0, I 0, S s0, C 18, C 1, I 0, S s9, S s0, I 0, I 0, S s0, C 14, I 0, I 0, S s0, S s0, I 0, I 0, S s0, C 1, I 0, I 0, S s0, S s0, I 0, I 0, S s0, C 1, I 0, I 0, S s0, S s0, I 0, I 0, S s0, C 1, I 0, I 0, S s0, S s0, I 0, I 0, S s0, C 1, I 0, I 0, S s0, S s0, I 0, I 0, S s0, C 9, I 0, I 0, S s2, S s0, I 0, I 0, S s0, C 1, I 0, I 0, S s0, S s0, I 0, I 0, S s0, C 2, I 0, I 0, S s0, S s0, C 1, C 1, S s0, C 18, C 2, I 0, S s12, S s0, I 0, I 0, S s0, C 10, I 0, I 0, S s2, S s0, I 0, I 0, S s0, C 2, I 0, I 0, S s0, S s0, C 3, I 0, S s0, C 17, I 0, I 0, S s0, S s0, I 0, I 0, S s0, C 1, I 0, I 0, S s0, S s0, I 0, I 0, S s0, C 1, I 0, I 0, S s0, S s0, I 0, I 0, S s0, C 1, I 0, I 0, S s0, S s0, I 0, I 0, S s0, C 9, I 0, I 0, S s2, S s0, I 0, I 0, S s0, C 1, I 0, I 0, S s0, S s0, I 0, I 0, S s0, C 9, I 0, I 0, S s3, S s0, I 0, I 0, S s0, C 18, C 2, I 0, S s13, S s0, I 0, I 0, S s0, C 10, I 0, I 0, S s3, S s0, I 0, I 0, S s0, C 2, I 0, I 0, S s0, S s0, C 3, I 0, S s0, C 17, I 0, I 0, S s0, S s0, I 0, I 0, S s0, C 1, I 0, I 0, S s0, S s0, I 0, I 0, S s0, C 1, I 0, I 0, S s0, S s0, I 0, I 0, S s0, C 9, I 0, I 0, S s5, S s0, I 0, I 0, S s0, C 1, I 0, I 0, S s0, S s0, I 0, I 0, S s0, C 1, I 0, I 0, S s0, S s0, I 0, I 0, S s0, C 3, C 0, I 0, S s0, S s0, I 0, I 0, S s0, C 1, I 0, I 0, S s0, S s0, I 0, I 0, S s0, C 2, I 0, I 0, S s0, S s0, C 1, C 1, S s0, C 18, C 2, I 0, S s14, S s0, I 0, I 0, S s0, C 13, C 1, I 0, S s0, S s0, I 0, I 0, S s0] false
def o10 : Ob := vc 9 1 4 [S s2, S s3, S s5, S s15] false
def o11 : Ob := vc 99 4 4 [J, J, I 0, J, J, J, I 0, J, J, J, I 0, J, J, J, I 0, J] false
def o12 : Ob := vc 54 4 4 [S s2, J, J, J, S s3, J, J, J, S s5, J, J, J, S s15, J, J, J] false
def o13 : Ob := vc 52 3 2 [C 8, C 2, S s0, C 1, I 0, S s0] true
def o14 : Ob := vc 52 3 2 [C 8, C 2, S s0, C 1, I 0, S s0] false
def o15 : Ob := .mp (.int .i64) .bool [((0 : Int), true)]
def o16 : Ob := vc 54 4 4 [S s2, C 3, I 0, S s0, S s3, C 3, I 0, S s0, S s5, C 5, C 0, S s0, S s15, C 3, I 0, S s0] false
def o17 : Ob := vc 52 3 2 [C 8, C 3, S s0, C 1, I 0, S s0] true
def o18 : Ob := vc 52 3 4 [C 8, C 2, S s0, C 1, I 0, S s0, C 8, C 3, S s0, C 1, I 0, S s0] false
def o19 : Ob := .mp (.int .i64) .bool [((0 : Int), true), ((2 : Int), true)]
def o20 : Ob := vc 54 4 4 [S s2, C 3, I 0, S s0, S s3, C 3, I 0, S s0, S s5, C 5, C 0, S s0, S s15, C 5, C 2, S s0] false
def o21 : Ob := .cells 255 [C 4, I 0, C 3, I 0, S s0, aC, aC]
def o22 : Ob := vc 54 4 4 [S s2, C 1, C 0, S s0, S s3, C 3, I 0, S s0, S s5, C 5, C 0, S s0, S s15, C 5, C 2, S s0] false
def o23 : Ob := vc 99 4 5 [J, J, I 0, J, J, J, I 0, J, J, J, I 0, J, J, J, I 0, J, J, J, I 0, J] false
def o24 : Ob := vc 49 4 1 [C 1, C 0, S s0, aC] true
def o25 : Ob := vc 190 8 6 [C 1, I 0, I 0, S s0, S s0, I 0, I 0, S s0, C 1, I 0, I 0, S s0, S s0, I 0, I 0, S s0, C 9, I 0, I 0, S s15, S s0, I 0, I 0, S s0, C 1, I 0, I 0, S s0, S s0, I 0, I 0, S s0, C 2, I 0, I 0, S s0, S s0, C 1, C 0, S s0, C 13, C 1, I 0, S s0, S s0, I 0, I 0, S s0] false
def o26 : Ob := vc 52 3 7 [C 8, C 2, S s0, C 1, I 0, S s0, C 8, C 3, S s0, C 1, I 0, S s0, C 6, I 0, S s0, C 1, C 0, S s0, C 3, I 0, S s0] false
def o27 : Ob := .mp (.int .i64) .bool [((0 : Int), true), ((2 : Int), true), ((4 : Int), true)]
def p0 : Ob := vc 140 10 4 [S s2, C 1, C 1, C 0, S s0, D (.arr 4 0 (dxL [])), S s0, I 0, aC, aC, S s3, C 1, C 4, C 0, S s0, D (.arr 4 0 (dxL [])), S s0, I 0, aC, aC, S s5, C 6, I 0, I 0, S s0, aC, S s0, I 0, V 3 1 0 1, V 2 9 0 1, S s15, C 6, I 0, I 0, S s0, aC, S s0, I 0, V 4 1 0 1, V 1 9 0 1] false
def p1 : Ob := vc 90 9 1 [C 10, I 0, I 0, S s0, aC, S s13, I 0, aC, V 5 9 0 2] true
def p2 : Ob := vc 90 9 1 [C 4, I 0, I 0, S s0, aC, S s0, I 0, aC, V 6 9 0 3] true
def p3 : Ob := vc 90 9 3 [C 10, I 0, I 0, S s0, aC, S s8, I 0, aC, V 8 9 0 2, C 10, I 0, I 0, S s0, aC, S s9, I 0, aC, V 7 9 0 1, C 7, I 0, I 0, S s0, aC, S s0, I 0, aC, V 9 9 0 3] false
def p4 : Ob := vc 90 9 3 [C 8, I 0, I 0, S s0, aC, S s2, I 0, aC, V 11 9 0 1, C 8, I 0, I 0, S s0, aC, S s3, I 0, aC, V 10 9 0 1, C 9, I 0, I 0, S s0, aC, S s0, I 0, aC, V 12 9 0 2] false
def p5 : Ob := vc 90 9 1 [C 10, I 0, I 0, S s0, aC, S s13, I 0, aC, V 13 9 0 2] false
def p6 : Ob := vc 90 9 1 [C 10, I 0, I 0, S s0, aC, S s12, I 0, aC, V 14 9 0 2] false
def p7 : Ob := vc 90 9 2 [C 3, I 0, I 0, S s0, aC, S s5, I 0, aC, aC, C 10, I 0, I 0, S s0, aC, S s14, I 0, aC, V 15 9 0 2] false
def p8 : Ob := vc 99 4 4 [I 0, I 0, I 0, V 5 8 0 3, I 0, I 0, I 0, V 4 8 0 3, I 1, I 1, I 0, V 6 8 0 44, I 1, I 1, I 0, V 3 8 0 7] false
def p9 : Ob := vc 99 4 4 [I 0, I 0, I 0, V 13 8 0 3, I 0, I 0, I 0, V 12 8 0 3, I 1, I 1, I 0, V 14 8 0 44, I 1, I 1, I 0, V 11 8 0 7] false
def p10 : Ob := vc 99 4 5 [I 0, I 0, I 0, V 5 8 0 3, I 0, I 0, I 0, V 4 8 0 3, I 1, I 1, I 0, V 7 8 0 44, I 1, I 1, I 0, V 3 8 0 7, I 0, I 0, I 0, V 6 8 0 3] false
def p11 : Ob := vc 99 4 5 [I 0, I 0, I 0, V 6 8 0 3, I 0, I 0, I 0, V 5 8 0 3, I 1, I 1, I 0, V 8 8 0 44, I 1, I 1, I 0, V 4 8 0 7, I 0, I 0, I 0, V 7 8 0 3] false
def p12 : Ob := vc 99 4 5 [I 0, I 0, I 0, V 5 8 0 3, I 0, I 0, I 0, V 4 8 0 3, I 1, I 1, I 0, V 7 8 0 44, I 1, I 1, I 0, V 3 8 0 7, I 0, I 0, I 0, V 6 8 0 6] false
def a0 : SV := .agg [aC, aC, aC, aC, C 4000]
def a1 : SV := .agg [V 0 4 0 4, V 1 4 0 4, aC, J, J]
def a2 : SV := .agg [I 0, I 0, I 0, V 2 8 0 3]
def a3 : SV := .agg [I 1, I 1, I 0, V 2 8 0 44]
def a4 : SV := .agg [I 1, I 1, I 0, V 2 8 0 7]
def a5 : SV := .agg [V 0 4 0 4, V 1 4 0 4, aC, aC, C 4000]
def a6 : SV := .agg [V 0 4 0 4, V 1 4 0 4, aC, V 2 3 0 2, C 4000]
def a7 : SV := .agg [V 0 4 0 4, V 1 4 0 4, aC, V 2 3 0 4, C 4000]
def a8 : SV := .agg [I 0, I 0, I 0, V 3 8 0 3]
def a9 : SV := .agg [.sl 0 4 0 4 (some 4), V 1 4 0 4, aC, J, J]
def a10 : SV := .agg [.sl 0 4 0 4 (some 4), V 1 4 0 4, aC, V 2 3 0 4, C 4000]
def a11 : SV := .agg [I 0, I 0, I 0, V 2 8 0 6]
def a12 : SV := .agg [.sl 0 4 0 4 (some 4), V 1 4 0 4, aC, V 2 3 0 7, C 4000]
def w0 : List (Option Ob) := [some p0, some p1, some p2, some (vc 9 1 1 [S s6] false), some (vc 9 1 1 [S s6] false), some o0, some p3, some o1, some o2, some p4, some p5, some p6, some p7, some o0, some o3, some o4]
def w1 : List (Option Ob) := [some p10, some o22, some o18, some o6, some o7, some o8, some o7, some o9]
def w2 : List (Option Ob) := [some p12, some o22, some o26, some o6, some o7, some o8, some o25, some o9]
def e0 (n m : Int) : TE := ⟨0, [aC], [], .tup [.nm 0, .kb true], [some (.mp (.int .i64) .bool [])]⟩
def e1 (n m : Int) : TE := ⟨0, [.agg [aC, C 4000]], [], I 0, []⟩
def e2 (n m : Int) : TE := ⟨0, [.agg [aC, aC]], [], I 0, []⟩
def e3 (n m : Int) : TE := ⟨0, [a0], [], I 0, []⟩
def e4 (n m : Int) : TE := ⟨0, [a0], [], .tup [.agg [aC, aC], I 0], []⟩
def e5 (n m : Int) : TE := ⟨0, [D (.arr 4 4 (dxL [(ls [(sy s1), (sy s2), (num 0)]), (ls [(sy s1), (sy s3), (ls [(sy s4), (ls [])])]), (ls [(sy s1), (ls [(sy s5), (sy s6)]), (ls [(sy s7), (ls [(sy s8), (sy s6), (num 0)]), (ls [(sy s9), (sy s2)]), (ls [(sy s10), (ls [(sy s11), (sy s2), (ls [(sy s12), (sy s2), (num 1)])]), (ls [(sy s11), (sy s3), (ls [(sy s13), (sy s2), (sy s3)])]), (ls [(sy s5), (ls [(sy s14), (sy s6), (num 1)])])])])]), (ls [(sy s1), (ls [(sy s15), (sy s6)]), (ls [(sy s13), (sy s2), (sy s3)])])])), .agg [aC, aC]], [], .tup [.agg [aC, V 0 10 0 4, aC], I 0, I 0], w0⟩
def e6 (n m : Int) : TE := ⟨1, [.agg [V 0 1 0 4, aC]], [some o10], I 0, []⟩
def e7 (n m : Int) : TE := ⟨0, [.agg [aC, C 50]], [], I 0, []⟩
def e8 (n m : Int) : TE := ⟨3, [a1, a2], [some o11, some o12, some o8], .kb true, []⟩
def e9 (n m : Int) : TE := ⟨3, [a1, a2], [some o11, some o12, some o7], .kb true, []⟩
def e10 (n m : Int) : TE := ⟨3, [a1, a3], [some o11, some o12, some o9], .kb true, []⟩
def e11 (n m : Int) : TE := ⟨3, [a1, a4], [some o11, some o12, some o6], .kb true, []⟩
def e12 (n m : Int) : TE := ⟨6, [a5], [some (vc 99 4 4 [I 0, I 0, I 0, V 4 8 0 3, I 0, I 0, I 0, V 3 8 0 3, I 1, I 1, I 0, V 5 8 0 44, I 1, I 1, I 0, V 2 8 0 7] false), some o5, some o6, some o7, some o8, some o9], I 0, []⟩
def e13 (n m : Int) : TE := ⟨1, [V 0 3 0 2], [some o14], .tup [.nm 1, .kb true], [some o15]⟩
def e14 (n m : Int) : TE := ⟨1, [.agg [V 0 3 0 2, C 4000]], [some o14], I 0, []⟩
def e15 (n m : Int) : TE := ⟨7, [a5, V 2 3 0 2, aC], [some p8, some o5, some o13, some o6, some o7, some o8, some o9], .tup [.agg [V 7 4 0 4, V 8 4 0 4, aC, V 9 3 0 2, C 4000], .agg [C 5, C 0, S s0], I 0], [some (vc 99 4 4 [I 0, I 0, I 0, V 12 8 0 3, I 0, I 0, I 0, V 11 8 0 3, I 1, I 1, I 0, V 13 8 0 44, I 1, I 1, I 0, V 10 8 0 7] false), some o5, some o14, some o6, some o7, some o8, some o9]⟩
def e16 (n m : Int) : TE := ⟨7, [a6], [some p8, some o16, some o14, some o6, some o7, some o8, some o9], I 0, []⟩
def e17 (n m : Int) : TE := ⟨1, [V 0 3 0 4], [some o18], .tup [.nm 1, .kb true], [some o19]⟩
def e18 (n m : Int) : TE := ⟨1, [.agg [V 0 3 0 4, C 4000]], [some o18], I 0, []⟩
def e19 (n m : Int) : TE := ⟨8, [a6, V 3 3 0 2, aC], [some (vc 99 4 4 [I 0, I 0, I 0, V 6 8 0 3, I 0, I 0, I 0, V 5 8 0 3, I 1, I 1, I 0, V 7 8 0 44, I 1, I 1, I 0, V 4 8 0 7] false), some o16, some o14, some o17, some o6, some o7, some o8, some o9], .tup [.agg [V 8 4 0 4, V 9 4 0 4, aC, V 10 3 0 4, C 4000], .agg [C 5, C 2, S s0], I 0], [some p9, some o16, some o18, some o6, some o7, some o8, some o9]⟩
def e20 (n m : Int) : TE := ⟨7, [a7], [some p8, some o20, some o18, some o6, some o7, some o8, some o9], I 0, []⟩
def e21 (n m : Int) : TE := ⟨7, [a7, a8, I 20000], [some (vc 99 4 4 [I 0, I 0, I 0, V 3 8 0 3, I 0, I 0, I 0, V 5 8 0 3, I 1, I 1, I 0, V 6 8 0 44, I 1, I 1, I 0, V 4 8 0 7] false), some o20, some o18, some o8, some o6, some o7, some o9], .tup [.agg [.sl 7 4 0 4 (some 4), V 8 4 0 4, aC, V 9 3 0 4, C 4000], .agg [C 1, C 0, S s0], I 0], [some (vc 99 4 5 [I 0, I 0, I 0, V 12 8 0 3, I 0, I 0, I 0, V 11 8 0 3, I 1, I 1, I 0, V 13 8 0 44, I 1, I 1, I 0, V 10 8 0 7, I 0, I 0, I 0, V 3 8 0 3] false), some o20, some o18, some o6, some o7, some o8, some o9]⟩
def e22 (n m : Int) : TE := ⟨3, [a9, a2], [some o23, some o12, some o8], .kb true, []⟩
def e23 (n m : Int) : TE := ⟨3, [a9, a2], [some o23, some o12, some o7], .kb true, []⟩
def e24 (n m : Int) : TE := ⟨3, [a9, a3], [some o23, some o12, some o9], .kb true, []⟩
def e25 (n m : Int) : TE := ⟨3, [a9, a4], [some o23, some o12, some o6], .kb true, []⟩
def e26 (n m : Int) : TE := ⟨8, [a10], [some p10, some o22, some o18, some o6, some o7, some o8, some o8, some o9], I 0, []⟩
def e27 (n m : Int) : TE := ⟨8, [a10, a8, I 20000], [some (vc 99 4 5 [I 0, I 0, I 0, V 5 8 0 3, I 0, I 0, I 0, V 3 8 0 3, I 1, I 1, I 0, V 7 8 0 44, I 1, I 1, I 0, V 4 8 0 7, I 0, I 0, I 0, V 6 8 0 3] false), some o22, some o18, some o7, some o6, some o8, some o8, some o9], .tup [.agg [.sl 8 4 0 4 (some 4), V 9 4 0 4, aC, V 10 3 0 4, C 4000], .agg [C 3, I 0, S s0], I 0], [some (vc 99 4 5 [I 0, I 0, I 0, V 13 8 0 3, I 0, I 0, I 0, V 12 8 0 3, I 1, I 1, I 0, V 14 8 0 44, I 1, I 1, I 0, V 11 8 0 7, I 0, I 0, I 0, V 3 8 0 3] false), some o22, some o18, some o6, some o7, some o8, some o9]⟩
def e28 (n m : Int) : TE := ⟨16, [a0, .agg [aC, V 0 10 0 4, aC]], w0, .tup [.agg [.sl 16 4 0 4 (some 4), V 17 4 0 4, aC, V 18 3 0 4, C 4000], I 0], [some (vc 99 4 5 [I 0, I 0, I 0, V 21 8 0 3, I 0, I 0, I 0, V 20 8 0 3, I 1, I 1, I 0, V 23 8 0 44, I 1, I 1, I 0, V 19 8 0 7, I 0, I 0, I 0, V 22 8 0 3] false), some o22, some o18, some o6, some o7, some o8, some o7, some o9]⟩
def e29 (n m : Int) : TE := ⟨0, [a0, S s16], [], .tup [.agg [.sl 0 4 0 4 (some 4), V 1 4 0 4, aC, V 2 3 0 4, C 4000], I 0], w1⟩
def e30 (n m : Int) : TE := ⟨8, [a10], w1, I 0, []⟩
def e31 (n m : Int) : TE := ⟨8, [a10], w1, .tup [.agg [V 8 1 0 4, aC], I 0], [some o10]⟩
def e32 (n m : Int) : TE := ⟨3, [a9, a11], [some o23, some o12, some (vc 190 8 6 [C 1, I 0, I 0, S s0, S s0, I 0, I 0, S s0, C 1, I 0, I 0, S s0, S s0, I 0, I 0, S s0, C 9, I 0, I 0, S s5, S s0, I 0, I 0, S s0, C 1, I 0, I 0, S s0, S s0, I 0, I 0, S s0, C 2, I 0, I 0, S s0, S s0, C 1, .ri .i64 0 49 (Az n), S s0, C 13, C 1, I 0, S s0, S s0, I 0, I 0, S s0] false)], .kb true, []⟩
def e33 (n m : Int) : TE := ⟨9, [a10, .agg [C 2, S s0, S s5, V 3 4 0 1, .ri .i64 0 599 (mJ m)]], [some p11, some o22, some o18, some (vc 49 4 1 [C 1, .ri .i64 0 49 (Az n), S s0, aC] true), some o6, some o7, some o8, some o7, some o9], .tup [.agg [.sl 0 4 0 4 (some 4), V 1 4 0 4, aC, V 2 3 0 4, C 4000], S s0, .ri .i64 11 14 (Gv.KRollBack.cc n m)], []⟩
def e34 (n m : Int) : TE := ⟨3, [a9, a11], [some o23, some o12, some o25], .kb true, []⟩
def e35 (n m : Int) : TE := ⟨9, [a10, .agg [I 0, I 0, I 0, V 3 8 0 6], I 5000], [some p11, some o22, some o18, some o25, some o6, some o7, some o8, some o7, some o9], .tup [.agg [.sl 9 4 0 4 (some 4), V 10 4 0 4, aC, V 11 3 0 7, C 4000], .agg [C 5, C 4, S s0], I 0], [some (vc 99 4 5 [I 0, I 0, I 0, V 14 8 0 3, I 0, I 0, I 0, V 13 8 0 3, I 1, I 1, I 0, V 15 8 0 44, I 1, I 1, I 0, V 12 8 0 7, I 0, I 0, I 0, V 3 8 0 6] false), some o22, some o26, some o6, some o7, some o8, some o9]⟩
def e36 (n m : Int) : TE := ⟨1, [V 0 3 0 7], [some o26], .tup [.nm 1, .kb true], [some o27]⟩
def e37 (n m : Int) : TE := ⟨1, [.agg [V 0 3 0 7, C 4000]], [some o26], I 0, []⟩
def e38 (n m : Int) : TE := ⟨8, [a12], w2, I 0, []⟩
def e39 (n m : Int) : TE := ⟨8, [a12, .agg [C 5, C 4, S s0]], w2, .tup [.agg [V 8 4 0 4, V 9 4 0 4, aC, V 10 3 0 7, C 4000], .sy (s17 ++ bg 0 ++ s18), I 0], [some p9, some o22, some o26, some o6, some o7, some o8, some o9]⟩
def e40 (n m : Int) : TE := ⟨9, [a10, .agg [C 2, S s0, S s15, V 3 4 0 1, C 5000]], [some p11, some o22, some o18, some o24, some o6, some o7, some o8, some o7, some o9], .tup [.agg [V 9 4 0 4, V 10 4 0 4, aC, V 11 3 0 7, C 4000], .sy (s17 ++ bg 0 ++ s18), I 0], [some (vc 99 4 4 [I 0, I 0, I 0, V 14 8 0 3, I 0, I 0, I 0, V 13 8 0 3, I 1, I 1, I 0, V 15 8 0 44, I 1, I 1, I 0, V 12 8 0 7] false), some o22, some o26, some o6, some o7, some o8, some o9]⟩
end
theorem fx (n m : Int) : 0 <= Az n /\ Az n < 50 /\ 0 <= mJ m /\ mJ m < 600 /\ (bg (Az n)).size <= 3 /\ 0 < (bg (Az n)).size /\ (bg (mJ m)).size <= 3 /\ 0 < (bg (mJ m)).size /\ (bg 0).size <= 3 /\ 0 < (bg 0).size := by
 have h0 : 0 <= Az n := (eX n (by decide)).1
 have h1 : Az n < 50 := (eX n (by decide)).2
 have h2 : 0 <= mJ m := (eX m (by decide)).1
 have h3 : mJ m < 600 := (eX m (by decide)).2
 refine ⟨h0, h1, h2, h3, zi (by omega) (by omega), Gf (by omega) (by omega), zi (by omega) (by omega), Gf (by omega) (by omega), zi (by omega) (by omega), Gf (by omega) (by omega)⟩
end Gv.LRollBack
