/- The loop of the machine in GraftRefused, told. Printed by loopGraftRefused.py. -/
import Derived.Test.YtcmnmceodhambaaGreatDoorGvO
set_option linter.unusedSimpArgs false
set_option linter.unusedVariables false
set_option maxRecDepth 100000
open Rx Go Gv Rd
namespace Gv.KGraftRefused
noncomputable section
def z1 : ByteArray := ⟨#[120]⟩
def z2 : ByteArray := ⟨#[102]⟩
def z3 : ByteArray := ⟨#[108, 111, 111, 112]⟩
def z4 : ByteArray := ⟨#[122]⟩
def z5 : ByteArray := ⟨#[112]⟩
def z6 : ByteArray := ⟨#[99, 111, 110, 115]⟩
def z7 : ByteArray := ⟨#[97]⟩
def z8 : ByteArray := ⟨#[98]⟩
def e (x : Int) : ME := ⟨9, [.ptr 0 0, I 0, J, J, .ptr 1 0], [some (.cells 218 [V 2 4 0 5, V 3 4 0 4, J, V 4 3 0 12, C 500, V 5 1 0 1, .ri .i64 0 20000 x, I 0]), some (.cells 126 [I 0, I 0, S s0]), some (vc 140 4 5 [I 0, I 0, I 0, J, I 1, I 1, I 0, J, I 1, I 1, I 0, V 6 8 0 6, I 0, I 0, I 0, J, I 0, I 0, I 0, J] false), some (vc 130 4 4 [S z1, C 5, C 5, S s0, S z2, C 5, C 0, S s0, S z3, C 5, C 10, S s0, S z4, C 3, I 0, S s0] false), some (vc 126 3 12 [C 8, C 1, S s0, C 1, I 0, S s0, C 6, I 0, S s0, C 1, C 2, S s0, C 3, I 0, S s0, C 9, C 0, S s0, C 1, C 0, S s0, C 1, C 2, S s0, C 1, C 1, S s0, C 5, C 2, S s0, C 8, C 2, S s0, C 1, I 0, S s0] false), some (vc 280 1 1 [.ptr 7 0] false), some (vc 200 8 6 [C 1, I 0, I 0, S s0, S s0, I 0, I 0, S s0, C 1, I 0, I 0, S s0, S s0, I 0, I 0, S s0, C 9, I 0, I 0, S z3, S s0, I 0, I 0, S s0, C 1, I 0, I 0, S s0, S s0, I 0, I 0, S s0, C 3, C 0, I 0, S s0, S s0, I 0, I 0, S s0, C 13, C 1, I 0, S s0, S s0, I 0, I 0, S s0] false), some (.cells 282 [C 2, I 0, C 5, C 10, S s0, V 8 3 0 1, ak]), some (vc 126 3 1 [C 1, C 1, S s0] false)], .tup [.agg [I 0, I 0, S s0], I 11], [none, none, none, none, none, none, none, none, none]⟩
def p : ME := ⟨14, [.ptr 0 0, I 0], [some (.cells 218 [V 1 4 0 5, V 2 4 0 4, V 3 3 0 1, V 4 3 0 12, C 500, V 5 1 0 1, C 20000, I 0]), some (vc 140 4 5 [I 0, I 0, I 0, V 8 8 0 9, I 1, I 1, I 0, V 7 8 0 3, I 1, I 1, I 0, V 10 8 0 6, I 0, I 0, I 0, V 6 8 0 6, I 0, I 0, I 0, V 9 8 0 6] false), some (vc 130 4 4 [S z1, C 5, C 5, S s0, S z2, C 5, C 0, S s0, S z3, C 5, C 10, S s0, S z4, C 3, I 0, S s0] false), some (vc 63 3 1 [S z5, V 11 2 0 1, ak] false), some (vc 126 3 12 [C 8, C 1, S s0, C 1, I 0, S s0, C 6, I 0, S s0, C 1, C 2, S s0, C 3, I 0, S s0, C 9, C 0, S s0, C 1, C 0, S s0, C 1, C 2, S s0, C 1, C 1, S s0, C 5, C 2, S s0, C 8, C 2, S s0, C 1, I 0, S s0] false), some (vc 280 1 1 [.ptr 12 0] false), some (vc 200 8 6 [C 1, I 0, I 0, S s0, S s0, I 0, I 0, S s0, C 1, I 0, I 0, S s0, S s0, I 0, I 0, S s0, C 9, I 0, I 0, S z3, S s0, I 0, I 0, S s0, C 1, I 0, I 0, S s0, S s0, I 0, I 0, S s0, C 2, I 0, I 0, S s0, S s0, C 1, C 1, S s0, C 13, C 1, I 0, S s0, S s0, I 0, I 0, S s0] false), some (vc 200 8 3 [C 1, I 0, I 0, S s0, S s0, I 0, I 0, S s0, C 9, I 0, I 0, S z1, S s0, I 0, I 0, S s0, C 14, I 0, I 0, S s0, S s0, I 0, I 0, S s0] false), some (vc 200 8 9 [C 1, I 0, I 0, S s0, S s0, I 0, I 0, S s0, C 1, I 0, I 0, S s0, S s0, I 0, I 0, S s0, C 2, I 0, I 0, S s0, S s0, C 1, C 1, S s0, C 1, I 0, I 0, S s0, S s0, I 0, I 0, S s0, C 2, I 0, I 0, S s0, S s0, C 1, C 2, S s0, C 2, I 0, I 0, S s0, S s0, C 3, I 0, S s0, C 18, C 2, I 0, S z6, S s0, I 0, I 0, S s0, C 19, C 2, I 0, S z5, S s0, I 0, I 0, S s0, C 14, I 0, I 0, S s0, S s0, I 0, I 0, S s0] false), some (vc 200 8 6 [C 1, I 0, I 0, S s0, S s0, I 0, I 0, S s0, C 1, I 0, I 0, S s0, S s0, I 0, I 0, S s0, C 9, I 0, I 0, S z3, S s0, I 0, I 0, S s0, C 1, I 0, I 0, S s0, S s0, I 0, I 0, S s0, C 2, I 0, I 0, S s0, S s0, C 1, C 1, S s0, C 13, C 1, I 0, S s0, S s0, I 0, I 0, S s0] false), some (vc 200 8 6 [C 1, I 0, I 0, S s0, S s0, I 0, I 0, S s0, C 1, I 0, I 0, S s0, S s0, I 0, I 0, S s0, C 9, I 0, I 0, S z3, S s0, I 0, I 0, S s0, C 1, I 0, I 0, S s0, S s0, I 0, I 0, S s0, C 3, C 0, I 0, S s0, S s0, I 0, I 0, S s0, C 13, C 1, I 0, S s0, S s0, I 0, I 0, S s0] false), some (vc 60 2 1 [S z5, V 13 1 0 2] false), some (.cells 282 [C 4, I 0, C 3, I 0, S s0, ak, ak]), some (vc 9 1 2 [S z7, S z8] false)], .tup [.agg [I 0, I 0, S s0], I 11], [none, none, none, none, none, none, none, none, none, none, none, none, none, none]⟩
end
theorem e_b (x : Int) (h0 : 0 <= x) (h1 : x < 3) : LT (e x) := seg_lt (tl := []) (es := []) [] au XI (fun _ h => by cases h) (by kernel_rfl) (by kernel_rfl) (by kernel_rfl) 6 (q := (((x == 0) = true -> qt) /\ ((x == 0) = false -> (((x - 1 == 0) = true -> qt) /\ ((x - 1 == 0) = false -> (((x - 1 - 1 == 0) = true -> qt) /\ ((x - 1 - 1 == 0) = false -> False))))))) (by
 refine ⟨fun hc1 => ?_, fun hc1 => ?_⟩
 · simp only [beq_iff_eq, beq_eq_false_iff_ne, ne_eq, decide_eq_true_eq, decide_eq_false_iff_not, Int.not_le, Int.not_lt] at hc1
   rfl
 · simp only [beq_iff_eq, beq_eq_false_iff_ne, ne_eq, decide_eq_true_eq, decide_eq_false_iff_not, Int.not_le, Int.not_lt] at hc1
   refine ⟨fun hc2 => ?_, fun hc2 => ?_⟩
   · simp only [beq_iff_eq, beq_eq_false_iff_ne, ne_eq, decide_eq_true_eq, decide_eq_false_iff_not, Int.not_le, Int.not_lt] at hc2
     rfl
   · simp only [beq_iff_eq, beq_eq_false_iff_ne, ne_eq, decide_eq_true_eq, decide_eq_false_iff_not, Int.not_le, Int.not_lt] at hc2
     refine ⟨fun hc3 => ?_, fun hc3 => ?_⟩
     · simp only [beq_iff_eq, beq_eq_false_iff_ne, ne_eq, decide_eq_true_eq, decide_eq_false_iff_not, Int.not_le, Int.not_lt] at hc3
       rfl
     · simp only [beq_iff_eq, beq_eq_false_iff_ne, ne_eq, decide_eq_true_eq, decide_eq_false_iff_not, Int.not_le, Int.not_lt] at hc3
       omega
 ) (by kernel_rfl)
theorem e_s (x : Int) (h0 : 3 <= x) (h1 : x <= 20000) (ih : LT (e (x - 3))) : LT (e x) := seg_lt (tl := []) (es := [e (x - 3)]) [] au (Q5 ih) (NC rfl) (by kernel_rfl) (by kernel_rfl) (by kernel_rfl) 6 (q := (((x == 0) = true -> qt) /\ ((x == 0) = false -> (((x - 1 == 0) = true -> qt) /\ ((x - 1 == 0) = false -> (((x - 1 - 1 == 0) = true -> qt) /\ ((x - 1 - 1 == 0) = false -> (x - 3 = x - 1 - 1 - 1 /\ 0 <= x - 3 /\ x - 3 <= 20000) /\
 qt))))))) (by
 refine ⟨fun hc1 => ?_, fun hc1 => ?_⟩
 · simp only [beq_iff_eq, beq_eq_false_iff_ne, ne_eq, decide_eq_true_eq, decide_eq_false_iff_not, Int.not_le, Int.not_lt] at hc1
   rfl
 · simp only [beq_iff_eq, beq_eq_false_iff_ne, ne_eq, decide_eq_true_eq, decide_eq_false_iff_not, Int.not_le, Int.not_lt] at hc1
   refine ⟨fun hc2 => ?_, fun hc2 => ?_⟩
   · simp only [beq_iff_eq, beq_eq_false_iff_ne, ne_eq, decide_eq_true_eq, decide_eq_false_iff_not, Int.not_le, Int.not_lt] at hc2
     rfl
   · simp only [beq_iff_eq, beq_eq_false_iff_ne, ne_eq, decide_eq_true_eq, decide_eq_false_iff_not, Int.not_le, Int.not_lt] at hc2
     refine ⟨fun hc3 => ?_, fun hc3 => ?_⟩
     · simp only [beq_iff_eq, beq_eq_false_iff_ne, ne_eq, decide_eq_true_eq, decide_eq_false_iff_not, Int.not_le, Int.not_lt] at hc3
       rfl
     · simp only [beq_iff_eq, beq_eq_false_iff_ne, ne_eq, decide_eq_true_eq, decide_eq_false_iff_not, Int.not_le, Int.not_lt] at hc3
       refine ⟨by omega, ?_⟩
       rfl
 ) (by kernel_rfl)
theorem all : ∀ (n : Nat) (x : Int), 0 <= x -> x < n -> n <= 20001 -> LT (e x)
 | 0, x, h0, h1, _ => by omega
 | n + 1, x, h0, h1, hn => by
   by_cases h : x < 3
   · exact e_b x h0 h
   · exact e_s x (by omega) (by omega) (all n (x - 3) (by omega) (by omega) (by omega))
theorem YV : Ll prog 126 p := Vy (tl := []) (es := [e 19997]) (l := (e 19997).al) [] au (Q5 (all 20001 19997 (by omega) (by omega) (by omega))) (NC rfl) (by kernel_rfl) (by kernel_rfl) (by kernel_rfl) 6 (q := ((19997 : Int) = (19997 : Int) /\ (0 : Int) <= (19997 : Int) /\ (19997 : Int) <= (20000 : Int)) /\
 qt) (by
 refine ⟨by omega, ?_⟩
 rfl
 ) (by kernel_rfl)
end Gv.KGraftRefused
