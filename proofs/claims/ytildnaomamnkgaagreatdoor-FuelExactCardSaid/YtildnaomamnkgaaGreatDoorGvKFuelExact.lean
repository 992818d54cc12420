/- The loop of the machine in FuelExact, told. Printed by loopOne.py. -/
import Derived.Test.YtildnaomamnkgaaGreatDoorGvO
set_option linter.unusedSimpArgs false
set_option linter.unusedVariables false
set_option maxRecDepth 100000
open Rx Go Gv Rd
namespace Gv.KFuelExact
noncomputable section
def z1 : ByteArray := ⟨#[102]⟩
def z2 : ByteArray := ⟨#[61]⟩
def z3 : ByteArray := ⟨#[45]⟩
def fns : Ob := vc 99 4 2 [I 1, I 1, I 0, V 6 8 0 21, I 0, I 0, I 0, J] false
def globs : Ob := vc 54 4 1 [S z1, C 5, C 0, S s0] false
def words : Ob := vc 52 3 2 [C 8, C 0, S s0, C 1, I 0, S s0] false
def O5 : Ob := vc 190 8 21 [C 1, I 0, I 0, S s0, S s0, I 0, I 0, S s0, C 1, I 0, I 0, S s0, S s0, I 0, I 0, S s0, C 1, I 0, I 0, S s0, S s0, I 0, I 0, S s0, C 3, C 0, I 0, S s0, S s0, I 0, I 0, S s0, C 1, I 0, I 0, S s0, S s0, I 0, I 0, S s0, C 2, I 0, I 0, S s0, S s0, C 1, C 0, S s0, C 18, C 2, I 0, S z2, S s0, I 0, I 0, S s0, C 16, I 11, I 0, S s0, S s0, I 0, I 0, S s0, C 1, I 0, I 0, S s0, S s0, I 0, I 0, S s0, C 2, I 0, I 0, S s0, S s0, C 1, C 1, S s0, C 14, I 0, I 0, S s0, S s0, I 0, I 0, S s0, C 1, I 0, I 0, S s0, S s0, I 0, I 0, S s0, C 1, I 0, I 0, S s0, S s0, I 0, I 0, S s0, C 9, I 0, I 0, S z1, S s0, I 0, I 0, S s0, C 1, I 0, I 0, S s0, S s0, I 0, I 0, S s0, C 1, I 0, I 0, S s0, S s0, I 0, I 0, S s0, C 3, C 0, I 0, S s0, S s0, I 0, I 0, S s0, C 1, I 0, I 0, S s0, S s0, I 0, I 0, S s0, C 2, I 0, I 0, S s0, S s0, C 1, C 1, S s0, C 18, C 2, I 0, S z3, S s0, I 0, I 0, S s0, C 13, C 1, I 0, S s0, S s0, I 0, I 0, S s0] false
def e (k x : Int) : ME := ⟨9, [.ptr 0 0, I 0, J, J, .ptr 1 0], [some (.cells 160 [V 2 4 0 2, V 3 4 0 1, aH, V 4 3 0 2, C 2000, V 5 1 0 1, .ri .i64 0 899 x, I 0]), some (.cells 52 [I 0, I 0, S s0]), some (fns), some (globs), some (words), some (vc 253 1 1 [.ptr 7 0] false), some (O5), some (.cells 255 [C 0, I 0, C 5, C 0, S s0, V 8 3 0 1, aH]), some (vc 52 3 1 [C 1, .ri .i64 0 99 k, S s0] false)], .tup [.agg [C 1, C 1, S s0], I 0], [some (.cells 160 [V 2 4 0 2, V 3 4 0 1, aH, V 4 3 0 2, C 2000, J, J, I 0]), none, some fns, some globs, some words, none, some O5, none, none]⟩
def f (k x : Int) : ME := ⟨9, [.ptr 0 0, I 0, J, J, .ptr 1 0], [some (.cells 160 [V 2 4 0 2, V 3 4 0 1, aH, V 4 3 0 2, C 2000, V 5 1 0 1, .ri .i64 0 899 x, I 0]), some (.cells 52 [I 0, I 0, S s0]), some (fns), some (globs), some (words), some (vc 253 1 1 [.ptr 7 0] false), some (O5), some (.cells 255 [C 0, I 0, C 5, C 0, S s0, V 8 3 0 1, aH]), some (vc 52 3 1 [C 1, .ri .i64 0 99 k, S s0] false)], .tup [.agg [I 0, I 0, S s0], I 11], [none, none, none, none, none, none, none, none, none]⟩
def p (k x : Int) : ME := ⟨8, [.ptr 0 0, I 0], [some (.cells 160 [V 1 4 0 2, V 2 4 0 1, aH, V 3 3 0 2, C 2000, V 4 1 0 1, .ri .i64 0 899 x, I 0]), some (vc 99 4 2 [I 1, I 1, I 0, V 6 8 0 21, I 0, I 0, I 0, V 5 8 0 6] false), some (vc 54 4 1 [S z1, C 5, C 0, S s0] false), some (vc 52 3 2 [C 8, C 0, S s0, C 1, I 0, S s0] false), some (vc 253 1 1 [.ptr 7 0] false), some (vc 190 8 6 [C 1, I 0, I 0, S s0, S s0, I 0, I 0, S s0, C 1, I 0, I 0, S s0, S s0, I 0, I 0, S s0, C 9, I 0, I 0, S z1, S s0, I 0, I 0, S s0, C 1, I 0, I 0, S s0, S s0, I 0, I 0, S s0, C 2, I 0, I 0, S s0, S s0, C 1, .ri .i64 0 99 k, S s0, C 13, C 1, I 0, S s0, S s0, I 0, I 0, S s0] false), some (vc 190 8 21 [C 1, I 0, I 0, S s0, S s0, I 0, I 0, S s0, C 1, I 0, I 0, S s0, S s0, I 0, I 0, S s0, C 1, I 0, I 0, S s0, S s0, I 0, I 0, S s0, C 3, C 0, I 0, S s0, S s0, I 0, I 0, S s0, C 1, I 0, I 0, S s0, S s0, I 0, I 0, S s0, C 2, I 0, I 0, S s0, S s0, C 1, C 0, S s0, C 18, C 2, I 0, S z2, S s0, I 0, I 0, S s0, C 16, I 11, I 0, S s0, S s0, I 0, I 0, S s0, C 1, I 0, I 0, S s0, S s0, I 0, I 0, S s0, C 2, I 0, I 0, S s0, S s0, C 1, C 1, S s0, C 14, I 0, I 0, S s0, S s0, I 0, I 0, S s0, C 1, I 0, I 0, S s0, S s0, I 0, I 0, S s0, C 1, I 0, I 0, S s0, S s0, I 0, I 0, S s0, C 9, I 0, I 0, S z1, S s0, I 0, I 0, S s0, C 1, I 0, I 0, S s0, S s0, I 0, I 0, S s0, C 1, I 0, I 0, S s0, S s0, I 0, I 0, S s0, C 3, C 0, I 0, S s0, S s0, I 0, I 0, S s0, C 1, I 0, I 0, S s0, S s0, I 0, I 0, S s0, C 2, I 0, I 0, S s0, S s0, C 1, C 1, S s0, C 18, C 2, I 0, S z3, S s0, I 0, I 0, S s0, C 13, C 1, I 0, S s0, S s0, I 0, I 0, S s0] false), some (.cells 255 [C 1, I 0, C 3, I 0, S s0, aH, aH])], .tup [.agg [C 1, C 1, S s0], I 0], [some (.cells 160 [V 1 4 0 2, V 2 4 0 1, aH, V 3 3 0 2, C 2000, J, J, I 0]), some (vc 99 4 2 [I 1, I 1, I 0, V 6 8 0 21, I 0, I 0, I 0, J] false), some (vc 54 4 1 [S z1, C 5, C 0, S s0] false), some (vc 52 3 2 [C 8, C 0, S s0, C 1, I 0, S s0] false), none, none, some (vc 190 8 21 [C 1, I 0, I 0, S s0, S s0, I 0, I 0, S s0, C 1, I 0, I 0, S s0, S s0, I 0, I 0, S s0, C 1, I 0, I 0, S s0, S s0, I 0, I 0, S s0, C 3, C 0, I 0, S s0, S s0, I 0, I 0, S s0, C 1, I 0, I 0, S s0, S s0, I 0, I 0, S s0, C 2, I 0, I 0, S s0, S s0, C 1, C 0, S s0, C 18, C 2, I 0, S z2, S s0, I 0, I 0, S s0, C 16, I 11, I 0, S s0, S s0, I 0, I 0, S s0, C 1, I 0, I 0, S s0, S s0, I 0, I 0, S s0, C 2, I 0, I 0, S s0, S s0, C 1, C 1, S s0, C 14, I 0, I 0, S s0, S s0, I 0, I 0, S s0, C 1, I 0, I 0, S s0, S s0, I 0, I 0, S s0, C 1, I 0, I 0, S s0, S s0, I 0, I 0, S s0, C 9, I 0, I 0, S z1, S s0, I 0, I 0, S s0, C 1, I 0, I 0, S s0, S s0, I 0, I 0, S s0, C 1, I 0, I 0, S s0, S s0, I 0, I 0, S s0, C 3, C 0, I 0, S s0, S s0, I 0, I 0, S s0, C 1, I 0, I 0, S s0, S s0, I 0, I 0, S s0, C 2, I 0, I 0, S s0, S s0, C 1, C 1, S s0, C 18, C 2, I 0, S z3, S s0, I 0, I 0, S s0, C 13, C 1, I 0, S s0, S s0, I 0, I 0, S s0] false), none]⟩
def q (k x : Int) : ME := ⟨8, [.ptr 0 0, I 0], [some (.cells 160 [V 1 4 0 2, V 2 4 0 1, aH, V 3 3 0 2, C 2000, V 4 1 0 1, .ri .i64 0 899 x, I 0]), some (vc 99 4 2 [I 1, I 1, I 0, V 6 8 0 21, I 0, I 0, I 0, V 5 8 0 6] false), some (vc 54 4 1 [S z1, C 5, C 0, S s0] false), some (vc 52 3 2 [C 8, C 0, S s0, C 1, I 0, S s0] false), some (vc 253 1 1 [.ptr 7 0] false), some (vc 190 8 6 [C 1, I 0, I 0, S s0, S s0, I 0, I 0, S s0, C 1, I 0, I 0, S s0, S s0, I 0, I 0, S s0, C 9, I 0, I 0, S z1, S s0, I 0, I 0, S s0, C 1, I 0, I 0, S s0, S s0, I 0, I 0, S s0, C 2, I 0, I 0, S s0, S s0, C 1, .ri .i64 0 99 k, S s0, C 13, C 1, I 0, S s0, S s0, I 0, I 0, S s0] false), some (vc 190 8 21 [C 1, I 0, I 0, S s0, S s0, I 0, I 0, S s0, C 1, I 0, I 0, S s0, S s0, I 0, I 0, S s0, C 1, I 0, I 0, S s0, S s0, I 0, I 0, S s0, C 3, C 0, I 0, S s0, S s0, I 0, I 0, S s0, C 1, I 0, I 0, S s0, S s0, I 0, I 0, S s0, C 2, I 0, I 0, S s0, S s0, C 1, C 0, S s0, C 18, C 2, I 0, S z2, S s0, I 0, I 0, S s0, C 16, I 11, I 0, S s0, S s0, I 0, I 0, S s0, C 1, I 0, I 0, S s0, S s0, I 0, I 0, S s0, C 2, I 0, I 0, S s0, S s0, C 1, C 1, S s0, C 14, I 0, I 0, S s0, S s0, I 0, I 0, S s0, C 1, I 0, I 0, S s0, S s0, I 0, I 0, S s0, C 1, I 0, I 0, S s0, S s0, I 0, I 0, S s0, C 9, I 0, I 0, S z1, S s0, I 0, I 0, S s0, C 1, I 0, I 0, S s0, S s0, I 0, I 0, S s0, C 1, I 0, I 0, S s0, S s0, I 0, I 0, S s0, C 3, C 0, I 0, S s0, S s0, I 0, I 0, S s0, C 1, I 0, I 0, S s0, S s0, I 0, I 0, S s0, C 2, I 0, I 0, S s0, S s0, C 1, C 1, S s0, C 18, C 2, I 0, S z3, S s0, I 0, I 0, S s0, C 13, C 1, I 0, S s0, S s0, I 0, I 0, S s0] false), some (.cells 255 [C 1, I 0, C 3, I 0, S s0, aH, aH])], .tup [.agg [I 0, I 0, S s0], I 11], [none, none, none, none, none, none, none, none]⟩
end
theorem e_s (k x : Int) (h0 : 0 <= k) (h1 : k <= 99) (hx : 0 <= x) (hy : x <= 899) (hf : 9 * k + 5 <= x) (ih : 0 < k /\ 9 <= x -> LT (e (k - 1) (x - 9))) : LT (e k x) := LM (tl := []) (es := [e (k - 1) (x - 9)]) (p := 0 < k /\ 9 <= x) [] aW (fun hp => EZ (ih hp)) (yT rfl) (by kernel_rfl) (by kernel_rfl) (by kernel_rfl) 18 (q := (((x == 0) = true -> False) /\ ((x == 0) = false -> (((x - 1 == 0) = true -> False) /\ ((x - 1 == 0) = false -> (((x - 1 - 1 == 0) = true -> False) /\ ((x - 1 - 1 == 0) = false -> (((x - 1 - 1 - 1 == 0) = true -> False) /\ ((x - 1 - 1 - 1 == 0) = false -> (((k == 0) = true -> (((x - 1 - 1 - 1 - 1 == 0) = true -> False) /\ ((x - 1 - 1 - 1 - 1 == 0) = false -> qt))) /\ ((k == 0) = false -> (((x - 1 - 1 - 1 - 1 == 0) = true -> False) /\ ((x - 1 - 1 - 1 - 1 == 0) = false -> (((x - 1 - 1 - 1 - 1 - 1 == 0) = true -> False) /\ ((x - 1 - 1 - 1 - 1 - 1 == 0) = false -> (((x - 1 - 1 - 1 - 1 - 1 - 1 == 0) = true -> False) /\ ((x - 1 - 1 - 1 - 1 - 1 - 1 == 0) = false -> (((x - 1 - 1 - 1 - 1 - 1 - 1 - 1 == 0) = true -> False) /\ ((x - 1 - 1 - 1 - 1 - 1 - 1 - 1 == 0) = false -> (((x - 1 - 1 - 1 - 1 - 1 - 1 - 1 - 1 == 0) = true -> False) /\ ((x - 1 - 1 - 1 - 1 - 1 - 1 - 1 - 1 == 0) = false -> (0 < k /\ 9 <= x) /\
 (x - 9 = x - 1 - 1 - 1 - 1 - 1 - 1 - 1 - 1 - 1 /\ 0 <= x - 9 /\ x - 9 <= 899) /\
 (k - 1 = k - 1 /\ 0 <= k - 1 /\ k - 1 <= 99) /\
 qt))))))))))))))))))))) (by
 refine ⟨fun hc1 => ?_, fun hc1 => ?_⟩
 · simp only [beq_iff_eq, beq_eq_false_iff_ne, ne_eq, decide_eq_true_eq, decide_eq_false_iff_not, Int.not_le, Int.not_lt] at hc1
   omega
 · simp only [beq_iff_eq, beq_eq_false_iff_ne, ne_eq, decide_eq_true_eq, decide_eq_false_iff_not, Int.not_le, Int.not_lt] at hc1
   refine ⟨fun hc2 => ?_, fun hc2 => ?_⟩
   · simp only [beq_iff_eq, beq_eq_false_iff_ne, ne_eq, decide_eq_true_eq, decide_eq_false_iff_not, Int.not_le, Int.not_lt] at hc2
     omega
   · simp only [beq_iff_eq, beq_eq_false_iff_ne, ne_eq, decide_eq_true_eq, decide_eq_false_iff_not, Int.not_le, Int.not_lt] at hc2
     refine ⟨fun hc3 => ?_, fun hc3 => ?_⟩
     · simp only [beq_iff_eq, beq_eq_false_iff_ne, ne_eq, decide_eq_true_eq, decide_eq_false_iff_not, Int.not_le, Int.not_lt] at hc3
       omega
     · simp only [beq_iff_eq, beq_eq_false_iff_ne, ne_eq, decide_eq_true_eq, decide_eq_false_iff_not, Int.not_le, Int.not_lt] at hc3
       refine ⟨fun hc4 => ?_, fun hc4 => ?_⟩
       · simp only [beq_iff_eq, beq_eq_false_iff_ne, ne_eq, decide_eq_true_eq, decide_eq_false_iff_not, Int.not_le, Int.not_lt] at hc4
         omega
       · simp only [beq_iff_eq, beq_eq_false_iff_ne, ne_eq, decide_eq_true_eq, decide_eq_false_iff_not, Int.not_le, Int.not_lt] at hc4
         refine ⟨fun hc5 => ?_, fun hc5 => ?_⟩
         · simp only [beq_iff_eq, beq_eq_false_iff_ne, ne_eq, decide_eq_true_eq, decide_eq_false_iff_not, Int.not_le, Int.not_lt] at hc5
           refine ⟨fun hc6 => ?_, fun hc6 => ?_⟩
           · simp only [beq_iff_eq, beq_eq_false_iff_ne, ne_eq, decide_eq_true_eq, decide_eq_false_iff_not, Int.not_le, Int.not_lt] at hc6
             omega
           · simp only [beq_iff_eq, beq_eq_false_iff_ne, ne_eq, decide_eq_true_eq, decide_eq_false_iff_not, Int.not_le, Int.not_lt] at hc6
             rfl
         · simp only [beq_iff_eq, beq_eq_false_iff_ne, ne_eq, decide_eq_true_eq, decide_eq_false_iff_not, Int.not_le, Int.not_lt] at hc5
           refine ⟨fun hc6 => ?_, fun hc6 => ?_⟩
           · simp only [beq_iff_eq, beq_eq_false_iff_ne, ne_eq, decide_eq_true_eq, decide_eq_false_iff_not, Int.not_le, Int.not_lt] at hc6
             omega
           · simp only [beq_iff_eq, beq_eq_false_iff_ne, ne_eq, decide_eq_true_eq, decide_eq_false_iff_not, Int.not_le, Int.not_lt] at hc6
             refine ⟨fun hc7 => ?_, fun hc7 => ?_⟩
             · simp only [beq_iff_eq, beq_eq_false_iff_ne, ne_eq, decide_eq_true_eq, decide_eq_false_iff_not, Int.not_le, Int.not_lt] at hc7
               omega
             · simp only [beq_iff_eq, beq_eq_false_iff_ne, ne_eq, decide_eq_true_eq, decide_eq_false_iff_not, Int.not_le, Int.not_lt] at hc7
               refine ⟨fun hc8 => ?_, fun hc8 => ?_⟩
               · simp only [beq_iff_eq, beq_eq_false_iff_ne, ne_eq, decide_eq_true_eq, decide_eq_false_iff_not, Int.not_le, Int.not_lt] at hc8
                 omega
               · simp only [beq_iff_eq, beq_eq_false_iff_ne, ne_eq, decide_eq_true_eq, decide_eq_false_iff_not, Int.not_le, Int.not_lt] at hc8
                 refine ⟨fun hc9 => ?_, fun hc9 => ?_⟩
                 · simp only [beq_iff_eq, beq_eq_false_iff_ne, ne_eq, decide_eq_true_eq, decide_eq_false_iff_not, Int.not_le, Int.not_lt] at hc9
                   omega
                 · simp only [beq_iff_eq, beq_eq_false_iff_ne, ne_eq, decide_eq_true_eq, decide_eq_false_iff_not, Int.not_le, Int.not_lt] at hc9
                   refine ⟨fun hc10 => ?_, fun hc10 => ?_⟩
                   · simp only [beq_iff_eq, beq_eq_false_iff_ne, ne_eq, decide_eq_true_eq, decide_eq_false_iff_not, Int.not_le, Int.not_lt] at hc10
                     omega
                   · simp only [beq_iff_eq, beq_eq_false_iff_ne, ne_eq, decide_eq_true_eq, decide_eq_false_iff_not, Int.not_le, Int.not_lt] at hc10
                     refine ⟨by omega, ?_⟩
                     refine ⟨by omega, ?_⟩
                     refine ⟨by omega, ?_⟩
                     rfl
 ) (by kernel_rfl)
theorem Ua : ∀ (m : Nat) (k x : Int), k = m -> m <= 99 -> 0 <= x -> x <= 899 -> 9 * k + 5 <= x -> LT (e k x)
 | 0, k, x, hk, hn, hx, hy, hf => e_s k x (by omega) (by omega) hx hy hf (fun hp => absurd hp (by omega))
 | m + 1, k, x, hk, hn, hx, hy, hf => e_s k x (by omega) (by omega) hx hy hf (fun hp => Ua m (k - 1) (x - 9) (by omega) (by omega) (by omega) (by omega) (by omega))
theorem X9 (k x : Int) (h0 : 0 <= k) (h1 : k <= 99) (hx : 3 <= x) (hy : x <= 899) (hf : 9 * k + 8 <= x) : BZ prog 67 (p k x) := by
 obtain ⟨y, hyx⟩ : ∃ y : Int, y = x - 3 := ⟨_, rfl⟩
 exact OA (tl := []) (es := [e k y]) (l := (e k y).al) [] aW (EZ (Ua k.toNat k y (by omega) (by omega) (by omega) (by omega) (by omega))) (yT rfl) (by kernel_rfl) (by kernel_rfl) (by kernel_rfl) 6 (q := (((x == 0) = true -> False) /\ ((x == 0) = false -> (((x - 1 == 0) = true -> False) /\ ((x - 1 == 0) = false -> (((x - 1 - 1 == 0) = true -> False) /\ ((x - 1 - 1 == 0) = false -> (y = x - 1 - 1 - 1 /\ 0 <= y /\ y <= 899) /\
 rp (en (k)) 1 (qt)))))))) (by
 refine ⟨fun hc1 => ?_, fun hc1 => ?_⟩
 · simp only [beq_iff_eq, beq_eq_false_iff_ne, ne_eq, decide_eq_true_eq, decide_eq_false_iff_not, Int.not_le, Int.not_lt] at hc1
   omega
 · simp only [beq_iff_eq, beq_eq_false_iff_ne, ne_eq, decide_eq_true_eq, decide_eq_false_iff_not, Int.not_le, Int.not_lt] at hc1
   refine ⟨fun hc2 => ?_, fun hc2 => ?_⟩
   · simp only [beq_iff_eq, beq_eq_false_iff_ne, ne_eq, decide_eq_true_eq, decide_eq_false_iff_not, Int.not_le, Int.not_lt] at hc2
     omega
   · simp only [beq_iff_eq, beq_eq_false_iff_ne, ne_eq, decide_eq_true_eq, decide_eq_false_iff_not, Int.not_le, Int.not_lt] at hc2
     refine ⟨fun hc3 => ?_, fun hc3 => ?_⟩
     · simp only [beq_iff_eq, beq_eq_false_iff_ne, ne_eq, decide_eq_true_eq, decide_eq_false_iff_not, Int.not_le, Int.not_lt] at hc3
       omega
     · simp only [beq_iff_eq, beq_eq_false_iff_ne, ne_eq, decide_eq_true_eq, decide_eq_false_iff_not, Int.not_le, Int.not_lt] at hc3
       refine ⟨by omega, ?_⟩
       refine oq rfl _ ?_
       rfl
 ) (by kernel_rfl)
theorem f_s (k x : Int) (h0 : 0 <= k) (h1 : k <= 99) (hx : 0 <= x) (hy : x <= 899) (hf : x < 9 * k + 5) (ih : 0 < k /\ 9 <= x -> LT (f (k - 1) (x - 9))) : LT (f k x) := LM (tl := []) (es := [f (k - 1) (x - 9)]) (p := 0 < k /\ 9 <= x) [] aW (fun hp => EZ (ih hp)) (yT rfl) (by kernel_rfl) (by kernel_rfl) (by kernel_rfl) 18 (q := (((x == 0) = true -> qt) /\ ((x == 0) = false -> (((x - 1 == 0) = true -> qt) /\ ((x - 1 == 0) = false -> (((x - 1 - 1 == 0) = true -> qt) /\ ((x - 1 - 1 == 0) = false -> (((x - 1 - 1 - 1 == 0) = true -> qt) /\ ((x - 1 - 1 - 1 == 0) = false -> (((k == 0) = true -> (((x - 1 - 1 - 1 - 1 == 0) = true -> qt) /\ ((x - 1 - 1 - 1 - 1 == 0) = false -> False))) /\ ((k == 0) = false -> (((x - 1 - 1 - 1 - 1 == 0) = true -> qt) /\ ((x - 1 - 1 - 1 - 1 == 0) = false -> (((x - 1 - 1 - 1 - 1 - 1 == 0) = true -> qt) /\ ((x - 1 - 1 - 1 - 1 - 1 == 0) = false -> (((x - 1 - 1 - 1 - 1 - 1 - 1 == 0) = true -> qt) /\ ((x - 1 - 1 - 1 - 1 - 1 - 1 == 0) = false -> (((x - 1 - 1 - 1 - 1 - 1 - 1 - 1 == 0) = true -> qt) /\ ((x - 1 - 1 - 1 - 1 - 1 - 1 - 1 == 0) = false -> (((x - 1 - 1 - 1 - 1 - 1 - 1 - 1 - 1 == 0) = true -> qt) /\ ((x - 1 - 1 - 1 - 1 - 1 - 1 - 1 - 1 == 0) = false -> (0 < k /\ 9 <= x) /\
 (x - 9 = x - 1 - 1 - 1 - 1 - 1 - 1 - 1 - 1 - 1 /\ 0 <= x - 9 /\ x - 9 <= 899) /\
 (k - 1 = k - 1 /\ 0 <= k - 1 /\ k - 1 <= 99) /\
 qt))))))))))))))))))))) (by
 refine ⟨fun hc1 => ?_, fun hc1 => ?_⟩
 · simp only [beq_iff_eq, beq_eq_false_iff_ne, ne_eq, decide_eq_true_eq, decide_eq_false_iff_not, Int.not_le, Int.not_lt] at hc1
   rfl
 · simp only [beq_iff_eq, beq_eq_false_iff_ne, ne_eq, decide_eq_true_eq, decide_eq_false_iff_not, Int.not_le, Int.not_lt] at hc1
   refine ⟨fun hc2 => ?_, fun hc2 => ?_⟩
   · simp only [beq_iff_eq, beq_eq_false_iff_ne, ne_eq, decide_eq_true_eq, decide_eq_false_iff_not, Int.not_le, Int.not_lt] at hc2
     rfl
   · simp only [beq_iff_eq, beq_eq_false_iff_ne, ne_eq, decide_eq_true_eq, decide_eq_false_iff_not, Int.not_le, Int.not_lt] at hc2
     refine ⟨fun hc3 => ?_, fun hc3 => ?_⟩
     · simp only [beq_iff_eq, beq_eq_false_iff_ne, ne_eq, decide_eq_true_eq, decide_eq_false_iff_not, Int.not_le, Int.not_lt] at hc3
       rfl
     · simp only [beq_iff_eq, beq_eq_false_iff_ne, ne_eq, decide_eq_true_eq, decide_eq_false_iff_not, Int.not_le, Int.not_lt] at hc3
       refine ⟨fun hc4 => ?_, fun hc4 => ?_⟩
       · simp only [beq_iff_eq, beq_eq_false_iff_ne, ne_eq, decide_eq_true_eq, decide_eq_false_iff_not, Int.not_le, Int.not_lt] at hc4
         rfl
       · simp only [beq_iff_eq, beq_eq_false_iff_ne, ne_eq, decide_eq_true_eq, decide_eq_false_iff_not, Int.not_le, Int.not_lt] at hc4
         refine ⟨fun hc5 => ?_, fun hc5 => ?_⟩
         · simp only [beq_iff_eq, beq_eq_false_iff_ne, ne_eq, decide_eq_true_eq, decide_eq_false_iff_not, Int.not_le, Int.not_lt] at hc5
           refine ⟨fun hc6 => ?_, fun hc6 => ?_⟩
           · simp only [beq_iff_eq, beq_eq_false_iff_ne, ne_eq, decide_eq_true_eq, decide_eq_false_iff_not, Int.not_le, Int.not_lt] at hc6
             rfl
           · simp only [beq_iff_eq, beq_eq_false_iff_ne, ne_eq, decide_eq_true_eq, decide_eq_false_iff_not, Int.not_le, Int.not_lt] at hc6
             omega
         · simp only [beq_iff_eq, beq_eq_false_iff_ne, ne_eq, decide_eq_true_eq, decide_eq_false_iff_not, Int.not_le, Int.not_lt] at hc5
           refine ⟨fun hc6 => ?_, fun hc6 => ?_⟩
           · simp only [beq_iff_eq, beq_eq_false_iff_ne, ne_eq, decide_eq_true_eq, decide_eq_false_iff_not, Int.not_le, Int.not_lt] at hc6
             rfl
           · simp only [beq_iff_eq, beq_eq_false_iff_ne, ne_eq, decide_eq_true_eq, decide_eq_false_iff_not, Int.not_le, Int.not_lt] at hc6
             refine ⟨fun hc7 => ?_, fun hc7 => ?_⟩
             · simp only [beq_iff_eq, beq_eq_false_iff_ne, ne_eq, decide_eq_true_eq, decide_eq_false_iff_not, Int.not_le, Int.not_lt] at hc7
               rfl
             · simp only [beq_iff_eq, beq_eq_false_iff_ne, ne_eq, decide_eq_true_eq, decide_eq_false_iff_not, Int.not_le, Int.not_lt] at hc7
               refine ⟨fun hc8 => ?_, fun hc8 => ?_⟩
               · simp only [beq_iff_eq, beq_eq_false_iff_ne, ne_eq, decide_eq_true_eq, decide_eq_false_iff_not, Int.not_le, Int.not_lt] at hc8
                 rfl
               · simp only [beq_iff_eq, beq_eq_false_iff_ne, ne_eq, decide_eq_true_eq, decide_eq_false_iff_not, Int.not_le, Int.not_lt] at hc8
                 refine ⟨fun hc9 => ?_, fun hc9 => ?_⟩
                 · simp only [beq_iff_eq, beq_eq_false_iff_ne, ne_eq, decide_eq_true_eq, decide_eq_false_iff_not, Int.not_le, Int.not_lt] at hc9
                   rfl
                 · simp only [beq_iff_eq, beq_eq_false_iff_ne, ne_eq, decide_eq_true_eq, decide_eq_false_iff_not, Int.not_le, Int.not_lt] at hc9
                   refine ⟨fun hc10 => ?_, fun hc10 => ?_⟩
                   · simp only [beq_iff_eq, beq_eq_false_iff_ne, ne_eq, decide_eq_true_eq, decide_eq_false_iff_not, Int.not_le, Int.not_lt] at hc10
                     rfl
                   · simp only [beq_iff_eq, beq_eq_false_iff_ne, ne_eq, decide_eq_true_eq, decide_eq_false_iff_not, Int.not_le, Int.not_lt] at hc10
                     refine ⟨by omega, ?_⟩
                     refine ⟨by omega, ?_⟩
                     refine ⟨by omega, ?_⟩
                     rfl
 ) (by kernel_rfl)
theorem TY : ∀ (m : Nat) (k x : Int), k = m -> m <= 99 -> 0 <= x -> x <= 899 -> x < 9 * k + 5 -> LT (f k x)
 | 0, k, x, hk, hn, hx, hy, hf => f_s k x (by omega) (by omega) hx hy hf (fun hp => absurd hp (by omega))
 | m + 1, k, x, hk, hn, hx, hy, hf => f_s k x (by omega) (by omega) hx hy hf (fun hp => TY m (k - 1) (x - 9) (by omega) (by omega) (by omega) (by omega) (by omega))
theorem Yi (k x : Int) (h0 : 0 <= k) (h1 : k <= 99) (hx : 3 <= x) (hy : x <= 899) (hf : x < 9 * k + 8) : BZ prog 67 (q k x) := by
 obtain ⟨y, hyx⟩ : ∃ y : Int, y = x - 3 := ⟨_, rfl⟩
 exact OA (tl := []) (es := [f k y]) (l := (f k y).al) [] aW (EZ (TY k.toNat k y (by omega) (by omega) (by omega) (by omega) (by omega))) (yT rfl) (by kernel_rfl) (by kernel_rfl) (by kernel_rfl) 6 (q := (((x == 0) = true -> qt) /\ ((x == 0) = false -> (((x - 1 == 0) = true -> qt) /\ ((x - 1 == 0) = false -> (((x - 1 - 1 == 0) = true -> qt) /\ ((x - 1 - 1 == 0) = false -> (y = x - 1 - 1 - 1 /\ 0 <= y /\ y <= 899) /\
 rp (en (k)) 1 (qt)))))))) (by
 refine ⟨fun hc1 => ?_, fun hc1 => ?_⟩
 · simp only [beq_iff_eq, beq_eq_false_iff_ne, ne_eq, decide_eq_true_eq, decide_eq_false_iff_not, Int.not_le, Int.not_lt] at hc1
   rfl
 · simp only [beq_iff_eq, beq_eq_false_iff_ne, ne_eq, decide_eq_true_eq, decide_eq_false_iff_not, Int.not_le, Int.not_lt] at hc1
   refine ⟨fun hc2 => ?_, fun hc2 => ?_⟩
   · simp only [beq_iff_eq, beq_eq_false_iff_ne, ne_eq, decide_eq_true_eq, decide_eq_false_iff_not, Int.not_le, Int.not_lt] at hc2
     rfl
   · simp only [beq_iff_eq, beq_eq_false_iff_ne, ne_eq, decide_eq_true_eq, decide_eq_false_iff_not, Int.not_le, Int.not_lt] at hc2
     refine ⟨fun hc3 => ?_, fun hc3 => ?_⟩
     · simp only [beq_iff_eq, beq_eq_false_iff_ne, ne_eq, decide_eq_true_eq, decide_eq_false_iff_not, Int.not_le, Int.not_lt] at hc3
       rfl
     · simp only [beq_iff_eq, beq_eq_false_iff_ne, ne_eq, decide_eq_true_eq, decide_eq_false_iff_not, Int.not_le, Int.not_lt] at hc3
       refine ⟨by omega, ?_⟩
       refine oq rfl _ ?_
       rfl
 ) (by kernel_rfl)
theorem Yj (n : Int) : BZ prog 67 (p (dK n 100) (3 + 9 * dK n 100 + 5)) := by
 have h := iQ n (m := 100) (by decide)
 exact X9 _ _ h.1 (by omega) (by omega) (by omega) (by omega)
theorem Yc (n : Int) : BZ prog 67 (q (dK n 100) (3 + 9 * dK n 100 + 5 - 1)) := by
 have h := iQ n (m := 100) (by decide)
 exact Yi _ _ h.1 (by omega) (by omega) (by omega) (by omega)
end Gv.KFuelExact
set_option linter.unusedVariables false
open Rx Go
namespace Gv.LFuelExact
open Gv Rd
noncomputable section
def s1 : ByteArray := ⟨#[100, 101, 102, 105, 110, 101]⟩
def s2 : ByteArray := ⟨#[102]⟩
def s3 : ByteArray := ⟨#[110]⟩
def s4 : ByteArray := ⟨#[105, 102]⟩
def s5 : ByteArray := ⟨#[61]⟩
def s6 : ByteArray := ⟨#[45]⟩
def s7 : ByteArray := ⟨#[40, 100, 101, 102, 105, 110, 101, 32, 40, 102, 32, 110, 41, 32, 40, 105, 102, 32, 40, 61, 32, 110, 32, 48, 41, 32, 49, 32, 40, 102, 32, 40, 45, 32, 110, 32, 49, 41, 41, 41, 41]⟩
theorem YL : s1.size = 6 := rfl
theorem YG : s1.data.toList = [100, 101, 102, 105, 110, 101] := rfl
theorem YF : s2.size = 1 := rfl
theorem YD : s2.data.toList = [102] := rfl
theorem YH : s3.size = 1 := rfl
theorem YE : s3.data.toList = [110] := rfl
theorem YC : s4.size = 2 := rfl
theorem YB : s4.data.toList = [105, 102] := rfl
theorem YI : s5.size = 1 := rfl
theorem Yy : s5.data.toList = [61] := rfl
theorem YO : s6.size = 1 := rfl
theorem YJ : s6.data.toList = [45] := rfl
theorem YM : s7.size = 41 := rfl
theorem YN : s7.data.toList = [40, 100, 101, 102, 105, 110, 101, 32, 40, 102, 32, 110, 41, 32, 40, 105, 102, 32, 40, 61, 32, 110, 32, 48, 41, 32, 49, 32, 40, 102, 32, 40, 45, 32, 110, 32, 49, 41, 41, 41, 41] := rfl
abbrev dR (n : Int) : Int := dK n 100
def o0 : Ob := vc 90 9 2 [C 2, I 0, I 0, S s0, aH, S s3, I 0, aH, aH, C 1, C 1, C 0, S s0, D (.arr 4 0 (dxL [])), S s0, I 0, aH, aH] false
def o1 : Ob := vc 90 9 2 [C 2, I 0, I 0, S s0, aH, S s3, I 0, aH, aH, C 1, C 1, C 1, S s0, D (.arr 4 0 (dxL [])), S s0, I 0, aH, aH] false
def o2 : Ob := vc 54 4 1 [S s2, C 3, I 0, S s0] false
def o3 : Ob := vc 190 8 21 [C 1, I 0, I 0, S s0, S s0, I 0, I 0, S s0, C 1, I 0, I 0, S s0, S s0, I 0, I 0, S s0, C 1, I 0, I 0, S s0, S s0, I 0, I 0, S s0, C 3, C 0, I 0, S s0, S s0, I 0, I 0, S s0, C 1, I 0, I 0, S s0, S s0, I 0, I 0, S s0, C 2, I 0, I 0, S s0, S s0, C 1, C 0, S s0, C 18, C 2, I 0, S s5, S s0, I 0, I 0, S s0, C 16, I 11, I 0, S s0, S s0, I 0, I 0, S s0, C 1, I 0, I 0, S s0, S s0, I 0, I 0, S s0, C 2, I 0, I 0, S s0, S s0, C 1, C 1, S s0, C 14, I 0, I 0, S s0, S s0, I 0, I 0, S s0, C 1, I 0, I 0, S s0, S s0, I 0, I 0, S s0, C 1, I 0, I 0, S s0, S s0, I 0, I 0, S s0, C 9, I 0, I 0, S s2, S s0, I 0, I 0, S s0, C 1, I 0, I 0, S s0, S s0, I 0, I 0, S s0, C 1, I 0, I 0, S s0, S s0, I 0, I 0, S s0, C 3, C 0, I 0, S s0, S s0, I 0, I 0, S s0, C 1, I 0, I 0, S s0, S s0, I 0, I 0, S s0, C 2, I 0, I 0, S s0, S s0, C 1, C 1, S s0, C 18, C 2, I 0, S s6, S s0, I 0, I 0, S s0, C 13, C 1, I 0, S s0, S s0, I 0, I 0, S s0] false
def o4 : Ob := vc 54 4 1 [S s2, J, J, J] false
def o5 : Ob := vc 52 3 2 [C 8, C 0, S s0, C 1, I 0, S s0] true
def o6 : Ob := vc 52 3 2 [C 8, C 0, S s0, C 1, I 0, S s0] false
def o7 : Ob := .mp (.int .i64) .bool [((0 : Int), true)]
def o8 : Ob := vc 54 4 1 [S s2, C 5, C 0, S s0] false
def o9 : Ob := .cells 255 [C 1, I 0, C 3, I 0, S s0, aH, aH]
def o10 : Ob := vc 99 4 2 [J, J, I 0, J, J, J, I 0, J] false
def p0 : Ob := vc 140 10 1 [S s2, C 6, I 0, I 0, S s0, aH, S s0, I 0, V 2 1 0 1, V 1 9 0 1] false
def p1 : Ob := vc 90 9 1 [C 4, I 0, I 0, S s0, aH, S s0, I 0, aH, V 3 9 0 3] true
def p2 : Ob := vc 90 9 3 [C 10, I 0, I 0, S s0, aH, S s5, I 0, aH, V 4 9 0 2, C 1, C 1, C 1, S s0, D (.arr 4 0 (dxL [])), S s0, I 0, aH, aH, C 9, I 0, I 0, S s0, aH, S s0, I 0, aH, V 5 9 0 2] false
def p3 : Ob := vc 90 9 2 [C 3, I 0, I 0, S s0, aH, S s2, I 0, aH, aH, C 10, I 0, I 0, S s0, aH, S s6, I 0, aH, V 6 9 0 2] false
def p4 : Ob := vc 99 4 1 [J, J, I 0, J] false
def p5 : Ob := vc 99 4 1 [I 1, I 1, I 0, V 3 8 0 21] false
def p6 : Ob := vc 99 4 1 [I 1, I 1, I 0, V 7 8 0 21] false
def p7 : Ob := vc 99 4 2 [I 1, I 1, I 0, V 3 8 0 21, I 0, I 0, I 0, J] false
def p8 : Ob := vc 99 4 1 [I 1, I 1, I 0, V 4 8 0 21] false
def p9 (n : Int) : Ob := vc 49 4 1 [C 1, .ri .i64 0 99 (dR n), S s0, aH] true
def a0 : SV := .agg [aH, aH, aH, aH, C 2000]
def a1 : SV := .agg [V 0 4 0 1, V 1 4 0 1, aH, J, J]
def a2 : SV := .agg [I 1, I 1, I 0, V 2 8 0 21]
def a3 : SV := .agg [V 0 4 0 1, V 1 4 0 1, aH, aH, C 2000]
def a4 : SV := .agg [V 0 4 0 1, V 1 4 0 1, aH, V 2 3 0 2, C 2000]
def a5 : SV := .agg [.sl 0 4 0 1 (some 1), V 1 4 0 1, aH, V 2 3 0 2, C 2000]
def w0 : List (Option Ob) := [some p0, some p1, some (vc 9 1 1 [S s3] false), some p2, some o0, some p3, some o1]
def w1 : List (Option Ob) := [some p5, some o8, some o6, some o3]
def w2 : List (Option Ob) := [some p7, some o8, some o6, some o3]
def w3 (n : Int) : List (Option Ob) := [some p8, some o8, some o6, some (p9 n), some o3]
def e0 (n : Int) : TE := ⟨0, [aH], [], .tup [.nm 0, .kb true], [some (.mp (.int .i64) .bool [])]⟩
def e1 (n : Int) : TE := ⟨0, [.agg [aH, C 2000]], [], I 0, []⟩
def e2 (n : Int) : TE := ⟨0, [.agg [aH, aH]], [], I 0, []⟩
def e3 (n : Int) : TE := ⟨0, [a0], [], I 0, []⟩
def e4 (n : Int) : TE := ⟨0, [a0], [], .tup [.agg [aH, aH], I 0], []⟩
def e5 (n : Int) : TE := ⟨0, [D (.arr 4 1 (dxL [(ls [(sy s1), (ls [(sy s2), (sy s3)]), (ls [(sy s4), (ls [(sy s5), (sy s3), (num 0)]), (num 1), (ls [(sy s2), (ls [(sy s6), (sy s3), (num 1)])])])])])), .agg [aH, aH]], [], .tup [.agg [aH, V 0 10 0 1, aH], I 0, I 0], w0⟩
def e6 (n : Int) : TE := ⟨1, [.agg [V 0 1 0 1, aH]], [some (vc 9 1 1 [S s2] false)], I 0, []⟩
def e7 (n : Int) : TE := ⟨0, [.agg [aH, C 50]], [], I 0, []⟩
def e8 (n : Int) : TE := ⟨3, [a1, a2], [some p4, some o4, some o3], .kb true, []⟩
def e9 (n : Int) : TE := ⟨3, [a3], [some (vc 99 4 1 [I 1, I 1, I 0, V 2 8 0 21] false), some o2, some o3], I 0, []⟩
def e10 (n : Int) : TE := ⟨1, [V 0 3 0 2], [some o6], .tup [.nm 1, .kb true], [some o7]⟩
def e11 (n : Int) : TE := ⟨1, [.agg [V 0 3 0 2, C 2000]], [some o6], I 0, []⟩
def e12 (n : Int) : TE := ⟨4, [a3, V 2 3 0 2, aH], [some p5, some o2, some o5, some o3], .tup [.agg [V 4 4 0 1, V 5 4 0 1, aH, V 6 3 0 2, C 2000], .agg [C 5, C 0, S s0], I 0], [some p6, some o2, some o6, some o3]⟩
def e13 (n : Int) : TE := ⟨7, [a0, .agg [aH, V 0 10 0 1, aH]], w0, .tup [.agg [V 7 4 0 1, V 8 4 0 1, aH, V 9 3 0 2, C 2000], I 0], [some (vc 99 4 1 [I 1, I 1, I 0, V 10 8 0 21] false), some o8, some o6, some o3]⟩
def e14 (n : Int) : TE := ⟨0, [a0, S s7], [], .tup [.agg [V 0 4 0 1, V 1 4 0 1, aH, V 2 3 0 2, C 2000], I 0], w1⟩
def e15 (n : Int) : TE := ⟨4, [a4], w1, I 0, []⟩
def e16 (n : Int) : TE := ⟨4, [a4], w1, .tup [.agg [V 4 1 0 1, aH], I 0], [some (vc 9 1 1 [S s2] false)]⟩
def e17 (n : Int) : TE := ⟨3, [a1, .agg [I 0, I 0, I 0, V 2 8 0 6]], [some p4, some o4, some (vc 190 8 6 [C 1, I 0, I 0, S s0, S s0, I 0, I 0, S s0, C 1, I 0, I 0, S s0, S s0, I 0, I 0, S s0, C 9, I 0, I 0, S s2, S s0, I 0, I 0, S s0, C 1, I 0, I 0, S s0, S s0, I 0, I 0, S s0, C 2, I 0, I 0, S s0, S s0, C 1, .ri .i64 0 99 (dR n), S s0, C 13, C 1, I 0, S s0, S s0, I 0, I 0, S s0] false)], .kb true, []⟩
def e18 (n : Int) : TE := ⟨3, [.agg [.sl 0 4 0 1 (some 1), V 1 4 0 1, aH, J, J], a2], [some o10, some o4, some o3], .kb true, []⟩
def e19 (n : Int) : TE := ⟨4, [a5], w2, I 0, []⟩
def e20 (n : Int) : TE := ⟨4, [a5, .agg [C 1, C 1, S s0]], w2, .tup [.agg [V 4 4 0 1, V 5 4 0 1, aH, V 6 3 0 2, C 2000], .sy (bT 1), I 0], [some p6, some o8, some o6, some o3]⟩
def e21 (n : Int) : TE := ⟨5, [a4, .agg [C 2, S s0, S s2, V 3 4 0 1, .ri .i64 8 899 ((3 : Int) + (9 : Int) * dR n + (5 : Int))]], (w3 n), .tup [.agg [V 5 4 0 1, V 6 4 0 1, aH, V 7 3 0 2, C 2000], .sy (bT 1), I 0], [some (vc 99 4 1 [I 1, I 1, I 0, V 8 8 0 21] false), some o8, some o6, some o3]⟩
def e22 (n : Int) : TE := ⟨5, [a4, .agg [C 2, S s0, S s2, V 3 4 0 1, .ri .i64 7 898 ((3 : Int) + (9 : Int) * dR n + (5 : Int) - (1 : Int))]], (w3 n), .tup [.agg [V 0 4 0 1, V 1 4 0 1, aH, V 2 3 0 2, C 2000], S s0, I 11], []⟩
end
theorem fx (n : Int) : 0 <= dR n /\ dR n < 100 /\ (bT (dR n)).size <= 3 /\ 0 < (bT (dR n)).size /\ (bT 1).size <= 3 /\ 0 < (bT 1).size := by
 have h0 : 0 <= dR n := (iQ n (by decide)).1
 have h1 : dR n < 100 := (iQ n (by decide)).2
 refine ⟨h0, h1, IG (by omega) (by omega), KW (by omega) (by omega), IG (by omega) (by omega), KW (by omega) (by omega)⟩
end Gv.LFuelExact
