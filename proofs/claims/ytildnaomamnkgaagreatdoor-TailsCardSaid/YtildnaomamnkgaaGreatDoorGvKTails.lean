/- The loop of the machine in Tails, told. Printed by loopOne.py. -/
import Derived.Test.YtildnaomamnkgaaGreatDoorGvO
set_option linter.unusedSimpArgs false
set_option linter.unusedVariables false
set_option maxRecDepth 100000
open Rx Go Gv Rd
namespace Gv.KTails
noncomputable section
def z1 : ByteArray := ⟨#[102]⟩
def z2 : ByteArray := ⟨#[61]⟩
def z3 : ByteArray := ⟨#[100, 111, 110, 101]⟩
def z4 : ByteArray := ⟨#[45]⟩
def fns : Ob := vc 99 4 2 [I 1, I 1, I 0, V 6 8 0 21, I 0, I 0, I 0, J] false
def globs : Ob := vc 54 4 1 [S z1, C 5, C 0, S s0] false
def words : Ob := vc 52 3 2 [C 8, C 0, S s0, C 1, I 0, S s0] false
def DL : Ob := vc 190 8 21 [C 1, I 0, I 0, S s0, S s0, I 0, I 0, S s0, C 1, I 0, I 0, S s0, S s0, I 0, I 0, S s0, C 1, I 0, I 0, S s0, S s0, I 0, I 0, S s0, C 3, C 0, I 0, S s0, S s0, I 0, I 0, S s0, C 1, I 0, I 0, S s0, S s0, I 0, I 0, S s0, C 2, I 0, I 0, S s0, S s0, C 1, C 0, S s0, C 18, C 2, I 0, S z2, S s0, I 0, I 0, S s0, C 16, I 11, I 0, S s0, S s0, I 0, I 0, S s0, C 1, I 0, I 0, S s0, S s0, I 0, I 0, S s0, C 2, I 0, I 0, S s0, S s0, C 4, I 0, S z3, C 14, I 0, I 0, S s0, S s0, I 0, I 0, S s0, C 1, I 0, I 0, S s0, S s0, I 0, I 0, S s0, C 1, I 0, I 0, S s0, S s0, I 0, I 0, S s0, C 9, I 0, I 0, S z1, S s0, I 0, I 0, S s0, C 1, I 0, I 0, S s0, S s0, I 0, I 0, S s0, C 1, I 0, I 0, S s0, S s0, I 0, I 0, S s0, C 3, C 0, I 0, S s0, S s0, I 0, I 0, S s0, C 1, I 0, I 0, S s0, S s0, I 0, I 0, S s0, C 2, I 0, I 0, S s0, S s0, C 1, C 1, S s0, C 18, C 2, I 0, S z4, S s0, I 0, I 0, S s0, C 13, C 1, I 0, S s0, S s0, I 0, I 0, S s0] false
def e (k x : Int) : ME := ⟨9, [.ptr 0 0, I 0, J, J, .ptr 1 0], [some (.cells 160 [V 2 4 0 2, V 3 4 0 1, aC, V 4 3 0 2, C 2000, V 5 1 0 1, .ri .i64 0 20000 x, I 0]), some (.cells 52 [I 0, I 0, S s0]), some (fns), some (globs), some (words), some (vc 253 1 1 [.ptr 7 0] false), some (DL), some (.cells 255 [C 0, I 0, C 5, C 0, S s0, V 8 3 0 1, aC]), some (vc 52 3 1 [C 1, .ri .i64 0 299 k, S s0] false)], .tup [.agg [C 4, I 0, S z3], I 0], [some (.cells 160 [V 2 4 0 2, V 3 4 0 1, aC, V 4 3 0 2, C 2000, J, J, I 0]), none, some fns, some globs, some words, none, some DL, none, none]⟩
def f (k x : Int) : ME := ⟨9, [.ptr 0 0, I 0, J, J, .ptr 1 0], [some (.cells 160 [V 2 4 0 2, V 3 4 0 1, aC, V 4 3 0 2, C 2000, V 5 1 0 1, .ri .i64 0 20000 x, I 0]), some (.cells 52 [I 0, I 0, S s0]), some (fns), some (globs), some (words), some (vc 253 1 1 [.ptr 7 0] false), some (DL), some (.cells 255 [C 0, I 0, C 5, C 0, S s0, V 8 3 0 1, aC]), some (vc 52 3 1 [C 1, .ri .i64 0 299 k, S s0] false)], .tup [.agg [I 0, I 0, S s0], I 11], [none, none, none, none, none, none, none, none, none]⟩
def p (k x : Int) : ME := ⟨8, [.ptr 0 0, I 0], [some (.cells 160 [V 1 4 0 2, V 2 4 0 1, aC, V 3 3 0 2, C 2000, V 4 1 0 1, .ri .i64 0 20000 x, I 0]), some (vc 99 4 2 [I 1, I 1, I 0, V 6 8 0 21, I 0, I 0, I 0, V 5 8 0 6] false), some (vc 54 4 1 [S z1, C 5, C 0, S s0] false), some (vc 52 3 2 [C 8, C 0, S s0, C 1, I 0, S s0] false), some (vc 253 1 1 [.ptr 7 0] false), some (vc 190 8 6 [C 1, I 0, I 0, S s0, S s0, I 0, I 0, S s0, C 1, I 0, I 0, S s0, S s0, I 0, I 0, S s0, C 9, I 0, I 0, S z1, S s0, I 0, I 0, S s0, C 1, I 0, I 0, S s0, S s0, I 0, I 0, S s0, C 2, I 0, I 0, S s0, S s0, C 1, .ri .i64 0 299 k, S s0, C 13, C 1, I 0, S s0, S s0, I 0, I 0, S s0] false), some (vc 190 8 21 [C 1, I 0, I 0, S s0, S s0, I 0, I 0, S s0, C 1, I 0, I 0, S s0, S s0, I 0, I 0, S s0, C 1, I 0, I 0, S s0, S s0, I 0, I 0, S s0, C 3, C 0, I 0, S s0, S s0, I 0, I 0, S s0, C 1, I 0, I 0, S s0, S s0, I 0, I 0, S s0, C 2, I 0, I 0, S s0, S s0, C 1, C 0, S s0, C 18, C 2, I 0, S z2, S s0, I 0, I 0, S s0, C 16, I 11, I 0, S s0, S s0, I 0, I 0, S s0, C 1, I 0, I 0, S s0, S s0, I 0, I 0, S s0, C 2, I 0, I 0, S s0, S s0, C 4, I 0, S z3, C 14, I 0, I 0, S s0, S s0, I 0, I 0, S s0, C 1, I 0, I 0, S s0, S s0, I 0, I 0, S s0, C 1, I 0, I 0, S s0, S s0, I 0, I 0, S s0, C 9, I 0, I 0, S z1, S s0, I 0, I 0, S s0, C 1, I 0, I 0, S s0, S s0, I 0, I 0, S s0, C 1, I 0, I 0, S s0, S s0, I 0, I 0, S s0, C 3, C 0, I 0, S s0, S s0, I 0, I 0, S s0, C 1, I 0, I 0, S s0, S s0, I 0, I 0, S s0, C 2, I 0, I 0, S s0, S s0, C 1, C 1, S s0, C 18, C 2, I 0, S z4, S s0, I 0, I 0, S s0, C 13, C 1, I 0, S s0, S s0, I 0, I 0, S s0] false), some (.cells 255 [C 1, I 0, C 3, I 0, S s0, aC, aC])], .tup [.agg [C 4, I 0, S z3], I 0], [some (.cells 160 [V 1 4 0 2, V 2 4 0 1, aC, V 3 3 0 2, C 2000, J, J, I 0]), some (vc 99 4 2 [I 1, I 1, I 0, V 6 8 0 21, I 0, I 0, I 0, J] false), some (vc 54 4 1 [S z1, C 5, C 0, S s0] false), some (vc 52 3 2 [C 8, C 0, S s0, C 1, I 0, S s0] false), none, none, some (vc 190 8 21 [C 1, I 0, I 0, S s0, S s0, I 0, I 0, S s0, C 1, I 0, I 0, S s0, S s0, I 0, I 0, S s0, C 1, I 0, I 0, S s0, S s0, I 0, I 0, S s0, C 3, C 0, I 0, S s0, S s0, I 0, I 0, S s0, C 1, I 0, I 0, S s0, S s0, I 0, I 0, S s0, C 2, I 0, I 0, S s0, S s0, C 1, C 0, S s0, C 18, C 2, I 0, S z2, S s0, I 0, I 0, S s0, C 16, I 11, I 0, S s0, S s0, I 0, I 0, S s0, C 1, I 0, I 0, S s0, S s0, I 0, I 0, S s0, C 2, I 0, I 0, S s0, S s0, C 4, I 0, S z3, C 14, I 0, I 0, S s0, S s0, I 0, I 0, S s0, C 1, I 0, I 0, S s0, S s0, I 0, I 0, S s0, C 1, I 0, I 0, S s0, S s0, I 0, I 0, S s0, C 9, I 0, I 0, S z1, S s0, I 0, I 0, S s0, C 1, I 0, I 0, S s0, S s0, I 0, I 0, S s0, C 1, I 0, I 0, S s0, S s0, I 0, I 0, S s0, C 3, C 0, I 0, S s0, S s0, I 0, I 0, S s0, C 1, I 0, I 0, S s0, S s0, I 0, I 0, S s0, C 2, I 0, I 0, S s0, S s0, C 1, C 1, S s0, C 18, C 2, I 0, S z4, S s0, I 0, I 0, S s0, C 13, C 1, I 0, S s0, S s0, I 0, I 0, S s0] false), none]⟩
def q (k x : Int) : ME := ⟨8, [.ptr 0 0, I 0], [some (.cells 160 [V 1 4 0 2, V 2 4 0 1, aC, V 3 3 0 2, C 2000, V 4 1 0 1, .ri .i64 0 20000 x, I 0]), some (vc 99 4 2 [I 1, I 1, I 0, V 6 8 0 21, I 0, I 0, I 0, V 5 8 0 6] false), some (vc 54 4 1 [S z1, C 5, C 0, S s0] false), some (vc 52 3 2 [C 8, C 0, S s0, C 1, I 0, S s0] false), some (vc 253 1 1 [.ptr 7 0] false), some (vc 190 8 6 [C 1, I 0, I 0, S s0, S s0, I 0, I 0, S s0, C 1, I 0, I 0, S s0, S s0, I 0, I 0, S s0, C 9, I 0, I 0, S z1, S s0, I 0, I 0, S s0, C 1, I 0, I 0, S s0, S s0, I 0, I 0, S s0, C 2, I 0, I 0, S s0, S s0, C 1, .ri .i64 0 299 k, S s0, C 13, C 1, I 0, S s0, S s0, I 0, I 0, S s0] false), some (vc 190 8 21 [C 1, I 0, I 0, S s0, S s0, I 0, I 0, S s0, C 1, I 0, I 0, S s0, S s0, I 0, I 0, S s0, C 1, I 0, I 0, S s0, S s0, I 0, I 0, S s0, C 3, C 0, I 0, S s0, S s0, I 0, I 0, S s0, C 1, I 0, I 0, S s0, S s0, I 0, I 0, S s0, C 2, I 0, I 0, S s0, S s0, C 1, C 0, S s0, C 18, C 2, I 0, S z2, S s0, I 0, I 0, S s0, C 16, I 11, I 0, S s0, S s0, I 0, I 0, S s0, C 1, I 0, I 0, S s0, S s0, I 0, I 0, S s0, C 2, I 0, I 0, S s0, S s0, C 4, I 0, S z3, C 14, I 0, I 0, S s0, S s0, I 0, I 0, S s0, C 1, I 0, I 0, S s0, S s0, I 0, I 0, S s0, C 1, I 0, I 0, S s0, S s0, I 0, I 0, S s0, C 9, I 0, I 0, S z1, S s0, I 0, I 0, S s0, C 1, I 0, I 0, S s0, S s0, I 0, I 0, S s0, C 1, I 0, I 0, S s0, S s0, I 0, I 0, S s0, C 3, C 0, I 0, S s0, S s0, I 0, I 0, S s0, C 1, I 0, I 0, S s0, S s0, I 0, I 0, S s0, C 2, I 0, I 0, S s0, S s0, C 1, C 1, S s0, C 18, C 2, I 0, S z4, S s0, I 0, I 0, S s0, C 13, C 1, I 0, S s0, S s0, I 0, I 0, S s0] false), some (.cells 255 [C 1, I 0, C 3, I 0, S s0, aC, aC])], .tup [.agg [I 0, I 0, S s0], I 11], [none, none, none, none, none, none, none, none]⟩
end
theorem e_s (k x : Int) (h0 : 0 <= k) (h1 : k <= 299) (hx : 0 <= x) (hy : x <= 20000) (hf : 9 * k + 5 <= x) (ih : 0 < k /\ 9 <= x -> LT (e (k - 1) (x - 9))) : LT (e k x) := SI (tl := []) (es := [e (k - 1) (x - 9)]) (p := 0 < k /\ 9 <= x) [] aI (fun hp => pR (ih hp)) (kZ rfl) (by kernel_rfl) (by kernel_rfl) (by kernel_rfl) 18 (q := (((x == 0) = true -> False) /\ ((x == 0) = false -> (((x - 1 == 0) = true -> False) /\ ((x - 1 == 0) = false -> (((x - 1 - 1 == 0) = true -> False) /\ ((x - 1 - 1 == 0) = false -> (((x - 1 - 1 - 1 == 0) = true -> False) /\ ((x - 1 - 1 - 1 == 0) = false -> (((k == 0) = true -> (((x - 1 - 1 - 1 - 1 == 0) = true -> False) /\ ((x - 1 - 1 - 1 - 1 == 0) = false -> qt))) /\ ((k == 0) = false -> (((x - 1 - 1 - 1 - 1 == 0) = true -> False) /\ ((x - 1 - 1 - 1 - 1 == 0) = false -> (((x - 1 - 1 - 1 - 1 - 1 == 0) = true -> False) /\ ((x - 1 - 1 - 1 - 1 - 1 == 0) = false -> (((x - 1 - 1 - 1 - 1 - 1 - 1 == 0) = true -> False) /\ ((x - 1 - 1 - 1 - 1 - 1 - 1 == 0) = false -> (((x - 1 - 1 - 1 - 1 - 1 - 1 - 1 == 0) = true -> False) /\ ((x - 1 - 1 - 1 - 1 - 1 - 1 - 1 == 0) = false -> (((x - 1 - 1 - 1 - 1 - 1 - 1 - 1 - 1 == 0) = true -> False) /\ ((x - 1 - 1 - 1 - 1 - 1 - 1 - 1 - 1 == 0) = false -> (0 < k /\ 9 <= x) /\
 (x - 9 = x - 1 - 1 - 1 - 1 - 1 - 1 - 1 - 1 - 1 /\ 0 <= x - 9 /\ x - 9 <= 20000) /\
 (k - 1 = k - 1 /\ 0 <= k - 1 /\ k - 1 <= 299) /\
 qt))))))))))))))))))))) (by
 refine ⟨fun hc1 => ?_, fun hc1 => ?_⟩
 · simp only [beq_iff_eq, beq_eq_false_iff_ne, ne_eq, decide_eq_true_eq, decide_eq_false_iff_not, Int.not_le, Int.not_lt] at hc1
   omega
 · simp only [beq_iff_eq, beq_eq_false_iff_ne, ne_eq, decide_eq_true_eq, decide_eq_false_iff_not, Int.not_le, Int.not_lt] at hc1
   refine ⟨fun hc2 => ?_, fun hc2 => ?_⟩
   · simp only [beq_iff_eq, beq_eq_false_iff_ne, ne_eq, decide_eq_true_eq, decide_eq_false_iff_not, Int.not_le, Int.not_lt] at hc2
     omega
   · simp only [beq_iff_eq, beq_eq_false_iff_ne, ne_eq, decide_eq_true_eq, decide_eq_false_iff_not, Int.not_le, Int.not_lt] at hc2
     refine ⟨fun hc3 => ?_, fun hc3 => ?_⟩
     · simp only [beq_iff_eq, beq_eq_false_iff_ne, ne_eq, decide_eq_true_eq, decide_eq_false_iff_not, Int.not_le, Int.not_lt] at hc3
       omega
     · simp only [beq_iff_eq, beq_eq_false_iff_ne, ne_eq, decide_eq_true_eq, decide_eq_false_iff_not, Int.not_le, Int.not_lt] at hc3
       refine ⟨fun hc4 => ?_, fun hc4 => ?_⟩
       · simp only [beq_iff_eq, beq_eq_false_iff_ne, ne_eq, decide_eq_true_eq, decide_eq_false_iff_not, Int.not_le, Int.not_lt] at hc4
         omega
       · simp only [beq_iff_eq, beq_eq_false_iff_ne, ne_eq, decide_eq_true_eq, decide_eq_false_iff_not, Int.not_le, Int.not_lt] at hc4
         refine ⟨fun hc5 => ?_, fun hc5 => ?_⟩
         · simp only [beq_iff_eq, beq_eq_false_iff_ne, ne_eq, decide_eq_true_eq, decide_eq_false_iff_not, Int.not_le, Int.not_lt] at hc5
           refine ⟨fun hc6 => ?_, fun hc6 => ?_⟩
           · simp only [beq_iff_eq, beq_eq_false_iff_ne, ne_eq, decide_eq_true_eq, decide_eq_false_iff_not, Int.not_le, Int.not_lt] at hc6
             omega
           · simp only [beq_iff_eq, beq_eq_false_iff_ne, ne_eq, decide_eq_true_eq, decide_eq_false_iff_not, Int.not_le, Int.not_lt] at hc6
             rfl
         · simp only [beq_iff_eq, beq_eq_false_iff_ne, ne_eq, decide_eq_true_eq, decide_eq_false_iff_not, Int.not_le, Int.not_lt] at hc5
           refine ⟨fun hc6 => ?_, fun hc6 => ?_⟩
           · simp only [beq_iff_eq, beq_eq_false_iff_ne, ne_eq, decide_eq_true_eq, decide_eq_false_iff_not, Int.not_le, Int.not_lt] at hc6
             omega
           · simp only [beq_iff_eq, beq_eq_false_iff_ne, ne_eq, decide_eq_true_eq, decide_eq_false_iff_not, Int.not_le, Int.not_lt] at hc6
             refine ⟨fun hc7 => ?_, fun hc7 => ?_⟩
             · simp only [beq_iff_eq, beq_eq_false_iff_ne, ne_eq, decide_eq_true_eq, decide_eq_false_iff_not, Int.not_le, Int.not_lt] at hc7
               omega
             · simp only [beq_iff_eq, beq_eq_false_iff_ne, ne_eq, decide_eq_true_eq, decide_eq_false_iff_not, Int.not_le, Int.not_lt] at hc7
               refine ⟨fun hc8 => ?_, fun hc8 => ?_⟩
               · simp only [beq_iff_eq, beq_eq_false_iff_ne, ne_eq, decide_eq_true_eq, decide_eq_false_iff_not, Int.not_le, Int.not_lt] at hc8
                 omega
               · simp only [beq_iff_eq, beq_eq_false_iff_ne, ne_eq, decide_eq_true_eq, decide_eq_false_iff_not, Int.not_le, Int.not_lt] at hc8
                 refine ⟨fun hc9 => ?_, fun hc9 => ?_⟩
                 · simp only [beq_iff_eq, beq_eq_false_iff_ne, ne_eq, decide_eq_true_eq, decide_eq_false_iff_not, Int.not_le, Int.not_lt] at hc9
                   omega
                 · simp only [beq_iff_eq, beq_eq_false_iff_ne, ne_eq, decide_eq_true_eq, decide_eq_false_iff_not, Int.not_le, Int.not_lt] at hc9
                   refine ⟨fun hc10 => ?_, fun hc10 => ?_⟩
                   · simp only [beq_iff_eq, beq_eq_false_iff_ne, ne_eq, decide_eq_true_eq, decide_eq_false_iff_not, Int.not_le, Int.not_lt] at hc10
                     omega
                   · simp only [beq_iff_eq, beq_eq_false_iff_ne, ne_eq, decide_eq_true_eq, decide_eq_false_iff_not, Int.not_le, Int.not_lt] at hc10
                     refine ⟨by omega, ?_⟩
                     refine ⟨by omega, ?_⟩
                     refine ⟨by omega, ?_⟩
                     rfl
 ) (by kernel_rfl)
theorem UQ : ∀ (m : Nat) (k x : Int), k = m -> m <= 299 -> 0 <= x -> x <= 20000 -> 9 * k + 5 <= x -> LT (e k x)
 | 0, k, x, hk, hn, hx, hy, hf => e_s k x (by omega) (by omega) hx hy hf (fun hp => absurd hp (by omega))
 | m + 1, k, x, hk, hn, hx, hy, hf => e_s k x (by omega) (by omega) hx hy hf (fun hp => UQ m (k - 1) (x - 9) (by omega) (by omega) (by omega) (by omega) (by omega))
theorem Vu (k x : Int) (h0 : 0 <= k) (h1 : k <= 299) (hx : 3 <= x) (hy : x <= 20000) (hf : 9 * k + 8 <= x) : xU prog 67 (p k x) := by
 obtain ⟨y, hyx⟩ : ∃ y : Int, y = x - 3 := ⟨_, rfl⟩
 exact KF (tl := []) (es := [e k y]) (l := (e k y).al) [] aI (pR (UQ k.toNat k y (by omega) (by omega) (by omega) (by omega) (by omega))) (kZ rfl) (by kernel_rfl) (by kernel_rfl) (by kernel_rfl) 6 (q := (((x == 0) = true -> False) /\ ((x == 0) = false -> (((x - 1 == 0) = true -> False) /\ ((x - 1 == 0) = false -> (((x - 1 - 1 == 0) = true -> False) /\ ((x - 1 - 1 == 0) = false -> (y = x - 1 - 1 - 1 /\ 0 <= y /\ y <= 20000) /\
 rp (en (k)) 1 (qt)))))))) (by
 refine ⟨fun hc1 => ?_, fun hc1 => ?_⟩
 · simp only [beq_iff_eq, beq_eq_false_iff_ne, ne_eq, decide_eq_true_eq, decide_eq_false_iff_not, Int.not_le, Int.not_lt] at hc1
   omega
 · simp only [beq_iff_eq, beq_eq_false_iff_ne, ne_eq, decide_eq_true_eq, decide_eq_false_iff_not, Int.not_le, Int.not_lt] at hc1
   refine ⟨fun hc2 => ?_, fun hc2 => ?_⟩
   · simp only [beq_iff_eq, beq_eq_false_iff_ne, ne_eq, decide_eq_true_eq, decide_eq_false_iff_not, Int.not_le, Int.not_lt] at hc2
     omega
   · simp only [beq_iff_eq, beq_eq_false_iff_ne, ne_eq, decide_eq_true_eq, decide_eq_false_iff_not, Int.not_le, Int.not_lt] at hc2
     refine ⟨fun hc3 => ?_, fun hc3 => ?_⟩
     · simp only [beq_iff_eq, beq_eq_false_iff_ne, ne_eq, decide_eq_true_eq, decide_eq_false_iff_not, Int.not_le, Int.not_lt] at hc3
       omega
     · simp only [beq_iff_eq, beq_eq_false_iff_ne, ne_eq, decide_eq_true_eq, decide_eq_false_iff_not, Int.not_le, Int.not_lt] at hc3
       refine ⟨by omega, ?_⟩
       refine dV rfl _ ?_
       rfl
 ) (by kernel_rfl)
theorem TA (n : Int) : xU prog 67 (p (dJ n 300) 20000) := by
 have h := gD n (m := 300) (by decide)
 exact Vu _ _ h.1 (by omega) (by omega) (by omega) (by omega)
end Gv.KTails
set_option linter.unusedSimpArgs false
set_option linter.unusedVariables false
set_option maxRecDepth 100000
open Rx Go Gv Rd
namespace Gv.KTails2
noncomputable section
def z1 : ByteArray := ⟨#[102]⟩
def z2 : ByteArray := ⟨#[61]⟩
def z3 : ByteArray := ⟨#[45]⟩
def z4 : ByteArray := ⟨#[43]⟩
def fns : Ob := vc 99 4 2 [I 1, I 1, I 0, V 6 8 0 26, I 0, I 0, I 0, J] false
def globs : Ob := vc 54 4 1 [S z1, C 5, C 0, S s0] false
def words : Ob := vc 52 3 2 [C 8, C 0, S s0, C 1, I 0, S s0] false
def DL : Ob := vc 190 8 26 [C 1, I 0, I 0, S s0, S s0, I 0, I 0, S s0, C 1, I 0, I 0, S s0, S s0, I 0, I 0, S s0, C 1, I 0, I 0, S s0, S s0, I 0, I 0, S s0, C 3, C 0, I 0, S s0, S s0, I 0, I 0, S s0, C 1, I 0, I 0, S s0, S s0, I 0, I 0, S s0, C 2, I 0, I 0, S s0, S s0, C 1, C 0, S s0, C 18, C 2, I 0, S z2, S s0, I 0, I 0, S s0, C 16, I 11, I 0, S s0, S s0, I 0, I 0, S s0, C 1, I 0, I 0, S s0, S s0, I 0, I 0, S s0, C 2, I 0, I 0, S s0, S s0, C 1, C 0, S s0, C 14, I 0, I 0, S s0, S s0, I 0, I 0, S s0, C 1, I 0, I 0, S s0, S s0, I 0, I 0, S s0, C 1, I 0, I 0, S s0, S s0, I 0, I 0, S s0, C 2, I 0, I 0, S s0, S s0, C 1, C 1, S s0, C 1, I 0, I 0, S s0, S s0, I 0, I 0, S s0, C 1, I 0, I 0, S s0, S s0, I 0, I 0, S s0, C 9, I 0, I 0, S z1, S s0, I 0, I 0, S s0, C 1, I 0, I 0, S s0, S s0, I 0, I 0, S s0, C 1, I 0, I 0, S s0, S s0, I 0, I 0, S s0, C 3, C 0, I 0, S s0, S s0, I 0, I 0, S s0, C 1, I 0, I 0, S s0, S s0, I 0, I 0, S s0, C 2, I 0, I 0, S s0, S s0, C 1, C 1, S s0, C 18, C 2, I 0, S z3, S s0, I 0, I 0, S s0, C 12, C 1, I 0, S s0, S s0, I 0, I 0, S s0, C 18, C 2, I 0, S z4, S s0, I 0, I 0, S s0, C 14, I 0, I 0, S s0, S s0, I 0, I 0, S s0] false
def hfN (l : List Nat) : Bool -> List Nat := @List.rec Nat (fun _ => Bool -> List Nat) (fun _ => []) (fun x _ ih b => @Bool.rec (fun _ => List Nat) (ih true) (x :: ih false) b) l
def ord (n : Nat) : List Nat -> List Nat := @Nat.rec (fun _ => List Nat -> List Nat) (fun _ => []) (fun _ ih l => @List.rec Nat (fun _ => List Nat) [] (fun x xs _ => ih (hfN xs true) ++ x :: ih (hfN xs false)) l) n
def pl (l : List Nat) (i : Nat) : Nat := @List.rec Nat (fun _ => Nat) (nat_lit 0) (fun x _ ih => @Bool.rec (fun _ => Nat) (Nat.succ ih) (nat_lit 0) (Nat.beq x i)) l
def Sj {α : Type} (f : Nat -> α) (l : List Nat) : List α := @List.rec Nat (fun _ => List α) [] (fun x _ ih => f x :: ih) l
def rw' (d : Nat) (o : List Nat) : Ob := vc 253 1 d (Sj (fun i => .ptr (Nat.add 7 (pl o i)) 0) (upto 0 d)) false
def flN {α : Type} (f : Nat -> List α) (l : List Nat) : List α := @List.rec Nat (fun _ => List α) [] (fun x _ ih => f x ++ ih) l
def st : Ob := vc 52 3 4 [C 1, C 1, S s0] false
def cb (d rt e r : Nat) : Nat := Nat.add (Nat.add 7 d) (@Bool.rec (fun _ => Nat) r (Nat.add r e) (Nat.blt rt r))
def frs (d rt e : Nat) (tp : Nat -> Ob) (own : List (Option Ob)) : List (Option Ob) :=
 Sj (fun r => some (@Bool.rec (fun _ => Ob) (.cells 255 [C 0, I 24, J, J, J, J, V (cb d rt e r) 3 0 1]) (tp (cb d rt e r)) (Nat.beq r rt))) (upto 0 d) ++
 flN (fun r => @Bool.rec (fun _ => List (Option Ob)) [some st] own (Nat.beq r rt)) (upto 0 d)
def base (d : Nat) (f : SV) (o : List Nat) : List (Option Ob) := [some (.cells 160 [V 2 4 0 2, V 3 4 0 1, aC, V 4 3 0 2, C 2000, V 5 1 0 d, f, I 0]), some (.cells 52 [I 0, I 0, S s0]), some fns, some globs, some words, some (rw' d o), some DL]
def od (d : Nat) : List Nat := ord 10 (upto 0 d)
def rt (d : Nat) : Nat := pl (od d) (Nat.pred d)
def behind (n : Nat) : List (Option Ob) := [some (.cells 160 [V 2 4 0 2, V 3 4 0 1, aC, V 4 3 0 2, C 2000, J, J, I 0]), none, some fns, some globs, some words, none, some DL] ++ Sj (fun _ => none) (upto 0 n)
def nothing (n : Nat) : List (Option Ob) := Sj (fun _ => none) (upto 0 n)
def fu (a d : Nat) : SV := I (Int.ofNat (Nat.sub a (Nat.mul 11 (Nat.pred d))))
def mk (d e : Nat) (f : SV) (tp : Nat -> Ob) (own : List (Option Ob)) (r : SV) (out : List (Option Ob)) : ME := ⟨Nat.add (Nat.add 7 (Nat.add d d)) e, [.ptr 0 0, I 0, J, J, .ptr 1 0], base d f (od d) ++ frs d (rt d) e tp own, r, out⟩
def ans (b : Int) : SV := .tup [.agg [C 1, .ri .i64 0 300 b, S s0], I 0]
def tS (n : Nat) : Ob := .cells 255 [C 0, I 0, C 5, C 0, S s0, V n 3 0 1, aC]
def oS (k : Int) : List (Option Ob) := [some (vc 52 3 1 [C 1, .ri .i64 0 300 k, S s0] false)]
def s (d : Nat) (k b : Int) : ME := mk d 0 (fu 19997 d) tS (oS k) (ans b) (behind (Nat.add d d))
def u (d : Nat) (v b : Int) : ME := mk d 0 J (fun n => .cells 255 [C 0, I 24, J, J, J, J, V n 3 0 2]) [some (vc 52 3 4 [C 1, C 1, S s0, C 1, .ri .i64 0 300 v, S s0] false)] (ans b) (behind (Nat.add d d))
def f (d : Nat) (k : Int) : ME := mk d 0 (fu 19997 d) tS (oS k) (.tup [.agg [I 0, I 0, S s0], I 8]) (nothing (Nat.add 7 (Nat.add d d)))
def p (k : Int) : ME := ⟨8, [.ptr 0 0, I 0], [some (.cells 160 [V 1 4 0 2, V 2 4 0 1, aC, V 3 3 0 2, C 2000, V 4 1 0 1, C 20000, I 0]), some (vc 99 4 2 [I 1, I 1, I 0, V 6 8 0 26, I 0, I 0, I 0, V 5 8 0 6] false), some (vc 54 4 1 [S z1, C 5, C 0, S s0] false), some (vc 52 3 2 [C 8, C 0, S s0, C 1, I 0, S s0] false), some (vc 253 1 1 [.ptr 7 0] false), some (vc 190 8 6 [C 1, I 0, I 0, S s0, S s0, I 0, I 0, S s0, C 1, I 0, I 0, S s0, S s0, I 0, I 0, S s0, C 9, I 0, I 0, S z1, S s0, I 0, I 0, S s0, C 1, I 0, I 0, S s0, S s0, I 0, I 0, S s0, C 2, I 0, I 0, S s0, S s0, C 1, .ri .i64 0 299 k, S s0, C 13, C 1, I 0, S s0, S s0, I 0, I 0, S s0] false), some (vc 190 8 26 [C 1, I 0, I 0, S s0, S s0, I 0, I 0, S s0, C 1, I 0, I 0, S s0, S s0, I 0, I 0, S s0, C 1, I 0, I 0, S s0, S s0, I 0, I 0, S s0, C 3, C 0, I 0, S s0, S s0, I 0, I 0, S s0, C 1, I 0, I 0, S s0, S s0, I 0, I 0, S s0, C 2, I 0, I 0, S s0, S s0, C 1, C 0, S s0, C 18, C 2, I 0, S z2, S s0, I 0, I 0, S s0, C 16, I 11, I 0, S s0, S s0, I 0, I 0, S s0, C 1, I 0, I 0, S s0, S s0, I 0, I 0, S s0, C 2, I 0, I 0, S s0, S s0, C 1, C 0, S s0, C 14, I 0, I 0, S s0, S s0, I 0, I 0, S s0, C 1, I 0, I 0, S s0, S s0, I 0, I 0, S s0, C 1, I 0, I 0, S s0, S s0, I 0, I 0, S s0, C 2, I 0, I 0, S s0, S s0, C 1, C 1, S s0, C 1, I 0, I 0, S s0, S s0, I 0, I 0, S s0, C 1, I 0, I 0, S s0, S s0, I 0, I 0, S s0, C 9, I 0, I 0, S z1, S s0, I 0, I 0, S s0, C 1, I 0, I 0, S s0, S s0, I 0, I 0, S s0, C 1, I 0, I 0, S s0, S s0, I 0, I 0, S s0, C 3, C 0, I 0, S s0, S s0, I 0, I 0, S s0, C 1, I 0, I 0, S s0, S s0, I 0, I 0, S s0, C 2, I 0, I 0, S s0, S s0, C 1, C 1, S s0, C 18, C 2, I 0, S z3, S s0, I 0, I 0, S s0, C 12, C 1, I 0, S s0, S s0, I 0, I 0, S s0, C 18, C 2, I 0, S z4, S s0, I 0, I 0, S s0, C 14, I 0, I 0, S s0, S s0, I 0, I 0, S s0] false), some (.cells 255 [C 1, I 0, C 3, I 0, S s0, aC, aC])], ans k, [some (.cells 160 [V 1 4 0 2, V 2 4 0 1, aC, V 3 3 0 2, C 2000, J, J, I 0]), some (vc 99 4 2 [I 1, I 1, I 0, V 6 8 0 26, I 0, I 0, I 0, J] false), some (vc 54 4 1 [S z1, C 5, C 0, S s0] false), some (vc 52 3 2 [C 8, C 0, S s0, C 1, I 0, S s0] false), none, none, some (vc 190 8 26 [C 1, I 0, I 0, S s0, S s0, I 0, I 0, S s0, C 1, I 0, I 0, S s0, S s0, I 0, I 0, S s0, C 1, I 0, I 0, S s0, S s0, I 0, I 0, S s0, C 3, C 0, I 0, S s0, S s0, I 0, I 0, S s0, C 1, I 0, I 0, S s0, S s0, I 0, I 0, S s0, C 2, I 0, I 0, S s0, S s0, C 1, C 0, S s0, C 18, C 2, I 0, S z2, S s0, I 0, I 0, S s0, C 16, I 11, I 0, S s0, S s0, I 0, I 0, S s0, C 1, I 0, I 0, S s0, S s0, I 0, I 0, S s0, C 2, I 0, I 0, S s0, S s0, C 1, C 0, S s0, C 14, I 0, I 0, S s0, S s0, I 0, I 0, S s0, C 1, I 0, I 0, S s0, S s0, I 0, I 0, S s0, C 1, I 0, I 0, S s0, S s0, I 0, I 0, S s0, C 2, I 0, I 0, S s0, S s0, C 1, C 1, S s0, C 1, I 0, I 0, S s0, S s0, I 0, I 0, S s0, C 1, I 0, I 0, S s0, S s0, I 0, I 0, S s0, C 9, I 0, I 0, S z1, S s0, I 0, I 0, S s0, C 1, I 0, I 0, S s0, S s0, I 0, I 0, S s0, C 1, I 0, I 0, S s0, S s0, I 0, I 0, S s0, C 3, C 0, I 0, S s0, S s0, I 0, I 0, S s0, C 1, I 0, I 0, S s0, S s0, I 0, I 0, S s0, C 2, I 0, I 0, S s0, S s0, C 1, C 1, S s0, C 18, C 2, I 0, S z3, S s0, I 0, I 0, S s0, C 12, C 1, I 0, S s0, S s0, I 0, I 0, S s0, C 18, C 2, I 0, S z4, S s0, I 0, I 0, S s0, C 14, I 0, I 0, S s0, S s0, I 0, I 0, S s0] false), none]⟩
def q (k : Int) : ME := ⟨8, [.ptr 0 0, I 0], [some (.cells 160 [V 1 4 0 2, V 2 4 0 1, aC, V 3 3 0 2, C 2000, V 4 1 0 1, C 20000, I 0]), some (vc 99 4 2 [I 1, I 1, I 0, V 6 8 0 26, I 0, I 0, I 0, V 5 8 0 6] false), some (vc 54 4 1 [S z1, C 5, C 0, S s0] false), some (vc 52 3 2 [C 8, C 0, S s0, C 1, I 0, S s0] false), some (vc 253 1 1 [.ptr 7 0] false), some (vc 190 8 6 [C 1, I 0, I 0, S s0, S s0, I 0, I 0, S s0, C 1, I 0, I 0, S s0, S s0, I 0, I 0, S s0, C 9, I 0, I 0, S z1, S s0, I 0, I 0, S s0, C 1, I 0, I 0, S s0, S s0, I 0, I 0, S s0, C 2, I 0, I 0, S s0, S s0, C 1, .ri .i64 0 299 k, S s0, C 13, C 1, I 0, S s0, S s0, I 0, I 0, S s0] false), some (vc 190 8 26 [C 1, I 0, I 0, S s0, S s0, I 0, I 0, S s0, C 1, I 0, I 0, S s0, S s0, I 0, I 0, S s0, C 1, I 0, I 0, S s0, S s0, I 0, I 0, S s0, C 3, C 0, I 0, S s0, S s0, I 0, I 0, S s0, C 1, I 0, I 0, S s0, S s0, I 0, I 0, S s0, C 2, I 0, I 0, S s0, S s0, C 1, C 0, S s0, C 18, C 2, I 0, S z2, S s0, I 0, I 0, S s0, C 16, I 11, I 0, S s0, S s0, I 0, I 0, S s0, C 1, I 0, I 0, S s0, S s0, I 0, I 0, S s0, C 2, I 0, I 0, S s0, S s0, C 1, C 0, S s0, C 14, I 0, I 0, S s0, S s0, I 0, I 0, S s0, C 1, I 0, I 0, S s0, S s0, I 0, I 0, S s0, C 1, I 0, I 0, S s0, S s0, I 0, I 0, S s0, C 2, I 0, I 0, S s0, S s0, C 1, C 1, S s0, C 1, I 0, I 0, S s0, S s0, I 0, I 0, S s0, C 1, I 0, I 0, S s0, S s0, I 0, I 0, S s0, C 9, I 0, I 0, S z1, S s0, I 0, I 0, S s0, C 1, I 0, I 0, S s0, S s0, I 0, I 0, S s0, C 1, I 0, I 0, S s0, S s0, I 0, I 0, S s0, C 3, C 0, I 0, S s0, S s0, I 0, I 0, S s0, C 1, I 0, I 0, S s0, S s0, I 0, I 0, S s0, C 2, I 0, I 0, S s0, S s0, C 1, C 1, S s0, C 18, C 2, I 0, S z3, S s0, I 0, I 0, S s0, C 12, C 1, I 0, S s0, S s0, I 0, I 0, S s0, C 18, C 2, I 0, S z4, S s0, I 0, I 0, S s0, C 14, I 0, I 0, S s0, S s0, I 0, I 0, S s0] false), some (.cells 255 [C 1, I 0, C 3, I 0, S s0, aC, aC])], .tup [.agg [I 0, I 0, S s0], I 8], nothing 8⟩
end
def TQ (k b : Int) : Prop := (((k == 0) = true -> ((0 : Int) = (0 : Int) /\ (0 : Int) <= (0 : Int) /\ (0 : Int) <= (300 : Int)) /\
 rp (en (b)) 1 (qt)) /\ ((k == 0) = false -> False))
theorem abv (k b : Int) (h0 : 0 <= k) (h1 : k <= 299) (hc : k = 0) : TQ k b := by
 unfold TQ
 refine ⟨fun hc1 => ?_, fun hc1 => ?_⟩
 · simp only [beq_iff_eq, beq_eq_false_iff_ne, ne_eq, decide_eq_true_eq, decide_eq_false_iff_not, Int.not_le, Int.not_lt] at hc1
   refine ⟨by omega, ?_⟩
   refine dV rfl _ ?_
   rfl
 · simp only [beq_iff_eq, beq_eq_false_iff_ne, ne_eq, decide_eq_true_eq, decide_eq_false_iff_not, Int.not_le, Int.not_lt] at hc1
   omega
theorem UA (d : Nat) (hz : ∀ k b : Int, TQ k b = (FB [] [] [u d 0 b] (s (d + 1) k b) 11).holds fun y => y.1 = .kb true) (k b : Int) (h0 : 0 <= k) (h1 : k <= 299) (hc : k = 0) (hok : (s (d + 1) k b).ok = true) (hm : Nat.ble (s (d + 1) k b).m 16000000 = true) (ih : LT (u d 0 b)) : LT (s (d + 1) k b) :=
 seg_lt (tl := []) (es := [u d 0 b]) [] aI (pR ih) (kZ rfl) hok (by kernel_rfl) hm 11 (abv k b h0 h1 hc) (hz k b)
def VX (k b : Int) : Prop := (((k == 0) = true -> (b = 0 /\ 0 <= b /\ b <= 300) /\
 qt) /\ ((k == 0) = false -> (k - 1 = k - 1 /\ 0 <= k - 1 /\ k - 1 <= 300) /\
 rp (en (b)) 1 (qt)))
theorem aeH (k b : Int) (h0 : 0 <= k) (h1 : k <= 299) (hc : 0 < k) : VX k b := by
 unfold VX
 refine ⟨fun hc1 => ?_, fun hc1 => ?_⟩
 · simp only [beq_iff_eq, beq_eq_false_iff_ne, ne_eq, decide_eq_true_eq, decide_eq_false_iff_not, Int.not_le, Int.not_lt] at hc1
   refine ⟨by omega, ?_⟩
   rfl
 · simp only [beq_iff_eq, beq_eq_false_iff_ne, ne_eq, decide_eq_true_eq, decide_eq_false_iff_not, Int.not_le, Int.not_lt] at hc1
   refine ⟨by omega, ?_⟩
   refine dV rfl _ ?_
   rfl
def VN (k b : Int) : Prop := (((k == 0) = true -> (b = 1 /\ 0 <= b /\ b <= 300) /\
 qt) /\ ((k == 0) = false -> (k - 1 = k - 1 /\ 0 <= k - 1 /\ k - 1 <= 300) /\
 rp (en (b)) 1 (qt)))
theorem aeJ (k b : Int) (h0 : 0 <= k) (h1 : k <= 299) (hc : 0 < k) : VN k b := by
 unfold VN
 refine ⟨fun hc1 => ?_, fun hc1 => ?_⟩
 · simp only [beq_iff_eq, beq_eq_false_iff_ne, ne_eq, decide_eq_true_eq, decide_eq_false_iff_not, Int.not_le, Int.not_lt] at hc1
   refine ⟨by omega, ?_⟩
   rfl
 · simp only [beq_iff_eq, beq_eq_false_iff_ne, ne_eq, decide_eq_true_eq, decide_eq_false_iff_not, Int.not_le, Int.not_lt] at hc1
   refine ⟨by omega, ?_⟩
   refine dV rfl _ ?_
   rfl
def WQ (k b : Int) : Prop := (((k == 0) = true -> (b = 2 /\ 0 <= b /\ b <= 300) /\
 qt) /\ ((k == 0) = false -> (k - 1 = k - 1 /\ 0 <= k - 1 /\ k - 1 <= 300) /\
 rp (en (b)) 1 (qt)))
theorem ac7 (k b : Int) (h0 : 0 <= k) (h1 : k <= 299) (hc : 0 < k) : WQ k b := by
 unfold WQ
 refine ⟨fun hc1 => ?_, fun hc1 => ?_⟩
 · simp only [beq_iff_eq, beq_eq_false_iff_ne, ne_eq, decide_eq_true_eq, decide_eq_false_iff_not, Int.not_le, Int.not_lt] at hc1
   refine ⟨by omega, ?_⟩
   rfl
 · simp only [beq_iff_eq, beq_eq_false_iff_ne, ne_eq, decide_eq_true_eq, decide_eq_false_iff_not, Int.not_le, Int.not_lt] at hc1
   refine ⟨by omega, ?_⟩
   refine dV rfl _ ?_
   rfl
def VY (k b : Int) : Prop := (((k == 0) = true -> (b = 3 /\ 0 <= b /\ b <= 300) /\
 qt) /\ ((k == 0) = false -> (k - 1 = k - 1 /\ 0 <= k - 1 /\ k - 1 <= 300) /\
 rp (en (b)) 1 (qt)))
theorem aar (k b : Int) (h0 : 0 <= k) (h1 : k <= 299) (hc : 0 < k) : VY k b := by
 unfold VY
 refine ⟨fun hc1 => ?_, fun hc1 => ?_⟩
 · simp only [beq_iff_eq, beq_eq_false_iff_ne, ne_eq, decide_eq_true_eq, decide_eq_false_iff_not, Int.not_le, Int.not_lt] at hc1
   refine ⟨by omega, ?_⟩
   rfl
 · simp only [beq_iff_eq, beq_eq_false_iff_ne, ne_eq, decide_eq_true_eq, decide_eq_false_iff_not, Int.not_le, Int.not_lt] at hc1
   refine ⟨by omega, ?_⟩
   refine dV rfl _ ?_
   rfl
def VP (k b : Int) : Prop := (((k == 0) = true -> (b = 4 /\ 0 <= b /\ b <= 300) /\
 qt) /\ ((k == 0) = false -> (k - 1 = k - 1 /\ 0 <= k - 1 /\ k - 1 <= 300) /\
 rp (en (b)) 1 (qt)))
theorem ae6 (k b : Int) (h0 : 0 <= k) (h1 : k <= 299) (hc : 0 < k) : VP k b := by
 unfold VP
 refine ⟨fun hc1 => ?_, fun hc1 => ?_⟩
 · simp only [beq_iff_eq, beq_eq_false_iff_ne, ne_eq, decide_eq_true_eq, decide_eq_false_iff_not, Int.not_le, Int.not_lt] at hc1
   refine ⟨by omega, ?_⟩
   rfl
 · simp only [beq_iff_eq, beq_eq_false_iff_ne, ne_eq, decide_eq_true_eq, decide_eq_false_iff_not, Int.not_le, Int.not_lt] at hc1
   refine ⟨by omega, ?_⟩
   refine dV rfl _ ?_
   rfl
def Vt (k b : Int) : Prop := (((k == 0) = true -> (b = 5 /\ 0 <= b /\ b <= 300) /\
 qt) /\ ((k == 0) = false -> (k - 1 = k - 1 /\ 0 <= k - 1 /\ k - 1 <= 300) /\
 rp (en (b)) 1 (qt)))
theorem adI (k b : Int) (h0 : 0 <= k) (h1 : k <= 299) (hc : 0 < k) : Vt k b := by
 unfold Vt
 refine ⟨fun hc1 => ?_, fun hc1 => ?_⟩
 · simp only [beq_iff_eq, beq_eq_false_iff_ne, ne_eq, decide_eq_true_eq, decide_eq_false_iff_not, Int.not_le, Int.not_lt] at hc1
   refine ⟨by omega, ?_⟩
   rfl
 · simp only [beq_iff_eq, beq_eq_false_iff_ne, ne_eq, decide_eq_true_eq, decide_eq_false_iff_not, Int.not_le, Int.not_lt] at hc1
   refine ⟨by omega, ?_⟩
   refine dV rfl _ ?_
   rfl
def VO (k b : Int) : Prop := (((k == 0) = true -> False) /\ ((k == 0) = false -> (k - 1 = k - 1 /\ 0 <= k - 1 /\ k - 1 <= 300) /\
 rp (en (b)) 1 (qt)))
theorem afI (k b : Int) (h0 : 0 <= k) (h1 : k <= 299) (hc : 0 < k) : VO k b := by
 unfold VO
 refine ⟨fun hc1 => ?_, fun hc1 => ?_⟩
 · simp only [beq_iff_eq, beq_eq_false_iff_ne, ne_eq, decide_eq_true_eq, decide_eq_false_iff_not, Int.not_le, Int.not_lt] at hc1
   omega
 · simp only [beq_iff_eq, beq_eq_false_iff_ne, ne_eq, decide_eq_true_eq, decide_eq_false_iff_not, Int.not_le, Int.not_lt] at hc1
   refine ⟨by omega, ?_⟩
   refine dV rfl _ ?_
   rfl
def Q_g (d : Nat) (k b : Int) : Prop := match d with
 | 1 => VX k b
 | 2 => VN k b
 | 3 => WQ k b
 | 4 => VY k b
 | 5 => VP k b
 | 6 => Vt k b
 | _ => VO k b
theorem q_g (d : Nat) (k b : Int) (h0 : 0 <= k) (h1 : k <= 299) (hc : 0 < k) : Q_g d k b := by
 unfold Q_g
 split
 · exact aeH k b h0 h1 hc
 · exact aeJ k b h0 h1 hc
 · exact ac7 k b h0 h1 hc
 · exact aar k b h0 h1 hc
 · exact ae6 k b h0 h1 hc
 · exact adI k b h0 h1 hc
 · exact afI k b h0 h1 hc
theorem Zd (d : Nat) (hz : ∀ k b : Int, Q_g d k b = (FB [] [] [s (d + 1) (k - 1) b] (s d k b) 21).holds fun y => y.1 = .kb true) (k b : Int) (h0 : 0 <= k) (h1 : k <= 299) (hc : 0 < k) (hok : (s d k b).ok = true) (hm : Nat.ble (s d k b).m 16000000 = true) (ih : LT (s (d + 1) (k - 1) b)) : LT (s d k b) :=
 seg_lt (tl := []) (es := [s (d + 1) (k - 1) b]) [] aI (pR ih) (kZ rfl) hok (by kernel_rfl) hm 21 (q_g d k b h0 h1 hc) (hz k b)
def Q_u (v b : Int) : Prop := (v + 1 = 1 + v /\ 0 <= v + 1 /\ v + 1 <= 300) /\
 rp (en (b)) 1 (qt)
theorem q_u (v b : Int) (h0 : 0 <= v) (h1 : v + 1 <= 300) : Q_u v b := by
 unfold Q_u
 refine ⟨by omega, ?_⟩
 refine dV rfl _ ?_
 rfl
theorem abO (d : Nat) (hz : ∀ v b : Int, Q_u v b = (FB [] [] [u d (v + 1) b] (u (d + 1) v b) 2).holds fun y => y.1 = .kb true) (v b : Int) (h0 : 0 <= v) (h1 : v + 1 <= 300) (hok : (u (d + 1) v b).ok = true) (hm : Nat.ble (u (d + 1) v b).m 16000000 = true) (ih : LT (u d (v + 1) b)) : LT (u (d + 1) v b) :=
 seg_lt (tl := []) (es := [u d (v + 1) b]) [] aI (pR ih) (kZ rfl) hok (by kernel_rfl) hm 2 (q_u v b h0 h1) (hz v b)
def Q_f (k : Int) : Prop := (((k == 0) = true -> False) /\ ((k == 0) = false -> (k - 1 = k - 1 /\ 0 <= k - 1 /\ k - 1 <= 300) /\
 qt))
theorem q_f (k : Int) (h0 : 0 <= k) (h1 : k <= 299) (hc : 0 < k) : Q_f k := by
 unfold Q_f
 refine ⟨fun hc1 => ?_, fun hc1 => ?_⟩
 · simp only [beq_iff_eq, beq_eq_false_iff_ne, ne_eq, decide_eq_true_eq, decide_eq_false_iff_not, Int.not_le, Int.not_lt] at hc1
   omega
 · simp only [beq_iff_eq, beq_eq_false_iff_ne, ne_eq, decide_eq_true_eq, decide_eq_false_iff_not, Int.not_le, Int.not_lt] at hc1
   refine ⟨by omega, ?_⟩
   rfl
theorem abJ (d : Nat) (hz : ∀ k : Int, Q_f k = (FB [] [] [f (d + 1) (k - 1)] (f d k) 21).holds fun y => y.1 = .kb true) (k : Int) (h0 : 0 <= k) (h1 : k <= 299) (hc : 0 < k) (hok : (f d k).ok = true) (hm : Nat.ble (f d k).m 16000000 = true) (ih : LT (f (d + 1) (k - 1))) : LT (f d k) :=
 seg_lt (tl := []) (es := [f (d + 1) (k - 1)]) [] aI (pR ih) (kZ rfl) hok (by kernel_rfl) hm 21 (q_f k h0 h1 hc) (hz k)
theorem aa2 (k b : Int) (h0 : 0 <= k) (hc : k = 0) (hb : b = 0) : LT (s 1 k b) := seg_lt (tl := []) (es := []) [] aI QW (fun _ h => by cases h) (by kernel_rfl) (by kernel_rfl) (by kernel_rfl) 11 (q := (((k == 0) = true -> (b = 0 /\ 0 <= b /\ b <= 300) /\
 qt) /\ ((k == 0) = false -> False))) (by
 refine ⟨fun hc1 => ?_, fun hc1 => ?_⟩
 · simp only [beq_iff_eq, beq_eq_false_iff_ne, ne_eq, decide_eq_true_eq, decide_eq_false_iff_not, Int.not_le, Int.not_lt] at hc1
   refine ⟨by omega, ?_⟩
   rfl
 · simp only [beq_iff_eq, beq_eq_false_iff_ne, ne_eq, decide_eq_true_eq, decide_eq_false_iff_not, Int.not_le, Int.not_lt] at hc1
   omega
 ) (by kernel_rfl)
theorem abe (v b : Int) (h0 : 0 <= v) (h1 : v + 1 <= 300) (hb : b = 1 + v) : LT (u 1 v b) := seg_lt (tl := []) (es := []) [] aI QW (fun _ h => by cases h) (by kernel_rfl) (by kernel_rfl) (by kernel_rfl) 2 (q := (b = 1 + v /\ 0 <= b /\ b <= 300) /\
 qt) (by
 refine ⟨by omega, ?_⟩
 rfl
 ) (by kernel_rfl)
abbrev aK (d : Nat) : Prop := ∀ k b : Int, ((s (d + 1) k b).ok = true /\ Nat.ble (s (d + 1) k b).m 16000000 = true) /\ TQ k b = (FB [] [] [u d 0 b] (s (d + 1) k b) 11).holds fun y => y.1 = .kb true
abbrev W_g (d : Nat) : Prop := ∀ k b : Int, ((s d k b).ok = true /\ Nat.ble (s d k b).m 16000000 = true) /\ Q_g d k b = (FB [] [] [s (d + 1) (k - 1) b] (s d k b) 21).holds fun y => y.1 = .kb true
abbrev W_u (d : Nat) : Prop := ∀ v b : Int, ((u (d + 1) v b).ok = true /\ Nat.ble (u (d + 1) v b).m 16000000 = true) /\ Q_u v b = (FB [] [] [u d (v + 1) b] (u (d + 1) v b) 2).holds fun y => y.1 = .kb true
abbrev W_f (d : Nat) : Prop := ∀ k : Int, ((f d k).ok = true /\ Nat.ble (f d k).m 16000000 = true) /\ Q_f k = (FB [] [] [f (d + 1) (k - 1)] (f d k) 21).holds fun y => y.1 = .kb true
def PU (d : Nat) : Prop := ∀ v b : Int, 0 <= v -> v + d <= 300 -> b = d + v -> LT (u d v b)
def PS (d : Nat) : Prop := ∀ k b : Int, 0 <= k -> k + d <= 100 -> b + 1 = k + d -> LT (s d k b)
def PF (d : Nat) : Prop := ∀ k : Int, 101 <= k + d -> k <= 299 -> d <= 100 -> LT (f d k)
theorem PU1 : PU 1 := fun v b h0 h1 hb => abe v b h0 (by omega) (by omega)
theorem PUs (d : Nat) (hd : 1 <= d) (w : W_u d) (i : PU d) : PU (d + 1) := fun v b h0 h1 hb => abO d (fun v b => (w v b).2) v b h0 (by omega) (w v b).1.1 (w v b).1.2 (i (v + 1) b (by omega) (by omega) (by omega))
theorem PS1 (w : W_g 1) (i : PS 2) : PS 1 := fun k b h0 h1 hb => by
 rcases (by omega : k = 0 ∨ 0 < k) with hc | hc
 · exact aa2 k b h0 hc (by omega)
 · exact Zd 1 (fun k b => (w k b).2) k b h0 (by omega) hc (w k b).1.1 (w k b).1.2 (i (k - 1) b (by omega) (by omega) (by omega))
theorem PSs (d : Nat) (hd : 1 <= d) (a : aK d) (c : W_g (d + 1)) (v : PU d) (i : PS (d + 2)) : PS (d + 1) := fun k x h0 h1 hb => by
 rcases (by omega : k = 0 ∨ 0 < k) with hc | hc
 · exact UA d (fun k b => (a k b).2) k x h0 (by omega) hc (a k x).1.1 (a k x).1.2 (v 0 x (by omega) (by omega) (by omega))
 · exact Zd (d + 1) (fun k b => (c k b).2) k x h0 (by omega) hc (c k x).1.1 (c k x).1.2 (i (k - 1) x (by omega) (by omega) (by omega))
theorem PSe (d : Nat) (hd : d + 1 = 100) (h1 : 1 <= d) (a : aK d) (v : PU d) : PS (d + 1) := fun k x h0 h1 hb => UA d (fun k b => (a k b).2) k x h0 (by omega) (by omega) (a k x).1.1 (a k x).1.2 (v 0 x (by omega) (by omega) (by omega))
theorem PFs (d : Nat) (w : W_f d) (i : PF (d + 1)) (hd : d + 1 <= 100) : PF d := fun k h0 h1 h2 => abJ d (fun k => (w k).2) k (by omega) h1 (by omega) (w k).1.1 (w k).1.2 (i (k - 1) (by omega) (by omega) hd)
end Gv.KTails2
