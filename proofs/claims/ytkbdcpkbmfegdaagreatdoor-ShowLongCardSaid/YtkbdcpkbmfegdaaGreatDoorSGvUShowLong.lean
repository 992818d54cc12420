/- What the told parts of ShowLong are made of. Printed by gvgen.py. -/
import Derived.Test.YtkbdcpkbmfegdaaGreatDoorSGvO
import Derived.Test.YtkbdcpkbmfegdaaGreatDoorSGvJn
set_option linter.unusedVariables false
set_option maxRecDepth 100000
open Rx Go
namespace Gv.LShowLong
open Gv Rd
noncomputable section
def s1 : ByteArray := ⟨#[100, 101, 102, 105, 110, 101]⟩
def s2 : ByteArray := ⟨#[102]⟩
def s3 : ByteArray := ⟨#[110]⟩
def s4 : ByteArray := ⟨#[40, 100, 101, 102, 105, 110, 101, 32, 40, 102, 32, 110, 41, 32, 110, 41]⟩
def o0 : Ob := vc 108 9 1 [C 2, I 0, I 0, S s0, aT, S s3, I 0, aT, aT] true
def o1 : Ob := vc 122 4 1 [S s2, C 3, I 0, S s0] false
def o2 : Ob := vc 206 8 3 [C 1, I 0, I 0, S s0, S s0, I 0, I 0, S s0, C 3, C 0, I 0, S s0, S s0, I 0, I 0, S s0, C 14, I 0, I 0, S s0, S s0, I 0, I 0, S s0] false
def o3 : Ob := vc 119 4 1 [J, J, I 0, J] false
def o4 : Ob := vc 122 4 1 [S s2, J, J, J] false
def o5 : Ob := vc 114 3 2 [C 8, C 0, S s0, C 1, I 0, S s0] true
def o6 : Ob := vc 114 3 2 [C 8, C 0, S s0, C 1, I 0, S s0] false
def o7 : Ob := .mp (.int .i64) .bool [((0 : Int), true)]
def o8 : Ob := vc 122 4 1 [S s2, C 5, C 0, S s0] false
def p0 : Ob := vc 160 10 1 [S s2, C 6, I 0, I 0, S s0, aT, S s0, I 0, V 2 1 0 1, V 1 9 0 1] false
def p1 : Ob := vc 119 4 1 [I 1, I 1, I 0, V 3 8 0 3] false
def a0 : SV := .agg [aT, aT, aT, aT, C 4000]
def a1 : SV := .agg [V 0 4 0 1, V 1 4 0 1, aT, aT, C 4000]
def w0 : List (Option Ob) := [some p0, some o0, some (vc 9 1 1 [S s3] false)]
def e0 (n : Int) : TE := ⟨0, [.ri .i64 (-9223372036854775808) 9223372036854775807 (n), I 80], [], I 0, []⟩
def e1 (n : Int) : TE := ⟨0, [aT], [], .tup [.nm 0, .kb true], [some (.mp (.int .i64) .bool [])]⟩
def e2 (n : Int) : TE := ⟨0, [.agg [aT, C 4000]], [], I 0, []⟩
def e3 (n : Int) : TE := ⟨0, [.agg [aT, aT]], [], I 0, []⟩
def e4 (n : Int) : TE := ⟨0, [a0], [], I 0, []⟩
def e5 (n : Int) : TE := ⟨0, [a0], [], .tup [.agg [aT, aT], I 0], []⟩
def e6 (n : Int) : TE := ⟨0, [D (.arr 4 1 (dxL [(ls [(sy s1), (ls [(sy s2), (sy s3)]), (sy s3)])])), .agg [aT, aT]], [], .tup [.agg [aT, V 0 10 0 1, aT], I 0, I 0], w0⟩
def e7 (n : Int) : TE := ⟨1, [.agg [V 0 1 0 1, aT]], [some (vc 9 1 1 [S s2] false)], I 0, []⟩
def e8 (n : Int) : TE := ⟨3, [.agg [V 0 4 0 1, V 1 4 0 1, aT, J, J], .agg [I 1, I 1, I 0, V 2 8 0 3]], [some o3, some o4, some o2], .kb true, []⟩
def e9 (n : Int) : TE := ⟨3, [a1], [some (vc 119 4 1 [I 1, I 1, I 0, V 2 8 0 3] false), some o1, some o2], I 0, []⟩
def e10 (n : Int) : TE := ⟨1, [V 0 3 0 2], [some o6], .tup [.nm 1, .kb true], [some o7]⟩
def e11 (n : Int) : TE := ⟨1, [.agg [V 0 3 0 2, C 4000]], [some o6], I 0, []⟩
def e12 (n : Int) : TE := ⟨4, [a1, V 2 3 0 2, aT], [some p1, some o1, some o5, some o2], .tup [.agg [V 4 4 0 1, V 5 4 0 1, aT, V 6 3 0 2, C 4000], .agg [C 5, C 0, S s0], I 0], [some (vc 119 4 1 [I 1, I 1, I 0, V 7 8 0 3] false), some o1, some o6, some o2]⟩
def e13 (n : Int) : TE := ⟨3, [a0, .agg [aT, V 0 10 0 1, aT]], w0, .tup [.agg [V 3 4 0 1, V 4 4 0 1, aT, V 5 3 0 2, C 4000], I 0], [some (vc 119 4 1 [I 1, I 1, I 0, V 6 8 0 3] false), some o8, some o6, some o2]⟩
def e14 (n : Int) : TE := ⟨0, [a0, S s4], [], .tup [.agg [V 0 4 0 1, V 1 4 0 1, aT, V 2 3 0 2, C 4000], I 0], [some p1, some o8, some o6, some o2]⟩
end
end Gv.LShowLong
set_option linter.unusedSimpArgs false
set_option linter.unusedVariables false
set_option maxRecDepth 100000
open Rx Go
namespace Gv.LShowLong
open Gv Rd
theorem t0 (n : Int) (hm : av n 80 = 0) : ah prog 6 (e0 n) := Ey (by decide) (by decide) hm
theorem t1 (n : Int) : ah prog 84 (e1 n) := lI [] aO (by kernel_rfl) (by kernel_rfl) (q := rp ((.mp (.int .i64) .bool [] : Ob) = .mp (.int .i64) .bool []) 1 (qt))
 (xw rfl _ rfl)
 (by kernel_rfl)
theorem t2 (n : Int) : ah prog 83 (e2 n) := lI [] (tk (f := 84) (tc 1 (t1 n) fD) aO) (by kernel_rfl) (by kernel_rfl) (q := qt)
 rfl
 (by kernel_rfl)
theorem t3 (n : Int) : ah prog 58 (e3 n) := lI [] aO (by kernel_rfl) (by kernel_rfl) (q := qt)
 rfl
 (by kernel_rfl)
theorem t4 (n : Int) : ah prog 56 (e4 n) := lI [] (tk (f := 83) (tc 1 (t2 n) fD) (tk (f := 58) (tc 2 (t3 n) fD) aO)) (by kernel_rfl) (by kernel_rfl) (q := qt)
 rfl
 (by kernel_rfl)
theorem t5 (n : Int) : ah prog 38 (e5 n) := lI [] (tk (f := 56) (tc 2 (t4 n) fD) aO) (by kernel_rfl) (by kernel_rfl) (q := qt)
 rfl
 (by kernel_rfl)
theorem t6 (n : Int) : ah prog 39 (e6 n) := lI [] (tk (f := 58) (tc 2 (t3 n) fD) aO) (by kernel_rfl) (by kernel_rfl) (q := rp ((D (.arr 4 2 (dxL [(sy s2), (sy s3)])) : SV) = D (.arr 4 2 (dxL [(sy s2), (sy s3)]))) 1 (qt))
 (xw rfl _ rfl)
 (by kernel_rfl)
theorem t7 (n : Int) : ah prog 58 (e7 n) := lI [] aO (by kernel_rfl) (by kernel_rfl) (q := qt)
 rfl
 (by kernel_rfl)
theorem t8 (n : Int) : ah prog 77 (e8 n) := lI [] aO (by kernel_rfl) (by kernel_rfl) (q := qt)
 rfl
 (by kernel_rfl)
theorem t9 (n : Int) : ah prog 56 (e9 n) := lI [] (tk (f := 83) (tc 4 (t2 n) (tc 12 (t2 n) fD)) (tk (f := 58) (tc 8 (t7 n) fD) (tk (f := 77) (tc 9 (t8 n) fD) (tk (f := 84) (tc 12 (t1 n) fD) aO)))) (by kernel_rfl) (by kernel_rfl) (q := qt)
 rfl
 (by kernel_rfl)
theorem t10 (n : Int) : ah prog 84 (e10 n) := lI [] aO (by kernel_rfl) (by kernel_rfl) (q := rp ((.mp (.int .i64) .bool [((0 : Int), true)] : Ob) = .mp (.int .i64) .bool [((0 : Int), true)]) 1 (qt))
 (xw rfl _ rfl)
 (by kernel_rfl)
theorem t11 (n : Int) : ah prog 83 (e11 n) := lI [] (tk (f := 84) (tc 2 (t10 n) fD) aO) (by kernel_rfl) (by kernel_rfl) (q := qt)
 rfl
 (by kernel_rfl)
theorem t12 (n : Int) : ah prog 68 (e12 n) := lI [] (tk (f := 56) (tc 8 (t9 n) fD) (tk (f := 83) (tc 8340 (t2 n) (tc 8408 (t11 n) fD)) aO)) (by kernel_rfl) (by kernel_rfl) (q := qt)
 rfl
 (by kernel_rfl)
theorem t13 (n : Int) : ah prog 40 (e13 n) := lI [] (tk (f := 56) (tc 6 (t4 n) (tc 207 (t9 n) fD)) (tk (f := 68) (tc 211 (t12 n) fD) aO)) (by kernel_rfl) (by kernel_rfl) (q := qt)
 rfl
 (by kernel_rfl)
theorem t14 (n : Int) : ah prog 28 (e14 n) := lI [(2, [(ls [(sy s1), (ls [(sy s2), (sy s3)]), (sy s3)])])] (tk (f := 38) (tc 2 (t5 n) fD) (tk (f := 39) (tc 3 (t6 n) fD) (tk (f := 40) (tc 7 (t13 n) fD) aO))) (by kernel_rfl) (by kernel_rfl) (q := (s4.size <= 3000 /\ Jq 400 s4 = some (RR.mk (Ch ([ls [sy (ByteArray.mk (#[100, 101, 102, 105, 110, 101])), ls [sy (ByteArray.mk (#[102])), sy (ByteArray.mk (#[110]))], sy (ByteArray.mk (#[110]))]])) 0 0) /\ yY ([ls [sy (ByteArray.mk (#[100, 101, 102, 105, 110, 101])), ls [sy (ByteArray.mk (#[102])), sy (ByteArray.mk (#[110]))], sy (ByteArray.mk (#[110]))]])) /\
 rp (((dxL [(ls [(sy s1), (ls [(sy s2), (sy s3)]), (sy s3)])]) : Nat -> Nat -> Dt) = (dxL [(ls [(sy s1), (ls [(sy s2), (sy s3)]), (sy s3)])])) 1 (qt))
 (by
 refine ⟨⟨by decide, by kernel_rfl, by simp [yY, Dx.fits, ls, sy, num, nu]⟩, ?_⟩
 refine xw rfl _ ?_
 rfl
 )
  (by kernel_rfl)
end Gv.LShowLong
set_option linter.unusedSimpArgs false
set_option linter.unusedVariables false
set_option maxRecDepth 100000
open Rx Go
namespace Gv
open Rd LShowLong
noncomputable def ajZ (n : Int) (k : Nat) : XL := (6, bL [⟨0, [any n, I 80], [], I (Int.ofNat k), []⟩]) :: (28, bL [e14 n]) :: SL.xl
def slQ (n : Int) (k : Nat) : Prop := rp (en (n)) 1 (((((ByteArray.mk (#[40])).size : Nat) : Int) + (((SL.jt k).size : Nat) : Int) <= 9223372036854775807) /\ (((((ByteArray.mk (#[40])) ++ SL.jt k).size : Nat) : Int) + (((ByteArray.mk (#[41])).size : Nat) : Int) <= 9223372036854775807) /\ (((SL.txt k).data.toList == ((ByteArray.mk (#[40])) ++ SL.jt k ++ (ByteArray.mk (#[41]))).data.toList) = true -> (SL.txt k = SL.txt k) /\ qt) /\ (((SL.txt k).data.toList == ((ByteArray.mk (#[40])) ++ SL.jt k ++ (ByteArray.mk (#[41]))).data.toList) = false -> (SL.txt k = SL.txt k) /\ ((SV.kb false : SV) = .kb true)))
noncomputable def slB (k : Nat) : Bool := decide ((((ByteArray.mk (#[40])).size : Nat) : Int) + (((SL.jt k).size : Nat) : Int) <= 9223372036854775807) && (decide (((((ByteArray.mk (#[40])) ++ SL.jt k).size : Nat) : Int) + (((ByteArray.mk (#[41])).size : Nat) : Int) <= 9223372036854775807) && ((SL.txt k).data.toList == ((ByteArray.mk (#[40])) ++ SL.jt k ++ (ByteArray.mk (#[41]))).data.toList))
theorem afp (n : Int) (k : Nat) (h : slB k = true) : slQ n k := by
 unfold slB at h
 rw [Bool.and_eq_true, Bool.and_eq_true, decide_eq_true_eq, decide_eq_true_eq] at h
 exact xw rfl 1 ⟨h.1, h.2.1, fun _ => ⟨rfl, rfl⟩, fun hf => absurd (h.2.2.symm.trans hf) (by decide)⟩
abbrev SlW (k : Nat) : Prop := ∀ n : Int, slB k = true /\ slQ n k = (XP [] (ajZ n k) [] 4 [any n]).holds fun y => y.1 = .kb true
end Gv
