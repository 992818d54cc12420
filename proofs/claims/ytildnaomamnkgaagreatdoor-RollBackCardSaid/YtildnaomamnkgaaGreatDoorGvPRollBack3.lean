/- Told parts of RollBack. Printed by gvgen.py. -/
import Derived.Test.YtildnaomamnkgaaGreatDoorGvKRollBack
import Derived.Test.YtildnaomamnkgaaGreatDoorGvPRollBack0
set_option linter.unusedSimpArgs false
set_option linter.unusedVariables false
set_option maxRecDepth 100000
open Rx Go
namespace Gv.LRollBack
open Gv Rd
theorem t28 (n m : Int) : bM prog 28 (e28 n m) := bI [] (tk (f := 44) (tc 19 (t3 n m) (tc 880 (t12 n m) aB)) (tk (f := 56) (tc 886 (t15 n m) (tc 902 (t19 n m) aB)) (tk (f := 32) (tc 918 (t21 n m) (tc 131996 (t27 n m) aB)) aJ))) (by kernel_rfl) (by kernel_rfl) (q := qt)
 rfl
 (by kernel_rfl)
end Gv.LRollBack
set_option linter.unusedSimpArgs false
set_option linter.unusedVariables false
set_option maxRecDepth 100000
open Rx Go
namespace Gv.LRollBack
open Gv Rd
theorem t29 (n m : Int) : bM prog 18 (e29 n m) := bI [(2, [(ls [(sy s1), (sy s2), (num 0)]), (ls [(sy s1), (sy s3), (ls [(sy s4), (ls [])])]), (ls [(sy s1), (ls [(sy s5), (sy s6)]), (ls [(sy s7), (ls [(sy s8), (sy s6), (num 0)]), (ls [(sy s9), (sy s2)]), (ls [(sy s10), (ls [(sy s11), (sy s2), (ls [(sy s12), (sy s2), (num 1)])]), (ls [(sy s11), (sy s3), (ls [(sy s13), (sy s2), (sy s3)])]), (ls [(sy s5), (ls [(sy s14), (sy s6), (num 1)])])])])]), (ls [(sy s1), (ls [(sy s15), (sy s6)]), (ls [(sy s13), (sy s2), (sy s3)])])])] (tk (f := 26) (tc 2 (t4 n m) aB) (tk (f := 27) (tc 3 (t5 n m) aB) (tk (f := 28) (tc 20 (t28 n m) aB) aJ))) (by kernel_rfl) (by kernel_rfl) (q := (s16.size <= 3000 /\ tH 400 s16 = some (RR.mk (sI ([ls [sy (ByteArray.mk (#[100, 101, 102, 105, 110, 101])), sy (ByteArray.mk (#[120])), num 0], ls [sy (ByteArray.mk (#[100, 101, 102, 105, 110, 101])), sy (ByteArray.mk (#[108])), ls [sy (ByteArray.mk (#[113, 117, 111, 116, 101])), ls []]], ls [sy (ByteArray.mk (#[100, 101, 102, 105, 110, 101])), ls [sy (ByteArray.mk (#[102])), sy (ByteArray.mk (#[110]))], ls [sy (ByteArray.mk (#[105, 102])), ls [sy (ByteArray.mk (#[61])), sy (ByteArray.mk (#[110])), num 0], ls [sy (ByteArray.mk (#[101, 114, 114, 111, 114])), sy (ByteArray.mk (#[120]))], ls [sy (ByteArray.mk (#[98, 101, 103, 105, 110])), ls [sy (ByteArray.mk (#[115, 101, 116, 33])), sy (ByteArray.mk (#[120])), ls [sy (ByteArray.mk (#[43])), sy (ByteArray.mk (#[120])), num 1]], ls [sy (ByteArray.mk (#[115, 101, 116, 33])), sy (ByteArray.mk (#[108])), ls [sy (ByteArray.mk (#[99, 111, 110, 115])), sy (ByteArray.mk (#[120])), sy (ByteArray.mk (#[108]))]], ls [sy (ByteArray.mk (#[102])), ls [sy (ByteArray.mk (#[45])), sy (ByteArray.mk (#[110])), num 1]]]]], ls [sy (ByteArray.mk (#[100, 101, 102, 105, 110, 101])), ls [sy (ByteArray.mk (#[115, 104, 111, 119])), sy (ByteArray.mk (#[110]))], ls [sy (ByteArray.mk (#[99, 111, 110, 115])), sy (ByteArray.mk (#[120])), sy (ByteArray.mk (#[108]))]]])) 0 0) /\ uF ([ls [sy (ByteArray.mk (#[100, 101, 102, 105, 110, 101])), sy (ByteArray.mk (#[120])), num 0], ls [sy (ByteArray.mk (#[100, 101, 102, 105, 110, 101])), sy (ByteArray.mk (#[108])), ls [sy (ByteArray.mk (#[113, 117, 111, 116, 101])), ls []]], ls [sy (ByteArray.mk (#[100, 101, 102, 105, 110, 101])), ls [sy (ByteArray.mk (#[102])), sy (ByteArray.mk (#[110]))], ls [sy (ByteArray.mk (#[105, 102])), ls [sy (ByteArray.mk (#[61])), sy (ByteArray.mk (#[110])), num 0], ls [sy (ByteArray.mk (#[101, 114, 114, 111, 114])), sy (ByteArray.mk (#[120]))], ls [sy (ByteArray.mk (#[98, 101, 103, 105, 110])), ls [sy (ByteArray.mk (#[115, 101, 116, 33])), sy (ByteArray.mk (#[120])), ls [sy (ByteArray.mk (#[43])), sy (ByteArray.mk (#[120])), num 1]], ls [sy (ByteArray.mk (#[115, 101, 116, 33])), sy (ByteArray.mk (#[108])), ls [sy (ByteArray.mk (#[99, 111, 110, 115])), sy (ByteArray.mk (#[120])), sy (ByteArray.mk (#[108]))]], ls [sy (ByteArray.mk (#[102])), ls [sy (ByteArray.mk (#[45])), sy (ByteArray.mk (#[110])), num 1]]]]], ls [sy (ByteArray.mk (#[100, 101, 102, 105, 110, 101])), ls [sy (ByteArray.mk (#[115, 104, 111, 119])), sy (ByteArray.mk (#[110]))], ls [sy (ByteArray.mk (#[99, 111, 110, 115])), sy (ByteArray.mk (#[120])), sy (ByteArray.mk (#[108]))]]])) /\
 rp (((dxL [(ls [(sy s1), (sy s2), (num 0)]), (ls [(sy s1), (sy s3), (ls [(sy s4), (ls [])])]), (ls [(sy s1), (ls [(sy s5), (sy s6)]), (ls [(sy s7), (ls [(sy s8), (sy s6), (num 0)]), (ls [(sy s9), (sy s2)]), (ls [(sy s10), (ls [(sy s11), (sy s2), (ls [(sy s12), (sy s2), (num 1)])]), (ls [(sy s11), (sy s3), (ls [(sy s13), (sy s2), (sy s3)])]), (ls [(sy s5), (ls [(sy s14), (sy s6), (num 1)])])])])]), (ls [(sy s1), (ls [(sy s15), (sy s6)]), (ls [(sy s13), (sy s2), (sy s3)])])]) : Nat -> Nat -> Dt) = (dxL [(ls [(sy s1), (sy s2), (num 0)]), (ls [(sy s1), (sy s3), (ls [(sy s4), (ls [])])]), (ls [(sy s1), (ls [(sy s5), (sy s6)]), (ls [(sy s7), (ls [(sy s8), (sy s6), (num 0)]), (ls [(sy s9), (sy s2)]), (ls [(sy s10), (ls [(sy s11), (sy s2), (ls [(sy s12), (sy s2), (num 1)])]), (ls [(sy s11), (sy s3), (ls [(sy s13), (sy s2), (sy s3)])]), (ls [(sy s5), (ls [(sy s14), (sy s6), (num 1)])])])])]), (ls [(sy s1), (ls [(sy s15), (sy s6)]), (ls [(sy s13), (sy s2), (sy s3)])])])) 1 (rp (((dxL []) : Nat -> Nat -> Dt) = (dxL [])) 5 (qt)))
 (by
 obtain ⟨h0, h1, h2, h3, h4, h5, h6, h7, h8, h9⟩ := fx n m
 refine ⟨⟨by decide, by kernel_rfl, by simp [uF, Dx.fits, ls, sy, num, nu]⟩, ?_⟩
 iterate 2 refine jd rfl _ ?_
 rfl
 )
  (by kernel_rfl)
theorem t30 (n m : Int) : bM prog 44 (e30 n m) := bI [] (tk (f := 72) (tc 9 (t18 n m) (tc 29 (t18 n m) (tc 34 (t18 n m) (tc 39 (t18 n m) (tc 44 (t18 n m) aB))))) (tk (f := 46) (tc 22 (t6 n m) aB) (tk (f := 65) (tc 23 (t22 n m) (tc 24 (t23 n m) (tc 25 (t24 n m) (tc 26 (t25 n m) aB)))) (tk (f := 73) (tc 29 (t17 n m) (tc 34 (t17 n m) (tc 39 (t17 n m) (tc 44 (t17 n m) aB)))) aJ)))) (by kernel_rfl) (by kernel_rfl) (q := qt)
 rfl
 (by kernel_rfl)
theorem t31 (n m : Int) : bM prog 26 (e31 n m) := bI [] (tk (f := 44) (tc 10 (t30 n m) aB) aJ) (by kernel_rfl) (by kernel_rfl) (q := qt)
 rfl
 (by kernel_rfl)
theorem t32 (n m : Int) : bM prog 65 (e32 n m) := bI [] (tk (f := 72) (tc 42 (t7 n m) (tc 77 (t7 n m) aB)) (tk (f := 73) (tc 42 (t0 n m) (tc 77 (t0 n m) aB)) aJ)) (by kernel_rfl) (by kernel_rfl) (q := qt)
 rfl
 (by kernel_rfl)
theorem t33 (n m : Int) : bM prog 19 (e33 n m) := V5 [] (TS (KRollBack.XZ n m)) (tk (f := 26) (tc 12 (t31 n m) aB) (tk (f := 44) (tc 88 (t30 n m) aB) (tk (f := 65) (tc 240 (t32 n m) aB) aJ))) (by kernel_rfl) (by kernel_rfl) (q := rp (en (Az n)) 1 ((mJ m = mJ m /\ 0 <= mJ m /\ mJ m <= 600) /\
 rp (en (Az n)) 1 (rp (en (Gv.KRollBack.cc n m)) 1 (qt))))
 (by
 obtain ⟨h0, h1, h2, h3, h4, h5, h6, h7, h8, h9⟩ := fx n m
 refine jd rfl _ ?_
 refine ⟨by omega, ?_⟩
 iterate 2 refine jd rfl _ ?_
 rfl
 )
  (by kernel_rfl)
theorem t34 (n m : Int) : bM prog 65 (e34 n m) := bI [] (tk (f := 72) (tc 43 (t7 n m) (tc 79 (t7 n m) aB)) (tk (f := 73) (tc 43 (t0 n m) (tc 79 (t0 n m) aB)) aJ)) (by kernel_rfl) (by kernel_rfl) (q := qt)
 rfl
 (by kernel_rfl)
theorem t35 (n m : Int) : bM prog 32 (e35 n m) := bI [] (tk (f := 44) (tc 14 (t30 n m) aB) (tk (f := 65) (tc 166 (t34 n m) aB) aJ)) (by kernel_rfl) (by kernel_rfl) (q := qt)
 rfl
 (by kernel_rfl)
theorem t36 (n m : Int) : bM prog 73 (e36 n m) := bI [] aJ (by kernel_rfl) (by kernel_rfl) (q := rp ((.mp (.int .i64) .bool [((0 : Int), true), ((2 : Int), true), ((4 : Int), true)] : Ob) = .mp (.int .i64) .bool [((0 : Int), true), ((2 : Int), true), ((4 : Int), true)]) 1 (qt))
 (jd rfl _ rfl)
 (by kernel_rfl)
theorem t37 (n m : Int) : bM prog 72 (e37 n m) := bI [] (tk (f := 73) (tc 2 (t36 n m) aB) aJ) (by kernel_rfl) (by kernel_rfl) (q := qt)
 rfl
 (by kernel_rfl)
theorem t38 (n m : Int) : bM prog 44 (e38 n m) := bI [] (tk (f := 72) (tc 9 (t37 n m) (tc 29 (t37 n m) (tc 34 (t37 n m) (tc 39 (t37 n m) (tc 44 (t37 n m) aB))))) (tk (f := 46) (tc 22 (t6 n m) aB) (tk (f := 65) (tc 23 (t22 n m) (tc 24 (t23 n m) (tc 25 (t24 n m) (tc 26 (t25 n m) aB)))) (tk (f := 73) (tc 29 (t36 n m) (tc 34 (t36 n m) (tc 39 (t36 n m) (tc 44 (t36 n m) aB)))) aJ)))) (by kernel_rfl) (by kernel_rfl) (q := qt)
 rfl
 (by kernel_rfl)
end Gv.LRollBack
set_option linter.unusedSimpArgs false
set_option linter.unusedVariables false
set_option maxRecDepth 100000
open Rx Go
namespace Gv.LRollBack
open Gv Rd
theorem t39 (n m : Int) : bM prog 33 (e39 n m) := bI [] (tk (f := 44) (tc 11 (t38 n m) aB) (tk (f := 72) (tc 13 (t37 n m) (tc 22 (t37 n m) (tc 37 (t37 n m) (tc 48 (t37 n m) aB)))) (tk (f := 73) (tc 13 (t36 n m) (tc 22 (t36 n m) (tc 37 (t36 n m) (tc 48 (t36 n m) aB)))) aJ))) (by kernel_rfl) (by kernel_rfl) (q := ((fun n => n <= 100000) 0) /\
 ((fun n => n + (bg 0).size <= 100000) ((fun n => n + 1) 0)) /\
 ((fun n => n <= 100000) ((fun n => n + (bg 0).size) ((fun n => n + 1) 0))) /\
 (JN ((fun n => n + 1) ((fun n => n + (bg 0).size) ((fun n => n + 1) 0))) ((fun n f => dU n f (jo 1 [Dt.cell (Value.int IntKind.u8 41)])) ((fun n => n + (bg 0).size) ((fun n => n + 1) 0)) ((fun n f => dU n f (Cg (bg 0))) ((fun n => n + 1) 0) ((fun n f => dU n f (jo 1 [Dt.cell (Value.int IntKind.u8 40)])) 0 row0)))) /\
 (s17 ++ bg 0 ++ s18 = (ByteArray.mk ((nJ ((fun n => n + 1) ((fun n => n + (bg 0).size) ((fun n => n + 1) 0))) ((fun n f => dU n f (jo 1 [Dt.cell (Value.int IntKind.u8 41)])) ((fun n => n + (bg 0).size) ((fun n => n + 1) 0)) ((fun n f => dU n f (Cg (bg 0))) ((fun n => n + 1) 0) ((fun n f => dU n f (jo 1 [Dt.cell (Value.int IntKind.u8 40)])) 0 row0)))).toArray))) /\
 qt)
 (by
 obtain ⟨h0, h1, h2, h3, h4, h5, h6, h7, h8, h9⟩ := fx n m
 refine ⟨by simp only [ByteArray.size_append, A9, List.size_toArray, List.length_cons, List.length_nil, List.append_eq, List.length_append]; omega, ?_⟩
 refine ⟨by simp only [ByteArray.size_append, A9, List.size_toArray, List.length_cons, List.length_nil, List.append_eq, List.length_append]; omega, ?_⟩
 refine ⟨by simp only [ByteArray.size_append, A9, List.size_toArray, List.length_cons, List.length_nil, List.append_eq, List.length_append]; omega, ?_⟩
 refine ⟨NH (Et (PE (Et KU 40 rfl) (bg 0)) 41 rfl) (by simp only [ByteArray.size_append, A9, List.size_toArray, List.length_cons, List.length_nil, List.append_eq, List.length_append]; omega) (by simp only [ByteArray.size_append, A9, List.size_toArray, List.length_cons, List.length_nil, List.append_eq, List.length_append]; omega), ?_⟩
 refine ⟨VG (Et (PE (Et KU 40 rfl) (bg 0)) 41 rfl) (by (simp only [Jw, Kl, List.append_assoc, List.nil_append, Q6, Ot]) <;> kernel_rfl), ?_⟩
 rfl
 )
  (by kernel_rfl)
theorem t40 (n m : Int) : bM prog 19 (e40 n m) := bI [] (tk (f := 26) (tc 12 (t31 n m) aB) (tk (f := 32) (tc 83 (t35 n m) aB) (tk (f := 33) (tc 131157 (t39 n m) aB) aJ))) (by kernel_rfl) (by kernel_rfl) (q := (s17 ++ bg 0 ++ s18 = s17 ++ bg 0 ++ s18) /\
 qt)
 (by
 obtain ⟨h0, h1, h2, h3, h4, h5, h6, h7, h8, h9⟩ := fx n m
 refine ⟨rfl, ?_⟩
 rfl
 )
  (by kernel_rfl)
end Gv.LRollBack
set_option linter.unusedSimpArgs false
set_option linter.unusedVariables false
open Rx Go
namespace Gv
open Rd LRollBack
noncomputable def vJ (n m : Int) : TL := [(18, [(13, (e29 n m))]), (19, [(25, (e33 n m)), (29, (e40 n m))])]
def vK (n m : Int) : Prop :=
 rp (en (mJ m)) 1 (rp (en (Az n)) 1 (rp (en (mJ m)) 1 ((((KRollBack.cc n m == 14) = true -> ((((s17 ++ bg 0 ++ s18).data.toList == (ByteArray.mk (#[40, 48, 41])).data.toList) = true -> qt) /\ (((s17 ++ bg 0 ++ s18).data.toList == (ByteArray.mk (#[40, 48, 41])).data.toList) = false -> ((SV.kb false : SV) = .kb true)))) /\ ((KRollBack.cc n m == 14) = false -> (((KRollBack.cc n m == 11) = true -> ((((s17 ++ bg 0 ++ s18).data.toList == (ByteArray.mk (#[40, 48, 41])).data.toList) = true -> qt) /\ (((s17 ++ bg 0 ++ s18).data.toList == (ByteArray.mk (#[40, 48, 41])).data.toList) = false -> ((SV.kb false : SV) = .kb true)))) /\ ((KRollBack.cc n m == 11) = false -> ((SV.kb false : SV) = .kb true))))))))
set_option maxRecDepth 100000 in
theorem xR (n m : Int) : (vK n m) = (Ol [] (vJ n m) 4 [any n, any m]).holds fun y => y.1 = .kb true := by
 kernel_rfl
set_option maxRecDepth 100000 in
theorem Af (n m : Int) : vK n m := by
 obtain ⟨h0, h1, h2, h3, h4, h5, h6, h7, h8, h9⟩ := fx n m
 unfold vK
 iterate 3 refine jd rfl _ ?_
 refine ⟨fun hq1 => ?_, fun hq1 => ?_⟩
 · refine ⟨fun _ => ?_, fun h => absurd ((show ((s17 ++ bg 0 ++ s18).data.toList == (ByteArray.mk (#[40, 48, 41])).data.toList) = true by first | exact beq_self_eq_true _ | (rw [beq_iff_eq]; simp only [Jw, Kl, List.append_assoc, List.nil_append, Q6, Ot]; try kernel_rfl)).symm.trans h) (by decide)⟩
   rfl
 · simp only [beq_eq_false_iff_ne, ne_eq] at hq1
   refine ⟨fun hq2 => ?_, fun hq2 => ?_⟩
   · refine ⟨fun _ => ?_, fun h => absurd ((show ((s17 ++ bg 0 ++ s18).data.toList == (ByteArray.mk (#[40, 48, 41])).data.toList) = true by first | exact beq_self_eq_true _ | (rw [beq_iff_eq]; simp only [Jw, Kl, List.append_assoc, List.nil_append, Q6, Ot]; try kernel_rfl)).symm.trans h) (by decide)⟩
     rfl
   · simp only [beq_eq_false_iff_ne, ne_eq] at hq2
     exfalso
     rcases KRollBack.PK n m with ⟨_, hz⟩ | ⟨_, hz⟩
     · exact absurd hz hq1
     · exact absurd hz hq2
theorem FK (n m : Int) : TOk (vJ n m) := (Ap (yc (t29 n m) aB) (Ap (yc (t33 n m) (yc (t40 n m) aB)) aJ))
theorem FX (n m : Int) : (Ol [] (vJ n m) 4 [any n, any m]).holds fun y => y.1 = .kb true := by
 rw [← xR]
 exact Af n m
end Gv
