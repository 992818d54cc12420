/- Told parts of Stale. Printed by gvgen.py. -/
import Derived.Test.YtcmnmceodhambaaGreatDoorGvUStale
import Derived.Test.YtcmnmceodhambaaGreatDoorGvPStale10
import Derived.Test.YtcmnmceodhambaaGreatDoorGvPStale0
set_option linter.unusedSimpArgs false
set_option linter.unusedVariables false
set_option maxRecDepth 100000
open Rx Go
namespace Gv.LStale
open Gv Rd
theorem Xd (n m : Int) : aH prog 116 (Xx n m) := aB [] (tk (f := 30) (tc 23 (t117 n m) aj) (tk (f := 60) (tc 219 (t116 n m) (tc 278 (t119 n m) (tc 344 (Xq n m) aj))) (tk (f := 127) (tc 219 (Ms n m) (tc 278 (Wz n m) aj)) av))) (by kernel_rfl) (by kernel_rfl) (q := rp (en (ah m)) 2 (rp (en (ah n)) 1 (rp (en (ah m)) 9 (rp (en (ah n)) 1 (qt)))))
 (au rfl _ (au rfl _ (au rfl _ (au rfl _ rfl))))
 (by kernel_rfl)
theorem XH (n m : Int) : aH prog 29 (X6 n m) := aB [] (tk (f := 30) (tc 22 (Vs n m) (tc 335 (UQ n m) aj)) (tk (f := 60) (tc 351 (t98 n m) aj) (tk (f := 127) (tc 351 (t97 n m) aj) (tk (f := 116) (tc 625 (Xd n m) aj) av)))) (by kernel_rfl) (by kernel_rfl) (q := rp (en (ah m)) 2 (rp (en (ah n)) 1 (rp (en (ah m)) 2 (rp (en (ah n)) 1 (rp (en (ah m)) 4 (rp (en (ah n)) 1 (rp (en (ah m)) 2 (rp (en (ah n)) 1 (qt)))))))))
 (au rfl _ (au rfl _ (au rfl _ (au rfl _ (au rfl _ (au rfl _ (au rfl _ (au rfl _ rfl))))))))
 (by kernel_rfl)
theorem t124 (n m : Int) : aH prog 39 (Wv n m) := aB [(17, [(ls [(sy s1), (sy s2), (sy s4)]), (ls [(sy s14), (sy s2), (ls [(sy s15), (sy s4)])])])] (tk (f := 22) (tc 17 (XP n m) aj) (tk (f := 28) (tc 21 (WU n m) aj) (tk (f := 29) (tc 26 (XH n m) aj) av))) (by kernel_rfl) (by kernel_rfl) (q := (s22.size <= 3000 /\ oC 400 s22 = some (RR.mk (oU ([ls [sy (ByteArray.mk (#[114, 101, 99, 111, 114, 100])), sy (ByteArray.mk (#[112])), sy (ByteArray.mk (#[98]))], ls [sy (ByteArray.mk (#[117, 112, 103, 114, 97, 100, 101])), sy (ByteArray.mk (#[112])), ls [sy (ByteArray.mk (#[119, 97, 115])), sy (ByteArray.mk (#[98]))]]])) 0 0) /\ nJ ([ls [sy (ByteArray.mk (#[114, 101, 99, 111, 114, 100])), sy (ByteArray.mk (#[112])), sy (ByteArray.mk (#[98]))], ls [sy (ByteArray.mk (#[117, 112, 103, 114, 97, 100, 101])), sy (ByteArray.mk (#[112])), ls [sy (ByteArray.mk (#[119, 97, 115])), sy (ByteArray.mk (#[98]))]]])) /\
 rp (en (ah m)) 2 (rp (en (ah n)) 1 (rp (((dxL [(ls [(sy s1), (sy s2), (sy s4)]), (ls [(sy s14), (sy s2), (ls [(sy s15), (sy s4)])])]) : Nat -> Nat -> Dt) = (dxL [(ls [(sy s1), (sy s2), (sy s4)]), (ls [(sy s14), (sy s2), (ls [(sy s15), (sy s4)])])])) 1 (rp (en (ah m)) 2 (rp (en (ah n)) 1 (rp (en (ah m)) 2 (rp (en (ah n)) 1 (qt))))))))
 (by
 obtain ⟨h0, h1, h2, h3, h4, h5, h6, h7, h8, h9⟩ := fx n m
 refine ⟨⟨by decide, by kernel_rfl, by simp [nJ, Dx.fits, ls, sy, num, nu]⟩, ?_⟩
 iterate 7 refine au rfl _ ?_
 rfl
 )
  (by kernel_rfl)
theorem WX (n m : Int) : aH prog 22 (e125 n m) := aB [] (tk (f := 30) (tc 20 (UQ n m) aj) av) (by kernel_rfl) (by kernel_rfl) (q := rp (en (ah m)) 2 (rp (en (ah n)) 1 (qt)))
 (au rfl _ (au rfl _ rfl))
 (by kernel_rfl)
end Gv.LStale
set_option linter.unusedSimpArgs false
set_option linter.unusedVariables false
set_option maxRecDepth 100000
open Rx Go
namespace Gv.LStale
open Gv Rd
theorem Yd (n m : Int) : aH prog 66 (e126 n m) := aB [] (tk (f := 60) (tc 43 (t8 n m) (tc 78 (t8 n m) aj)) (tk (f := 127) (tc 43 (t0 n m) (tc 78 (t0 n m) aj)) av)) (by kernel_rfl) (by kernel_rfl) (q := qt)
 rfl
 (by kernel_rfl)
theorem t127 (n m : Int) : aH prog 127 (e127 n m) := aB [] av (by kernel_rfl) (by kernel_rfl) (q := rp ((.mp (.int .i64) .bool [((0 : Int), true), ((2 : Int), true), ((4 : Int), true), ((6 : Int), true), ((11 : Int), true), ((16 : Int), true), ((21 : Int), true)] : Ob) = .mp (.int .i64) .bool [((0 : Int), true), ((2 : Int), true), ((4 : Int), true), ((6 : Int), true), ((11 : Int), true), ((16 : Int), true), ((21 : Int), true)]) 1 (qt))
 (au rfl _ rfl)
 (by kernel_rfl)
theorem Yc (n m : Int) : aH prog 60 (e128 n m) := aB [] (tk (f := 127) (tc 2 (t127 n m) aj) av) (by kernel_rfl) (by kernel_rfl) (q := rp (en (ah m)) 2 (qt))
 (au rfl _ rfl)
 (by kernel_rfl)
theorem yQ (n m : Int) : aH prog 127 (e129 n m) := aB [] av (by kernel_rfl) (by kernel_rfl) (q := rp ((.mp (.int .i64) .bool [((0 : Int), true), ((2 : Int), true), ((4 : Int), true), ((6 : Int), true), ((11 : Int), true), ((16 : Int), true), ((21 : Int), true)] : Ob) = .mp (.int .i64) .bool [((0 : Int), true), ((2 : Int), true), ((4 : Int), true), ((6 : Int), true), ((11 : Int), true), ((16 : Int), true), ((21 : Int), true)]) 1 (qt))
 (au rfl _ rfl)
 (by kernel_rfl)
theorem t130 (n m : Int) : aH prog 60 (XF n m) := aB [] (tk (f := 127) (tc 2 (yQ n m) aj) av) (by kernel_rfl) (by kernel_rfl) (q := rp (en (ah m)) 1 (qt))
 (au rfl _ rfl)
 (by kernel_rfl)
theorem t131 (n m : Int) : aH prog 59 (XL n m) := aB [] (tk (f := 30) (tc 24 (UQ n m) aj) (tk (f := 66) (tc 218 (Yd n m) aj) (tk (f := 60) (tc 337 (Yc n m) (tc 403 (t130 n m) aj)) (tk (f := 127) (tc 337 (t127 n m) aj) av)))) (by kernel_rfl) (by kernel_rfl) (q := rp (en (ah m)) 2 (rp (en (ah n)) 1 (rp (en (ah m)) 9 (rp (en (ah n)) 1 (qt)))))
 (au rfl _ (au rfl _ (au rfl _ (au rfl _ rfl))))
 (by kernel_rfl)
theorem XJ (n m : Int) : aH prog 63 (XW n m) := aB [] av (by kernel_rfl) (by kernel_rfl) (q := qt)
 rfl
 (by kernel_rfl)
end Gv.LStale
set_option linter.unusedSimpArgs false
set_option linter.unusedVariables false
set_option maxRecDepth 100000
open Rx Go
namespace Gv.LStale
open Gv Rd
theorem XD (n m : Int) : aH prog 66 (XI n m) := aB [] (tk (f := 60) (tc 26 (t8 n m) (tc 42 (t8 n m) (tc 73 (t8 n m) (tc 85 (t8 n m) aj)))) (tk (f := 127) (tc 26 (t0 n m) (tc 42 (t0 n m) (tc 73 (t0 n m) (tc 85 (t0 n m) aj)))) av)) (by kernel_rfl) (by kernel_rfl) (q := qt)
 rfl
 (by kernel_rfl)
theorem XR (n m : Int) : aH prog 66 (Xb n m) := aB [] av (by kernel_rfl) (by kernel_rfl) (q := qt)
 rfl
 (by kernel_rfl)
theorem Xz (n m : Int) : aH prog 66 (X3 n m) := aB [] av (by kernel_rfl) (by kernel_rfl) (q := qt)
 rfl
 (by kernel_rfl)
theorem Xi (n m : Int) : aH prog 66 (WZ n m) := aB [] av (by kernel_rfl) (by kernel_rfl) (q := qt)
 rfl
 (by kernel_rfl)
theorem XG (n m : Int) : aH prog 66 (e137 n m) := aB [] (tk (f := 60) (tc 20 (t8 n m) (tc 38 (t8 n m) aj)) (tk (f := 127) (tc 20 (t0 n m) (tc 38 (t0 n m) aj)) av)) (by kernel_rfl) (by kernel_rfl) (q := qt)
 rfl
 (by kernel_rfl)
theorem t138 (n m : Int) : aH prog 66 (e138 n m) := aB [] av (by kernel_rfl) (by kernel_rfl) (q := qt)
 rfl
 (by kernel_rfl)
theorem t139 (n m : Int) : aH prog 30 (X0 n m) := aB [] (tk (f := 60) (tc 20 (t130 n m) (tc 47 (t130 n m) (tc 52 (t130 n m) (tc 57 (t130 n m) (tc 62 (t130 n m) aj))))) (tk (f := 45) (tc 36 (t6 n m) aj) (tk (f := 63) (tc 37 (XJ n m) aj) (tk (f := 66) (tc 38 (XD n m) (tc 39 (XR n m) (tc 40 (Xz n m) (tc 41 (Xi n m) (tc 42 (XG n m) (tc 43 (t138 n m) (tc 44 (t138 n m) aj))))))) (tk (f := 127) (tc 47 (yQ n m) (tc 52 (yQ n m) (tc 57 (yQ n m) (tc 62 (yQ n m) aj)))) av))))) (by kernel_rfl) (by kernel_rfl) (q := rp (en (ah m)) 2 (rp (en (ah n)) 1 (rp (en (ah m)) 1 (rp (en (ah n)) 1 (rp (en (ah m)) 8 (qt))))))
 (au rfl _ (au rfl _ (au rfl _ (au rfl _ (au rfl _ rfl)))))
 (by kernel_rfl)
end Gv.LStale
set_option linter.unusedSimpArgs false
set_option linter.unusedVariables false
set_option maxRecDepth 100000
open Rx Go
namespace Gv.LStale
open Gv Rd
theorem XV (n m : Int) : aH prog 82 (Xn n m) := aB [] (tk (f := 30) (tc 22 (t139 n m) aj) (tk (f := 60) (tc 24 (t130 n m) (tc 33 (t130 n m) aj)) (tk (f := 127) (tc 24 (yQ n m) (tc 33 (yQ n m) aj)) av))) (by kernel_rfl) (by kernel_rfl) (q := rp (en (ah m)) 2 (rp (en (ah n)) 1 (rp (en (ah m)) 4 (((fun n => n + (aC (ah m)).size <= 100000) 0) /\
 (rG ((fun n => n + (aC (ah m)).size) 0) ((fun n f => bP n f (kP (aC (ah m)))) 0 row0)) /\
 (aC (ah m) = (ByteArray.mk ((kD ((fun n => n + (aC (ah m)).size) 0) ((fun n f => bP n f (kP (aC (ah m)))) 0 row0)).toArray))) /\
 rp (en (ah m)) 2 (rp (en (ah n)) 1 (qt))))))
 (by
 obtain ⟨h0, h1, h2, h3, h4, h5, h6, h7, h8, h9⟩ := fx n m
 iterate 3 refine au rfl _ ?_
 refine ⟨by simp only [ByteArray.size_append, bU, List.size_toArray, List.length_cons, List.length_nil, List.append_eq, List.length_append]; omega, ?_⟩
 refine ⟨l5 (gQ iR (aC (ah m))) (by simp only [ByteArray.size_append, bU, List.size_toArray, List.length_cons, List.length_nil, List.append_eq, List.length_append]; omega) (by simp only [ByteArray.size_append, bU, List.size_toArray, List.length_cons, List.length_nil, List.append_eq, List.length_append]; omega), ?_⟩
 refine ⟨zl (gQ iR (aC (ah m))) (by (simp only [lU, lH, List.append_assoc, List.nil_append]) <;> kernel_rfl), ?_⟩
 iterate 2 refine au rfl _ ?_
 rfl
 )
  (by kernel_rfl)
theorem t141 (n m : Int) : aH prog 40 (Ws n m) := aB [] (tk (f := 22) (tc 22 (WX n m) aj) (tk (f := 59) (tc 95 (t131 n m) aj) (tk (f := 82) (tc 131169 (XV n m) aj) av))) (by kernel_rfl) (by kernel_rfl) (q := rp (en (ah m)) 2 (rp (en (ah n)) 1 (rp (en (ah m)) 2 (rp (en (ah n)) 1 (rp (en (ah m)) 3 (rp (en (ah n)) 1 ((aC (ah m) = aC (ah m)) /\
 rp (en (ah m)) 2 (rp (en (ah n)) 1 (qt)))))))))
 (by
 obtain ⟨h0, h1, h2, h3, h4, h5, h6, h7, h8, h9⟩ := fx n m
 iterate 6 refine au rfl _ ?_
 refine ⟨rfl, ?_⟩
 iterate 2 refine au rfl _ ?_
 rfl
 )
  (by kernel_rfl)
theorem Vm (n m : Int) : aH prog 30 (Xj n m) := aB [] (tk (f := 60) (tc 19 (t130 n m) (tc 46 (t130 n m) (tc 51 (t130 n m) (tc 56 (t130 n m) (tc 61 (t130 n m) aj))))) (tk (f := 45) (tc 35 (t6 n m) aj) (tk (f := 63) (tc 36 (t107 n m) aj) (tk (f := 66) (tc 37 (TU n m) (tc 38 (t109 n m) (tc 39 (Um n m) (tc 40 (TP n m) (tc 41 (TS n m) (tc 42 (LC n m) (tc 43 (LC n m) aj))))))) (tk (f := 127) (tc 46 (yQ n m) (tc 51 (yQ n m) (tc 56 (yQ n m) (tc 61 (yQ n m) aj)))) av))))) (by kernel_rfl) (by kernel_rfl) (q := rp (en (ah m)) 2 (rp (en (ah n)) 1 (rp (en (ah m)) 1 (rp (en (ah n)) 1 (rp (en (ah m)) 8 (qt))))))
 (au rfl _ (au rfl _ (au rfl _ (au rfl _ (au rfl _ rfl)))))
 (by kernel_rfl)
theorem t143 (n m : Int) : aH prog 22 (e143 n m) := aB [] (tk (f := 30) (tc 20 (Vm n m) aj) av) (by kernel_rfl) (by kernel_rfl) (q := rp (en (ah m)) 2 (rp (en (ah n)) 1 (qt)))
 (au rfl _ (au rfl _ rfl))
 (by kernel_rfl)
theorem XY (n m : Int) : aH prog 66 (Xf n m) := aB [] (tk (f := 60) (tc 44 (t8 n m) (tc 80 (t8 n m) aj)) (tk (f := 127) (tc 44 (t0 n m) (tc 80 (t0 n m) aj)) av)) (by kernel_rfl) (by kernel_rfl) (q := qt)
 rfl
 (by kernel_rfl)
end Gv.LStale
set_option linter.unusedSimpArgs false
set_option linter.unusedVariables false
set_option maxRecDepth 100000
open Rx Go
namespace Gv.LStale
open Gv Rd
theorem t145 (n m : Int) : aH prog 59 (Xk n m) := aB [] (tk (f := 30) (tc 24 (Vm n m) aj) (tk (f := 66) (tc 218 (XY n m) aj) av)) (by kernel_rfl) (by kernel_rfl) (q := rp (en (ah m)) 2 (rp (en (ah n)) 1 (qt)))
 (au rfl _ (au rfl _ rfl))
 (by kernel_rfl)
theorem t146 (n m : Int) : aH prog 40 (Vk n m) := aB [] (tk (f := 22) (tc 22 (t143 n m) aj) (tk (f := 59) (tc 95 (t145 n m) aj) av)) (by kernel_rfl) (by kernel_rfl) (q := rp (en (ah m)) 2 (rp (en (ah n)) 1 (rp (en (ah m)) 2 (rp (en (ah n)) 1 (qt)))))
 (au rfl _ (au rfl _ (au rfl _ (au rfl _ rfl))))
 (by kernel_rfl)
end Gv.LStale
