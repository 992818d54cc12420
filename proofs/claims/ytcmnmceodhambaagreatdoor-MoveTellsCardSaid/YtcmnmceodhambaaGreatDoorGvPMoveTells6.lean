/- Told parts of MoveTells. Printed by gvgen.py. -/
import Derived.Test.YtcmnmceodhambaaGreatDoorGvUMoveTells
import Derived.Test.YtcmnmceodhambaaGreatDoorGvPMoveTells3
import Derived.Test.YtcmnmceodhambaaGreatDoorGvPMoveTells5
import Derived.Test.YtcmnmceodhambaaGreatDoorGvPMoveTells2
import Derived.Test.YtcmnmceodhambaaGreatDoorGvPMoveTells1
import Derived.Test.YtcmnmceodhambaaGreatDoorGvPMoveTells0
set_option linter.unusedSimpArgs false
set_option linter.unusedVariables false
set_option maxRecDepth 100000
open Rx Go
namespace Gv.LMoveTells
open Gv Rd
theorem t55 (n m : Int) (hm : ah n < ah m) : aU prog 40 (e55 n m) := aP [] (tk (f := 22) (tc 17 (t45 n m) aA) (tk (f := 59) (tc 90 (t47 n m) aA) (tk (f := 82) (tc 131164 (t54 n m hm) aA) aD))) (by kernel_rfl) (by kernel_rfl) (q := rp (en (ah m)) 1 (rp (en (ah n)) 1 (rp (en (ah m)) 1 (rp (en (ah n)) 1 (rp (en (ah m)) 1 (rp (en (ah n)) 1 (rp (en (ah m)) 1 (rp (en (ah n)) 1 (rp (en (ah m)) 1 (rp (en (ah n)) 1 (rp (en (ah m)) 1 (rp (en (ah n)) 1 ((s24 ++ ak (ah n + ah m) ++ s25 = s24 ++ ak (ah n + ah m) ++ s25) /\
 rp (en (ah n + ah m)) 1 (rp (en (ah m)) 1 (rp (en (ah n)) 1 (qt))))))))))))))))
 (by
 obtain ⟨h0, h1, h2, h3, h4, h5, h6, h7, h8, h9⟩ := fx n m
 iterate 12 refine av rfl _ ?_
 refine ⟨rfl, ?_⟩
 iterate 3 refine av rfl _ ?_
 rfl
 )
  (by kernel_rfl)
theorem t57 (n m : Int) : aU prog 127 (e57 n m) := aP [] aD (by kernel_rfl) (by kernel_rfl) (q := rp ((.mp (.int .i64) .bool [((0 : Int), true), ((5 : Int), true), ((7 : Int), true)] : Ob) = .mp (.int .i64) .bool [((0 : Int), true), ((5 : Int), true), ((7 : Int), true)]) 1 (qt))
 (av rfl _ rfl)
 (by kernel_rfl)
theorem t58 (n m : Int) : aU prog 60 (e58 n m) := aP [] (tk (f := 127) (tc 2 (t57 n m) aA) aD) (by kernel_rfl) (by kernel_rfl) (q := rp (en (ah n + ah m)) 1 (rp (en (ah m)) 1 (rp (en (ah n - ah m)) 1 (rp (en (ah n)) 1 (qt)))))
 (av rfl _ (av rfl _ (av rfl _ (av rfl _ rfl))))
 (by kernel_rfl)
theorem t59 (n m : Int) : aU prog 127 (e59 n m) := aP [] aD (by kernel_rfl) (by kernel_rfl) (q := rp ((.mp (.int .i64) .bool [((0 : Int), true), ((5 : Int), true), ((7 : Int), true)] : Ob) = .mp (.int .i64) .bool [((0 : Int), true), ((5 : Int), true), ((7 : Int), true)]) 1 (qt))
 (av rfl _ rfl)
 (by kernel_rfl)
theorem t60 (n m : Int) : aU prog 60 (e60 n m) := aP [] (tk (f := 127) (tc 2 (t59 n m) aA) aD) (by kernel_rfl) (by kernel_rfl) (q := rp (en (ah n + ah m)) 1 (rp (en (ah n - ah m)) 1 (qt)))
 (av rfl _ (av rfl _ rfl))
 (by kernel_rfl)
theorem t61 (n m : Int) (hm : ah m <= ah n) : aU prog 116 (e61 n m) := aP [] (tk (f := 30) (tc 18 (t37 n m) aA) (tk (f := 60) (tc 190 (t36 n m) (tc 365 (t58 n m) (tc 431 (t60 n m) aA))) (tk (f := 127) (tc 190 (t35 n m) (tc 365 (t57 n m) aA)) aD))) (by kernel_rfl) (by kernel_rfl) (q := rp (en (ah m)) 1 (rp (en (ah n)) 1 (rp (en (ah m)) 1 (rp (en (ah n)) 1 (rp (en (ah m)) 1 (rp (en (ah n)) 1 (rp (en (ah m)) 1 (rp (en (ah n)) 1 ((((decide (ah n < ah m)) = true -> False) /\ ((decide (ah n < ah m)) = false -> rp (en (ah n + ah m)) 1 (rp (en (ah m)) 1 (rp (en (ah n - ah m)) 1 (rp (en (ah n)) 1 (rp (en (ah n + ah m)) 1 (rp (en (ah m)) 1 (rp (en (ah n - ah m)) 1 (rp (en (ah n)) 1 (rp (en (ah n + ah m)) 1 (rp (en (ah n - ah m)) 1 (rp (en (ah n + ah m)) 1 (rp (en (ah n - ah m)) 1 (rp (en (ah m)) 1 (rp (en (ah n)) 1 (qt)))))))))))))))))))))))))
 (by
 obtain ⟨h0, h1, h2, h3, h4, h5, h6, h7, h8, h9⟩ := fx n m
 iterate 8 refine av rfl _ ?_
 refine ⟨fun hc => ?_, fun hc => ?_⟩
 · exfalso
   simp only [decide_eq_true_eq, decide_eq_false_iff_not] at hc
   omega
 · iterate 14 refine av rfl _ ?_
   rfl
 )
  (by kernel_rfl)
theorem t62 (n m : Int) (hm : ah m <= ah n) : aU prog 29 (e62 n m) := aP [] (tk (f := 30) (tc 20 (t25 n m) (tc 511 (t34 n m) aA)) (tk (f := 60) (tc 521 (t21 n m) aA) (tk (f := 127) (tc 521 (t20 n m) aA) (tk (f := 116) (tc 739 (t61 n m hm) aA) aD)))) (by kernel_rfl) (by kernel_rfl) (q := rp (en (ah m)) 1 (rp (en (ah n)) 1 (rp (en (ah m)) 1 (rp (en (ah n)) 1 (rp (en (ah m)) 1 (rp (en (ah n)) 1 (rp (en (ah m)) 1 (rp (en (ah n)) 1 (rp (en (ah m)) 1 (rp (en (ah n)) 1 (rp (en (ah m)) 1 (rp (en (ah n)) 1 (rp (en (ah m)) 1 (rp (en (ah n)) 1 (rp (en (ah m)) 1 (rp (en (ah n)) 1 (rp (en (ah m)) 1 (rp (en (ah n)) 1 (rp (en (ah m)) 1 (rp (en (ah n)) 1 (rp (en (ah m)) 1 (rp (en (ah n)) 1 (qt)))))))))))))))))))))))
 (av rfl _ (av rfl _ (av rfl _ (av rfl _ (av rfl _ (av rfl _ (av rfl _ (av rfl _ (av rfl _ (av rfl _ (av rfl _ (av rfl _ (av rfl _ (av rfl _ (av rfl _ (av rfl _ (av rfl _ (av rfl _ (av rfl _ (av rfl _ (av rfl _ (av rfl _ rfl))))))))))))))))))))))
 (by kernel_rfl)
theorem t63 (n m : Int) (hm : ah m <= ah n) : aU prog 39 (e63 n m) := aP [(11, [(ls [(sy s1), (sy s2), (sy s9), (sy s10)]), (ls [(sy s11), (sy s2), (ls [(sy s12), (ls [(sy s13), (sy s3)]), (ls [(sy s13), (sy s4)])]), (ls [(sy s14), (ls [(sy s15), (ls [(sy s13), (sy s3)]), (ls [(sy s13), (sy s4)])]), (ls [(sy s16), (ls [(sy s17)])]), (ls [(sy s18), (ls [(sy s13), (sy s3)]), (ls [(sy s13), (sy s4)])])])])])] (tk (f := 22) (tc 11 (t26 n m) aA) (tk (f := 28) (tc 15 (t28 n m) aA) (tk (f := 29) (tc 24 (t62 n m hm) aA) aD))) (by kernel_rfl) (by kernel_rfl) (q := (s22.size <= 3000 /\ qy 400 s22 = some (RR.mk (pI ([ls [sy (ByteArray.mk (#[114, 101, 99, 111, 114, 100])), sy (ByteArray.mk (#[112])), sy (ByteArray.mk (#[115])), sy (ByteArray.mk (#[100]))], ls [sy (ByteArray.mk (#[117, 112, 103, 114, 97, 100, 101])), sy (ByteArray.mk (#[112])), ls [sy (ByteArray.mk (#[43])), ls [sy (ByteArray.mk (#[119, 97, 115])), sy (ByteArray.mk (#[97]))], ls [sy (ByteArray.mk (#[119, 97, 115])), sy (ByteArray.mk (#[98]))]], ls [sy (ByteArray.mk (#[105, 102])), ls [sy (ByteArray.mk (#[60])), ls [sy (ByteArray.mk (#[119, 97, 115])), sy (ByteArray.mk (#[97]))], ls [sy (ByteArray.mk (#[119, 97, 115])), sy (ByteArray.mk (#[98]))]], ls [sy (ByteArray.mk (#[113, 117, 111, 116, 101])), ls [sy (ByteArray.mk (#[108, 101, 115, 115]))]], ls [sy (ByteArray.mk (#[45])), ls [sy (ByteArray.mk (#[119, 97, 115])), sy (ByteArray.mk (#[97]))], ls [sy (ByteArray.mk (#[119, 97, 115])), sy (ByteArray.mk (#[98]))]]]]])) 0 0) /\ nI ([ls [sy (ByteArray.mk (#[114, 101, 99, 111, 114, 100])), sy (ByteArray.mk (#[112])), sy (ByteArray.mk (#[115])), sy (ByteArray.mk (#[100]))], ls [sy (ByteArray.mk (#[117, 112, 103, 114, 97, 100, 101])), sy (ByteArray.mk (#[112])), ls [sy (ByteArray.mk (#[43])), ls [sy (ByteArray.mk (#[119, 97, 115])), sy (ByteArray.mk (#[97]))], ls [sy (ByteArray.mk (#[119, 97, 115])), sy (ByteArray.mk (#[98]))]], ls [sy (ByteArray.mk (#[105, 102])), ls [sy (ByteArray.mk (#[60])), ls [sy (ByteArray.mk (#[119, 97, 115])), sy (ByteArray.mk (#[97]))], ls [sy (ByteArray.mk (#[119, 97, 115])), sy (ByteArray.mk (#[98]))]], ls [sy (ByteArray.mk (#[113, 117, 111, 116, 101])), ls [sy (ByteArray.mk (#[108, 101, 115, 115]))]], ls [sy (ByteArray.mk (#[45])), ls [sy (ByteArray.mk (#[119, 97, 115])), sy (ByteArray.mk (#[97]))], ls [sy (ByteArray.mk (#[119, 97, 115])), sy (ByteArray.mk (#[98]))]]]]])) /\
 rp (en (ah m)) 1 (rp (en (ah n)) 1 (rp (en (ah m)) 1 (rp (en (ah n)) 1 (rp (en (ah m)) 1 (rp (en (ah n)) 1 (rp (((dxL [(ls [(sy s1), (sy s2), (sy s9), (sy s10)]), (ls [(sy s11), (sy s2), (ls [(sy s12), (ls [(sy s13), (sy s3)]), (ls [(sy s13), (sy s4)])]), (ls [(sy s14), (ls [(sy s15), (ls [(sy s13), (sy s3)]), (ls [(sy s13), (sy s4)])]), (ls [(sy s16), (ls [(sy s17)])]), (ls [(sy s18), (ls [(sy s13), (sy s3)]), (ls [(sy s13), (sy s4)])])])])]) : Nat -> Nat -> Dt) = (dxL [(ls [(sy s1), (sy s2), (sy s9), (sy s10)]), (ls [(sy s11), (sy s2), (ls [(sy s12), (ls [(sy s13), (sy s3)]), (ls [(sy s13), (sy s4)])]), (ls [(sy s14), (ls [(sy s15), (ls [(sy s13), (sy s3)]), (ls [(sy s13), (sy s4)])]), (ls [(sy s16), (ls [(sy s17)])]), (ls [(sy s18), (ls [(sy s13), (sy s3)]), (ls [(sy s13), (sy s4)])])])])])) 1 (rp (en (ah m)) 1 (rp (en (ah n)) 1 (rp (en (ah m)) 1 (rp (en (ah n)) 1 (rp (en (ah m)) 1 (rp (en (ah n)) 1 (rp (((dxL [(sy s17)]) : Nat -> Nat -> Dt) = (dxL [(sy s17)])) 1 (rp (en (ah m)) 1 (rp (en (ah n)) 1 (rp (en (ah m)) 1 (rp (en (ah n)) 1 (qt)))))))))))))))))))
 (by
 obtain ⟨h0, h1, h2, h3, h4, h5, h6, h7, h8, h9⟩ := fx n m
 refine ⟨⟨by decide, by kernel_rfl, by simp [nI, Dx.fits, ls, sy, num, nu]⟩, ?_⟩
 iterate 18 refine av rfl _ ?_
 rfl
 )
  (by kernel_rfl)
end Gv.LMoveTells
