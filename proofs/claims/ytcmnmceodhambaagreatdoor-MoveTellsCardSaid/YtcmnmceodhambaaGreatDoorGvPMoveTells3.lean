/- Told parts of MoveTells. Printed by gvgen.py. -/
import Derived.Test.YtcmnmceodhambaaGreatDoorGvUMoveTells
import Derived.Test.YtcmnmceodhambaaGreatDoorGvPMoveTells1
import Derived.Test.YtcmnmceodhambaaGreatDoorGvPMoveTells2
import Derived.Test.YtcmnmceodhambaaGreatDoorGvPMoveTells0
set_option linter.unusedSimpArgs false
set_option linter.unusedVariables false
set_option maxRecDepth 100000
open Rx Go
namespace Gv.LMoveTells
open Gv Rd
theorem t43 (n m : Int) (hm : ah n < ah m) : aU prog 29 (e43 n m) := aP [] (tk (f := 30) (tc 20 (t25 n m) (tc 511 (t34 n m) aA)) (tk (f := 60) (tc 521 (t21 n m) aA) (tk (f := 127) (tc 521 (t20 n m) aA) (tk (f := 116) (tc 739 (t42 n m hm) aA) aD)))) (by kernel_rfl) (by kernel_rfl) (q := rp (en (ah m)) 1 (rp (en (ah n)) 1 (rp (en (ah m)) 1 (rp (en (ah n)) 1 (rp (en (ah m)) 1 (rp (en (ah n)) 1 (rp (en (ah m)) 1 (rp (en (ah n)) 1 (rp (en (ah m)) 1 (rp (en (ah n)) 1 (rp (en (ah m)) 1 (rp (en (ah n)) 1 (rp (en (ah m)) 1 (rp (en (ah n)) 1 (rp (en (ah m)) 1 (rp (en (ah n)) 1 (rp (en (ah m)) 1 (rp (en (ah n)) 1 (rp (en (ah m)) 1 (rp (en (ah n)) 1 (rp (en (ah m)) 1 (rp (en (ah n)) 1 (qt)))))))))))))))))))))))
 (av rfl _ (av rfl _ (av rfl _ (av rfl _ (av rfl _ (av rfl _ (av rfl _ (av rfl _ (av rfl _ (av rfl _ (av rfl _ (av rfl _ (av rfl _ (av rfl _ (av rfl _ (av rfl _ (av rfl _ (av rfl _ (av rfl _ (av rfl _ (av rfl _ (av rfl _ rfl))))))))))))))))))))))
 (by kernel_rfl)
theorem t44 (n m : Int) (hm : ah n < ah m) : aU prog 39 (e44 n m) := aP [(11, [(ls [(sy s1), (sy s2), (sy s9), (sy s10)]), (ls [(sy s11), (sy s2), (ls [(sy s12), (ls [(sy s13), (sy s3)]), (ls [(sy s13), (sy s4)])]), (ls [(sy s14), (ls [(sy s15), (ls [(sy s13), (sy s3)]), (ls [(sy s13), (sy s4)])]), (ls [(sy s16), (ls [(sy s17)])]), (ls [(sy s18), (ls [(sy s13), (sy s3)]), (ls [(sy s13), (sy s4)])])])])])] (tk (f := 22) (tc 11 (t26 n m) aA) (tk (f := 28) (tc 15 (t28 n m) aA) (tk (f := 29) (tc 24 (t43 n m hm) aA) aD))) (by kernel_rfl) (by kernel_rfl) (q := (s22.size <= 3000 /\ qy 400 s22 = some (RR.mk (pI ([ls [sy (ByteArray.mk (#[114, 101, 99, 111, 114, 100])), sy (ByteArray.mk (#[112])), sy (ByteArray.mk (#[115])), sy (ByteArray.mk (#[100]))], ls [sy (ByteArray.mk (#[117, 112, 103, 114, 97, 100, 101])), sy (ByteArray.mk (#[112])), ls [sy (ByteArray.mk (#[43])), ls [sy (ByteArray.mk (#[119, 97, 115])), sy (ByteArray.mk (#[97]))], ls [sy (ByteArray.mk (#[119, 97, 115])), sy (ByteArray.mk (#[98]))]], ls [sy (ByteArray.mk (#[105, 102])), ls [sy (ByteArray.mk (#[60])), ls [sy (ByteArray.mk (#[119, 97, 115])), sy (ByteArray.mk (#[97]))], ls [sy (ByteArray.mk (#[119, 97, 115])), sy (ByteArray.mk (#[98]))]], ls [sy (ByteArray.mk (#[113, 117, 111, 116, 101])), ls [sy (ByteArray.mk (#[108, 101, 115, 115]))]], ls [sy (ByteArray.mk (#[45])), ls [sy (ByteArray.mk (#[119, 97, 115])), sy (ByteArray.mk (#[97]))], ls [sy (ByteArray.mk (#[119, 97, 115])), sy (ByteArray.mk (#[98]))]]]]])) 0 0) /\ nI ([ls [sy (ByteArray.mk (#[114, 101, 99, 111, 114, 100])), sy (ByteArray.mk (#[112])), sy (ByteArray.mk (#[115])), sy (ByteArray.mk (#[100]))], ls [sy (ByteArray.mk (#[117, 112, 103, 114, 97, 100, 101])), sy (ByteArray.mk (#[112])), ls [sy (ByteArray.mk (#[43])), ls [sy (ByteArray.mk (#[119, 97, 115])), sy (ByteArray.mk (#[97]))], ls [sy (ByteArray.mk (#[119, 97, 115])), sy (ByteArray.mk (#[98]))]], ls [sy (ByteArray.mk (#[105, 102])), ls [sy (ByteArray.mk (#[60])), ls [sy (ByteArray.mk (#[119, 97, 115])), sy (ByteArray.mk (#[97]))], ls [sy (ByteArray.mk (#[119, 97, 115])), sy (ByteArray.mk (#[98]))]], ls [sy (ByteArray.mk (#[113, 117, 111, 116, 101])), ls [sy (ByteArray.mk (#[108, 101, 115, 115]))]], ls [sy (ByteArray.mk (#[45])), ls [sy (ByteArray.mk (#[119, 97, 115])), sy (ByteArray.mk (#[97]))], ls [sy (ByteArray.mk (#[119, 97, 115])), sy (ByteArray.mk (#[98]))]]]]])) /\
 rp (en (ah m)) 1 (rp (en (ah n)) 1 (rp (en (ah m)) 1 (rp (en (ah n)) 1 (rp (en (ah m)) 1 (rp (en (ah n)) 1 (rp (((dxL [(ls [(sy s1), (sy s2), (sy s9), (sy s10)]), (ls [(sy s11), (sy s2), (ls [(sy s12), (ls [(sy s13), (sy s3)]), (ls [(sy s13), (sy s4)])]), (ls [(sy s14), (ls [(sy s15), (ls [(sy s13), (sy s3)]), (ls [(sy s13), (sy s4)])]), (ls [(sy s16), (ls [(sy s17)])]), (ls [(sy s18), (ls [(sy s13), (sy s3)]), (ls [(sy s13), (sy s4)])])])])]) : Nat -> Nat -> Dt) = (dxL [(ls [(sy s1), (sy s2), (sy s9), (sy s10)]), (ls [(sy s11), (sy s2), (ls [(sy s12), (ls [(sy s13), (sy s3)]), (ls [(sy s13), (sy s4)])]), (ls [(sy s14), (ls [(sy s15), (ls [(sy s13), (sy s3)]), (ls [(sy s13), (sy s4)])]), (ls [(sy s16), (ls [(sy s17)])]), (ls [(sy s18), (ls [(sy s13), (sy s3)]), (ls [(sy s13), (sy s4)])])])])])) 1 (rp (en (ah m)) 1 (rp (en (ah n)) 1 (rp (en (ah m)) 1 (rp (en (ah n)) 1 (rp (en (ah m)) 1 (rp (en (ah n)) 1 (rp (((dxL [(sy s17)]) : Nat -> Nat -> Dt) = (dxL [(sy s17)])) 1 (rp (en (ah m)) 1 (rp (en (ah n)) 1 (rp (en (ah m)) 1 (rp (en (ah n)) 1 (qt)))))))))))))))))))
 (by
 obtain ⟨h0, h1, h2, h3, h4, h5, h6, h7, h8, h9⟩ := fx n m
 refine ⟨⟨by decide, by kernel_rfl, by simp [nI, Dx.fits, ls, sy, num, nu]⟩, ?_⟩
 iterate 18 refine av rfl _ ?_
 rfl
 )
  (by kernel_rfl)
theorem t45 (n m : Int) : aU prog 22 (e45 n m) := aP [] (tk (f := 30) (tc 15 (t34 n m) aA) aD) (by kernel_rfl) (by kernel_rfl) (q := rp (en (ah m)) 1 (rp (en (ah n)) 1 (rp (en (ah m)) 1 (rp (en (ah n)) 1 (qt)))))
 (av rfl _ (av rfl _ (av rfl _ (av rfl _ rfl))))
 (by kernel_rfl)
theorem t46 (n m : Int) : aU prog 66 (e46 n m) := aP [] (tk (f := 60) (tc 42 (t8 n m) (tc 76 (t8 n m) aA)) (tk (f := 127) (tc 42 (t0 n m) (tc 76 (t0 n m) aA)) aD)) (by kernel_rfl) (by kernel_rfl) (q := qt)
 rfl
 (by kernel_rfl)
theorem t47 (n m : Int) : aU prog 59 (e47 n m) := aP [] (tk (f := 30) (tc 19 (t34 n m) aA) (tk (f := 66) (tc 189 (t46 n m) aA) aD)) (by kernel_rfl) (by kernel_rfl) (q := rp (en (ah m)) 1 (rp (en (ah n)) 1 (rp (en (ah m)) 1 (rp (en (ah n)) 1 (rp (en (ah m)) 1 (rp (en (ah n)) 1 (rp (en (ah m)) 1 (rp (en (ah n)) 1 (qt)))))))))
 (av rfl _ (av rfl _ (av rfl _ (av rfl _ (av rfl _ (av rfl _ (av rfl _ (av rfl _ rfl))))))))
 (by kernel_rfl)
theorem t48 (n m : Int) : aU prog 63 (e48 n m) := aP [] aD (by kernel_rfl) (by kernel_rfl) (q := qt)
 rfl
 (by kernel_rfl)
theorem t49 (n m : Int) : aU prog 66 (e49 n m) := aP [] (tk (f := 60) (tc 26 (t8 n m) (tc 42 (t8 n m) (tc 73 (t8 n m) (tc 85 (t8 n m) aA)))) (tk (f := 127) (tc 26 (t0 n m) (tc 42 (t0 n m) (tc 73 (t0 n m) (tc 85 (t0 n m) aA)))) aD)) (by kernel_rfl) (by kernel_rfl) (q := qt)
 rfl
 (by kernel_rfl)
theorem t50 (n m : Int) : aU prog 66 (e50 n m) := aP [] aD (by kernel_rfl) (by kernel_rfl) (q := qt)
 rfl
 (by kernel_rfl)
theorem t51 (n m : Int) : aU prog 66 (e51 n m) := aP [] aD (by kernel_rfl) (by kernel_rfl) (q := qt)
 rfl
 (by kernel_rfl)
end Gv.LMoveTells
