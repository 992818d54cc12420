/- Told parts of MoveTells. Printed by gvgen.py. -/
import Derived.Test.YtcmnmceodhambaaGreatDoorGvUMoveTells
import Derived.Test.YtcmnmceodhambaaGreatDoorGvPMoveTells0
import Derived.Test.YtcmnmceodhambaaGreatDoorGvPMoveTells1
set_option linter.unusedSimpArgs false
set_option linter.unusedVariables false
set_option maxRecDepth 100000
open Rx Go
namespace Gv.LMoveTells
open Gv Rd
theorem t34 (n m : Int) : aU prog 30 (e34 n m) := aP [] (tk (f := 60) (tc 14 (t21 n m) (tc 32 (t21 n m) (tc 37 (t21 n m) aA))) (tk (f := 45) (tc 24 (t6 n m) aA) (tk (f := 63) (tc 25 (t29 n m) aA) (tk (f := 66) (tc 26 (t30 n m) (tc 27 (t31 n m) (tc 28 (t32 n m) (tc 29 (t33 n m) aA)))) (tk (f := 127) (tc 32 (t20 n m) (tc 37 (t20 n m) aA)) aD))))) (by kernel_rfl) (by kernel_rfl) (q := rp (en (ah m)) 1 (rp (en (ah n)) 1 (rp (en (ah m)) 1 (rp (en (ah n)) 1 (rp (en (ah m)) 1 (rp (en (ah n)) 1 (rp (en (ah m)) 1 (rp (en (ah n)) 1 (rp (en (ah m)) 1 (rp (en (ah n)) 1 (rp (en (ah m)) 1 (rp (en (ah n)) 1 (rp (en (ah m)) 1 (rp (en (ah n)) 1 (qt)))))))))))))))
 (av rfl _ (av rfl _ (av rfl _ (av rfl _ (av rfl _ (av rfl _ (av rfl _ (av rfl _ (av rfl _ (av rfl _ (av rfl _ (av rfl _ (av rfl _ (av rfl _ rfl))))))))))))))
 (by kernel_rfl)
theorem t35 (n m : Int) : aU prog 127 (e35 n m) := aP [] aD (by kernel_rfl) (by kernel_rfl) (q := rp ((.mp (.int .i64) .bool [((0 : Int), true), ((5 : Int), true)] : Ob) = .mp (.int .i64) .bool [((0 : Int), true), ((5 : Int), true)]) 1 (qt))
 (av rfl _ rfl)
 (by kernel_rfl)
theorem t36 (n m : Int) : aU prog 60 (e36 n m) := aP [] (tk (f := 127) (tc 2 (t35 n m) aA) aD) (by kernel_rfl) (by kernel_rfl) (q := rp (en (ah m)) 1 (rp (en (ah n)) 1 (qt)))
 (av rfl _ (av rfl _ rfl))
 (by kernel_rfl)
theorem t37 (n m : Int) : aU prog 30 (e37 n m) := aP [] (tk (f := 60) (tc 14 (t36 n m) (tc 32 (t36 n m) (tc 37 (t36 n m) aA))) (tk (f := 45) (tc 24 (t6 n m) aA) (tk (f := 63) (tc 25 (t29 n m) aA) (tk (f := 66) (tc 26 (t30 n m) (tc 27 (t31 n m) (tc 28 (t32 n m) (tc 29 (t33 n m) aA)))) (tk (f := 127) (tc 32 (t35 n m) (tc 37 (t35 n m) aA)) aD))))) (by kernel_rfl) (by kernel_rfl) (q := rp (en (ah m)) 1 (rp (en (ah n)) 1 (rp (en (ah m)) 1 (rp (en (ah n)) 1 (rp (en (ah m)) 1 (rp (en (ah n)) 1 (rp (en (ah m)) 1 (rp (en (ah n)) 1 (rp (en (ah m)) 1 (rp (en (ah n)) 1 (rp (en (ah m)) 1 (rp (en (ah n)) 1 (rp (en (ah m)) 1 (rp (en (ah n)) 1 (qt)))))))))))))))
 (av rfl _ (av rfl _ (av rfl _ (av rfl _ (av rfl _ (av rfl _ (av rfl _ (av rfl _ (av rfl _ (av rfl _ (av rfl _ (av rfl _ (av rfl _ (av rfl _ rfl))))))))))))))
 (by kernel_rfl)
theorem t38 (n m : Int) : aU prog 127 (e38 n m) := aP [] aD (by kernel_rfl) (by kernel_rfl) (q := rp ((.mp (.int .i64) .bool [((0 : Int), true), ((5 : Int), true), ((7 : Int), true), ((10 : Int), true)] : Ob) = .mp (.int .i64) .bool [((0 : Int), true), ((5 : Int), true), ((7 : Int), true), ((10 : Int), true)]) 1 (qt))
 (av rfl _ rfl)
 (by kernel_rfl)
theorem t39 (n m : Int) : aU prog 60 (e39 n m) := aP [] (tk (f := 127) (tc 2 (t38 n m) aA) aD) (by kernel_rfl) (by kernel_rfl) (q := rp (en (ah m)) 1 (rp (en (ah n + ah m)) 1 (rp (en (ah n)) 1 (qt))))
 (av rfl _ (av rfl _ (av rfl _ rfl)))
 (by kernel_rfl)
theorem t40 (n m : Int) : aU prog 127 (e40 n m) := aP [] aD (by kernel_rfl) (by kernel_rfl) (q := rp ((.mp (.int .i64) .bool [((0 : Int), true), ((5 : Int), true), ((7 : Int), true), ((10 : Int), true)] : Ob) = .mp (.int .i64) .bool [((0 : Int), true), ((5 : Int), true), ((7 : Int), true), ((10 : Int), true)]) 1 (qt))
 (av rfl _ rfl)
 (by kernel_rfl)
theorem t41 (n m : Int) : aU prog 60 (e41 n m) := aP [] (tk (f := 127) (tc 2 (t40 n m) aA) aD) (by kernel_rfl) (by kernel_rfl) (q := rp (en (ah n + ah m)) 1 (qt))
 (av rfl _ rfl)
 (by kernel_rfl)
theorem t42 (n m : Int) (hm : ah n < ah m) : aU prog 116 (e42 n m) := aP [] (tk (f := 30) (tc 18 (t37 n m) aA) (tk (f := 60) (tc 190 (t36 n m) (tc 363 (t39 n m) (tc 429 (t41 n m) aA))) (tk (f := 127) (tc 190 (t35 n m) (tc 363 (t38 n m) aA)) aD))) (by kernel_rfl) (by kernel_rfl) (q := rp (en (ah m)) 1 (rp (en (ah n)) 1 (rp (en (ah m)) 1 (rp (en (ah n)) 1 (rp (en (ah m)) 1 (rp (en (ah n)) 1 (rp (en (ah m)) 1 (rp (en (ah n)) 1 ((((decide (ah n < ah m)) = true -> rp (en (ah m)) 1 (rp (en (ah n + ah m)) 1 (rp (en (ah n)) 1 (rp (en (ah m)) 1 (rp (en (ah n + ah m)) 1 (rp (en (ah n)) 1 (rp (en (ah n + ah m)) 2 (rp (en (ah m)) 1 (rp (en (ah n)) 1 (qt)))))))))) /\ ((decide (ah n < ah m)) = false -> False)))))))))))
 (by
 obtain ⟨h0, h1, h2, h3, h4, h5, h6, h7, h8, h9⟩ := fx n m
 iterate 8 refine av rfl _ ?_
 refine ⟨fun hc => ?_, fun hc => ?_⟩
 · iterate 9 refine av rfl _ ?_
   rfl
 · exfalso
   simp only [decide_eq_true_eq, decide_eq_false_iff_not] at hc
   omega
 )
  (by kernel_rfl)
end Gv.LMoveTells
