/- Told parts of MoveTells. Printed by gvgen.py. -/
import Derived.Test.YtcmnmceodhambaaGreatDoorGvUMoveTells
import Derived.Test.YtcmnmceodhambaaGreatDoorGvPMoveTells0
import Derived.Test.YtcmnmceodhambaaGreatDoorGvPMoveTells3
set_option linter.unusedSimpArgs false
set_option linter.unusedVariables false
set_option maxRecDepth 100000
open Rx Go
namespace Gv.LMoveTells
open Gv Rd
theorem t52 (n m : Int) : aU prog 66 (e52 n m) := aP [] (tk (f := 60) (tc 110 (t8 n m) (tc 120 (t8 n m) (tc 176 (t8 n m) (tc 184 (t8 n m) aA)))) (tk (f := 127) (tc 110 (t0 n m) (tc 120 (t0 n m) (tc 176 (t0 n m) (tc 184 (t0 n m) aA)))) aD)) (by kernel_rfl) (by kernel_rfl) (q := qt)
 rfl
 (by kernel_rfl)
theorem t53 (n m : Int) : aU prog 30 (e53 n m) := aP [] (tk (f := 60) (tc 15 (t21 n m) (tc 33 (t21 n m) (tc 38 (t21 n m) aA))) (tk (f := 45) (tc 25 (t6 n m) aA) (tk (f := 63) (tc 26 (t48 n m) aA) (tk (f := 66) (tc 27 (t49 n m) (tc 28 (t50 n m) (tc 29 (t51 n m) (tc 30 (t52 n m) aA)))) (tk (f := 127) (tc 33 (t20 n m) (tc 38 (t20 n m) aA)) aD))))) (by kernel_rfl) (by kernel_rfl) (q := rp (en (ah m)) 1 (rp (en (ah n)) 1 (rp (en (ah m)) 1 (rp (en (ah n)) 1 (rp (en (ah m)) 1 (rp (en (ah n)) 1 (rp (en (ah m)) 1 (rp (en (ah n)) 1 (rp (en (ah m)) 1 (rp (en (ah n)) 1 (rp (en (ah m)) 1 (rp (en (ah n)) 1 (rp (en (ah m)) 1 (rp (en (ah n)) 1 (qt)))))))))))))))
 (av rfl _ (av rfl _ (av rfl _ (av rfl _ (av rfl _ (av rfl _ (av rfl _ (av rfl _ (av rfl _ (av rfl _ (av rfl _ (av rfl _ (av rfl _ (av rfl _ rfl))))))))))))))
 (by kernel_rfl)
end Gv.LMoveTells
