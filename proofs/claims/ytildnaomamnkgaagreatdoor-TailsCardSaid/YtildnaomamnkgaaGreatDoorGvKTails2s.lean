import Derived.Test.YtildnaomamnkgaaGreatDoorGvKTails2s0
import Derived.Test.YtildnaomamnkgaaGreatDoorGvKTails2s2
set_option linter.unusedSimpArgs false
set_option linter.unusedVariables false
set_option maxRecDepth 100000
open Rx Go Gv Rd
namespace Gv.KTails2
theorem S1 : PS 1 := ZL (XD (X3 (Zg)))
theorem Vu (k : Int) (h0 : 0 <= k) (h1 : k < 100) : xU prog 67 (p k) := KF (tl := []) (es := [s 1 k k]) (l := (s 1 k k).al) [] aI (pR (S1 k k h0 (by omega) (by omega))) (kZ rfl) (by kernel_rfl) (by kernel_rfl) (by kernel_rfl) 6 (q := (k = k /\ 0 <= k /\ k <= 300) /\
 rp (en (k)) 1 (qt)) (by
 refine ⟨by omega, ?_⟩
 refine dV rfl _ ?_
 rfl
 ) (by kernel_rfl)
end Gv.KTails2
