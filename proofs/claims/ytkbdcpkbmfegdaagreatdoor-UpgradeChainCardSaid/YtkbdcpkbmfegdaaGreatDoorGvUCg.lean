/- UpgradeChain: its worlds, and what is told of them (g). Printed by genUC.py. -/
import Derived.Test.YtkbdcpkbmfegdaaGreatDoorGvUCd
import Derived.Test.YtkbdcpkbmfegdaaGreatDoorGvUCb
set_option linter.unusedSimpArgs false
set_option linter.unusedVariables false
set_option maxRecDepth 100000
open Rx Go Gv Rd
namespace Gv.UC
variable (v x : Int) (k : Nat -> Int)
theorem XJ (H : Hy v k) (h : opT (k 0) = plus) : aj prog 40 (grE 0 plus v k) := tqh h v k (nA (ta (Ay v k) (ta (sZ v k) eX)) (m1 (dR v) (m1 (dD v) (m0 (Ph v k H))))) cc1
theorem XU (H : Hy v k) (h : opT (k 0) = star) : aj prog 40 (grE 0 star v k) := tqh h v k (nA (ta (Ay v k) (ta (sZ v k) eX)) (m1 (dR v) (m1 (dD v) (m0 (Ph v k H))))) cc1
theorem XK (H : Hy v k) (h : opT (k 1) = plus) : aj prog 40 (grE 1 plus v k) := tqh h v k (nA (ta (sZ v k) (ta (tu v k) eX)) (m1 (dR v) (m1 (dD v) (m0 (Pj v k H))))) cc2
theorem XV (H : Hy v k) (h : opT (k 1) = star) : aj prog 40 (grE 1 star v k) := tqh h v k (nA (ta (sZ v k) (ta (tu v k) eX)) (m1 (dR v) (m1 (dD v) (m0 (Pj v k H))))) cc2
theorem XM (H : Hy v k) (h : opT (k 2) = plus) : aj prog 40 (grE 2 plus v k) := tqh h v k (nA (ta (tu v k) (ta (tC v k) eX)) (m1 (dR v) (m1 (dD v) (m0 (Pk v k H))))) cc3
theorem XW (H : Hy v k) (h : opT (k 2) = star) : aj prog 40 (grE 2 star v k) := tqh h v k (nA (ta (tu v k) (ta (tC v k) eX)) (m1 (dR v) (m1 (dD v) (m0 (Pk v k H))))) cc3
theorem XO (H : Hy v k) (h : opT (k 3) = plus) : aj prog 40 (grE 3 plus v k) := tqh h v k (nA (ta (tC v k) (ta (tF v k) eX)) (m1 (dR v) (m1 (dD v) (m0 (Pm v k H))))) cc4
theorem XY (H : Hy v k) (h : opT (k 3) = star) : aj prog 40 (grE 3 star v k) := tqh h v k (nA (ta (tC v k) (ta (tF v k) eX)) (m1 (dR v) (m1 (dD v) (m0 (Pm v k H))))) cc4
theorem XP (H : Hy v k) (h : opT (k 4) = plus) : aj prog 40 (grE 4 plus v k) := tqh h v k (nA (ta (tF v k) (ta (tH v k) eX)) (m1 (dR v) (m1 (dD v) (m0 (Pn v k H))))) cc5
theorem XZ (H : Hy v k) (h : opT (k 4) = star) : aj prog 40 (grE 4 star v k) := tqh h v k (nA (ta (tF v k) (ta (tH v k) eX)) (m1 (dR v) (m1 (dD v) (m0 (Pn v k H))))) cc5
end Gv.UC
set_option linter.unusedSimpArgs false
set_option linter.unusedVariables false
set_option maxRecDepth 100000
open Rx Go Gv Rd
namespace Gv.UC
variable (v x : Int) (k : Nat -> Int)
theorem XQ (H : Hy v k) (h : opT (k 5) = plus) : aj prog 40 (grE 5 plus v k) := tqh h v k (nA (ta (tH v k) (ta (tJ v k) eX)) (m1 (dR v) (m1 (dD v) (m0 (Po v k H))))) cc6
theorem X0 (H : Hy v k) (h : opT (k 5) = star) : aj prog 40 (grE 5 star v k) := tqh h v k (nA (ta (tH v k) (ta (tJ v k) eX)) (m1 (dR v) (m1 (dD v) (m0 (Po v k H))))) cc6
theorem XR (H : Hy v k) (h : opT (k 6) = plus) : aj prog 40 (grE 6 plus v k) := tqh h v k (nA (ta (tJ v k) (ta (tK v k) eX)) (m1 (dR v) (m1 (dD v) (m0 (Pp v k H))))) cc7
theorem X3 (H : Hy v k) (h : opT (k 6) = star) : aj prog 40 (grE 6 star v k) := tqh h v k (nA (ta (tJ v k) (ta (tK v k) eX)) (m1 (dR v) (m1 (dD v) (m0 (Pp v k H))))) cc7
theorem XT (H : Hy v k) (h : opT (k 7) = plus) : aj prog 40 (grE 7 plus v k) := tqh h v k (nA (ta (tK v k) (ta (Az v k) eX)) (m1 (dR v) (m1 (dD v) (m0 (Pq v k H))))) cc8
theorem X4 (H : Hy v k) (h : opT (k 7) = star) : aj prog 40 (grE 7 star v k) := tqh h v k (nA (ta (tK v k) (ta (Az v k) eX)) (m1 (dR v) (m1 (dD v) (m0 (Pq v k H))))) cc8
end Gv.UC
