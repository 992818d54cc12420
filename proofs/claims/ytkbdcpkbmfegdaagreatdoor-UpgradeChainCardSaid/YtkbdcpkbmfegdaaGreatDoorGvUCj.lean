/- UpgradeChain: its worlds, and what is told of them (j). Printed by genUC.py. -/
import Derived.Test.YtkbdcpkbmfegdaaGreatDoorGvUCb
set_option linter.unusedSimpArgs false
set_option linter.unusedVariables false
set_option maxRecDepth 100000
open Rx Go Gv Rd
namespace Gv.UC
variable (v x : Int) (k : Nat -> Int)
theorem abv (H : Hy v k) : aj prog 44 (ruE 0 v k) := tq v k (m1 (Ay v k) (m1 iX (bZ (fH v k) (bZ (fJ v k) (jH (jJ v k H) aC))))) (Kv 0 0)
theorem Yn : aj prog 44 (ru2 0 v k) := tq v k (m1 (Pt v k) (m1 iX (bZ (fH v k) (bZ (fJ v k) aC)))) [0, 0, 0, 0, 0, 0]
theorem abw (H : Hy v k) : aj prog 44 (ruE 1 v k) := tq v k (m1 (sZ v k) (m1 iX (bZ (fH v k) (bZ (fJ v k) (jH (jJ v k H) aC))))) [0, 0, 10, 20, 10, 0, 20, 10, 0, 31, 0, 31, 31, 31, 31, 31, 0, 10, 20]
theorem Yo : aj prog 44 (ru2 1 v k) := tq v k (m1 (Pv v k) (m1 iX (bZ (fH v k) (bZ (fJ v k) aC)))) (K2 1)
theorem abx (H : Hy v k) : aj prog 44 (ruE 2 v k) := tq v k (m1 (tu v k) (m1 iX (bZ (fH v k) (bZ (fJ v k) (jH (jJ v k H) aC))))) [0, 11, 21, 0, 10, 20, 10, 0, 20, 10, 0, 31, 0, 31, 31, 11, 31, 21, 11, 32, 31, 32, 31, 32, 32, 32, 32, 11, 21, 0, 10, 20]
theorem Yp : aj prog 44 (ru2 2 v k) := tq v k (m1 (Pw v k) (m1 iX (bZ (fH v k) (bZ (fJ v k) aC)))) (K2 2)
theorem aby (H : Hy v k) : aj prog 44 (ruE 3 v k) := tq v k (m1 (tC v k) (m1 iX (bZ (fH v k) (bZ (fJ v k) (jH (jJ v k H) aC))))) [0, 11, 21, 0, 12, 22, 10, 20, 10, 0, 20, 10, 0, 31, 0, 31, 31, 11, 31, 21, 11, 32, 31, 32, 31, 32, 12, 32, 22, 12, 32, 33, 32, 33, 33, 33, 33, 33, 11, 21, 0, 12, 22, 10, 20]
theorem Yq : aj prog 44 (ru2 3 v k) := tq v k (m1 (Px v k) (m1 iX (bZ (fH v k) (bZ (fJ v k) aC)))) (K2 3)
end Gv.UC
set_option linter.unusedSimpArgs false
set_option linter.unusedVariables false
set_option maxRecDepth 100000
open Rx Go Gv Rd
namespace Gv.UC
variable (v x : Int) (k : Nat -> Int)
theorem abz (H : Hy v k) : aj prog 44 (ruE 4 v k) := tq v k (m1 (tF v k) (m1 iX (bZ (fH v k) (bZ (fJ v k) (jH (jJ v k H) aC))))) [0, 11, 21, 13, 23, 0, 12, 22, 10, 20, 10, 0, 20, 10, 0, 31, 0, 31, 31, 11, 31, 21, 11, 32, 31, 32, 31, 32, 12, 32, 22, 12, 32, 33, 32, 33, 33, 13, 33, 23, 13, 34, 33, 34, 33, 34, 34, 34, 34, 11, 21, 13, 23, 0, 12, 22, 10, 20]
theorem Yr : aj prog 44 (ru2 4 v k) := tq v k (m1 (Py v k) (m1 iX (bZ (fH v k) (bZ (fJ v k) aC)))) (K2 4)
theorem abA (H : Hy v k) : aj prog 44 (ruE 5 v k) := tq v k (m1 (tH v k) (m1 iX (bZ (fH v k) (bZ (fJ v k) (jH (jJ v k H) aC))))) [0, 11, 21, 13, 23, 0, 12, 22, 10, 20, 14, 24, 10, 0, 20, 10, 0, 31, 0, 31, 31, 11, 31, 21, 11, 32, 31, 32, 31, 32, 12, 32, 22, 12, 32, 33, 32, 33, 33, 13, 33, 23, 13, 34, 33, 34, 33, 34, 14, 34, 24, 14, 34, 35, 34, 35, 35, 35, 35, 35, 11, 21, 13, 23, 0, 12, 22, 10, 20, 14, 24]
theorem Yt : aj prog 44 (ru2 5 v k) := tq v k (m1 (Pz v k) (m1 iX (bZ (fH v k) (bZ (fJ v k) aC)))) (K2 5)
theorem abB (H : Hy v k) : aj prog 44 (ruE 6 v k) := tq v k (m1 (tJ v k) (m1 iX (bZ (fH v k) (bZ (fJ v k) (jH (jJ v k H) aC))))) [0, 15, 25, 11, 21, 13, 23, 0, 12, 22, 10, 20, 14, 24, 10, 0, 20, 10, 0, 31, 0, 31, 31, 11, 31, 21, 11, 32, 31, 32, 31, 32, 12, 32, 22, 12, 32, 33, 32, 33, 33, 13, 33, 23, 13, 34, 33, 34, 33, 34, 14, 34, 24, 14, 34, 35, 34, 35, 35, 15, 35, 25, 15, 36, 35, 36, 35, 36, 36, 36, 36, 15, 25, 11, 21, 13, 23, 0, 12, 22, 10, 20, 14, 24]
theorem Yu : aj prog 44 (ru2 6 v k) := tq v k (m1 (PD v k) (m1 iX (bZ (fH v k) (bZ (fJ v k) aC)))) (K2 6)
end Gv.UC
set_option linter.unusedSimpArgs false
set_option linter.unusedVariables false
set_option maxRecDepth 100000
open Rx Go Gv Rd
namespace Gv.UC
variable (v x : Int) (k : Nat -> Int)
theorem abC (H : Hy v k) : aj prog 44 (ruE 7 v k) := tq v k (m1 (tK v k) (m1 iX (bZ (fH v k) (bZ (fJ v k) (jH (jJ v k H) aC))))) [0, 15, 25, 11, 21, 13, 23, 0, 16, 26, 12, 22, 10, 20, 14, 24, 10, 0, 20, 10, 0, 31, 0, 31, 31, 11, 31, 21, 11, 32, 31, 32, 31, 32, 12, 32, 22, 12, 32, 33, 32, 33, 33, 13, 33, 23, 13, 34, 33, 34, 33, 34, 14, 34, 24, 14, 34, 35, 34, 35, 35, 15, 35, 25, 15, 36, 35, 36, 35, 36, 16, 36, 26, 16, 36, 37, 36, 37, 37, 37, 37, 37, 15, 25, 11, 21, 13, 23, 0, 16, 26, 12, 22, 10, 20, 14, 24]
theorem Yv : aj prog 44 (ru2 7 v k) := tq v k (m1 (PE v k) (m1 iX (bZ (fH v k) (bZ (fJ v k) aC)))) (K2 7)
theorem abD (H : Hy v k) : aj prog 44 (ruE 8 v k) := tq v k (m1 (Az v k) (m1 iX (bZ (fH v k) (bZ (fJ v k) (jH (jJ v k H) aC))))) [0, 15, 25, 11, 21, 17, 27, 13, 23, 0, 16, 26, 12, 22, 10, 20, 14, 24, 10, 0, 20, 10, 0, 31, 0, 31, 31, 11, 31, 21, 11, 32, 31, 32, 31, 32, 12, 32, 22, 12, 32, 33, 32, 33, 33, 13, 33, 23, 13, 34, 33, 34, 33, 34, 14, 34, 24, 14, 34, 35, 34, 35, 35, 15, 35, 25, 15, 36, 35, 36, 35, 36, 16, 36, 26, 16, 36, 37, 36, 37, 37, 17, 37, 27, 17, 38, 37, 38, 37, 38, 38, 38, 38, 15, 25, 11, 21, 17, 27, 13, 23, 0, 16, 26, 12, 22, 10, 20, 14, 24]
theorem Yw : aj prog 44 (ru2 8 v k) := tq v k (m1 (PG v k) (m1 iX (bZ (fH v k) (bZ (fJ v k) aC)))) (K2 8)
end Gv.UC
