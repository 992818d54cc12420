/- UpgradeChain: its worlds, and what is told of them (d). Printed by genUC.py. -/
import Derived.Test.YtkbdcpkbmfegdaaGreatDoorGvUCb
set_option linter.unusedSimpArgs false
set_option linter.unusedVariables false
set_option maxRecDepth 100000
open Rx Go Gv Rd
namespace Gv.UC
variable (v x : Int) (k : Nat -> Int)
theorem Ph (H : Hy v k) : aj prog 127 (Lc 1 v k) := tq v k (m1 (YN v k) (bZ (rJ v k) (bZ (rM v k) (jH (jJ v k H) aC)))) [0, 0, 10, 20, 0, 0, 10, 0, 20, 10, 31, 0, 31, 0, 31]
theorem Pj (H : Hy v k) : aj prog 127 (Lc 2 v k) := tq v k (m1 (YO v k) (bZ (rJ v k) (bZ (rM v k) (jH (jJ v k H) aC)))) [0, 11, 21, 0, 10, 20, 0, 0, 10, 0, 20, 10, 31, 0, 31, 0, 31, 11, 31, 21, 11, 32, 31, 32, 31, 32]
theorem Pk (H : Hy v k) : aj prog 127 (Lc 3 v k) := tq v k (m1 (YP v k) (bZ (rJ v k) (bZ (rM v k) (jH (jJ v k H) aC)))) [0, 11, 21, 0, 12, 22, 10, 20, 0, 0, 10, 0, 20, 10, 31, 0, 31, 0, 31, 11, 31, 21, 11, 32, 31, 32, 31, 32, 12, 32, 22, 12, 32, 33, 32, 33, 33]
theorem Pm (H : Hy v k) : aj prog 127 (Lc 4 v k) := tq v k (m1 (YQ v k) (bZ (rJ v k) (bZ (rM v k) (jH (jJ v k H) aC)))) [0, 11, 21, 13, 23, 0, 12, 22, 10, 20, 0, 0, 10, 0, 20, 10, 31, 0, 31, 0, 31, 11, 31, 21, 11, 32, 31, 32, 31, 32, 12, 32, 22, 12, 32, 33, 32, 33, 33, 13, 33, 23, 13, 34, 33, 34, 33, 34]
end Gv.UC
set_option linter.unusedSimpArgs false
set_option linter.unusedVariables false
set_option maxRecDepth 100000
open Rx Go Gv Rd
namespace Gv.UC
variable (v x : Int) (k : Nat -> Int)
theorem Pn (H : Hy v k) : aj prog 127 (Lc 5 v k) := tq v k (m1 (YR v k) (bZ (rJ v k) (bZ (rM v k) (jH (jJ v k H) aC)))) [0, 11, 21, 13, 23, 0, 12, 22, 10, 20, 14, 24, 0, 0, 10, 0, 20, 10, 31, 0, 31, 0, 31, 11, 31, 21, 11, 32, 31, 32, 31, 32, 12, 32, 22, 12, 32, 33, 32, 33, 33, 13, 33, 23, 13, 34, 33, 34, 33, 34, 14, 34, 24, 14, 34, 35, 34, 35, 35]
theorem Po (H : Hy v k) : aj prog 127 (Lc 6 v k) := tq v k (m1 (YS v k) (bZ (rJ v k) (bZ (rM v k) (jH (jJ v k H) aC)))) [0, 15, 25, 11, 21, 13, 23, 0, 12, 22, 10, 20, 14, 24, 0, 0, 10, 0, 20, 10, 31, 0, 31, 0, 31, 11, 31, 21, 11, 32, 31, 32, 31, 32, 12, 32, 22, 12, 32, 33, 32, 33, 33, 13, 33, 23, 13, 34, 33, 34, 33, 34, 14, 34, 24, 14, 34, 35, 34, 35, 35, 15, 35, 25, 15, 36, 35, 36, 35, 36]
end Gv.UC
set_option linter.unusedSimpArgs false
set_option linter.unusedVariables false
set_option maxRecDepth 100000
open Rx Go Gv Rd
namespace Gv.UC
variable (v x : Int) (k : Nat -> Int)
theorem Pp (H : Hy v k) : aj prog 127 (Lc 7 v k) := tq v k (m1 (YT v k) (bZ (rJ v k) (bZ (rM v k) (jH (jJ v k H) aC)))) [0, 15, 25, 11, 21, 13, 23, 0, 16, 26, 12, 22, 10, 20, 14, 24, 0, 0, 10, 0, 20, 10, 31, 0, 31, 0, 31, 11, 31, 21, 11, 32, 31, 32, 31, 32, 12, 32, 22, 12, 32, 33, 32, 33, 33, 13, 33, 23, 13, 34, 33, 34, 33, 34, 14, 34, 24, 14, 34, 35, 34, 35, 35, 15, 35, 25, 15, 36, 35, 36, 35, 36, 16, 36, 26, 16, 36, 37, 36, 37, 37]
theorem Pq (H : Hy v k) : aj prog 127 (Lc 8 v k) := tq v k (m1 (YU v k) (bZ (rJ v k) (bZ (rM v k) (jH (jJ v k H) aC)))) [0, 15, 25, 11, 21, 17, 27, 13, 23, 0, 16, 26, 12, 22, 10, 20, 14, 24, 0, 0, 10, 0, 20, 10, 31, 0, 31, 0, 31, 11, 31, 21, 11, 32, 31, 32, 31, 32, 12, 32, 22, 12, 32, 33, 32, 33, 33, 13, 33, 23, 13, 34, 33, 34, 33, 34, 14, 34, 24, 14, 34, 35, 34, 35, 35, 15, 35, 25, 15, 36, 35, 36, 35, 36, 16, 36, 26, 16, 36, 37, 36, 37, 37, 17, 37, 27, 17, 38, 37, 38, 37, 38]
end Gv.UC
