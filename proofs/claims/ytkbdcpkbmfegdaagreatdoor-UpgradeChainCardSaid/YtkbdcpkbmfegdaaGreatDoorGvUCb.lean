/- UpgradeChain: its worlds, and what is told of them (b). Printed by genUC.py. -/
import Derived.Test.YtkbdcpkbmfegdaaGreatDoorGvUCa
set_option linter.unusedSimpArgs false
set_option linter.unusedVariables false
set_option maxRecDepth 100000
open Rx Go Gv Rd
namespace Gv.UC
variable (v x : Int) (k : Nat -> Int)
theorem Ay : aj prog 56 (vcP 0 v k) := tqt v k (m1 (dR v) (m1 bY (m1 (abl v k) (m0 (dD v))))) (tk (tc 22 (bW v) (tc 23 bX aK)) aA) cc0
theorem Nb : aj prog 38 (enE 0 v k) := tq v k (m0 (Ay v k)) [0, 0, 0]
theorem sZ : aj prog 56 (vcP 1 v k) := tqt v k (m1 (dR v) (m1 bY (m1 (Nl v k) (m0 (dD v))))) (tk (tc 25 (bW v) (tc 26 bX (tc 27 (ay (k 0)) aK))) aA) (Kv 0 1)
theorem YN : aj prog 56 (vcC 1 v k) := tqt v k (m1 (wX v) (m1 bY (m1 (Nl v k) (m0 (uy v))))) (tk (tc 25 (bW v) (tc 26 bX (tc 27 (ay (k 0)) aK))) aA) (Kv 0 1)
theorem Nc : aj prog 38 (enE 1 v k) := tq v k (m0 (sZ v k)) (Ke 0 1)
theorem tu : aj prog 56 (vcP 2 v k) := tqt v k (m1 (dR v) (m1 bY (m1 (Nn v k) (m0 (dD v))))) (tk (tc 28 (bW v) (tc 29 bX (tc 30 (ay (k 0)) (tc 31 (ay (k 1)) aK)))) aA) (Kv 0 2)
theorem YO : aj prog 56 (vcC 2 v k) := tqt v k (m1 (wX v) (m1 bY (m1 (Nn v k) (m0 (uy v))))) (tk (tc 28 (bW v) (tc 29 bX (tc 30 (ay (k 0)) (tc 31 (ay (k 1)) aK)))) aA) (Kv 0 2)
theorem Nf : aj prog 38 (enE 2 v k) := tq v k (m0 (tu v k)) (Ke 0 2)
theorem tC : aj prog 56 (vcP 3 v k) := tqt v k (m1 (dR v) (m1 bY (m1 (Np v k) (m0 (dD v))))) (tk (tc 31 (bW v) (tc 32 bX (tc 33 (ay (k 0)) (tc 34 (ay (k 1)) (tc 35 (ay (k 2)) aK))))) aA) (Kv 0 3)
theorem YP : aj prog 56 (vcC 3 v k) := tqt v k (m1 (wX v) (m1 bY (m1 (Np v k) (m0 (uy v))))) (tk (tc 31 (bW v) (tc 32 bX (tc 33 (ay (k 0)) (tc 34 (ay (k 1)) (tc 35 (ay (k 2)) aK))))) aA) (Kv 0 3)
theorem Ng : aj prog 38 (enE 3 v k) := tq v k (m0 (tC v k)) (Ke 0 3)
theorem tF : aj prog 56 (vcP 4 v k) := tqt v k (m1 (dR v) (m1 bY (m1 (Nq v k) (m0 (dD v))))) (tk (tc 34 (bW v) (tc 35 bX (tc 36 (ay (k 0)) (tc 37 (ay (k 1)) (tc 38 (ay (k 2)) (tc 39 (ay (k 3)) aK)))))) aA) (Kv 0 4)
theorem YQ : aj prog 56 (vcC 4 v k) := tqt v k (m1 (wX v) (m1 bY (m1 (Nq v k) (m0 (uy v))))) (tk (tc 34 (bW v) (tc 35 bX (tc 36 (ay (k 0)) (tc 37 (ay (k 1)) (tc 38 (ay (k 2)) (tc 39 (ay (k 3)) aK)))))) aA) (Kv 0 4)
theorem Nh : aj prog 38 (enE 4 v k) := tq v k (m0 (tF v k)) (Ke 0 4)
theorem tH : aj prog 56 (vcP 5 v k) := tqt v k (m1 (dR v) (m1 bY (m1 (Nr v k) (m0 (dD v))))) (tk (tc 37 (bW v) (tc 38 bX (tc 39 (ay (k 0)) (tc 40 (ay (k 1)) (tc 41 (ay (k 2)) (tc 42 (ay (k 3)) (tc 43 (ay (k 4)) aK))))))) aA) (Kv 0 5)
theorem YR : aj prog 56 (vcC 5 v k) := tqt v k (m1 (wX v) (m1 bY (m1 (Nr v k) (m0 (uy v))))) (tk (tc 37 (bW v) (tc 38 bX (tc 39 (ay (k 0)) (tc 40 (ay (k 1)) (tc 41 (ay (k 2)) (tc 42 (ay (k 3)) (tc 43 (ay (k 4)) aK))))))) aA) (Kv 0 5)
theorem Ni : aj prog 38 (enE 5 v k) := tq v k (m0 (tH v k)) (Ke 0 5)
theorem YV : aj prog 56 (vcK 0 v k) := tqt v k (m1 (dR v) (m1 bY (m1 (X5 v k) (m0 (dD v))))) (tk (tc 22 (bW v) (tc 23 bX aK)) aA) (Kv 0 0)
theorem Pt : aj prog 56 (vcQ 0 v k) := tqt v k (m1 (dR v) (m1 bY (m1 (Ye v k) (m0 (dD v))))) (tk (tc 21 (bW v) (tc 22 bX aK)) aA) (Kv 0 0)
theorem XA : aj prog 38 (en2 0 v k) := tq v k (m0 (Pt v k)) [0, 0]
theorem YW : aj prog 56 (vcK 1 v k) := tqt v k (m1 (sN v k) (m1 bY (m1 (X6 v k) (m0 (nJ v k))))) (tk (tc 26 (bW v) (tc 27 bX (tc 28 (ay (k 0)) aK))) aA) (Kv (zz 1) 1)
theorem Pv : aj prog 56 (vcQ 1 v k) := tqt v k (m1 (sN v k) (m1 bY (m1 (Nl v k) (m0 (nJ v k))))) (tk (tc 25 (bW v) (tc 26 bX (tc 27 (ay (k 0)) aK))) aA) (Kv (zz 1) 1)
theorem XB : aj prog 38 (en2 1 v k) := tq v k (m0 (Pv v k)) (Ke (zz 1) 1)
theorem YX : aj prog 56 (vcK 2 v k) := tqt v k (m1 (sO v k) (m1 bY (m1 (X7 v k) (m0 (nL v k))))) (tk (tc 29 (bW v) (tc 30 bX (tc 31 (ay (k 0)) (tc 32 (ay (k 1)) aK)))) aA) (Kv (zz 2) 2)
theorem Pw : aj prog 56 (vcQ 2 v k) := tqt v k (m1 (sO v k) (m1 bY (m1 (Nn v k) (m0 (nL v k))))) (tk (tc 28 (bW v) (tc 29 bX (tc 30 (ay (k 0)) (tc 31 (ay (k 1)) aK)))) aA) (Kv (zz 2) 2)
theorem XC : aj prog 38 (en2 2 v k) := tq v k (m0 (Pw v k)) (Ke (zz 2) 2)
theorem YZ : aj prog 56 (vcK 3 v k) := tqt v k (m1 (sP v k) (m1 bY (m1 (X8 v k) (m0 (nM v k))))) (tk (tc 32 (bW v) (tc 33 bX (tc 34 (ay (k 0)) (tc 35 (ay (k 1)) (tc 36 (ay (k 2)) aK))))) aA) (Kv (zz 3) 3)
theorem Px : aj prog 56 (vcQ 3 v k) := tqt v k (m1 (sP v k) (m1 bY (m1 (Np v k) (m0 (nM v k))))) (tk (tc 31 (bW v) (tc 32 bX (tc 33 (ay (k 0)) (tc 34 (ay (k 1)) (tc 35 (ay (k 2)) aK))))) aA) (Kv (zz 3) 3)
theorem XD : aj prog 38 (en2 3 v k) := tq v k (m0 (Px v k)) (Ke (zz 3) 3)
theorem Y0 : aj prog 56 (vcK 4 v k) := tqt v k (m1 (sQ v k) (m1 bY (m1 (X9 v k) (m0 (nO v k))))) (tk (tc 35 (bW v) (tc 36 bX (tc 37 (ay (k 0)) (tc 38 (ay (k 1)) (tc 39 (ay (k 2)) (tc 40 (ay (k 3)) aK)))))) aA) (Kv (zz 4) 4)
theorem Py : aj prog 56 (vcQ 4 v k) := tqt v k (m1 (sQ v k) (m1 bY (m1 (Nq v k) (m0 (nO v k))))) (tk (tc 34 (bW v) (tc 35 bX (tc 36 (ay (k 0)) (tc 37 (ay (k 1)) (tc 38 (ay (k 2)) (tc 39 (ay (k 3)) aK)))))) aA) (Kv (zz 4) 4)
theorem XE : aj prog 38 (en2 4 v k) := tq v k (m0 (Py v k)) (Ke (zz 4) 4)
theorem Y1 : aj prog 56 (vcK 5 v k) := tqt v k (m1 (sS v k) (m1 bY (m1 (Ya v k) (m0 (nP v k))))) (tk (tc 38 (bW v) (tc 39 bX (tc 40 (ay (k 0)) (tc 41 (ay (k 1)) (tc 42 (ay (k 2)) (tc 43 (ay (k 3)) (tc 44 (ay (k 4)) aK))))))) aA) (Kv (zz 5) 5)
theorem Pz : aj prog 56 (vcQ 5 v k) := tqt v k (m1 (sS v k) (m1 bY (m1 (Nr v k) (m0 (nP v k))))) (tk (tc 37 (bW v) (tc 38 bX (tc 39 (ay (k 0)) (tc 40 (ay (k 1)) (tc 41 (ay (k 2)) (tc 42 (ay (k 3)) (tc 43 (ay (k 4)) aK))))))) aA) (Kv (zz 5) 5)
theorem XF : aj prog 38 (en2 5 v k) := tq v k (m0 (Pz v k)) (Ke (zz 5) 5)
end Gv.UC
set_option linter.unusedSimpArgs false
set_option linter.unusedVariables false
set_option maxRecDepth 100000
open Rx Go Gv Rd
namespace Gv.UC
variable (v x : Int) (k : Nat -> Int)
theorem tJ : aj prog 56 (vcP 6 v k) := tqt v k (m1 (dR v) (m1 bY (m1 (Ns v k) (m0 (dD v))))) (tk (tc 40 (bW v) (tc 41 bX (tc 42 (ay (k 0)) (tc 43 (ay (k 1)) (tc 44 (ay (k 2)) (tc 45 (ay (k 3)) (tc 46 (ay (k 4)) (tc 47 (ay (k 5)) aK)))))))) aA) (Kv 0 6)
theorem YS : aj prog 56 (vcC 6 v k) := tqt v k (m1 (wX v) (m1 bY (m1 (Ns v k) (m0 (uy v))))) (tk (tc 40 (bW v) (tc 41 bX (tc 42 (ay (k 0)) (tc 43 (ay (k 1)) (tc 44 (ay (k 2)) (tc 45 (ay (k 3)) (tc 46 (ay (k 4)) (tc 47 (ay (k 5)) aK)))))))) aA) (Kv 0 6)
theorem Nj : aj prog 38 (enE 6 v k) := tq v k (m0 (tJ v k)) (Ke 0 6)
theorem tK : aj prog 56 (vcP 7 v k) := tqt v k (m1 (dR v) (m1 bY (m1 (Nt v k) (m0 (dD v))))) (tk (tc 43 (bW v) (tc 44 bX (tc 45 (ay (k 0)) (tc 46 (ay (k 1)) (tc 47 (ay (k 2)) (tc 48 (ay (k 3)) (tc 49 (ay (k 4)) (tc 50 (ay (k 5)) (tc 51 (ay (k 6)) aK))))))))) aA) (Kv 0 7)
theorem YT : aj prog 56 (vcC 7 v k) := tqt v k (m1 (wX v) (m1 bY (m1 (Nt v k) (m0 (uy v))))) (tk (tc 43 (bW v) (tc 44 bX (tc 45 (ay (k 0)) (tc 46 (ay (k 1)) (tc 47 (ay (k 2)) (tc 48 (ay (k 3)) (tc 49 (ay (k 4)) (tc 50 (ay (k 5)) (tc 51 (ay (k 6)) aK))))))))) aA) (Kv 0 7)
theorem Nk : aj prog 38 (enE 7 v k) := tq v k (m0 (tK v k)) (Ke 0 7)
theorem Az : aj prog 56 (vcP 8 v k) := tqt v k (m1 (dR v) (m1 bY (m1 (Nu v k) (m0 (dD v))))) (tk (tc 46 (bW v) (tc 47 bX (tc 48 (ay (k 0)) (tc 49 (ay (k 1)) (tc 50 (ay (k 2)) (tc 51 (ay (k 3)) (tc 52 (ay (k 4)) (tc 53 (ay (k 5)) (tc 54 (ay (k 6)) (tc 55 (ay (k 7)) aK)))))))))) aA) (Kv 0 8)
theorem YU : aj prog 56 (vcC 8 v k) := tqt v k (m1 (wX v) (m1 bY (m1 (Nu v k) (m0 (uy v))))) (tk (tc 46 (bW v) (tc 47 bX (tc 48 (ay (k 0)) (tc 49 (ay (k 1)) (tc 50 (ay (k 2)) (tc 51 (ay (k 3)) (tc 52 (ay (k 4)) (tc 53 (ay (k 5)) (tc 54 (ay (k 6)) (tc 55 (ay (k 7)) aK)))))))))) aA) (Kv 0 8)
theorem aa9 : aj prog 38 (enE 8 v k) := tq v k (m0 (Az v k)) (Ke 0 8)
theorem Y2 : aj prog 56 (vcK 6 v k) := tqt v k (m1 (sU v k) (m1 bY (m1 (Yb v k) (m0 (nQ v k))))) (tk (tc 41 (bW v) (tc 42 bX (tc 43 (ay (k 0)) (tc 44 (ay (k 1)) (tc 45 (ay (k 2)) (tc 46 (ay (k 3)) (tc 47 (ay (k 4)) (tc 48 (ay (k 5)) aK)))))))) aA) (Kv (zz 6) 6)
theorem PD : aj prog 56 (vcQ 6 v k) := tqt v k (m1 (sU v k) (m1 bY (m1 (Ns v k) (m0 (nQ v k))))) (tk (tc 40 (bW v) (tc 41 bX (tc 42 (ay (k 0)) (tc 43 (ay (k 1)) (tc 44 (ay (k 2)) (tc 45 (ay (k 3)) (tc 46 (ay (k 4)) (tc 47 (ay (k 5)) aK)))))))) aA) (Kv (zz 6) 6)
theorem XG : aj prog 38 (en2 6 v k) := tq v k (m0 (PD v k)) (Ke (zz 6) 6)
theorem Y3 : aj prog 56 (vcK 7 v k) := tqt v k (m1 (sV v k) (m1 bY (m1 (Yc v k) (m0 (nR v k))))) (tk (tc 44 (bW v) (tc 45 bX (tc 46 (ay (k 0)) (tc 47 (ay (k 1)) (tc 48 (ay (k 2)) (tc 49 (ay (k 3)) (tc 50 (ay (k 4)) (tc 51 (ay (k 5)) (tc 52 (ay (k 6)) aK))))))))) aA) (Kv (zz 7) 7)
theorem PE : aj prog 56 (vcQ 7 v k) := tqt v k (m1 (sV v k) (m1 bY (m1 (Nt v k) (m0 (nR v k))))) (tk (tc 43 (bW v) (tc 44 bX (tc 45 (ay (k 0)) (tc 46 (ay (k 1)) (tc 47 (ay (k 2)) (tc 48 (ay (k 3)) (tc 49 (ay (k 4)) (tc 50 (ay (k 5)) (tc 51 (ay (k 6)) aK))))))))) aA) (Kv (zz 7) 7)
theorem XH : aj prog 38 (en2 7 v k) := tq v k (m0 (PE v k)) (Ke (zz 7) 7)
theorem Y4 : aj prog 56 (vcK 8 v k) := tqt v k (m1 (sW v k) (m1 bY (m1 (Yd v k) (m0 (nS v k))))) (tk (tc 47 (bW v) (tc 48 bX (tc 49 (ay (k 0)) (tc 50 (ay (k 1)) (tc 51 (ay (k 2)) (tc 52 (ay (k 3)) (tc 53 (ay (k 4)) (tc 54 (ay (k 5)) (tc 55 (ay (k 6)) (tc 56 (ay (k 7)) aK)))))))))) aA) (Kv (zz 8) 8)
theorem PG : aj prog 56 (vcQ 8 v k) := tqt v k (m1 (sW v k) (m1 bY (m1 (Nu v k) (m0 (nS v k))))) (tk (tc 46 (bW v) (tc 47 bX (tc 48 (ay (k 0)) (tc 49 (ay (k 1)) (tc 50 (ay (k 2)) (tc 51 (ay (k 3)) (tc 52 (ay (k 4)) (tc 53 (ay (k 5)) (tc 54 (ay (k 6)) (tc 55 (ay (k 7)) aK)))))))))) aA) (Kv (zz 8) 8)
theorem XI : aj prog 38 (en2 8 v k) := tq v k (m0 (PG v k)) (Ke (zz 8) 8)
end Gv.UC
