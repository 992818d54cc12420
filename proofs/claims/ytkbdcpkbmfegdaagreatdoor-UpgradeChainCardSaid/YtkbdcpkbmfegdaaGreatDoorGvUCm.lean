/- UpgradeChain: its worlds, and what is told of them (m). Printed by genUC.py. -/
import Derived.Test.YtkbdcpkbmfegdaaGreatDoorGvUCj
import Derived.Test.YtkbdcpkbmfegdaaGreatDoorGvUCb
set_option linter.unusedSimpArgs false
set_option linter.unusedVariables false
set_option maxRecDepth 100000
open Rx Go Gv Rd
namespace Gv.UC
variable (v x : Int) (k : Nat -> Int)
theorem U8 (H : Hy v k) : aj prog 45 (shE 0 v k) := tqs (x := vvS v k 0) (IX (VD v k H).1 (by have := (VD v k H).2; omega)) v k (m1 (YV v k) (m1 (dR v) (m0 (dD v)))) [0, 0, 0, 0, 0, 0, 1, 2, 3, 0, 0]
theorem abm (H : Hy v k) : aj prog 29 (rq1 0 v k) := tqh (A := aL (vvS v k 0) = aL (vvS v k 0)) rfl v k (m1 (Nb v k) (m1 (abv v k H) (m0 (U8 v k H)))) [0, 0, 0, 0, 0, 0, 0, 0, 0, 1, 0, 0]
theorem Yf (H : Hy v k) : aj prog 29 (rq2 0 v k) := tqh (A := aL (vvS v k 0) = aL (vvS v k 0)) rfl v k (m1 (XA v k) (m1 (Yn v k) (m0 (U8 v k H)))) [0, 0, 0, 0, 0, 0, 0, 1, 0, 0]
theorem U9 (H : Hy v k) : aj prog 45 (shE 1 v k) := tqs (x := vvS v k 1) (IX (R5 v k H).1 (by have := (R5 v k H).2; omega)) v k (m1 (YW v k) (m1 (sN v k) (m0 (nJ v k)))) (Ks 1)
theorem abn (H : Hy v k) : aj prog 29 (rq1 1 v k) := tqh (A := aL (vvS v k 1) = aL (vvS v k 1)) rfl v k (m1 (Nc v k) (m1 (abw v k H) (m0 (U9 v k H)))) (Kq 0 1)
theorem Yg (H : Hy v k) : aj prog 29 (rq2 1 v k) := tqh (A := aL (vvS v k 1) = aL (vvS v k 1)) rfl v k (m1 (XB v k) (m1 (Yo v k) (m0 (U9 v k H)))) (Kq (zz 1) 1)
theorem Va (H : Hy v k) : aj prog 45 (shE 2 v k) := tqs (x := vvS v k 2) (IX (R6 v k H).1 (by have := (R6 v k H).2; omega)) v k (m1 (YX v k) (m1 (sO v k) (m0 (nL v k)))) (Ks 2)
theorem abo (H : Hy v k) : aj prog 29 (rq1 2 v k) := tqh (A := aL (vvS v k 2) = aL (vvS v k 2)) rfl v k (m1 (Nf v k) (m1 (abx v k H) (m0 (Va v k H)))) (Kq 0 2)
theorem Yh (H : Hy v k) : aj prog 29 (rq2 2 v k) := tqh (A := aL (vvS v k 2) = aL (vvS v k 2)) rfl v k (m1 (XC v k) (m1 (Yp v k) (m0 (Va v k H)))) (Kq (zz 2) 2)
theorem Vb (H : Hy v k) : aj prog 45 (shE 3 v k) := tqs (x := vvS v k 3) (IX (R7 v k H).1 (by have := (R7 v k H).2; omega)) v k (m1 (YZ v k) (m1 (sP v k) (m0 (nM v k)))) (Ks 3)
theorem abp (H : Hy v k) : aj prog 29 (rq1 3 v k) := tqh (A := aL (vvS v k 3) = aL (vvS v k 3)) rfl v k (m1 (Ng v k) (m1 (aby v k H) (m0 (Vb v k H)))) (Kq 0 3)
theorem Yi (H : Hy v k) : aj prog 29 (rq2 3 v k) := tqh (A := aL (vvS v k 3) = aL (vvS v k 3)) rfl v k (m1 (XD v k) (m1 (Yq v k) (m0 (Vb v k H)))) (Kq (zz 3) 3)
theorem Vd (H : Hy v k) : aj prog 45 (shE 4 v k) := tqs (x := vvS v k 4) (IX (R8 v k H).1 (by have := (R8 v k H).2; omega)) v k (m1 (Y0 v k) (m1 (sQ v k) (m0 (nO v k)))) (Ks 4)
theorem abq (H : Hy v k) : aj prog 29 (rq1 4 v k) := tqh (A := aL (vvS v k 4) = aL (vvS v k 4)) rfl v k (m1 (Nh v k) (m1 (abz v k H) (m0 (Vd v k H)))) (Kq 0 4)
theorem Yj (H : Hy v k) : aj prog 29 (rq2 4 v k) := tqh (A := aL (vvS v k 4) = aL (vvS v k 4)) rfl v k (m1 (XE v k) (m1 (Yr v k) (m0 (Vd v k H)))) (Kq (zz 4) 4)
theorem Ve (H : Hy v k) : aj prog 45 (shE 5 v k) := tqs (x := vvS v k 5) (IX (R9 v k H).1 (by have := (R9 v k H).2; omega)) v k (m1 (Y1 v k) (m1 (sS v k) (m0 (nP v k)))) (Ks 5)
theorem abr (H : Hy v k) : aj prog 29 (rq1 5 v k) := tqh (A := aL (vvS v k 5) = aL (vvS v k 5)) rfl v k (m1 (Ni v k) (m1 (abA v k H) (m0 (Ve v k H)))) (Kq 0 5)
theorem Yk (H : Hy v k) : aj prog 29 (rq2 5 v k) := tqh (A := aL (vvS v k 5) = aL (vvS v k 5)) rfl v k (m1 (XF v k) (m1 (Yt v k) (m0 (Ve v k H)))) (Kq (zz 5) 5)
theorem Vf (H : Hy v k) : aj prog 45 (shE 6 v k) := tqs (x := vvS v k 6) (IX (Sb v k H).1 (by have := (Sb v k H).2; omega)) v k (m1 (Y2 v k) (m1 (sU v k) (m0 (nQ v k)))) (Ks 6)
theorem abt (H : Hy v k) : aj prog 29 (rq1 6 v k) := tqh (A := aL (vvS v k 6) = aL (vvS v k 6)) rfl v k (m1 (Nj v k) (m1 (abB v k H) (m0 (Vf v k H)))) (Kq 0 6)
theorem Yl (H : Hy v k) : aj prog 29 (rq2 6 v k) := tqh (A := aL (vvS v k 6) = aL (vvS v k 6)) rfl v k (m1 (XG v k) (m1 (Yu v k) (m0 (Vf v k H)))) (Kq (zz 6) 6)
theorem Vg (H : Hy v k) : aj prog 45 (shE 7 v k) := tqs (x := vvS v k 7) (IX (Sc v k H).1 (by have := (Sc v k H).2; omega)) v k (m1 (Y3 v k) (m1 (sV v k) (m0 (nR v k)))) (Ks 7)
theorem abu (H : Hy v k) : aj prog 29 (rq1 7 v k) := tqh (A := aL (vvS v k 7) = aL (vvS v k 7)) rfl v k (m1 (Nk v k) (m1 (abC v k H) (m0 (Vg v k H)))) (Kq 0 7)
theorem Ym (H : Hy v k) : aj prog 29 (rq2 7 v k) := tqh (A := aL (vvS v k 7) = aL (vvS v k 7)) rfl v k (m1 (XH v k) (m1 (Yv v k) (m0 (Vg v k H)))) (Kq (zz 7) 7)
theorem Vh (H : Hy v k) : aj prog 45 (shE 8 v k) := tqs (x := vvS v k 8) (IX (ZX v k H).1 (by have := (ZX v k H).2; omega)) v k (m1 (Y4 v k) (m1 (sW v k) (m0 (nS v k)))) (Ks 8)
theorem U7 (H : Hy v k) : aj prog 29 (rq1 8 v k) := tqh (A := aL (vvS v k 8) = aL (vvS v k 8)) rfl v k (m1 (aa9 v k) (m1 (abD v k H) (m0 (Vh v k H)))) (Kq 0 8)
theorem Pg (H : Hy v k) : aj prog 29 (rq2 8 v k) := tqh (A := aL (vvS v k 8) = aL (vvS v k 8)) rfl v k (m1 (XI v k) (m1 (Yw v k) (m0 (Vh v k H)))) (Kq (zz 8) 8)
end Gv.UC
