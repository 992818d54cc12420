/- UpgradeChain: its worlds, and what is told of them (i). Printed by genUC.py. -/
import Derived.Test.YtkbdcpkbmfegdaaGreatDoorGvUCg
set_option linter.unusedSimpArgs false
set_option linter.unusedVariables false
set_option maxRecDepth 100000
open Rx Go Gv Rd
namespace Gv.UC
variable (v x : Int) (k : Nat -> Int)
theorem Yx (H : Hy v k) (h : opT (k 0) = plus) : aj prog 28 (upE 0 plus v k) := tqr h 11 (KI (k 0) (H.2.2 0).1 (H.2.2 0).2) v k (m1 (Nb v k) (m1 (zw (k 0)) (m0 (XJ v k H h)))) cc9
theorem YF (H : Hy v k) (h : opT (k 0) = star) : aj prog 28 (upE 0 star v k) := tqr h 11 (KJ (k 0) (H.2.2 0).1 (H.2.2 0).2) v k (m1 (Nb v k) (m1 (zy (k 0)) (m0 (XU v k H h)))) cc9
theorem abE (H : Hy v k) : aj prog 28 (upE 0 (opT (k 0)) v k) := by
 rcases wI (k 0) with h | h
 · rw [h]; exact YF v k H h
 · rw [h]; exact Yx v k H h
theorem Yy (H : Hy v k) (h : opT (k 1) = plus) : aj prog 28 (upE 1 plus v k) := tqr h 14 (KI (k 1) (H.2.2 1).1 (H.2.2 1).2) v k (m1 (Nc v k) (m1 (zw (k 1)) (m0 (XK v k H h)))) ab3
theorem YG (H : Hy v k) (h : opT (k 1) = star) : aj prog 28 (upE 1 star v k) := tqr h 14 (KJ (k 1) (H.2.2 1).1 (H.2.2 1).2) v k (m1 (Nc v k) (m1 (zy (k 1)) (m0 (XV v k H h)))) ab3
theorem abF (H : Hy v k) : aj prog 28 (upE 1 (opT (k 1)) v k) := by
 rcases wI (k 1) with h | h
 · rw [h]; exact YG v k H h
 · rw [h]; exact Yy v k H h
theorem Yz (H : Hy v k) (h : opT (k 2) = plus) : aj prog 28 (upE 2 plus v k) := tqr h 17 (KI (k 2) (H.2.2 2).1 (H.2.2 2).2) v k (m1 (Nf v k) (m1 (zw (k 2)) (m0 (XM v k H h)))) ab4
theorem YH (H : Hy v k) (h : opT (k 2) = star) : aj prog 28 (upE 2 star v k) := tqr h 17 (KJ (k 2) (H.2.2 2).1 (H.2.2 2).2) v k (m1 (Nf v k) (m1 (zy (k 2)) (m0 (XW v k H h)))) ab4
theorem abG (H : Hy v k) : aj prog 28 (upE 2 (opT (k 2)) v k) := by
 rcases wI (k 2) with h | h
 · rw [h]; exact YH v k H h
 · rw [h]; exact Yz v k H h
theorem YA (H : Hy v k) (h : opT (k 3) = plus) : aj prog 28 (upE 3 plus v k) := tqr h 20 (KI (k 3) (H.2.2 3).1 (H.2.2 3).2) v k (m1 (Ng v k) (m1 (zw (k 3)) (m0 (XO v k H h)))) ab5
theorem YI (H : Hy v k) (h : opT (k 3) = star) : aj prog 28 (upE 3 star v k) := tqr h 20 (KJ (k 3) (H.2.2 3).1 (H.2.2 3).2) v k (m1 (Ng v k) (m1 (zy (k 3)) (m0 (XY v k H h)))) ab5
theorem abH (H : Hy v k) : aj prog 28 (upE 3 (opT (k 3)) v k) := by
 rcases wI (k 3) with h | h
 · rw [h]; exact YI v k H h
 · rw [h]; exact YA v k H h
theorem YB (H : Hy v k) (h : opT (k 4) = plus) : aj prog 28 (upE 4 plus v k) := tqr h 23 (KI (k 4) (H.2.2 4).1 (H.2.2 4).2) v k (m1 (Nh v k) (m1 (zw (k 4)) (m0 (XP v k H h)))) ab6
theorem YJ (H : Hy v k) (h : opT (k 4) = star) : aj prog 28 (upE 4 star v k) := tqr h 23 (KJ (k 4) (H.2.2 4).1 (H.2.2 4).2) v k (m1 (Nh v k) (m1 (zy (k 4)) (m0 (XZ v k H h)))) ab6
theorem abI (H : Hy v k) : aj prog 28 (upE 4 (opT (k 4)) v k) := by
 rcases wI (k 4) with h | h
 · rw [h]; exact YJ v k H h
 · rw [h]; exact YB v k H h
theorem YC (H : Hy v k) (h : opT (k 5) = plus) : aj prog 28 (upE 5 plus v k) := tqr h 26 (KI (k 5) (H.2.2 5).1 (H.2.2 5).2) v k (m1 (Ni v k) (m1 (zw (k 5)) (m0 (XQ v k H h)))) ab7
theorem YK (H : Hy v k) (h : opT (k 5) = star) : aj prog 28 (upE 5 star v k) := tqr h 26 (KJ (k 5) (H.2.2 5).1 (H.2.2 5).2) v k (m1 (Ni v k) (m1 (zy (k 5)) (m0 (X0 v k H h)))) ab7
theorem abJ (H : Hy v k) : aj prog 28 (upE 5 (opT (k 5)) v k) := by
 rcases wI (k 5) with h | h
 · rw [h]; exact YK v k H h
 · rw [h]; exact YC v k H h
theorem YD (H : Hy v k) (h : opT (k 6) = plus) : aj prog 28 (upE 6 plus v k) := tqr h 29 (KI (k 6) (H.2.2 6).1 (H.2.2 6).2) v k (m1 (Nj v k) (m1 (zw (k 6)) (m0 (XR v k H h)))) ab8
theorem YL (H : Hy v k) (h : opT (k 6) = star) : aj prog 28 (upE 6 star v k) := tqr h 29 (KJ (k 6) (H.2.2 6).1 (H.2.2 6).2) v k (m1 (Nj v k) (m1 (zy (k 6)) (m0 (X3 v k H h)))) ab8
theorem abK (H : Hy v k) : aj prog 28 (upE 6 (opT (k 6)) v k) := by
 rcases wI (k 6) with h | h
 · rw [h]; exact YL v k H h
 · rw [h]; exact YD v k H h
theorem YE (H : Hy v k) (h : opT (k 7) = plus) : aj prog 28 (upE 7 plus v k) := tqr h 32 (KI (k 7) (H.2.2 7).1 (H.2.2 7).2) v k (m1 (Nk v k) (m1 (zw (k 7)) (m0 (XT v k H h)))) ab9
theorem YM (H : Hy v k) (h : opT (k 7) = star) : aj prog 28 (upE 7 star v k) := tqr h 32 (KJ (k 7) (H.2.2 7).1 (H.2.2 7).2) v k (m1 (Nk v k) (m1 (zy (k 7)) (m0 (X4 v k H h)))) ab9
theorem abL (H : Hy v k) : aj prog 28 (upE 7 (opT (k 7)) v k) := by
 rcases wI (k 7) with h | h
 · rw [h]; exact YM v k H h
 · rw [h]; exact YE v k H h
end Gv.UC
