/- UpgradeChain: its worlds, and what is told of them (a). Printed by genUC.py. -/
import Derived.Test.YtkbdcpkbmfegdaaGreatDoorGvUCp
set_option linter.unusedSimpArgs false
set_option linter.unusedVariables false
set_option maxRecDepth 100000
open Rx Go Gv Rd
namespace Gv.UC
variable (v x : Int) (k : Nat -> Int)
theorem FZ : aj prog 84 (stN) := jQ [] aC aA (by kernel_rfl) (by kernel_rfl) (q := rp ((.mp (.int .i64) .bool [] : Ob) = .mp (.int .i64) .bool []) 1 (qt)) (by
 refine bC rfl _ ?_
 rfl
 ) (by kernel_rfl)
theorem Lb : aj prog 83 (hcN) := tq0 (m0 FZ)
theorem bY : aj prog 58 (ucE) := tq0 aC
theorem dD : aj prog 84 (stP v) := jQ [] aC aA (by kernel_rfl) (by kernel_rfl) (q := rp ((.mp (.int .i64) .bool [((0 : Int), true), ((2 : Int), true)] : Ob) = .mp (.int .i64) .bool [((0 : Int), true), ((2 : Int), true)]) 1 (qt)) (by
 refine bC rfl _ ?_
 rfl
 ) (by kernel_rfl)
theorem dR : aj prog 83 (hcP v) := tq v (fun _ => 0) (m0 (dD v)) [0]
theorem uy : aj prog 84 (stC v) := jQ [] aC aA (by kernel_rfl) (by kernel_rfl) (q := rp ((.mp (.int .i64) .bool [((0 : Int), true), ((4 : Int), true)] : Ob) = .mp (.int .i64) .bool [((0 : Int), true), ((4 : Int), true)]) 1 (qt)) (by
 refine bC rfl _ ?_
 rfl
 ) (by kernel_rfl)
theorem wX : aj prog 83 (hcC v) := tq v (fun _ => 0) (m0 (uy v)) [0]
theorem ZH : aj prog 58 (ucF) := tq0 aC
theorem zw : aj prog 39 (foE plus x) := jQ [] (m0 ZH) aA (by kernel_rfl) (by kernel_rfl) (q := rp ((D (.arr 4 3 (dxL [(sy (ByteArray.mk #[43])), (ls [(sy (ByteArray.mk #[119, 97, 115])), (sy (ByteArray.mk #[97]))]), (nu 1 9 (x))])) : SV) = D (.arr 4 3 (dxL [(sy (ByteArray.mk #[43])), (ls [(sy (ByteArray.mk #[119, 97, 115])), (sy (ByteArray.mk #[97]))]), (nu 1 9 (x))]))) 1 (rp ((D (.arr 4 2 (dxL [(sy (ByteArray.mk #[119, 97, 115])), (sy (ByteArray.mk #[97]))])) : SV) = D (.arr 4 2 (dxL [(sy (ByteArray.mk #[119, 97, 115])), (sy (ByteArray.mk #[97]))]))) 1 (rp ((D (.arr 4 2 (fun i j => (dxL [(sy (ByteArray.mk #[117, 112, 103, 114, 97, 100, 101])), (sy (ByteArray.mk #[112])), (ls [(sy (ByteArray.mk #[43])), (ls [(sy (ByteArray.mk #[119, 97, 115])), (sy (ByteArray.mk #[97]))]), (nu 1 9 (x))])]) (i + (Rx.z0 (Option.some (1 : Int))).toNat) (j))) : SV) = D (.arr 4 2 (fun i j => (dxL [(sy (ByteArray.mk #[117, 112, 103, 114, 97, 100, 101])), (sy (ByteArray.mk #[112])), (ls [(sy (ByteArray.mk #[43])), (ls [(sy (ByteArray.mk #[119, 97, 115])), (sy (ByteArray.mk #[97]))]), (nu 1 9 (x))])]) (i + (Rx.z0 (Option.some (1 : Int))).toNat) (j)))) 1 (rp (en (x)) 1 (rp (((dxL []) : Nat -> Nat -> Dt) = (dxL [])) 1 (qt)))))) (by
 iterate 5 refine bC rfl _ ?_
 rfl
 ) (by kernel_rfl)
theorem zy : aj prog 39 (foE star x) := jQ [] (m0 ZH) aA (by kernel_rfl) (by kernel_rfl) (q := rp ((D (.arr 4 3 (dxL [(sy (ByteArray.mk #[42])), (ls [(sy (ByteArray.mk #[119, 97, 115])), (sy (ByteArray.mk #[97]))]), (nu 1 9 (x))])) : SV) = D (.arr 4 3 (dxL [(sy (ByteArray.mk #[42])), (ls [(sy (ByteArray.mk #[119, 97, 115])), (sy (ByteArray.mk #[97]))]), (nu 1 9 (x))]))) 1 (rp ((D (.arr 4 2 (dxL [(sy (ByteArray.mk #[119, 97, 115])), (sy (ByteArray.mk #[97]))])) : SV) = D (.arr 4 2 (dxL [(sy (ByteArray.mk #[119, 97, 115])), (sy (ByteArray.mk #[97]))]))) 1 (rp ((D (.arr 4 2 (fun i j => (dxL [(sy (ByteArray.mk #[117, 112, 103, 114, 97, 100, 101])), (sy (ByteArray.mk #[112])), (ls [(sy (ByteArray.mk #[42])), (ls [(sy (ByteArray.mk #[119, 97, 115])), (sy (ByteArray.mk #[97]))]), (nu 1 9 (x))])]) (i + (Rx.z0 (Option.some (1 : Int))).toNat) (j))) : SV) = D (.arr 4 2 (fun i j => (dxL [(sy (ByteArray.mk #[117, 112, 103, 114, 97, 100, 101])), (sy (ByteArray.mk #[112])), (ls [(sy (ByteArray.mk #[42])), (ls [(sy (ByteArray.mk #[119, 97, 115])), (sy (ByteArray.mk #[97]))]), (nu 1 9 (x))])]) (i + (Rx.z0 (Option.some (1 : Int))).toNat) (j)))) 1 (rp (en (x)) 1 (rp (((dxL []) : Nat -> Nat -> Dt) = (dxL [])) 1 (qt)))))) (by
 iterate 5 refine bC rfl _ ?_
 rfl
 ) (by kernel_rfl)
theorem FD : aj prog 84 (stM false 1 0 v k) := tqm false 1
theorem QX : aj prog 83 (hcM false 1 0 v k) := tq v k (m0 (FD v k)) [31, 0]
theorem FE : aj prog 84 (stM false 1 1 v k) := tqm false 1
theorem QY : aj prog 83 (hcM false 1 1 v k) := tq v k (m0 (FE v k)) [31]
theorem FH : aj prog 84 (stM false 2 1 v k) := tqm false 2
theorem QZ : aj prog 83 (hcM false 2 1 v k) := tq v k (m0 (FH v k)) [32, 31]
theorem FI : aj prog 84 (stM false 2 2 v k) := tqm false 2
theorem Q0 : aj prog 83 (hcM false 2 2 v k) := tq v k (m0 (FI v k)) [32]
theorem FJ : aj prog 84 (stM false 3 2 v k) := tqm false 3
theorem Q5 : aj prog 83 (hcM false 3 2 v k) := tq v k (m0 (FJ v k)) [32, 33]
theorem FK : aj prog 84 (stM false 3 3 v k) := tqm false 3
theorem Q6 : aj prog 83 (hcM false 3 3 v k) := tq v k (m0 (FK v k)) [33]
theorem FL : aj prog 84 (stM false 4 3 v k) := tqm false 4
theorem Q7 : aj prog 83 (hcM false 4 3 v k) := tq v k (m0 (FL v k)) [34, 33]
theorem FN : aj prog 84 (stM false 4 4 v k) := tqm false 4
theorem Q8 : aj prog 83 (hcM false 4 4 v k) := tq v k (m0 (FN v k)) [34]
theorem FP : aj prog 84 (stM false 5 4 v k) := tqm false 5
theorem Q9 : aj prog 83 (hcM false 5 4 v k) := tq v k (m0 (FP v k)) [34, 35]
theorem FQ : aj prog 84 (stM false 5 5 v k) := tqm false 5
theorem Ra : aj prog 83 (hcM false 5 5 v k) := tq v k (m0 (FQ v k)) [35]
theorem FR : aj prog 84 (stM false 6 5 v k) := tqm false 6
theorem Rb : aj prog 83 (hcM false 6 5 v k) := tq v k (m0 (FR v k)) [36, 35]
theorem FU : aj prog 84 (stM false 6 6 v k) := tqm false 6
theorem Rc : aj prog 83 (hcM false 6 6 v k) := tq v k (m0 (FU v k)) [36]
theorem FV : aj prog 84 (stM false 7 6 v k) := tqm false 7
theorem Rf : aj prog 83 (hcM false 7 6 v k) := tq v k (m0 (FV v k)) [36, 37]
theorem FW : aj prog 84 (stM false 7 7 v k) := tqm false 7
theorem Rh : aj prog 83 (hcM false 7 7 v k) := tq v k (m0 (FW v k)) [37]
theorem FX : aj prog 84 (stM false 8 7 v k) := tqm false 8
theorem Ri : aj prog 83 (hcM false 8 7 v k) := tq v k (m0 (FX v k)) [38, 37]
theorem FY : aj prog 84 (stM false 8 8 v k) := tqm false 8
theorem Rj : aj prog 83 (hcM false 8 8 v k) := tq v k (m0 (FY v k)) [38]
theorem F3 : aj prog 84 (stM true 1 0 v k) := tqm true 1
theorem Rk : aj prog 83 (hcM true 1 0 v k) := tq v k (m0 (F3 v k)) [0, 31]
theorem nJ : aj prog 84 (stM true 1 1 v k) := tqm true 1
theorem sN : aj prog 83 (hcM true 1 1 v k) := tq v k (m0 (nJ v k)) [31]
theorem F4 : aj prog 84 (stM true 2 1 v k) := tqm true 2
theorem Rl : aj prog 83 (hcM true 2 1 v k) := tq v k (m0 (F4 v k)) [32, 31]
theorem nL : aj prog 84 (stM true 2 2 v k) := tqm true 2
theorem sO : aj prog 83 (hcM true 2 2 v k) := tq v k (m0 (nL v k)) [32]
theorem F5 : aj prog 84 (stM true 3 2 v k) := tqm true 3
theorem Rm : aj prog 83 (hcM true 3 2 v k) := tq v k (m0 (F5 v k)) [32, 33]
theorem nM : aj prog 84 (stM true 3 3 v k) := tqm true 3
theorem sP : aj prog 83 (hcM true 3 3 v k) := tq v k (m0 (nM v k)) [33]
theorem F6 : aj prog 84 (stM true 4 3 v k) := tqm true 4
theorem Ro : aj prog 83 (hcM true 4 3 v k) := tq v k (m0 (F6 v k)) [34, 33]
theorem nO : aj prog 84 (stM true 4 4 v k) := tqm true 4
theorem sQ : aj prog 83 (hcM true 4 4 v k) := tq v k (m0 (nO v k)) [34]
theorem F7 : aj prog 84 (stM true 5 4 v k) := tqm true 5
theorem Rp : aj prog 83 (hcM true 5 4 v k) := tq v k (m0 (F7 v k)) [34, 35]
theorem nP : aj prog 84 (stM true 5 5 v k) := tqm true 5
theorem sS : aj prog 83 (hcM true 5 5 v k) := tq v k (m0 (nP v k)) [35]
theorem F8 : aj prog 84 (stM true 6 5 v k) := tqm true 6
theorem Rq : aj prog 83 (hcM true 6 5 v k) := tq v k (m0 (F8 v k)) [36, 35]
theorem nQ : aj prog 84 (stM true 6 6 v k) := tqm true 6
theorem sU : aj prog 83 (hcM true 6 6 v k) := tq v k (m0 (nQ v k)) [36]
theorem F9 : aj prog 84 (stM true 7 6 v k) := tqm true 7
theorem Rs : aj prog 83 (hcM true 7 6 v k) := tq v k (m0 (F9 v k)) [36, 37]
theorem nR : aj prog 84 (stM true 7 7 v k) := tqm true 7
theorem sV : aj prog 83 (hcM true 7 7 v k) := tq v k (m0 (nR v k)) [37]
theorem Ga : aj prog 84 (stM true 8 7 v k) := tqm true 8
theorem Rt : aj prog 83 (hcM true 8 7 v k) := tq v k (m0 (Ga v k)) [38, 37]
theorem nS : aj prog 84 (stM true 8 8 v k) := tqm true 8
theorem sW : aj prog 83 (hcM true 8 8 v k) := tq v k (m0 (nS v k)) [38]
theorem bW : aj prog 77 (cf0 v) := tq0 (m1 Lb (m0 FZ))
theorem bX : aj prog 77 (cf1) := tq0 (m1 Lb (m0 FZ))
theorem iX : aj prog 77 (cfR) := tq0 (m1 Lb (m0 FZ))
theorem adk : aj prog 77 (cfU (S plus) x) := tq0 (m1 Lb (m0 FZ))
theorem adl : aj prog 77 (cfU (S star) x) := tq0 (m1 Lb (m0 FZ))
theorem ay : aj prog 77 (cfU (.sy (opT x)) x) := by
 rcases wI x with h | h
 · rw [h]; exact SB (by kernel_rfl) (by kernel_rfl) (adl x)
 · rw [h]; exact SB (by kernel_rfl) (by kernel_rfl) (adk x)
theorem abl : aj prog 98 (rcE 0 v k) := tq0 aC
theorem Nl : aj prog 98 (rcE 1 v k) := tq0 aC
theorem Nn : aj prog 98 (rcE 2 v k) := tq0 aC
theorem Np : aj prog 98 (rcE 3 v k) := tq0 aC
theorem Nq : aj prog 98 (rcE 4 v k) := tq0 aC
theorem Nr : aj prog 98 (rcE 5 v k) := tq0 aC
theorem Ns : aj prog 98 (rcE 6 v k) := tq0 aC
theorem Nt : aj prog 98 (rcE 7 v k) := tq0 aC
theorem Nu : aj prog 98 (rcE 8 v k) := tq0 aC
theorem X5 : aj prog 98 (rcK 0 v k) := tq0 aC
theorem Ye : aj prog 98 (rcQ 0 v k) := tq0 aC
theorem X6 : aj prog 98 (rcK 1 v k) := tq0 aC
theorem X7 : aj prog 98 (rcK 2 v k) := tq0 aC
theorem X8 : aj prog 98 (rcK 3 v k) := tq0 aC
theorem X9 : aj prog 98 (rcK 4 v k) := tq0 aC
theorem Ya : aj prog 98 (rcK 5 v k) := tq0 aC
theorem Yb : aj prog 98 (rcK 6 v k) := tq0 aC
theorem Yc : aj prog 98 (rcK 7 v k) := tq0 aC
theorem Yd : aj prog 98 (rcK 8 v k) := tq0 aC
theorem rM (v : Int) (k : Nat -> Int) : ∀ y ∈ adQ v k, aj prog 84 y.2 := tg (uy v) (tg (FD v k) (tg (FE v k) (tg (FH v k) (tg (FI v k) (tg (FJ v k) (tg (FK v k) (tg (FL v k) (tg (FN v k) (tg (FP v k) (tg (FQ v k) (tg (FR v k) (tg (FU v k) (tg (FV v k) (tg (FW v k) (tg (FX v k) (tg (FY v k) Jk))))))))))))))))
theorem fJ (v : Int) (k : Nat -> Int) : ∀ y ∈ adR v k, aj prog 84 y.2 := tg (dD v) (tg (F3 v k) (tg (nJ v k) (tg (F4 v k) (tg (nL v k) (tg (F5 v k) (tg (nM v k) (tg (F6 v k) (tg (nO v k) (tg (F7 v k) (tg (nP v k) (tg (F8 v k) (tg (nQ v k) (tg (F9 v k) (tg (nR v k) (tg (Ga v k) (tg (nS v k) Jk))))))))))))))))
theorem rJ (v : Int) (k : Nat -> Int) : ∀ y ∈ adB v k, aj prog 83 y.2 := tg (wX v) (tg (QX v k) (tg (QY v k) (tg (QZ v k) (tg (Q0 v k) (tg (Q5 v k) (tg (Q6 v k) (tg (Q7 v k) (tg (Q8 v k) (tg (Q9 v k) (tg (Ra v k) (tg (Rb v k) (tg (Rc v k) (tg (Rf v k) (tg (Rh v k) (tg (Ri v k) (tg (Rj v k) Jk))))))))))))))))
theorem fH (v : Int) (k : Nat -> Int) : ∀ y ∈ adC v k, aj prog 83 y.2 := tg (dR v) (tg (Rk v k) (tg (sN v k) (tg (Rl v k) (tg (sO v k) (tg (Rm v k) (tg (sP v k) (tg (Ro v k) (tg (sQ v k) (tg (Rp v k) (tg (sS v k) (tg (Rq v k) (tg (sU v k) (tg (Rs v k) (tg (sV v k) (tg (Rt v k) (tg (sW v k) Jk))))))))))))))))
theorem jJ (v : Int) (k : Nat -> Int) (H : Hy v k) : ∀ y ∈ prL v k, eB prog 203 y.2 := mg (abb v k H) (mg (abd v k H) (mg (abe v k H) (mg (abf v k H) (mg (abg v k H) (mg (abh v k H) (mg (abj v k H) (mg (abk v k H) aaH)))))))
end Gv.UC
