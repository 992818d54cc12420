/- UpgradeChain: the ends of its loop. Printed by genUCl.py. -/
import Derived.Test.YtkbdcpkbmfegdaaGreatDoorGvUCn0
import Derived.Test.YtkbdcpkbmfegdaaGreatDoorGvUUpgradeChain
import Derived.Test.YtkbdcpkbmfegdaaGreatDoorGvUCi
import Derived.Test.YtkbdcpkbmfegdaaGreatDoorGvUCm
set_option linter.unusedSimpArgs false
set_option linter.unusedVariables false
set_option maxRecDepth 100000
open Rx Go Gv Rd
namespace Gv.UC
theorem ZI {f : Nat} {g : Nat -> TE} : ∀ (m : Nat), (∀ t, t < m -> aj prog f (g t)) -> ∀ y ∈ upL (fun t => [g t]) m, aj prog f y
 | 0, _ => fun y hy => by cases hy
 | m + 1, h => fun y hy => by
   rcases List.mem_append.1 (show y ∈ upL (fun t => [g t]) m ++ [g m] from hy) with hy | hy
   · exact ZI m (fun t ht => h t (by omega)) y hy
   · simp only [List.mem_cons, List.not_mem_nil, or_false] at hy
     subst hy
     exact h m (by omega)
theorem abQ (n : Int) (lf : Nat -> Int) : ∀ t, t < 8 -> aj prog 28 (upE t (opT (kk lf t)) (aR n 100) (kk lf)) := fun t ht => by
 have H := hyk n lf
 rcases (by omega : t = 0 ∨ t = 1 ∨ t = 2 ∨ t = 3 ∨ t = 4 ∨ t = 5 ∨ t = 6 ∨ t = 7) with rfl | rfl | rfl | rfl | rfl | rfl | rfl | rfl
 · exact abE _ _ H
 · exact abF _ _ H
 · exact abG _ _ H
 · exact abH _ _ H
 · exact abI _ _ H
 · exact abJ _ _ H
 · exact abK _ _ H
 · exact abL _ _ H
theorem uF (j : Nat) (hj : j <= 8) (n : Int) (lf : Nat -> Int) (h1 : aj prog 29 (rq1 j (aR n 100) (kk lf))) (h2 : aj prog 29 (rq2 j (aR n 100) (kk lf))) : MOk (xlE j n lf) := nA (ta (LUpgradeChain.t19 n) (ZI j fun t ht => abQ n lf t (by omega))) (nA (ta h1 (ta h2 eX)) aC)
theorem ex0 (n : Int) (lf : Nat -> Int) : LW (hd 0 0 n lf) := exL [50, 0, 0, 0, 0, 0] (uF 0 (by decide) n lf (abm _ _ (hyk n lf)) (Yf _ _ (hyk n lf)))
theorem ex1 (n : Int) (lf : Nat -> Int) : LW (hd 1 1 n lf) := exL (exl 1) (uF 1 (by decide) n lf (abn _ _ (hyk n lf)) (Yg _ _ (hyk n lf)))
theorem ex2 (n : Int) (lf : Nat -> Int) : LW (hd 2 2 n lf) := exL (exl 2) (uF 2 (by decide) n lf (abo _ _ (hyk n lf)) (Yh _ _ (hyk n lf)))
theorem ex3 (n : Int) (lf : Nat -> Int) : LW (hd 3 3 n lf) := exL (exl 3) (uF 3 (by decide) n lf (abp _ _ (hyk n lf)) (Yi _ _ (hyk n lf)))
theorem ex4 (n : Int) (lf : Nat -> Int) : LW (hd 4 4 n lf) := exL (exl 4) (uF 4 (by decide) n lf (abq _ _ (hyk n lf)) (Yj _ _ (hyk n lf)))
theorem ex5 (n : Int) (lf : Nat -> Int) : LW (hd 5 5 n lf) := exL (exl 5) (uF 5 (by decide) n lf (abr _ _ (hyk n lf)) (Yk _ _ (hyk n lf)))
theorem ex6 (n : Int) (lf : Nat -> Int) : LW (hd 6 6 n lf) := exL (exl 6) (uF 6 (by decide) n lf (abt _ _ (hyk n lf)) (Yl _ _ (hyk n lf)))
theorem ex7 (n : Int) (lf : Nat -> Int) : LW (hd 7 7 n lf) := exL (exl 7) (uF 7 (by decide) n lf (abu _ _ (hyk n lf)) (Ym _ _ (hyk n lf)))
theorem ex8 (n : Int) (lf : Nat -> Int) : LW (hd 8 8 n lf) := exL (exl 8) (uF 8 (by decide) n lf (U7 _ _ (hyk n lf)) (Pg _ _ (hyk n lf)))
theorem adA (n : Int) (lf : Nat -> Int) (r : Nat) : LW (hd 8 (Nat.succ (Nat.succ (Nat.succ (Nat.succ (Nat.succ (Nat.succ (Nat.succ (Nat.succ (Nat.succ r))))))))) n lf) := exL (exl 8) (uF 8 (by decide) n lf (U7 _ _ (hyk n lf)) (Pg _ _ (hyk n lf)))
end Gv.UC
set_option linter.unusedSimpArgs false
set_option linter.unusedVariables false
set_option maxRecDepth 100000
open Rx Go Gv Rd
namespace Gv.UC
theorem adD (N : Nat) (n : Int) (lf : Nat -> Int) : LW (hd 0 N n lf) := by
 rcases (by omega : N = 0 ∨ N = 1 ∨ N = 2 ∨ N = 3 ∨ N = 4 ∨ N = 5 ∨ N = 6 ∨ N = 7 ∨ N = 8 ∨ 9 <= N) with rfl | rfl | rfl | rfl | rfl | rfl | rfl | rfl | rfl | h9
 · exact (ex0 n lf)
 · exact (rd0 n lf 0 (ex1 n lf))
 · exact (rd0 n lf 1 (rd1 n lf 0 (ex2 n lf)))
 · exact (rd0 n lf 2 (rd1 n lf 1 (rd2 n lf 0 (ex3 n lf))))
 · exact (rd0 n lf 3 (rd1 n lf 2 (rd2 n lf 1 (rd3 n lf 0 (ex4 n lf)))))
 · exact (rd0 n lf 4 (rd1 n lf 3 (rd2 n lf 2 (rd3 n lf 1 (rd4 n lf 0 (ex5 n lf))))))
 · exact (rd0 n lf 5 (rd1 n lf 4 (rd2 n lf 3 (rd3 n lf 2 (rd4 n lf 1 (rd5 n lf 0 (ex6 n lf)))))))
 · exact (rd0 n lf 6 (rd1 n lf 5 (rd2 n lf 4 (rd3 n lf 3 (rd4 n lf 2 (rd5 n lf 1 (rd6 n lf 0 (ex7 n lf))))))))
 · exact (rd0 n lf 7 (rd1 n lf 6 (rd2 n lf 5 (rd3 n lf 4 (rd4 n lf 3 (rd5 n lf 2 (rd6 n lf 1 (rd7 n lf 0 (ex8 n lf)))))))))
 · obtain ⟨r, rfl⟩ : ∃ r, N = r + 9 := ⟨N - 9, by omega⟩
   exact (rd0 n lf (Nat.succ (Nat.succ (Nat.succ (Nat.succ (Nat.succ (Nat.succ (Nat.succ (Nat.succ r)))))))) (rd1 n lf (Nat.succ (Nat.succ (Nat.succ (Nat.succ (Nat.succ (Nat.succ (Nat.succ r))))))) (rd2 n lf (Nat.succ (Nat.succ (Nat.succ (Nat.succ (Nat.succ (Nat.succ r)))))) (rd3 n lf (Nat.succ (Nat.succ (Nat.succ (Nat.succ (Nat.succ r))))) (rd4 n lf (Nat.succ (Nat.succ (Nat.succ (Nat.succ r)))) (rd5 n lf (Nat.succ (Nat.succ (Nat.succ r))) (rd6 n lf (Nat.succ (Nat.succ r)) (rd7 n lf (Nat.succ r) (adA n lf r)))))))))
def ac3 (N : Nat) (n : Int) (lf : Nat -> Int) : Prop := fit LUpgradeChain.s9 (aL (aR n 100)) /\ fit (LUpgradeChain.s9 ++ aL (aR n 100)) LUpgradeChain.s10 /\
 (N = N /\ (fun (i x : Nat) => Dt.ri IntKind.i64 (-9223372036854775808) 9223372036854775807 (lf i)) = fun (i x : Nat) => Dt.ri IntKind.i64 (-9223372036854775808) 9223372036854775807 (lf i)) /\ aR n 100 = aR n 100 /\
 LUpgradeChain.s9 ++ aL (aR n 100) ++ LUpgradeChain.s10 = LUpgradeChain.s9 ++ aL (aR n 100) ++ LUpgradeChain.s10 /\ qt
theorem aaU (N : Nat) (n : Int) (lf : Nat -> Int) : ac3 N n lf := by
 have h := (Mh (hyk n lf).1 (by have := (hyk n lf).2.1; omega)).2
 have e1 : LUpgradeChain.s9.size = 26 := rfl
 have e2 : LUpgradeChain.s10.size = 28 := rfl
 exact ⟨by unfold fit; simp only [e1]; omega, by unfold fit; simp only [ByteArray.size_append, e1, e2]; omega, ⟨rfl, rfl⟩, rfl, rfl, rfl⟩
theorem acC (N : Nat) (n : Int) (lf : Nat -> Int) : eB prog 5 (lwI N n lf) :=
 Rv (D := Ew [] [] []) (n := 100) (top := 16000000) (e := lwI N n lf) (qd [] aC aA) Go.Proofs.Tryz.func5 aaE Ua aaF (Uy (adD N n lf)) (OM rfl) (by kernel_rfl) Ub (by kernel_rfl) rfl (by decide) 0
  ((show ac3 N n lf = ((lwE N n lf).holds fun y => y.1 = .kb true) from by kernel_rfl) ▸ aaU N n lf)
theorem aaA {f : FuncId} {al : List SV} {w : World} {vs : List Value} (h : eB prog f ⟨0, al, [], .kb true, []⟩) (hgl : Pers C0.W w Glob.ok) (hr : relL C0 w al vs) :
  Calls prog f vs.toArray w fun e w' => e = .returned (.bool true) /\ Same w w' := by
 obtain ⟨_, h3⟩ := h.2 C0 w vs ⟨abX w hgl, fun i ob hi => by simp at hi, fun _ _ => rfl⟩ hr
 refine h3.mono ?_
 rintro e w' ⟨v, rfl, C', τ, hst, _, _, _, _, _, hv, _⟩
 have hv : v = .bool true := hv
 subst hv
 refine ⟨rfl, ?_⟩
 have hst0 : Step (fun _ => False) C0 w C' w' :=
  ⟨hst.ext, hst.w0, hst.own, fun i b _ h => (by cases h), hst.ag.mono fun k _ ⟨i, _, hi⟩ => (by cases hi)⟩
 exact IW hst0
theorem acB (N : Nat) (n : Int) (lf : Nat -> Int) {w : World} {vs : List Value} (hgl : Pers C0.W w Glob.ok) (hr : relL C0 w [any n, LL N lf] vs) : Calls prog 5 vs.toArray w fun e w' => e = .returned (.bool true) /\ Same w w' :=
 aaA (acC N n lf) hgl hr
end Gv.UC
