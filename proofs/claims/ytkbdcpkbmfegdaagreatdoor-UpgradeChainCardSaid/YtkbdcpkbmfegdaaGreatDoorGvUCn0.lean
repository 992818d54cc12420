/- UpgradeChain: its loop, from head to head. Printed by genUCl.py. -/
import Derived.Test.YtkbdcpkbmfegdaaGreatDoorRxD1
import Derived.Test.YtkbdcpkbmfegdaaGreatDoorGvUCp
import Derived.Test.YtkbdcpkbmfegdaaGreatDoorGvUUpgradeChain
set_option linter.unusedSimpArgs false
set_option linter.unusedVariables false
set_option maxRecDepth 100000
open Rx Go Gv Rd
namespace Gv.UC
noncomputable section
def lwB : Code := (Go.Proofs.Tryz.f5.body).getD .skip
def lwP : List Code × Nat × Code × Code := (unP lwB).getD ([], 0, .skip, .skip)
abbrev kk (lf : Nat -> Int) (i : Nat) : Int := aR (lf i) 9 + 1
def LL (N : Nat) (lf : Nat -> Int) : SV := .dt (.arr 1 N (fun i _ => Dt.ri .i64 (-9223372036854775808) 9223372036854775807 (lf i)))
def acO (j : Nat) (v : Int) (k : Nat -> Int) : Ob := vc 30 5 (Nat.succ j) ([C 1, .sy (LUpgradeChain.s9 ++ aL v ++ LUpgradeChain.s10), S s0, aY, I 0] ++ upL (fun t => [C 1, .sy (C8 (opT (k t)) (k t)), S s0, aY, I 0]) j) (@Nat.rec (fun _ => Bool) true (fun _ _ => false) j)
def hd (j N : Nat) (n : Int) (lf : Nat -> Int) : ME := ⟨1, [J, LL N lf, J, J, .kb false, nv (aR n 100) (kk lf) j, V 0 5 0 (Nat.succ j), I (Int.ofNat j)], [some (acO j (aR n 100) (kk lf))], .kb true, [none]⟩
def lwS (xl : XL) (es : List ME) (e : ME) : R := ZE prog (FM [] xl []) fl win 4000 100 16000000 5 Go.Proofs.Tryz.f5 lwP.2.2.1 lwP.2.1 lwP.2.2.2 es e 1
def lwI (N : Nat) (n : Int) (lf : Nat -> Int) : ME := ⟨0, [any n, LL N lf], [], .kb true, []⟩
def lwE (N : Nat) (n : Int) (lf : Nat -> Int) : R := Zx prog (FM [] [] []) fl win 4000 100 16000000 5 Go.Proofs.Tryz.f5 lwP.1 lwP.2.2.1 lwP.2.1 lwP.2.2.2 [hd 0 N n lf] (hd 0 N n lf).al (lwI N n lf) 0
def xlE (j : Nat) (n : Int) (lf : Nat -> Int) : XL := [(28, Gf (LUpgradeChain.e19 n :: upL (fun t => [upE t (opT (kk lf t)) (aR n 100) (kk lf)]) j)), (29, Gf [rq1 j (aR n 100) (kk lf), rq2 j (aR n 100) (kk lf)])]
end
theorem aaE : Go.Proofs.Tryz.f5.body = some lwB := by kernel_rfl
theorem aaF : unP lwB = some (lwP.1, lwP.2.1, lwP.2.2.1, lwP.2.2.2) := by kernel_rfl
theorem Ua : callable prog 5 = true := by kernel_rfl
theorem Ub : Nat.ble Go.Proofs.Tryz.f5.ntmps 16777215 = true := by kernel_rfl
abbrev LW (e : ME) : Prop := AB prog Go.Proofs.Tryz.f5 lwP.2.2.1 lwP.2.1 lwP.2.2.2 e
theorem hyk (n : Int) (lf : Nat -> Int) : Hy (aR n 100) (kk lf) := by
 have h := sF (n := n) (m := 100) (by decide)
 refine ⟨h.1, by omega, fun i => ?_⟩
 have h := sF (n := lf i) (m := 9) (by decide)
 show 1 <= aR (lf i) 9 + 1 /\ aR (lf i) 9 + 1 <= 9
 omega
def B1 : ByteArray := ByteArray.mk (#[40, 114, 101, 99, 111, 114, 100, 32, 112, 32, 97, 41, 32, 40, 117, 112, 103, 114, 97, 100, 101, 32, 112, 32, 40])
def B2 : ByteArray := ByteArray.mk (#[32, 40, 119, 97, 115, 32, 97, 41, 32])
def B3 : ByteArray := ByteArray.mk (#[41, 41])
def fit (a b : ByteArray) : Prop := ((a.size : Nat) : Int) + ((b.size : Nat) : Int) <= 9223372036854775807
noncomputable def acv (S : Prop) (n : Int) (lf : Nat -> Int) (j : Nat) (c : Nat) : Prop := @Nat.rec (fun _ => Prop) (LUpgradeChain.s9 ++ aL (aR n 100) ++ LUpgradeChain.s10 = LUpgradeChain.s9 ++ aL (aR n 100) ++ LUpgradeChain.s10) (fun t _ => @Bool.rec (fun _ => Prop) (C8 (opT (kk lf t)) (kk lf t) = C8 (opT (kk lf t)) (kk lf t)) S (Nat.beq t j)) c
theorem Ze {S : Prop} (hS : S) (n : Int) (lf : Nat -> Int) (j : Nat) : ∀ c, acv S n lf j c
 | 0 => rfl
 | t + 1 => by
   show (@Bool.rec (fun _ => Prop) (C8 (opT (kk lf t)) (kk lf t) = C8 (opT (kk lf t)) (kk lf t)) S (Nat.beq t j))
   cases Nat.beq t j with
   | true => exact hS
   | false => exact rfl
noncomputable def acs (S : Prop) (n : Int) (lf : Nat -> Int) (j : Nat) (l : List Nat) (P : Prop) : Prop := @List.rec Nat (fun _ => Prop) P (fun c _ ih => acv S n lf j c /\ ih) l
theorem RJ {S P : Prop} (hS : S) (hP : P) (n : Int) (lf : Nat -> Int) (j : Nat) : ∀ l, acs S n lf j l P
 | [] => hP
 | c :: l => ⟨Ze hS n lf j c, RJ hS hP n lf j l⟩
noncomputable def way (o : ByteArray) (E : Prop) (j N : Nat) (n : Int) (lf : Nat -> Int) (l : List Nat) : Prop :=
 fit B1 o /\ fit (B1 ++ o) B2 /\ fit (B1 ++ o ++ B2) (aL (kk lf j)) /\ fit (B1 ++ o ++ B2 ++ aL (kk lf j)) B3 /\
 (N = N /\ (fun (i x : Nat) => Dt.ri IntKind.i64 (-9223372036854775808) 9223372036854775807 (lf i)) = fun (i x : Nat) => Dt.ri IntKind.i64 (-9223372036854775808) 9223372036854775807 (lf i)) /\ E /\
 acs (C8 (opT (kk lf j)) (kk lf j) = B1 ++ o ++ B2 ++ aL (kk lf j) ++ B3) n lf j l qt
abbrev vj (j : Nat) (n : Int) (lf : Nat -> Int) : Int := vvS (aR n 100) (kk lf) j
noncomputable def ek (j : Nat) (y : Int) (n : Int) (lf : Nat -> Int) : Prop := vj (Nat.succ j) n lf = y /\ 0 <= vj (Nat.succ j) n lf /\ vj (Nat.succ j) n lf <= Int.ofNat (Nat.mul 108 (Nat.pow 9 (Nat.succ j)))
noncomputable def es (j : Nat) (y : Int) (n : Int) (lf : Nat -> Int) : Prop := @Nat.rec (fun _ => Prop) (ek j y n lf) (fun _ _ => vj (Nat.succ j) n lf = y) j
noncomputable def rdQ (j N : Nat) (n : Int) (lf : Nat -> Int) (l : List Nat) : Prop :=
 (((kk lf j).tmod 2 == 0) = true -> way star (es j (vj j n lf * kk lf j) n lf) j N n lf l) /\ (((kk lf j).tmod 2 == 0) = false -> way plus (ek j (vj j n lf + kk lf j) n lf) j N n lf l)
theorem Wi (o : ByteArray) (ho : o.size = 1) {x : Int} (h0 : 0 <= x) (h1 : x < 10000000000) : fit B1 o /\ fit (B1 ++ o) B2 /\ fit (B1 ++ o ++ B2) (aL x) /\ fit (B1 ++ o ++ B2 ++ aL x) B3 := by
 have h := (Mh h0 h1).2
 have e1 : B1.size = 25 := rfl
 have e2 : B2.size = 9 := rfl
 have e3 : B3.size = 2 := rfl
 refine ⟨?_, ?_, ?_, ?_⟩ <;> (unfold fit; simp only [ByteArray.size_append, e1, e2, e3, ho]; omega)
theorem ac5 (j N : Nat) (n : Int) (lf : Nat -> Int) (l : List Nat) (hb : 0 <= vj (Nat.succ j) n lf /\ vj (Nat.succ j) n lf <= Int.ofNat (Nat.mul 108 (Nat.pow 9 (Nat.succ j)))) : rdQ j N n lf l := by
 have hk := (hyk n lf).2.2 j
 have hv := jR (aR n 100) (kk lf) j
 have ht : (kk lf j).tmod 2 = kk lf j % 2 := Int.tmod_eq_emod_of_nonneg (by omega)
 have hf := fun o ho => Wi o ho (x := kk lf j) (by omega) (by omega)
 refine ⟨fun hc => ?_, fun hc => ?_⟩
 · rw [ht, beq_iff_eq] at hc
   rw [if_pos hc] at hv
   obtain ⟨f1, f2, f3, f4⟩ := hf star rfl
   exact ⟨f1, f2, f3, f4, ⟨rfl, rfl⟩, by cases j <;> first | exact ⟨hv, hb⟩ | exact hv, RJ (by rw [Ir hc]; rfl) rfl n lf j l⟩
 · rw [ht, beq_eq_false_iff_ne] at hc
   rw [if_neg hc] at hv
   obtain ⟨f1, f2, f3, f4⟩ := hf plus rfl
   exact ⟨f1, f2, f3, f4, ⟨rfl, rfl⟩, ⟨hv, hb⟩, RJ (by rw [Iq hc]; rfl) rfl n lf j l⟩
theorem Uy {e : ME} (h : LW e) : ∀ x ∈ [e], LW x := fun x hx => by
 simp only [List.mem_cons, List.not_mem_nil, or_false] at hx
 subst hx
 exact h
theorem rdL {j N : Nat} {n : Int} {lf : Nat -> Int} (l : List Nat) (hb : 0 <= vj (Nat.succ j) n lf /\ vj (Nat.succ j) n lf <= Int.ofNat (Nat.mul 108 (Nat.pow 9 (Nat.succ j)))) (h : LW (hd (Nat.succ j) N n lf)) (hok : (hd j N n lf).ok = true := by kernel_rfl)
  (e : rdQ j N n lf l = (lwS [] [hd (Nat.succ j) N n lf] (hd j N n lf)).holds fun y => y.1 = .kb true := by kernel_rfl) : LW (hd j N n lf) :=
 Gh (D := Ew [] [] []) (qd [] aC aA) (Uy h) (OM rfl) hok Ub (by kernel_rfl) rfl (by decide) 1 (e ▸ ac5 j N n lf l hb)
noncomputable def cjx (n : Int) (lf : Nat -> Int) (l : List Nat) (P : Prop) : Prop := @List.rec Nat (fun _ => Prop) P (fun c _ ih => (@Bool.rec (fun _ => Prop) (cjv True True True (aR n 100) (kk lf) c) (acv True n lf 99 (Nat.sub c 50)) (Nat.ble 50 c)) /\ ih) l
theorem Zi {P : Prop} (hP : P) (n : Int) (lf : Nat -> Int) : ∀ l, cjx n lf l P
 | [] => hP
 | c :: l => ⟨by
     show (@Bool.rec (fun _ => Prop) (cjv True True True (aR n 100) (kk lf) c) (acv True n lf 99 (Nat.sub c 50)) (Nat.ble 50 c))
     cases Nat.ble 50 c with
     | false => exact (LM trivial trivial trivial (aR n 100) (kk lf) [c]).1
     | true => exact Ze trivial n lf 99 _, Zi hP n lf l⟩
def exl (j : Nat) : List Nat := 50 :: 51 :: 0 :: 0 :: 0 :: (upL (fun t => nz [] (fun t => Nat.add 51 t :: Ke 0 t) t) j ++ (Ke 0 j ++ Ke (zz j) j))
def fin (t : ByteArray) : Prop := ((t.data.toList == t.data.toList) = true -> (((t.data.toList == t.data.toList) = true -> qt) /\ ((t.data.toList == t.data.toList) = false -> False))) /\ ((t.data.toList == t.data.toList) = false -> False)
theorem acj (t : ByteArray) : fin t := by
 have h : (t.data.toList == t.data.toList) = true := beq_self_eq_true _
 exact ⟨fun _ => ⟨fun _ => rfl, fun f => by rw [h] at f; cases f⟩, fun f => by rw [h] at f; cases f⟩
theorem exL {j N : Nat} {n : Int} {lf : Nat -> Int} (c : List Nat) (hm : MOk (xlE j n lf)) (hok : (hd j N n lf).ok = true := by kernel_rfl)
  (e : cjx n lf c (fin (aL (vj j n lf))) = (lwS (xlE j n lf) [] (hd j N n lf)).holds fun y => y.1 = .kb true := by kernel_rfl) : LW (hd j N n lf) :=
 Gh (D := Ew [] (xlE j n lf) []) (qd [] hm aA) (fun _ h => by cases h) (fun _ h => by cases h) hok Ub (by kernel_rfl) rfl (by decide) 1 (e ▸ Zi (acj _) n lf c)
theorem rd0 (n : Int) (lf : Nat -> Int) (r : Nat) (h : LW (hd 1 (Nat.succ r) n lf)) : LW (hd 0 (Nat.succ r) n lf) := rdL [0, 1] (R5 _ _ (hyk n lf)) h
theorem rd1 (n : Int) (lf : Nat -> Int) (r : Nat) (h : LW (hd 2 (Nat.succ (Nat.succ r)) n lf)) : LW (hd 1 (Nat.succ (Nat.succ r)) n lf) := rdL [2, 0, 1] (R6 _ _ (hyk n lf)) h
theorem rd2 (n : Int) (lf : Nat -> Int) (r : Nat) (h : LW (hd 3 (Nat.succ (Nat.succ (Nat.succ r))) n lf)) : LW (hd 2 (Nat.succ (Nat.succ (Nat.succ r))) n lf) := rdL [2, 0, 3, 1] (R7 _ _ (hyk n lf)) h
theorem rd3 (n : Int) (lf : Nat -> Int) (r : Nat) (h : LW (hd 4 (Nat.succ (Nat.succ (Nat.succ (Nat.succ r)))) n lf)) : LW (hd 3 (Nat.succ (Nat.succ (Nat.succ (Nat.succ r)))) n lf) := rdL [2, 0, 4, 3, 1] (R8 _ _ (hyk n lf)) h
theorem rd4 (n : Int) (lf : Nat -> Int) (r : Nat) (h : LW (hd 5 (Nat.succ (Nat.succ (Nat.succ (Nat.succ (Nat.succ r))))) n lf)) : LW (hd 4 (Nat.succ (Nat.succ (Nat.succ (Nat.succ (Nat.succ r))))) n lf) := rdL [2, 0, 4, 3, 5, 1] (R9 _ _ (hyk n lf)) h
theorem rd5 (n : Int) (lf : Nat -> Int) (r : Nat) (h : LW (hd 6 (Nat.succ (Nat.succ (Nat.succ (Nat.succ (Nat.succ (Nat.succ r)))))) n lf)) : LW (hd 5 (Nat.succ (Nat.succ (Nat.succ (Nat.succ (Nat.succ (Nat.succ r)))))) n lf) := rdL [6, 2, 0, 4, 3, 5, 1] (Sb _ _ (hyk n lf)) h
theorem rd6 (n : Int) (lf : Nat -> Int) (r : Nat) (h : LW (hd 7 (Nat.succ (Nat.succ (Nat.succ (Nat.succ (Nat.succ (Nat.succ (Nat.succ r))))))) n lf)) : LW (hd 6 (Nat.succ (Nat.succ (Nat.succ (Nat.succ (Nat.succ (Nat.succ (Nat.succ r))))))) n lf) := rdL [6, 2, 0, 4, 3, 7, 5, 1] (Sc _ _ (hyk n lf)) h
theorem rd7 (n : Int) (lf : Nat -> Int) (r : Nat) (h : LW (hd 8 (Nat.succ (Nat.succ (Nat.succ (Nat.succ (Nat.succ (Nat.succ (Nat.succ (Nat.succ r)))))))) n lf)) : LW (hd 7 (Nat.succ (Nat.succ (Nat.succ (Nat.succ (Nat.succ (Nat.succ (Nat.succ (Nat.succ r)))))))) n lf) := rdL [6, 2, 0, 8, 4, 3, 7, 5, 1] (ZX _ _ (hyk n lf)) h
end Gv.UC
