/- AS DEEP AS IT MAY BE: the law's function. -/
import Derived.Test.YtnalaogenpicfaaDoorRdE
import Derived.Test.YtnalaogenpicfaaDoorRdH
set_option linter.unusedSimpArgs false
set_option linter.unusedVariables false
open Rx Go
namespace Rd
--PROG prog

def lpS : ByteArray := ⟨#[40]⟩
def rpS : ByteArray := ⟨#[41]⟩
def nestS : Nat → ByteArray
  | 0 => noS
  | k + 1 => lpS ++ nestS k ++ rpS
def rdArgs (k : Int) (i : Nat) : List SV := [vI .i64 k, vI .i64 k, vI .i64 i, vS (nestS i)]
def rdOut (k : Int) (i : Nat) : T OutC := .need (1 ≤ k ∧ k ≤ 60 ∧ i ≤ k) (.ret (.exit 0, [vI .i64 k, vS (nestS k.toNat)], []))
def rdLF : LF := ⟨4, ⟨[3, 11, 12, 4], [3, 4], []⟩, fun svs _ => match svs with
  | k :: _ => match rdI k with
    | some k => some (rdArgs k 0, [], rdOut k 0)
    | none => none
  | _ => none⟩
def rdKs (g : Nat) : List (Nat × Nat × FC) := [(1, 1, pickedF), (7, 1, readF g)]
noncomputable def rdEnv (g : Nat) : Env := fnE prog 39 0 (rdKs g) [rdLF]
noncomputable def rdLoop : Code := (loopIn 4 (bodyOf c_ReadDeep)).getD .skip
def rdK (n : Int) : Int := 1 + pickedS n 60
def rdR (g : Nat) (n : Int) : RR := readR g (nestS (rdK n).toNat)
def deepO (g : Nat) (n : Int) : T Out := .need (isInt n ∧ (readS g (nestS (rdK n).toNat)).isSome = true ∧
  (rdK n ≤ 40 → (rdR g n).e = 0 ∧ (rdR g n).l.length = 1) ∧ (40 < rdK n → (rdR g n).e = 8 ∧ (rdR g n).i = 40)) (.ret (vB true, []))
def rdLoopQ (g : Nat) (k : Int) (i : Nat) (Rn : List SV → List (Option Ob) → Prop) (Re : Ex → List SV → List (Option Ob) → Prop) : Prop :=
(((Decidable.decide ((↑i : Int) < k) = Bool.true) →
 (((↑(ByteArray.mk #[(40 : UInt8)]).size : Int) + (↑(Rd.nestS i).size : Int) ≤ (9223372036854775807 : Int)) ∧
  (((↑(ByteArray.mk #[(40 : UInt8)] ++ Rd.nestS i).size : Int) + (↑(ByteArray.mk #[(41 : UInt8)]).size : Int) ≤ (9223372036854775807 : Int)) ∧
   (((Rx.lo Go.IntKind.i64 ≤ (↑i : Int) + (1 : Int)) ∧
     ((↑i : Int) + (1 : Int) ≤ Rx.hi Go.IntKind.i64)) ∧
    Rn ([SV.dt (Dt.cell (Go.Value.int Go.IntKind.i64 k)), SV.dt (Dt.cell (Go.Value.int Go.IntKind.i64 k)), SV.dt (Dt.cell (Go.Value.int Go.IntKind.i64 ((↑i : Int) + (1 : Int)))), SV.dt (Dt.cell (Go.Value.string (ByteArray.mk #[(40 : UInt8)] ++ Rd.nestS i ++ ByteArray.mk #[(41 : UInt8)])))]) ([]))))) ∧
((Decidable.decide ((↑i : Int) < k) = Bool.false) →
 Re (Rx.Ex.exit (0 : Nat)) ([SV.dt (Dt.cell (Go.Value.int Go.IntKind.i64 k)), SV.dt (Dt.cell (Go.Value.string (Rd.nestS i)))]) ([])))
def deepQ (g : Nat) (n : Int) (R : SV → List (Option Ob) → Prop) : Prop :=
((Rx.leL ([SV.dt (Dt.cell (Go.Value.int Go.IntKind.i64 n)), SV.dt (Dt.cell (Go.Value.int Go.IntKind.i64 (60 : Int)))]) ([SV.dt (Dt.cell (Go.Value.int Go.IntKind.i64 n)), SV.dt (Dt.cell (Go.Value.int Go.IntKind.i64 (60 : Int)))])) ∧
((Rx.leObL ([]) ([])) ∧
 (((Rd.isInt n) ∧
   ((60 : Int) ≠ (0 : Int))) ∧
  (((Rx.lo Go.IntKind.i64 ≤ (1 : Int) + Rd.pickedS n (60 : Int)) ∧
    ((1 : Int) + Rd.pickedS n (60 : Int) ≤ Rx.hi Go.IntKind.i64)) ∧
   (((Rx.leS (SV.dt (Dt.cell (Go.Value.int Go.IntKind.i64 ((1 : Int) + Rd.pickedS n (60 : Int))))) (SV.dt (Dt.cell (Go.Value.int Go.IntKind.i64 ((1 : Int) + Rd.pickedS n (60 : Int)))))) ∧
     ((Rx.leS (SV.dt (Dt.cell (Go.Value.int Go.IntKind.i64 ((1 : Int) + Rd.pickedS n (60 : Int))))) (SV.dt (Dt.cell (Go.Value.int Go.IntKind.i64 ((1 : Int) + Rd.pickedS n (60 : Int)))))) ∧
      ((Rx.leS (SV.dt (Dt.cell (Go.Value.int Go.IntKind.i64 (0 : Int)))) (SV.dt (Dt.cell (Go.Value.int Go.IntKind.i64 (↑(0 : Nat) : Int))))) ∧
       ((Rx.leS (SV.dt (Dt.cell (Go.Value.string (ByteArray.mk #[])))) (SV.dt (Dt.cell (Go.Value.string (Rd.nestS (0 : Nat)))))) ∧
        True)))) ∧
    ((Rx.leOO ([]) ([])) ∧
     ((((1 : Int) ≤ (1 : Int) + Rd.pickedS n (60 : Int)) ∧
       (((1 : Int) + Rd.pickedS n (60 : Int) ≤ (60 : Int)) ∧
        ((↑(0 : Nat) : Int) ≤ (1 : Int) + Rd.pickedS n (60 : Int)))) ∧
      ((Rx.leL ([SV.dt (Dt.cell (Go.Value.string (Rd.nestS ((1 : Int) + Rd.pickedS n (60 : Int)).toNat)))]) ([SV.dt (Dt.cell (Go.Value.string (Rd.nestS ((1 : Int) + Rd.pickedS n (60 : Int)).toNat)))])) ∧
       ((Rx.leObL ([]) ([])) ∧
        ((((Rd.nestS ((1 : Int) + Rd.pickedS n (60 : Int)).toNat).size ≤ (3000 : Nat)) ∧
          ((Rd.readS g (Rd.nestS ((1 : Int) + Rd.pickedS n (60 : Int)).toNat)).isSome = Bool.true)) ∧
         (((Decidable.decide ((1 : Int) + Rd.pickedS n (60 : Int) ≤ (40 : Int)) = Bool.true) →
           (((((Rd.readR g (Rd.nestS ((1 : Int) + Rd.pickedS n (60 : Int)).toNat)).e == (0 : Int)) = Bool.true) →
             (True ∧
              R (SV.dt (Dt.cell (Go.Value.bool ((↑(Rd.readR g (Rd.nestS ((1 : Int) + Rd.pickedS n (60 : Int)).toNat)).l.length : Int) == (1 : Int))))) ([]))) ∧
            ((((Rd.readR g (Rd.nestS ((1 : Int) + Rd.pickedS n (60 : Int)).toNat)).e == (0 : Int)) = Bool.false) →
             (True ∧
              R (SV.dt (Dt.cell (Go.Value.bool Bool.false))) ([]))))) ∧
          ((Decidable.decide ((1 : Int) + Rd.pickedS n (60 : Int) ≤ (40 : Int)) = Bool.false) →
           (((((Rd.readR g (Rd.nestS ((1 : Int) + Rd.pickedS n (60 : Int)).toNat)).e == (8 : Int)) = Bool.true) →
             (True ∧
              R (SV.dt (Dt.cell (Go.Value.bool ((Rd.readR g (Rd.nestS ((1 : Int) + Rd.pickedS n (60 : Int)).toNat)).i == (40 : Int))))) ([]))) ∧
            ((((Rd.readR g (Rd.nestS ((1 : Int) + Rd.pickedS n (60 : Int)).toNat)).e == (8 : Int)) = Bool.false) →
             (True ∧
              R (SV.dt (Dt.cell (Go.Value.bool Bool.false))) ([]))))))))))))))))
theorem nest_size : ∀ k, (nestS k).size = 2 * k
  | 0 => rfl
  | k + 1 => by
    have h := nest_size k
    simp only [nestS, ByteArray.size_append, h]
    show 1 + 2 * k + 1 = _
    omega
theorem rdKs_ok (g : Nat) : ∀ x ∈ rdKs g, x.2.2.Ok prog := all_cons pickedF_ok (all_cons (readF_ok g) all_nil)
theorem rdLoop_sound {g : Nat} (k : Int) (i : Nat) : Sound (rdEnv g) (.loop rdLoop) (mkSt (rdLF.live.h.zip (rdArgs k i)) []) ((rdOut k i).map (OutC.st rdLF.live)) := by
  refine loop_fn mixed (ks := rdKs g) (ls := [rdLF]) (c := rdLoop) (nb := 0) (N := 39) (rdKs_ok g) (no_loops (by kernel_rfl)) rdLF.live (fun i : Nat => rdArgs k i) (fun _ => []) (fun i => rdOut k i) (fun i => (k - i).toNat)
    (Q := fun i => rdLoopQ g k i) (fun i post hp => ?_) (fun a Rn Re => by kernel_rfl) i
  obtain ⟨⟨h1, h2, h3⟩, hp⟩ := hp
  have hp : post (.exit 0, [vI .i64 k, vS (nestS k.toNat)], []) := hp
  have hz := nest_size i
  unfold rdLoopQ
  simp only [lo, hi, decide_eq_true_eq, decide_eq_false_iff_not]
  have z1 : (ByteArray.mk #[(40 : UInt8)]).size = 1 := rfl
  have z2 : (ByteArray.mk #[(41 : UInt8)]).size = 1 := rfl
  refine ⟨fun h => ⟨by rw [z1]; omega, by rw [ByteArray.size_append, z1, z2]; omega, ⟨by omega, by omega⟩, i + 1, by omega, leL_refl _, trivial, ⟨h1, h2, by omega⟩, hp⟩, fun h => ?_⟩
  have e : k.toNat = i := by omega
  rw [e] at hp
  exact Outs.mk hp (leL_refl _) trivial
theorem rdLF_ok {g : Nat} : LFok (rdEnv g) rdLF rdLoop := by
  intro svs obl args obs out h
  unfold rdLF at h
  simp only at h
  repeat' split at h
  all_goals first
    | (simp only [Option.some.injEq, Prod.mk.injEq] at h; obtain ⟨rfl, rfl, rfl⟩ := h; apply rdLoop_sound)
    | cases h
theorem rdEnv_Lok {g : Nat} : (rdEnv g).Lok (loopsOf (bodyOf c_ReadDeep)) := by
  have hl : loopsOf (bodyOf c_ReadDeep) = [rdLoop] := by kernel_rfl
  rw [hl]
  refine fnE_Lok fun f h c hc hr => ?_
  rw [List.mem_singleton] at hc h
  subst hc; subst h
  exact rdLF_ok

theorem deep_ctr (g : Nat) (n : Int) : Ctr prog f_ReadDeep [vI .i64 n] [] (deepO g n) := by
  refine ctr_fn mixed (N := 39) (fn := c_ReadDeep) (c := bodyOf c_ReadDeep) (ks := rdKs g) (ls := [rdLF]) (by kernel_rfl) (by kernel_rfl) (by kernel_rfl) (rdKs_ok g) fin0 rdEnv_Lok (by kernel_rfl) (Q := deepQ g n) (fun post hp => ?_) (fun R => by kernel_rfl)
  obtain ⟨⟨hn, hsome, ha, hb⟩, hp⟩ := hp
  have hp : post (vB true, []) := hp
  have hk := pickedS_range (n := n) (m := 60) (by omega)
  have hz := nest_size (1 + pickedS n 60).toNat
  unfold deepQ
  refine ⟨leL_refl _, trivial, ⟨hn, by decide⟩, ⟨by simp only [lo]; omega, by simp only [hi]; omega⟩, ⟨leS_refl _, leS_refl _, leS_refl _, leS_refl _, trivial⟩, trivial, ⟨by omega, by omega, by omega⟩, leL_refl _, trivial, ⟨by omega, hsome⟩, fun h => ?_, fun h => ?_⟩
  · obtain ⟨a1, a2⟩ := ha (of_decide_eq_true h)
    unfold rdR rdK at a1 a2
    refine ⟨fun _ => ⟨trivial, ?_⟩, fun h => ?_⟩
    · rw [a2]; exact gives1 hp (leS_refl _)
    · rw [a1] at h; cases h
  · obtain ⟨a1, a2⟩ := hb (by have := of_decide_eq_false h; unfold rdK; omega)
    unfold rdR rdK at a1 a2
    refine ⟨fun _ => ⟨trivial, ?_⟩, fun h => ?_⟩
    · rw [a2]; exact gives1 hp (leS_refl _)
    · rw [a1] at h; cases h
end Rd
