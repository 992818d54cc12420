/- MoveFinds: the contract. -/
import Derived.Test.YtfpnadmpmfcaaaaHpU
open Rx Go
namespace Go.Proofs.Ytfpnadmpmfcaaaa

def recF : FC := ⟨21, false, false, fun al ol => match al, ol with
  | [k, _], [.cells _ [s]] => match rdI k, rdL s with
    | some k, some ms => some ([vI .i64 k, .ptr 0 0], [.cells 23 [wD ms]], recO ms k)
    | _, _ => none
  | _, _ => none⟩
def moveGF : FC := ⟨22, false, false, fun al ol => match al, ol with
  | [h, a, b], [] => match rdHp h, rdI a, rdI b with
    | some (l, lim), some a, some b => some ([hS l lim, vI .i64 a, vI .i64 b], [], moveGO l lim a b)
    | _, _, _ => none
  | _, _ => none⟩
structure MfV where
  ws : List Wd
  ms : List Wd
  R : List Wd
  h0 : List Wd
  a : Int
  p : Int
  h : List Wd
  b : Int
  x : Wd
  rs : List Wd
  g : List Wd
  out : List Wd
  A : Wd
def findC (l : List Wd) (lim : Int) (w x : Wd) : T Out := .need (cvErr l lim w = 0 ∧ x = findS l w) (.ret (.tup [wS x, .ki .i64 0], []))
theorem findC_ctr (l : List Wd) (lim : Int) (w x : Wd) : Ctr Try.prog 13 [hS l lim, wS w] [] (findC l lim w x) := by
  refine ctr_weak (fb_ctr l lim w) fun post hp => ?_
  obtain ⟨⟨h1, rfl⟩, hp⟩ := hp
  refine gives1 hp ?_
  rw [findR, if_pos h1, h1]
  simp only [leS_tup, leL_cons, leS_self, leL_nil, leS_dki, and_true]
def recC (ms : List Wd) (k : Int) (R : List Wd) : T Out := .need (isInt k ∧ 0 < ms.length ∧ R = recW ms k) (.ret (wD R, [some (.cells 23 [wD ms])]))
theorem recC_ctr (ms : List Wd) (k : Int) (R : List Wd) : Ctr Try.prog 21 [vI .i64 k, .ptr 0 0] [.cells 23 [wD ms]] (recC ms k R) := by
  refine ctr_weak (rec_ctr ms k) fun post hp => ?_
  obtain ⟨⟨h1, h2, rfl⟩, hp⟩ := hp
  exact ⟨⟨h1, h2⟩, gives1 hp (leS_refl _)⟩
/-- the collection, whose results are one value -/
def colC2 (l : List Wd) (lim : Int) (rs L : List Wd) (A : Wd) : T Out := .need (rs.length ≤ 1000000 ∧ colGood l lim rs = true ∧ L = colW l rs ∧ [A, A] = colR l rs) (.ret (.tup [hS L lim, wD [A, A], .ki .i64 0], []))
theorem colC2_ctr (l : List Wd) (lim : Int) (rs L : List Wd) (A : Wd) : Ctr Try.prog 16 [hS l lim, wD rs] [] (colC2 l lim rs L A) := colC_ctr l lim rs L [A, A]
def mfKs (l : List Rw) (n : Int) (V : MfV) : List (Nat × Nat × FC) := [(1, 1, cF 12 false [rD l, vI .i64 15] [] (builtC l 15 V.ws V.ms)), (3, 2, cF 21 false [vI .i64 0, .ptr 0 0] [.cells 23 [wD V.ms]] (recC V.ms 0 V.R)),
  (3, 3, cF 11 false [hS V.ws 600, wD V.R] [] (putC V.ws 600 V.R V.h0 V.a)), (5, 1, cF 10 false [vI .i64 n, vI .i64 6] [] (pickC n 6 V.p)), (9, 3, recF), (9, 4, putGF), (12, 3, moveGF),
  (17, 3, cF 13 false [hS V.h 600, wS ⟨5, V.a, noS⟩] [] (findC V.h 600 ⟨5, V.a, noS⟩ ⟨5, V.b, noS⟩)), (18, 6, cF 16 false [hS V.h 600, wD V.rs] [] (colC2 V.h 600 V.rs V.g V.A)), (19, 3, cF 22 false [hS V.h 600, vI .i64 V.a, vI .i64 V.b] [] (moveBO V.h 600 V.a V.b))]
def mfArgs (a b k : Int) (i : Nat) : List SV := [.ptr 0 0, .fn 21 [.ptr 1 0], vI .i64 a, .ki .i64 0, vI .i64 b, vI .i64 k, vI .i64 i]
def mfObs (h ms : List Wd) : List (Option Ob) := [some (.cells 25 [wD h, vI .i64 600]), some (.cells 23 [wD ms])]
/-- behind i - 1 moves -/
structure MfP (d : Bd) (V : MfV) (i : Nat) : Prop where
  bi : BI d
  len : d.ws.length ≤ 100
  ms : V.ms = d.ms
  a : V.a = aM d 0
  p : 0 ≤ V.p ∧ V.p < 6
  b : V.b = aM d (1 + V.p).toNat
  h : V.h = hM d (1 + V.p).toNat
  i : 1 ≤ i ∧ (i : Int) ≤ 2 + V.p
def mfOut (d : Bd) (V : MfV) (i : Nat) : T OutC := .need (MfP d V i) (.ret (.exit 0, [.ptr 0 0, vI .i64 V.a, .ki .i64 0, vI .i64 V.b, vI .i64 (1 + V.p)], [some (.cells 25 [wD V.h, vI .i64 600])]))
def mfLF (d : Bd) (V : MfV) : LF := ⟨7, ⟨[5, 7, 8, 9, 10, 11, 12], [5, 8, 9, 10, 11], []⟩, fun _ _ => some (mfArgs V.a V.a (1 + V.p) 1, mfObs V.h0 V.ms, mfOut d V 1)⟩
noncomputable def mfE (l : List Rw) (n : Int) (d : Bd) (V : MfV) : Env := fnE Try.prog 135 0 (mfKs l n V) [mfLF d V]
noncomputable def mfLoop : Code := (loopIn 7 (bodyOf Try.f9)).getD .skip

def mfLQ (l : List Rw) (n : Int) (d : Bd) (V : MfV) (hw : List Wd) (b : Int) (i : Nat) (Rn : List SV → List (Option Ob) → Prop) (Re : Ex → List SV → List (Option Ob) → Prop) : Prop :=
(((Decidable.decide ((↑i : Int) ≤ (1 : Int) + V.p) = Bool.true) →
 ((Rx.leL ([SV.dt (Dt.cell (Go.Value.int Go.IntKind.i64 (↑i : Int))), SV.ptr 0 0]) ([SV.dt (Dt.cell (Go.Value.int Go.IntKind.i64 (↑i : Int))), SV.ptr 0 0])) ∧
  ((Rx.leObL ([Ob.cells 23 [SV.dt (Dt.arr ((3 : Nat)) (V.ms.length) (Go.Proofs.Ytfpnadmpmfcaaaa.wF V.ms))]]) ([Ob.cells 23 [SV.dt (Dt.arr ((3 : Nat)) ((Go.Proofs.Ytfpnadmpmfcaaaa.rdF V.ms.length (Go.Proofs.Ytfpnadmpmfcaaaa.wF V.ms)).length) (Go.Proofs.Ytfpnadmpmfcaaaa.wF (Go.Proofs.Ytfpnadmpmfcaaaa.rdF V.ms.length (Go.Proofs.Ytfpnadmpmfcaaaa.wF V.ms))))]])) ∧
   (((Go.Proofs.Ytfpnadmpmfcaaaa.isInt (↑i : Int)) ∧
     ((0 : Nat) < (Go.Proofs.Ytfpnadmpmfcaaaa.rdF V.ms.length (Go.Proofs.Ytfpnadmpmfcaaaa.wF V.ms)).length)) ∧
    ((Rx.leL ([SV.agg [SV.dt (Dt.arr ((3 : Nat)) (hw.length) (Go.Proofs.Ytfpnadmpmfcaaaa.wF hw)), SV.dt (Dt.cell (Go.Value.int Go.IntKind.i64 (600 : Int)))], SV.dt (Dt.arr ((3 : Nat)) ((Go.Proofs.Ytfpnadmpmfcaaaa.recW (Go.Proofs.Ytfpnadmpmfcaaaa.rdF V.ms.length (Go.Proofs.Ytfpnadmpmfcaaaa.wF V.ms)) (↑i : Int)).length) (Go.Proofs.Ytfpnadmpmfcaaaa.wF (Go.Proofs.Ytfpnadmpmfcaaaa.recW (Go.Proofs.Ytfpnadmpmfcaaaa.rdF V.ms.length (Go.Proofs.Ytfpnadmpmfcaaaa.wF V.ms)) (↑i : Int))))]) ([SV.agg [SV.dt (Dt.arr ((3 : Nat)) ((Go.Proofs.Ytfpnadmpmfcaaaa.rdF hw.length (Go.Proofs.Ytfpnadmpmfcaaaa.wF hw)).length) (Go.Proofs.Ytfpnadmpmfcaaaa.wF (Go.Proofs.Ytfpnadmpmfcaaaa.rdF hw.length (Go.Proofs.Ytfpnadmpmfcaaaa.wF hw)))), SV.dt (Dt.cell (Go.Value.int Go.IntKind.i64 (600 : Int)))], SV.dt (Dt.arr ((3 : Nat)) ((Go.Proofs.Ytfpnadmpmfcaaaa.rdF (Go.Proofs.Ytfpnadmpmfcaaaa.recW (Go.Proofs.Ytfpnadmpmfcaaaa.rdF V.ms.length (Go.Proofs.Ytfpnadmpmfcaaaa.wF V.ms)) (↑i : Int)).length (Go.Proofs.Ytfpnadmpmfcaaaa.wF (Go.Proofs.Ytfpnadmpmfcaaaa.recW (Go.Proofs.Ytfpnadmpmfcaaaa.rdF V.ms.length (Go.Proofs.Ytfpnadmpmfcaaaa.wF V.ms)) (↑i : Int)))).length) (Go.Proofs.Ytfpnadmpmfcaaaa.wF (Go.Proofs.Ytfpnadmpmfcaaaa.rdF (Go.Proofs.Ytfpnadmpmfcaaaa.recW (Go.Proofs.Ytfpnadmpmfcaaaa.rdF V.ms.length (Go.Proofs.Ytfpnadmpmfcaaaa.wF V.ms)) (↑i : Int)).length (Go.Proofs.Ytfpnadmpmfcaaaa.wF (Go.Proofs.Ytfpnadmpmfcaaaa.recW (Go.Proofs.Ytfpnadmpmfcaaaa.rdF V.ms.length (Go.Proofs.Ytfpnadmpmfcaaaa.wF V.ms)) (↑i : Int))))))])) ∧
     ((Rx.leObL ([]) ([])) ∧
      (((Go.Proofs.Ytfpnadmpmfcaaaa.fitsW (Go.Proofs.Ytfpnadmpmfcaaaa.rdF (Go.Proofs.Ytfpnadmpmfcaaaa.recW (Go.Proofs.Ytfpnadmpmfcaaaa.rdF V.ms.length (Go.Proofs.Ytfpnadmpmfcaaaa.wF V.ms)) (↑i : Int)).length (Go.Proofs.Ytfpnadmpmfcaaaa.wF (Go.Proofs.Ytfpnadmpmfcaaaa.recW (Go.Proofs.Ytfpnadmpmfcaaaa.rdF V.ms.length (Go.Proofs.Ytfpnadmpmfcaaaa.wF V.ms)) (↑i : Int))))) ∧
        (Go.Proofs.Ytfpnadmpmfcaaaa.putGood (Go.Proofs.Ytfpnadmpmfcaaaa.rdF hw.length (Go.Proofs.Ytfpnadmpmfcaaaa.wF hw)) (600 : Int) (Go.Proofs.Ytfpnadmpmfcaaaa.rdF (Go.Proofs.Ytfpnadmpmfcaaaa.recW (Go.Proofs.Ytfpnadmpmfcaaaa.rdF V.ms.length (Go.Proofs.Ytfpnadmpmfcaaaa.wF V.ms)) (↑i : Int)).length (Go.Proofs.Ytfpnadmpmfcaaaa.wF (Go.Proofs.Ytfpnadmpmfcaaaa.recW (Go.Proofs.Ytfpnadmpmfcaaaa.rdF V.ms.length (Go.Proofs.Ytfpnadmpmfcaaaa.wF V.ms)) (↑i : Int)))) = Bool.true)) ∧
       ((Rx.leL ([SV.agg [SV.dt (Dt.arr ((3 : Nat)) ((Go.Proofs.Ytfpnadmpmfcaaaa.rdF hw.length (Go.Proofs.Ytfpnadmpmfcaaaa.wF hw) ++ Go.Proofs.Ytfpnadmpmfcaaaa.rdF (Go.Proofs.Ytfpnadmpmfcaaaa.recW (Go.Proofs.Ytfpnadmpmfcaaaa.rdF V.ms.length (Go.Proofs.Ytfpnadmpmfcaaaa.wF V.ms)) (↑i : Int)).length (Go.Proofs.Ytfpnadmpmfcaaaa.wF (Go.Proofs.Ytfpnadmpmfcaaaa.recW (Go.Proofs.Ytfpnadmpmfcaaaa.rdF V.ms.length (Go.Proofs.Ytfpnadmpmfcaaaa.wF V.ms)) (↑i : Int)))).length) (Go.Proofs.Ytfpnadmpmfcaaaa.wF (Go.Proofs.Ytfpnadmpmfcaaaa.rdF hw.length (Go.Proofs.Ytfpnadmpmfcaaaa.wF hw) ++ Go.Proofs.Ytfpnadmpmfcaaaa.rdF (Go.Proofs.Ytfpnadmpmfcaaaa.recW (Go.Proofs.Ytfpnadmpmfcaaaa.rdF V.ms.length (Go.Proofs.Ytfpnadmpmfcaaaa.wF V.ms)) (↑i : Int)).length (Go.Proofs.Ytfpnadmpmfcaaaa.wF (Go.Proofs.Ytfpnadmpmfcaaaa.recW (Go.Proofs.Ytfpnadmpmfcaaaa.rdF V.ms.length (Go.Proofs.Ytfpnadmpmfcaaaa.wF V.ms)) (↑i : Int)))))), SV.dt (Dt.cell (Go.Value.int Go.IntKind.i64 (600 : Int)))], SV.dt (Dt.cell (Go.Value.int Go.IntKind.i64 b)), SV.dt (Dt.cell (Go.Value.int Go.IntKind.i64 (↑(Go.Proofs.Ytfpnadmpmfcaaaa.rdF hw.length (Go.Proofs.Ytfpnadmpmfcaaaa.wF hw)).length : Int)))]) ([SV.agg [SV.dt (Dt.arr ((3 : Nat)) ((Go.Proofs.Ytfpnadmpmfcaaaa.rdF (Go.Proofs.Ytfpnadmpmfcaaaa.rdF hw.length (Go.Proofs.Ytfpnadmpmfcaaaa.wF hw) ++ Go.Proofs.Ytfpnadmpmfcaaaa.rdF (Go.Proofs.Ytfpnadmpmfcaaaa.recW (Go.Proofs.Ytfpnadmpmfcaaaa.rdF V.ms.length (Go.Proofs.Ytfpnadmpmfcaaaa.wF V.ms)) (↑i : Int)).length (Go.Proofs.Ytfpnadmpmfcaaaa.wF (Go.Proofs.Ytfpnadmpmfcaaaa.recW (Go.Proofs.Ytfpnadmpmfcaaaa.rdF V.ms.length (Go.Proofs.Ytfpnadmpmfcaaaa.wF V.ms)) (↑i : Int)))).length (Go.Proofs.Ytfpnadmpmfcaaaa.wF (Go.Proofs.Ytfpnadmpmfcaaaa.rdF hw.length (Go.Proofs.Ytfpnadmpmfcaaaa.wF hw) ++ Go.Proofs.Ytfpnadmpmfcaaaa.rdF (Go.Proofs.Ytfpnadmpmfcaaaa.recW (Go.Proofs.Ytfpnadmpmfcaaaa.rdF V.ms.length (Go.Proofs.Ytfpnadmpmfcaaaa.wF V.ms)) (↑i : Int)).length (Go.Proofs.Ytfpnadmpmfcaaaa.wF (Go.Proofs.Ytfpnadmpmfcaaaa.recW (Go.Proofs.Ytfpnadmpmfcaaaa.rdF V.ms.length (Go.Proofs.Ytfpnadmpmfcaaaa.wF V.ms)) (↑i : Int)))))).length) (Go.Proofs.Ytfpnadmpmfcaaaa.wF (Go.Proofs.Ytfpnadmpmfcaaaa.rdF (Go.Proofs.Ytfpnadmpmfcaaaa.rdF hw.length (Go.Proofs.Ytfpnadmpmfcaaaa.wF hw) ++ Go.Proofs.Ytfpnadmpmfcaaaa.rdF (Go.Proofs.Ytfpnadmpmfcaaaa.recW (Go.Proofs.Ytfpnadmpmfcaaaa.rdF V.ms.length (Go.Proofs.Ytfpnadmpmfcaaaa.wF V.ms)) (↑i : Int)).length (Go.Proofs.Ytfpnadmpmfcaaaa.wF (Go.Proofs.Ytfpnadmpmfcaaaa.recW (Go.Proofs.Ytfpnadmpmfcaaaa.rdF V.ms.length (Go.Proofs.Ytfpnadmpmfcaaaa.wF V.ms)) (↑i : Int)))).length (Go.Proofs.Ytfpnadmpmfcaaaa.wF (Go.Proofs.Ytfpnadmpmfcaaaa.rdF hw.length (Go.Proofs.Ytfpnadmpmfcaaaa.wF hw) ++ Go.Proofs.Ytfpnadmpmfcaaaa.rdF (Go.Proofs.Ytfpnadmpmfcaaaa.recW (Go.Proofs.Ytfpnadmpmfcaaaa.rdF V.ms.length (Go.Proofs.Ytfpnadmpmfcaaaa.wF V.ms)) (↑i : Int)).length (Go.Proofs.Ytfpnadmpmfcaaaa.wF (Go.Proofs.Ytfpnadmpmfcaaaa.recW (Go.Proofs.Ytfpnadmpmfcaaaa.rdF V.ms.length (Go.Proofs.Ytfpnadmpmfcaaaa.wF V.ms)) (↑i : Int)))))))), SV.dt (Dt.cell (Go.Value.int Go.IntKind.i64 (600 : Int)))], SV.dt (Dt.cell (Go.Value.int Go.IntKind.i64 b)), SV.dt (Dt.cell (Go.Value.int Go.IntKind.i64 (↑(Go.Proofs.Ytfpnadmpmfcaaaa.rdF hw.length (Go.Proofs.Ytfpnadmpmfcaaaa.wF hw)).length : Int)))])) ∧
        ((Rx.leObL ([]) ([])) ∧
         (((Go.Proofs.Ytfpnadmpmfcaaaa.checkB (Go.Proofs.Ytfpnadmpmfcaaaa.rdF (Go.Proofs.Ytfpnadmpmfcaaaa.rdF hw.length (Go.Proofs.Ytfpnadmpmfcaaaa.wF hw) ++ Go.Proofs.Ytfpnadmpmfcaaaa.rdF (Go.Proofs.Ytfpnadmpmfcaaaa.recW (Go.Proofs.Ytfpnadmpmfcaaaa.rdF V.ms.length (Go.Proofs.Ytfpnadmpmfcaaaa.wF V.ms)) (↑i : Int)).length (Go.Proofs.Ytfpnadmpmfcaaaa.wF (Go.Proofs.Ytfpnadmpmfcaaaa.recW (Go.Proofs.Ytfpnadmpmfcaaaa.rdF V.ms.length (Go.Proofs.Ytfpnadmpmfcaaaa.wF V.ms)) (↑i : Int)))).length (Go.Proofs.Ytfpnadmpmfcaaaa.wF (Go.Proofs.Ytfpnadmpmfcaaaa.rdF hw.length (Go.Proofs.Ytfpnadmpmfcaaaa.wF hw) ++ Go.Proofs.Ytfpnadmpmfcaaaa.rdF (Go.Proofs.Ytfpnadmpmfcaaaa.recW (Go.Proofs.Ytfpnadmpmfcaaaa.rdF V.ms.length (Go.Proofs.Ytfpnadmpmfcaaaa.wF V.ms)) (↑i : Int)).length (Go.Proofs.Ytfpnadmpmfcaaaa.wF (Go.Proofs.Ytfpnadmpmfcaaaa.recW (Go.Proofs.Ytfpnadmpmfcaaaa.rdF V.ms.length (Go.Proofs.Ytfpnadmpmfcaaaa.wF V.ms)) (↑i : Int)))))) (600 : Int) = Bool.true) ∧
           ((Go.Proofs.Ytfpnadmpmfcaaaa.mGood (Go.Proofs.Ytfpnadmpmfcaaaa.rdF (Go.Proofs.Ytfpnadmpmfcaaaa.rdF hw.length (Go.Proofs.Ytfpnadmpmfcaaaa.wF hw) ++ Go.Proofs.Ytfpnadmpmfcaaaa.rdF (Go.Proofs.Ytfpnadmpmfcaaaa.recW (Go.Proofs.Ytfpnadmpmfcaaaa.rdF V.ms.length (Go.Proofs.Ytfpnadmpmfcaaaa.wF V.ms)) (↑i : Int)).length (Go.Proofs.Ytfpnadmpmfcaaaa.wF (Go.Proofs.Ytfpnadmpmfcaaaa.recW (Go.Proofs.Ytfpnadmpmfcaaaa.rdF V.ms.length (Go.Proofs.Ytfpnadmpmfcaaaa.wF V.ms)) (↑i : Int)))).length (Go.Proofs.Ytfpnadmpmfcaaaa.wF (Go.Proofs.Ytfpnadmpmfcaaaa.rdF hw.length (Go.Proofs.Ytfpnadmpmfcaaaa.wF hw) ++ Go.Proofs.Ytfpnadmpmfcaaaa.rdF (Go.Proofs.Ytfpnadmpmfcaaaa.recW (Go.Proofs.Ytfpnadmpmfcaaaa.rdF V.ms.length (Go.Proofs.Ytfpnadmpmfcaaaa.wF V.ms)) (↑i : Int)).length (Go.Proofs.Ytfpnadmpmfcaaaa.wF (Go.Proofs.Ytfpnadmpmfcaaaa.recW (Go.Proofs.Ytfpnadmpmfcaaaa.rdF V.ms.length (Go.Proofs.Ytfpnadmpmfcaaaa.wF V.ms)) (↑i : Int)))))) b (↑(Go.Proofs.Ytfpnadmpmfcaaaa.rdF hw.length (Go.Proofs.Ytfpnadmpmfcaaaa.wF hw)).length : Int)) ∧
            (Go.Proofs.Ytfpnadmpmfcaaaa.checkB (Go.Proofs.Ytfpnadmpmfcaaaa.movedW (Go.Proofs.Ytfpnadmpmfcaaaa.rdF (Go.Proofs.Ytfpnadmpmfcaaaa.rdF hw.length (Go.Proofs.Ytfpnadmpmfcaaaa.wF hw) ++ Go.Proofs.Ytfpnadmpmfcaaaa.rdF (Go.Proofs.Ytfpnadmpmfcaaaa.recW (Go.Proofs.Ytfpnadmpmfcaaaa.rdF V.ms.length (Go.Proofs.Ytfpnadmpmfcaaaa.wF V.ms)) (↑i : Int)).length (Go.Proofs.Ytfpnadmpmfcaaaa.wF (Go.Proofs.Ytfpnadmpmfcaaaa.recW (Go.Proofs.Ytfpnadmpmfcaaaa.rdF V.ms.length (Go.Proofs.Ytfpnadmpmfcaaaa.wF V.ms)) (↑i : Int)))).length (Go.Proofs.Ytfpnadmpmfcaaaa.wF (Go.Proofs.Ytfpnadmpmfcaaaa.rdF hw.length (Go.Proofs.Ytfpnadmpmfcaaaa.wF hw) ++ Go.Proofs.Ytfpnadmpmfcaaaa.rdF (Go.Proofs.Ytfpnadmpmfcaaaa.recW (Go.Proofs.Ytfpnadmpmfcaaaa.rdF V.ms.length (Go.Proofs.Ytfpnadmpmfcaaaa.wF V.ms)) (↑i : Int)).length (Go.Proofs.Ytfpnadmpmfcaaaa.wF (Go.Proofs.Ytfpnadmpmfcaaaa.recW (Go.Proofs.Ytfpnadmpmfcaaaa.rdF V.ms.length (Go.Proofs.Ytfpnadmpmfcaaaa.wF V.ms)) (↑i : Int)))))) b (↑(Go.Proofs.Ytfpnadmpmfcaaaa.rdF hw.length (Go.Proofs.Ytfpnadmpmfcaaaa.wF hw)).length : Int)) (600 : Int) = Bool.true))) ∧
          (((Rx.lo Go.IntKind.i64 ≤ (↑i : Int) + (1 : Int)) ∧
            ((↑i : Int) + (1 : Int) ≤ Rx.hi Go.IntKind.i64)) ∧
           Rn ([SV.ptr 0 0, SV.fn 21 [SV.ptr 1 0], SV.dt (Dt.cell (Go.Value.int Go.IntKind.i64 V.a)), SV.dt (Dt.cell (Go.Value.int Go.IntKind.i64 (0 : Int))), SV.dt (Dt.cell (Go.Value.int Go.IntKind.i64 (↑(Go.Proofs.Ytfpnadmpmfcaaaa.rdF hw.length (Go.Proofs.Ytfpnadmpmfcaaaa.wF hw)).length : Int))), SV.dt (Dt.cell (Go.Value.int Go.IntKind.i64 ((1 : Int) + V.p))), SV.dt (Dt.cell (Go.Value.int Go.IntKind.i64 ((↑i : Int) + (1 : Int))))]) ([some (Ob.cells 25 [SV.dt (Dt.arr ((3 : Nat)) ((Go.Proofs.Ytfpnadmpmfcaaaa.movedW (Go.Proofs.Ytfpnadmpmfcaaaa.rdF (Go.Proofs.Ytfpnadmpmfcaaaa.rdF hw.length (Go.Proofs.Ytfpnadmpmfcaaaa.wF hw) ++ Go.Proofs.Ytfpnadmpmfcaaaa.rdF (Go.Proofs.Ytfpnadmpmfcaaaa.recW (Go.Proofs.Ytfpnadmpmfcaaaa.rdF V.ms.length (Go.Proofs.Ytfpnadmpmfcaaaa.wF V.ms)) (↑i : Int)).length (Go.Proofs.Ytfpnadmpmfcaaaa.wF (Go.Proofs.Ytfpnadmpmfcaaaa.recW (Go.Proofs.Ytfpnadmpmfcaaaa.rdF V.ms.length (Go.Proofs.Ytfpnadmpmfcaaaa.wF V.ms)) (↑i : Int)))).length (Go.Proofs.Ytfpnadmpmfcaaaa.wF (Go.Proofs.Ytfpnadmpmfcaaaa.rdF hw.length (Go.Proofs.Ytfpnadmpmfcaaaa.wF hw) ++ Go.Proofs.Ytfpnadmpmfcaaaa.rdF (Go.Proofs.Ytfpnadmpmfcaaaa.recW (Go.Proofs.Ytfpnadmpmfcaaaa.rdF V.ms.length (Go.Proofs.Ytfpnadmpmfcaaaa.wF V.ms)) (↑i : Int)).length (Go.Proofs.Ytfpnadmpmfcaaaa.wF (Go.Proofs.Ytfpnadmpmfcaaaa.recW (Go.Proofs.Ytfpnadmpmfcaaaa.rdF V.ms.length (Go.Proofs.Ytfpnadmpmfcaaaa.wF V.ms)) (↑i : Int)))))) b (↑(Go.Proofs.Ytfpnadmpmfcaaaa.rdF hw.length (Go.Proofs.Ytfpnadmpmfcaaaa.wF hw)).length : Int)).length) (Go.Proofs.Ytfpnadmpmfcaaaa.wF (Go.Proofs.Ytfpnadmpmfcaaaa.movedW (Go.Proofs.Ytfpnadmpmfcaaaa.rdF (Go.Proofs.Ytfpnadmpmfcaaaa.rdF hw.length (Go.Proofs.Ytfpnadmpmfcaaaa.wF hw) ++ Go.Proofs.Ytfpnadmpmfcaaaa.rdF (Go.Proofs.Ytfpnadmpmfcaaaa.recW (Go.Proofs.Ytfpnadmpmfcaaaa.rdF V.ms.length (Go.Proofs.Ytfpnadmpmfcaaaa.wF V.ms)) (↑i : Int)).length (Go.Proofs.Ytfpnadmpmfcaaaa.wF (Go.Proofs.Ytfpnadmpmfcaaaa.recW (Go.Proofs.Ytfpnadmpmfcaaaa.rdF V.ms.length (Go.Proofs.Ytfpnadmpmfcaaaa.wF V.ms)) (↑i : Int)))).length (Go.Proofs.Ytfpnadmpmfcaaaa.wF (Go.Proofs.Ytfpnadmpmfcaaaa.rdF hw.length (Go.Proofs.Ytfpnadmpmfcaaaa.wF hw) ++ Go.Proofs.Ytfpnadmpmfcaaaa.rdF (Go.Proofs.Ytfpnadmpmfcaaaa.recW (Go.Proofs.Ytfpnadmpmfcaaaa.rdF V.ms.length (Go.Proofs.Ytfpnadmpmfcaaaa.wF V.ms)) (↑i : Int)).length (Go.Proofs.Ytfpnadmpmfcaaaa.wF (Go.Proofs.Ytfpnadmpmfcaaaa.recW (Go.Proofs.Ytfpnadmpmfcaaaa.rdF V.ms.length (Go.Proofs.Ytfpnadmpmfcaaaa.wF V.ms)) (↑i : Int)))))) b (↑(Go.Proofs.Ytfpnadmpmfcaaaa.rdF hw.length (Go.Proofs.Ytfpnadmpmfcaaaa.wF hw)).length : Int)))), SV.dt (Dt.cell (Go.Value.int Go.IntKind.i64 (600 : Int)))]), some (Ob.cells 23 [SV.dt (Dt.arr ((3 : Nat)) ((Go.Proofs.Ytfpnadmpmfcaaaa.rdF V.ms.length (Go.Proofs.Ytfpnadmpmfcaaaa.wF V.ms)).length) (Go.Proofs.Ytfpnadmpmfcaaaa.wF (Go.Proofs.Ytfpnadmpmfcaaaa.rdF V.ms.length (Go.Proofs.Ytfpnadmpmfcaaaa.wF V.ms))))])])))))))))))) ∧
((Decidable.decide ((↑i : Int) ≤ (1 : Int) + V.p) = Bool.false) →
 Re (Rx.Ex.exit (0 : Nat)) ([SV.ptr 0 0, SV.dt (Dt.cell (Go.Value.int Go.IntKind.i64 V.a)), SV.dt (Dt.cell (Go.Value.int Go.IntKind.i64 (0 : Int))), SV.dt (Dt.cell (Go.Value.int Go.IntKind.i64 b)), SV.dt (Dt.cell (Go.Value.int Go.IntKind.i64 ((1 : Int) + V.p)))]) ([some (Ob.cells 25 [SV.dt (Dt.arr ((3 : Nat)) (hw.length) (Go.Proofs.Ytfpnadmpmfcaaaa.wF hw)), SV.dt (Dt.cell (Go.Value.int Go.IntKind.i64 (600 : Int)))])])))
def mfQ (l : List Rw) (n : Int) (d : Bd) (V : MfV) (R : SV → List (Option Ob) → Prop) : Prop :=
((Rx.leL ([SV.dt (Dt.arr ((4 : Nat)) (l.length) (Go.Proofs.Ytfpnadmpmfcaaaa.rF l)), SV.dt (Dt.cell (Go.Value.int Go.IntKind.i64 (15 : Int)))]) ([SV.dt (Dt.arr ((4 : Nat)) (l.length) (Go.Proofs.Ytfpnadmpmfcaaaa.rF l)), SV.dt (Dt.cell (Go.Value.int Go.IntKind.i64 (15 : Int)))])) ∧
((Rx.leObL ([]) ([])) ∧
 (((Go.Proofs.Ytfpnadmpmfcaaaa.rawOk l) ∧
   (((0 : Int) ≤ (15 : Int)) ∧
    (((15 : Int) ≤ (30 : Int)) ∧
     ((V.ws = (Go.Proofs.Ytfpnadmpmfcaaaa.builtD l (15 : Int)).ws) ∧
      (V.ms = (Go.Proofs.Ytfpnadmpmfcaaaa.builtD l (15 : Int)).ms))))) ∧
  ((Rx.leL ([SV.dt (Dt.cell (Go.Value.int Go.IntKind.i64 (0 : Int))), SV.ptr 0 0]) ([SV.dt (Dt.cell (Go.Value.int Go.IntKind.i64 (0 : Int))), SV.ptr 0 0])) ∧
   ((Rx.leObL ([Ob.cells 23 [SV.dt (Dt.arr ((3 : Nat)) (V.ms.length) (Go.Proofs.Ytfpnadmpmfcaaaa.wF V.ms))]]) ([Ob.cells 23 [SV.dt (Dt.arr ((3 : Nat)) (V.ms.length) (Go.Proofs.Ytfpnadmpmfcaaaa.wF V.ms))]])) ∧
    (((Go.Proofs.Ytfpnadmpmfcaaaa.isInt (0 : Int)) ∧
      (((0 : Nat) < V.ms.length) ∧
       (V.R = Go.Proofs.Ytfpnadmpmfcaaaa.recW V.ms (0 : Int)))) ∧
     ((Rx.leL ([SV.agg [SV.dt (Dt.arr ((3 : Nat)) (V.ws.length) (Go.Proofs.Ytfpnadmpmfcaaaa.wF V.ws)), SV.dt (Dt.cell (Go.Value.int Go.IntKind.i64 (600 : Int)))], SV.dt (Dt.arr ((3 : Nat)) (V.R.length) (Go.Proofs.Ytfpnadmpmfcaaaa.wF V.R))]) ([SV.agg [SV.dt (Dt.arr ((3 : Nat)) (V.ws.length) (Go.Proofs.Ytfpnadmpmfcaaaa.wF V.ws)), SV.dt (Dt.cell (Go.Value.int Go.IntKind.i64 (600 : Int)))], SV.dt (Dt.arr ((3 : Nat)) (V.R.length) (Go.Proofs.Ytfpnadmpmfcaaaa.wF V.R))])) ∧
      ((Rx.leObL ([]) ([])) ∧
       (((Go.Proofs.Ytfpnadmpmfcaaaa.fitsW V.R) ∧
         ((Go.Proofs.Ytfpnadmpmfcaaaa.putGood V.ws (600 : Int) V.R = Bool.true) ∧
          ((V.h0 = V.ws ++ V.R) ∧
           (V.a = (↑V.ws.length : Int))))) ∧
        ((Rx.leL ([SV.dt (Dt.cell (Go.Value.int Go.IntKind.i64 n)), SV.dt (Dt.cell (Go.Value.int Go.IntKind.i64 (6 : Int)))]) ([SV.dt (Dt.cell (Go.Value.int Go.IntKind.i64 n)), SV.dt (Dt.cell (Go.Value.int Go.IntKind.i64 (6 : Int)))])) ∧
         ((Rx.leObL ([]) ([])) ∧
          (((Go.Proofs.Ytfpnadmpmfcaaaa.isInt n) ∧
            (((6 : Int) ≠ (0 : Int)) ∧
             (V.p = Go.Proofs.Ytfpnadmpmfcaaaa.pickedS n (6 : Int)))) ∧
           (((Rx.lo Go.IntKind.i64 ≤ (1 : Int) + V.p) ∧
             ((1 : Int) + V.p ≤ Rx.hi Go.IntKind.i64)) ∧
            (((Rx.leS (SV.ptr 0 0) (SV.ptr 0 0)) ∧
              ((Rx.leS (SV.fn 21 [SV.ptr 1 0]) (SV.fn 21 [SV.ptr 1 0])) ∧
               ((Rx.leS (SV.dt (Dt.cell (Go.Value.int Go.IntKind.i64 V.a))) (SV.dt (Dt.cell (Go.Value.int Go.IntKind.i64 V.a)))) ∧
                ((Rx.leS (SV.dt (Dt.cell (Go.Value.int Go.IntKind.i64 (0 : Int)))) (SV.ki Go.IntKind.i64 ((0 : Int)))) ∧
                 ((Rx.leS (SV.dt (Dt.cell (Go.Value.int Go.IntKind.i64 V.a))) (SV.dt (Dt.cell (Go.Value.int Go.IntKind.i64 V.a)))) ∧
                  ((Rx.leS (SV.dt (Dt.cell (Go.Value.int Go.IntKind.i64 ((1 : Int) + V.p)))) (SV.dt (Dt.cell (Go.Value.int Go.IntKind.i64 ((1 : Int) + V.p))))) ∧
                   ((Rx.leS (SV.dt (Dt.cell (Go.Value.int Go.IntKind.i64 (1 : Int)))) (SV.dt (Dt.cell (Go.Value.int Go.IntKind.i64 (↑(1 : Nat) : Int))))) ∧
                    True))))))) ∧
             ((Rx.leOO ([some (Ob.cells 25 [SV.dt (Dt.arr ((3 : Nat)) (V.h0.length) (Go.Proofs.Ytfpnadmpmfcaaaa.wF V.h0)), SV.dt (Dt.cell (Go.Value.int Go.IntKind.i64 (600 : Int)))]), some (Ob.cells 23 [SV.dt (Dt.arr ((3 : Nat)) (V.ms.length) (Go.Proofs.Ytfpnadmpmfcaaaa.wF V.ms))])]) ([some (Ob.cells 25 [SV.dt (Dt.arr ((3 : Nat)) (V.h0.length) (Go.Proofs.Ytfpnadmpmfcaaaa.wF V.h0)), SV.dt (Dt.cell (Go.Value.int Go.IntKind.i64 (600 : Int)))]), some (Ob.cells 23 [SV.dt (Dt.arr ((3 : Nat)) (V.ms.length) (Go.Proofs.Ytfpnadmpmfcaaaa.wF V.ms))])])) ∧
              ((Go.Proofs.Ytfpnadmpmfcaaaa.MfP d V (1 : Nat)) ∧
               ((Rx.leL ([SV.agg [SV.dt (Dt.arr ((3 : Nat)) (V.h.length) (Go.Proofs.Ytfpnadmpmfcaaaa.wF V.h)), SV.dt (Dt.cell (Go.Value.int Go.IntKind.i64 (600 : Int)))], SV.agg [SV.dt (Dt.cell (Go.Value.int Go.IntKind.i64 (5 : Int))), SV.dt (Dt.cell (Go.Value.int Go.IntKind.i64 V.a)), SV.dt (Dt.cell (Go.Value.string (ByteArray.mk #[])))]]) ([SV.agg [SV.dt (Dt.arr ((3 : Nat)) (V.h.length) (Go.Proofs.Ytfpnadmpmfcaaaa.wF V.h)), SV.dt (Dt.cell (Go.Value.int Go.IntKind.i64 (600 : Int)))], SV.agg [SV.dt (Dt.cell (Go.Value.int Go.IntKind.i64 (5 : Int))), SV.dt (Dt.cell (Go.Value.int Go.IntKind.i64 V.a)), SV.dt (Dt.cell (Go.Value.string Go.Proofs.Ytfpnadmpmfcaaaa.noS))]])) ∧
                ((Rx.leObL ([]) ([])) ∧
                 (((Go.Proofs.Ytfpnadmpmfcaaaa.cvErr V.h (600 : Int) (Go.Proofs.Ytfpnadmpmfcaaaa.Wd.mk (5 : Int) V.a Go.Proofs.Ytfpnadmpmfcaaaa.noS) = (0 : Int)) ∧
                   (Go.Proofs.Ytfpnadmpmfcaaaa.Wd.mk (5 : Int) V.b Go.Proofs.Ytfpnadmpmfcaaaa.noS = Go.Proofs.Ytfpnadmpmfcaaaa.findS V.h (Go.Proofs.Ytfpnadmpmfcaaaa.Wd.mk (5 : Int) V.a Go.Proofs.Ytfpnadmpmfcaaaa.noS))) ∧
                  ((Rx.leL ([SV.agg [SV.dt (Dt.arr ((3 : Nat)) (V.h.length) (Go.Proofs.Ytfpnadmpmfcaaaa.wF V.h)), SV.dt (Dt.cell (Go.Value.int Go.IntKind.i64 (600 : Int)))], SV.dt (Dt.arr ((3 : Nat)) ((2 : Nat)) (fun i j => [Rx.Dt.cell (Go.Value.int Go.IntKind.i64 (5 : Int)), Rx.Dt.cell (Go.Value.int Go.IntKind.i64 V.a), Rx.Dt.cell (Go.Value.string (ByteArray.mk #[])), Rx.Dt.cell (Go.Value.int Go.IntKind.i64 (5 : Int)), Rx.Dt.cell (Go.Value.int Go.IntKind.i64 V.b), Rx.Dt.cell (Go.Value.string (ByteArray.mk #[]))].getD (i * (3 : Nat) + j) Rx.undefCell))]) ([SV.agg [SV.dt (Dt.arr ((3 : Nat)) (V.h.length) (Go.Proofs.Ytfpnadmpmfcaaaa.wF V.h)), SV.dt (Dt.cell (Go.Value.int Go.IntKind.i64 (600 : Int)))], SV.dt (Dt.arr ((3 : Nat)) (V.rs.length) (Go.Proofs.Ytfpnadmpmfcaaaa.wF V.rs))])) ∧
                   ((Rx.leObL ([]) ([])) ∧
                    (((V.rs.length ≤ (1000000 : Nat)) ∧
                      ((Go.Proofs.Ytfpnadmpmfcaaaa.colGood V.h (600 : Int) V.rs = Bool.true) ∧
                       ((V.g = Go.Proofs.Ytfpnadmpmfcaaaa.colW V.h V.rs) ∧
                        ([V.A, V.A] = Go.Proofs.Ytfpnadmpmfcaaaa.colR V.h V.rs)))) ∧
                     ((Rx.leL ([SV.agg [SV.dt (Dt.arr ((3 : Nat)) (V.h.length) (Go.Proofs.Ytfpnadmpmfcaaaa.wF V.h)), SV.dt (Dt.cell (Go.Value.int Go.IntKind.i64 (600 : Int)))], SV.dt (Dt.cell (Go.Value.int Go.IntKind.i64 V.a)), SV.dt (Dt.cell (Go.Value.int Go.IntKind.i64 V.b))]) ([SV.agg [SV.dt (Dt.arr ((3 : Nat)) (V.h.length) (Go.Proofs.Ytfpnadmpmfcaaaa.wF V.h)), SV.dt (Dt.cell (Go.Value.int Go.IntKind.i64 (600 : Int)))], SV.dt (Dt.cell (Go.Value.int Go.IntKind.i64 V.a)), SV.dt (Dt.cell (Go.Value.int Go.IntKind.i64 V.b))])) ∧
                      ((Rx.leObL ([]) ([])) ∧
                       (((Go.Proofs.Ytfpnadmpmfcaaaa.checkB V.h (600 : Int) = Bool.true) ∧
                         ((Go.Proofs.Ytfpnadmpmfcaaaa.inS ((Go.Proofs.Ytfpnadmpmfcaaaa.startsS V.h).getD []) V.a = Bool.true) ∧
                          ((Go.Proofs.Ytfpnadmpmfcaaaa.inS ((Go.Proofs.Ytfpnadmpmfcaaaa.startsS V.h).getD []) V.b = Bool.true) ∧
                           ((Go.Proofs.Ytfpnadmpmfcaaaa.at' V.h V.a).k ≠ (9 : Int))))) ∧
                        (((((5 : Int) == (5 : Int) && (V.b == V.b && (Go.Proofs.Ytfpnadmpmfcaaaa.noS == ByteArray.mk #[] && Bool.true))) = Bool.true) →
                          ((((0 : Int) ≤ (0 : Int)) ∧
                            ((0 : Int) < (↑[V.A, V.A].length : Int))) ∧
                           ((((0 : Int) ≤ (1 : Int)) ∧
                             ((1 : Int) < (↑[V.A, V.A].length : Int))) ∧
                            ((((([V.A, V.A].getD (Int.toNat (0 : Int)) Inhabited.default).k == ([V.A, V.A].getD (Int.toNat (1 : Int)) Inhabited.default).k && (([V.A, V.A].getD (Int.toNat (0 : Int)) Inhabited.default).n == ([V.A, V.A].getD (Int.toNat (1 : Int)) Inhabited.default).n && (([V.A, V.A].getD (Int.toNat (0 : Int)) Inhabited.default).s == ([V.A, V.A].getD (Int.toNat (1 : Int)) Inhabited.default).s && Bool.true))) = Bool.true) →
                              ((((0 : Int) ≤ (1 : Int)) ∧
                                ((1 : Int) < (↑V.g.length : Int))) ∧
                               (((((V.g.getD (Int.toNat (1 : Int)) Inhabited.default).n == (1 : Int) + V.p) = Bool.true) →
                                 (True ∧
                                  R (SV.dt (Dt.cell (Go.Value.bool (Decidable.decide ((3 : Int) = (3 : Int)))))) ([]))) ∧
                                ((((V.g.getD (Int.toNat (1 : Int)) Inhabited.default).n == (1 : Int) + V.p) = Bool.false) →
                                 (True ∧
                                  R (SV.dt (Dt.cell (Go.Value.bool Bool.false))) ([])))))) ∧
                             (((([V.A, V.A].getD (Int.toNat (0 : Int)) Inhabited.default).k == ([V.A, V.A].getD (Int.toNat (1 : Int)) Inhabited.default).k && (([V.A, V.A].getD (Int.toNat (0 : Int)) Inhabited.default).n == ([V.A, V.A].getD (Int.toNat (1 : Int)) Inhabited.default).n && (([V.A, V.A].getD (Int.toNat (0 : Int)) Inhabited.default).s == ([V.A, V.A].getD (Int.toNat (1 : Int)) Inhabited.default).s && Bool.true))) = Bool.false) →
                              (True ∧
                               R (SV.dt (Dt.cell (Go.Value.bool Bool.false))) ([]))))))) ∧
                         ((((5 : Int) == (5 : Int) && (V.b == V.b && (Go.Proofs.Ytfpnadmpmfcaaaa.noS == ByteArray.mk #[] && Bool.true))) = Bool.false) →
                          (True ∧
                           R (SV.dt (Dt.cell (Go.Value.bool Bool.false))) ([])))))))))))))))))))))))))))))
theorem recF_ok : recF.Ok Try.prog := by
  intro al ol args obs out h
  unfold recF at h
  simp only at h
  repeat' split at h
  all_goals first
    | (simp only [Option.some.injEq, Prod.mk.injEq] at h; obtain ⟨rfl, rfl, rfl⟩ := h; apply rec_ctr)
    | cases h
theorem moveGF_ok : moveGF.Ok Try.prog := by
  intro al ol args obs out h
  unfold moveGF at h
  simp only at h
  repeat' split at h
  all_goals first
    | (simp only [Option.some.injEq, Prod.mk.injEq] at h; obtain ⟨rfl, rfl, rfl⟩ := h; apply moveG_ctr)
    | cases h
end Go.Proofs.Ytfpnadmpmfcaaaa

open Rx Go
namespace Go.Proofs.Ytfpnadmpmfcaaaa

theorem mfKs_ok (l : List Rw) (n : Int) (V : MfV) : ∀ k ∈ mfKs l n V, k.2.2.Ok Try.prog :=
  all_cons (cF_ok (builtC_ctr _ _ _ _)) (all_cons (cF_ok (recC_ctr _ _ _)) (all_cons (cF_ok (putC_ctr _ _ _ _ _)) (all_cons (cF_ok (pickC_ctr _ _ _)) (all_cons recF_ok (all_cons putGF_ok (all_cons moveGF_ok (all_cons (cF_ok (findC_ctr _ _ _ _)) (all_cons (cF_ok (colC2_ctr _ _ _ _ _)) (all_cons (cF_ok (moveB_ctr _ _ _ _)) all_nil)))))))))
theorem hM_length (d : Bd) (j : Nat) : (((hM d j).length : Nat) : Int) = aM d (j + 1) := by
  unfold hM aM
  rw [List.length_append, xW_length]
  show ((_ + 4 : Nat) : Int) = _
  omega
theorem pM_kinds (d : Bd) (j : Nat) : (at' (pM d j) (aM d j)).k = 9 ∧ (at' (pM d j) (aM d (j + 1))).k = 9 := by
  have hl := hM_length d j
  have h0 : 0 ≤ aM d j := by unfold aM; omega
  constructor
  · unfold pM
    have ha : aM d (j + 1) = aM d j + 4 := by unfold aM; omega
    rw [at_left h0 (by rw [hl]; omega)]
    have := hM_rec (d := d) j 0 (by omega)
    rw [show aM d j + ((0 : Nat) : Int) = aM d j by omega] at this
    rw [this]
    rfl
  · rw [← hl]
    have := at_right (l := hM d j) (m := recW d.ms ((j : Int) + 1)) (i := 0) (by omega)
    rw [show (((hM d j).length : Nat) : Int) + 0 = ((hM d j).length : Nat) by omega] at this
    unfold pM
    rw [this]
    rfl
theorem mfLoop_ok (l : List Rw) (n : Int) (d : Bd) (V : MfV) (j : Nat) : Sound (mfE l n d V) (.loop mfLoop) (mkSt ((mfLF d V).live.h.zip (mfArgs V.a (aM d j) (1 + V.p) (j + 1))) (mfObs (hM d j) V.ms)) ((mfOut d V (j + 1)).map (OutC.st (mfLF d V).live)) := by
  refine loop_fn mixed (mfKs_ok l n V) (fun c hc => by rw [show loopsOf mfLoop = [] from by kernel_rfl] at hc; cases hc) (mfLF d V).live (fun j => mfArgs V.a (aM d j) (1 + V.p) (j + 1)) (fun j => mfObs (hM d j) V.ms) (fun j => mfOut d V (j + 1)) (fun j => 20 - j) (Q := fun j Rn Re => mfLQ l n d V (hM d j) (aM d j) (j + 1) Rn Re) ?_ (fun j Rn Re => by kernel_rfl) j
  intro j post hp
  obtain ⟨hM', hp⟩ := hp
  have hp : post (.exit 0, [.ptr 0 0, vI .i64 V.a, .ki .i64 0, vI .i64 V.b, vI .i64 (1 + V.p)], [some (.cells 25 [wD V.h, vI .i64 600])]) := hp
  obtain ⟨hb, hlen, hms, hVa, hVp, hVb, hVh, hi1, hi2⟩ := hM'
  have hi2 : ((j : Int) + 1) ≤ 2 + V.p := by have := hi2; omega
  unfold mfLQ
  rw [hms]
  simp only [rdF_wF, decide_eq_true_eq, decide_eq_false_iff_not, leL_self, leObL_self, true_and]
  refine ⟨fun h => ?_, fun h => ?_⟩
  · have hj9 : j ≤ 9 := by omega
    have hl := hM_length d j
    have e1 : ((j + 1 : Nat) : Int) = (j : Int) + 1 := by omega
    have hme := moved_eq d j
    have hst := pM_starts hb hj9
    obtain ⟨k1, k2⟩ := pM_kinds d j
    have hrec : recW d.ms ((j + 1 : Nat) : Int) = recW d.ms ((j : Int) + 1) := by rw [e1]
    have hne : aM d j ≠ aM d (j + 1) := by unfold aM; omega
    rw [hrec, hl]
    refine ⟨⟨⟨by omega, by omega⟩, hb.pos⟩, ⟨by show ((4 : Nat) : Int) ≤ _; omega, hM_put hb hlen hj9⟩, ⟨pM_check hb hlen hj9, ⟨hst j (by omega), hst (j + 1) (by omega), k1, k2, hne⟩, ?_⟩, ⟨by show (-9223372036854775808 : Int) ≤ _; omega, by show _ ≤ (9223372036854775807 : Int); omega⟩, j + 1, by omega, ?_, ?_, ⟨hb, hlen, hms, hVa, hVp, hVb, hVh, by omega, by omega⟩, hp⟩
    · show checkB (movedW (pM d j) (aM d j) (aM d (j + 1))) 600 = true
      rw [hme]
      exact hM_check hb hlen (by omega)
    · refine ⟨leS_refl _, leS_refl _, leS_refl _, ?_, leS_refl _, leS_refl _, ?_, trivial⟩
      · exact (leS_dki _ _ _).2 rfl
      · rw [leS_int]; omega
    · show leOO (mfObs (movedW (pM d j) (aM d j) (aM d (j + 1))) d.ms) (mfObs (hM d (j + 1)) d.ms)
      rw [hme]
      exact leOO_refl _
  · have hj : (1 + V.p).toNat = j := by omega
    rw [hj] at hVb hVh
    refine Outs.mk hp ?_ ?_
    · rw [hVb]
      exact ⟨leS_refl _, leS_refl _, (leS_dki _ _ _).2 rfl, leS_refl _, leS_refl _, trivial⟩
    · rw [hVh]
      exact leOO_refl _
theorem mf_ctr (l : List Rw) (n : Int) : Ctr Try.prog 9 [rD l, vI .i64 n] [] (.need (rawOk l ∧ isInt n) (.ret (vB true, []))) := by
  obtain ⟨d, hd⟩ : ∃ d : Bd, d = dAt l 15 := ⟨_, rfl⟩
  obtain ⟨p, hpk⟩ : ∃ p : Int, p = pickedS n 6 := ⟨_, rfl⟩
  obtain ⟨rs, hrs⟩ : ∃ rs : List Wd, rs = [⟨5, aM d 0, noS⟩, ⟨5, aM d (1 + p).toNat, noS⟩] := ⟨_, rfl⟩
  obtain ⟨V, hV⟩ : ∃ V : MfV, V = ⟨d.ws, d.ms, recW d.ms 0, hM d 0, aM d 0, p, hM d (1 + p).toNat, aM d (1 + p).toNat, ⟨5, aM d (1 + p).toNat, noS⟩, rs, colW (hM d (1 + p).toNat) rs, colR (hM d (1 + p).toNat) rs, (colR (hM d (1 + p).toNat) rs).getD 0 default⟩ := ⟨_, rfl⟩
  have hlok : (mfE l n d V).Lok (loopsOf (bodyOf Try.f9)) := by
    rw [show loopsOf (bodyOf Try.f9) = [mfLoop] from by kernel_rfl]
    refine fnE_Lok (all_cons (all_cons (fun _ => ?_) all_nil) all_nil)
    intro svs obl args obs out h
    simp only [mfLF, Option.some.injEq, Prod.mk.injEq] at h
    obtain ⟨rfl, rfl, rfl⟩ := h
    have := mfLoop_ok l n d V 0
    have e1 : V.a = aM d 0 := by rw [hV]
    have e2 : V.h0 = hM d 0 := by rw [hV]
    rw [← e1, ← e2] at this
    exact this
  refine ctr_fn mixed (N := 135) (fn := Try.f9) (c := bodyOf Try.f9) (ks := mfKs l n V) (ls := [mfLF d V]) (by kernel_rfl) (by kernel_rfl) (by kernel_rfl) (mfKs_ok l n V) fin0 hlok (by kernel_rfl) (Q := mfQ l n d V) (fun post hp => ?_) (fun R => by kernel_rfl)
  obtain ⟨⟨hr, hn⟩, hp⟩ := hp
  have hp : post (vB true, []) := hp
  obtain ⟨hbi, hw5, hm2⟩ := dAt_bi hr 15
  rw [← hd] at hbi hw5 hm2
  have hlen : d.ws.length ≤ 100 := by omega
  have hpb : 0 ≤ p ∧ p < 6 := by
    have := picked_lt hn (m := 6) (by omega)
    rw [hpk]
    exact this
  have hws : d.ws = (builtD l 15).ws := by rw [hd]; rfl
  have hms : d.ms = (builtD l 15).ms := by rw [hd]; rfl
  have hi10 : (1 + p).toNat ≤ 10 := by omega
  have hx0 : xW d 0 = d.ws := by simp [xW, xBs, Bd.ws]
  have h00 : hM d 0 = d.ws ++ recW d.ms 0 := by unfold hM; rw [hx0]; rfl
  have ha0 : aM d 0 = d.ws.length := by unfold aM; omega
  have hput : putGood d.ws 600 (recW d.ms 0) = true := by
    have hr0 := recW_blk d.ms (k := 0) (by omega) (by omega)
    refine put_good hbi hr0.1 (fun w hw => ?_) (by omega) (by omega) (by show (d.ws.length : Int) + ((4 : Nat) : Int) ≤ 600; omega)
    rw [hr0.2] at hw
    simp at hw
    rw [hw]
    exact pickW_mem ⟨by decide, by decide⟩ hbi.pos
  have hv0 := hM_val hbi hlen hi10 (Nat.zero_le _)
  have hfs := hM_findS (d := d) hlen (Nat.zero_le (1 + p).toNat)
  have hcv : cvErr (hM d (1 + p).toNat) 600 ⟨5, aM d 0, noS⟩ = 0 := by rw [cvErr, if_pos (hM_check hbi hlen hi10), if_pos hv0]
  obtain ⟨c1, c2, c3, c4⟩ := hM_col hbi hlen hi10 0 (Nat.zero_le _)
  rw [← hrs] at c1 c2 c3 c4
  have hst := hM_starts hbi hi10
  have s0 := hst 0 (Nat.zero_le _)
  have s1 := hst (1 + p).toNat (Nat.le_refl _)
  have k0 : (at' (hM d (1 + p).toNat) (aM d 0)).k ≠ 9 := by rw [hM_mov (by omega)]; show (10 : Int) ≠ 9; decide
  have hl2 : rs.length = 2 := by rw [hrs]; rfl
  have hlit : leL [.agg [.dt (.arr 3 (hM d (1 + p).toNat).length (wF (hM d (1 + p).toNat))), vI .i64 600], .dt (.arr 3 2 (litF (cells3 [⟨5, aM d 0, noS⟩, ⟨5, aM d (1 + p).toNat, noS⟩])))] [hS (hM d (1 + p).toNat) 600, wD rs] := by
    rw [hrs]
    exact ⟨leS_refl _, lit_le (m := [⟨5, aM d 0, noS⟩, ⟨5, aM d (1 + p).toNat, noS⟩]) rfl, trivial⟩
  have hMf : MfP d V 1 := by
    subst hV
    exact ⟨hbi, hlen, rfl, rfl, hpb, rfl, rfl, by omega, by show ((1 : Nat) : Int) ≤ 2 + p; omega⟩
  have hn1 : (noS == ByteArray.mk #[]) = true := str_self noS
  have g0 : ∀ A : Wd, [A, A].getD (Int.toNat 0) default = A := fun _ => rfl
  have g1 : ∀ A : Wd, [A, A].getD (Int.toNat 1) default = A := fun _ => rfl
  have g2 : ∀ A : Wd, (([A, A].length : Nat) : Int) = 2 := fun _ => rfl
  have e4 : (colW (hM d (1 + p).toNat) rs).getD (Int.toNat 1) default = at' (colW (hM d (1 + p).toNat) rs) 1 := rfl
  have hn4 : (at' (colW (hM d (1 + p).toNat) rs) 1).n = 1 + p := by rw [c4]; omega
  unfold mfQ
  have hMf' := hMf
  rw [hV] at hMf'
  subst hV
  simp only [hMf', g0, g1, g2, e4, hn4, hn1, str_self, beq_self_eq_true, decide_true, Bool.and_self, Bool.and_true, Bool.true_eq_false, Bool.false_eq_true, false_implies, true_implies, and_true, true_and, leL_self, leObL_self, leS_self]
  refine ⟨⟨hr, by omega, by omega, hws, hms⟩, ⟨⟨by decide, by decide⟩, hbi.pos⟩, ⟨by show ((4 : Nat) : Int) ≤ _; omega, hput, h00, ha0⟩, ⟨hn, by decide, hpk⟩, ⟨by show (-9223372036854775808 : Int) ≤ _; omega, by show _ ≤ (9223372036854775807 : Int); omega⟩, ⟨(leS_dki _ _ _).2 rfl, by rw [leS_int]; rfl⟩, leOO_refl _, leL_refl _, ⟨hcv, hfs.symm⟩, hlit, ⟨by omega, c1, c2.symm⟩, ⟨hM_check hbi hlen hi10, (inS_iff _ _).2 ⟨_, s0.2, s0.1.symm⟩, (inS_iff _ _).2 ⟨_, s1.2, s1.1.symm⟩, k0⟩, ⟨by omega, by omega⟩, ⟨by omega, by omega⟩, ⟨by omega, by omega⟩, gives1 hp (leS_refl _)⟩
end Go.Proofs.Ytfpnadmpmfcaaaa
