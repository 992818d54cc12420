/- Move; MoveFinds. -/
import Derived.Test.YtfpnadmpmfcaaaaHpQ
open Rx Go
namespace Go.Proofs.Ytfpnadmpmfcaaaa

/-! ## Move -/
def nilW : Wd := ⟨3, 0, noS⟩
def fillN (l : List Wd) (a : Int) : Nat → List Wd
  | 0 => l
  | i + 1 => (fillN l a i).set (a + 3 + i).toNat nilW
def mov0 (l : List Wd) (a b : Int) : List Wd := (l.set a.toNat ⟨10, b, noS⟩).set (a + 1).toNat ⟨1, 0, noS⟩
def movedW (l : List Wd) (a b : Int) : List Wd := fillN (mov0 l a b) a (at' l (a + 2)).n.toNat
def mGood (l : List Wd) (a b : Int) : Prop := inS ((startsS l).getD []) a = true ∧ inS ((startsS l).getD []) b = true ∧ (at' l a).k = 9 ∧ (at' l b).k = 9 ∧ a ≠ b
def moveGO (l : List Wd) (lim a b : Int) : T Out := .need (checkB l lim = true ∧ mGood l a b ∧ checkB (movedW l a b) lim = true) (.ret (.tup [hS (movedW l a b) lim, .ki .i64 0], []))
def moveBO (l : List Wd) (lim a b : Int) : T Out := .need (checkB l lim = true ∧ inS ((startsS l).getD []) a = true ∧ inS ((startsS l).getD []) b = true ∧ (at' l a).k ≠ 9) (.ret (.tup [noH, .ki .i64 3], []))
def mlArgs (a n : Int) (i : Nat) : List SV := [vI .i64 a, .ptr 0 0, .ptr 1 0, vI .i64 n, vI .i64 i]
def mlObs (lim : Int) (l : List Wd) : List (Option Ob) := [some (.cells 25 [.junk, .junk]), some (.cells 25 [.nm 2, vI .i64 lim]), some (wR l)]
def mlOut (lim a n : Int) (l : List Wd) (i : Nat) : T OutC := .need (0 ≤ a ∧ 0 ≤ n ∧ n ≤ 6 ∧ a + 3 + n ≤ l.length ∧ l.length ≤ 60000 ∧ i ≤ n) (.ret (.exit 0, [.ptr 0 0, .ptr 1 0], mlObs lim (fillN l a n.toNat)))
def mlLF : LF := ⟨11, ⟨[1, 6, 11, 85, 86], [6, 11], []⟩, fun svs ol => match svs, ol with
  | [a, _, _, n, _], [_, some (.cells _ [_, lim]), r] => match rdI a, rdI n, rdI lim, rdRow r with
    | some a, some n, some lim, some l => some (mlArgs a n 0, mlObs lim l, mlOut lim a n l 0)
    | _, _, _, _ => none
  | _, _ => none⟩
def mKs : List (Nat × Nat × FC) := [(1, 1, checkF), (4, 2, startsFC), (7, 2, cloneF), (15, 1, checkF)]
noncomputable def mE : Env := fnE Try.prog 103 0 mKs [mlLF]
noncomputable def mlLoop : Code := (loopIn 11 (bodyOf Try.f22)).getD .skip

/-! ## what is made anew -/
def recW (ms : List Wd) (k : Int) : List Wd := [⟨9, 0, noS⟩, ⟨1, k, noS⟩, ⟨1, 1, noS⟩, pickW ms k]
def recO (ms : List Wd) (k : Int) : T Out := .need (isInt k ∧ 0 < ms.length) (.ret (wD (recW ms k), [some (.cells 23 [wD ms])]))
def recKs : List (Nat × Nat × FC) := [(1, 8, pickedF)]
noncomputable def recE : Env := fnE Try.prog 16 1 recKs []

def mlQ (lim a n : Int) (l : List Wd) (i : Nat) (Rn : List SV → List (Option Ob) → Prop) (Re : Ex → List SV → List (Option Ob) → Prop) : Prop :=
(((Decidable.decide ((↑i : Int) < n) = Bool.true) →
 (((Rx.lo Go.IntKind.i64 ≤ a + (3 : Int)) ∧
   (a + (3 : Int) ≤ Rx.hi Go.IntKind.i64)) ∧
  (((Rx.lo Go.IntKind.i64 ≤ a + (3 : Int) + (↑i : Int)) ∧
    (a + (3 : Int) + (↑i : Int) ≤ Rx.hi Go.IntKind.i64)) ∧
   ((((0 : Int) ≤ a + (3 : Int) + (↑i : Int)) ∧
     (a + (3 : Int) + (↑i : Int) < (↑l.length : Int))) ∧
    (((a + (3 : Int) + (↑i : Int)).toNat < l.length) ∧
     (((Rx.lo Go.IntKind.i64 ≤ (↑i : Int) + (1 : Int)) ∧
       ((↑i : Int) + (1 : Int) ≤ Rx.hi Go.IntKind.i64)) ∧
      Rn ([SV.dt (Dt.cell (Go.Value.int Go.IntKind.i64 a)), SV.ptr 0 0, SV.ptr 1 0, SV.dt (Dt.cell (Go.Value.int Go.IntKind.i64 n)), SV.dt (Dt.cell (Go.Value.int Go.IntKind.i64 ((↑i : Int) + (1 : Int))))]) ([some (Ob.cells 25 [SV.junk, SV.junk]), some (Ob.cells 25 [SV.nm 2, SV.dt (Dt.cell (Go.Value.int Go.IntKind.i64 lim))]), some (Ob.row 30 3 (l.length) (Rx.setRow (Go.Proofs.Ytfpnadmpmfcaaaa.wF l) (a + (3 : Int) + (↑i : Int)).toNat (0 : Nat) [Rx.Dt.cell (Go.Value.int Go.IntKind.i64 (3 : Int)), Rx.Dt.cell (Go.Value.int Go.IntKind.i64 (0 : Int)), Rx.Dt.cell (Go.Value.string (ByteArray.mk #[]))]))]))))))) ∧
((Decidable.decide ((↑i : Int) < n) = Bool.false) →
 Re (Rx.Ex.exit (0 : Nat)) ([SV.ptr 0 0, SV.ptr 1 0]) ([some (Ob.cells 25 [SV.junk, SV.junk]), some (Ob.cells 25 [SV.nm 2, SV.dt (Dt.cell (Go.Value.int Go.IntKind.i64 lim))]), some (Ob.row 30 3 (l.length) (Go.Proofs.Ytfpnadmpmfcaaaa.wF l))])))
def mQ (l : List Wd) (lim a b : Int) (R : SV → List (Option Ob) → Prop) : Prop :=
((Rx.leL ([SV.agg [SV.dt (Dt.arr ((3 : Nat)) (l.length) (Go.Proofs.Ytfpnadmpmfcaaaa.wF l)), SV.dt (Dt.cell (Go.Value.int Go.IntKind.i64 lim))]]) ([SV.agg [SV.dt (Dt.arr ((3 : Nat)) ((Go.Proofs.Ytfpnadmpmfcaaaa.rdF l.length (Go.Proofs.Ytfpnadmpmfcaaaa.wF l)).length) (Go.Proofs.Ytfpnadmpmfcaaaa.wF (Go.Proofs.Ytfpnadmpmfcaaaa.rdF l.length (Go.Proofs.Ytfpnadmpmfcaaaa.wF l)))), SV.dt (Dt.cell (Go.Value.int Go.IntKind.i64 lim))]])) ∧
((Rx.leObL ([]) ([])) ∧
 (((Go.Proofs.Ytfpnadmpmfcaaaa.checkB (Go.Proofs.Ytfpnadmpmfcaaaa.rdF l.length (Go.Proofs.Ytfpnadmpmfcaaaa.wF l)) lim = Bool.true) →
   (((((0 : Int) != (0 : Int)) = Bool.true) →
     (True ∧
      R (SV.tup [SV.agg [SV.dt (Dt.cell (Go.Value.slice Option.none (0 : Nat) (0 : Nat))), SV.ki Go.IntKind.i64 ((0 : Int))], SV.dt (Dt.cell (Go.Value.int Go.IntKind.i64 (0 : Int)))]) ([]))) ∧
    ((((0 : Int) != (0 : Int)) = Bool.false) →
     ((Rx.leL ([SV.dt (Dt.arr ((3 : Nat)) (l.length) (Go.Proofs.Ytfpnadmpmfcaaaa.wF l))]) ([SV.dt (Dt.arr ((3 : Nat)) ((Go.Proofs.Ytfpnadmpmfcaaaa.rdF l.length (Go.Proofs.Ytfpnadmpmfcaaaa.wF l)).length) (Go.Proofs.Ytfpnadmpmfcaaaa.wF (Go.Proofs.Ytfpnadmpmfcaaaa.rdF l.length (Go.Proofs.Ytfpnadmpmfcaaaa.wF l))))])) ∧
      ((Rx.leObL ([]) ([])) ∧
       ((Go.Proofs.Ytfpnadmpmfcaaaa.fitsW (Go.Proofs.Ytfpnadmpmfcaaaa.rdF l.length (Go.Proofs.Ytfpnadmpmfcaaaa.wF l))) ∧
        ((((Go.Proofs.Ytfpnadmpmfcaaaa.startsS (Go.Proofs.Ytfpnadmpmfcaaaa.rdF l.length (Go.Proofs.Ytfpnadmpmfcaaaa.wF l))).isSome = Bool.true) →
          ((((!Rx.toB ((Rx.mget (Rx.Ty.int Go.IntKind.i64) (Go.Proofs.Ytfpnadmpmfcaaaa.stM ((Go.Proofs.Ytfpnadmpmfcaaaa.startsS (Go.Proofs.Ytfpnadmpmfcaaaa.rdF l.length (Go.Proofs.Ytfpnadmpmfcaaaa.wF l))).getD [])) a).getD Rx.Ty.bool.dflt)) = Bool.true) →
            (True ∧
             R (SV.tup [SV.agg [SV.dt (Dt.cell (Go.Value.slice Option.none (0 : Nat) (0 : Nat))), SV.ki Go.IntKind.i64 ((0 : Int))], SV.dt (Dt.cell (Go.Value.int Go.IntKind.i64 (3 : Int)))]) ([]))) ∧
           (((!Rx.toB ((Rx.mget (Rx.Ty.int Go.IntKind.i64) (Go.Proofs.Ytfpnadmpmfcaaaa.stM ((Go.Proofs.Ytfpnadmpmfcaaaa.startsS (Go.Proofs.Ytfpnadmpmfcaaaa.rdF l.length (Go.Proofs.Ytfpnadmpmfcaaaa.wF l))).getD [])) a).getD Rx.Ty.bool.dflt)) = Bool.false) →
            ((((!Rx.toB ((Rx.mget (Rx.Ty.int Go.IntKind.i64) (Go.Proofs.Ytfpnadmpmfcaaaa.stM ((Go.Proofs.Ytfpnadmpmfcaaaa.startsS (Go.Proofs.Ytfpnadmpmfcaaaa.rdF l.length (Go.Proofs.Ytfpnadmpmfcaaaa.wF l))).getD [])) b).getD Rx.Ty.bool.dflt)) = Bool.true) →
              (True ∧
               R (SV.tup [SV.agg [SV.dt (Dt.cell (Go.Value.slice Option.none (0 : Nat) (0 : Nat))), SV.ki Go.IntKind.i64 ((0 : Int))], SV.dt (Dt.cell (Go.Value.int Go.IntKind.i64 (3 : Int)))]) ([]))) ∧
             (((!Rx.toB ((Rx.mget (Rx.Ty.int Go.IntKind.i64) (Go.Proofs.Ytfpnadmpmfcaaaa.stM ((Go.Proofs.Ytfpnadmpmfcaaaa.startsS (Go.Proofs.Ytfpnadmpmfcaaaa.rdF l.length (Go.Proofs.Ytfpnadmpmfcaaaa.wF l))).getD [])) b).getD Rx.Ty.bool.dflt)) = Bool.false) →
              ((((0 : Int) ≤ a) ∧
                (a < (↑l.length : Int))) ∧
               (((((l.getD a.toNat Inhabited.default).k != (9 : Int)) = Bool.true) →
                 (True ∧
                  R (SV.tup [SV.agg [SV.dt (Dt.cell (Go.Value.slice Option.none (0 : Nat) (0 : Nat))), SV.ki Go.IntKind.i64 ((0 : Int))], SV.dt (Dt.cell (Go.Value.int Go.IntKind.i64 (3 : Int)))]) ([]))) ∧
                ((((l.getD a.toNat Inhabited.default).k != (9 : Int)) = Bool.false) →
                 ((((0 : Int) ≤ b) ∧
                   (b < (↑l.length : Int))) ∧
                  (((((l.getD b.toNat Inhabited.default).k != (9 : Int)) = Bool.true) →
                    (True ∧
                     R (SV.tup [SV.agg [SV.dt (Dt.cell (Go.Value.slice Option.none (0 : Nat) (0 : Nat))), SV.ki Go.IntKind.i64 ((0 : Int))], SV.dt (Dt.cell (Go.Value.int Go.IntKind.i64 (3 : Int)))]) ([]))) ∧
                   ((((l.getD b.toNat Inhabited.default).k != (9 : Int)) = Bool.false) →
                    ((((a == b) = Bool.true) →
                      (True ∧
                       R (SV.tup [SV.agg [SV.dt (Dt.cell (Go.Value.slice Option.none (0 : Nat) (0 : Nat))), SV.ki Go.IntKind.i64 ((0 : Int))], SV.dt (Dt.cell (Go.Value.int Go.IntKind.i64 (3 : Int)))]) ([]))) ∧
                     (((a == b) = Bool.false) →
                      ((Rx.leL ([SV.dt (Dt.arr ((3 : Nat)) (l.length) (Go.Proofs.Ytfpnadmpmfcaaaa.wF l))]) ([SV.dt (Dt.arr ((3 : Nat)) ((Go.Proofs.Ytfpnadmpmfcaaaa.rdF l.length (Go.Proofs.Ytfpnadmpmfcaaaa.wF l)).length) (Go.Proofs.Ytfpnadmpmfcaaaa.wF (Go.Proofs.Ytfpnadmpmfcaaaa.rdF l.length (Go.Proofs.Ytfpnadmpmfcaaaa.wF l))))])) ∧
                       ((Rx.leObL ([]) ([])) ∧
                        ((Go.Proofs.Ytfpnadmpmfcaaaa.fitsW (Go.Proofs.Ytfpnadmpmfcaaaa.rdF l.length (Go.Proofs.Ytfpnadmpmfcaaaa.wF l))) ∧
                         (((Rx.lo Go.IntKind.i64 ≤ a + (2 : Int)) ∧
                           (a + (2 : Int) ≤ Rx.hi Go.IntKind.i64)) ∧
                          ((((0 : Int) ≤ a + (2 : Int)) ∧
                            (a + (2 : Int) < (↑(Go.Proofs.Ytfpnadmpmfcaaaa.rdF l.length (Go.Proofs.Ytfpnadmpmfcaaaa.wF l)).length : Int))) ∧
                           (((a + (2 : Int)).toNat < (Go.Proofs.Ytfpnadmpmfcaaaa.rdF l.length (Go.Proofs.Ytfpnadmpmfcaaaa.wF l)).length) ∧
                            (((Rx.lo Go.IntKind.i64 ≤ a + (1 : Int)) ∧
                              (a + (1 : Int) ≤ Rx.hi Go.IntKind.i64)) ∧
                             ((((0 : Int) ≤ a) ∧
                               (a < (↑(Go.Proofs.Ytfpnadmpmfcaaaa.rdF l.length (Go.Proofs.Ytfpnadmpmfcaaaa.wF l)).length : Int))) ∧
                              ((a.toNat < (Go.Proofs.Ytfpnadmpmfcaaaa.rdF l.length (Go.Proofs.Ytfpnadmpmfcaaaa.wF l)).length) ∧
                               ((((0 : Int) ≤ a + (1 : Int)) ∧
                                 (a + (1 : Int) < (↑(Go.Proofs.Ytfpnadmpmfcaaaa.rdF l.length (Go.Proofs.Ytfpnadmpmfcaaaa.wF l)).length : Int))) ∧
                                (((a + (1 : Int)).toNat < (Go.Proofs.Ytfpnadmpmfcaaaa.rdF l.length (Go.Proofs.Ytfpnadmpmfcaaaa.wF l)).length) ∧
                                 (((Rx.leS (SV.dt (Dt.cell (Go.Value.int Go.IntKind.i64 a))) (SV.dt (Dt.cell (Go.Value.int Go.IntKind.i64 a)))) ∧
                                   ((Rx.leS (SV.ptr 0 0) (SV.ptr 0 0)) ∧
                                    ((Rx.leS (SV.ptr 1 0) (SV.ptr 1 0)) ∧
                                     ((Rx.leS (SV.dt (Dt.cell (Go.Value.int Go.IntKind.i64 ((Go.Proofs.Ytfpnadmpmfcaaaa.rdF l.length (Go.Proofs.Ytfpnadmpmfcaaaa.wF l)).getD (a + (2 : Int)).toNat Inhabited.default).n))) (SV.dt (Dt.cell (Go.Value.int Go.IntKind.i64 ((Go.Proofs.Ytfpnadmpmfcaaaa.rdF l.length (Go.Proofs.Ytfpnadmpmfcaaaa.wF l)).getD (a + (2 : Int)).toNat Inhabited.default).n)))) ∧
                                      ((Rx.leS (SV.dt (Dt.cell (Go.Value.int Go.IntKind.i64 (0 : Int)))) (SV.dt (Dt.cell (Go.Value.int Go.IntKind.i64 (↑(0 : Nat) : Int))))) ∧
                                       True))))) ∧
                                  ((Rx.leOO ([some (Ob.cells 25 [SV.dt (Dt.cell (Go.Value.slice Option.none (0 : Nat) (0 : Nat))), SV.ki Go.IntKind.i64 ((0 : Int))]), some (Ob.cells 25 [SV.nm 2, SV.dt (Dt.cell (Go.Value.int Go.IntKind.i64 lim))]), some (Ob.row 30 3 ((Go.Proofs.Ytfpnadmpmfcaaaa.rdF l.length (Go.Proofs.Ytfpnadmpmfcaaaa.wF l)).length) (Rx.setRow (Rx.setRow (Go.Proofs.Ytfpnadmpmfcaaaa.wF (Go.Proofs.Ytfpnadmpmfcaaaa.rdF l.length (Go.Proofs.Ytfpnadmpmfcaaaa.wF l))) a.toNat (0 : Nat) [Rx.Dt.cell (Go.Value.int Go.IntKind.i64 (10 : Int)), Rx.Dt.cell (Go.Value.int Go.IntKind.i64 b), Rx.Dt.cell (Go.Value.string (ByteArray.mk #[]))]) (a + (1 : Int)).toNat (0 : Nat) [Rx.Dt.cell (Go.Value.int Go.IntKind.i64 (1 : Int)), Rx.Dt.cell (Go.Value.int Go.IntKind.i64 (0 : Int)), Rx.Dt.cell (Go.Value.string (ByteArray.mk #[]))]))]) ([some (Ob.cells 25 [SV.junk, SV.junk]), some (Ob.cells 25 [SV.nm 2, SV.dt (Dt.cell (Go.Value.int Go.IntKind.i64 lim))]), some (Ob.row 30 3 ((Go.Proofs.Ytfpnadmpmfcaaaa.rdF (Go.Proofs.Ytfpnadmpmfcaaaa.rdF l.length (Go.Proofs.Ytfpnadmpmfcaaaa.wF l)).length (Rx.setRow (Rx.setRow (Go.Proofs.Ytfpnadmpmfcaaaa.wF (Go.Proofs.Ytfpnadmpmfcaaaa.rdF l.length (Go.Proofs.Ytfpnadmpmfcaaaa.wF l))) a.toNat (0 : Nat) [Rx.Dt.cell (Go.Value.int Go.IntKind.i64 (10 : Int)), Rx.Dt.cell (Go.Value.int Go.IntKind.i64 b), Rx.Dt.cell (Go.Value.string (ByteArray.mk #[]))]) (a + (1 : Int)).toNat (0 : Nat) [Rx.Dt.cell (Go.Value.int Go.IntKind.i64 (1 : Int)), Rx.Dt.cell (Go.Value.int Go.IntKind.i64 (0 : Int)), Rx.Dt.cell (Go.Value.string (ByteArray.mk #[]))])).length) (Go.Proofs.Ytfpnadmpmfcaaaa.wF (Go.Proofs.Ytfpnadmpmfcaaaa.rdF (Go.Proofs.Ytfpnadmpmfcaaaa.rdF l.length (Go.Proofs.Ytfpnadmpmfcaaaa.wF l)).length (Rx.setRow (Rx.setRow (Go.Proofs.Ytfpnadmpmfcaaaa.wF (Go.Proofs.Ytfpnadmpmfcaaaa.rdF l.length (Go.Proofs.Ytfpnadmpmfcaaaa.wF l))) a.toNat (0 : Nat) [Rx.Dt.cell (Go.Value.int Go.IntKind.i64 (10 : Int)), Rx.Dt.cell (Go.Value.int Go.IntKind.i64 b), Rx.Dt.cell (Go.Value.string (ByteArray.mk #[]))]) (a + (1 : Int)).toNat (0 : Nat) [Rx.Dt.cell (Go.Value.int Go.IntKind.i64 (1 : Int)), Rx.Dt.cell (Go.Value.int Go.IntKind.i64 (0 : Int)), Rx.Dt.cell (Go.Value.string (ByteArray.mk #[]))]))))])) ∧
                                   ((((0 : Int) ≤ a) ∧
                                     (((0 : Int) ≤ ((Go.Proofs.Ytfpnadmpmfcaaaa.rdF l.length (Go.Proofs.Ytfpnadmpmfcaaaa.wF l)).getD (a + (2 : Int)).toNat Inhabited.default).n) ∧
                                      ((((Go.Proofs.Ytfpnadmpmfcaaaa.rdF l.length (Go.Proofs.Ytfpnadmpmfcaaaa.wF l)).getD (a + (2 : Int)).toNat Inhabited.default).n ≤ (6 : Int)) ∧
                                       ((a + (3 : Int) + ((Go.Proofs.Ytfpnadmpmfcaaaa.rdF l.length (Go.Proofs.Ytfpnadmpmfcaaaa.wF l)).getD (a + (2 : Int)).toNat Inhabited.default).n ≤ (↑(Go.Proofs.Ytfpnadmpmfcaaaa.rdF (Go.Proofs.Ytfpnadmpmfcaaaa.rdF l.length (Go.Proofs.Ytfpnadmpmfcaaaa.wF l)).length (Rx.setRow (Rx.setRow (Go.Proofs.Ytfpnadmpmfcaaaa.wF (Go.Proofs.Ytfpnadmpmfcaaaa.rdF l.length (Go.Proofs.Ytfpnadmpmfcaaaa.wF l))) a.toNat (0 : Nat) [Rx.Dt.cell (Go.Value.int Go.IntKind.i64 (10 : Int)), Rx.Dt.cell (Go.Value.int Go.IntKind.i64 b), Rx.Dt.cell (Go.Value.string (ByteArray.mk #[]))]) (a + (1 : Int)).toNat (0 : Nat) [Rx.Dt.cell (Go.Value.int Go.IntKind.i64 (1 : Int)), Rx.Dt.cell (Go.Value.int Go.IntKind.i64 (0 : Int)), Rx.Dt.cell (Go.Value.string (ByteArray.mk #[]))])).length : Int)) ∧
                                        (((Go.Proofs.Ytfpnadmpmfcaaaa.rdF (Go.Proofs.Ytfpnadmpmfcaaaa.rdF l.length (Go.Proofs.Ytfpnadmpmfcaaaa.wF l)).length (Rx.setRow (Rx.setRow (Go.Proofs.Ytfpnadmpmfcaaaa.wF (Go.Proofs.Ytfpnadmpmfcaaaa.rdF l.length (Go.Proofs.Ytfpnadmpmfcaaaa.wF l))) a.toNat (0 : Nat) [Rx.Dt.cell (Go.Value.int Go.IntKind.i64 (10 : Int)), Rx.Dt.cell (Go.Value.int Go.IntKind.i64 b), Rx.Dt.cell (Go.Value.string (ByteArray.mk #[]))]) (a + (1 : Int)).toNat (0 : Nat) [Rx.Dt.cell (Go.Value.int Go.IntKind.i64 (1 : Int)), Rx.Dt.cell (Go.Value.int Go.IntKind.i64 (0 : Int)), Rx.Dt.cell (Go.Value.string (ByteArray.mk #[]))])).length ≤ (60000 : Nat)) ∧
                                         ((↑(0 : Nat) : Int) ≤ ((Go.Proofs.Ytfpnadmpmfcaaaa.rdF l.length (Go.Proofs.Ytfpnadmpmfcaaaa.wF l)).getD (a + (2 : Int)).toNat Inhabited.default).n)))))) ∧
                                    ((Rx.leL ([SV.agg [SV.dt (Dt.arr ((3 : Nat)) ((Go.Proofs.Ytfpnadmpmfcaaaa.fillN (Go.Proofs.Ytfpnadmpmfcaaaa.rdF (Go.Proofs.Ytfpnadmpmfcaaaa.rdF l.length (Go.Proofs.Ytfpnadmpmfcaaaa.wF l)).length (Rx.setRow (Rx.setRow (Go.Proofs.Ytfpnadmpmfcaaaa.wF (Go.Proofs.Ytfpnadmpmfcaaaa.rdF l.length (Go.Proofs.Ytfpnadmpmfcaaaa.wF l))) a.toNat (0 : Nat) [Rx.Dt.cell (Go.Value.int Go.IntKind.i64 (10 : Int)), Rx.Dt.cell (Go.Value.int Go.IntKind.i64 b), Rx.Dt.cell (Go.Value.string (ByteArray.mk #[]))]) (a + (1 : Int)).toNat (0 : Nat) [Rx.Dt.cell (Go.Value.int Go.IntKind.i64 (1 : Int)), Rx.Dt.cell (Go.Value.int Go.IntKind.i64 (0 : Int)), Rx.Dt.cell (Go.Value.string (ByteArray.mk #[]))])) a ((Go.Proofs.Ytfpnadmpmfcaaaa.rdF l.length (Go.Proofs.Ytfpnadmpmfcaaaa.wF l)).getD (a + (2 : Int)).toNat Inhabited.default).n.toNat).length) (Go.Proofs.Ytfpnadmpmfcaaaa.wF (Go.Proofs.Ytfpnadmpmfcaaaa.fillN (Go.Proofs.Ytfpnadmpmfcaaaa.rdF (Go.Proofs.Ytfpnadmpmfcaaaa.rdF l.length (Go.Proofs.Ytfpnadmpmfcaaaa.wF l)).length (Rx.setRow (Rx.setRow (Go.Proofs.Ytfpnadmpmfcaaaa.wF (Go.Proofs.Ytfpnadmpmfcaaaa.rdF l.length (Go.Proofs.Ytfpnadmpmfcaaaa.wF l))) a.toNat (0 : Nat) [Rx.Dt.cell (Go.Value.int Go.IntKind.i64 (10 : Int)), Rx.Dt.cell (Go.Value.int Go.IntKind.i64 b), Rx.Dt.cell (Go.Value.string (ByteArray.mk #[]))]) (a + (1 : Int)).toNat (0 : Nat) [Rx.Dt.cell (Go.Value.int Go.IntKind.i64 (1 : Int)), Rx.Dt.cell (Go.Value.int Go.IntKind.i64 (0 : Int)), Rx.Dt.cell (Go.Value.string (ByteArray.mk #[]))])) a ((Go.Proofs.Ytfpnadmpmfcaaaa.rdF l.length (Go.Proofs.Ytfpnadmpmfcaaaa.wF l)).getD (a + (2 : Int)).toNat Inhabited.default).n.toNat))), SV.dt (Dt.cell (Go.Value.int Go.IntKind.i64 lim))]]) ([SV.agg [SV.dt (Dt.arr ((3 : Nat)) ((Go.Proofs.Ytfpnadmpmfcaaaa.rdF (Go.Proofs.Ytfpnadmpmfcaaaa.fillN (Go.Proofs.Ytfpnadmpmfcaaaa.rdF (Go.Proofs.Ytfpnadmpmfcaaaa.rdF l.length (Go.Proofs.Ytfpnadmpmfcaaaa.wF l)).length (Rx.setRow (Rx.setRow (Go.Proofs.Ytfpnadmpmfcaaaa.wF (Go.Proofs.Ytfpnadmpmfcaaaa.rdF l.length (Go.Proofs.Ytfpnadmpmfcaaaa.wF l))) a.toNat (0 : Nat) [Rx.Dt.cell (Go.Value.int Go.IntKind.i64 (10 : Int)), Rx.Dt.cell (Go.Value.int Go.IntKind.i64 b), Rx.Dt.cell (Go.Value.string (ByteArray.mk #[]))]) (a + (1 : Int)).toNat (0 : Nat) [Rx.Dt.cell (Go.Value.int Go.IntKind.i64 (1 : Int)), Rx.Dt.cell (Go.Value.int Go.IntKind.i64 (0 : Int)), Rx.Dt.cell (Go.Value.string (ByteArray.mk #[]))])) a ((Go.Proofs.Ytfpnadmpmfcaaaa.rdF l.length (Go.Proofs.Ytfpnadmpmfcaaaa.wF l)).getD (a + (2 : Int)).toNat Inhabited.default).n.toNat).length (Go.Proofs.Ytfpnadmpmfcaaaa.wF (Go.Proofs.Ytfpnadmpmfcaaaa.fillN (Go.Proofs.Ytfpnadmpmfcaaaa.rdF (Go.Proofs.Ytfpnadmpmfcaaaa.rdF l.length (Go.Proofs.Ytfpnadmpmfcaaaa.wF l)).length (Rx.setRow (Rx.setRow (Go.Proofs.Ytfpnadmpmfcaaaa.wF (Go.Proofs.Ytfpnadmpmfcaaaa.rdF l.length (Go.Proofs.Ytfpnadmpmfcaaaa.wF l))) a.toNat (0 : Nat) [Rx.Dt.cell (Go.Value.int Go.IntKind.i64 (10 : Int)), Rx.Dt.cell (Go.Value.int Go.IntKind.i64 b), Rx.Dt.cell (Go.Value.string (ByteArray.mk #[]))]) (a + (1 : Int)).toNat (0 : Nat) [Rx.Dt.cell (Go.Value.int Go.IntKind.i64 (1 : Int)), Rx.Dt.cell (Go.Value.int Go.IntKind.i64 (0 : Int)), Rx.Dt.cell (Go.Value.string (ByteArray.mk #[]))])) a ((Go.Proofs.Ytfpnadmpmfcaaaa.rdF l.length (Go.Proofs.Ytfpnadmpmfcaaaa.wF l)).getD (a + (2 : Int)).toNat Inhabited.default).n.toNat))).length) (Go.Proofs.Ytfpnadmpmfcaaaa.wF (Go.Proofs.Ytfpnadmpmfcaaaa.rdF (Go.Proofs.Ytfpnadmpmfcaaaa.fillN (Go.Proofs.Ytfpnadmpmfcaaaa.rdF (Go.Proofs.Ytfpnadmpmfcaaaa.rdF l.length (Go.Proofs.Ytfpnadmpmfcaaaa.wF l)).length (Rx.setRow (Rx.setRow (Go.Proofs.Ytfpnadmpmfcaaaa.wF (Go.Proofs.Ytfpnadmpmfcaaaa.rdF l.length (Go.Proofs.Ytfpnadmpmfcaaaa.wF l))) a.toNat (0 : Nat) [Rx.Dt.cell (Go.Value.int Go.IntKind.i64 (10 : Int)), Rx.Dt.cell (Go.Value.int Go.IntKind.i64 b), Rx.Dt.cell (Go.Value.string (ByteArray.mk #[]))]) (a + (1 : Int)).toNat (0 : Nat) [Rx.Dt.cell (Go.Value.int Go.IntKind.i64 (1 : Int)), Rx.Dt.cell (Go.Value.int Go.IntKind.i64 (0 : Int)), Rx.Dt.cell (Go.Value.string (ByteArray.mk #[]))])) a ((Go.Proofs.Ytfpnadmpmfcaaaa.rdF l.length (Go.Proofs.Ytfpnadmpmfcaaaa.wF l)).getD (a + (2 : Int)).toNat Inhabited.default).n.toNat).length (Go.Proofs.Ytfpnadmpmfcaaaa.wF (Go.Proofs.Ytfpnadmpmfcaaaa.fillN (Go.Proofs.Ytfpnadmpmfcaaaa.rdF (Go.Proofs.Ytfpnadmpmfcaaaa.rdF l.length (Go.Proofs.Ytfpnadmpmfcaaaa.wF l)).length (Rx.setRow (Rx.setRow (Go.Proofs.Ytfpnadmpmfcaaaa.wF (Go.Proofs.Ytfpnadmpmfcaaaa.rdF l.length (Go.Proofs.Ytfpnadmpmfcaaaa.wF l))) a.toNat (0 : Nat) [Rx.Dt.cell (Go.Value.int Go.IntKind.i64 (10 : Int)), Rx.Dt.cell (Go.Value.int Go.IntKind.i64 b), Rx.Dt.cell (Go.Value.string (ByteArray.mk #[]))]) (a + (1 : Int)).toNat (0 : Nat) [Rx.Dt.cell (Go.Value.int Go.IntKind.i64 (1 : Int)), Rx.Dt.cell (Go.Value.int Go.IntKind.i64 (0 : Int)), Rx.Dt.cell (Go.Value.string (ByteArray.mk #[]))])) a ((Go.Proofs.Ytfpnadmpmfcaaaa.rdF l.length (Go.Proofs.Ytfpnadmpmfcaaaa.wF l)).getD (a + (2 : Int)).toNat Inhabited.default).n.toNat))))), SV.dt (Dt.cell (Go.Value.int Go.IntKind.i64 lim))]])) ∧
                                     ((Rx.leObL ([]) ([])) ∧
                                      (((Go.Proofs.Ytfpnadmpmfcaaaa.checkB (Go.Proofs.Ytfpnadmpmfcaaaa.rdF (Go.Proofs.Ytfpnadmpmfcaaaa.fillN (Go.Proofs.Ytfpnadmpmfcaaaa.rdF (Go.Proofs.Ytfpnadmpmfcaaaa.rdF l.length (Go.Proofs.Ytfpnadmpmfcaaaa.wF l)).length (Rx.setRow (Rx.setRow (Go.Proofs.Ytfpnadmpmfcaaaa.wF (Go.Proofs.Ytfpnadmpmfcaaaa.rdF l.length (Go.Proofs.Ytfpnadmpmfcaaaa.wF l))) a.toNat (0 : Nat) [Rx.Dt.cell (Go.Value.int Go.IntKind.i64 (10 : Int)), Rx.Dt.cell (Go.Value.int Go.IntKind.i64 b), Rx.Dt.cell (Go.Value.string (ByteArray.mk #[]))]) (a + (1 : Int)).toNat (0 : Nat) [Rx.Dt.cell (Go.Value.int Go.IntKind.i64 (1 : Int)), Rx.Dt.cell (Go.Value.int Go.IntKind.i64 (0 : Int)), Rx.Dt.cell (Go.Value.string (ByteArray.mk #[]))])) a ((Go.Proofs.Ytfpnadmpmfcaaaa.rdF l.length (Go.Proofs.Ytfpnadmpmfcaaaa.wF l)).getD (a + (2 : Int)).toNat Inhabited.default).n.toNat).length (Go.Proofs.Ytfpnadmpmfcaaaa.wF (Go.Proofs.Ytfpnadmpmfcaaaa.fillN (Go.Proofs.Ytfpnadmpmfcaaaa.rdF (Go.Proofs.Ytfpnadmpmfcaaaa.rdF l.length (Go.Proofs.Ytfpnadmpmfcaaaa.wF l)).length (Rx.setRow (Rx.setRow (Go.Proofs.Ytfpnadmpmfcaaaa.wF (Go.Proofs.Ytfpnadmpmfcaaaa.rdF l.length (Go.Proofs.Ytfpnadmpmfcaaaa.wF l))) a.toNat (0 : Nat) [Rx.Dt.cell (Go.Value.int Go.IntKind.i64 (10 : Int)), Rx.Dt.cell (Go.Value.int Go.IntKind.i64 b), Rx.Dt.cell (Go.Value.string (ByteArray.mk #[]))]) (a + (1 : Int)).toNat (0 : Nat) [Rx.Dt.cell (Go.Value.int Go.IntKind.i64 (1 : Int)), Rx.Dt.cell (Go.Value.int Go.IntKind.i64 (0 : Int)), Rx.Dt.cell (Go.Value.string (ByteArray.mk #[]))])) a ((Go.Proofs.Ytfpnadmpmfcaaaa.rdF l.length (Go.Proofs.Ytfpnadmpmfcaaaa.wF l)).getD (a + (2 : Int)).toNat Inhabited.default).n.toNat))) lim = Bool.true) →
                                        (((((0 : Int) != (0 : Int)) = Bool.true) →
                                          (True ∧
                                           R (SV.tup [SV.agg [SV.dt (Dt.cell (Go.Value.slice Option.none (0 : Nat) (0 : Nat))), SV.ki Go.IntKind.i64 ((0 : Int))], SV.dt (Dt.cell (Go.Value.int Go.IntKind.i64 (4 : Int)))]) ([]))) ∧
                                         ((((0 : Int) != (0 : Int)) = Bool.false) →
                                          (True ∧
                                           R (SV.tup [SV.agg [SV.dt (Dt.arr ((3 : Nat)) ((Go.Proofs.Ytfpnadmpmfcaaaa.fillN (Go.Proofs.Ytfpnadmpmfcaaaa.rdF (Go.Proofs.Ytfpnadmpmfcaaaa.rdF l.length (Go.Proofs.Ytfpnadmpmfcaaaa.wF l)).length (Rx.setRow (Rx.setRow (Go.Proofs.Ytfpnadmpmfcaaaa.wF (Go.Proofs.Ytfpnadmpmfcaaaa.rdF l.length (Go.Proofs.Ytfpnadmpmfcaaaa.wF l))) a.toNat (0 : Nat) [Rx.Dt.cell (Go.Value.int Go.IntKind.i64 (10 : Int)), Rx.Dt.cell (Go.Value.int Go.IntKind.i64 b), Rx.Dt.cell (Go.Value.string (ByteArray.mk #[]))]) (a + (1 : Int)).toNat (0 : Nat) [Rx.Dt.cell (Go.Value.int Go.IntKind.i64 (1 : Int)), Rx.Dt.cell (Go.Value.int Go.IntKind.i64 (0 : Int)), Rx.Dt.cell (Go.Value.string (ByteArray.mk #[]))])) a ((Go.Proofs.Ytfpnadmpmfcaaaa.rdF l.length (Go.Proofs.Ytfpnadmpmfcaaaa.wF l)).getD (a + (2 : Int)).toNat Inhabited.default).n.toNat).length) (Go.Proofs.Ytfpnadmpmfcaaaa.wF (Go.Proofs.Ytfpnadmpmfcaaaa.fillN (Go.Proofs.Ytfpnadmpmfcaaaa.rdF (Go.Proofs.Ytfpnadmpmfcaaaa.rdF l.length (Go.Proofs.Ytfpnadmpmfcaaaa.wF l)).length (Rx.setRow (Rx.setRow (Go.Proofs.Ytfpnadmpmfcaaaa.wF (Go.Proofs.Ytfpnadmpmfcaaaa.rdF l.length (Go.Proofs.Ytfpnadmpmfcaaaa.wF l))) a.toNat (0 : Nat) [Rx.Dt.cell (Go.Value.int Go.IntKind.i64 (10 : Int)), Rx.Dt.cell (Go.Value.int Go.IntKind.i64 b), Rx.Dt.cell (Go.Value.string (ByteArray.mk #[]))]) (a + (1 : Int)).toNat (0 : Nat) [Rx.Dt.cell (Go.Value.int Go.IntKind.i64 (1 : Int)), Rx.Dt.cell (Go.Value.int Go.IntKind.i64 (0 : Int)), Rx.Dt.cell (Go.Value.string (ByteArray.mk #[]))])) a ((Go.Proofs.Ytfpnadmpmfcaaaa.rdF l.length (Go.Proofs.Ytfpnadmpmfcaaaa.wF l)).getD (a + (2 : Int)).toNat Inhabited.default).n.toNat))), SV.dt (Dt.cell (Go.Value.int Go.IntKind.i64 lim))], SV.dt (Dt.cell (Go.Value.int Go.IntKind.i64 (0 : Int)))]) ([]))))) ∧
                                       ((Go.Proofs.Ytfpnadmpmfcaaaa.checkB (Go.Proofs.Ytfpnadmpmfcaaaa.rdF (Go.Proofs.Ytfpnadmpmfcaaaa.fillN (Go.Proofs.Ytfpnadmpmfcaaaa.rdF (Go.Proofs.Ytfpnadmpmfcaaaa.rdF l.length (Go.Proofs.Ytfpnadmpmfcaaaa.wF l)).length (Rx.setRow (Rx.setRow (Go.Proofs.Ytfpnadmpmfcaaaa.wF (Go.Proofs.Ytfpnadmpmfcaaaa.rdF l.length (Go.Proofs.Ytfpnadmpmfcaaaa.wF l))) a.toNat (0 : Nat) [Rx.Dt.cell (Go.Value.int Go.IntKind.i64 (10 : Int)), Rx.Dt.cell (Go.Value.int Go.IntKind.i64 b), Rx.Dt.cell (Go.Value.string (ByteArray.mk #[]))]) (a + (1 : Int)).toNat (0 : Nat) [Rx.Dt.cell (Go.Value.int Go.IntKind.i64 (1 : Int)), Rx.Dt.cell (Go.Value.int Go.IntKind.i64 (0 : Int)), Rx.Dt.cell (Go.Value.string (ByteArray.mk #[]))])) a ((Go.Proofs.Ytfpnadmpmfcaaaa.rdF l.length (Go.Proofs.Ytfpnadmpmfcaaaa.wF l)).getD (a + (2 : Int)).toNat Inhabited.default).n.toNat).length (Go.Proofs.Ytfpnadmpmfcaaaa.wF (Go.Proofs.Ytfpnadmpmfcaaaa.fillN (Go.Proofs.Ytfpnadmpmfcaaaa.rdF (Go.Proofs.Ytfpnadmpmfcaaaa.rdF l.length (Go.Proofs.Ytfpnadmpmfcaaaa.wF l)).length (Rx.setRow (Rx.setRow (Go.Proofs.Ytfpnadmpmfcaaaa.wF (Go.Proofs.Ytfpnadmpmfcaaaa.rdF l.length (Go.Proofs.Ytfpnadmpmfcaaaa.wF l))) a.toNat (0 : Nat) [Rx.Dt.cell (Go.Value.int Go.IntKind.i64 (10 : Int)), Rx.Dt.cell (Go.Value.int Go.IntKind.i64 b), Rx.Dt.cell (Go.Value.string (ByteArray.mk #[]))]) (a + (1 : Int)).toNat (0 : Nat) [Rx.Dt.cell (Go.Value.int Go.IntKind.i64 (1 : Int)), Rx.Dt.cell (Go.Value.int Go.IntKind.i64 (0 : Int)), Rx.Dt.cell (Go.Value.string (ByteArray.mk #[]))])) a ((Go.Proofs.Ytfpnadmpmfcaaaa.rdF l.length (Go.Proofs.Ytfpnadmpmfcaaaa.wF l)).getD (a + (2 : Int)).toNat Inhabited.default).n.toNat))) lim = Bool.false) →
                                        (((((9 : Int) != (0 : Int)) = Bool.true) →
                                          (True ∧
                                           R (SV.tup [SV.agg [SV.dt (Dt.cell (Go.Value.slice Option.none (0 : Nat) (0 : Nat))), SV.ki Go.IntKind.i64 ((0 : Int))], SV.dt (Dt.cell (Go.Value.int Go.IntKind.i64 (4 : Int)))]) ([]))) ∧
                                         ((((9 : Int) != (0 : Int)) = Bool.false) →
                                          (True ∧
                                           R (SV.tup [SV.agg [SV.dt (Dt.arr ((3 : Nat)) ((Go.Proofs.Ytfpnadmpmfcaaaa.fillN (Go.Proofs.Ytfpnadmpmfcaaaa.rdF (Go.Proofs.Ytfpnadmpmfcaaaa.rdF l.length (Go.Proofs.Ytfpnadmpmfcaaaa.wF l)).length (Rx.setRow (Rx.setRow (Go.Proofs.Ytfpnadmpmfcaaaa.wF (Go.Proofs.Ytfpnadmpmfcaaaa.rdF l.length (Go.Proofs.Ytfpnadmpmfcaaaa.wF l))) a.toNat (0 : Nat) [Rx.Dt.cell (Go.Value.int Go.IntKind.i64 (10 : Int)), Rx.Dt.cell (Go.Value.int Go.IntKind.i64 b), Rx.Dt.cell (Go.Value.string (ByteArray.mk #[]))]) (a + (1 : Int)).toNat (0 : Nat) [Rx.Dt.cell (Go.Value.int Go.IntKind.i64 (1 : Int)), Rx.Dt.cell (Go.Value.int Go.IntKind.i64 (0 : Int)), Rx.Dt.cell (Go.Value.string (ByteArray.mk #[]))])) a ((Go.Proofs.Ytfpnadmpmfcaaaa.rdF l.length (Go.Proofs.Ytfpnadmpmfcaaaa.wF l)).getD (a + (2 : Int)).toNat Inhabited.default).n.toNat).length) (Go.Proofs.Ytfpnadmpmfcaaaa.wF (Go.Proofs.Ytfpnadmpmfcaaaa.fillN (Go.Proofs.Ytfpnadmpmfcaaaa.rdF (Go.Proofs.Ytfpnadmpmfcaaaa.rdF l.length (Go.Proofs.Ytfpnadmpmfcaaaa.wF l)).length (Rx.setRow (Rx.setRow (Go.Proofs.Ytfpnadmpmfcaaaa.wF (Go.Proofs.Ytfpnadmpmfcaaaa.rdF l.length (Go.Proofs.Ytfpnadmpmfcaaaa.wF l))) a.toNat (0 : Nat) [Rx.Dt.cell (Go.Value.int Go.IntKind.i64 (10 : Int)), Rx.Dt.cell (Go.Value.int Go.IntKind.i64 b), Rx.Dt.cell (Go.Value.string (ByteArray.mk #[]))]) (a + (1 : Int)).toNat (0 : Nat) [Rx.Dt.cell (Go.Value.int Go.IntKind.i64 (1 : Int)), Rx.Dt.cell (Go.Value.int Go.IntKind.i64 (0 : Int)), Rx.Dt.cell (Go.Value.string (ByteArray.mk #[]))])) a ((Go.Proofs.Ytfpnadmpmfcaaaa.rdF l.length (Go.Proofs.Ytfpnadmpmfcaaaa.wF l)).getD (a + (2 : Int)).toNat Inhabited.default).n.toNat))), SV.dt (Dt.cell (Go.Value.int Go.IntKind.i64 lim))], SV.dt (Dt.cell (Go.Value.int Go.IntKind.i64 (0 : Int)))]) ([]))))))))))))))))))))))))))))))))))) ∧
         (((Go.Proofs.Ytfpnadmpmfcaaaa.startsS (Go.Proofs.Ytfpnadmpmfcaaaa.rdF l.length (Go.Proofs.Ytfpnadmpmfcaaaa.wF l))).isSome = Bool.false) →
          ((((!Rx.toB ((Rx.mget (Rx.Ty.int Go.IntKind.i64) [] a).getD Rx.Ty.bool.dflt)) = Bool.true) →
            (True ∧
             R (SV.tup [SV.agg [SV.dt (Dt.cell (Go.Value.slice Option.none (0 : Nat) (0 : Nat))), SV.ki Go.IntKind.i64 ((0 : Int))], SV.dt (Dt.cell (Go.Value.int Go.IntKind.i64 (3 : Int)))]) ([]))) ∧
           (((!Rx.toB ((Rx.mget (Rx.Ty.int Go.IntKind.i64) [] a).getD Rx.Ty.bool.dflt)) = Bool.false) →
            ((((!Rx.toB ((Rx.mget (Rx.Ty.int Go.IntKind.i64) [] b).getD Rx.Ty.bool.dflt)) = Bool.true) →
              (True ∧
               R (SV.tup [SV.agg [SV.dt (Dt.cell (Go.Value.slice Option.none (0 : Nat) (0 : Nat))), SV.ki Go.IntKind.i64 ((0 : Int))], SV.dt (Dt.cell (Go.Value.int Go.IntKind.i64 (3 : Int)))]) ([]))) ∧
             (((!Rx.toB ((Rx.mget (Rx.Ty.int Go.IntKind.i64) [] b).getD Rx.Ty.bool.dflt)) = Bool.false) →
              ((((0 : Int) ≤ a) ∧
                (a < (↑l.length : Int))) ∧
               (((((l.getD a.toNat Inhabited.default).k != (9 : Int)) = Bool.true) →
                 (True ∧
                  R (SV.tup [SV.agg [SV.dt (Dt.cell (Go.Value.slice Option.none (0 : Nat) (0 : Nat))), SV.ki Go.IntKind.i64 ((0 : Int))], SV.dt (Dt.cell (Go.Value.int Go.IntKind.i64 (3 : Int)))]) ([]))) ∧
                ((((l.getD a.toNat Inhabited.default).k != (9 : Int)) = Bool.false) →
                 ((((0 : Int) ≤ b) ∧
                   (b < (↑l.length : Int))) ∧
                  (((((l.getD b.toNat Inhabited.default).k != (9 : Int)) = Bool.true) →
                    (True ∧
                     R (SV.tup [SV.agg [SV.dt (Dt.cell (Go.Value.slice Option.none (0 : Nat) (0 : Nat))), SV.ki Go.IntKind.i64 ((0 : Int))], SV.dt (Dt.cell (Go.Value.int Go.IntKind.i64 (3 : Int)))]) ([]))) ∧
                   ((((l.getD b.toNat Inhabited.default).k != (9 : Int)) = Bool.false) →
                    ((((a == b) = Bool.true) →
                      (True ∧
                       R (SV.tup [SV.agg [SV.dt (Dt.cell (Go.Value.slice Option.none (0 : Nat) (0 : Nat))), SV.ki Go.IntKind.i64 ((0 : Int))], SV.dt (Dt.cell (Go.Value.int Go.IntKind.i64 (3 : Int)))]) ([]))) ∧
                     (((a == b) = Bool.false) →
                      ((Rx.leL ([SV.dt (Dt.arr ((3 : Nat)) (l.length) (Go.Proofs.Ytfpnadmpmfcaaaa.wF l))]) ([SV.dt (Dt.arr ((3 : Nat)) ((Go.Proofs.Ytfpnadmpmfcaaaa.rdF l.length (Go.Proofs.Ytfpnadmpmfcaaaa.wF l)).length) (Go.Proofs.Ytfpnadmpmfcaaaa.wF (Go.Proofs.Ytfpnadmpmfcaaaa.rdF l.length (Go.Proofs.Ytfpnadmpmfcaaaa.wF l))))])) ∧
                       ((Rx.leObL ([]) ([])) ∧
                        ((Go.Proofs.Ytfpnadmpmfcaaaa.fitsW (Go.Proofs.Ytfpnadmpmfcaaaa.rdF l.length (Go.Proofs.Ytfpnadmpmfcaaaa.wF l))) ∧
                         (((Rx.lo Go.IntKind.i64 ≤ a + (2 : Int)) ∧
                           (a + (2 : Int) ≤ Rx.hi Go.IntKind.i64)) ∧
                          ((((0 : Int) ≤ a + (2 : Int)) ∧
                            (a + (2 : Int) < (↑(Go.Proofs.Ytfpnadmpmfcaaaa.rdF l.length (Go.Proofs.Ytfpnadmpmfcaaaa.wF l)).length : Int))) ∧
                           (((a + (2 : Int)).toNat < (Go.Proofs.Ytfpnadmpmfcaaaa.rdF l.length (Go.Proofs.Ytfpnadmpmfcaaaa.wF l)).length) ∧
                            (((Rx.lo Go.IntKind.i64 ≤ a + (1 : Int)) ∧
                              (a + (1 : Int) ≤ Rx.hi Go.IntKind.i64)) ∧
                             ((((0 : Int) ≤ a) ∧
                               (a < (↑(Go.Proofs.Ytfpnadmpmfcaaaa.rdF l.length (Go.Proofs.Ytfpnadmpmfcaaaa.wF l)).length : Int))) ∧
                              ((a.toNat < (Go.Proofs.Ytfpnadmpmfcaaaa.rdF l.length (Go.Proofs.Ytfpnadmpmfcaaaa.wF l)).length) ∧
                               ((((0 : Int) ≤ a + (1 : Int)) ∧
                                 (a + (1 : Int) < (↑(Go.Proofs.Ytfpnadmpmfcaaaa.rdF l.length (Go.Proofs.Ytfpnadmpmfcaaaa.wF l)).length : Int))) ∧
                                (((a + (1 : Int)).toNat < (Go.Proofs.Ytfpnadmpmfcaaaa.rdF l.length (Go.Proofs.Ytfpnadmpmfcaaaa.wF l)).length) ∧
                                 (((Rx.leS (SV.dt (Dt.cell (Go.Value.int Go.IntKind.i64 a))) (SV.dt (Dt.cell (Go.Value.int Go.IntKind.i64 a)))) ∧
                                   ((Rx.leS (SV.ptr 0 0) (SV.ptr 0 0)) ∧
                                    ((Rx.leS (SV.ptr 1 0) (SV.ptr 1 0)) ∧
                                     ((Rx.leS (SV.dt (Dt.cell (Go.Value.int Go.IntKind.i64 ((Go.Proofs.Ytfpnadmpmfcaaaa.rdF l.length (Go.Proofs.Ytfpnadmpmfcaaaa.wF l)).getD (a + (2 : Int)).toNat Inhabited.default).n))) (SV.dt (Dt.cell (Go.Value.int Go.IntKind.i64 ((Go.Proofs.Ytfpnadmpmfcaaaa.rdF l.length (Go.Proofs.Ytfpnadmpmfcaaaa.wF l)).getD (a + (2 : Int)).toNat Inhabited.default).n)))) ∧
                                      ((Rx.leS (SV.dt (Dt.cell (Go.Value.int Go.IntKind.i64 (0 : Int)))) (SV.dt (Dt.cell (Go.Value.int Go.IntKind.i64 (↑(0 : Nat) : Int))))) ∧
                                       True))))) ∧
                                  ((Rx.leOO ([some (Ob.cells 25 [SV.dt (Dt.cell (Go.Value.slice Option.none (0 : Nat) (0 : Nat))), SV.ki Go.IntKind.i64 ((0 : Int))]), some (Ob.cells 25 [SV.nm 2, SV.dt (Dt.cell (Go.Value.int Go.IntKind.i64 lim))]), some (Ob.row 30 3 ((Go.Proofs.Ytfpnadmpmfcaaaa.rdF l.length (Go.Proofs.Ytfpnadmpmfcaaaa.wF l)).length) (Rx.setRow (Rx.setRow (Go.Proofs.Ytfpnadmpmfcaaaa.wF (Go.Proofs.Ytfpnadmpmfcaaaa.rdF l.length (Go.Proofs.Ytfpnadmpmfcaaaa.wF l))) a.toNat (0 : Nat) [Rx.Dt.cell (Go.Value.int Go.IntKind.i64 (10 : Int)), Rx.Dt.cell (Go.Value.int Go.IntKind.i64 b), Rx.Dt.cell (Go.Value.string (ByteArray.mk #[]))]) (a + (1 : Int)).toNat (0 : Nat) [Rx.Dt.cell (Go.Value.int Go.IntKind.i64 (1 : Int)), Rx.Dt.cell (Go.Value.int Go.IntKind.i64 (0 : Int)), Rx.Dt.cell (Go.Value.string (ByteArray.mk #[]))]))]) ([some (Ob.cells 25 [SV.junk, SV.junk]), some (Ob.cells 25 [SV.nm 2, SV.dt (Dt.cell (Go.Value.int Go.IntKind.i64 lim))]), some (Ob.row 30 3 ((Go.Proofs.Ytfpnadmpmfcaaaa.rdF (Go.Proofs.Ytfpnadmpmfcaaaa.rdF l.length (Go.Proofs.Ytfpnadmpmfcaaaa.wF l)).length (Rx.setRow (Rx.setRow (Go.Proofs.Ytfpnadmpmfcaaaa.wF (Go.Proofs.Ytfpnadmpmfcaaaa.rdF l.length (Go.Proofs.Ytfpnadmpmfcaaaa.wF l))) a.toNat (0 : Nat) [Rx.Dt.cell (Go.Value.int Go.IntKind.i64 (10 : Int)), Rx.Dt.cell (Go.Value.int Go.IntKind.i64 b), Rx.Dt.cell (Go.Value.string (ByteArray.mk #[]))]) (a + (1 : Int)).toNat (0 : Nat) [Rx.Dt.cell (Go.Value.int Go.IntKind.i64 (1 : Int)), Rx.Dt.cell (Go.Value.int Go.IntKind.i64 (0 : Int)), Rx.Dt.cell (Go.Value.string (ByteArray.mk #[]))])).length) (Go.Proofs.Ytfpnadmpmfcaaaa.wF (Go.Proofs.Ytfpnadmpmfcaaaa.rdF (Go.Proofs.Ytfpnadmpmfcaaaa.rdF l.length (Go.Proofs.Ytfpnadmpmfcaaaa.wF l)).length (Rx.setRow (Rx.setRow (Go.Proofs.Ytfpnadmpmfcaaaa.wF (Go.Proofs.Ytfpnadmpmfcaaaa.rdF l.length (Go.Proofs.Ytfpnadmpmfcaaaa.wF l))) a.toNat (0 : Nat) [Rx.Dt.cell (Go.Value.int Go.IntKind.i64 (10 : Int)), Rx.Dt.cell (Go.Value.int Go.IntKind.i64 b), Rx.Dt.cell (Go.Value.string (ByteArray.mk #[]))]) (a + (1 : Int)).toNat (0 : Nat) [Rx.Dt.cell (Go.Value.int Go.IntKind.i64 (1 : Int)), Rx.Dt.cell (Go.Value.int Go.IntKind.i64 (0 : Int)), Rx.Dt.cell (Go.Value.string (ByteArray.mk #[]))]))))])) ∧
                                   ((((0 : Int) ≤ a) ∧
                                     (((0 : Int) ≤ ((Go.Proofs.Ytfpnadmpmfcaaaa.rdF l.length (Go.Proofs.Ytfpnadmpmfcaaaa.wF l)).getD (a + (2 : Int)).toNat Inhabited.default).n) ∧
                                      ((((Go.Proofs.Ytfpnadmpmfcaaaa.rdF l.length (Go.Proofs.Ytfpnadmpmfcaaaa.wF l)).getD (a + (2 : Int)).toNat Inhabited.default).n ≤ (6 : Int)) ∧
                                       ((a + (3 : Int) + ((Go.Proofs.Ytfpnadmpmfcaaaa.rdF l.length (Go.Proofs.Ytfpnadmpmfcaaaa.wF l)).getD (a + (2 : Int)).toNat Inhabited.default).n ≤ (↑(Go.Proofs.Ytfpnadmpmfcaaaa.rdF (Go.Proofs.Ytfpnadmpmfcaaaa.rdF l.length (Go.Proofs.Ytfpnadmpmfcaaaa.wF l)).length (Rx.setRow (Rx.setRow (Go.Proofs.Ytfpnadmpmfcaaaa.wF (Go.Proofs.Ytfpnadmpmfcaaaa.rdF l.length (Go.Proofs.Ytfpnadmpmfcaaaa.wF l))) a.toNat (0 : Nat) [Rx.Dt.cell (Go.Value.int Go.IntKind.i64 (10 : Int)), Rx.Dt.cell (Go.Value.int Go.IntKind.i64 b), Rx.Dt.cell (Go.Value.string (ByteArray.mk #[]))]) (a + (1 : Int)).toNat (0 : Nat) [Rx.Dt.cell (Go.Value.int Go.IntKind.i64 (1 : Int)), Rx.Dt.cell (Go.Value.int Go.IntKind.i64 (0 : Int)), Rx.Dt.cell (Go.Value.string (ByteArray.mk #[]))])).length : Int)) ∧
                                        (((Go.Proofs.Ytfpnadmpmfcaaaa.rdF (Go.Proofs.Ytfpnadmpmfcaaaa.rdF l.length (Go.Proofs.Ytfpnadmpmfcaaaa.wF l)).length (Rx.setRow (Rx.setRow (Go.Proofs.Ytfpnadmpmfcaaaa.wF (Go.Proofs.Ytfpnadmpmfcaaaa.rdF l.length (Go.Proofs.Ytfpnadmpmfcaaaa.wF l))) a.toNat (0 : Nat) [Rx.Dt.cell (Go.Value.int Go.IntKind.i64 (10 : Int)), Rx.Dt.cell (Go.Value.int Go.IntKind.i64 b), Rx.Dt.cell (Go.Value.string (ByteArray.mk #[]))]) (a + (1 : Int)).toNat (0 : Nat) [Rx.Dt.cell (Go.Value.int Go.IntKind.i64 (1 : Int)), Rx.Dt.cell (Go.Value.int Go.IntKind.i64 (0 : Int)), Rx.Dt.cell (Go.Value.string (ByteArray.mk #[]))])).length ≤ (60000 : Nat)) ∧
                                         ((↑(0 : Nat) : Int) ≤ ((Go.Proofs.Ytfpnadmpmfcaaaa.rdF l.length (Go.Proofs.Ytfpnadmpmfcaaaa.wF l)).getD (a + (2 : Int)).toNat Inhabited.default).n)))))) ∧
                                    ((Rx.leL ([SV.agg [SV.dt (Dt.arr ((3 : Nat)) ((Go.Proofs.Ytfpnadmpmfcaaaa.fillN (Go.Proofs.Ytfpnadmpmfcaaaa.rdF (Go.Proofs.Ytfpnadmpmfcaaaa.rdF l.length (Go.Proofs.Ytfpnadmpmfcaaaa.wF l)).length (Rx.setRow (Rx.setRow (Go.Proofs.Ytfpnadmpmfcaaaa.wF (Go.Proofs.Ytfpnadmpmfcaaaa.rdF l.length (Go.Proofs.Ytfpnadmpmfcaaaa.wF l))) a.toNat (0 : Nat) [Rx.Dt.cell (Go.Value.int Go.IntKind.i64 (10 : Int)), Rx.Dt.cell (Go.Value.int Go.IntKind.i64 b), Rx.Dt.cell (Go.Value.string (ByteArray.mk #[]))]) (a + (1 : Int)).toNat (0 : Nat) [Rx.Dt.cell (Go.Value.int Go.IntKind.i64 (1 : Int)), Rx.Dt.cell (Go.Value.int Go.IntKind.i64 (0 : Int)), Rx.Dt.cell (Go.Value.string (ByteArray.mk #[]))])) a ((Go.Proofs.Ytfpnadmpmfcaaaa.rdF l.length (Go.Proofs.Ytfpnadmpmfcaaaa.wF l)).getD (a + (2 : Int)).toNat Inhabited.default).n.toNat).length) (Go.Proofs.Ytfpnadmpmfcaaaa.wF (Go.Proofs.Ytfpnadmpmfcaaaa.fillN (Go.Proofs.Ytfpnadmpmfcaaaa.rdF (Go.Proofs.Ytfpnadmpmfcaaaa.rdF l.length (Go.Proofs.Ytfpnadmpmfcaaaa.wF l)).length (Rx.setRow (Rx.setRow (Go.Proofs.Ytfpnadmpmfcaaaa.wF (Go.Proofs.Ytfpnadmpmfcaaaa.rdF l.length (Go.Proofs.Ytfpnadmpmfcaaaa.wF l))) a.toNat (0 : Nat) [Rx.Dt.cell (Go.Value.int Go.IntKind.i64 (10 : Int)), Rx.Dt.cell (Go.Value.int Go.IntKind.i64 b), Rx.Dt.cell (Go.Value.string (ByteArray.mk #[]))]) (a + (1 : Int)).toNat (0 : Nat) [Rx.Dt.cell (Go.Value.int Go.IntKind.i64 (1 : Int)), Rx.Dt.cell (Go.Value.int Go.IntKind.i64 (0 : Int)), Rx.Dt.cell (Go.Value.string (ByteArray.mk #[]))])) a ((Go.Proofs.Ytfpnadmpmfcaaaa.rdF l.length (Go.Proofs.Ytfpnadmpmfcaaaa.wF l)).getD (a + (2 : Int)).toNat Inhabited.default).n.toNat))), SV.dt (Dt.cell (Go.Value.int Go.IntKind.i64 lim))]]) ([SV.agg [SV.dt (Dt.arr ((3 : Nat)) ((Go.Proofs.Ytfpnadmpmfcaaaa.rdF (Go.Proofs.Ytfpnadmpmfcaaaa.fillN (Go.Proofs.Ytfpnadmpmfcaaaa.rdF (Go.Proofs.Ytfpnadmpmfcaaaa.rdF l.length (Go.Proofs.Ytfpnadmpmfcaaaa.wF l)).length (Rx.setRow (Rx.setRow (Go.Proofs.Ytfpnadmpmfcaaaa.wF (Go.Proofs.Ytfpnadmpmfcaaaa.rdF l.length (Go.Proofs.Ytfpnadmpmfcaaaa.wF l))) a.toNat (0 : Nat) [Rx.Dt.cell (Go.Value.int Go.IntKind.i64 (10 : Int)), Rx.Dt.cell (Go.Value.int Go.IntKind.i64 b), Rx.Dt.cell (Go.Value.string (ByteArray.mk #[]))]) (a + (1 : Int)).toNat (0 : Nat) [Rx.Dt.cell (Go.Value.int Go.IntKind.i64 (1 : Int)), Rx.Dt.cell (Go.Value.int Go.IntKind.i64 (0 : Int)), Rx.Dt.cell (Go.Value.string (ByteArray.mk #[]))])) a ((Go.Proofs.Ytfpnadmpmfcaaaa.rdF l.length (Go.Proofs.Ytfpnadmpmfcaaaa.wF l)).getD (a + (2 : Int)).toNat Inhabited.default).n.toNat).length (Go.Proofs.Ytfpnadmpmfcaaaa.wF (Go.Proofs.Ytfpnadmpmfcaaaa.fillN (Go.Proofs.Ytfpnadmpmfcaaaa.rdF (Go.Proofs.Ytfpnadmpmfcaaaa.rdF l.length (Go.Proofs.Ytfpnadmpmfcaaaa.wF l)).length (Rx.setRow (Rx.setRow (Go.Proofs.Ytfpnadmpmfcaaaa.wF (Go.Proofs.Ytfpnadmpmfcaaaa.rdF l.length (Go.Proofs.Ytfpnadmpmfcaaaa.wF l))) a.toNat (0 : Nat) [Rx.Dt.cell (Go.Value.int Go.IntKind.i64 (10 : Int)), Rx.Dt.cell (Go.Value.int Go.IntKind.i64 b), Rx.Dt.cell (Go.Value.string (ByteArray.mk #[]))]) (a + (1 : Int)).toNat (0 : Nat) [Rx.Dt.cell (Go.Value.int Go.IntKind.i64 (1 : Int)), Rx.Dt.cell (Go.Value.int Go.IntKind.i64 (0 : Int)), Rx.Dt.cell (Go.Value.string (ByteArray.mk #[]))])) a ((Go.Proofs.Ytfpnadmpmfcaaaa.rdF l.length (Go.Proofs.Ytfpnadmpmfcaaaa.wF l)).getD (a + (2 : Int)).toNat Inhabited.default).n.toNat))).length) (Go.Proofs.Ytfpnadmpmfcaaaa.wF (Go.Proofs.Ytfpnadmpmfcaaaa.rdF (Go.Proofs.Ytfpnadmpmfcaaaa.fillN (Go.Proofs.Ytfpnadmpmfcaaaa.rdF (Go.Proofs.Ytfpnadmpmfcaaaa.rdF l.length (Go.Proofs.Ytfpnadmpmfcaaaa.wF l)).length (Rx.setRow (Rx.setRow (Go.Proofs.Ytfpnadmpmfcaaaa.wF (Go.Proofs.Ytfpnadmpmfcaaaa.rdF l.length (Go.Proofs.Ytfpnadmpmfcaaaa.wF l))) a.toNat (0 : Nat) [Rx.Dt.cell (Go.Value.int Go.IntKind.i64 (10 : Int)), Rx.Dt.cell (Go.Value.int Go.IntKind.i64 b), Rx.Dt.cell (Go.Value.string (ByteArray.mk #[]))]) (a + (1 : Int)).toNat (0 : Nat) [Rx.Dt.cell (Go.Value.int Go.IntKind.i64 (1 : Int)), Rx.Dt.cell (Go.Value.int Go.IntKind.i64 (0 : Int)), Rx.Dt.cell (Go.Value.string (ByteArray.mk #[]))])) a ((Go.Proofs.Ytfpnadmpmfcaaaa.rdF l.length (Go.Proofs.Ytfpnadmpmfcaaaa.wF l)).getD (a + (2 : Int)).toNat Inhabited.default).n.toNat).length (Go.Proofs.Ytfpnadmpmfcaaaa.wF (Go.Proofs.Ytfpnadmpmfcaaaa.fillN (Go.Proofs.Ytfpnadmpmfcaaaa.rdF (Go.Proofs.Ytfpnadmpmfcaaaa.rdF l.length (Go.Proofs.Ytfpnadmpmfcaaaa.wF l)).length (Rx.setRow (Rx.setRow (Go.Proofs.Ytfpnadmpmfcaaaa.wF (Go.Proofs.Ytfpnadmpmfcaaaa.rdF l.length (Go.Proofs.Ytfpnadmpmfcaaaa.wF l))) a.toNat (0 : Nat) [Rx.Dt.cell (Go.Value.int Go.IntKind.i64 (10 : Int)), Rx.Dt.cell (Go.Value.int Go.IntKind.i64 b), Rx.Dt.cell (Go.Value.string (ByteArray.mk #[]))]) (a + (1 : Int)).toNat (0 : Nat) [Rx.Dt.cell (Go.Value.int Go.IntKind.i64 (1 : Int)), Rx.Dt.cell (Go.Value.int Go.IntKind.i64 (0 : Int)), Rx.Dt.cell (Go.Value.string (ByteArray.mk #[]))])) a ((Go.Proofs.Ytfpnadmpmfcaaaa.rdF l.length (Go.Proofs.Ytfpnadmpmfcaaaa.wF l)).getD (a + (2 : Int)).toNat Inhabited.default).n.toNat))))), SV.dt (Dt.cell (Go.Value.int Go.IntKind.i64 lim))]])) ∧
                                     ((Rx.leObL ([]) ([])) ∧
                                      (((Go.Proofs.Ytfpnadmpmfcaaaa.checkB (Go.Proofs.Ytfpnadmpmfcaaaa.rdF (Go.Proofs.Ytfpnadmpmfcaaaa.fillN (Go.Proofs.Ytfpnadmpmfcaaaa.rdF (Go.Proofs.Ytfpnadmpmfcaaaa.rdF l.length (Go.Proofs.Ytfpnadmpmfcaaaa.wF l)).length (Rx.setRow (Rx.setRow (Go.Proofs.Ytfpnadmpmfcaaaa.wF (Go.Proofs.Ytfpnadmpmfcaaaa.rdF l.length (Go.Proofs.Ytfpnadmpmfcaaaa.wF l))) a.toNat (0 : Nat) [Rx.Dt.cell (Go.Value.int Go.IntKind.i64 (10 : Int)), Rx.Dt.cell (Go.Value.int Go.IntKind.i64 b), Rx.Dt.cell (Go.Value.string (ByteArray.mk #[]))]) (a + (1 : Int)).toNat (0 : Nat) [Rx.Dt.cell (Go.Value.int Go.IntKind.i64 (1 : Int)), Rx.Dt.cell (Go.Value.int Go.IntKind.i64 (0 : Int)), Rx.Dt.cell (Go.Value.string (ByteArray.mk #[]))])) a ((Go.Proofs.Ytfpnadmpmfcaaaa.rdF l.length (Go.Proofs.Ytfpnadmpmfcaaaa.wF l)).getD (a + (2 : Int)).toNat Inhabited.default).n.toNat).length (Go.Proofs.Ytfpnadmpmfcaaaa.wF (Go.Proofs.Ytfpnadmpmfcaaaa.fillN (Go.Proofs.Ytfpnadmpmfcaaaa.rdF (Go.Proofs.Ytfpnadmpmfcaaaa.rdF l.length (Go.Proofs.Ytfpnadmpmfcaaaa.wF l)).length (Rx.setRow (Rx.setRow (Go.Proofs.Ytfpnadmpmfcaaaa.wF (Go.Proofs.Ytfpnadmpmfcaaaa.rdF l.length (Go.Proofs.Ytfpnadmpmfcaaaa.wF l))) a.toNat (0 : Nat) [Rx.Dt.cell (Go.Value.int Go.IntKind.i64 (10 : Int)), Rx.Dt.cell (Go.Value.int Go.IntKind.i64 b), Rx.Dt.cell (Go.Value.string (ByteArray.mk #[]))]) (a + (1 : Int)).toNat (0 : Nat) [Rx.Dt.cell (Go.Value.int Go.IntKind.i64 (1 : Int)), Rx.Dt.cell (Go.Value.int Go.IntKind.i64 (0 : Int)), Rx.Dt.cell (Go.Value.string (ByteArray.mk #[]))])) a ((Go.Proofs.Ytfpnadmpmfcaaaa.rdF l.length (Go.Proofs.Ytfpnadmpmfcaaaa.wF l)).getD (a + (2 : Int)).toNat Inhabited.default).n.toNat))) lim = Bool.true) →
                                        (((((0 : Int) != (0 : Int)) = Bool.true) →
                                          (True ∧
                                           R (SV.tup [SV.agg [SV.dt (Dt.cell (Go.Value.slice Option.none (0 : Nat) (0 : Nat))), SV.ki Go.IntKind.i64 ((0 : Int))], SV.dt (Dt.cell (Go.Value.int Go.IntKind.i64 (4 : Int)))]) ([]))) ∧
                                         ((((0 : Int) != (0 : Int)) = Bool.false) →
                                          (True ∧
                                           R (SV.tup [SV.agg [SV.dt (Dt.arr ((3 : Nat)) ((Go.Proofs.Ytfpnadmpmfcaaaa.fillN (Go.Proofs.Ytfpnadmpmfcaaaa.rdF (Go.Proofs.Ytfpnadmpmfcaaaa.rdF l.length (Go.Proofs.Ytfpnadmpmfcaaaa.wF l)).length (Rx.setRow (Rx.setRow (Go.Proofs.Ytfpnadmpmfcaaaa.wF (Go.Proofs.Ytfpnadmpmfcaaaa.rdF l.length (Go.Proofs.Ytfpnadmpmfcaaaa.wF l))) a.toNat (0 : Nat) [Rx.Dt.cell (Go.Value.int Go.IntKind.i64 (10 : Int)), Rx.Dt.cell (Go.Value.int Go.IntKind.i64 b), Rx.Dt.cell (Go.Value.string (ByteArray.mk #[]))]) (a + (1 : Int)).toNat (0 : Nat) [Rx.Dt.cell (Go.Value.int Go.IntKind.i64 (1 : Int)), Rx.Dt.cell (Go.Value.int Go.IntKind.i64 (0 : Int)), Rx.Dt.cell (Go.Value.string (ByteArray.mk #[]))])) a ((Go.Proofs.Ytfpnadmpmfcaaaa.rdF l.length (Go.Proofs.Ytfpnadmpmfcaaaa.wF l)).getD (a + (2 : Int)).toNat Inhabited.default).n.toNat).length) (Go.Proofs.Ytfpnadmpmfcaaaa.wF (Go.Proofs.Ytfpnadmpmfcaaaa.fillN (Go.Proofs.Ytfpnadmpmfcaaaa.rdF (Go.Proofs.Ytfpnadmpmfcaaaa.rdF l.length (Go.Proofs.Ytfpnadmpmfcaaaa.wF l)).length (Rx.setRow (Rx.setRow (Go.Proofs.Ytfpnadmpmfcaaaa.wF (Go.Proofs.Ytfpnadmpmfcaaaa.rdF l.length (Go.Proofs.Ytfpnadmpmfcaaaa.wF l))) a.toNat (0 : Nat) [Rx.Dt.cell (Go.Value.int Go.IntKind.i64 (10 : Int)), Rx.Dt.cell (Go.Value.int Go.IntKind.i64 b), Rx.Dt.cell (Go.Value.string (ByteArray.mk #[]))]) (a + (1 : Int)).toNat (0 : Nat) [Rx.Dt.cell (Go.Value.int Go.IntKind.i64 (1 : Int)), Rx.Dt.cell (Go.Value.int Go.IntKind.i64 (0 : Int)), Rx.Dt.cell (Go.Value.string (ByteArray.mk #[]))])) a ((Go.Proofs.Ytfpnadmpmfcaaaa.rdF l.length (Go.Proofs.Ytfpnadmpmfcaaaa.wF l)).getD (a + (2 : Int)).toNat Inhabited.default).n.toNat))), SV.dt (Dt.cell (Go.Value.int Go.IntKind.i64 lim))], SV.dt (Dt.cell (Go.Value.int Go.IntKind.i64 (0 : Int)))]) ([]))))) ∧
                                       ((Go.Proofs.Ytfpnadmpmfcaaaa.checkB (Go.Proofs.Ytfpnadmpmfcaaaa.rdF (Go.Proofs.Ytfpnadmpmfcaaaa.fillN (Go.Proofs.Ytfpnadmpmfcaaaa.rdF (Go.Proofs.Ytfpnadmpmfcaaaa.rdF l.length (Go.Proofs.Ytfpnadmpmfcaaaa.wF l)).length (Rx.setRow (Rx.setRow (Go.Proofs.Ytfpnadmpmfcaaaa.wF (Go.Proofs.Ytfpnadmpmfcaaaa.rdF l.length (Go.Proofs.Ytfpnadmpmfcaaaa.wF l))) a.toNat (0 : Nat) [Rx.Dt.cell (Go.Value.int Go.IntKind.i64 (10 : Int)), Rx.Dt.cell (Go.Value.int Go.IntKind.i64 b), Rx.Dt.cell (Go.Value.string (ByteArray.mk #[]))]) (a + (1 : Int)).toNat (0 : Nat) [Rx.Dt.cell (Go.Value.int Go.IntKind.i64 (1 : Int)), Rx.Dt.cell (Go.Value.int Go.IntKind.i64 (0 : Int)), Rx.Dt.cell (Go.Value.string (ByteArray.mk #[]))])) a ((Go.Proofs.Ytfpnadmpmfcaaaa.rdF l.length (Go.Proofs.Ytfpnadmpmfcaaaa.wF l)).getD (a + (2 : Int)).toNat Inhabited.default).n.toNat).length (Go.Proofs.Ytfpnadmpmfcaaaa.wF (Go.Proofs.Ytfpnadmpmfcaaaa.fillN (Go.Proofs.Ytfpnadmpmfcaaaa.rdF (Go.Proofs.Ytfpnadmpmfcaaaa.rdF l.length (Go.Proofs.Ytfpnadmpmfcaaaa.wF l)).length (Rx.setRow (Rx.setRow (Go.Proofs.Ytfpnadmpmfcaaaa.wF (Go.Proofs.Ytfpnadmpmfcaaaa.rdF l.length (Go.Proofs.Ytfpnadmpmfcaaaa.wF l))) a.toNat (0 : Nat) [Rx.Dt.cell (Go.Value.int Go.IntKind.i64 (10 : Int)), Rx.Dt.cell (Go.Value.int Go.IntKind.i64 b), Rx.Dt.cell (Go.Value.string (ByteArray.mk #[]))]) (a + (1 : Int)).toNat (0 : Nat) [Rx.Dt.cell (Go.Value.int Go.IntKind.i64 (1 : Int)), Rx.Dt.cell (Go.Value.int Go.IntKind.i64 (0 : Int)), Rx.Dt.cell (Go.Value.string (ByteArray.mk #[]))])) a ((Go.Proofs.Ytfpnadmpmfcaaaa.rdF l.length (Go.Proofs.Ytfpnadmpmfcaaaa.wF l)).getD (a + (2 : Int)).toNat Inhabited.default).n.toNat))) lim = Bool.false) →
                                        (((((9 : Int) != (0 : Int)) = Bool.true) →
                                          (True ∧
                                           R (SV.tup [SV.agg [SV.dt (Dt.cell (Go.Value.slice Option.none (0 : Nat) (0 : Nat))), SV.ki Go.IntKind.i64 ((0 : Int))], SV.dt (Dt.cell (Go.Value.int Go.IntKind.i64 (4 : Int)))]) ([]))) ∧
                                         ((((9 : Int) != (0 : Int)) = Bool.false) →
                                          (True ∧
                                           R (SV.tup [SV.agg [SV.dt (Dt.arr ((3 : Nat)) ((Go.Proofs.Ytfpnadmpmfcaaaa.fillN (Go.Proofs.Ytfpnadmpmfcaaaa.rdF (Go.Proofs.Ytfpnadmpmfcaaaa.rdF l.length (Go.Proofs.Ytfpnadmpmfcaaaa.wF l)).length (Rx.setRow (Rx.setRow (Go.Proofs.Ytfpnadmpmfcaaaa.wF (Go.Proofs.Ytfpnadmpmfcaaaa.rdF l.length (Go.Proofs.Ytfpnadmpmfcaaaa.wF l))) a.toNat (0 : Nat) [Rx.Dt.cell (Go.Value.int Go.IntKind.i64 (10 : Int)), Rx.Dt.cell (Go.Value.int Go.IntKind.i64 b), Rx.Dt.cell (Go.Value.string (ByteArray.mk #[]))]) (a + (1 : Int)).toNat (0 : Nat) [Rx.Dt.cell (Go.Value.int Go.IntKind.i64 (1 : Int)), Rx.Dt.cell (Go.Value.int Go.IntKind.i64 (0 : Int)), Rx.Dt.cell (Go.Value.string (ByteArray.mk #[]))])) a ((Go.Proofs.Ytfpnadmpmfcaaaa.rdF l.length (Go.Proofs.Ytfpnadmpmfcaaaa.wF l)).getD (a + (2 : Int)).toNat Inhabited.default).n.toNat).length) (Go.Proofs.Ytfpnadmpmfcaaaa.wF (Go.Proofs.Ytfpnadmpmfcaaaa.fillN (Go.Proofs.Ytfpnadmpmfcaaaa.rdF (Go.Proofs.Ytfpnadmpmfcaaaa.rdF l.length (Go.Proofs.Ytfpnadmpmfcaaaa.wF l)).length (Rx.setRow (Rx.setRow (Go.Proofs.Ytfpnadmpmfcaaaa.wF (Go.Proofs.Ytfpnadmpmfcaaaa.rdF l.length (Go.Proofs.Ytfpnadmpmfcaaaa.wF l))) a.toNat (0 : Nat) [Rx.Dt.cell (Go.Value.int Go.IntKind.i64 (10 : Int)), Rx.Dt.cell (Go.Value.int Go.IntKind.i64 b), Rx.Dt.cell (Go.Value.string (ByteArray.mk #[]))]) (a + (1 : Int)).toNat (0 : Nat) [Rx.Dt.cell (Go.Value.int Go.IntKind.i64 (1 : Int)), Rx.Dt.cell (Go.Value.int Go.IntKind.i64 (0 : Int)), Rx.Dt.cell (Go.Value.string (ByteArray.mk #[]))])) a ((Go.Proofs.Ytfpnadmpmfcaaaa.rdF l.length (Go.Proofs.Ytfpnadmpmfcaaaa.wF l)).getD (a + (2 : Int)).toNat Inhabited.default).n.toNat))), SV.dt (Dt.cell (Go.Value.int Go.IntKind.i64 lim))], SV.dt (Dt.cell (Go.Value.int Go.IntKind.i64 (0 : Int)))]) ([])))))))))))))))))))))))))))))))))))))))))) ∧
  ((Go.Proofs.Ytfpnadmpmfcaaaa.checkB (Go.Proofs.Ytfpnadmpmfcaaaa.rdF l.length (Go.Proofs.Ytfpnadmpmfcaaaa.wF l)) lim = Bool.false) →
   (((((9 : Int) != (0 : Int)) = Bool.true) →
     (True ∧
      R (SV.tup [SV.agg [SV.dt (Dt.cell (Go.Value.slice Option.none (0 : Nat) (0 : Nat))), SV.ki Go.IntKind.i64 ((0 : Int))], SV.dt (Dt.cell (Go.Value.int Go.IntKind.i64 (9 : Int)))]) ([]))) ∧
    ((((9 : Int) != (0 : Int)) = Bool.false) →
     ((Rx.leL ([SV.dt (Dt.arr ((3 : Nat)) (l.length) (Go.Proofs.Ytfpnadmpmfcaaaa.wF l))]) ([SV.dt (Dt.arr ((3 : Nat)) ((Go.Proofs.Ytfpnadmpmfcaaaa.rdF l.length (Go.Proofs.Ytfpnadmpmfcaaaa.wF l)).length) (Go.Proofs.Ytfpnadmpmfcaaaa.wF (Go.Proofs.Ytfpnadmpmfcaaaa.rdF l.length (Go.Proofs.Ytfpnadmpmfcaaaa.wF l))))])) ∧
      ((Rx.leObL ([]) ([])) ∧
       ((Go.Proofs.Ytfpnadmpmfcaaaa.fitsW (Go.Proofs.Ytfpnadmpmfcaaaa.rdF l.length (Go.Proofs.Ytfpnadmpmfcaaaa.wF l))) ∧
        ((((Go.Proofs.Ytfpnadmpmfcaaaa.startsS (Go.Proofs.Ytfpnadmpmfcaaaa.rdF l.length (Go.Proofs.Ytfpnadmpmfcaaaa.wF l))).isSome = Bool.true) →
          ((((!Rx.toB ((Rx.mget (Rx.Ty.int Go.IntKind.i64) (Go.Proofs.Ytfpnadmpmfcaaaa.stM ((Go.Proofs.Ytfpnadmpmfcaaaa.startsS (Go.Proofs.Ytfpnadmpmfcaaaa.rdF l.length (Go.Proofs.Ytfpnadmpmfcaaaa.wF l))).getD [])) a).getD Rx.Ty.bool.dflt)) = Bool.true) →
            (True ∧
             R (SV.tup [SV.agg [SV.dt (Dt.cell (Go.Value.slice Option.none (0 : Nat) (0 : Nat))), SV.ki Go.IntKind.i64 ((0 : Int))], SV.dt (Dt.cell (Go.Value.int Go.IntKind.i64 (3 : Int)))]) ([]))) ∧
           (((!Rx.toB ((Rx.mget (Rx.Ty.int Go.IntKind.i64) (Go.Proofs.Ytfpnadmpmfcaaaa.stM ((Go.Proofs.Ytfpnadmpmfcaaaa.startsS (Go.Proofs.Ytfpnadmpmfcaaaa.rdF l.length (Go.Proofs.Ytfpnadmpmfcaaaa.wF l))).getD [])) a).getD Rx.Ty.bool.dflt)) = Bool.false) →
            ((((!Rx.toB ((Rx.mget (Rx.Ty.int Go.IntKind.i64) (Go.Proofs.Ytfpnadmpmfcaaaa.stM ((Go.Proofs.Ytfpnadmpmfcaaaa.startsS (Go.Proofs.Ytfpnadmpmfcaaaa.rdF l.length (Go.Proofs.Ytfpnadmpmfcaaaa.wF l))).getD [])) b).getD Rx.Ty.bool.dflt)) = Bool.true) →
              (True ∧
               R (SV.tup [SV.agg [SV.dt (Dt.cell (Go.Value.slice Option.none (0 : Nat) (0 : Nat))), SV.ki Go.IntKind.i64 ((0 : Int))], SV.dt (Dt.cell (Go.Value.int Go.IntKind.i64 (3 : Int)))]) ([]))) ∧
             (((!Rx.toB ((Rx.mget (Rx.Ty.int Go.IntKind.i64) (Go.Proofs.Ytfpnadmpmfcaaaa.stM ((Go.Proofs.Ytfpnadmpmfcaaaa.startsS (Go.Proofs.Ytfpnadmpmfcaaaa.rdF l.length (Go.Proofs.Ytfpnadmpmfcaaaa.wF l))).getD [])) b).getD Rx.Ty.bool.dflt)) = Bool.false) →
              ((((0 : Int) ≤ a) ∧
                (a < (↑l.length : Int))) ∧
               (((((l.getD a.toNat Inhabited.default).k != (9 : Int)) = Bool.true) →
                 (True ∧
                  R (SV.tup [SV.agg [SV.dt (Dt.cell (Go.Value.slice Option.none (0 : Nat) (0 : Nat))), SV.ki Go.IntKind.i64 ((0 : Int))], SV.dt (Dt.cell (Go.Value.int Go.IntKind.i64 (3 : Int)))]) ([]))) ∧
                ((((l.getD a.toNat Inhabited.default).k != (9 : Int)) = Bool.false) →
                 ((((0 : Int) ≤ b) ∧
                   (b < (↑l.length : Int))) ∧
                  (((((l.getD b.toNat Inhabited.default).k != (9 : Int)) = Bool.true) →
                    (True ∧
                     R (SV.tup [SV.agg [SV.dt (Dt.cell (Go.Value.slice Option.none (0 : Nat) (0 : Nat))), SV.ki Go.IntKind.i64 ((0 : Int))], SV.dt (Dt.cell (Go.Value.int Go.IntKind.i64 (3 : Int)))]) ([]))) ∧
                   ((((l.getD b.toNat Inhabited.default).k != (9 : Int)) = Bool.false) →
                    ((((a == b) = Bool.true) →
                      (True ∧
                       R (SV.tup [SV.agg [SV.dt (Dt.cell (Go.Value.slice Option.none (0 : Nat) (0 : Nat))), SV.ki Go.IntKind.i64 ((0 : Int))], SV.dt (Dt.cell (Go.Value.int Go.IntKind.i64 (3 : Int)))]) ([]))) ∧
                     (((a == b) = Bool.false) →
                      ((Rx.leL ([SV.dt (Dt.arr ((3 : Nat)) (l.length) (Go.Proofs.Ytfpnadmpmfcaaaa.wF l))]) ([SV.dt (Dt.arr ((3 : Nat)) ((Go.Proofs.Ytfpnadmpmfcaaaa.rdF l.length (Go.Proofs.Ytfpnadmpmfcaaaa.wF l)).length) (Go.Proofs.Ytfpnadmpmfcaaaa.wF (Go.Proofs.Ytfpnadmpmfcaaaa.rdF l.length (Go.Proofs.Ytfpnadmpmfcaaaa.wF l))))])) ∧
                       ((Rx.leObL ([]) ([])) ∧
                        ((Go.Proofs.Ytfpnadmpmfcaaaa.fitsW (Go.Proofs.Ytfpnadmpmfcaaaa.rdF l.length (Go.Proofs.Ytfpnadmpmfcaaaa.wF l))) ∧
                         (((Rx.lo Go.IntKind.i64 ≤ a + (2 : Int)) ∧
                           (a + (2 : Int) ≤ Rx.hi Go.IntKind.i64)) ∧
                          ((((0 : Int) ≤ a + (2 : Int)) ∧
                            (a + (2 : Int) < (↑(Go.Proofs.Ytfpnadmpmfcaaaa.rdF l.length (Go.Proofs.Ytfpnadmpmfcaaaa.wF l)).length : Int))) ∧
                           (((a + (2 : Int)).toNat < (Go.Proofs.Ytfpnadmpmfcaaaa.rdF l.length (Go.Proofs.Ytfpnadmpmfcaaaa.wF l)).length) ∧
                            (((Rx.lo Go.IntKind.i64 ≤ a + (1 : Int)) ∧
                              (a + (1 : Int) ≤ Rx.hi Go.IntKind.i64)) ∧
                             ((((0 : Int) ≤ a) ∧
                               (a < (↑(Go.Proofs.Ytfpnadmpmfcaaaa.rdF l.length (Go.Proofs.Ytfpnadmpmfcaaaa.wF l)).length : Int))) ∧
                              ((a.toNat < (Go.Proofs.Ytfpnadmpmfcaaaa.rdF l.length (Go.Proofs.Ytfpnadmpmfcaaaa.wF l)).length) ∧
                               ((((0 : Int) ≤ a + (1 : Int)) ∧
                                 (a + (1 : Int) < (↑(Go.Proofs.Ytfpnadmpmfcaaaa.rdF l.length (Go.Proofs.Ytfpnadmpmfcaaaa.wF l)).length : Int))) ∧
                                (((a + (1 : Int)).toNat < (Go.Proofs.Ytfpnadmpmfcaaaa.rdF l.length (Go.Proofs.Ytfpnadmpmfcaaaa.wF l)).length) ∧
                                 (((Rx.leS (SV.dt (Dt.cell (Go.Value.int Go.IntKind.i64 a))) (SV.dt (Dt.cell (Go.Value.int Go.IntKind.i64 a)))) ∧
                                   ((Rx.leS (SV.ptr 0 0) (SV.ptr 0 0)) ∧
                                    ((Rx.leS (SV.ptr 1 0) (SV.ptr 1 0)) ∧
                                     ((Rx.leS (SV.dt (Dt.cell (Go.Value.int Go.IntKind.i64 ((Go.Proofs.Ytfpnadmpmfcaaaa.rdF l.length (Go.Proofs.Ytfpnadmpmfcaaaa.wF l)).getD (a + (2 : Int)).toNat Inhabited.default).n))) (SV.dt (Dt.cell (Go.Value.int Go.IntKind.i64 ((Go.Proofs.Ytfpnadmpmfcaaaa.rdF l.length (Go.Proofs.Ytfpnadmpmfcaaaa.wF l)).getD (a + (2 : Int)).toNat Inhabited.default).n)))) ∧
                                      ((Rx.leS (SV.dt (Dt.cell (Go.Value.int Go.IntKind.i64 (0 : Int)))) (SV.dt (Dt.cell (Go.Value.int Go.IntKind.i64 (↑(0 : Nat) : Int))))) ∧
                                       True))))) ∧
                                  ((Rx.leOO ([some (Ob.cells 25 [SV.dt (Dt.cell (Go.Value.slice Option.none (0 : Nat) (0 : Nat))), SV.ki Go.IntKind.i64 ((0 : Int))]), some (Ob.cells 25 [SV.nm 2, SV.dt (Dt.cell (Go.Value.int Go.IntKind.i64 lim))]), some (Ob.row 30 3 ((Go.Proofs.Ytfpnadmpmfcaaaa.rdF l.length (Go.Proofs.Ytfpnadmpmfcaaaa.wF l)).length) (Rx.setRow (Rx.setRow (Go.Proofs.Ytfpnadmpmfcaaaa.wF (Go.Proofs.Ytfpnadmpmfcaaaa.rdF l.length (Go.Proofs.Ytfpnadmpmfcaaaa.wF l))) a.toNat (0 : Nat) [Rx.Dt.cell (Go.Value.int Go.IntKind.i64 (10 : Int)), Rx.Dt.cell (Go.Value.int Go.IntKind.i64 b), Rx.Dt.cell (Go.Value.string (ByteArray.mk #[]))]) (a + (1 : Int)).toNat (0 : Nat) [Rx.Dt.cell (Go.Value.int Go.IntKind.i64 (1 : Int)), Rx.Dt.cell (Go.Value.int Go.IntKind.i64 (0 : Int)), Rx.Dt.cell (Go.Value.string (ByteArray.mk #[]))]))]) ([some (Ob.cells 25 [SV.junk, SV.junk]), some (Ob.cells 25 [SV.nm 2, SV.dt (Dt.cell (Go.Value.int Go.IntKind.i64 lim))]), some (Ob.row 30 3 ((Go.Proofs.Ytfpnadmpmfcaaaa.rdF (Go.Proofs.Ytfpnadmpmfcaaaa.rdF l.length (Go.Proofs.Ytfpnadmpmfcaaaa.wF l)).length (Rx.setRow (Rx.setRow (Go.Proofs.Ytfpnadmpmfcaaaa.wF (Go.Proofs.Ytfpnadmpmfcaaaa.rdF l.length (Go.Proofs.Ytfpnadmpmfcaaaa.wF l))) a.toNat (0 : Nat) [Rx.Dt.cell (Go.Value.int Go.IntKind.i64 (10 : Int)), Rx.Dt.cell (Go.Value.int Go.IntKind.i64 b), Rx.Dt.cell (Go.Value.string (ByteArray.mk #[]))]) (a + (1 : Int)).toNat (0 : Nat) [Rx.Dt.cell (Go.Value.int Go.IntKind.i64 (1 : Int)), Rx.Dt.cell (Go.Value.int Go.IntKind.i64 (0 : Int)), Rx.Dt.cell (Go.Value.string (ByteArray.mk #[]))])).length) (Go.Proofs.Ytfpnadmpmfcaaaa.wF (Go.Proofs.Ytfpnadmpmfcaaaa.rdF (Go.Proofs.Ytfpnadmpmfcaaaa.rdF l.length (Go.Proofs.Ytfpnadmpmfcaaaa.wF l)).length (Rx.setRow (Rx.setRow (Go.Proofs.Ytfpnadmpmfcaaaa.wF (Go.Proofs.Ytfpnadmpmfcaaaa.rdF l.length (Go.Proofs.Ytfpnadmpmfcaaaa.wF l))) a.toNat (0 : Nat) [Rx.Dt.cell (Go.Value.int Go.IntKind.i64 (10 : Int)), Rx.Dt.cell (Go.Value.int Go.IntKind.i64 b), Rx.Dt.cell (Go.Value.string (ByteArray.mk #[]))]) (a + (1 : Int)).toNat (0 : Nat) [Rx.Dt.cell (Go.Value.int Go.IntKind.i64 (1 : Int)), Rx.Dt.cell (Go.Value.int Go.IntKind.i64 (0 : Int)), Rx.Dt.cell (Go.Value.string (ByteArray.mk #[]))]))))])) ∧
                                   ((((0 : Int) ≤ a) ∧
                                     (((0 : Int) ≤ ((Go.Proofs.Ytfpnadmpmfcaaaa.rdF l.length (Go.Proofs.Ytfpnadmpmfcaaaa.wF l)).getD (a + (2 : Int)).toNat Inhabited.default).n) ∧
                                      ((((Go.Proofs.Ytfpnadmpmfcaaaa.rdF l.length (Go.Proofs.Ytfpnadmpmfcaaaa.wF l)).getD (a + (2 : Int)).toNat Inhabited.default).n ≤ (6 : Int)) ∧
                                       ((a + (3 : Int) + ((Go.Proofs.Ytfpnadmpmfcaaaa.rdF l.length (Go.Proofs.Ytfpnadmpmfcaaaa.wF l)).getD (a + (2 : Int)).toNat Inhabited.default).n ≤ (↑(Go.Proofs.Ytfpnadmpmfcaaaa.rdF (Go.Proofs.Ytfpnadmpmfcaaaa.rdF l.length (Go.Proofs.Ytfpnadmpmfcaaaa.wF l)).length (Rx.setRow (Rx.setRow (Go.Proofs.Ytfpnadmpmfcaaaa.wF (Go.Proofs.Ytfpnadmpmfcaaaa.rdF l.length (Go.Proofs.Ytfpnadmpmfcaaaa.wF l))) a.toNat (0 : Nat) [Rx.Dt.cell (Go.Value.int Go.IntKind.i64 (10 : Int)), Rx.Dt.cell (Go.Value.int Go.IntKind.i64 b), Rx.Dt.cell (Go.Value.string (ByteArray.mk #[]))]) (a + (1 : Int)).toNat (0 : Nat) [Rx.Dt.cell (Go.Value.int Go.IntKind.i64 (1 : Int)), Rx.Dt.cell (Go.Value.int Go.IntKind.i64 (0 : Int)), Rx.Dt.cell (Go.Value.string (ByteArray.mk #[]))])).length : Int)) ∧
                                        (((Go.Proofs.Ytfpnadmpmfcaaaa.rdF (Go.Proofs.Ytfpnadmpmfcaaaa.rdF l.length (Go.Proofs.Ytfpnadmpmfcaaaa.wF l)).length (Rx.setRow (Rx.setRow (Go.Proofs.Ytfpnadmpmfcaaaa.wF (Go.Proofs.Ytfpnadmpmfcaaaa.rdF l.length (Go.Proofs.Ytfpnadmpmfcaaaa.wF l))) a.toNat (0 : Nat) [Rx.Dt.cell (Go.Value.int Go.IntKind.i64 (10 : Int)), Rx.Dt.cell (Go.Value.int Go.IntKind.i64 b), Rx.Dt.cell (Go.Value.string (ByteArray.mk #[]))]) (a + (1 : Int)).toNat (0 : Nat) [Rx.Dt.cell (Go.Value.int Go.IntKind.i64 (1 : Int)), Rx.Dt.cell (Go.Value.int Go.IntKind.i64 (0 : Int)), Rx.Dt.cell (Go.Value.string (ByteArray.mk #[]))])).length ≤ (60000 : Nat)) ∧
                                         ((↑(0 : Nat) : Int) ≤ ((Go.Proofs.Ytfpnadmpmfcaaaa.rdF l.length (Go.Proofs.Ytfpnadmpmfcaaaa.wF l)).getD (a + (2 : Int)).toNat Inhabited.default).n)))))) ∧
                                    ((Rx.leL ([SV.agg [SV.dt (Dt.arr ((3 : Nat)) ((Go.Proofs.Ytfpnadmpmfcaaaa.fillN (Go.Proofs.Ytfpnadmpmfcaaaa.rdF (Go.Proofs.Ytfpnadmpmfcaaaa.rdF l.length (Go.Proofs.Ytfpnadmpmfcaaaa.wF l)).length (Rx.setRow (Rx.setRow (Go.Proofs.Ytfpnadmpmfcaaaa.wF (Go.Proofs.Ytfpnadmpmfcaaaa.rdF l.length (Go.Proofs.Ytfpnadmpmfcaaaa.wF l))) a.toNat (0 : Nat) [Rx.Dt.cell (Go.Value.int Go.IntKind.i64 (10 : Int)), Rx.Dt.cell (Go.Value.int Go.IntKind.i64 b), Rx.Dt.cell (Go.Value.string (ByteArray.mk #[]))]) (a + (1 : Int)).toNat (0 : Nat) [Rx.Dt.cell (Go.Value.int Go.IntKind.i64 (1 : Int)), Rx.Dt.cell (Go.Value.int Go.IntKind.i64 (0 : Int)), Rx.Dt.cell (Go.Value.string (ByteArray.mk #[]))])) a ((Go.Proofs.Ytfpnadmpmfcaaaa.rdF l.length (Go.Proofs.Ytfpnadmpmfcaaaa.wF l)).getD (a + (2 : Int)).toNat Inhabited.default).n.toNat).length) (Go.Proofs.Ytfpnadmpmfcaaaa.wF (Go.Proofs.Ytfpnadmpmfcaaaa.fillN (Go.Proofs.Ytfpnadmpmfcaaaa.rdF (Go.Proofs.Ytfpnadmpmfcaaaa.rdF l.length (Go.Proofs.Ytfpnadmpmfcaaaa.wF l)).length (Rx.setRow (Rx.setRow (Go.Proofs.Ytfpnadmpmfcaaaa.wF (Go.Proofs.Ytfpnadmpmfcaaaa.rdF l.length (Go.Proofs.Ytfpnadmpmfcaaaa.wF l))) a.toNat (0 : Nat) [Rx.Dt.cell (Go.Value.int Go.IntKind.i64 (10 : Int)), Rx.Dt.cell (Go.Value.int Go.IntKind.i64 b), Rx.Dt.cell (Go.Value.string (ByteArray.mk #[]))]) (a + (1 : Int)).toNat (0 : Nat) [Rx.Dt.cell (Go.Value.int Go.IntKind.i64 (1 : Int)), Rx.Dt.cell (Go.Value.int Go.IntKind.i64 (0 : Int)), Rx.Dt.cell (Go.Value.string (ByteArray.mk #[]))])) a ((Go.Proofs.Ytfpnadmpmfcaaaa.rdF l.length (Go.Proofs.Ytfpnadmpmfcaaaa.wF l)).getD (a + (2 : Int)).toNat Inhabited.default).n.toNat))), SV.dt (Dt.cell (Go.Value.int Go.IntKind.i64 lim))]]) ([SV.agg [SV.dt (Dt.arr ((3 : Nat)) ((Go.Proofs.Ytfpnadmpmfcaaaa.rdF (Go.Proofs.Ytfpnadmpmfcaaaa.fillN (Go.Proofs.Ytfpnadmpmfcaaaa.rdF (Go.Proofs.Ytfpnadmpmfcaaaa.rdF l.length (Go.Proofs.Ytfpnadmpmfcaaaa.wF l)).length (Rx.setRow (Rx.setRow (Go.Proofs.Ytfpnadmpmfcaaaa.wF (Go.Proofs.Ytfpnadmpmfcaaaa.rdF l.length (Go.Proofs.Ytfpnadmpmfcaaaa.wF l))) a.toNat (0 : Nat) [Rx.Dt.cell (Go.Value.int Go.IntKind.i64 (10 : Int)), Rx.Dt.cell (Go.Value.int Go.IntKind.i64 b), Rx.Dt.cell (Go.Value.string (ByteArray.mk #[]))]) (a + (1 : Int)).toNat (0 : Nat) [Rx.Dt.cell (Go.Value.int Go.IntKind.i64 (1 : Int)), Rx.Dt.cell (Go.Value.int Go.IntKind.i64 (0 : Int)), Rx.Dt.cell (Go.Value.string (ByteArray.mk #[]))])) a ((Go.Proofs.Ytfpnadmpmfcaaaa.rdF l.length (Go.Proofs.Ytfpnadmpmfcaaaa.wF l)).getD (a + (2 : Int)).toNat Inhabited.default).n.toNat).length (Go.Proofs.Ytfpnadmpmfcaaaa.wF (Go.Proofs.Ytfpnadmpmfcaaaa.fillN (Go.Proofs.Ytfpnadmpmfcaaaa.rdF (Go.Proofs.Ytfpnadmpmfcaaaa.rdF l.length (Go.Proofs.Ytfpnadmpmfcaaaa.wF l)).length (Rx.setRow (Rx.setRow (Go.Proofs.Ytfpnadmpmfcaaaa.wF (Go.Proofs.Ytfpnadmpmfcaaaa.rdF l.length (Go.Proofs.Ytfpnadmpmfcaaaa.wF l))) a.toNat (0 : Nat) [Rx.Dt.cell (Go.Value.int Go.IntKind.i64 (10 : Int)), Rx.Dt.cell (Go.Value.int Go.IntKind.i64 b), Rx.Dt.cell (Go.Value.string (ByteArray.mk #[]))]) (a + (1 : Int)).toNat (0 : Nat) [Rx.Dt.cell (Go.Value.int Go.IntKind.i64 (1 : Int)), Rx.Dt.cell (Go.Value.int Go.IntKind.i64 (0 : Int)), Rx.Dt.cell (Go.Value.string (ByteArray.mk #[]))])) a ((Go.Proofs.Ytfpnadmpmfcaaaa.rdF l.length (Go.Proofs.Ytfpnadmpmfcaaaa.wF l)).getD (a + (2 : Int)).toNat Inhabited.default).n.toNat))).length) (Go.Proofs.Ytfpnadmpmfcaaaa.wF (Go.Proofs.Ytfpnadmpmfcaaaa.rdF (Go.Proofs.Ytfpnadmpmfcaaaa.fillN (Go.Proofs.Ytfpnadmpmfcaaaa.rdF (Go.Proofs.Ytfpnadmpmfcaaaa.rdF l.length (Go.Proofs.Ytfpnadmpmfcaaaa.wF l)).length (Rx.setRow (Rx.setRow (Go.Proofs.Ytfpnadmpmfcaaaa.wF (Go.Proofs.Ytfpnadmpmfcaaaa.rdF l.length (Go.Proofs.Ytfpnadmpmfcaaaa.wF l))) a.toNat (0 : Nat) [Rx.Dt.cell (Go.Value.int Go.IntKind.i64 (10 : Int)), Rx.Dt.cell (Go.Value.int Go.IntKind.i64 b), Rx.Dt.cell (Go.Value.string (ByteArray.mk #[]))]) (a + (1 : Int)).toNat (0 : Nat) [Rx.Dt.cell (Go.Value.int Go.IntKind.i64 (1 : Int)), Rx.Dt.cell (Go.Value.int Go.IntKind.i64 (0 : Int)), Rx.Dt.cell (Go.Value.string (ByteArray.mk #[]))])) a ((Go.Proofs.Ytfpnadmpmfcaaaa.rdF l.length (Go.Proofs.Ytfpnadmpmfcaaaa.wF l)).getD (a + (2 : Int)).toNat Inhabited.default).n.toNat).length (Go.Proofs.Ytfpnadmpmfcaaaa.wF (Go.Proofs.Ytfpnadmpmfcaaaa.fillN (Go.Proofs.Ytfpnadmpmfcaaaa.rdF (Go.Proofs.Ytfpnadmpmfcaaaa.rdF l.length (Go.Proofs.Ytfpnadmpmfcaaaa.wF l)).length (Rx.setRow (Rx.setRow (Go.Proofs.Ytfpnadmpmfcaaaa.wF (Go.Proofs.Ytfpnadmpmfcaaaa.rdF l.length (Go.Proofs.Ytfpnadmpmfcaaaa.wF l))) a.toNat (0 : Nat) [Rx.Dt.cell (Go.Value.int Go.IntKind.i64 (10 : Int)), Rx.Dt.cell (Go.Value.int Go.IntKind.i64 b), Rx.Dt.cell (Go.Value.string (ByteArray.mk #[]))]) (a + (1 : Int)).toNat (0 : Nat) [Rx.Dt.cell (Go.Value.int Go.IntKind.i64 (1 : Int)), Rx.Dt.cell (Go.Value.int Go.IntKind.i64 (0 : Int)), Rx.Dt.cell (Go.Value.string (ByteArray.mk #[]))])) a ((Go.Proofs.Ytfpnadmpmfcaaaa.rdF l.length (Go.Proofs.Ytfpnadmpmfcaaaa.wF l)).getD (a + (2 : Int)).toNat Inhabited.default).n.toNat))))), SV.dt (Dt.cell (Go.Value.int Go.IntKind.i64 lim))]])) ∧
                                     ((Rx.leObL ([]) ([])) ∧
                                      (((Go.Proofs.Ytfpnadmpmfcaaaa.checkB (Go.Proofs.Ytfpnadmpmfcaaaa.rdF (Go.Proofs.Ytfpnadmpmfcaaaa.fillN (Go.Proofs.Ytfpnadmpmfcaaaa.rdF (Go.Proofs.Ytfpnadmpmfcaaaa.rdF l.length (Go.Proofs.Ytfpnadmpmfcaaaa.wF l)).length (Rx.setRow (Rx.setRow (Go.Proofs.Ytfpnadmpmfcaaaa.wF (Go.Proofs.Ytfpnadmpmfcaaaa.rdF l.length (Go.Proofs.Ytfpnadmpmfcaaaa.wF l))) a.toNat (0 : Nat) [Rx.Dt.cell (Go.Value.int Go.IntKind.i64 (10 : Int)), Rx.Dt.cell (Go.Value.int Go.IntKind.i64 b), Rx.Dt.cell (Go.Value.string (ByteArray.mk #[]))]) (a + (1 : Int)).toNat (0 : Nat) [Rx.Dt.cell (Go.Value.int Go.IntKind.i64 (1 : Int)), Rx.Dt.cell (Go.Value.int Go.IntKind.i64 (0 : Int)), Rx.Dt.cell (Go.Value.string (ByteArray.mk #[]))])) a ((Go.Proofs.Ytfpnadmpmfcaaaa.rdF l.length (Go.Proofs.Ytfpnadmpmfcaaaa.wF l)).getD (a + (2 : Int)).toNat Inhabited.default).n.toNat).length (Go.Proofs.Ytfpnadmpmfcaaaa.wF (Go.Proofs.Ytfpnadmpmfcaaaa.fillN (Go.Proofs.Ytfpnadmpmfcaaaa.rdF (Go.Proofs.Ytfpnadmpmfcaaaa.rdF l.length (Go.Proofs.Ytfpnadmpmfcaaaa.wF l)).length (Rx.setRow (Rx.setRow (Go.Proofs.Ytfpnadmpmfcaaaa.wF (Go.Proofs.Ytfpnadmpmfcaaaa.rdF l.length (Go.Proofs.Ytfpnadmpmfcaaaa.wF l))) a.toNat (0 : Nat) [Rx.Dt.cell (Go.Value.int Go.IntKind.i64 (10 : Int)), Rx.Dt.cell (Go.Value.int Go.IntKind.i64 b), Rx.Dt.cell (Go.Value.string (ByteArray.mk #[]))]) (a + (1 : Int)).toNat (0 : Nat) [Rx.Dt.cell (Go.Value.int Go.IntKind.i64 (1 : Int)), Rx.Dt.cell (Go.Value.int Go.IntKind.i64 (0 : Int)), Rx.Dt.cell (Go.Value.string (ByteArray.mk #[]))])) a ((Go.Proofs.Ytfpnadmpmfcaaaa.rdF l.length (Go.Proofs.Ytfpnadmpmfcaaaa.wF l)).getD (a + (2 : Int)).toNat Inhabited.default).n.toNat))) lim = Bool.true) →
                                        (((((0 : Int) != (0 : Int)) = Bool.true) →
                                          (True ∧
                                           R (SV.tup [SV.agg [SV.dt (Dt.cell (Go.Value.slice Option.none (0 : Nat) (0 : Nat))), SV.ki Go.IntKind.i64 ((0 : Int))], SV.dt (Dt.cell (Go.Value.int Go.IntKind.i64 (4 : Int)))]) ([]))) ∧
                                         ((((0 : Int) != (0 : Int)) = Bool.false) →
                                          (True ∧
                                           R (SV.tup [SV.agg [SV.dt (Dt.arr ((3 : Nat)) ((Go.Proofs.Ytfpnadmpmfcaaaa.fillN (Go.Proofs.Ytfpnadmpmfcaaaa.rdF (Go.Proofs.Ytfpnadmpmfcaaaa.rdF l.length (Go.Proofs.Ytfpnadmpmfcaaaa.wF l)).length (Rx.setRow (Rx.setRow (Go.Proofs.Ytfpnadmpmfcaaaa.wF (Go.Proofs.Ytfpnadmpmfcaaaa.rdF l.length (Go.Proofs.Ytfpnadmpmfcaaaa.wF l))) a.toNat (0 : Nat) [Rx.Dt.cell (Go.Value.int Go.IntKind.i64 (10 : Int)), Rx.Dt.cell (Go.Value.int Go.IntKind.i64 b), Rx.Dt.cell (Go.Value.string (ByteArray.mk #[]))]) (a + (1 : Int)).toNat (0 : Nat) [Rx.Dt.cell (Go.Value.int Go.IntKind.i64 (1 : Int)), Rx.Dt.cell (Go.Value.int Go.IntKind.i64 (0 : Int)), Rx.Dt.cell (Go.Value.string (ByteArray.mk #[]))])) a ((Go.Proofs.Ytfpnadmpmfcaaaa.rdF l.length (Go.Proofs.Ytfpnadmpmfcaaaa.wF l)).getD (a + (2 : Int)).toNat Inhabited.default).n.toNat).length) (Go.Proofs.Ytfpnadmpmfcaaaa.wF (Go.Proofs.Ytfpnadmpmfcaaaa.fillN (Go.Proofs.Ytfpnadmpmfcaaaa.rdF (Go.Proofs.Ytfpnadmpmfcaaaa.rdF l.length (Go.Proofs.Ytfpnadmpmfcaaaa.wF l)).length (Rx.setRow (Rx.setRow (Go.Proofs.Ytfpnadmpmfcaaaa.wF (Go.Proofs.Ytfpnadmpmfcaaaa.rdF l.length (Go.Proofs.Ytfpnadmpmfcaaaa.wF l))) a.toNat (0 : Nat) [Rx.Dt.cell (Go.Value.int Go.IntKind.i64 (10 : Int)), Rx.Dt.cell (Go.Value.int Go.IntKind.i64 b), Rx.Dt.cell (Go.Value.string (ByteArray.mk #[]))]) (a + (1 : Int)).toNat (0 : Nat) [Rx.Dt.cell (Go.Value.int Go.IntKind.i64 (1 : Int)), Rx.Dt.cell (Go.Value.int Go.IntKind.i64 (0 : Int)), Rx.Dt.cell (Go.Value.string (ByteArray.mk #[]))])) a ((Go.Proofs.Ytfpnadmpmfcaaaa.rdF l.length (Go.Proofs.Ytfpnadmpmfcaaaa.wF l)).getD (a + (2 : Int)).toNat Inhabited.default).n.toNat))), SV.dt (Dt.cell (Go.Value.int Go.IntKind.i64 lim))], SV.dt (Dt.cell (Go.Value.int Go.IntKind.i64 (0 : Int)))]) ([]))))) ∧
                                       ((Go.Proofs.Ytfpnadmpmfcaaaa.checkB (Go.Proofs.Ytfpnadmpmfcaaaa.rdF (Go.Proofs.Ytfpnadmpmfcaaaa.fillN (Go.Proofs.Ytfpnadmpmfcaaaa.rdF (Go.Proofs.Ytfpnadmpmfcaaaa.rdF l.length (Go.Proofs.Ytfpnadmpmfcaaaa.wF l)).length (Rx.setRow (Rx.setRow (Go.Proofs.Ytfpnadmpmfcaaaa.wF (Go.Proofs.Ytfpnadmpmfcaaaa.rdF l.length (Go.Proofs.Ytfpnadmpmfcaaaa.wF l))) a.toNat (0 : Nat) [Rx.Dt.cell (Go.Value.int Go.IntKind.i64 (10 : Int)), Rx.Dt.cell (Go.Value.int Go.IntKind.i64 b), Rx.Dt.cell (Go.Value.string (ByteArray.mk #[]))]) (a + (1 : Int)).toNat (0 : Nat) [Rx.Dt.cell (Go.Value.int Go.IntKind.i64 (1 : Int)), Rx.Dt.cell (Go.Value.int Go.IntKind.i64 (0 : Int)), Rx.Dt.cell (Go.Value.string (ByteArray.mk #[]))])) a ((Go.Proofs.Ytfpnadmpmfcaaaa.rdF l.length (Go.Proofs.Ytfpnadmpmfcaaaa.wF l)).getD (a + (2 : Int)).toNat Inhabited.default).n.toNat).length (Go.Proofs.Ytfpnadmpmfcaaaa.wF (Go.Proofs.Ytfpnadmpmfcaaaa.fillN (Go.Proofs.Ytfpnadmpmfcaaaa.rdF (Go.Proofs.Ytfpnadmpmfcaaaa.rdF l.length (Go.Proofs.Ytfpnadmpmfcaaaa.wF l)).length (Rx.setRow (Rx.setRow (Go.Proofs.Ytfpnadmpmfcaaaa.wF (Go.Proofs.Ytfpnadmpmfcaaaa.rdF l.length (Go.Proofs.Ytfpnadmpmfcaaaa.wF l))) a.toNat (0 : Nat) [Rx.Dt.cell (Go.Value.int Go.IntKind.i64 (10 : Int)), Rx.Dt.cell (Go.Value.int Go.IntKind.i64 b), Rx.Dt.cell (Go.Value.string (ByteArray.mk #[]))]) (a + (1 : Int)).toNat (0 : Nat) [Rx.Dt.cell (Go.Value.int Go.IntKind.i64 (1 : Int)), Rx.Dt.cell (Go.Value.int Go.IntKind.i64 (0 : Int)), Rx.Dt.cell (Go.Value.string (ByteArray.mk #[]))])) a ((Go.Proofs.Ytfpnadmpmfcaaaa.rdF l.length (Go.Proofs.Ytfpnadmpmfcaaaa.wF l)).getD (a + (2 : Int)).toNat Inhabited.default).n.toNat))) lim = Bool.false) →
                                        (((((9 : Int) != (0 : Int)) = Bool.true) →
                                          (True ∧
                                           R (SV.tup [SV.agg [SV.dt (Dt.cell (Go.Value.slice Option.none (0 : Nat) (0 : Nat))), SV.ki Go.IntKind.i64 ((0 : Int))], SV.dt (Dt.cell (Go.Value.int Go.IntKind.i64 (4 : Int)))]) ([]))) ∧
                                         ((((9 : Int) != (0 : Int)) = Bool.false) →
                                          (True ∧
                                           R (SV.tup [SV.agg [SV.dt (Dt.arr ((3 : Nat)) ((Go.Proofs.Ytfpnadmpmfcaaaa.fillN (Go.Proofs.Ytfpnadmpmfcaaaa.rdF (Go.Proofs.Ytfpnadmpmfcaaaa.rdF l.length (Go.Proofs.Ytfpnadmpmfcaaaa.wF l)).length (Rx.setRow (Rx.setRow (Go.Proofs.Ytfpnadmpmfcaaaa.wF (Go.Proofs.Ytfpnadmpmfcaaaa.rdF l.length (Go.Proofs.Ytfpnadmpmfcaaaa.wF l))) a.toNat (0 : Nat) [Rx.Dt.cell (Go.Value.int Go.IntKind.i64 (10 : Int)), Rx.Dt.cell (Go.Value.int Go.IntKind.i64 b), Rx.Dt.cell (Go.Value.string (ByteArray.mk #[]))]) (a + (1 : Int)).toNat (0 : Nat) [Rx.Dt.cell (Go.Value.int Go.IntKind.i64 (1 : Int)), Rx.Dt.cell (Go.Value.int Go.IntKind.i64 (0 : Int)), Rx.Dt.cell (Go.Value.string (ByteArray.mk #[]))])) a ((Go.Proofs.Ytfpnadmpmfcaaaa.rdF l.length (Go.Proofs.Ytfpnadmpmfcaaaa.wF l)).getD (a + (2 : Int)).toNat Inhabited.default).n.toNat).length) (Go.Proofs.Ytfpnadmpmfcaaaa.wF (Go.Proofs.Ytfpnadmpmfcaaaa.fillN (Go.Proofs.Ytfpnadmpmfcaaaa.rdF (Go.Proofs.Ytfpnadmpmfcaaaa.rdF l.length (Go.Proofs.Ytfpnadmpmfcaaaa.wF l)).length (Rx.setRow (Rx.setRow (Go.Proofs.Ytfpnadmpmfcaaaa.wF (Go.Proofs.Ytfpnadmpmfcaaaa.rdF l.length (Go.Proofs.Ytfpnadmpmfcaaaa.wF l))) a.toNat (0 : Nat) [Rx.Dt.cell (Go.Value.int Go.IntKind.i64 (10 : Int)), Rx.Dt.cell (Go.Value.int Go.IntKind.i64 b), Rx.Dt.cell (Go.Value.string (ByteArray.mk #[]))]) (a + (1 : Int)).toNat (0 : Nat) [Rx.Dt.cell (Go.Value.int Go.IntKind.i64 (1 : Int)), Rx.Dt.cell (Go.Value.int Go.IntKind.i64 (0 : Int)), Rx.Dt.cell (Go.Value.string (ByteArray.mk #[]))])) a ((Go.Proofs.Ytfpnadmpmfcaaaa.rdF l.length (Go.Proofs.Ytfpnadmpmfcaaaa.wF l)).getD (a + (2 : Int)).toNat Inhabited.default).n.toNat))), SV.dt (Dt.cell (Go.Value.int Go.IntKind.i64 lim))], SV.dt (Dt.cell (Go.Value.int Go.IntKind.i64 (0 : Int)))]) ([]))))))))))))))))))))))))))))))))))) ∧
         (((Go.Proofs.Ytfpnadmpmfcaaaa.startsS (Go.Proofs.Ytfpnadmpmfcaaaa.rdF l.length (Go.Proofs.Ytfpnadmpmfcaaaa.wF l))).isSome = Bool.false) →
          ((((!Rx.toB ((Rx.mget (Rx.Ty.int Go.IntKind.i64) [] a).getD Rx.Ty.bool.dflt)) = Bool.true) →
            (True ∧
             R (SV.tup [SV.agg [SV.dt (Dt.cell (Go.Value.slice Option.none (0 : Nat) (0 : Nat))), SV.ki Go.IntKind.i64 ((0 : Int))], SV.dt (Dt.cell (Go.Value.int Go.IntKind.i64 (3 : Int)))]) ([]))) ∧
           (((!Rx.toB ((Rx.mget (Rx.Ty.int Go.IntKind.i64) [] a).getD Rx.Ty.bool.dflt)) = Bool.false) →
            ((((!Rx.toB ((Rx.mget (Rx.Ty.int Go.IntKind.i64) [] b).getD Rx.Ty.bool.dflt)) = Bool.true) →
              (True ∧
               R (SV.tup [SV.agg [SV.dt (Dt.cell (Go.Value.slice Option.none (0 : Nat) (0 : Nat))), SV.ki Go.IntKind.i64 ((0 : Int))], SV.dt (Dt.cell (Go.Value.int Go.IntKind.i64 (3 : Int)))]) ([]))) ∧
             (((!Rx.toB ((Rx.mget (Rx.Ty.int Go.IntKind.i64) [] b).getD Rx.Ty.bool.dflt)) = Bool.false) →
              ((((0 : Int) ≤ a) ∧
                (a < (↑l.length : Int))) ∧
               (((((l.getD a.toNat Inhabited.default).k != (9 : Int)) = Bool.true) →
                 (True ∧
                  R (SV.tup [SV.agg [SV.dt (Dt.cell (Go.Value.slice Option.none (0 : Nat) (0 : Nat))), SV.ki Go.IntKind.i64 ((0 : Int))], SV.dt (Dt.cell (Go.Value.int Go.IntKind.i64 (3 : Int)))]) ([]))) ∧
                ((((l.getD a.toNat Inhabited.default).k != (9 : Int)) = Bool.false) →
                 ((((0 : Int) ≤ b) ∧
                   (b < (↑l.length : Int))) ∧
                  (((((l.getD b.toNat Inhabited.default).k != (9 : Int)) = Bool.true) →
                    (True ∧
                     R (SV.tup [SV.agg [SV.dt (Dt.cell (Go.Value.slice Option.none (0 : Nat) (0 : Nat))), SV.ki Go.IntKind.i64 ((0 : Int))], SV.dt (Dt.cell (Go.Value.int Go.IntKind.i64 (3 : Int)))]) ([]))) ∧
                   ((((l.getD b.toNat Inhabited.default).k != (9 : Int)) = Bool.false) →
                    ((((a == b) = Bool.true) →
                      (True ∧
                       R (SV.tup [SV.agg [SV.dt (Dt.cell (Go.Value.slice Option.none (0 : Nat) (0 : Nat))), SV.ki Go.IntKind.i64 ((0 : Int))], SV.dt (Dt.cell (Go.Value.int Go.IntKind.i64 (3 : Int)))]) ([]))) ∧
                     (((a == b) = Bool.false) →
                      ((Rx.leL ([SV.dt (Dt.arr ((3 : Nat)) (l.length) (Go.Proofs.Ytfpnadmpmfcaaaa.wF l))]) ([SV.dt (Dt.arr ((3 : Nat)) ((Go.Proofs.Ytfpnadmpmfcaaaa.rdF l.length (Go.Proofs.Ytfpnadmpmfcaaaa.wF l)).length) (Go.Proofs.Ytfpnadmpmfcaaaa.wF (Go.Proofs.Ytfpnadmpmfcaaaa.rdF l.length (Go.Proofs.Ytfpnadmpmfcaaaa.wF l))))])) ∧
                       ((Rx.leObL ([]) ([])) ∧
                        ((Go.Proofs.Ytfpnadmpmfcaaaa.fitsW (Go.Proofs.Ytfpnadmpmfcaaaa.rdF l.length (Go.Proofs.Ytfpnadmpmfcaaaa.wF l))) ∧
                         (((Rx.lo Go.IntKind.i64 ≤ a + (2 : Int)) ∧
                           (a + (2 : Int) ≤ Rx.hi Go.IntKind.i64)) ∧
                          ((((0 : Int) ≤ a + (2 : Int)) ∧
                            (a + (2 : Int) < (↑(Go.Proofs.Ytfpnadmpmfcaaaa.rdF l.length (Go.Proofs.Ytfpnadmpmfcaaaa.wF l)).length : Int))) ∧
                           (((a + (2 : Int)).toNat < (Go.Proofs.Ytfpnadmpmfcaaaa.rdF l.length (Go.Proofs.Ytfpnadmpmfcaaaa.wF l)).length) ∧
                            (((Rx.lo Go.IntKind.i64 ≤ a + (1 : Int)) ∧
                              (a + (1 : Int) ≤ Rx.hi Go.IntKind.i64)) ∧
                             ((((0 : Int) ≤ a) ∧
                               (a < (↑(Go.Proofs.Ytfpnadmpmfcaaaa.rdF l.length (Go.Proofs.Ytfpnadmpmfcaaaa.wF l)).length : Int))) ∧
                              ((a.toNat < (Go.Proofs.Ytfpnadmpmfcaaaa.rdF l.length (Go.Proofs.Ytfpnadmpmfcaaaa.wF l)).length) ∧
                               ((((0 : Int) ≤ a + (1 : Int)) ∧
                                 (a + (1 : Int) < (↑(Go.Proofs.Ytfpnadmpmfcaaaa.rdF l.length (Go.Proofs.Ytfpnadmpmfcaaaa.wF l)).length : Int))) ∧
                                (((a + (1 : Int)).toNat < (Go.Proofs.Ytfpnadmpmfcaaaa.rdF l.length (Go.Proofs.Ytfpnadmpmfcaaaa.wF l)).length) ∧
                                 (((Rx.leS (SV.dt (Dt.cell (Go.Value.int Go.IntKind.i64 a))) (SV.dt (Dt.cell (Go.Value.int Go.IntKind.i64 a)))) ∧
                                   ((Rx.leS (SV.ptr 0 0) (SV.ptr 0 0)) ∧
                                    ((Rx.leS (SV.ptr 1 0) (SV.ptr 1 0)) ∧
                                     ((Rx.leS (SV.dt (Dt.cell (Go.Value.int Go.IntKind.i64 ((Go.Proofs.Ytfpnadmpmfcaaaa.rdF l.length (Go.Proofs.Ytfpnadmpmfcaaaa.wF l)).getD (a + (2 : Int)).toNat Inhabited.default).n))) (SV.dt (Dt.cell (Go.Value.int Go.IntKind.i64 ((Go.Proofs.Ytfpnadmpmfcaaaa.rdF l.length (Go.Proofs.Ytfpnadmpmfcaaaa.wF l)).getD (a + (2 : Int)).toNat Inhabited.default).n)))) ∧
                                      ((Rx.leS (SV.dt (Dt.cell (Go.Value.int Go.IntKind.i64 (0 : Int)))) (SV.dt (Dt.cell (Go.Value.int Go.IntKind.i64 (↑(0 : Nat) : Int))))) ∧
                                       True))))) ∧
                                  ((Rx.leOO ([some (Ob.cells 25 [SV.dt (Dt.cell (Go.Value.slice Option.none (0 : Nat) (0 : Nat))), SV.ki Go.IntKind.i64 ((0 : Int))]), some (Ob.cells 25 [SV.nm 2, SV.dt (Dt.cell (Go.Value.int Go.IntKind.i64 lim))]), some (Ob.row 30 3 ((Go.Proofs.Ytfpnadmpmfcaaaa.rdF l.length (Go.Proofs.Ytfpnadmpmfcaaaa.wF l)).length) (Rx.setRow (Rx.setRow (Go.Proofs.Ytfpnadmpmfcaaaa.wF (Go.Proofs.Ytfpnadmpmfcaaaa.rdF l.length (Go.Proofs.Ytfpnadmpmfcaaaa.wF l))) a.toNat (0 : Nat) [Rx.Dt.cell (Go.Value.int Go.IntKind.i64 (10 : Int)), Rx.Dt.cell (Go.Value.int Go.IntKind.i64 b), Rx.Dt.cell (Go.Value.string (ByteArray.mk #[]))]) (a + (1 : Int)).toNat (0 : Nat) [Rx.Dt.cell (Go.Value.int Go.IntKind.i64 (1 : Int)), Rx.Dt.cell (Go.Value.int Go.IntKind.i64 (0 : Int)), Rx.Dt.cell (Go.Value.string (ByteArray.mk #[]))]))]) ([some (Ob.cells 25 [SV.junk, SV.junk]), some (Ob.cells 25 [SV.nm 2, SV.dt (Dt.cell (Go.Value.int Go.IntKind.i64 lim))]), some (Ob.row 30 3 ((Go.Proofs.Ytfpnadmpmfcaaaa.rdF (Go.Proofs.Ytfpnadmpmfcaaaa.rdF l.length (Go.Proofs.Ytfpnadmpmfcaaaa.wF l)).length (Rx.setRow (Rx.setRow (Go.Proofs.Ytfpnadmpmfcaaaa.wF (Go.Proofs.Ytfpnadmpmfcaaaa.rdF l.length (Go.Proofs.Ytfpnadmpmfcaaaa.wF l))) a.toNat (0 : Nat) [Rx.Dt.cell (Go.Value.int Go.IntKind.i64 (10 : Int)), Rx.Dt.cell (Go.Value.int Go.IntKind.i64 b), Rx.Dt.cell (Go.Value.string (ByteArray.mk #[]))]) (a + (1 : Int)).toNat (0 : Nat) [Rx.Dt.cell (Go.Value.int Go.IntKind.i64 (1 : Int)), Rx.Dt.cell (Go.Value.int Go.IntKind.i64 (0 : Int)), Rx.Dt.cell (Go.Value.string (ByteArray.mk #[]))])).length) (Go.Proofs.Ytfpnadmpmfcaaaa.wF (Go.Proofs.Ytfpnadmpmfcaaaa.rdF (Go.Proofs.Ytfpnadmpmfcaaaa.rdF l.length (Go.Proofs.Ytfpnadmpmfcaaaa.wF l)).length (Rx.setRow (Rx.setRow (Go.Proofs.Ytfpnadmpmfcaaaa.wF (Go.Proofs.Ytfpnadmpmfcaaaa.rdF l.length (Go.Proofs.Ytfpnadmpmfcaaaa.wF l))) a.toNat (0 : Nat) [Rx.Dt.cell (Go.Value.int Go.IntKind.i64 (10 : Int)), Rx.Dt.cell (Go.Value.int Go.IntKind.i64 b), Rx.Dt.cell (Go.Value.string (ByteArray.mk #[]))]) (a + (1 : Int)).toNat (0 : Nat) [Rx.Dt.cell (Go.Value.int Go.IntKind.i64 (1 : Int)), Rx.Dt.cell (Go.Value.int Go.IntKind.i64 (0 : Int)), Rx.Dt.cell (Go.Value.string (ByteArray.mk #[]))]))))])) ∧
                                   ((((0 : Int) ≤ a) ∧
                                     (((0 : Int) ≤ ((Go.Proofs.Ytfpnadmpmfcaaaa.rdF l.length (Go.Proofs.Ytfpnadmpmfcaaaa.wF l)).getD (a + (2 : Int)).toNat Inhabited.default).n) ∧
                                      ((((Go.Proofs.Ytfpnadmpmfcaaaa.rdF l.length (Go.Proofs.Ytfpnadmpmfcaaaa.wF l)).getD (a + (2 : Int)).toNat Inhabited.default).n ≤ (6 : Int)) ∧
                                       ((a + (3 : Int) + ((Go.Proofs.Ytfpnadmpmfcaaaa.rdF l.length (Go.Proofs.Ytfpnadmpmfcaaaa.wF l)).getD (a + (2 : Int)).toNat Inhabited.default).n ≤ (↑(Go.Proofs.Ytfpnadmpmfcaaaa.rdF (Go.Proofs.Ytfpnadmpmfcaaaa.rdF l.length (Go.Proofs.Ytfpnadmpmfcaaaa.wF l)).length (Rx.setRow (Rx.setRow (Go.Proofs.Ytfpnadmpmfcaaaa.wF (Go.Proofs.Ytfpnadmpmfcaaaa.rdF l.length (Go.Proofs.Ytfpnadmpmfcaaaa.wF l))) a.toNat (0 : Nat) [Rx.Dt.cell (Go.Value.int Go.IntKind.i64 (10 : Int)), Rx.Dt.cell (Go.Value.int Go.IntKind.i64 b), Rx.Dt.cell (Go.Value.string (ByteArray.mk #[]))]) (a + (1 : Int)).toNat (0 : Nat) [Rx.Dt.cell (Go.Value.int Go.IntKind.i64 (1 : Int)), Rx.Dt.cell (Go.Value.int Go.IntKind.i64 (0 : Int)), Rx.Dt.cell (Go.Value.string (ByteArray.mk #[]))])).length : Int)) ∧
                                        (((Go.Proofs.Ytfpnadmpmfcaaaa.rdF (Go.Proofs.Ytfpnadmpmfcaaaa.rdF l.length (Go.Proofs.Ytfpnadmpmfcaaaa.wF l)).length (Rx.setRow (Rx.setRow (Go.Proofs.Ytfpnadmpmfcaaaa.wF (Go.Proofs.Ytfpnadmpmfcaaaa.rdF l.length (Go.Proofs.Ytfpnadmpmfcaaaa.wF l))) a.toNat (0 : Nat) [Rx.Dt.cell (Go.Value.int Go.IntKind.i64 (10 : Int)), Rx.Dt.cell (Go.Value.int Go.IntKind.i64 b), Rx.Dt.cell (Go.Value.string (ByteArray.mk #[]))]) (a + (1 : Int)).toNat (0 : Nat) [Rx.Dt.cell (Go.Value.int Go.IntKind.i64 (1 : Int)), Rx.Dt.cell (Go.Value.int Go.IntKind.i64 (0 : Int)), Rx.Dt.cell (Go.Value.string (ByteArray.mk #[]))])).length ≤ (60000 : Nat)) ∧
                                         ((↑(0 : Nat) : Int) ≤ ((Go.Proofs.Ytfpnadmpmfcaaaa.rdF l.length (Go.Proofs.Ytfpnadmpmfcaaaa.wF l)).getD (a + (2 : Int)).toNat Inhabited.default).n)))))) ∧
                                    ((Rx.leL ([SV.agg [SV.dt (Dt.arr ((3 : Nat)) ((Go.Proofs.Ytfpnadmpmfcaaaa.fillN (Go.Proofs.Ytfpnadmpmfcaaaa.rdF (Go.Proofs.Ytfpnadmpmfcaaaa.rdF l.length (Go.Proofs.Ytfpnadmpmfcaaaa.wF l)).length (Rx.setRow (Rx.setRow (Go.Proofs.Ytfpnadmpmfcaaaa.wF (Go.Proofs.Ytfpnadmpmfcaaaa.rdF l.length (Go.Proofs.Ytfpnadmpmfcaaaa.wF l))) a.toNat (0 : Nat) [Rx.Dt.cell (Go.Value.int Go.IntKind.i64 (10 : Int)), Rx.Dt.cell (Go.Value.int Go.IntKind.i64 b), Rx.Dt.cell (Go.Value.string (ByteArray.mk #[]))]) (a + (1 : Int)).toNat (0 : Nat) [Rx.Dt.cell (Go.Value.int Go.IntKind.i64 (1 : Int)), Rx.Dt.cell (Go.Value.int Go.IntKind.i64 (0 : Int)), Rx.Dt.cell (Go.Value.string (ByteArray.mk #[]))])) a ((Go.Proofs.Ytfpnadmpmfcaaaa.rdF l.length (Go.Proofs.Ytfpnadmpmfcaaaa.wF l)).getD (a + (2 : Int)).toNat Inhabited.default).n.toNat).length) (Go.Proofs.Ytfpnadmpmfcaaaa.wF (Go.Proofs.Ytfpnadmpmfcaaaa.fillN (Go.Proofs.Ytfpnadmpmfcaaaa.rdF (Go.Proofs.Ytfpnadmpmfcaaaa.rdF l.length (Go.Proofs.Ytfpnadmpmfcaaaa.wF l)).length (Rx.setRow (Rx.setRow (Go.Proofs.Ytfpnadmpmfcaaaa.wF (Go.Proofs.Ytfpnadmpmfcaaaa.rdF l.length (Go.Proofs.Ytfpnadmpmfcaaaa.wF l))) a.toNat (0 : Nat) [Rx.Dt.cell (Go.Value.int Go.IntKind.i64 (10 : Int)), Rx.Dt.cell (Go.Value.int Go.IntKind.i64 b), Rx.Dt.cell (Go.Value.string (ByteArray.mk #[]))]) (a + (1 : Int)).toNat (0 : Nat) [Rx.Dt.cell (Go.Value.int Go.IntKind.i64 (1 : Int)), Rx.Dt.cell (Go.Value.int Go.IntKind.i64 (0 : Int)), Rx.Dt.cell (Go.Value.string (ByteArray.mk #[]))])) a ((Go.Proofs.Ytfpnadmpmfcaaaa.rdF l.length (Go.Proofs.Ytfpnadmpmfcaaaa.wF l)).getD (a + (2 : Int)).toNat Inhabited.default).n.toNat))), SV.dt (Dt.cell (Go.Value.int Go.IntKind.i64 lim))]]) ([SV.agg [SV.dt (Dt.arr ((3 : Nat)) ((Go.Proofs.Ytfpnadmpmfcaaaa.rdF (Go.Proofs.Ytfpnadmpmfcaaaa.fillN (Go.Proofs.Ytfpnadmpmfcaaaa.rdF (Go.Proofs.Ytfpnadmpmfcaaaa.rdF l.length (Go.Proofs.Ytfpnadmpmfcaaaa.wF l)).length (Rx.setRow (Rx.setRow (Go.Proofs.Ytfpnadmpmfcaaaa.wF (Go.Proofs.Ytfpnadmpmfcaaaa.rdF l.length (Go.Proofs.Ytfpnadmpmfcaaaa.wF l))) a.toNat (0 : Nat) [Rx.Dt.cell (Go.Value.int Go.IntKind.i64 (10 : Int)), Rx.Dt.cell (Go.Value.int Go.IntKind.i64 b), Rx.Dt.cell (Go.Value.string (ByteArray.mk #[]))]) (a + (1 : Int)).toNat (0 : Nat) [Rx.Dt.cell (Go.Value.int Go.IntKind.i64 (1 : Int)), Rx.Dt.cell (Go.Value.int Go.IntKind.i64 (0 : Int)), Rx.Dt.cell (Go.Value.string (ByteArray.mk #[]))])) a ((Go.Proofs.Ytfpnadmpmfcaaaa.rdF l.length (Go.Proofs.Ytfpnadmpmfcaaaa.wF l)).getD (a + (2 : Int)).toNat Inhabited.default).n.toNat).length (Go.Proofs.Ytfpnadmpmfcaaaa.wF (Go.Proofs.Ytfpnadmpmfcaaaa.fillN (Go.Proofs.Ytfpnadmpmfcaaaa.rdF (Go.Proofs.Ytfpnadmpmfcaaaa.rdF l.length (Go.Proofs.Ytfpnadmpmfcaaaa.wF l)).length (Rx.setRow (Rx.setRow (Go.Proofs.Ytfpnadmpmfcaaaa.wF (Go.Proofs.Ytfpnadmpmfcaaaa.rdF l.length (Go.Proofs.Ytfpnadmpmfcaaaa.wF l))) a.toNat (0 : Nat) [Rx.Dt.cell (Go.Value.int Go.IntKind.i64 (10 : Int)), Rx.Dt.cell (Go.Value.int Go.IntKind.i64 b), Rx.Dt.cell (Go.Value.string (ByteArray.mk #[]))]) (a + (1 : Int)).toNat (0 : Nat) [Rx.Dt.cell (Go.Value.int Go.IntKind.i64 (1 : Int)), Rx.Dt.cell (Go.Value.int Go.IntKind.i64 (0 : Int)), Rx.Dt.cell (Go.Value.string (ByteArray.mk #[]))])) a ((Go.Proofs.Ytfpnadmpmfcaaaa.rdF l.length (Go.Proofs.Ytfpnadmpmfcaaaa.wF l)).getD (a + (2 : Int)).toNat Inhabited.default).n.toNat))).length) (Go.Proofs.Ytfpnadmpmfcaaaa.wF (Go.Proofs.Ytfpnadmpmfcaaaa.rdF (Go.Proofs.Ytfpnadmpmfcaaaa.fillN (Go.Proofs.Ytfpnadmpmfcaaaa.rdF (Go.Proofs.Ytfpnadmpmfcaaaa.rdF l.length (Go.Proofs.Ytfpnadmpmfcaaaa.wF l)).length (Rx.setRow (Rx.setRow (Go.Proofs.Ytfpnadmpmfcaaaa.wF (Go.Proofs.Ytfpnadmpmfcaaaa.rdF l.length (Go.Proofs.Ytfpnadmpmfcaaaa.wF l))) a.toNat (0 : Nat) [Rx.Dt.cell (Go.Value.int Go.IntKind.i64 (10 : Int)), Rx.Dt.cell (Go.Value.int Go.IntKind.i64 b), Rx.Dt.cell (Go.Value.string (ByteArray.mk #[]))]) (a + (1 : Int)).toNat (0 : Nat) [Rx.Dt.cell (Go.Value.int Go.IntKind.i64 (1 : Int)), Rx.Dt.cell (Go.Value.int Go.IntKind.i64 (0 : Int)), Rx.Dt.cell (Go.Value.string (ByteArray.mk #[]))])) a ((Go.Proofs.Ytfpnadmpmfcaaaa.rdF l.length (Go.Proofs.Ytfpnadmpmfcaaaa.wF l)).getD (a + (2 : Int)).toNat Inhabited.default).n.toNat).length (Go.Proofs.Ytfpnadmpmfcaaaa.wF (Go.Proofs.Ytfpnadmpmfcaaaa.fillN (Go.Proofs.Ytfpnadmpmfcaaaa.rdF (Go.Proofs.Ytfpnadmpmfcaaaa.rdF l.length (Go.Proofs.Ytfpnadmpmfcaaaa.wF l)).length (Rx.setRow (Rx.setRow (Go.Proofs.Ytfpnadmpmfcaaaa.wF (Go.Proofs.Ytfpnadmpmfcaaaa.rdF l.length (Go.Proofs.Ytfpnadmpmfcaaaa.wF l))) a.toNat (0 : Nat) [Rx.Dt.cell (Go.Value.int Go.IntKind.i64 (10 : Int)), Rx.Dt.cell (Go.Value.int Go.IntKind.i64 b), Rx.Dt.cell (Go.Value.string (ByteArray.mk #[]))]) (a + (1 : Int)).toNat (0 : Nat) [Rx.Dt.cell (Go.Value.int Go.IntKind.i64 (1 : Int)), Rx.Dt.cell (Go.Value.int Go.IntKind.i64 (0 : Int)), Rx.Dt.cell (Go.Value.string (ByteArray.mk #[]))])) a ((Go.Proofs.Ytfpnadmpmfcaaaa.rdF l.length (Go.Proofs.Ytfpnadmpmfcaaaa.wF l)).getD (a + (2 : Int)).toNat Inhabited.default).n.toNat))))), SV.dt (Dt.cell (Go.Value.int Go.IntKind.i64 lim))]])) ∧
                                     ((Rx.leObL ([]) ([])) ∧
                                      (((Go.Proofs.Ytfpnadmpmfcaaaa.checkB (Go.Proofs.Ytfpnadmpmfcaaaa.rdF (Go.Proofs.Ytfpnadmpmfcaaaa.fillN (Go.Proofs.Ytfpnadmpmfcaaaa.rdF (Go.Proofs.Ytfpnadmpmfcaaaa.rdF l.length (Go.Proofs.Ytfpnadmpmfcaaaa.wF l)).length (Rx.setRow (Rx.setRow (Go.Proofs.Ytfpnadmpmfcaaaa.wF (Go.Proofs.Ytfpnadmpmfcaaaa.rdF l.length (Go.Proofs.Ytfpnadmpmfcaaaa.wF l))) a.toNat (0 : Nat) [Rx.Dt.cell (Go.Value.int Go.IntKind.i64 (10 : Int)), Rx.Dt.cell (Go.Value.int Go.IntKind.i64 b), Rx.Dt.cell (Go.Value.string (ByteArray.mk #[]))]) (a + (1 : Int)).toNat (0 : Nat) [Rx.Dt.cell (Go.Value.int Go.IntKind.i64 (1 : Int)), Rx.Dt.cell (Go.Value.int Go.IntKind.i64 (0 : Int)), Rx.Dt.cell (Go.Value.string (ByteArray.mk #[]))])) a ((Go.Proofs.Ytfpnadmpmfcaaaa.rdF l.length (Go.Proofs.Ytfpnadmpmfcaaaa.wF l)).getD (a + (2 : Int)).toNat Inhabited.default).n.toNat).length (Go.Proofs.Ytfpnadmpmfcaaaa.wF (Go.Proofs.Ytfpnadmpmfcaaaa.fillN (Go.Proofs.Ytfpnadmpmfcaaaa.rdF (Go.Proofs.Ytfpnadmpmfcaaaa.rdF l.length (Go.Proofs.Ytfpnadmpmfcaaaa.wF l)).length (Rx.setRow (Rx.setRow (Go.Proofs.Ytfpnadmpmfcaaaa.wF (Go.Proofs.Ytfpnadmpmfcaaaa.rdF l.length (Go.Proofs.Ytfpnadmpmfcaaaa.wF l))) a.toNat (0 : Nat) [Rx.Dt.cell (Go.Value.int Go.IntKind.i64 (10 : Int)), Rx.Dt.cell (Go.Value.int Go.IntKind.i64 b), Rx.Dt.cell (Go.Value.string (ByteArray.mk #[]))]) (a + (1 : Int)).toNat (0 : Nat) [Rx.Dt.cell (Go.Value.int Go.IntKind.i64 (1 : Int)), Rx.Dt.cell (Go.Value.int Go.IntKind.i64 (0 : Int)), Rx.Dt.cell (Go.Value.string (ByteArray.mk #[]))])) a ((Go.Proofs.Ytfpnadmpmfcaaaa.rdF l.length (Go.Proofs.Ytfpnadmpmfcaaaa.wF l)).getD (a + (2 : Int)).toNat Inhabited.default).n.toNat))) lim = Bool.true) →
                                        (((((0 : Int) != (0 : Int)) = Bool.true) →
                                          (True ∧
                                           R (SV.tup [SV.agg [SV.dt (Dt.cell (Go.Value.slice Option.none (0 : Nat) (0 : Nat))), SV.ki Go.IntKind.i64 ((0 : Int))], SV.dt (Dt.cell (Go.Value.int Go.IntKind.i64 (4 : Int)))]) ([]))) ∧
                                         ((((0 : Int) != (0 : Int)) = Bool.false) →
                                          (True ∧
                                           R (SV.tup [SV.agg [SV.dt (Dt.arr ((3 : Nat)) ((Go.Proofs.Ytfpnadmpmfcaaaa.fillN (Go.Proofs.Ytfpnadmpmfcaaaa.rdF (Go.Proofs.Ytfpnadmpmfcaaaa.rdF l.length (Go.Proofs.Ytfpnadmpmfcaaaa.wF l)).length (Rx.setRow (Rx.setRow (Go.Proofs.Ytfpnadmpmfcaaaa.wF (Go.Proofs.Ytfpnadmpmfcaaaa.rdF l.length (Go.Proofs.Ytfpnadmpmfcaaaa.wF l))) a.toNat (0 : Nat) [Rx.Dt.cell (Go.Value.int Go.IntKind.i64 (10 : Int)), Rx.Dt.cell (Go.Value.int Go.IntKind.i64 b), Rx.Dt.cell (Go.Value.string (ByteArray.mk #[]))]) (a + (1 : Int)).toNat (0 : Nat) [Rx.Dt.cell (Go.Value.int Go.IntKind.i64 (1 : Int)), Rx.Dt.cell (Go.Value.int Go.IntKind.i64 (0 : Int)), Rx.Dt.cell (Go.Value.string (ByteArray.mk #[]))])) a ((Go.Proofs.Ytfpnadmpmfcaaaa.rdF l.length (Go.Proofs.Ytfpnadmpmfcaaaa.wF l)).getD (a + (2 : Int)).toNat Inhabited.default).n.toNat).length) (Go.Proofs.Ytfpnadmpmfcaaaa.wF (Go.Proofs.Ytfpnadmpmfcaaaa.fillN (Go.Proofs.Ytfpnadmpmfcaaaa.rdF (Go.Proofs.Ytfpnadmpmfcaaaa.rdF l.length (Go.Proofs.Ytfpnadmpmfcaaaa.wF l)).length (Rx.setRow (Rx.setRow (Go.Proofs.Ytfpnadmpmfcaaaa.wF (Go.Proofs.Ytfpnadmpmfcaaaa.rdF l.length (Go.Proofs.Ytfpnadmpmfcaaaa.wF l))) a.toNat (0 : Nat) [Rx.Dt.cell (Go.Value.int Go.IntKind.i64 (10 : Int)), Rx.Dt.cell (Go.Value.int Go.IntKind.i64 b), Rx.Dt.cell (Go.Value.string (ByteArray.mk #[]))]) (a + (1 : Int)).toNat (0 : Nat) [Rx.Dt.cell (Go.Value.int Go.IntKind.i64 (1 : Int)), Rx.Dt.cell (Go.Value.int Go.IntKind.i64 (0 : Int)), Rx.Dt.cell (Go.Value.string (ByteArray.mk #[]))])) a ((Go.Proofs.Ytfpnadmpmfcaaaa.rdF l.length (Go.Proofs.Ytfpnadmpmfcaaaa.wF l)).getD (a + (2 : Int)).toNat Inhabited.default).n.toNat))), SV.dt (Dt.cell (Go.Value.int Go.IntKind.i64 lim))], SV.dt (Dt.cell (Go.Value.int Go.IntKind.i64 (0 : Int)))]) ([]))))) ∧
                                       ((Go.Proofs.Ytfpnadmpmfcaaaa.checkB (Go.Proofs.Ytfpnadmpmfcaaaa.rdF (Go.Proofs.Ytfpnadmpmfcaaaa.fillN (Go.Proofs.Ytfpnadmpmfcaaaa.rdF (Go.Proofs.Ytfpnadmpmfcaaaa.rdF l.length (Go.Proofs.Ytfpnadmpmfcaaaa.wF l)).length (Rx.setRow (Rx.setRow (Go.Proofs.Ytfpnadmpmfcaaaa.wF (Go.Proofs.Ytfpnadmpmfcaaaa.rdF l.length (Go.Proofs.Ytfpnadmpmfcaaaa.wF l))) a.toNat (0 : Nat) [Rx.Dt.cell (Go.Value.int Go.IntKind.i64 (10 : Int)), Rx.Dt.cell (Go.Value.int Go.IntKind.i64 b), Rx.Dt.cell (Go.Value.string (ByteArray.mk #[]))]) (a + (1 : Int)).toNat (0 : Nat) [Rx.Dt.cell (Go.Value.int Go.IntKind.i64 (1 : Int)), Rx.Dt.cell (Go.Value.int Go.IntKind.i64 (0 : Int)), Rx.Dt.cell (Go.Value.string (ByteArray.mk #[]))])) a ((Go.Proofs.Ytfpnadmpmfcaaaa.rdF l.length (Go.Proofs.Ytfpnadmpmfcaaaa.wF l)).getD (a + (2 : Int)).toNat Inhabited.default).n.toNat).length (Go.Proofs.Ytfpnadmpmfcaaaa.wF (Go.Proofs.Ytfpnadmpmfcaaaa.fillN (Go.Proofs.Ytfpnadmpmfcaaaa.rdF (Go.Proofs.Ytfpnadmpmfcaaaa.rdF l.length (Go.Proofs.Ytfpnadmpmfcaaaa.wF l)).length (Rx.setRow (Rx.setRow (Go.Proofs.Ytfpnadmpmfcaaaa.wF (Go.Proofs.Ytfpnadmpmfcaaaa.rdF l.length (Go.Proofs.Ytfpnadmpmfcaaaa.wF l))) a.toNat (0 : Nat) [Rx.Dt.cell (Go.Value.int Go.IntKind.i64 (10 : Int)), Rx.Dt.cell (Go.Value.int Go.IntKind.i64 b), Rx.Dt.cell (Go.Value.string (ByteArray.mk #[]))]) (a + (1 : Int)).toNat (0 : Nat) [Rx.Dt.cell (Go.Value.int Go.IntKind.i64 (1 : Int)), Rx.Dt.cell (Go.Value.int Go.IntKind.i64 (0 : Int)), Rx.Dt.cell (Go.Value.string (ByteArray.mk #[]))])) a ((Go.Proofs.Ytfpnadmpmfcaaaa.rdF l.length (Go.Proofs.Ytfpnadmpmfcaaaa.wF l)).getD (a + (2 : Int)).toNat Inhabited.default).n.toNat))) lim = Bool.false) →
                                        (((((9 : Int) != (0 : Int)) = Bool.true) →
                                          (True ∧
                                           R (SV.tup [SV.agg [SV.dt (Dt.cell (Go.Value.slice Option.none (0 : Nat) (0 : Nat))), SV.ki Go.IntKind.i64 ((0 : Int))], SV.dt (Dt.cell (Go.Value.int Go.IntKind.i64 (4 : Int)))]) ([]))) ∧
                                         ((((9 : Int) != (0 : Int)) = Bool.false) →
                                          (True ∧
                                           R (SV.tup [SV.agg [SV.dt (Dt.arr ((3 : Nat)) ((Go.Proofs.Ytfpnadmpmfcaaaa.fillN (Go.Proofs.Ytfpnadmpmfcaaaa.rdF (Go.Proofs.Ytfpnadmpmfcaaaa.rdF l.length (Go.Proofs.Ytfpnadmpmfcaaaa.wF l)).length (Rx.setRow (Rx.setRow (Go.Proofs.Ytfpnadmpmfcaaaa.wF (Go.Proofs.Ytfpnadmpmfcaaaa.rdF l.length (Go.Proofs.Ytfpnadmpmfcaaaa.wF l))) a.toNat (0 : Nat) [Rx.Dt.cell (Go.Value.int Go.IntKind.i64 (10 : Int)), Rx.Dt.cell (Go.Value.int Go.IntKind.i64 b), Rx.Dt.cell (Go.Value.string (ByteArray.mk #[]))]) (a + (1 : Int)).toNat (0 : Nat) [Rx.Dt.cell (Go.Value.int Go.IntKind.i64 (1 : Int)), Rx.Dt.cell (Go.Value.int Go.IntKind.i64 (0 : Int)), Rx.Dt.cell (Go.Value.string (ByteArray.mk #[]))])) a ((Go.Proofs.Ytfpnadmpmfcaaaa.rdF l.length (Go.Proofs.Ytfpnadmpmfcaaaa.wF l)).getD (a + (2 : Int)).toNat Inhabited.default).n.toNat).length) (Go.Proofs.Ytfpnadmpmfcaaaa.wF (Go.Proofs.Ytfpnadmpmfcaaaa.fillN (Go.Proofs.Ytfpnadmpmfcaaaa.rdF (Go.Proofs.Ytfpnadmpmfcaaaa.rdF l.length (Go.Proofs.Ytfpnadmpmfcaaaa.wF l)).length (Rx.setRow (Rx.setRow (Go.Proofs.Ytfpnadmpmfcaaaa.wF (Go.Proofs.Ytfpnadmpmfcaaaa.rdF l.length (Go.Proofs.Ytfpnadmpmfcaaaa.wF l))) a.toNat (0 : Nat) [Rx.Dt.cell (Go.Value.int Go.IntKind.i64 (10 : Int)), Rx.Dt.cell (Go.Value.int Go.IntKind.i64 b), Rx.Dt.cell (Go.Value.string (ByteArray.mk #[]))]) (a + (1 : Int)).toNat (0 : Nat) [Rx.Dt.cell (Go.Value.int Go.IntKind.i64 (1 : Int)), Rx.Dt.cell (Go.Value.int Go.IntKind.i64 (0 : Int)), Rx.Dt.cell (Go.Value.string (ByteArray.mk #[]))])) a ((Go.Proofs.Ytfpnadmpmfcaaaa.rdF l.length (Go.Proofs.Ytfpnadmpmfcaaaa.wF l)).getD (a + (2 : Int)).toNat Inhabited.default).n.toNat))), SV.dt (Dt.cell (Go.Value.int Go.IntKind.i64 lim))], SV.dt (Dt.cell (Go.Value.int Go.IntKind.i64 (0 : Int)))]) ([])))))))))))))))))))))))))))))))))))))))))))))
def recQ (ms : List Wd) (k : Int) (R : SV → List (Option Ob) → Prop) : Prop :=
((Rx.leL ([SV.dt (Dt.cell (Go.Value.int Go.IntKind.i64 k)), SV.dt (Dt.cell (Go.Value.int Go.IntKind.i64 (↑ms.length : Int)))]) ([SV.dt (Dt.cell (Go.Value.int Go.IntKind.i64 k)), SV.dt (Dt.cell (Go.Value.int Go.IntKind.i64 (↑ms.length : Int)))])) ∧
((Rx.leObL ([]) ([])) ∧
 (((Go.Proofs.Ytfpnadmpmfcaaaa.isInt k) ∧
   ((↑ms.length : Int) ≠ (0 : Int))) ∧
  ((((0 : Int) ≤ Go.Proofs.Ytfpnadmpmfcaaaa.pickedS k (↑ms.length : Int)) ∧
    (Go.Proofs.Ytfpnadmpmfcaaaa.pickedS k (↑ms.length : Int) < (↑ms.length : Int))) ∧
   (True ∧
    R (SV.dt (Dt.arr ((3 : Nat)) ((4 : Nat)) (fun i j => [Rx.Dt.cell (Go.Value.int Go.IntKind.i64 (9 : Int)), Rx.Dt.cell (Go.Value.int Go.IntKind.i64 (0 : Int)), Rx.Dt.cell (Go.Value.string (ByteArray.mk #[])), Rx.Dt.cell (Go.Value.int Go.IntKind.i64 (1 : Int)), Rx.Dt.cell (Go.Value.int Go.IntKind.i64 k), Rx.Dt.cell (Go.Value.string (ByteArray.mk #[])), Rx.Dt.cell (Go.Value.int Go.IntKind.i64 (1 : Int)), Rx.Dt.cell (Go.Value.int Go.IntKind.i64 (1 : Int)), Rx.Dt.cell (Go.Value.string (ByteArray.mk #[])), Go.Proofs.Ytfpnadmpmfcaaaa.wF ms (Go.Proofs.Ytfpnadmpmfcaaaa.pickedS k (↑ms.length : Int)).toNat (nat_lit 0), Go.Proofs.Ytfpnadmpmfcaaaa.wF ms (Go.Proofs.Ytfpnadmpmfcaaaa.pickedS k (↑ms.length : Int)).toNat (nat_lit 1), Go.Proofs.Ytfpnadmpmfcaaaa.wF ms (Go.Proofs.Ytfpnadmpmfcaaaa.pickedS k (↑ms.length : Int)).toNat (nat_lit 2)].getD (i * (3 : Nat) + j) Rx.undefCell))) ([some (Ob.cells 23 [SV.dt (Dt.arr ((3 : Nat)) (ms.length) (Go.Proofs.Ytfpnadmpmfcaaaa.wF ms))])]))))))
theorem rec_ctr (ms : List Wd) (k : Int) : Ctr Try.prog 21 [vI .i64 k, .ptr 0 0] [.cells 23 [wD ms]] (recO ms k) := by
  refine ctr_fn mixed (N := 16) (fn := Try.f21) (c := bodyOf Try.f21) (ks := recKs) (ls := []) (by kernel_rfl) (by kernel_rfl) (by kernel_rfl) (all_cons pickedF_ok all_nil) fin0 (fun c hc => by rw [show loopsOf (bodyOf Try.f21) = [] from by kernel_rfl] at hc; cases hc) (by kernel_rfl) (Q := recQ ms k) (fun post hp => ?_) (fun R => by kernel_rfl)
  obtain ⟨⟨hk, h0⟩, hp⟩ := hp
  have hp : post (wD (recW ms k), [some (.cells 23 [wD ms])]) := hp
  obtain ⟨p1, p2⟩ := picked_lt hk h0
  unfold recQ
  simp only [leL_self, leObL_self, true_and]
  refine ⟨⟨hk, by omega⟩, ⟨p1, p2⟩, gives2 hp (lit_le (m := recW ms k) rfl) (leOO_refl _)⟩
theorem fillN_length (l : List Wd) (a : Int) : ∀ i, (fillN l a i).length = l.length
  | 0 => rfl
  | i + 1 => by rw [fillN, List.length_set, fillN_length l a i]
theorem mlLoop_ok (lim a n : Int) (l : List Wd) (i : Nat) : Sound mE (.loop mlLoop) (mkSt (mlLF.live.h.zip (mlArgs a n i)) (mlObs lim (fillN l a i))) ((mlOut lim a n l i).map (OutC.st mlLF.live)) := by
  have mKs_ok : ∀ k ∈ mKs, k.2.2.Ok Try.prog := all_cons checkF_ok (all_cons startsFC_ok (all_cons cloneF_ok (all_cons checkF_ok all_nil)))
  refine loop_fn mixed mKs_ok (fun c hc => by rw [show loopsOf mlLoop = [] from by kernel_rfl] at hc; cases hc) mlLF.live (mlArgs a n) (fun i => mlObs lim (fillN l a i)) (mlOut lim a n l) (fun i => n.toNat - i) (Q := fun i Rn Re => mlQ lim a n (fillN l a i) i Rn Re) ?_ (fun i Rn Re => by kernel_rfl) i
  intro i post hp
  obtain ⟨⟨h0, n0, n6, hl, hl6, hin⟩, hp⟩ := hp
  have hp : post (.exit 0, [.ptr 0 0, .ptr 1 0], mlObs lim (fillN l a n.toNat)) := hp
  have hfl := fillN_length l a i
  unfold mlQ
  simp only [decide_eq_true_eq, decide_eq_false_iff_not, lo, hi]
  refine ⟨fun h => ⟨⟨by omega, by omega⟩, ⟨by omega, by omega⟩, ⟨by omega, by omega⟩, by omega, ⟨by omega, by omega⟩, i + 1, by omega, ?_, ?_, ⟨h0, n0, n6, hl, hl6, by omega⟩, hp⟩, fun h => ?_⟩
  · refine ⟨leS_refl _, leS_refl _, leS_refl _, leS_refl _, ?_, trivial⟩
    rw [leS_int]; omega
  · have := row_set (fillN l a i) (a + 3 + i).toNat nilW _ rfl
    exact ⟨leOb_refl _, leOb_refl _, this, trivial⟩
  · have e : i = n.toNat := by omega
    subst e
    exact Outs.mk hp (leL_refl _) (leOO_refl _)
theorem mKs_ok : ∀ k ∈ mKs, k.2.2.Ok Try.prog := all_cons checkF_ok (all_cons startsFC_ok (all_cons cloneF_ok (all_cons checkF_ok all_nil)))
theorem mLok : mE.Lok (loopsOf (bodyOf Try.f22)) := by
  rw [show loopsOf (bodyOf Try.f22) = [mlLoop] from by kernel_rfl]
  refine fnE_Lok (all_cons (all_cons (fun _ => ?_) all_nil) all_nil)
  intro svs obl args obs out h
  unfold mlLF at h
  simp only at h
  repeat' split at h
  all_goals first
    | (simp only [Option.some.injEq, Prod.mk.injEq] at h; obtain ⟨rfl, rfl, rfl⟩ := h; exact mlLoop_ok _ _ _ _ 0)
    | cases h
theorem rdF_congr {n : Nat} {f g : Nat → Nat → Dt} (h : ∀ k, k < n → ∀ j, j < 3 → f k j = g k j) : rdF n f = rdF n g := by
  unfold rdF
  apply List.map_congr_left
  intro k hk
  have hk := List.mem_range.1 hk
  unfold rdC
  rw [h k hk 0 (by omega), h k hk 1 (by omega), h k hk 2 (by omega)]
theorem setRow_congr {f g : Nat → Nat → Dt} {k j : Nat} (h : f k j = g k j) (idx off : Nat) (ds : List Dt) : setRow f idx off ds k j = setRow g idx off ds k j := by
  unfold setRow
  rw [h]
theorem set2_get (l : List Wd) (i i' : Nat) (w w' : Wd) (k : Nat) (hk : k < l.length) (j : Nat) (hj : j < 3) : setRow (setRow (wF l) i 0 (cells3 [w])) i' 0 (cells3 [w']) k j = wF ((l.set i w).set i' w') k j := by
  have h1 := setRow_row l i w _ rfl k hk j hj
  have h2 := setRow_row (l.set i w) i' w' l.length (by simp) k hk j hj
  rw [← h2]
  exact setRow_congr h1 _ _ _
theorem rdF_set2 (l : List Wd) (i i' : Nat) (w w' : Wd) : rdF l.length (setRow (setRow (wF l) i 0 (cells3 [w])) i' 0 (cells3 [w'])) = (l.set i w).set i' w' := by
  rw [rdF_congr (g := wF ((l.set i w).set i' w')) (fun k hk j hj => set2_get l i i' w w' k hk j hj)]
  have := rdF_wF ((l.set i w).set i' w')
  simpa using this
theorem mov_n {l : List Wd} {a : Int} (h : spP l a) (k9 : (at' l a).k = 9) : 0 ≤ (at' l (a + 2)).n ∧ (at' l (a + 2)).n ≤ 6 ∧ a + 3 + (at' l (a + 2)).n ≤ l.length := by
  obtain ⟨_, h' | h' | h' | h'⟩ := h
  · omega
  · omega
  · omega
  · obtain ⟨_, _, _, c0, c6, cl, _⟩ := h'
    have : cntS l (a + 2) = (at' l (a + 2)).n := by
      unfold cntS at c0 ⊢
      split
      · rename_i hq; rw [if_pos hq] at c0; omega
      · rfl
    omega
theorem in_acc {l : List Wd} {lim : Int} (hc : checkB l lim = true) {a : Int} (h : inS ((startsS l).getD []) a = true) : 0 ≤ a ∧ a < l.length ∧ ((at' l a).k = 9 → spP l a) := by
  obtain ⟨x, hx, rfl⟩ := (inS_iff _ _).1 h
  have := (checkB_okAt hc x hx).2
  exact ⟨by omega, by omega, fun h9 => acc_sp hc hx (by omega)⟩
theorem moveG_ctr (l : List Wd) (lim a b : Int) : Ctr Try.prog 22 [hS l lim, vI .i64 a, vI .i64 b] [] (moveGO l lim a b) := by
  refine ctr_fn mixed (N := 103) (fn := Try.f22) (c := bodyOf Try.f22) (ks := mKs) (ls := [mlLF]) (by kernel_rfl) (by kernel_rfl) (by kernel_rfl) mKs_ok finF mLok (by kernel_rfl) (Q := mQ l lim a b) (fun post hp => ?_) (fun R => by kernel_rfl)
  obtain ⟨⟨hc, ⟨ha, hb, ka, kb, hab⟩, hc2⟩, hp⟩ := hp
  have hp : post (.tup [hS (movedW l a b) lim, .ki .i64 0], []) := hp
  have hst := checkB_starts hc
  obtain ⟨l1, l2, l3⟩ := checkB_lims hc
  have e : ∀ n : Int, l.getD n.toNat default = at' l n := fun _ => rfl
  unfold mQ
  simp only [rdF_wF, hc, hst, inS_eq, ha, hb, e, ka, kb, hab, leL_self, leObL_self, leS_self, leOO_self, true_and, and_true, bne_self_eq_false, beq_iff_eq, beq_eq_false_iff_ne, ne_eq, Bool.not_true, Bool.not_false, Bool.true_eq_false, Bool.false_eq_true, false_implies, true_implies, not_false_eq_true, not_true_eq_false]
  obtain ⟨a0, a1, a2⟩ := in_acc hc ha
  obtain ⟨b0, b1, b2⟩ := in_acc hc hb
  obtain ⟨n0, n6, nl⟩ := mov_n (a2 ka) ka
  have hf := checkB_fits hc
  have e2 : rdF l.length (setRow (setRow (wF l) a.toNat 0 [Dt.cell (.int .i64 10), Dt.cell (.int .i64 b), Dt.cell (.string ⟨#[]⟩)]) (a + 1).toNat 0 [Dt.cell (.int .i64 1), Dt.cell (.int .i64 0), Dt.cell (.string ⟨#[]⟩)]) = mov0 l a b := rdF_set2 l a.toNat (a + 1).toNat ⟨10, b, noS⟩ ⟨1, 0, noS⟩
  have hm0 : (mov0 l a b).length = l.length := by simp [mov0]
  have hml : (movedW l a b).length = l.length := by unfold movedW; rw [fillN_length, hm0]
  have hchk : checkB (fillN (mov0 l a b) a (at' l (a + 2)).n.toNat) lim = true := hc2
  simp only [e2, hchk, hm0, rdF_wF, leL_self, leObL_self, leS_self, leOO_self, true_and, and_true, Bool.true_eq_false, false_implies, true_implies]
  refine ⟨hf, ⟨a0, a1⟩, ⟨b0, b1⟩, hf, ⟨by show (-9223372036854775808 : Int) ≤ _; omega, by show _ ≤ (9223372036854775807 : Int); omega⟩, ⟨by omega, by omega⟩, by omega, ⟨by show (-9223372036854775808 : Int) ≤ _; omega, by show _ ≤ (9223372036854775807 : Int); omega⟩, ⟨a0, a1⟩, by omega, ⟨by omega, by omega⟩, by omega, by rw [leS_int]; rfl, ?_, ⟨a0, n0, n6, nl, by omega, n0⟩, ?_⟩
  · refine ⟨⟨rfl, ?_⟩, leOb_refl _, ⟨rfl, rfl, rfl, fun k hk j hj => ?_⟩, trivial⟩
    · simp only [leL_cons, leS_junk, leL_nil, and_self]
    · rw [show mov0 l a b = (l.set a.toNat ⟨10, b, noS⟩).set (a + 1).toNat ⟨1, 0, noS⟩ from rfl, ← set2_get l a.toNat (a + 1).toNat ⟨10, b, noS⟩ ⟨1, 0, noS⟩ k hk j hj]
      exact leDt_refl _
  · refine gives1 hp ?_
    simp only [leS_tup, leL_cons, leS_dki, leL_nil, and_true]
    exact leS_refl _
theorem moveB_ctr (l : List Wd) (lim a b : Int) : Ctr Try.prog 22 [hS l lim, vI .i64 a, vI .i64 b] [] (moveBO l lim a b) := by
  refine ctr_fn mixed (N := 103) (fn := Try.f22) (c := bodyOf Try.f22) (ks := mKs) (ls := [mlLF]) (by kernel_rfl) (by kernel_rfl) (by kernel_rfl) mKs_ok finF mLok (by kernel_rfl) (Q := mQ l lim a b) (fun post hp => ?_) (fun R => by kernel_rfl)
  obtain ⟨⟨hc, ha, hb, ka⟩, hp⟩ := hp
  have hp : post (.tup [noH, .ki .i64 3], []) := hp
  have hst := checkB_starts hc
  have e : ∀ n : Int, l.getD n.toNat default = at' l n := fun _ => rfl
  obtain ⟨a0, a1, _⟩ := in_acc hc ha
  have hf := checkB_fits hc
  unfold mQ
  simp only [rdF_wF, hc, hst, inS_eq, ha, hb, e, ka, leL_self, leObL_self, leS_self, leOO_self, true_and, and_true, bne_self_eq_false, beq_iff_eq, beq_eq_false_iff_ne, bne_iff_ne, bne_eq_false_iff_eq, ne_eq, Bool.not_true, Bool.not_false, Bool.true_eq_false, Bool.false_eq_true, false_implies, true_implies, not_false_eq_true, not_true_eq_false]
  refine ⟨hf, ⟨a0, a1⟩, gives1 hp ?_⟩
  simp only [leS_tup, leL_cons, leS_dki, leL_nil, and_true, noH, nilS, leS_agg, leS_self, leS_ki, true_and]
end Go.Proofs.Ytfpnadmpmfcaaaa

open Rx Go
namespace Go.Proofs.Ytfpnadmpmfcaaaa

/-! ## things that were moved, among the others -/
def isMov (b : List Wd) : Prop := (at' b 0).k = 10 ∧ movP b 0 ∧ (3 + (at' b 2).n).toNat = b.length
def gBlk (b : List Wd) : Prop := isBlk b ∨ isMov b
theorem mid_at {p b r : List Wd} {i : Nat} (h : i < b.length) : at' (p ++ b ++ r) ((p.length : Int) + i) = at' b i := by
  rw [List.append_assoc, at_right (by omega), at_left (by omega) (by omega)]
theorem step_mix {p b r : List Wd} (h : gBlk b) : stepS (p ++ b ++ r) p.length = some b.length ∧ 2 ≤ b.length := by
  rcases h with h | ⟨h10, hm, hl⟩
  · obtain ⟨g1, g2, _, _⟩ := blk_at (p := p) (r := r) h
    refine ⟨?_, blk_len h⟩
    unfold stepS
    rw [if_neg (sp_kind g1), if_pos g1, g2]
    simp
  · unfold movP at hm
    obtain ⟨m1, m2, m3, m4, m5, m6, m7⟩ := hm
    have e0 : at' (p ++ b ++ r) p.length = at' b 0 := by have := mid_at (p := p) (b := b) (r := r) (i := 0) (by omega); simpa using this
    have e1 : at' (p ++ b ++ r) ((p.length : Int) + 1) = at' b 1 := mid_at (i := 1) (by omega)
    have e2 : at' (p ++ b ++ r) ((p.length : Int) + 2) = at' b 2 := mid_at (i := 2) (by omega)
    have z1 : at' b (0 + 1) = at' b 1 := rfl
    have z2 : at' b (0 + 2) = at' b 2 := rfl
    rw [z1] at m3
    rw [z2] at m4 m5 m6 m7
    refine ⟨?_, by omega⟩
    unfold stepS
    rw [e0, if_pos h10, if_pos, e2, hl]
    unfold movP
    rw [e0, e1, e2]
    refine ⟨?_, m2, m3, m4, m5, m6, m7⟩
    simp only [List.length_append]
    omega
theorem startsF_mix : ∀ (bs : List (List Wd)) (p : List Wd) (f : Nat), (∀ b ∈ bs, gBlk b) → bs.flatten.length < f → startsF (p ++ bs.flatten) f p.length = some (offs bs p.length)
  | [], p, f, _, hf => by
    cases f with
    | zero => simp at hf
    | succ f => simp [startsF, offs]
  | b :: bs, p, f, h, hf => by
    have hb := h b (by simp)
    cases f with
    | zero => omega
    | succ f =>
      have e : p ++ (b :: bs).flatten = p ++ b ++ bs.flatten := by simp
      rw [e]
      obtain ⟨hs, hl⟩ := step_mix (p := p) (r := bs.flatten) hb
      have hlt : p.length < (p ++ b ++ bs.flatten).length := by simp; omega
      have ih := startsF_mix bs (p ++ b) f (fun x hx => h x (by simp [hx])) (by simp at hf ⊢; omega)
      rw [List.length_append] at ih
      simp only [startsF, hlt, if_true, hs, ih, offs, Option.map_some]
theorem starts_mix {bs : List (List Wd)} (h : ∀ b ∈ bs, gBlk b) : startsS bs.flatten = some (offs bs 0) := by
  have := startsF_mix bs [] (bs.flatten.length + 1) h (by omega)
  simpa [startsS] using this
theorem offs_app : ∀ (x y : List (List Wd)) (o : Nat), offs (x ++ y) o = offs x o ++ offs y (o + x.flatten.length)
  | [], y, o => by simp [offs]
  | b :: x, y, o => by
    have := offs_app x y (o + b.length)
    simp only [List.cons_append, offs, this, List.flatten_cons, List.length_append]
    rw [Nat.add_assoc]
theorem all_mid {acc : List Nat} : ∀ (bs : List (List Wd)) (p r : List Wd), (∀ b ∈ bs, isBlk b) → (∀ b ∈ bs, ∀ w ∈ wordsOf b, wordOk (p ++ bs.flatten ++ r) acc w = true) → ∀ a ∈ offs bs p.length, okAt (p ++ bs.flatten ++ r) acc a = true
  | [], _, _, _, _, a, ha => by cases ha
  | b :: bs, p, r, h, hw, a, ha => by
    have e : p ++ (b :: bs).flatten ++ r = p ++ b ++ bs.flatten ++ r := by simp
    rw [e] at hw ⊢
    simp only [offs, List.mem_cons] at ha
    rcases ha with rfl | ha
    · rw [List.append_assoc, okAt_block (h b (by simp)), List.all_eq_true, ← List.append_assoc]
      exact fun w hm => hw b (by simp) w hm
    · exact all_mid bs (p ++ b) r (fun x hx => h x (by simp [hx])) (fun x hx => hw x (by simp [hx])) a (by rw [List.length_append]; exact ha)

/-! ## the heap behind some moves -/
def mvBlk (b : Int) : List Wd := [⟨10, b, noS⟩, ⟨1, 0, noS⟩, ⟨1, 1, noS⟩, ⟨3, 0, noS⟩]
theorem mvBlk_mov (b : Int) : isMov (mvBlk b) := ⟨rfl, ⟨by show (0 : Int) + 2 < ((4 : Nat) : Int); omega, rfl, ⟨rfl, rfl, rfl⟩, rfl, rfl, by show (0 : Int) ≤ 1; omega, by show (1 : Int) ≤ 6; omega⟩, rfl⟩
theorem recW_sp (ms : List Wd) {k : Int} (h0 : 0 ≤ k) (h1 : k < 20) : spP (recW ms k) 0 ∧ spSize (recW ms k) 0 = 4 ∧ spFrom (recW ms k) 0 = 3 := by
  have hc : cntS (recW ms k) (0 + 2) = 1 := by
    unfold cntS
    rw [if_neg]
    · rfl
    · simp [at', recW]
  have hs : spP (recW ms k) 0 := by
    refine ⟨rfl, .inr (.inr (.inr ⟨rfl, ?_, ?_, ?_, ?_, ?_, rfl, ?_, ?_, rfl, rfl⟩))⟩
    · show (0 : Int) ≤ 0; omega
    · show (0 : Int) < 8; omega
    · rw [hc]; omega
    · rw [hc]; omega
    · rw [hc]; simp [recW]
    · show 0 ≤ k; omega
    · show k < 20; omega
  exact ⟨hs, by rw [spSize, if_pos hs, hc]; rfl, by rw [spFrom, if_pos hs]; rfl⟩
theorem recW_blk (ms : List Wd) {k : Int} (h0 : 0 ≤ k) (h1 : k < 20) : isBlk (recW ms k) ∧ wordsOf (recW ms k) = [pickW ms k] := by
  obtain ⟨h1, h2, h3⟩ := recW_sp ms h0 h1
  refine ⟨⟨h1, h2⟩, ?_⟩
  rw [wordsOf, h3]
  rfl
/-- so many were moved: what is ahead of the record that is now -/
def xBs (d : Bd) (i : Nat) : List (List Wd) := d.bs ++ (List.range i).map fun (j : Nat) => mvBlk (d.ws.length + 4 * ((j : Int) + 1))
def xW (d : Bd) (i : Nat) : List Wd := (xBs d i).flatten
theorem xBs_succ (d : Bd) (i : Nat) : xBs d (i + 1) = xBs d i ++ [mvBlk (d.ws.length + 4 * ((i : Int) + 1))] := by
  unfold xBs
  rw [List.range_succ, List.map_append, List.append_assoc]
  rfl
theorem xW_succ (d : Bd) (i : Nat) : xW d (i + 1) = xW d i ++ mvBlk (d.ws.length + 4 * ((i : Int) + 1)) := by
  unfold xW
  rw [xBs_succ]
  simp
theorem xW_length (d : Bd) : ∀ i, (xW d i).length = d.ws.length + 4 * i
  | 0 => by simp [xW, xBs, Bd.ws]
  | i + 1 => by rw [xW_succ, List.length_append, xW_length d i]; show _ + 4 = _; omega
theorem xW_ext (d : Bd) {j : Nat} : ∀ i : Nat, j ≤ i → ∃ r, xW d i = xW d j ++ r
  | 0, h => ⟨[], by have : j = 0 := by omega
                    subst this; simp⟩
  | i + 1, h => by
    by_cases hj : j = i + 1
    · exact ⟨[], by subst hj; simp⟩
    · obtain ⟨r, hr⟩ := xW_ext (j := j) d i (by omega)
      exact ⟨r ++ mvBlk (d.ws.length + 4 * ((i : Int) + 1)), by rw [xW_succ, hr, List.append_assoc]⟩
theorem offs_x (d : Bd) : ∀ i, offs (xBs d i) 0 = offs d.bs 0 ++ (List.range i).map fun j => d.ws.length + 4 * j
  | 0 => by simp [xBs]
  | i + 1 => by
    rw [xBs_succ, offs_append, offs_x d i, List.range_succ, List.map_append, List.append_assoc]
    congr 2
    have := xW_length d i
    unfold xW at this
    simp [this]
theorem vOk_word' {d : Bd} (hb : ∀ b ∈ d.bs, isBlk b) {w : Wd} (h : vOk d.bs w) {l : List Wd} {acc : List Nat} (hl : d.ws.length ≤ l.length) (ha : ∀ a ∈ offs d.bs 0, a ∈ acc) : wordOk l acc w = true := by
  obtain ⟨h1, h2⟩ := h
  have hv : valueS w l.length = true := by
    simp only [valueS, decide_eq_true_eq]
    unfold valueP
    rcases h2 with h2 | h2 | ⟨h2, a, hm, hn⟩
    · exact .inl ⟨h2.1, by omega, by omega, h1⟩
    · exact .inr (.inr (.inl ⟨h2.1, h2.2, h1⟩))
    · have := offs_lt d.bs 0 hb a hm
      have e : d.ws.length = d.bs.flatten.length := rfl
      exact .inr (.inr (.inr (.inr ⟨h2, by omega, by omega, h1⟩)))
  unfold wordOk
  rw [hv]
  simp only [Bool.true_and, Bool.or_eq_true, Bool.not_eq_true', beq_eq_false_iff_ne]
  rcases h2 with h2 | h2 | ⟨h2, a, hm, hn⟩
  · exact .inl (by omega)
  · exact .inl (by omega)
  · exact .inr ((inS_iff _ _).2 ⟨a, ha a hm, hn⟩)

section
variable {d : Bd} (hb : BI d)
include hb
/-- with one record, or two, behind what was moved -/
theorem x_starts {i : Nat} {rs : List (List Wd)} (hr : ∀ b ∈ rs, isBlk b) : startsS (xW d i ++ rs.flatten) = some (offs (xBs d i) 0 ++ offs rs (d.ws.length + 4 * i)) := by
  have : startsS (xBs d i ++ rs).flatten = some (offs (xBs d i ++ rs) 0) := starts_mix fun b hm => by
    rcases List.mem_append.1 hm with hm | hm
    · unfold xBs at hm
      rcases List.mem_append.1 hm with hm | hm
      · exact .inl (hb.blk b hm)
      · obtain ⟨j, _, rfl⟩ := List.mem_map.1 hm
        exact .inr (mvBlk_mov _)
    · exact .inl (hr b hm)
  rw [List.flatten_append, offs_app] at this
  have e := xW_length d i
  unfold xW at e ⊢
  rw [this, e, Nat.zero_add]
theorem x_check {i : Nat} {rs : List (List Wd)} {c : List Wd} (hr : ∀ b ∈ rs, isBlk b) (hw : ∀ b ∈ rs, ∀ w ∈ wordsOf b, w ∈ d.ms) {ys : List (List Wd)} (hc : rs = c :: ys) (h9 : (at' c 0).k = 9) {lim : Int} (h1 : 50 ≤ lim) (h2 : lim ≤ 60000) (h3 : ((xW d i ++ rs.flatten).length : Int) ≤ lim) : checkB (xW d i ++ rs.flatten) lim = true := by
  have hs := x_starts hb (i := i) hr
  have hx := xW_length d i
  have hcl : 2 ≤ c.length := blk_len (hr c (by rw [hc]; simp))
  have hle : d.ws.length ≤ (xW d i ++ rs.flatten).length := by rw [List.length_append]; omega
  have hmem : ∀ a ∈ offs d.bs 0, a ∈ offs (xBs d i) 0 ++ offs rs (d.ws.length + 4 * i) := fun a ha => by
    rw [offs_x]; simp [ha]
  have ha : allOk (xW d i ++ rs.flatten) = true := by
    unfold allOk
    rw [hs]
    simp only
    generalize hacc : offs (xBs d i) 0 ++ offs rs (d.ws.length + 4 * i) = acc at hmem ⊢
    rw [List.all_eq_true]
    intro a ham
    rw [← hacc, offs_x, List.append_assoc, List.mem_append, List.mem_append] at ham
    rcases ham with ham | ham | ham
    · obtain ⟨r, hr'⟩ := xW_ext d (j := 0) i (Nat.zero_le _)
      have e0 : xW d 0 = d.bs.flatten := by simp [xW, xBs]
      have e : xW d i ++ rs.flatten = [] ++ d.bs.flatten ++ (r ++ rs.flatten) := by rw [hr', e0]; simp
      rw [e]
      refine all_mid d.bs [] (r ++ rs.flatten) hb.blk (fun b hbm w hwm => ?_) a (by simpa using ham)
      rw [← e]
      exact vOk_word' hb.blk (hb.val b hbm w hwm) hle hmem
    · obtain ⟨j, hj, rfl⟩ := List.mem_map.1 ham
      rw [List.mem_range] at hj
      obtain ⟨r, hr'⟩ := xW_ext d (j := j + 1) i hj
      have hxj := xW_length d j
      have e : xW d i ++ rs.flatten = xW d j ++ mvBlk (d.ws.length + 4 * ((j : Int) + 1)) ++ (r ++ rs.flatten) := by rw [hr', xW_succ]; simp
      have h0 : at' (xW d i ++ rs.flatten) ((d.ws.length + 4 * j : Nat) : Int) = ⟨10, d.ws.length + 4 * ((j : Int) + 1), noS⟩ := by
        rw [e]
        have := mid_at (p := xW d j) (b := mvBlk (d.ws.length + 4 * ((j : Int) + 1))) (r := r ++ rs.flatten) (i := 0) (by show 0 < 4; omega)
        rw [hxj] at this
        have z : at' (mvBlk (d.ws.length + 4 * ((j : Int) + 1))) ((0 : Nat) : Int) = ⟨10, d.ws.length + 4 * ((j : Int) + 1), noS⟩ := rfl
        rw [z] at this
        simpa using this
      have en : (d.ws.length : Int) + 4 * ((j : Int) + 1) = ((d.ws.length + 4 * (j + 1) : Nat) : Int) := by omega
      unfold okAt
      rw [h0, if_pos rfl]
      simp only [Bool.and_eq_true, Bool.or_eq_true, beq_iff_eq, decide_eq_true_eq]
      rw [en]
      by_cases hji : j + 1 < i
      · obtain ⟨r2, hr2⟩ := xW_ext d (j := j + 1 + 1) i hji
        have hxj1 := xW_length d (j + 1)
        have e' : xW d i ++ rs.flatten = xW d (j + 1) ++ mvBlk (d.ws.length + 4 * (((j + 1 : Nat) : Int) + 1)) ++ (r2 ++ rs.flatten) := by rw [hr2, xW_succ]; simp
        have h10 : (at' (xW d i ++ rs.flatten) ((d.ws.length + 4 * (j + 1) : Nat) : Int)).k = 10 := by
          rw [e']
          have := mid_at (p := xW d (j + 1)) (b := mvBlk (d.ws.length + 4 * (((j + 1 : Nat) : Int) + 1))) (r := r2 ++ rs.flatten) (i := 0) (by show 0 < 4; omega)
          rw [hxj1] at this
          have z : at' (mvBlk (d.ws.length + 4 * (((j + 1 : Nat) : Int) + 1))) ((0 : Nat) : Int) = ⟨10, d.ws.length + 4 * (((j + 1 : Nat) : Int) + 1), noS⟩ := rfl
          rw [z, show ((d.ws.length + 4 * (j + 1) : Nat) : Int) + ((0 : Nat) : Int) = ((d.ws.length + 4 * (j + 1) : Nat) : Int) by omega] at this
          rw [this]
        refine ⟨(inS_iff _ _).2 ⟨d.ws.length + 4 * (j + 1), ?_, rfl⟩, .inr ⟨h10, by omega⟩⟩
        rw [← hacc, offs_x]
        simp only [List.mem_append, List.mem_map, List.mem_range]
        exact .inl (.inr ⟨j + 1, hji, rfl⟩)
      · have hi : i = j + 1 := by omega
        subst hi
        have h9' : (at' (xW d (j + 1) ++ rs.flatten) ((d.ws.length + 4 * (j + 1) : Nat) : Int)).k = 9 := by
          rw [hc, List.flatten_cons]
          have := at_right (l := xW d (j + 1)) (m := c ++ ys.flatten) (i := 0) (by omega)
          rw [hx] at this
          rw [show ((d.ws.length + 4 * (j + 1) : Nat) : Int) = ((d.ws.length + 4 * (j + 1) : Nat) : Int) + 0 by omega, this, at_left (by omega) (by omega)]
          exact h9
        refine ⟨(inS_iff _ _).2 ⟨d.ws.length + 4 * (j + 1), ?_, rfl⟩, .inl h9'⟩
        rw [← hacc, hc]
        simp [offs]
    · have := all_mid (acc := acc) rs (xW d i) [] hr (fun b hbm w hwm => ?_) a (by rw [hx]; exact ham)
      · simpa using this
      · rw [List.append_nil]
        exact vOk_word' hb.blk (hb.mv w (hw b hbm w hwm)) hle hmem
  simp only [checkB, ha, Bool.and_true, Bool.and_eq_true, decide_eq_true_eq]
  omega
end
/-- the heap when so many were moved, and the one with one record more -/
def hM (d : Bd) (i : Nat) : List Wd := xW d i ++ recW d.ms i
def pM (d : Bd) (i : Nat) : List Wd := hM d i ++ recW d.ms ((i : Int) + 1)
def aM (d : Bd) (i : Nat) : Int := d.ws.length + 4 * i
theorem set_mid (X Y : List Wd) (w0 w1 w2 w3 v : Wd) (i : Nat) (hi : i < 4) : (X ++ [w0, w1, w2, w3] ++ Y).set (X.length + i) v = X ++ [w0, w1, w2, w3].set i v ++ Y := by
  rw [List.append_assoc, List.set_append_right _ _ (by omega), Nat.add_sub_cancel_left, List.set_append_left _ _ (by simp; omega), List.append_assoc]
theorem moved_eq (d : Bd) (i : Nat) : movedW (pM d i) (aM d i) (aM d (i + 1)) = hM d (i + 1) := by
  have hx := xW_length d i
  have e : pM d i = xW d i ++ [⟨9, 0, noS⟩, ⟨1, i, noS⟩, ⟨1, 1, noS⟩, pickW d.ms i] ++ recW d.ms ((i : Int) + 1) := rfl
  have ea : aM d i = ((xW d i).length : Int) := by unfold aM; rw [hx]; omega
  have en : (at' (pM d i) (aM d i + 2)).n = 1 := by
    rw [ea, e]
    have := mid_at (p := xW d i) (b := [⟨9, 0, noS⟩, ⟨1, i, noS⟩, ⟨1, 1, noS⟩, pickW d.ms i]) (r := recW d.ms ((i : Int) + 1)) (i := 2) (by show 2 < 4; omega)
    have this : at' (xW d i ++ [⟨9, 0, noS⟩, ⟨1, i, noS⟩, ⟨1, 1, noS⟩, pickW d.ms i] ++ recW d.ms ((i : Int) + 1)) (((xW d i).length : Int) + 2) = ⟨1, 1, noS⟩ := this
    rw [this]
  have ea1 : aM d (i + 1) = d.ws.length + 4 * ((i : Int) + 1) := by unfold aM; omega
  have ei : ((i + 1 : Nat) : Int) = (i : Int) + 1 := by omega
  unfold movedW
  rw [en]
  show (mov0 (pM d i) (aM d i) (aM d (i + 1))).set (aM d i + 3 + (0 : Nat)).toNat nilW = _
  unfold mov0
  rw [ea1, ea, e]
  have s0 := set_mid (xW d i) (recW d.ms ((i : Int) + 1)) ⟨9, 0, noS⟩ ⟨1, i, noS⟩ ⟨1, 1, noS⟩ (pickW d.ms i) ⟨10, d.ws.length + 4 * ((i : Int) + 1), noS⟩ 0 (by omega)
  have s1 := set_mid (xW d i) (recW d.ms ((i : Int) + 1)) ⟨10, d.ws.length + 4 * ((i : Int) + 1), noS⟩ ⟨1, i, noS⟩ ⟨1, 1, noS⟩ (pickW d.ms i) ⟨1, 0, noS⟩ 1 (by omega)
  have s2 := set_mid (xW d i) (recW d.ms ((i : Int) + 1)) ⟨10, d.ws.length + 4 * ((i : Int) + 1), noS⟩ ⟨1, 0, noS⟩ ⟨1, 1, noS⟩ (pickW d.ms i) nilW 3 (by omega)
  rw [show (((xW d i).length : Nat) : Int).toNat = (xW d i).length + 0 by omega, s0]
  have t0 : ([⟨9, 0, noS⟩, ⟨1, i, noS⟩, ⟨1, 1, noS⟩, pickW d.ms i] : List Wd).set 0 ⟨10, d.ws.length + 4 * ((i : Int) + 1), noS⟩ = [⟨10, d.ws.length + 4 * ((i : Int) + 1), noS⟩, ⟨1, i, noS⟩, ⟨1, 1, noS⟩, pickW d.ms i] := rfl
  rw [t0, show (((xW d i).length : Nat) + 1 : Int).toNat = (xW d i).length + 1 by omega, s1]
  have t1 : ([⟨10, d.ws.length + 4 * ((i : Int) + 1), noS⟩, ⟨1, i, noS⟩, ⟨1, 1, noS⟩, pickW d.ms i] : List Wd).set 1 ⟨1, 0, noS⟩ = [⟨10, d.ws.length + 4 * ((i : Int) + 1), noS⟩, ⟨1, 0, noS⟩, ⟨1, 1, noS⟩, pickW d.ms i] := rfl
  rw [t1, show (((xW d i).length : Nat) + 3 + (0 : Nat) : Int).toNat = (xW d i).length + 3 by omega, s2]
  unfold hM
  rw [xW_succ, ei]
  rfl
section
variable {d : Bd} (hb : BI d) (hlen : d.ws.length ≤ 100)
include hb hlen
theorem hM_check {i : Nat} (hi : i ≤ 10) : checkB (hM d i) 600 = true := by
  have hx := xW_length d i
  have hr := recW_blk d.ms (k := (i : Int)) (by omega) (by omega)
  have e : hM d i = xW d i ++ [recW d.ms (i : Int)].flatten := by simp [hM]
  rw [e]
  refine x_check hb (c := recW d.ms (i : Int)) (ys := []) (fun b hm => ?_) (fun b hm w hw => ?_) rfl rfl (by omega) (by omega) ?_
  · simp at hm; subst hm; exact hr.1
  · simp at hm; subst hm; rw [hr.2] at hw; simp at hw; subst hw; exact pickW_mem ⟨by omega, by omega⟩ hb.pos
  · rw [List.length_append, hx]
    show ((_ + 4 : Nat) : Int) ≤ _
    omega
theorem pM_check {i : Nat} (hi : i ≤ 9) : checkB (pM d i) 600 = true := by
  have hx := xW_length d i
  have hr := recW_blk d.ms (k := (i : Int)) (by omega) (by omega)
  have hr' := recW_blk d.ms (k := (i : Int) + 1) (by omega) (by omega)
  have e : pM d i = xW d i ++ [recW d.ms (i : Int), recW d.ms ((i : Int) + 1)].flatten := by simp [pM, hM]
  rw [e]
  refine x_check hb (c := recW d.ms (i : Int)) (ys := [recW d.ms ((i : Int) + 1)]) (fun b hm => ?_) (fun b hm w hw => ?_) rfl rfl (by omega) (by omega) ?_
  · simp at hm; rcases hm with rfl | rfl
    · exact hr.1
    · exact hr'.1
  · simp at hm; rcases hm with rfl | rfl
    · rw [hr.2] at hw; simp at hw; subst hw; exact pickW_mem ⟨by omega, by omega⟩ hb.pos
    · rw [hr'.2] at hw; simp at hw; subst hw; exact pickW_mem ⟨by omega, by omega⟩ hb.pos
  · rw [List.length_append, hx]
    show ((_ + 8 : Nat) : Int) ≤ _
    omega
omit hlen in
theorem pM_starts {i : Nat} (hi : i ≤ 9) : ∀ j, j ≤ i + 1 → inS ((startsS (pM d i)).getD []) (aM d j) = true := by
  have hr := recW_blk d.ms (k := (i : Int)) (by omega) (by omega)
  have hr' := recW_blk d.ms (k := (i : Int) + 1) (by omega) (by omega)
  have e : pM d i = xW d i ++ [recW d.ms (i : Int), recW d.ms ((i : Int) + 1)].flatten := by simp [pM, hM]
  have hs := x_starts hb (i := i) (rs := [recW d.ms (i : Int), recW d.ms ((i : Int) + 1)]) (fun b hm => by
    simp at hm; rcases hm with rfl | rfl
    · exact hr.1
    · exact hr'.1)
  intro j hj
  rw [e, hs]
  refine (inS_iff _ _).2 ⟨d.ws.length + 4 * j, ?_, by unfold aM; omega⟩
  rw [offs_x, Option.getD_some]
  simp only [List.mem_append, List.mem_map, List.mem_range, offs, List.mem_cons, List.not_mem_nil, or_false]
  have h4 : (recW d.ms (i : Int)).length = 4 := rfl
  by_cases h1 : j < i
  · exact .inl (.inr ⟨j, h1, rfl⟩)
  · by_cases h2 : j = i
    · exact .inr (.inl (by omega))
    · exact .inr (.inr (by omega))
omit hlen in
theorem hM_starts {i : Nat} (hi : i ≤ 10) : ∀ j, j ≤ i → aM d j = (((d.ws.length + 4 * j : Nat)) : Int) ∧ d.ws.length + 4 * j ∈ (startsS (hM d i)).getD [] := by
  have hr := recW_blk d.ms (k := (i : Int)) (by omega) (by omega)
  have e : hM d i = xW d i ++ [recW d.ms (i : Int)].flatten := by simp [hM]
  have hs := x_starts hb (i := i) (rs := [recW d.ms (i : Int)]) (fun b hm => by simp at hm; subst hm; exact hr.1)
  intro j hj
  refine ⟨by unfold aM; omega, ?_⟩
  rw [e, hs, offs_x, Option.getD_some]
  simp only [List.mem_append, List.mem_map, List.mem_range, offs, List.mem_cons, List.not_mem_nil, or_false]
  by_cases h1 : j < i
  · exact .inl (.inr ⟨j, h1, rfl⟩)
  · exact .inr (by omega)
omit hb hlen in
theorem hM_mov {i j : Nat} (hj : j < i) : at' (hM d i) (aM d j) = ⟨10, aM d (j + 1), noS⟩ := by
  obtain ⟨r, hr'⟩ := xW_ext d (j := j + 1) i hj
  have hxj := xW_length d j
  have e : hM d i = xW d j ++ mvBlk (d.ws.length + 4 * ((j : Int) + 1)) ++ (r ++ recW d.ms i) := by unfold hM; rw [hr', xW_succ]; simp
  have := mid_at (p := xW d j) (b := mvBlk (d.ws.length + 4 * ((j : Int) + 1))) (r := r ++ recW d.ms i) (i := 0) (by show 0 < 4; omega)
  rw [e]
  have ea : aM d j = ((xW d j).length : Int) + (0 : Nat) := by unfold aM; rw [hxj]; omega
  rw [ea, this]
  have : aM d (j + 1) = d.ws.length + 4 * ((j : Int) + 1) := by unfold aM; omega
  rw [this]
  rfl
omit hb hlen in
theorem hM_rec (i : Nat) (t : Nat) (ht : t < 4) : at' (hM d i) (aM d i + t) = at' (recW d.ms i) t := by
  have hx := xW_length d i
  have ea : aM d i + t = ((xW d i).length : Int) + (t : Nat) := by unfold aM; rw [hx]; omega
  rw [ea]
  unfold hM
  exact at_right (by omega)
omit hb hlen in
theorem hM_find {i : Nat} : ∀ (n j f : Nat), j + n = i → n < f → findF (hM d i) f ⟨5, aM d j, noS⟩ = ⟨5, aM d i, noS⟩
  | 0, j, f, hj, hf => by
    obtain rfl : j = i := by omega
    cases f with
    | zero => omega
    | succ f =>
      rw [findF, if_neg]
      rintro ⟨_, h10⟩
      have := hM_rec (d := d) j 0 (by omega)
      have h10 : (at' (hM d j) (aM d j)).k = 10 := h10
      rw [show aM d j + ((0 : Nat) : Int) = aM d j by omega] at this
      rw [this] at h10
      exact absurd h10 (by show ¬ ((9 : Int) = 10); decide)
  | n + 1, j, f, hj, hf => by
    cases f with
    | zero => omega
    | succ f =>
      have hm := hM_mov (d := d) (i := i) (j := j) (by omega)
      rw [findF, if_pos ⟨rfl, by show (at' (hM d i) (aM d j)).k = 10; rw [hm]⟩]
      show findF (hM d i) f ⟨5, (at' (hM d i) (aM d j)).n, noS⟩ = _
      rw [hm]
      exact hM_find n (j + 1) f (by omega) (by omega)
omit hb in
theorem hM_findS {i j : Nat} (hj : j ≤ i) : findS (hM d i) ⟨5, aM d j, noS⟩ = ⟨5, aM d i, noS⟩ := by
  have hx := xW_length d i
  refine hM_find (i - j) j _ (by omega) ?_
  unfold hM
  rw [List.length_append]
  omega
theorem hM_val {i j : Nat} (hi : i ≤ 10) (hj : j ≤ i) : valOk (hM d i) ⟨5, aM d j, noS⟩ = true := by
  obtain ⟨e, hm⟩ := hM_starts hb hi j hj
  have hlt := (checkB_okAt (hM_check hb hlen hi) _ hm).2
  unfold valOk wordOk
  simp only [Bool.and_eq_true, Bool.or_eq_true]
  refine ⟨decide_eq_true ?_, .inr ((inS_iff _ _).2 ⟨_, hm, e.symm⟩)⟩
  unfold valueP
  refine .inr (.inr (.inr (.inr ⟨rfl, ?_, ?_, rfl⟩)))
  · show 0 ≤ aM d j; omega
  · show aM d j < _; omega
theorem hM_put {i : Nat} (hi : i ≤ 9) : putGood (hM d i) 600 (recW d.ms ((i : Int) + 1)) = true := by
  have c1 := hM_check hb hlen (i := i) (by omega)
  have c2 := pM_check hb hlen hi
  have hr := recW_blk d.ms (k := (i : Int) + 1) (by omega) (by omega)
  have hx := xW_length d i
  have hsp : spOk (recW d.ms ((i : Int) + 1)) 0 = true := decide_eq_true hr.1.1
  have hsz : spSize (recW d.ms ((i : Int) + 1)) 0 = ((recW d.ms ((i : Int) + 1)).length : Int) := hr.1.2
  have h4 : (recW d.ms ((i : Int) + 1)).length = 4 := rfl
  have hl : (hM d i).length = d.ws.length + 4 * i + 4 := by unfold hM; rw [List.length_append, hx]; rfl
  unfold putGood putOk
  rw [c1, show checkB (hM d i ++ recW d.ms ((i : Int) + 1)) 600 = true from c2, hsp, hsz, h4, hl, decide_eq_true (by omega)]
  rfl
/-- what is collected then begins with the record that is now -/
theorem hM_col {i : Nat} (hi : i ≤ 10) (j : Nat) (hj : j ≤ i) : colGood (hM d i) 600 [⟨5, aM d j, noS⟩, ⟨5, aM d i, noS⟩] = true ∧ colR (hM d i) [⟨5, aM d j, noS⟩, ⟨5, aM d i, noS⟩] = [(colR (hM d i) [⟨5, aM d j, noS⟩, ⟨5, aM d i, noS⟩]).getD 0 default, (colR (hM d i) [⟨5, aM d j, noS⟩, ⟨5, aM d i, noS⟩]).getD 0 default] ∧
    1 < (colW (hM d i) [⟨5, aM d j, noS⟩, ⟨5, aM d i, noS⟩]).length ∧ (at' (colW (hM d i) [⟨5, aM d j, noS⟩, ⟨5, aM d i, noS⟩]) 1).n = i := by
  have hc := hM_check hb hlen hi
  have v1 := hM_val hb hlen hi hj
  have v2 := hM_val hb hlen hi (Nat.le_refl i)
  have f1 := hM_findS hlen hj
  have f2 := hM_findS hlen (Nat.le_refl i)
  have hv : ([⟨5, aM d j, noS⟩, ⟨5, aM d i, noS⟩] : List Wd).all (valOk (hM d i)) = true := by simp [v1, v2]
  obtain ⟨k1, k2⟩ := kept_ki hc hv
  obtain ⟨e, hm⟩ := hM_starts hb hi i (Nat.le_refl i)
  have hroot : rootK (hM d i) [⟨5, aM d j, noS⟩, ⟨5, aM d i, noS⟩] = [d.ws.length + 4 * i] := by
    have en : (aM d i).toNat = d.ws.length + 4 * i := by omega
    simp only [rootK, List.foldl_cons, List.foldl_nil, addK, f1, f2, en]
    simp
  obtain ⟨r1, _, _⟩ := root_ki hc [⟨5, aM d j, noS⟩, ⟨5, aM d i, noS⟩] [] (ki_0 _) hv
  obtain ⟨_, x, hx⟩ := r1.last hc ((hM d i).length + 1) (by omega)
  have hx : kept (hM d i) [⟨5, aM d j, noS⟩, ⟨5, aM d i, noS⟩] = rootK (hM d i) [⟨5, aM d j, noS⟩, ⟨5, aM d i, noS⟩] ++ x := hx
  rw [hroot] at hx
  have hsp : spP (hM d i) ((d.ws.length + 4 * i : Nat) : Int) := k1.sp _ (by rw [hx]; simp)
  have h9 : (at' (hM d i) ((d.ws.length + 4 * i : Nat) : Int)).k = 9 := by
    have := hM_rec (d := d) i 0 (by omega)
    rw [show aM d i + ((0 : Nat) : Int) = ((d.ws.length + 4 * i : Nat) : Int) by omega] at this
    rw [this]
    rfl
  have hfr : fr (hM d i) (d.ws.length + 4 * i) = 3 := by
    unfold fr spFrom
    rw [if_pos hsp, h9]
    rfl
  obtain ⟨s1, s2, s3, s4, s5, s6⟩ := sp_sz hsp
  obtain ⟨a1, a2⟩ := at_blk (l := hM d i) (ks := []) (ks' := x) (k := d.ws.length + 4 * i) (t := 1) (fun _ h => (by cases h)) hsp (by omega)
  have hl1 : 1 < (rawTo (hM d i) (kept (hM d i) [⟨5, aM d j, noS⟩, ⟨5, aM d i, noS⟩])).length := by
    rw [hx, List.singleton_append, rawTo_cons, List.length_append, blkAt_length hsp]; omega
  refine ⟨by simp only [colGood, hc, hv, Bool.and_self], ?_, ?_, ?_⟩
  · have e : colR (hM d i) [⟨5, aM d j, noS⟩, ⟨5, aM d i, noS⟩] = [imgW (hM d i) (kept (hM d i) [⟨5, aM d j, noS⟩, ⟨5, aM d i, noS⟩]) ⟨5, aM d j, noS⟩, imgW (hM d i) (kept (hM d i) [⟨5, aM d j, noS⟩, ⟨5, aM d i, noS⟩]) ⟨5, aM d i, noS⟩] := rfl
    have e2 : ∀ K, imgW (hM d i) K ⟨5, aM d j, noS⟩ = imgW (hM d i) K ⟨5, aM d i, noS⟩ := fun K => by unfold imgW; rw [f1, f2]
    rw [e, e2]
    rfl
  · unfold colW; rw [cook_length]; exact hl1
  · unfold at' colW
    show ((cook (hM d i) (kept (hM d i) [⟨5, aM d j, noS⟩, ⟨5, aM d i, noS⟩]) (rawTo (hM d i) (kept (hM d i) [⟨5, aM d j, noS⟩, ⟨5, aM d i, noS⟩])).length).getD 1 default).n = _
    rw [cook_get _ _ _ hl1]
    rw [show ((rawTo (hM d i) []).length + 1) = 1 from rfl] at a1 a2
    rw [← show kept (hM d i) [⟨5, aM d j, noS⟩, ⟨5, aM d i, noS⟩] = [] ++ (d.ws.length + 4 * i) :: x from hx] at a1 a2
    rw [a1, a2, hfr, if_neg (by simp)]
    have := hM_rec (d := d) i 1 (by omega)
    rw [show aM d i + ((1 : Nat) : Int) = ((d.ws.length + 4 * i + 1 : Nat) : Int) by omega] at this
    unfold at' at this
    rw [Int.toNat_natCast] at this
    rw [this]
    rfl
end
end Go.Proofs.Ytfpnadmpmfcaaaa
