/- Part, Change; PartsBack. -/
import Derived.Test.YtfpnadmpmfcaaaaHpM
import Derived.Test.YtfpnadmpmfcaaaaRxY
open Rx Go
namespace Go.Proofs.Ytfpnadmpmfcaaaa

def partE (l : List Wd) (lim : Int) (w : Wd) (i : Int) : Int :=
  if cvErr l lim w = 0 then if (findS l w).k = 5 then if i < 0 ∨ spSize l (findS l w).n - spFrom l (findS l w).n ≤ i then 2 else 0 else 3 else cvErr l lim w
def partP (l : List Wd) (w : Wd) (i : Int) : Int := (findS l w).n + spFrom l (findS l w).n + i
def partW (l : List Wd) (lim : Int) (w : Wd) (i : Int) : Wd := if partE l lim w i = 0 then at' l (partP l w i) else noWd
def partO (l : List Wd) (lim : Int) (w : Wd) (i : Int) : T Out := .need (isInt i) (.ret (.tup [wS (partW l lim w i), vI .i64 (partE l lim w i)], []))
def partKs : List (Nat × Nat × FC) := [(1, 2, findBF), (6, 4, spanF)]
noncomputable def partEn : Env := fnE Try.prog 55 0 partKs []
def partF : FC := ⟨17, false, false, fun al ol => match al, ol with
  | [h, w, i], [] => match rdHp h, rdW w, rdI i with
    | some (l, lim), some w, some i => some ([hS l lim, wS w, vI .i64 i], [], partO l lim w i)
    | _, _, _ => none
  | _, _ => none⟩

def chE (l : List Wd) (lim : Int) (w : Wd) (i : Int) (v : Wd) : Int := if partE l lim w i = 0 then cvErr l lim v else partE l lim w i
def chW (l : List Wd) (w : Wd) (i : Int) (v : Wd) : List Wd := l.set (partP l w i).toNat v
def chO (l : List Wd) (lim : Int) (w : Wd) (i : Int) (v : Wd) : T Out := .need (isInt i) (.ite (decide (chE l lim w i v = 0))
  (.ret (.tup [hS (chW l w i v) lim, .ki .i64 0], []))
  (.ret (.tup [noH, vI .i64 (chE l lim w i v)], [])))
def chKs : List (Nat × Nat × FC) := [(1, 3, partF), (4, 2, cvFC), (7, 2, findFC), (8, 4, spanF), (9, 2, cloneF)]
noncomputable def chEn : Env := fnE Try.prog 64 0 chKs []
def chF : FC := ⟨18, false, false, fun al ol => match al, ol with
  | [h, w, i, v], [] => match rdHp h, rdW w, rdI i, rdW v with
    | some (l, lim), some w, some i, some v => some ([hS l lim, wS w, vI .i64 i, wS v], [], chO l lim w i v)
    | _, _, _, _ => none
  | _, _ => none⟩
def partQ (l : List Wd) (lim : Int) (w : Wd) (i : Int) (R : SV → List (Option Ob) → Prop) : Prop :=
((Rx.leL ([SV.agg [SV.dt (Dt.arr ((3 : Nat)) (l.length) (Go.Proofs.Ytfpnadmpmfcaaaa.wF l)), SV.dt (Dt.cell (Go.Value.int Go.IntKind.i64 lim))], SV.agg [SV.dt (Dt.cell (Go.Value.int Go.IntKind.i64 w.k)), SV.dt (Dt.cell (Go.Value.int Go.IntKind.i64 w.n)), SV.dt (Dt.cell (Go.Value.string w.s))]]) ([SV.agg [SV.dt (Dt.arr ((3 : Nat)) ((Go.Proofs.Ytfpnadmpmfcaaaa.rdF l.length (Go.Proofs.Ytfpnadmpmfcaaaa.wF l)).length) (Go.Proofs.Ytfpnadmpmfcaaaa.wF (Go.Proofs.Ytfpnadmpmfcaaaa.rdF l.length (Go.Proofs.Ytfpnadmpmfcaaaa.wF l)))), SV.dt (Dt.cell (Go.Value.int Go.IntKind.i64 lim))], SV.agg [SV.dt (Dt.cell (Go.Value.int Go.IntKind.i64 w.k)), SV.dt (Dt.cell (Go.Value.int Go.IntKind.i64 w.n)), SV.dt (Dt.cell (Go.Value.string w.s))]])) ∧
((Rx.leObL ([]) ([])) ∧
 ((((Go.Proofs.Ytfpnadmpmfcaaaa.cvErr (Go.Proofs.Ytfpnadmpmfcaaaa.rdF l.length (Go.Proofs.Ytfpnadmpmfcaaaa.wF l)) lim (Go.Proofs.Ytfpnadmpmfcaaaa.Wd.mk w.k w.n w.s) != (0 : Int)) = Bool.true) →
   (True ∧
    R (SV.tup [SV.agg [SV.ki Go.IntKind.i64 ((0 : Int)), SV.ki Go.IntKind.i64 ((0 : Int)), SV.dt (Dt.cell (Go.Value.string (ByteArray.mk #[])))], SV.dt (Dt.cell (Go.Value.int Go.IntKind.i64 (Go.Proofs.Ytfpnadmpmfcaaaa.cvErr (Go.Proofs.Ytfpnadmpmfcaaaa.rdF l.length (Go.Proofs.Ytfpnadmpmfcaaaa.wF l)) lim (Go.Proofs.Ytfpnadmpmfcaaaa.Wd.mk w.k w.n w.s))))]) ([]))) ∧
  (((Go.Proofs.Ytfpnadmpmfcaaaa.cvErr (Go.Proofs.Ytfpnadmpmfcaaaa.rdF l.length (Go.Proofs.Ytfpnadmpmfcaaaa.wF l)) lim (Go.Proofs.Ytfpnadmpmfcaaaa.Wd.mk w.k w.n w.s) != (0 : Int)) = Bool.false) →
   (((((Go.Proofs.Ytfpnadmpmfcaaaa.findR (Go.Proofs.Ytfpnadmpmfcaaaa.rdF l.length (Go.Proofs.Ytfpnadmpmfcaaaa.wF l)) lim (Go.Proofs.Ytfpnadmpmfcaaaa.Wd.mk w.k w.n w.s)).k != (5 : Int)) = Bool.true) →
     (True ∧
      R (SV.tup [SV.agg [SV.ki Go.IntKind.i64 ((0 : Int)), SV.ki Go.IntKind.i64 ((0 : Int)), SV.dt (Dt.cell (Go.Value.string (ByteArray.mk #[])))], SV.dt (Dt.cell (Go.Value.int Go.IntKind.i64 (3 : Int)))]) ([]))) ∧
    ((((Go.Proofs.Ytfpnadmpmfcaaaa.findR (Go.Proofs.Ytfpnadmpmfcaaaa.rdF l.length (Go.Proofs.Ytfpnadmpmfcaaaa.wF l)) lim (Go.Proofs.Ytfpnadmpmfcaaaa.Wd.mk w.k w.n w.s)).k != (5 : Int)) = Bool.false) →
     ((Rx.leL ([SV.dt (Dt.arr ((3 : Nat)) (l.length) (Go.Proofs.Ytfpnadmpmfcaaaa.wF l)), SV.dt (Dt.cell (Go.Value.int Go.IntKind.i64 (Go.Proofs.Ytfpnadmpmfcaaaa.findR (Go.Proofs.Ytfpnadmpmfcaaaa.rdF l.length (Go.Proofs.Ytfpnadmpmfcaaaa.wF l)) lim (Go.Proofs.Ytfpnadmpmfcaaaa.Wd.mk w.k w.n w.s)).n))]) ([SV.dt (Dt.arr ((3 : Nat)) ((Go.Proofs.Ytfpnadmpmfcaaaa.rdF l.length (Go.Proofs.Ytfpnadmpmfcaaaa.wF l)).length) (Go.Proofs.Ytfpnadmpmfcaaaa.wF (Go.Proofs.Ytfpnadmpmfcaaaa.rdF l.length (Go.Proofs.Ytfpnadmpmfcaaaa.wF l)))), SV.dt (Dt.cell (Go.Value.int Go.IntKind.i64 (Go.Proofs.Ytfpnadmpmfcaaaa.findR (Go.Proofs.Ytfpnadmpmfcaaaa.rdF l.length (Go.Proofs.Ytfpnadmpmfcaaaa.wF l)) lim (Go.Proofs.Ytfpnadmpmfcaaaa.Wd.mk w.k w.n w.s)).n))])) ∧
      ((Rx.leObL ([]) ([])) ∧
       ((((0 : Int) ≤ (Go.Proofs.Ytfpnadmpmfcaaaa.findR (Go.Proofs.Ytfpnadmpmfcaaaa.rdF l.length (Go.Proofs.Ytfpnadmpmfcaaaa.wF l)) lim (Go.Proofs.Ytfpnadmpmfcaaaa.Wd.mk w.k w.n w.s)).n) ∧
         (((Go.Proofs.Ytfpnadmpmfcaaaa.findR (Go.Proofs.Ytfpnadmpmfcaaaa.rdF l.length (Go.Proofs.Ytfpnadmpmfcaaaa.wF l)) lim (Go.Proofs.Ytfpnadmpmfcaaaa.Wd.mk w.k w.n w.s)).n < (↑(Go.Proofs.Ytfpnadmpmfcaaaa.rdF l.length (Go.Proofs.Ytfpnadmpmfcaaaa.wF l)).length : Int)) ∧
          (Go.Proofs.Ytfpnadmpmfcaaaa.fitsW (Go.Proofs.Ytfpnadmpmfcaaaa.rdF l.length (Go.Proofs.Ytfpnadmpmfcaaaa.wF l))))) ∧
        (((Decidable.decide (i < (0 : Int)) = Bool.true) →
          (True ∧
           R (SV.tup [SV.agg [SV.ki Go.IntKind.i64 ((0 : Int)), SV.ki Go.IntKind.i64 ((0 : Int)), SV.dt (Dt.cell (Go.Value.string (ByteArray.mk #[])))], SV.dt (Dt.cell (Go.Value.int Go.IntKind.i64 (2 : Int)))]) ([]))) ∧
         ((Decidable.decide (i < (0 : Int)) = Bool.false) →
          (((Rx.lo Go.IntKind.i64 ≤ Go.Proofs.Ytfpnadmpmfcaaaa.spSize (Go.Proofs.Ytfpnadmpmfcaaaa.rdF l.length (Go.Proofs.Ytfpnadmpmfcaaaa.wF l)) (Go.Proofs.Ytfpnadmpmfcaaaa.findR (Go.Proofs.Ytfpnadmpmfcaaaa.rdF l.length (Go.Proofs.Ytfpnadmpmfcaaaa.wF l)) lim (Go.Proofs.Ytfpnadmpmfcaaaa.Wd.mk w.k w.n w.s)).n - Go.Proofs.Ytfpnadmpmfcaaaa.spFrom (Go.Proofs.Ytfpnadmpmfcaaaa.rdF l.length (Go.Proofs.Ytfpnadmpmfcaaaa.wF l)) (Go.Proofs.Ytfpnadmpmfcaaaa.findR (Go.Proofs.Ytfpnadmpmfcaaaa.rdF l.length (Go.Proofs.Ytfpnadmpmfcaaaa.wF l)) lim (Go.Proofs.Ytfpnadmpmfcaaaa.Wd.mk w.k w.n w.s)).n) ∧
            (Go.Proofs.Ytfpnadmpmfcaaaa.spSize (Go.Proofs.Ytfpnadmpmfcaaaa.rdF l.length (Go.Proofs.Ytfpnadmpmfcaaaa.wF l)) (Go.Proofs.Ytfpnadmpmfcaaaa.findR (Go.Proofs.Ytfpnadmpmfcaaaa.rdF l.length (Go.Proofs.Ytfpnadmpmfcaaaa.wF l)) lim (Go.Proofs.Ytfpnadmpmfcaaaa.Wd.mk w.k w.n w.s)).n - Go.Proofs.Ytfpnadmpmfcaaaa.spFrom (Go.Proofs.Ytfpnadmpmfcaaaa.rdF l.length (Go.Proofs.Ytfpnadmpmfcaaaa.wF l)) (Go.Proofs.Ytfpnadmpmfcaaaa.findR (Go.Proofs.Ytfpnadmpmfcaaaa.rdF l.length (Go.Proofs.Ytfpnadmpmfcaaaa.wF l)) lim (Go.Proofs.Ytfpnadmpmfcaaaa.Wd.mk w.k w.n w.s)).n ≤ Rx.hi Go.IntKind.i64)) ∧
           (((Decidable.decide (i ≥ Go.Proofs.Ytfpnadmpmfcaaaa.spSize (Go.Proofs.Ytfpnadmpmfcaaaa.rdF l.length (Go.Proofs.Ytfpnadmpmfcaaaa.wF l)) (Go.Proofs.Ytfpnadmpmfcaaaa.findR (Go.Proofs.Ytfpnadmpmfcaaaa.rdF l.length (Go.Proofs.Ytfpnadmpmfcaaaa.wF l)) lim (Go.Proofs.Ytfpnadmpmfcaaaa.Wd.mk w.k w.n w.s)).n - Go.Proofs.Ytfpnadmpmfcaaaa.spFrom (Go.Proofs.Ytfpnadmpmfcaaaa.rdF l.length (Go.Proofs.Ytfpnadmpmfcaaaa.wF l)) (Go.Proofs.Ytfpnadmpmfcaaaa.findR (Go.Proofs.Ytfpnadmpmfcaaaa.rdF l.length (Go.Proofs.Ytfpnadmpmfcaaaa.wF l)) lim (Go.Proofs.Ytfpnadmpmfcaaaa.Wd.mk w.k w.n w.s)).n) = Bool.true) →
             (True ∧
              R (SV.tup [SV.agg [SV.ki Go.IntKind.i64 ((0 : Int)), SV.ki Go.IntKind.i64 ((0 : Int)), SV.dt (Dt.cell (Go.Value.string (ByteArray.mk #[])))], SV.dt (Dt.cell (Go.Value.int Go.IntKind.i64 (2 : Int)))]) ([]))) ∧
            ((Decidable.decide (i ≥ Go.Proofs.Ytfpnadmpmfcaaaa.spSize (Go.Proofs.Ytfpnadmpmfcaaaa.rdF l.length (Go.Proofs.Ytfpnadmpmfcaaaa.wF l)) (Go.Proofs.Ytfpnadmpmfcaaaa.findR (Go.Proofs.Ytfpnadmpmfcaaaa.rdF l.length (Go.Proofs.Ytfpnadmpmfcaaaa.wF l)) lim (Go.Proofs.Ytfpnadmpmfcaaaa.Wd.mk w.k w.n w.s)).n - Go.Proofs.Ytfpnadmpmfcaaaa.spFrom (Go.Proofs.Ytfpnadmpmfcaaaa.rdF l.length (Go.Proofs.Ytfpnadmpmfcaaaa.wF l)) (Go.Proofs.Ytfpnadmpmfcaaaa.findR (Go.Proofs.Ytfpnadmpmfcaaaa.rdF l.length (Go.Proofs.Ytfpnadmpmfcaaaa.wF l)) lim (Go.Proofs.Ytfpnadmpmfcaaaa.Wd.mk w.k w.n w.s)).n) = Bool.false) →
             (((Rx.lo Go.IntKind.i64 ≤ (Go.Proofs.Ytfpnadmpmfcaaaa.findR (Go.Proofs.Ytfpnadmpmfcaaaa.rdF l.length (Go.Proofs.Ytfpnadmpmfcaaaa.wF l)) lim (Go.Proofs.Ytfpnadmpmfcaaaa.Wd.mk w.k w.n w.s)).n + Go.Proofs.Ytfpnadmpmfcaaaa.spFrom (Go.Proofs.Ytfpnadmpmfcaaaa.rdF l.length (Go.Proofs.Ytfpnadmpmfcaaaa.wF l)) (Go.Proofs.Ytfpnadmpmfcaaaa.findR (Go.Proofs.Ytfpnadmpmfcaaaa.rdF l.length (Go.Proofs.Ytfpnadmpmfcaaaa.wF l)) lim (Go.Proofs.Ytfpnadmpmfcaaaa.Wd.mk w.k w.n w.s)).n) ∧
               ((Go.Proofs.Ytfpnadmpmfcaaaa.findR (Go.Proofs.Ytfpnadmpmfcaaaa.rdF l.length (Go.Proofs.Ytfpnadmpmfcaaaa.wF l)) lim (Go.Proofs.Ytfpnadmpmfcaaaa.Wd.mk w.k w.n w.s)).n + Go.Proofs.Ytfpnadmpmfcaaaa.spFrom (Go.Proofs.Ytfpnadmpmfcaaaa.rdF l.length (Go.Proofs.Ytfpnadmpmfcaaaa.wF l)) (Go.Proofs.Ytfpnadmpmfcaaaa.findR (Go.Proofs.Ytfpnadmpmfcaaaa.rdF l.length (Go.Proofs.Ytfpnadmpmfcaaaa.wF l)) lim (Go.Proofs.Ytfpnadmpmfcaaaa.Wd.mk w.k w.n w.s)).n ≤ Rx.hi Go.IntKind.i64)) ∧
              (((Rx.lo Go.IntKind.i64 ≤ (Go.Proofs.Ytfpnadmpmfcaaaa.findR (Go.Proofs.Ytfpnadmpmfcaaaa.rdF l.length (Go.Proofs.Ytfpnadmpmfcaaaa.wF l)) lim (Go.Proofs.Ytfpnadmpmfcaaaa.Wd.mk w.k w.n w.s)).n + Go.Proofs.Ytfpnadmpmfcaaaa.spFrom (Go.Proofs.Ytfpnadmpmfcaaaa.rdF l.length (Go.Proofs.Ytfpnadmpmfcaaaa.wF l)) (Go.Proofs.Ytfpnadmpmfcaaaa.findR (Go.Proofs.Ytfpnadmpmfcaaaa.rdF l.length (Go.Proofs.Ytfpnadmpmfcaaaa.wF l)) lim (Go.Proofs.Ytfpnadmpmfcaaaa.Wd.mk w.k w.n w.s)).n + i) ∧
                ((Go.Proofs.Ytfpnadmpmfcaaaa.findR (Go.Proofs.Ytfpnadmpmfcaaaa.rdF l.length (Go.Proofs.Ytfpnadmpmfcaaaa.wF l)) lim (Go.Proofs.Ytfpnadmpmfcaaaa.Wd.mk w.k w.n w.s)).n + Go.Proofs.Ytfpnadmpmfcaaaa.spFrom (Go.Proofs.Ytfpnadmpmfcaaaa.rdF l.length (Go.Proofs.Ytfpnadmpmfcaaaa.wF l)) (Go.Proofs.Ytfpnadmpmfcaaaa.findR (Go.Proofs.Ytfpnadmpmfcaaaa.rdF l.length (Go.Proofs.Ytfpnadmpmfcaaaa.wF l)) lim (Go.Proofs.Ytfpnadmpmfcaaaa.Wd.mk w.k w.n w.s)).n + i ≤ Rx.hi Go.IntKind.i64)) ∧
               ((((0 : Int) ≤ (Go.Proofs.Ytfpnadmpmfcaaaa.findR (Go.Proofs.Ytfpnadmpmfcaaaa.rdF l.length (Go.Proofs.Ytfpnadmpmfcaaaa.wF l)) lim (Go.Proofs.Ytfpnadmpmfcaaaa.Wd.mk w.k w.n w.s)).n + Go.Proofs.Ytfpnadmpmfcaaaa.spFrom (Go.Proofs.Ytfpnadmpmfcaaaa.rdF l.length (Go.Proofs.Ytfpnadmpmfcaaaa.wF l)) (Go.Proofs.Ytfpnadmpmfcaaaa.findR (Go.Proofs.Ytfpnadmpmfcaaaa.rdF l.length (Go.Proofs.Ytfpnadmpmfcaaaa.wF l)) lim (Go.Proofs.Ytfpnadmpmfcaaaa.Wd.mk w.k w.n w.s)).n + i) ∧
                 ((Go.Proofs.Ytfpnadmpmfcaaaa.findR (Go.Proofs.Ytfpnadmpmfcaaaa.rdF l.length (Go.Proofs.Ytfpnadmpmfcaaaa.wF l)) lim (Go.Proofs.Ytfpnadmpmfcaaaa.Wd.mk w.k w.n w.s)).n + Go.Proofs.Ytfpnadmpmfcaaaa.spFrom (Go.Proofs.Ytfpnadmpmfcaaaa.rdF l.length (Go.Proofs.Ytfpnadmpmfcaaaa.wF l)) (Go.Proofs.Ytfpnadmpmfcaaaa.findR (Go.Proofs.Ytfpnadmpmfcaaaa.rdF l.length (Go.Proofs.Ytfpnadmpmfcaaaa.wF l)) lim (Go.Proofs.Ytfpnadmpmfcaaaa.Wd.mk w.k w.n w.s)).n + i < (↑l.length : Int))) ∧
                (True ∧
                 R (SV.tup [SV.agg [SV.dt (Dt.cell (Go.Value.int Go.IntKind.i64 (l.getD ((Go.Proofs.Ytfpnadmpmfcaaaa.findR (Go.Proofs.Ytfpnadmpmfcaaaa.rdF l.length (Go.Proofs.Ytfpnadmpmfcaaaa.wF l)) lim (Go.Proofs.Ytfpnadmpmfcaaaa.Wd.mk w.k w.n w.s)).n + Go.Proofs.Ytfpnadmpmfcaaaa.spFrom (Go.Proofs.Ytfpnadmpmfcaaaa.rdF l.length (Go.Proofs.Ytfpnadmpmfcaaaa.wF l)) (Go.Proofs.Ytfpnadmpmfcaaaa.findR (Go.Proofs.Ytfpnadmpmfcaaaa.rdF l.length (Go.Proofs.Ytfpnadmpmfcaaaa.wF l)) lim (Go.Proofs.Ytfpnadmpmfcaaaa.Wd.mk w.k w.n w.s)).n + i).toNat Inhabited.default).k)), SV.dt (Dt.cell (Go.Value.int Go.IntKind.i64 (l.getD ((Go.Proofs.Ytfpnadmpmfcaaaa.findR (Go.Proofs.Ytfpnadmpmfcaaaa.rdF l.length (Go.Proofs.Ytfpnadmpmfcaaaa.wF l)) lim (Go.Proofs.Ytfpnadmpmfcaaaa.Wd.mk w.k w.n w.s)).n + Go.Proofs.Ytfpnadmpmfcaaaa.spFrom (Go.Proofs.Ytfpnadmpmfcaaaa.rdF l.length (Go.Proofs.Ytfpnadmpmfcaaaa.wF l)) (Go.Proofs.Ytfpnadmpmfcaaaa.findR (Go.Proofs.Ytfpnadmpmfcaaaa.rdF l.length (Go.Proofs.Ytfpnadmpmfcaaaa.wF l)) lim (Go.Proofs.Ytfpnadmpmfcaaaa.Wd.mk w.k w.n w.s)).n + i).toNat Inhabited.default).n)), SV.dt (Dt.cell (Go.Value.string (l.getD ((Go.Proofs.Ytfpnadmpmfcaaaa.findR (Go.Proofs.Ytfpnadmpmfcaaaa.rdF l.length (Go.Proofs.Ytfpnadmpmfcaaaa.wF l)) lim (Go.Proofs.Ytfpnadmpmfcaaaa.Wd.mk w.k w.n w.s)).n + Go.Proofs.Ytfpnadmpmfcaaaa.spFrom (Go.Proofs.Ytfpnadmpmfcaaaa.rdF l.length (Go.Proofs.Ytfpnadmpmfcaaaa.wF l)) (Go.Proofs.Ytfpnadmpmfcaaaa.findR (Go.Proofs.Ytfpnadmpmfcaaaa.rdF l.length (Go.Proofs.Ytfpnadmpmfcaaaa.wF l)) lim (Go.Proofs.Ytfpnadmpmfcaaaa.Wd.mk w.k w.n w.s)).n + i).toNat Inhabited.default).s))], SV.dt (Dt.cell (Go.Value.int Go.IntKind.i64 (0 : Int)))]) ([])))))))))))))))))))
def chQ (l : List Wd) (lim : Int) (w : Wd) (i : Int) (v : Wd) (R : SV → List (Option Ob) → Prop) : Prop :=
((Rx.leL ([SV.agg [SV.dt (Dt.arr ((3 : Nat)) (l.length) (Go.Proofs.Ytfpnadmpmfcaaaa.wF l)), SV.dt (Dt.cell (Go.Value.int Go.IntKind.i64 lim))], SV.agg [SV.dt (Dt.cell (Go.Value.int Go.IntKind.i64 w.k)), SV.dt (Dt.cell (Go.Value.int Go.IntKind.i64 w.n)), SV.dt (Dt.cell (Go.Value.string w.s))], SV.dt (Dt.cell (Go.Value.int Go.IntKind.i64 i))]) ([SV.agg [SV.dt (Dt.arr ((3 : Nat)) ((Go.Proofs.Ytfpnadmpmfcaaaa.rdF l.length (Go.Proofs.Ytfpnadmpmfcaaaa.wF l)).length) (Go.Proofs.Ytfpnadmpmfcaaaa.wF (Go.Proofs.Ytfpnadmpmfcaaaa.rdF l.length (Go.Proofs.Ytfpnadmpmfcaaaa.wF l)))), SV.dt (Dt.cell (Go.Value.int Go.IntKind.i64 lim))], SV.agg [SV.dt (Dt.cell (Go.Value.int Go.IntKind.i64 w.k)), SV.dt (Dt.cell (Go.Value.int Go.IntKind.i64 w.n)), SV.dt (Dt.cell (Go.Value.string w.s))], SV.dt (Dt.cell (Go.Value.int Go.IntKind.i64 i))])) ∧
((Rx.leObL ([]) ([])) ∧
 ((Go.Proofs.Ytfpnadmpmfcaaaa.isInt i) ∧
  ((((Go.Proofs.Ytfpnadmpmfcaaaa.partE (Go.Proofs.Ytfpnadmpmfcaaaa.rdF l.length (Go.Proofs.Ytfpnadmpmfcaaaa.wF l)) lim (Go.Proofs.Ytfpnadmpmfcaaaa.Wd.mk w.k w.n w.s) i != (0 : Int)) = Bool.true) →
    (True ∧
     R (SV.tup [SV.agg [SV.dt (Dt.cell (Go.Value.slice Option.none (0 : Nat) (0 : Nat))), SV.ki Go.IntKind.i64 ((0 : Int))], SV.dt (Dt.cell (Go.Value.int Go.IntKind.i64 (Go.Proofs.Ytfpnadmpmfcaaaa.partE (Go.Proofs.Ytfpnadmpmfcaaaa.rdF l.length (Go.Proofs.Ytfpnadmpmfcaaaa.wF l)) lim (Go.Proofs.Ytfpnadmpmfcaaaa.Wd.mk w.k w.n w.s) i)))]) ([]))) ∧
   (((Go.Proofs.Ytfpnadmpmfcaaaa.partE (Go.Proofs.Ytfpnadmpmfcaaaa.rdF l.length (Go.Proofs.Ytfpnadmpmfcaaaa.wF l)) lim (Go.Proofs.Ytfpnadmpmfcaaaa.Wd.mk w.k w.n w.s) i != (0 : Int)) = Bool.false) →
    ((Rx.leL ([SV.agg [SV.dt (Dt.arr ((3 : Nat)) (l.length) (Go.Proofs.Ytfpnadmpmfcaaaa.wF l)), SV.dt (Dt.cell (Go.Value.int Go.IntKind.i64 lim))], SV.agg [SV.dt (Dt.cell (Go.Value.int Go.IntKind.i64 v.k)), SV.dt (Dt.cell (Go.Value.int Go.IntKind.i64 v.n)), SV.dt (Dt.cell (Go.Value.string v.s))]]) ([SV.agg [SV.dt (Dt.arr ((3 : Nat)) ((Go.Proofs.Ytfpnadmpmfcaaaa.rdF l.length (Go.Proofs.Ytfpnadmpmfcaaaa.wF l)).length) (Go.Proofs.Ytfpnadmpmfcaaaa.wF (Go.Proofs.Ytfpnadmpmfcaaaa.rdF l.length (Go.Proofs.Ytfpnadmpmfcaaaa.wF l)))), SV.dt (Dt.cell (Go.Value.int Go.IntKind.i64 lim))], SV.agg [SV.dt (Dt.cell (Go.Value.int Go.IntKind.i64 v.k)), SV.dt (Dt.cell (Go.Value.int Go.IntKind.i64 v.n)), SV.dt (Dt.cell (Go.Value.string v.s))]])) ∧
     ((Rx.leObL ([]) ([])) ∧
      ((((Go.Proofs.Ytfpnadmpmfcaaaa.cvErr (Go.Proofs.Ytfpnadmpmfcaaaa.rdF l.length (Go.Proofs.Ytfpnadmpmfcaaaa.wF l)) lim (Go.Proofs.Ytfpnadmpmfcaaaa.Wd.mk v.k v.n v.s) != (0 : Int)) = Bool.true) →
        (True ∧
         R (SV.tup [SV.agg [SV.dt (Dt.cell (Go.Value.slice Option.none (0 : Nat) (0 : Nat))), SV.ki Go.IntKind.i64 ((0 : Int))], SV.dt (Dt.cell (Go.Value.int Go.IntKind.i64 (Go.Proofs.Ytfpnadmpmfcaaaa.cvErr (Go.Proofs.Ytfpnadmpmfcaaaa.rdF l.length (Go.Proofs.Ytfpnadmpmfcaaaa.wF l)) lim (Go.Proofs.Ytfpnadmpmfcaaaa.Wd.mk v.k v.n v.s))))]) ([]))) ∧
       (((Go.Proofs.Ytfpnadmpmfcaaaa.cvErr (Go.Proofs.Ytfpnadmpmfcaaaa.rdF l.length (Go.Proofs.Ytfpnadmpmfcaaaa.wF l)) lim (Go.Proofs.Ytfpnadmpmfcaaaa.Wd.mk v.k v.n v.s) != (0 : Int)) = Bool.false) →
        ((Rx.leL ([SV.agg [SV.dt (Dt.arr ((3 : Nat)) (l.length) (Go.Proofs.Ytfpnadmpmfcaaaa.wF l)), SV.dt (Dt.cell (Go.Value.int Go.IntKind.i64 lim))], SV.agg [SV.dt (Dt.cell (Go.Value.int Go.IntKind.i64 w.k)), SV.dt (Dt.cell (Go.Value.int Go.IntKind.i64 w.n)), SV.dt (Dt.cell (Go.Value.string w.s))]]) ([SV.agg [SV.dt (Dt.arr ((3 : Nat)) ((Go.Proofs.Ytfpnadmpmfcaaaa.rdF l.length (Go.Proofs.Ytfpnadmpmfcaaaa.wF l)).length) (Go.Proofs.Ytfpnadmpmfcaaaa.wF (Go.Proofs.Ytfpnadmpmfcaaaa.rdF l.length (Go.Proofs.Ytfpnadmpmfcaaaa.wF l)))), SV.dt (Dt.cell (Go.Value.int Go.IntKind.i64 lim))], SV.agg [SV.dt (Dt.cell (Go.Value.int Go.IntKind.i64 w.k)), SV.dt (Dt.cell (Go.Value.int Go.IntKind.i64 w.n)), SV.dt (Dt.cell (Go.Value.string w.s))]])) ∧
         ((Rx.leObL ([]) ([])) ∧
          ((Go.Proofs.Ytfpnadmpmfcaaaa.chainP (Go.Proofs.Ytfpnadmpmfcaaaa.rdF l.length (Go.Proofs.Ytfpnadmpmfcaaaa.wF l)) ((Go.Proofs.Ytfpnadmpmfcaaaa.rdF l.length (Go.Proofs.Ytfpnadmpmfcaaaa.wF l)).length + (1 : Nat)) (Go.Proofs.Ytfpnadmpmfcaaaa.Wd.mk w.k w.n w.s)) ∧
           ((Rx.leL ([SV.dt (Dt.arr ((3 : Nat)) (l.length) (Go.Proofs.Ytfpnadmpmfcaaaa.wF l)), SV.dt (Dt.cell (Go.Value.int Go.IntKind.i64 (Go.Proofs.Ytfpnadmpmfcaaaa.findS (Go.Proofs.Ytfpnadmpmfcaaaa.rdF l.length (Go.Proofs.Ytfpnadmpmfcaaaa.wF l)) (Go.Proofs.Ytfpnadmpmfcaaaa.Wd.mk w.k w.n w.s)).n))]) ([SV.dt (Dt.arr ((3 : Nat)) ((Go.Proofs.Ytfpnadmpmfcaaaa.rdF l.length (Go.Proofs.Ytfpnadmpmfcaaaa.wF l)).length) (Go.Proofs.Ytfpnadmpmfcaaaa.wF (Go.Proofs.Ytfpnadmpmfcaaaa.rdF l.length (Go.Proofs.Ytfpnadmpmfcaaaa.wF l)))), SV.dt (Dt.cell (Go.Value.int Go.IntKind.i64 (Go.Proofs.Ytfpnadmpmfcaaaa.findS (Go.Proofs.Ytfpnadmpmfcaaaa.rdF l.length (Go.Proofs.Ytfpnadmpmfcaaaa.wF l)) (Go.Proofs.Ytfpnadmpmfcaaaa.Wd.mk w.k w.n w.s)).n))])) ∧
            ((Rx.leObL ([]) ([])) ∧
             ((((0 : Int) ≤ (Go.Proofs.Ytfpnadmpmfcaaaa.findS (Go.Proofs.Ytfpnadmpmfcaaaa.rdF l.length (Go.Proofs.Ytfpnadmpmfcaaaa.wF l)) (Go.Proofs.Ytfpnadmpmfcaaaa.Wd.mk w.k w.n w.s)).n) ∧
               (((Go.Proofs.Ytfpnadmpmfcaaaa.findS (Go.Proofs.Ytfpnadmpmfcaaaa.rdF l.length (Go.Proofs.Ytfpnadmpmfcaaaa.wF l)) (Go.Proofs.Ytfpnadmpmfcaaaa.Wd.mk w.k w.n w.s)).n < (↑(Go.Proofs.Ytfpnadmpmfcaaaa.rdF l.length (Go.Proofs.Ytfpnadmpmfcaaaa.wF l)).length : Int)) ∧
                (Go.Proofs.Ytfpnadmpmfcaaaa.fitsW (Go.Proofs.Ytfpnadmpmfcaaaa.rdF l.length (Go.Proofs.Ytfpnadmpmfcaaaa.wF l))))) ∧
              ((Rx.leL ([SV.dt (Dt.arr ((3 : Nat)) (l.length) (Go.Proofs.Ytfpnadmpmfcaaaa.wF l))]) ([SV.dt (Dt.arr ((3 : Nat)) ((Go.Proofs.Ytfpnadmpmfcaaaa.rdF l.length (Go.Proofs.Ytfpnadmpmfcaaaa.wF l)).length) (Go.Proofs.Ytfpnadmpmfcaaaa.wF (Go.Proofs.Ytfpnadmpmfcaaaa.rdF l.length (Go.Proofs.Ytfpnadmpmfcaaaa.wF l))))])) ∧
               ((Rx.leObL ([]) ([])) ∧
                ((Go.Proofs.Ytfpnadmpmfcaaaa.fitsW (Go.Proofs.Ytfpnadmpmfcaaaa.rdF l.length (Go.Proofs.Ytfpnadmpmfcaaaa.wF l))) ∧
                 (((Rx.lo Go.IntKind.i64 ≤ (Go.Proofs.Ytfpnadmpmfcaaaa.findS (Go.Proofs.Ytfpnadmpmfcaaaa.rdF l.length (Go.Proofs.Ytfpnadmpmfcaaaa.wF l)) (Go.Proofs.Ytfpnadmpmfcaaaa.Wd.mk w.k w.n w.s)).n + Go.Proofs.Ytfpnadmpmfcaaaa.spFrom (Go.Proofs.Ytfpnadmpmfcaaaa.rdF l.length (Go.Proofs.Ytfpnadmpmfcaaaa.wF l)) (Go.Proofs.Ytfpnadmpmfcaaaa.findS (Go.Proofs.Ytfpnadmpmfcaaaa.rdF l.length (Go.Proofs.Ytfpnadmpmfcaaaa.wF l)) (Go.Proofs.Ytfpnadmpmfcaaaa.Wd.mk w.k w.n w.s)).n) ∧
                   ((Go.Proofs.Ytfpnadmpmfcaaaa.findS (Go.Proofs.Ytfpnadmpmfcaaaa.rdF l.length (Go.Proofs.Ytfpnadmpmfcaaaa.wF l)) (Go.Proofs.Ytfpnadmpmfcaaaa.Wd.mk w.k w.n w.s)).n + Go.Proofs.Ytfpnadmpmfcaaaa.spFrom (Go.Proofs.Ytfpnadmpmfcaaaa.rdF l.length (Go.Proofs.Ytfpnadmpmfcaaaa.wF l)) (Go.Proofs.Ytfpnadmpmfcaaaa.findS (Go.Proofs.Ytfpnadmpmfcaaaa.rdF l.length (Go.Proofs.Ytfpnadmpmfcaaaa.wF l)) (Go.Proofs.Ytfpnadmpmfcaaaa.Wd.mk w.k w.n w.s)).n ≤ Rx.hi Go.IntKind.i64)) ∧
                  (((Rx.lo Go.IntKind.i64 ≤ (Go.Proofs.Ytfpnadmpmfcaaaa.findS (Go.Proofs.Ytfpnadmpmfcaaaa.rdF l.length (Go.Proofs.Ytfpnadmpmfcaaaa.wF l)) (Go.Proofs.Ytfpnadmpmfcaaaa.Wd.mk w.k w.n w.s)).n + Go.Proofs.Ytfpnadmpmfcaaaa.spFrom (Go.Proofs.Ytfpnadmpmfcaaaa.rdF l.length (Go.Proofs.Ytfpnadmpmfcaaaa.wF l)) (Go.Proofs.Ytfpnadmpmfcaaaa.findS (Go.Proofs.Ytfpnadmpmfcaaaa.rdF l.length (Go.Proofs.Ytfpnadmpmfcaaaa.wF l)) (Go.Proofs.Ytfpnadmpmfcaaaa.Wd.mk w.k w.n w.s)).n + i) ∧
                    ((Go.Proofs.Ytfpnadmpmfcaaaa.findS (Go.Proofs.Ytfpnadmpmfcaaaa.rdF l.length (Go.Proofs.Ytfpnadmpmfcaaaa.wF l)) (Go.Proofs.Ytfpnadmpmfcaaaa.Wd.mk w.k w.n w.s)).n + Go.Proofs.Ytfpnadmpmfcaaaa.spFrom (Go.Proofs.Ytfpnadmpmfcaaaa.rdF l.length (Go.Proofs.Ytfpnadmpmfcaaaa.wF l)) (Go.Proofs.Ytfpnadmpmfcaaaa.findS (Go.Proofs.Ytfpnadmpmfcaaaa.rdF l.length (Go.Proofs.Ytfpnadmpmfcaaaa.wF l)) (Go.Proofs.Ytfpnadmpmfcaaaa.Wd.mk w.k w.n w.s)).n + i ≤ Rx.hi Go.IntKind.i64)) ∧
                   ((((0 : Int) ≤ (Go.Proofs.Ytfpnadmpmfcaaaa.findS (Go.Proofs.Ytfpnadmpmfcaaaa.rdF l.length (Go.Proofs.Ytfpnadmpmfcaaaa.wF l)) (Go.Proofs.Ytfpnadmpmfcaaaa.Wd.mk w.k w.n w.s)).n + Go.Proofs.Ytfpnadmpmfcaaaa.spFrom (Go.Proofs.Ytfpnadmpmfcaaaa.rdF l.length (Go.Proofs.Ytfpnadmpmfcaaaa.wF l)) (Go.Proofs.Ytfpnadmpmfcaaaa.findS (Go.Proofs.Ytfpnadmpmfcaaaa.rdF l.length (Go.Proofs.Ytfpnadmpmfcaaaa.wF l)) (Go.Proofs.Ytfpnadmpmfcaaaa.Wd.mk w.k w.n w.s)).n + i) ∧
                     ((Go.Proofs.Ytfpnadmpmfcaaaa.findS (Go.Proofs.Ytfpnadmpmfcaaaa.rdF l.length (Go.Proofs.Ytfpnadmpmfcaaaa.wF l)) (Go.Proofs.Ytfpnadmpmfcaaaa.Wd.mk w.k w.n w.s)).n + Go.Proofs.Ytfpnadmpmfcaaaa.spFrom (Go.Proofs.Ytfpnadmpmfcaaaa.rdF l.length (Go.Proofs.Ytfpnadmpmfcaaaa.wF l)) (Go.Proofs.Ytfpnadmpmfcaaaa.findS (Go.Proofs.Ytfpnadmpmfcaaaa.rdF l.length (Go.Proofs.Ytfpnadmpmfcaaaa.wF l)) (Go.Proofs.Ytfpnadmpmfcaaaa.Wd.mk w.k w.n w.s)).n + i < (↑(Go.Proofs.Ytfpnadmpmfcaaaa.rdF l.length (Go.Proofs.Ytfpnadmpmfcaaaa.wF l)).length : Int))) ∧
                    ((((Go.Proofs.Ytfpnadmpmfcaaaa.findS (Go.Proofs.Ytfpnadmpmfcaaaa.rdF l.length (Go.Proofs.Ytfpnadmpmfcaaaa.wF l)) (Go.Proofs.Ytfpnadmpmfcaaaa.Wd.mk w.k w.n w.s)).n + Go.Proofs.Ytfpnadmpmfcaaaa.spFrom (Go.Proofs.Ytfpnadmpmfcaaaa.rdF l.length (Go.Proofs.Ytfpnadmpmfcaaaa.wF l)) (Go.Proofs.Ytfpnadmpmfcaaaa.findS (Go.Proofs.Ytfpnadmpmfcaaaa.rdF l.length (Go.Proofs.Ytfpnadmpmfcaaaa.wF l)) (Go.Proofs.Ytfpnadmpmfcaaaa.Wd.mk w.k w.n w.s)).n + i).toNat < (Go.Proofs.Ytfpnadmpmfcaaaa.rdF l.length (Go.Proofs.Ytfpnadmpmfcaaaa.wF l)).length) ∧
                     (True ∧
                      R (SV.tup [SV.agg [SV.dt (Dt.arr ((3 : Nat)) ((Go.Proofs.Ytfpnadmpmfcaaaa.rdF l.length (Go.Proofs.Ytfpnadmpmfcaaaa.wF l)).length) (Rx.setRow (Go.Proofs.Ytfpnadmpmfcaaaa.wF (Go.Proofs.Ytfpnadmpmfcaaaa.rdF l.length (Go.Proofs.Ytfpnadmpmfcaaaa.wF l))) ((Go.Proofs.Ytfpnadmpmfcaaaa.findS (Go.Proofs.Ytfpnadmpmfcaaaa.rdF l.length (Go.Proofs.Ytfpnadmpmfcaaaa.wF l)) (Go.Proofs.Ytfpnadmpmfcaaaa.Wd.mk w.k w.n w.s)).n + Go.Proofs.Ytfpnadmpmfcaaaa.spFrom (Go.Proofs.Ytfpnadmpmfcaaaa.rdF l.length (Go.Proofs.Ytfpnadmpmfcaaaa.wF l)) (Go.Proofs.Ytfpnadmpmfcaaaa.findS (Go.Proofs.Ytfpnadmpmfcaaaa.rdF l.length (Go.Proofs.Ytfpnadmpmfcaaaa.wF l)) (Go.Proofs.Ytfpnadmpmfcaaaa.Wd.mk w.k w.n w.s)).n + i).toNat (0 : Nat) [Rx.Dt.cell (Go.Value.int Go.IntKind.i64 v.k), Rx.Dt.cell (Go.Value.int Go.IntKind.i64 v.n), Rx.Dt.cell (Go.Value.string v.s)])), SV.dt (Dt.cell (Go.Value.int Go.IntKind.i64 lim))], SV.dt (Dt.cell (Go.Value.int Go.IntKind.i64 (0 : Int)))]) ([]))))))))))))))))))))))))
theorem cv_zero {l : List Wd} {lim : Int} {w : Wd} (h : cvErr l lim w = 0) : checkB l lim = true ∧ valOk l w = true := by
  unfold cvErr at h
  by_cases hc : checkB l lim = true
  · rw [if_pos hc] at h
    by_cases hv : valOk l w = true
    · exact ⟨hc, hv⟩
    · rw [if_neg hv] at h; omega
  · rw [if_neg hc] at h; omega
theorem part_ctr (l : List Wd) (lim : Int) (w : Wd) (i : Int) : Ctr Try.prog 17 [hS l lim, wS w, vI .i64 i] [] (partO l lim w i) := by
  refine ctr_fn mixed (N := 55) (fn := Try.f17) (c := bodyOf Try.f17) (ks := partKs) (ls := []) (by kernel_rfl) (by kernel_rfl) (by kernel_rfl) (all_cons findBF_ok (all_cons spanF_ok all_nil)) fin0 (fun c hc => by rw [show loopsOf (bodyOf Try.f17) = [] from by kernel_rfl] at hc; cases hc) (by kernel_rfl) (Q := partQ l lim w i) (fun post hp => ?_) (fun R => by kernel_rfl)
  obtain ⟨hin, hp⟩ := hp
  have hp : post (.tup [wS (partW l lim w i), vI .i64 (partE l lim w i)], []) := hp
  have bad : ∀ e, e ≠ 0 → partE l lim w i = e → Gives post (.tup [.agg [.ki .i64 0, .ki .i64 0, .dt (.cell (.string ⟨#[]⟩))], vI .i64 e]) [] := by
    rintro e h0 rfl
    refine gives1 hp ?_
    rw [partW, if_neg h0]
    simp only [leS_tup, leL_cons, wS, leS_agg, leS_self, leL_nil, and_true, leS_ki, noWd, true_and]
  have hin : -9223372036854775808 ≤ i ∧ i ≤ 9223372036854775807 := hin
  unfold partQ
  simp only [rdF_wF, wd_eta, leL_self, leObL_self, leS_self, leOO_self, true_and, and_true, bne_iff_ne, bne_eq_false_iff_eq, decide_eq_true_eq, decide_eq_false_iff_not, lo, hi]
  by_cases h0 : cvErr l lim w = 0
  · obtain ⟨hc, hv⟩ := cv_zero h0
    obtain ⟨f1, f2, f3, f4⟩ := find_ok hc hv
    obtain ⟨l1, l2, l3⟩ := checkB_lims hc
    have hfr : findR l lim w = findS l w := by rw [findR, if_pos h0]
    have e : ∀ n : Int, l.getD n.toNat default = at' l n := fun _ => rfl
    simp only [h0, hfr, e, ne_eq, not_true_eq_false, false_implies, true_implies, true_and]
    refine ⟨fun h5 => bad 3 (by decide) (by rw [partE, if_pos h0, if_neg h5]), fun h5 => ?_⟩
    obtain ⟨g1, g2, g3⟩ := f4 (by rw [← f1]; exact h5)
    obtain ⟨b1, b2, b3, b4, b5, b6⟩ := spSize_bounds l _ g3
    have good : 0 ≤ i → i < spSize l (findS l w).n - spFrom l (findS l w).n → partE l lim w i = 0 := fun a1 a2 => by rw [partE, if_pos h0, if_pos h5, if_neg (by omega)]
    refine ⟨⟨g2, by omega, checkB_fits hc⟩, fun hi0 => bad 2 (by decide) (by rw [partE, if_pos h0, if_pos h5, if_pos (.inl hi0)]), fun hi0 => ⟨⟨by omega, by omega⟩, fun hi1 => bad 2 (by decide) (by rw [partE, if_pos h0, if_pos h5, if_pos (.inr (by omega))]), fun hi1 => ⟨⟨by omega, by omega⟩, ⟨by omega, by omega⟩, ⟨by omega, by omega⟩, ?_⟩⟩⟩
    have hz := good (by omega) (by omega)
    rw [partW, if_pos hz, hz] at hp
    exact gives1 hp (leS_refl _)
  · refine ⟨fun _ => bad _ h0 (by rw [partE, if_neg h0]), fun h => absurd h h0⟩
theorem partF_ok : partF.Ok Try.prog := by
  intro al ol args obs out h
  unfold partF at h
  simp only at h
  repeat' split at h
  all_goals first
    | (simp only [Option.some.injEq, Prod.mk.injEq] at h; obtain ⟨rfl, rfl, rfl⟩ := h; apply part_ctr)
    | cases h
theorem setRow_row (l : List Wd) (i : Nat) (w : Wd) (n : Nat) (hn : n = l.length) (k : Nat) (hk : k < n) (j : Nat) (hj : j < 3) : setRow (wF l) i 0 (cells3 [w]) k j = wF (l.set i w) k j := by
  subst hn
  unfold setRow wF
  simp only [List.getD_eq_getElem?_getD, List.getElem?_set]
  by_cases hki : k = i
  · subst hki
    rw [if_pos rfl, if_pos rfl, if_pos hk]
    have : j = 0 ∨ j = 1 ∨ j = 2 := by omega
    rcases this with rfl | rfl | rfl <;> rfl
  · rw [if_neg hki, if_neg (fun h => hki h.symm)]
theorem set_le (l : List Wd) (i : Nat) (w : Wd) : leS (.dt (.arr 3 l.length (setRow (wF l) i 0 (cells3 [w])))) (wD (l.set i w)) := by
  rw [wD, leS_dt, leDt_arr]
  refine ⟨by simp, .inr ⟨rfl, fun k hk j hj => ?_⟩⟩
  rw [setRow_row l i w _ rfl k hk j hj]
  exact leDt_refl _
theorem ch_ctr (l : List Wd) (lim : Int) (w : Wd) (i : Int) (v : Wd) : Ctr Try.prog 18 [hS l lim, wS w, vI .i64 i, wS v] [] (chO l lim w i v) := by
  refine ctr_fn mixed (N := 64) (fn := Try.f18) (c := bodyOf Try.f18) (ks := chKs) (ls := []) (by kernel_rfl) (by kernel_rfl) (by kernel_rfl) (all_cons partF_ok (all_cons cvFC_ok (all_cons findFC_ok (all_cons spanF_ok (all_cons cloneF_ok all_nil))))) finF (fun c hc => by rw [show loopsOf (bodyOf Try.f18) = [] from by kernel_rfl] at hc; cases hc) (by kernel_rfl) (Q := chQ l lim w i v) (fun post hp => ?_) (fun R => by kernel_rfl)
  obtain ⟨hin, hp1, hp2⟩ := hp
  have hp1 : decide (chE l lim w i v = 0) = true → post (.tup [hS (chW l w i v) lim, .ki .i64 0], []) := hp1
  have hp2 : decide (chE l lim w i v = 0) = false → post (.tup [noH, vI .i64 (chE l lim w i v)], []) := hp2
  have bad : ∀ e, e ≠ 0 → chE l lim w i v = e → Gives post (.tup [.agg [.dt (.cell (.slice none 0 0)), .ki .i64 0], vI .i64 e]) [] := by
    rintro e h0 rfl
    refine gives1 (hp2 (decide_eq_false h0)) ?_
    simp only [leS_tup, leL_cons, leS_self, leL_nil, noH, nilS, leS_agg, leS_ki, and_true, true_and]
  have hin' : -9223372036854775808 ≤ i ∧ i ≤ 9223372036854775807 := hin
  unfold chQ
  simp only [rdF_wF, wd_eta, leL_self, leObL_self, leS_self, leOO_self, true_and, and_true, bne_iff_ne, bne_eq_false_iff_eq, decide_eq_true_eq, decide_eq_false_iff_not, lo, hi]
  by_cases h0 : partE l lim w i = 0
  · have hcv : cvErr l lim w = 0 := by
      unfold partE at h0
      by_cases hq : cvErr l lim w = 0
      · exact hq
      · rw [if_neg hq] at h0; exact h0
    have h5 : (findS l w).k = 5 := by
      unfold partE at h0
      rw [if_pos hcv] at h0
      by_cases hq : (findS l w).k = 5
      · exact hq
      · rw [if_neg hq] at h0; omega
    have hr : ¬ (i < 0 ∨ spSize l (findS l w).n - spFrom l (findS l w).n ≤ i) := by
      unfold partE at h0
      rw [if_pos hcv, if_pos h5] at h0
      intro hq
      rw [if_pos hq] at h0; omega
    obtain ⟨hc, hv⟩ := cv_zero hcv
    obtain ⟨f1, f2, f3, f4⟩ := find_ok hc hv
    obtain ⟨g1, g2, g3⟩ := f4 (by rw [← f1]; exact h5)
    obtain ⟨b1, b2, b3, b4, b5, b6⟩ := spSize_bounds l _ g3
    obtain ⟨l1, l2, l3⟩ := checkB_lims hc
    have e : chE l lim w i v = cvErr l lim v := by rw [chE, if_pos h0]
    refine ⟨hin, fun h => absurd h0 h, fun _ => ⟨fun h => bad _ h e, fun h => ⟨chain_of hc hv, ⟨g2, by omega, checkB_fits hc⟩, checkB_fits hc, ⟨by omega, by omega⟩, ⟨by omega, by omega⟩, ⟨by omega, by omega⟩, by omega, ?_⟩⟩⟩
    refine gives1 (hp1 (decide_eq_true (by rw [e]; exact h))) ?_
    simp only [leS_tup, leL_cons, hS, leS_agg, leS_self, leL_nil, and_true, leS_dki]
    exact set_le l (partP l w i).toNat v
  · refine ⟨hin, fun _ => bad _ h0 (by rw [chE, if_neg h0]), fun h => absurd h h0⟩
theorem chF_ok : chF.Ok Try.prog := by
  intro al ol args obs out h
  unfold chF at h
  simp only at h
  repeat' split at h
  all_goals first
    | (simp only [Option.some.injEq, Prod.mk.injEq] at h; obtain ⟨rfl, rfl, rfl⟩ := h; apply ch_ctr)
    | cases h

/-! ## PartsBack: the plain law -/
theorem cv_bi {d : Bd} (h : BI d) {lim : Int} (h1 : 50 ≤ lim) (h2 : lim ≤ 60000) (h3 : (d.ws.length : Int) ≤ lim) {w : Wd} (hw : w ∈ d.ms) : cvErr d.ws lim w = 0 := by
  unfold cvErr
  rw [if_pos (bi_check h h1 h2 h3), if_pos (bi_val h hw)]
/-- the last pair -/
def pr (a b : Wd) : List Wd := [⟨6, 0, noS⟩, a, b]
theorem pr_sp (a b : Wd) : spP (pr a b) 0 ∧ spSize (pr a b) 0 = 3 ∧ spFrom (pr a b) 0 = 1 := by
  have hs : spP [⟨6, 0, noS⟩, a, b] 0 := by
    refine ⟨rfl, .inl ⟨rfl, rfl, by simp⟩⟩
  exact ⟨hs, by rw [spSize, show pr a b = [⟨6, 0, noS⟩, a, b] from rfl, if_pos hs]; rfl, by rw [spFrom, show pr a b = [⟨6, 0, noS⟩, a, b] from rfl, if_pos hs]; rfl⟩
theorem pr_blk (a b : Wd) : isBlk (pr a b) ∧ wordsOf (pr a b) = [a, b] := by
  obtain ⟨h1, h2, h3⟩ := pr_sp a b
  refine ⟨⟨h1, h2⟩, ?_⟩
  rw [wordsOf, h3]
  rfl
theorem pair_part {d : Bd} (h : BI d) {a b : Wd} (ha : a ∈ d.ms) (hb : b ∈ d.ms) {lim : Int} (h1 : 50 ≤ lim) (h2 : lim ≤ 60000) (h3 : (d.ws.length : Int) + 3 ≤ lim) :
    partE (d.ws ++ pr a b) lim ⟨5, d.ws.length, noS⟩ 0 = 0 ∧ partE (d.ws ++ pr a b) lim ⟨5, d.ws.length, noS⟩ 1 = 0 ∧ partE (d.ws ++ pr a b) lim ⟨5, d.ws.length, noS⟩ 2 = 2 ∧
    partP (d.ws ++ pr a b) ⟨5, d.ws.length, noS⟩ 0 = d.ws.length + 1 ∧ partW (d.ws ++ pr a b) lim ⟨5, d.ws.length, noS⟩ 0 = a ∧ partW (d.ws ++ pr a b) lim ⟨5, d.ws.length, noS⟩ 1 = b ∧ (∀ c, c ∈ d.ms → cvErr (d.ws ++ pr a b) lim c = 0) := by
  obtain ⟨p1, p2⟩ := pr_blk a b
  have hb' := bi_add h p1 (by rw [p2]; intro w hw; simp at hw; rcases hw with rfl | rfl <;> assumption)
  have e : (Bd.ws ⟨d.bs ++ [pr a b], d.ms ++ [⟨5, d.ws.length, noS⟩]⟩) = d.ws ++ pr a b := by simp [Bd.ws]
  have hm : (⟨5, d.ws.length, noS⟩ : Wd) ∈ (Bd.ms ⟨d.bs ++ [pr a b], d.ms ++ [⟨5, d.ws.length, noS⟩]⟩) := by simp
  have hl3 : (pr a b).length = 3 := rfl
  have hcv := cv_bi hb' h1 h2 (by rw [e, List.length_append, hl3]; omega) hm
  have hfi := bi_find hb' (hb'.mv _ hm)
  rw [e] at hcv hfi
  obtain ⟨q1, q2, q3⟩ := pr_sp a b
  have s1 : spSize (d.ws ++ pr a b) d.ws.length = 3 := by have := spSize_right (l := d.ws) (m := pr a b) (a := 0) (by omega); rw [q2] at this; simpa using this
  have s2 : spFrom (d.ws ++ pr a b) d.ws.length = 1 := by have := spFrom_right (l := d.ws) (m := pr a b) (a := 0) (by omega); rw [q3] at this; simpa using this
  have e0 : partE (d.ws ++ pr a b) lim ⟨5, d.ws.length, noS⟩ 0 = 0 := by
    rw [partE, if_pos hcv, hfi, if_pos rfl, if_neg]
    simp only [s1, s2]; omega
  have e1 : partE (d.ws ++ pr a b) lim ⟨5, d.ws.length, noS⟩ 1 = 0 := by
    rw [partE, if_pos hcv, hfi, if_pos rfl, if_neg]
    simp only [s1, s2]; omega
  have e2 : partE (d.ws ++ pr a b) lim ⟨5, d.ws.length, noS⟩ 2 = 2 := by
    rw [partE, if_pos hcv, hfi, if_pos rfl, if_pos]
    simp only [s1, s2]; omega
  have ep : ∀ i : Int, partP (d.ws ++ pr a b) ⟨5, d.ws.length, noS⟩ i = d.ws.length + (1 + i) := fun i => by
    rw [partP, hfi]
    simp only [s2]; omega
  refine ⟨e0, e1, e2, by rw [ep]; omega, ?_, ?_, fun c hc => ?_⟩
  · rw [partW, if_pos e0, ep, at_right (by omega)]; rfl
  · rw [partW, if_pos e1, ep, at_right (by omega)]; rfl
  · have := cv_bi hb' h1 h2 (by rw [e, List.length_append, hl3]; omega) (w := c) (by simp [hc])
    rwa [e] at this
/-! ## where all is well -/
def putGO (l : List Wd) (lim : Int) (m : List Wd) : T Out := .need (fitsW m ∧ putGood l lim m = true) (.ret (.tup [hS (l ++ m) lim, vI .i64 l.length, .ki .i64 0], []))
theorem putG_ctr (l : List Wd) (lim : Int) (m : List Wd) : Ctr Try.prog 11 [hS l lim, wD m] [] (putGO l lim m) := by
  refine ctr_weak (put_ctr l lim m) fun post hp => ?_
  obtain ⟨⟨h1, h2⟩, hp⟩ := hp
  exact ⟨h1, fun _ => gives1 hp (leS_refl _), fun h => by rw [h2] at h; cases h⟩
def putGF : FC := ⟨11, false, false, fun al ol => match al, ol with
  | [h, s], [] => match rdHp h, rdL s with
    | some (l, lim), some m => some ([hS l lim, wD m], [], putGO l lim m)
    | _, _ => none
  | _, _ => none⟩
theorem putGF_ok : putGF.Ok Try.prog := by
  intro al ol args obs out h
  unfold putGF at h
  simp only at h
  repeat' split at h
  all_goals first
    | (simp only [Option.some.injEq, Prod.mk.injEq] at h; obtain ⟨rfl, rfl, rfl⟩ := h; apply putG_ctr)
    | cases h
def partGO (l : List Wd) (lim : Int) (w : Wd) (i : Int) : T Out := .need (isInt i ∧ partE l lim w i = 0) (.ret (.tup [wS (at' l (partP l w i)), .ki .i64 0], []))
theorem partG_ctr (l : List Wd) (lim : Int) (w : Wd) (i : Int) : Ctr Try.prog 17 [hS l lim, wS w, vI .i64 i] [] (partGO l lim w i) := by
  refine ctr_weak (part_ctr l lim w i) fun post hp => ?_
  obtain ⟨⟨h1, h2⟩, hp⟩ := hp
  refine ⟨h1, gives1 hp ?_⟩
  rw [partW, if_pos h2, h2]
  simp only [leS_tup, leL_cons, leS_self, leL_nil, leS_dki, and_true]
def partGF : FC := ⟨17, false, false, fun al ol => match al, ol with
  | [h, w, i], [] => match rdHp h, rdW w, rdI i with
    | some (l, lim), some w, some i => some ([hS l lim, wS w, vI .i64 i], [], partGO l lim w i)
    | _, _, _ => none
  | _, _ => none⟩
theorem partGF_ok : partGF.Ok Try.prog := by
  intro al ol args obs out h
  unfold partGF at h
  simp only at h
  repeat' split at h
  all_goals first
    | (simp only [Option.some.injEq, Prod.mk.injEq] at h; obtain ⟨rfl, rfl, rfl⟩ := h; apply partG_ctr)
    | cases h
def partNO (l : List Wd) (lim : Int) (w : Wd) (i : Int) : T Out := .need (isInt i ∧ partE l lim w i = 2) (.ret (.tup [wS noWd, .ki .i64 2], []))
theorem partN_ctr (l : List Wd) (lim : Int) (w : Wd) (i : Int) : Ctr Try.prog 17 [hS l lim, wS w, vI .i64 i] [] (partNO l lim w i) := by
  refine ctr_weak (part_ctr l lim w i) fun post hp => ?_
  obtain ⟨⟨h1, h2⟩, hp⟩ := hp
  refine ⟨h1, gives1 hp ?_⟩
  rw [partW, if_neg (by rw [h2]; decide), h2]
  simp only [leS_tup, leL_cons, leS_self, leL_nil, leS_dki, and_true]
def partNF : FC := ⟨17, false, false, fun al ol => match al, ol with
  | [h, w, i], [] => match rdHp h, rdW w, rdI i with
    | some (l, lim), some w, some i => some ([hS l lim, wS w, vI .i64 i], [], partNO l lim w i)
    | _, _, _ => none
  | _, _ => none⟩
theorem partNF_ok : partNF.Ok Try.prog := by
  intro al ol args obs out h
  unfold partNF at h
  simp only at h
  repeat' split at h
  all_goals first
    | (simp only [Option.some.injEq, Prod.mk.injEq] at h; obtain ⟨rfl, rfl, rfl⟩ := h; apply partN_ctr)
    | cases h
def chGO (l : List Wd) (lim : Int) (w : Wd) (i : Int) (v : Wd) : T Out := .need (isInt i ∧ chE l lim w i v = 0) (.ret (.tup [hS (chW l w i v) lim, .ki .i64 0], []))
theorem chG_ctr (l : List Wd) (lim : Int) (w : Wd) (i : Int) (v : Wd) : Ctr Try.prog 18 [hS l lim, wS w, vI .i64 i, wS v] [] (chGO l lim w i v) := by
  refine ctr_weak (ch_ctr l lim w i v) fun post hp => ?_
  obtain ⟨⟨h1, h2⟩, hp⟩ := hp
  exact ⟨h1, fun _ => gives1 hp (leS_refl _), fun h => by rw [decide_eq_true h2] at h; cases h⟩
def chGF : FC := ⟨18, false, false, fun al ol => match al, ol with
  | [h, w, i, v], [] => match rdHp h, rdW w, rdI i, rdW v with
    | some (l, lim), some w, some i, some v => some ([hS l lim, wS w, vI .i64 i, wS v], [], chGO l lim w i v)
    | _, _, _, _ => none
  | _, _ => none⟩
theorem chGF_ok : chGF.Ok Try.prog := by
  intro al ol args obs out h
  unfold chGF at h
  simp only at h
  repeat' split at h
  all_goals first
    | (simp only [Option.some.injEq, Prod.mk.injEq] at h; obtain ⟨rfl, rfl, rfl⟩ := h; apply chG_ctr)
    | cases h
end Go.Proofs.Ytfpnadmpmfcaaaa
