/- Put words on a heap. -/
import Derived.Test.YtfpnadmpmfcaaaaHpE
open Rx Go
namespace Go.Proofs.Ytfpnadmpmfcaaaa

def rdHp : SV → Option (List Wd × Int)
  | .agg [s, n] => match rdL s, rdI n with
    | some l, some n => some (l, n)
    | _, _ => none
  | _ => none
def checkF : FC := ⟨14, false, false, fun al ol => match al, ol with
  | [h], [] => match rdHp h with
    | some (l, lim) => some ([hS l lim], [], checkO l lim)
    | none => none
  | _, _ => none⟩

def putOk (l : List Wd) (lim : Int) (m : List Wd) : Bool := spOk m 0 && spSize m 0 == m.length && checkB (l ++ m) lim
def noH : SV := .agg [nilS, vI .i64 0]
def putGood (l : List Wd) (lim : Int) (m : List Wd) : Bool := checkB l lim && !Nat.beq m.length 0 && decide ((l.length : Int) + m.length ≤ lim) && putOk l lim m
def putErr (l : List Wd) (lim : Int) (m : List Wd) : Int := if checkB l lim then if m.length = 0 then 4 else if lim < (l.length : Int) + m.length then 12 else 4 else 9
def putO (l : List Wd) (lim : Int) (m : List Wd) : T Out :=
  .need (fitsW m) (.ite (putGood l lim m)
    (.ret (.tup [hS (l ++ m) lim, vI .i64 l.length, .ki .i64 0], []))
    (.ret (.tup [noH, .ki .i64 0, vI .i64 (putErr l lim m)], [])))
def putKs : List (Nat × Nat × FC) := [(1, 1, checkF), (8, 4, concatF), (9, 1, spanF), (10, 10, checkF)]
def finF : Fin := ⟨true, none⟩

def putQ (l : List Wd) (lim : Int) (m : List Wd) (R : SV → List (Option Ob) → Prop) : Prop :=
((Rx.leL ([SV.agg [SV.dt (Dt.arr ((3 : Nat)) (l.length) (Go.Proofs.Ytfpnadmpmfcaaaa.wF l)), SV.dt (Dt.cell (Go.Value.int Go.IntKind.i64 lim))]]) ([SV.agg [SV.dt (Dt.arr ((3 : Nat)) ((Go.Proofs.Ytfpnadmpmfcaaaa.rdF l.length (Go.Proofs.Ytfpnadmpmfcaaaa.wF l)).length) (Go.Proofs.Ytfpnadmpmfcaaaa.wF (Go.Proofs.Ytfpnadmpmfcaaaa.rdF l.length (Go.Proofs.Ytfpnadmpmfcaaaa.wF l)))), SV.dt (Dt.cell (Go.Value.int Go.IntKind.i64 lim))]])) ∧
((Rx.leObL ([]) ([])) ∧
 (((Go.Proofs.Ytfpnadmpmfcaaaa.checkB (Go.Proofs.Ytfpnadmpmfcaaaa.rdF l.length (Go.Proofs.Ytfpnadmpmfcaaaa.wF l)) lim = Bool.true) →
   (((((0 : Int) != (0 : Int)) = Bool.true) →
     (True ∧
      R (SV.tup [SV.agg [SV.dt (Dt.cell (Go.Value.slice Option.none (0 : Nat) (0 : Nat))), SV.ki Go.IntKind.i64 ((0 : Int))], SV.dt (Dt.cell (Go.Value.int Go.IntKind.i64 (0 : Int))), SV.dt (Dt.cell (Go.Value.int Go.IntKind.i64 (0 : Int)))]) ([]))) ∧
    ((((0 : Int) != (0 : Int)) = Bool.false) →
     (((((↑m.length : Int) == (0 : Int)) = Bool.true) →
       (True ∧
        R (SV.tup [SV.agg [SV.dt (Dt.cell (Go.Value.slice Option.none (0 : Nat) (0 : Nat))), SV.ki Go.IntKind.i64 ((0 : Int))], SV.dt (Dt.cell (Go.Value.int Go.IntKind.i64 (0 : Int))), SV.dt (Dt.cell (Go.Value.int Go.IntKind.i64 (4 : Int)))]) ([]))) ∧
      ((((↑m.length : Int) == (0 : Int)) = Bool.false) →
       (((Rx.lo Go.IntKind.i64 ≤ (↑l.length : Int) + (↑m.length : Int)) ∧
         ((↑l.length : Int) + (↑m.length : Int) ≤ Rx.hi Go.IntKind.i64)) ∧
        (((Decidable.decide ((↑l.length : Int) + (↑m.length : Int) > lim) = Bool.true) →
          (True ∧
           R (SV.tup [SV.agg [SV.dt (Dt.cell (Go.Value.slice Option.none (0 : Nat) (0 : Nat))), SV.ki Go.IntKind.i64 ((0 : Int))], SV.dt (Dt.cell (Go.Value.int Go.IntKind.i64 (0 : Int))), SV.dt (Dt.cell (Go.Value.int Go.IntKind.i64 (12 : Int)))]) ([]))) ∧
         ((Decidable.decide ((↑l.length : Int) + (↑m.length : Int) > lim) = Bool.false) →
          ((Rx.leL ([SV.dt (Dt.arr ((1 : Nat)) ((2 : Nat)) (fun i j => [Rx.Dt.arr (3 : Nat) l.length (Go.Proofs.Ytfpnadmpmfcaaaa.wF l), Rx.Dt.arr (3 : Nat) m.length (Go.Proofs.Ytfpnadmpmfcaaaa.wF m)].getD (i * (1 : Nat) + j) Rx.undefCell))]) ([SV.dt (Dt.arr ((1 : Nat)) ((Go.Proofs.Ytfpnadmpmfcaaaa.rdLL (2 : Nat) fun i j => [Rx.Dt.arr (3 : Nat) l.length (Go.Proofs.Ytfpnadmpmfcaaaa.wF l), Rx.Dt.arr (3 : Nat) m.length (Go.Proofs.Ytfpnadmpmfcaaaa.wF m)].getD (i * (1 : Nat) + j) Rx.undefCell).length) (Go.Proofs.Ytfpnadmpmfcaaaa.llF (Go.Proofs.Ytfpnadmpmfcaaaa.rdLL (2 : Nat) fun i j => [Rx.Dt.arr (3 : Nat) l.length (Go.Proofs.Ytfpnadmpmfcaaaa.wF l), Rx.Dt.arr (3 : Nat) m.length (Go.Proofs.Ytfpnadmpmfcaaaa.wF m)].getD (i * (1 : Nat) + j) Rx.undefCell)))])) ∧
           ((Rx.leObL ([]) ([])) ∧
            ((Go.Proofs.Ytfpnadmpmfcaaaa.fitsLL (Go.Proofs.Ytfpnadmpmfcaaaa.rdLL (2 : Nat) fun i j => [Rx.Dt.arr (3 : Nat) l.length (Go.Proofs.Ytfpnadmpmfcaaaa.wF l), Rx.Dt.arr (3 : Nat) m.length (Go.Proofs.Ytfpnadmpmfcaaaa.wF m)].getD (i * (1 : Nat) + j) Rx.undefCell)) ∧
             ((Rx.leL ([SV.dt (Dt.arr ((3 : Nat)) (m.length) (Go.Proofs.Ytfpnadmpmfcaaaa.wF m)), SV.dt (Dt.cell (Go.Value.int Go.IntKind.i64 (0 : Int)))]) ([SV.dt (Dt.arr ((3 : Nat)) ((Go.Proofs.Ytfpnadmpmfcaaaa.rdF m.length (Go.Proofs.Ytfpnadmpmfcaaaa.wF m)).length) (Go.Proofs.Ytfpnadmpmfcaaaa.wF (Go.Proofs.Ytfpnadmpmfcaaaa.rdF m.length (Go.Proofs.Ytfpnadmpmfcaaaa.wF m)))), SV.dt (Dt.cell (Go.Value.int Go.IntKind.i64 (0 : Int)))])) ∧
              ((Rx.leObL ([]) ([])) ∧
               ((((0 : Int) ≤ (0 : Int)) ∧
                 (((0 : Int) < (↑(Go.Proofs.Ytfpnadmpmfcaaaa.rdF m.length (Go.Proofs.Ytfpnadmpmfcaaaa.wF m)).length : Int)) ∧
                  (Go.Proofs.Ytfpnadmpmfcaaaa.fitsW (Go.Proofs.Ytfpnadmpmfcaaaa.rdF m.length (Go.Proofs.Ytfpnadmpmfcaaaa.wF m))))) ∧
                ((((!Go.Proofs.Ytfpnadmpmfcaaaa.spOk (Go.Proofs.Ytfpnadmpmfcaaaa.rdF m.length (Go.Proofs.Ytfpnadmpmfcaaaa.wF m)) (0 : Int)) = Bool.true) →
                  (True ∧
                   R (SV.tup [SV.agg [SV.dt (Dt.cell (Go.Value.slice Option.none (0 : Nat) (0 : Nat))), SV.ki Go.IntKind.i64 ((0 : Int))], SV.dt (Dt.cell (Go.Value.int Go.IntKind.i64 (0 : Int))), SV.dt (Dt.cell (Go.Value.int Go.IntKind.i64 (4 : Int)))]) ([]))) ∧
                 (((!Go.Proofs.Ytfpnadmpmfcaaaa.spOk (Go.Proofs.Ytfpnadmpmfcaaaa.rdF m.length (Go.Proofs.Ytfpnadmpmfcaaaa.wF m)) (0 : Int)) = Bool.false) →
                  ((((Go.Proofs.Ytfpnadmpmfcaaaa.spSize (Go.Proofs.Ytfpnadmpmfcaaaa.rdF m.length (Go.Proofs.Ytfpnadmpmfcaaaa.wF m)) (0 : Int) != (↑m.length : Int)) = Bool.true) →
                    (True ∧
                     R (SV.tup [SV.agg [SV.dt (Dt.cell (Go.Value.slice Option.none (0 : Nat) (0 : Nat))), SV.ki Go.IntKind.i64 ((0 : Int))], SV.dt (Dt.cell (Go.Value.int Go.IntKind.i64 (0 : Int))), SV.dt (Dt.cell (Go.Value.int Go.IntKind.i64 (4 : Int)))]) ([]))) ∧
                   (((Go.Proofs.Ytfpnadmpmfcaaaa.spSize (Go.Proofs.Ytfpnadmpmfcaaaa.rdF m.length (Go.Proofs.Ytfpnadmpmfcaaaa.wF m)) (0 : Int) != (↑m.length : Int)) = Bool.false) →
                    ((Rx.leL ([SV.agg [SV.dt (Dt.arr ((3 : Nat)) ((Go.Proofs.Ytfpnadmpmfcaaaa.rdLL (2 : Nat) fun i j => [Rx.Dt.arr (3 : Nat) l.length (Go.Proofs.Ytfpnadmpmfcaaaa.wF l), Rx.Dt.arr (3 : Nat) m.length (Go.Proofs.Ytfpnadmpmfcaaaa.wF m)].getD (i * (1 : Nat) + j) Rx.undefCell).flatten.length) (Go.Proofs.Ytfpnadmpmfcaaaa.wF (Go.Proofs.Ytfpnadmpmfcaaaa.rdLL (2 : Nat) fun i j => [Rx.Dt.arr (3 : Nat) l.length (Go.Proofs.Ytfpnadmpmfcaaaa.wF l), Rx.Dt.arr (3 : Nat) m.length (Go.Proofs.Ytfpnadmpmfcaaaa.wF m)].getD (i * (1 : Nat) + j) Rx.undefCell).flatten)), SV.dt (Dt.cell (Go.Value.int Go.IntKind.i64 lim))]]) ([SV.agg [SV.dt (Dt.arr ((3 : Nat)) ((Go.Proofs.Ytfpnadmpmfcaaaa.rdF (Go.Proofs.Ytfpnadmpmfcaaaa.rdLL (2 : Nat) fun i j => [Rx.Dt.arr (3 : Nat) l.length (Go.Proofs.Ytfpnadmpmfcaaaa.wF l), Rx.Dt.arr (3 : Nat) m.length (Go.Proofs.Ytfpnadmpmfcaaaa.wF m)].getD (i * (1 : Nat) + j) Rx.undefCell).flatten.length (Go.Proofs.Ytfpnadmpmfcaaaa.wF (Go.Proofs.Ytfpnadmpmfcaaaa.rdLL (2 : Nat) fun i j => [Rx.Dt.arr (3 : Nat) l.length (Go.Proofs.Ytfpnadmpmfcaaaa.wF l), Rx.Dt.arr (3 : Nat) m.length (Go.Proofs.Ytfpnadmpmfcaaaa.wF m)].getD (i * (1 : Nat) + j) Rx.undefCell).flatten)).length) (Go.Proofs.Ytfpnadmpmfcaaaa.wF (Go.Proofs.Ytfpnadmpmfcaaaa.rdF (Go.Proofs.Ytfpnadmpmfcaaaa.rdLL (2 : Nat) fun i j => [Rx.Dt.arr (3 : Nat) l.length (Go.Proofs.Ytfpnadmpmfcaaaa.wF l), Rx.Dt.arr (3 : Nat) m.length (Go.Proofs.Ytfpnadmpmfcaaaa.wF m)].getD (i * (1 : Nat) + j) Rx.undefCell).flatten.length (Go.Proofs.Ytfpnadmpmfcaaaa.wF (Go.Proofs.Ytfpnadmpmfcaaaa.rdLL (2 : Nat) fun i j => [Rx.Dt.arr (3 : Nat) l.length (Go.Proofs.Ytfpnadmpmfcaaaa.wF l), Rx.Dt.arr (3 : Nat) m.length (Go.Proofs.Ytfpnadmpmfcaaaa.wF m)].getD (i * (1 : Nat) + j) Rx.undefCell).flatten)))), SV.dt (Dt.cell (Go.Value.int Go.IntKind.i64 lim))]])) ∧
                     ((Rx.leObL ([]) ([])) ∧
                      (((Go.Proofs.Ytfpnadmpmfcaaaa.checkB (Go.Proofs.Ytfpnadmpmfcaaaa.rdF (Go.Proofs.Ytfpnadmpmfcaaaa.rdLL (2 : Nat) fun i j => [Rx.Dt.arr (3 : Nat) l.length (Go.Proofs.Ytfpnadmpmfcaaaa.wF l), Rx.Dt.arr (3 : Nat) m.length (Go.Proofs.Ytfpnadmpmfcaaaa.wF m)].getD (i * (1 : Nat) + j) Rx.undefCell).flatten.length (Go.Proofs.Ytfpnadmpmfcaaaa.wF (Go.Proofs.Ytfpnadmpmfcaaaa.rdLL (2 : Nat) fun i j => [Rx.Dt.arr (3 : Nat) l.length (Go.Proofs.Ytfpnadmpmfcaaaa.wF l), Rx.Dt.arr (3 : Nat) m.length (Go.Proofs.Ytfpnadmpmfcaaaa.wF m)].getD (i * (1 : Nat) + j) Rx.undefCell).flatten)) lim = Bool.true) →
                        (((((0 : Int) != (0 : Int)) = Bool.true) →
                          (True ∧
                           R (SV.tup [SV.agg [SV.dt (Dt.cell (Go.Value.slice Option.none (0 : Nat) (0 : Nat))), SV.ki Go.IntKind.i64 ((0 : Int))], SV.dt (Dt.cell (Go.Value.int Go.IntKind.i64 (0 : Int))), SV.dt (Dt.cell (Go.Value.int Go.IntKind.i64 (4 : Int)))]) ([]))) ∧
                         ((((0 : Int) != (0 : Int)) = Bool.false) →
                          (True ∧
                           R (SV.tup [SV.agg [SV.dt (Dt.arr ((3 : Nat)) ((Go.Proofs.Ytfpnadmpmfcaaaa.rdLL (2 : Nat) fun i j => [Rx.Dt.arr (3 : Nat) l.length (Go.Proofs.Ytfpnadmpmfcaaaa.wF l), Rx.Dt.arr (3 : Nat) m.length (Go.Proofs.Ytfpnadmpmfcaaaa.wF m)].getD (i * (1 : Nat) + j) Rx.undefCell).flatten.length) (Go.Proofs.Ytfpnadmpmfcaaaa.wF (Go.Proofs.Ytfpnadmpmfcaaaa.rdLL (2 : Nat) fun i j => [Rx.Dt.arr (3 : Nat) l.length (Go.Proofs.Ytfpnadmpmfcaaaa.wF l), Rx.Dt.arr (3 : Nat) m.length (Go.Proofs.Ytfpnadmpmfcaaaa.wF m)].getD (i * (1 : Nat) + j) Rx.undefCell).flatten)), SV.dt (Dt.cell (Go.Value.int Go.IntKind.i64 lim))], SV.dt (Dt.cell (Go.Value.int Go.IntKind.i64 (↑l.length : Int))), SV.dt (Dt.cell (Go.Value.int Go.IntKind.i64 (0 : Int)))]) ([]))))) ∧
                       ((Go.Proofs.Ytfpnadmpmfcaaaa.checkB (Go.Proofs.Ytfpnadmpmfcaaaa.rdF (Go.Proofs.Ytfpnadmpmfcaaaa.rdLL (2 : Nat) fun i j => [Rx.Dt.arr (3 : Nat) l.length (Go.Proofs.Ytfpnadmpmfcaaaa.wF l), Rx.Dt.arr (3 : Nat) m.length (Go.Proofs.Ytfpnadmpmfcaaaa.wF m)].getD (i * (1 : Nat) + j) Rx.undefCell).flatten.length (Go.Proofs.Ytfpnadmpmfcaaaa.wF (Go.Proofs.Ytfpnadmpmfcaaaa.rdLL (2 : Nat) fun i j => [Rx.Dt.arr (3 : Nat) l.length (Go.Proofs.Ytfpnadmpmfcaaaa.wF l), Rx.Dt.arr (3 : Nat) m.length (Go.Proofs.Ytfpnadmpmfcaaaa.wF m)].getD (i * (1 : Nat) + j) Rx.undefCell).flatten)) lim = Bool.false) →
                        (((((9 : Int) != (0 : Int)) = Bool.true) →
                          (True ∧
                           R (SV.tup [SV.agg [SV.dt (Dt.cell (Go.Value.slice Option.none (0 : Nat) (0 : Nat))), SV.ki Go.IntKind.i64 ((0 : Int))], SV.dt (Dt.cell (Go.Value.int Go.IntKind.i64 (0 : Int))), SV.dt (Dt.cell (Go.Value.int Go.IntKind.i64 (4 : Int)))]) ([]))) ∧
                         ((((9 : Int) != (0 : Int)) = Bool.false) →
                          (True ∧
                           R (SV.tup [SV.agg [SV.dt (Dt.arr ((3 : Nat)) ((Go.Proofs.Ytfpnadmpmfcaaaa.rdLL (2 : Nat) fun i j => [Rx.Dt.arr (3 : Nat) l.length (Go.Proofs.Ytfpnadmpmfcaaaa.wF l), Rx.Dt.arr (3 : Nat) m.length (Go.Proofs.Ytfpnadmpmfcaaaa.wF m)].getD (i * (1 : Nat) + j) Rx.undefCell).flatten.length) (Go.Proofs.Ytfpnadmpmfcaaaa.wF (Go.Proofs.Ytfpnadmpmfcaaaa.rdLL (2 : Nat) fun i j => [Rx.Dt.arr (3 : Nat) l.length (Go.Proofs.Ytfpnadmpmfcaaaa.wF l), Rx.Dt.arr (3 : Nat) m.length (Go.Proofs.Ytfpnadmpmfcaaaa.wF m)].getD (i * (1 : Nat) + j) Rx.undefCell).flatten)), SV.dt (Dt.cell (Go.Value.int Go.IntKind.i64 lim))], SV.dt (Dt.cell (Go.Value.int Go.IntKind.i64 (↑l.length : Int))), SV.dt (Dt.cell (Go.Value.int Go.IntKind.i64 (0 : Int)))]) ([])))))))))))))))))))))))))) ∧
  ((Go.Proofs.Ytfpnadmpmfcaaaa.checkB (Go.Proofs.Ytfpnadmpmfcaaaa.rdF l.length (Go.Proofs.Ytfpnadmpmfcaaaa.wF l)) lim = Bool.false) →
   (((((9 : Int) != (0 : Int)) = Bool.true) →
     (True ∧
      R (SV.tup [SV.agg [SV.dt (Dt.cell (Go.Value.slice Option.none (0 : Nat) (0 : Nat))), SV.ki Go.IntKind.i64 ((0 : Int))], SV.dt (Dt.cell (Go.Value.int Go.IntKind.i64 (0 : Int))), SV.dt (Dt.cell (Go.Value.int Go.IntKind.i64 (9 : Int)))]) ([]))) ∧
    ((((9 : Int) != (0 : Int)) = Bool.false) →
     (((((↑m.length : Int) == (0 : Int)) = Bool.true) →
       (True ∧
        R (SV.tup [SV.agg [SV.dt (Dt.cell (Go.Value.slice Option.none (0 : Nat) (0 : Nat))), SV.ki Go.IntKind.i64 ((0 : Int))], SV.dt (Dt.cell (Go.Value.int Go.IntKind.i64 (0 : Int))), SV.dt (Dt.cell (Go.Value.int Go.IntKind.i64 (4 : Int)))]) ([]))) ∧
      ((((↑m.length : Int) == (0 : Int)) = Bool.false) →
       (((Rx.lo Go.IntKind.i64 ≤ (↑l.length : Int) + (↑m.length : Int)) ∧
         ((↑l.length : Int) + (↑m.length : Int) ≤ Rx.hi Go.IntKind.i64)) ∧
        (((Decidable.decide ((↑l.length : Int) + (↑m.length : Int) > lim) = Bool.true) →
          (True ∧
           R (SV.tup [SV.agg [SV.dt (Dt.cell (Go.Value.slice Option.none (0 : Nat) (0 : Nat))), SV.ki Go.IntKind.i64 ((0 : Int))], SV.dt (Dt.cell (Go.Value.int Go.IntKind.i64 (0 : Int))), SV.dt (Dt.cell (Go.Value.int Go.IntKind.i64 (12 : Int)))]) ([]))) ∧
         ((Decidable.decide ((↑l.length : Int) + (↑m.length : Int) > lim) = Bool.false) →
          ((Rx.leL ([SV.dt (Dt.arr ((1 : Nat)) ((2 : Nat)) (fun i j => [Rx.Dt.arr (3 : Nat) l.length (Go.Proofs.Ytfpnadmpmfcaaaa.wF l), Rx.Dt.arr (3 : Nat) m.length (Go.Proofs.Ytfpnadmpmfcaaaa.wF m)].getD (i * (1 : Nat) + j) Rx.undefCell))]) ([SV.dt (Dt.arr ((1 : Nat)) ((Go.Proofs.Ytfpnadmpmfcaaaa.rdLL (2 : Nat) fun i j => [Rx.Dt.arr (3 : Nat) l.length (Go.Proofs.Ytfpnadmpmfcaaaa.wF l), Rx.Dt.arr (3 : Nat) m.length (Go.Proofs.Ytfpnadmpmfcaaaa.wF m)].getD (i * (1 : Nat) + j) Rx.undefCell).length) (Go.Proofs.Ytfpnadmpmfcaaaa.llF (Go.Proofs.Ytfpnadmpmfcaaaa.rdLL (2 : Nat) fun i j => [Rx.Dt.arr (3 : Nat) l.length (Go.Proofs.Ytfpnadmpmfcaaaa.wF l), Rx.Dt.arr (3 : Nat) m.length (Go.Proofs.Ytfpnadmpmfcaaaa.wF m)].getD (i * (1 : Nat) + j) Rx.undefCell)))])) ∧
           ((Rx.leObL ([]) ([])) ∧
            ((Go.Proofs.Ytfpnadmpmfcaaaa.fitsLL (Go.Proofs.Ytfpnadmpmfcaaaa.rdLL (2 : Nat) fun i j => [Rx.Dt.arr (3 : Nat) l.length (Go.Proofs.Ytfpnadmpmfcaaaa.wF l), Rx.Dt.arr (3 : Nat) m.length (Go.Proofs.Ytfpnadmpmfcaaaa.wF m)].getD (i * (1 : Nat) + j) Rx.undefCell)) ∧
             ((Rx.leL ([SV.dt (Dt.arr ((3 : Nat)) (m.length) (Go.Proofs.Ytfpnadmpmfcaaaa.wF m)), SV.dt (Dt.cell (Go.Value.int Go.IntKind.i64 (0 : Int)))]) ([SV.dt (Dt.arr ((3 : Nat)) ((Go.Proofs.Ytfpnadmpmfcaaaa.rdF m.length (Go.Proofs.Ytfpnadmpmfcaaaa.wF m)).length) (Go.Proofs.Ytfpnadmpmfcaaaa.wF (Go.Proofs.Ytfpnadmpmfcaaaa.rdF m.length (Go.Proofs.Ytfpnadmpmfcaaaa.wF m)))), SV.dt (Dt.cell (Go.Value.int Go.IntKind.i64 (0 : Int)))])) ∧
              ((Rx.leObL ([]) ([])) ∧
               ((((0 : Int) ≤ (0 : Int)) ∧
                 (((0 : Int) < (↑(Go.Proofs.Ytfpnadmpmfcaaaa.rdF m.length (Go.Proofs.Ytfpnadmpmfcaaaa.wF m)).length : Int)) ∧
                  (Go.Proofs.Ytfpnadmpmfcaaaa.fitsW (Go.Proofs.Ytfpnadmpmfcaaaa.rdF m.length (Go.Proofs.Ytfpnadmpmfcaaaa.wF m))))) ∧
                ((((!Go.Proofs.Ytfpnadmpmfcaaaa.spOk (Go.Proofs.Ytfpnadmpmfcaaaa.rdF m.length (Go.Proofs.Ytfpnadmpmfcaaaa.wF m)) (0 : Int)) = Bool.true) →
                  (True ∧
                   R (SV.tup [SV.agg [SV.dt (Dt.cell (Go.Value.slice Option.none (0 : Nat) (0 : Nat))), SV.ki Go.IntKind.i64 ((0 : Int))], SV.dt (Dt.cell (Go.Value.int Go.IntKind.i64 (0 : Int))), SV.dt (Dt.cell (Go.Value.int Go.IntKind.i64 (4 : Int)))]) ([]))) ∧
                 (((!Go.Proofs.Ytfpnadmpmfcaaaa.spOk (Go.Proofs.Ytfpnadmpmfcaaaa.rdF m.length (Go.Proofs.Ytfpnadmpmfcaaaa.wF m)) (0 : Int)) = Bool.false) →
                  ((((Go.Proofs.Ytfpnadmpmfcaaaa.spSize (Go.Proofs.Ytfpnadmpmfcaaaa.rdF m.length (Go.Proofs.Ytfpnadmpmfcaaaa.wF m)) (0 : Int) != (↑m.length : Int)) = Bool.true) →
                    (True ∧
                     R (SV.tup [SV.agg [SV.dt (Dt.cell (Go.Value.slice Option.none (0 : Nat) (0 : Nat))), SV.ki Go.IntKind.i64 ((0 : Int))], SV.dt (Dt.cell (Go.Value.int Go.IntKind.i64 (0 : Int))), SV.dt (Dt.cell (Go.Value.int Go.IntKind.i64 (4 : Int)))]) ([]))) ∧
                   (((Go.Proofs.Ytfpnadmpmfcaaaa.spSize (Go.Proofs.Ytfpnadmpmfcaaaa.rdF m.length (Go.Proofs.Ytfpnadmpmfcaaaa.wF m)) (0 : Int) != (↑m.length : Int)) = Bool.false) →
                    ((Rx.leL ([SV.agg [SV.dt (Dt.arr ((3 : Nat)) ((Go.Proofs.Ytfpnadmpmfcaaaa.rdLL (2 : Nat) fun i j => [Rx.Dt.arr (3 : Nat) l.length (Go.Proofs.Ytfpnadmpmfcaaaa.wF l), Rx.Dt.arr (3 : Nat) m.length (Go.Proofs.Ytfpnadmpmfcaaaa.wF m)].getD (i * (1 : Nat) + j) Rx.undefCell).flatten.length) (Go.Proofs.Ytfpnadmpmfcaaaa.wF (Go.Proofs.Ytfpnadmpmfcaaaa.rdLL (2 : Nat) fun i j => [Rx.Dt.arr (3 : Nat) l.length (Go.Proofs.Ytfpnadmpmfcaaaa.wF l), Rx.Dt.arr (3 : Nat) m.length (Go.Proofs.Ytfpnadmpmfcaaaa.wF m)].getD (i * (1 : Nat) + j) Rx.undefCell).flatten)), SV.dt (Dt.cell (Go.Value.int Go.IntKind.i64 lim))]]) ([SV.agg [SV.dt (Dt.arr ((3 : Nat)) ((Go.Proofs.Ytfpnadmpmfcaaaa.rdF (Go.Proofs.Ytfpnadmpmfcaaaa.rdLL (2 : Nat) fun i j => [Rx.Dt.arr (3 : Nat) l.length (Go.Proofs.Ytfpnadmpmfcaaaa.wF l), Rx.Dt.arr (3 : Nat) m.length (Go.Proofs.Ytfpnadmpmfcaaaa.wF m)].getD (i * (1 : Nat) + j) Rx.undefCell).flatten.length (Go.Proofs.Ytfpnadmpmfcaaaa.wF (Go.Proofs.Ytfpnadmpmfcaaaa.rdLL (2 : Nat) fun i j => [Rx.Dt.arr (3 : Nat) l.length (Go.Proofs.Ytfpnadmpmfcaaaa.wF l), Rx.Dt.arr (3 : Nat) m.length (Go.Proofs.Ytfpnadmpmfcaaaa.wF m)].getD (i * (1 : Nat) + j) Rx.undefCell).flatten)).length) (Go.Proofs.Ytfpnadmpmfcaaaa.wF (Go.Proofs.Ytfpnadmpmfcaaaa.rdF (Go.Proofs.Ytfpnadmpmfcaaaa.rdLL (2 : Nat) fun i j => [Rx.Dt.arr (3 : Nat) l.length (Go.Proofs.Ytfpnadmpmfcaaaa.wF l), Rx.Dt.arr (3 : Nat) m.length (Go.Proofs.Ytfpnadmpmfcaaaa.wF m)].getD (i * (1 : Nat) + j) Rx.undefCell).flatten.length (Go.Proofs.Ytfpnadmpmfcaaaa.wF (Go.Proofs.Ytfpnadmpmfcaaaa.rdLL (2 : Nat) fun i j => [Rx.Dt.arr (3 : Nat) l.length (Go.Proofs.Ytfpnadmpmfcaaaa.wF l), Rx.Dt.arr (3 : Nat) m.length (Go.Proofs.Ytfpnadmpmfcaaaa.wF m)].getD (i * (1 : Nat) + j) Rx.undefCell).flatten)))), SV.dt (Dt.cell (Go.Value.int Go.IntKind.i64 lim))]])) ∧
                     ((Rx.leObL ([]) ([])) ∧
                      (((Go.Proofs.Ytfpnadmpmfcaaaa.checkB (Go.Proofs.Ytfpnadmpmfcaaaa.rdF (Go.Proofs.Ytfpnadmpmfcaaaa.rdLL (2 : Nat) fun i j => [Rx.Dt.arr (3 : Nat) l.length (Go.Proofs.Ytfpnadmpmfcaaaa.wF l), Rx.Dt.arr (3 : Nat) m.length (Go.Proofs.Ytfpnadmpmfcaaaa.wF m)].getD (i * (1 : Nat) + j) Rx.undefCell).flatten.length (Go.Proofs.Ytfpnadmpmfcaaaa.wF (Go.Proofs.Ytfpnadmpmfcaaaa.rdLL (2 : Nat) fun i j => [Rx.Dt.arr (3 : Nat) l.length (Go.Proofs.Ytfpnadmpmfcaaaa.wF l), Rx.Dt.arr (3 : Nat) m.length (Go.Proofs.Ytfpnadmpmfcaaaa.wF m)].getD (i * (1 : Nat) + j) Rx.undefCell).flatten)) lim = Bool.true) →
                        (((((0 : Int) != (0 : Int)) = Bool.true) →
                          (True ∧
                           R (SV.tup [SV.agg [SV.dt (Dt.cell (Go.Value.slice Option.none (0 : Nat) (0 : Nat))), SV.ki Go.IntKind.i64 ((0 : Int))], SV.dt (Dt.cell (Go.Value.int Go.IntKind.i64 (0 : Int))), SV.dt (Dt.cell (Go.Value.int Go.IntKind.i64 (4 : Int)))]) ([]))) ∧
                         ((((0 : Int) != (0 : Int)) = Bool.false) →
                          (True ∧
                           R (SV.tup [SV.agg [SV.dt (Dt.arr ((3 : Nat)) ((Go.Proofs.Ytfpnadmpmfcaaaa.rdLL (2 : Nat) fun i j => [Rx.Dt.arr (3 : Nat) l.length (Go.Proofs.Ytfpnadmpmfcaaaa.wF l), Rx.Dt.arr (3 : Nat) m.length (Go.Proofs.Ytfpnadmpmfcaaaa.wF m)].getD (i * (1 : Nat) + j) Rx.undefCell).flatten.length) (Go.Proofs.Ytfpnadmpmfcaaaa.wF (Go.Proofs.Ytfpnadmpmfcaaaa.rdLL (2 : Nat) fun i j => [Rx.Dt.arr (3 : Nat) l.length (Go.Proofs.Ytfpnadmpmfcaaaa.wF l), Rx.Dt.arr (3 : Nat) m.length (Go.Proofs.Ytfpnadmpmfcaaaa.wF m)].getD (i * (1 : Nat) + j) Rx.undefCell).flatten)), SV.dt (Dt.cell (Go.Value.int Go.IntKind.i64 lim))], SV.dt (Dt.cell (Go.Value.int Go.IntKind.i64 (↑l.length : Int))), SV.dt (Dt.cell (Go.Value.int Go.IntKind.i64 (0 : Int)))]) ([]))))) ∧
                       ((Go.Proofs.Ytfpnadmpmfcaaaa.checkB (Go.Proofs.Ytfpnadmpmfcaaaa.rdF (Go.Proofs.Ytfpnadmpmfcaaaa.rdLL (2 : Nat) fun i j => [Rx.Dt.arr (3 : Nat) l.length (Go.Proofs.Ytfpnadmpmfcaaaa.wF l), Rx.Dt.arr (3 : Nat) m.length (Go.Proofs.Ytfpnadmpmfcaaaa.wF m)].getD (i * (1 : Nat) + j) Rx.undefCell).flatten.length (Go.Proofs.Ytfpnadmpmfcaaaa.wF (Go.Proofs.Ytfpnadmpmfcaaaa.rdLL (2 : Nat) fun i j => [Rx.Dt.arr (3 : Nat) l.length (Go.Proofs.Ytfpnadmpmfcaaaa.wF l), Rx.Dt.arr (3 : Nat) m.length (Go.Proofs.Ytfpnadmpmfcaaaa.wF m)].getD (i * (1 : Nat) + j) Rx.undefCell).flatten)) lim = Bool.false) →
                        (((((9 : Int) != (0 : Int)) = Bool.true) →
                          (True ∧
                           R (SV.tup [SV.agg [SV.dt (Dt.cell (Go.Value.slice Option.none (0 : Nat) (0 : Nat))), SV.ki Go.IntKind.i64 ((0 : Int))], SV.dt (Dt.cell (Go.Value.int Go.IntKind.i64 (0 : Int))), SV.dt (Dt.cell (Go.Value.int Go.IntKind.i64 (4 : Int)))]) ([]))) ∧
                         ((((9 : Int) != (0 : Int)) = Bool.false) →
                          (True ∧
                           R (SV.tup [SV.agg [SV.dt (Dt.arr ((3 : Nat)) ((Go.Proofs.Ytfpnadmpmfcaaaa.rdLL (2 : Nat) fun i j => [Rx.Dt.arr (3 : Nat) l.length (Go.Proofs.Ytfpnadmpmfcaaaa.wF l), Rx.Dt.arr (3 : Nat) m.length (Go.Proofs.Ytfpnadmpmfcaaaa.wF m)].getD (i * (1 : Nat) + j) Rx.undefCell).flatten.length) (Go.Proofs.Ytfpnadmpmfcaaaa.wF (Go.Proofs.Ytfpnadmpmfcaaaa.rdLL (2 : Nat) fun i j => [Rx.Dt.arr (3 : Nat) l.length (Go.Proofs.Ytfpnadmpmfcaaaa.wF l), Rx.Dt.arr (3 : Nat) m.length (Go.Proofs.Ytfpnadmpmfcaaaa.wF m)].getD (i * (1 : Nat) + j) Rx.undefCell).flatten)), SV.dt (Dt.cell (Go.Value.int Go.IntKind.i64 lim))], SV.dt (Dt.cell (Go.Value.int Go.IntKind.i64 (↑l.length : Int))), SV.dt (Dt.cell (Go.Value.int Go.IntKind.i64 (0 : Int)))]) ([])))))))))))))))))))))))))))))
theorem checkF_ok : checkF.Ok Try.prog := by
  intro al ol args obs out h
  unfold checkF at h
  simp only at h
  split at h
  · split at h
    · simp only [Option.some.injEq, Prod.mk.injEq] at h
      obtain ⟨rfl, rfl, rfl⟩ := h
      exact check_ctr _ _
    · cases h
  · cases h
theorem putKs_ok : ∀ k ∈ putKs, k.2.2.Ok Try.prog := all_cons checkF_ok (all_cons concatF_ok (all_cons spanF_ok (all_cons checkF_ok all_nil)))
theorem checkB_lims {l : List Wd} {lim : Int} (h : checkB l lim = true) : 50 ≤ lim ∧ lim ≤ 60000 ∧ (l.length : Int) ≤ lim := by
  simp only [checkB, Bool.and_eq_true, decide_eq_true_eq] at h
  omega
theorem rdLL_two (l m : List Wd) : (rdLL (2 : Nat) fun i j => [Dt.arr (3 : Nat) l.length (wF l), Dt.arr (3 : Nat) m.length (wF m)].getD (i * (1 : Nat) + j) undefCell) = [l, m] := by
  show [rdF l.length (wF l), rdF m.length (wF m)] = _
  rw [rdF_wF, rdF_wF]
theorem putE_le {post : Out → Prop} {e e' : Int} (h : post (.tup [noH, .ki .i64 0, vI .i64 e], [])) (he : e = e') : Gives post (.tup [.agg [.dt (.cell (.slice none 0 0)), .ki .i64 0], .dt (.cell (.int .i64 0)), .dt (.cell (.int .i64 e'))]) [] := by
  subst he
  refine gives1 h ?_
  simp only [noH, leS_tup, leL_cons, leS_agg, leS_self, leL_self, true_and, and_true]
  simp only [vI, leS_ki, leS_dki, and_true]
  exact leS_refl _
theorem put_ctr (l : List Wd) (lim : Int) (m : List Wd) : Ctr Try.prog 11 [hS l lim, wD m] [] (putO l lim m) := by
  refine ctr_fn mixed (N := 64) (fn := Try.f11) (c := bodyOf Try.f11) (ks := putKs) (ls := []) (by kernel_rfl) (by kernel_rfl) (by kernel_rfl) putKs_ok finF (fun c hc => by rw [show loopsOf (bodyOf Try.f11) = [] from by kernel_rfl] at hc; cases hc) (by kernel_rfl) (Q := putQ l lim m) (fun post hp => ?_) (fun R => by kernel_rfl)
  obtain ⟨hfit, hp1, hp2⟩ := hp
  have hfit : (m.length : Int) ≤ 4398046511104 := hfit
  have bad : ∀ e, putGood l lim m = false → putErr l lim m = e → Gives post _ [] := fun e h h' => putE_le (e' := e) (hp2 h) h'
  have n9 : ((9 : Int) != 0) = true := rfl
  unfold putQ
  simp only [rdF_wF, rdLL_two, leL_self, leObL_self, leS_self, leOO_self, true_and, and_true, decide_eq_true_eq, decide_eq_false_iff_not, Bool.not_eq_true', Bool.not_eq_false', bne_self_eq_false, Bool.false_eq_true, false_implies, true_implies, n9, reduceCtorEq, beq_iff_eq, beq_eq_false_iff_ne, bne_iff_ne]
  refine ⟨fun hc => ?_, fun hc => bad 9 (by simp [putGood, hc]) (by simp [putErr, hc])⟩
  obtain ⟨c1, c2, c3⟩ := checkB_lims hc
  refine ⟨fun h0 => ?_, fun h0 => ?_⟩
  · have h0 : m.length = 0 := by omega
    exact bad 4 (by simp [putGood, h0]) (by simp [putErr, hc, h0])
  have h0' : m.length ≠ 0 := by omega
  have hb : Nat.beq m.length 0 = false := by cases h : Nat.beq m.length 0 with
    | false => rfl
    | true => have := Nat.eq_of_beq_eq_true h; omega
  refine ⟨⟨by show (-9223372036854775808 : Int) ≤ _; omega, by show _ ≤ (9223372036854775807 : Int); omega⟩, fun h5 => bad 12 ?_ ?_, fun h5 => ?_⟩
  · have : decide ((l.length : Int) + m.length ≤ lim) = false := by simp; omega
    simp [putGood, this]
  · rw [putErr, if_pos hc, if_neg h0', if_pos (by omega)]
  have e4 : putErr l lim m = 4 := by rw [putErr, if_pos hc, if_neg h0', if_neg (by omega)]
  have hlen : ((l.length + m.length : Nat) : Int) ≤ 60000 := by omega
  refine ⟨?_, ⟨?_, ?_⟩, ⟨by omega, by omega, by assumption⟩, fun h => bad 4 (by simp [putGood, putOk, h]) e4, fun h => ⟨fun h' => bad 4 ?_ e4, fun h' => ⟨fun h'' => ?_, fun h'' => bad 4 ?_ e4⟩⟩⟩
  · simp only [leL_cons, leS_dt, leDt_arr, and_true]
    refine ⟨⟨rfl, .inr ⟨trivial, fun k hk j hj => ?_⟩⟩, trivial⟩
    obtain rfl : j = 0 := by omega
    have : k = 0 ∨ k = 1 := by omega
    rcases this with rfl | rfl
    · exact leDt_refl _
    · exact leDt_refl _
  · show (([l, m].flatten.length : Nat) : Int) ≤ _
    simp; omega
  · show (([l, m].length : Nat) : Int) ≤ _
    simp
  · simp [putGood, putOk, h, h']
  · have hf : [l, m].flatten = l ++ m := by simp
    rw [hf] at h'' ⊢
    refine gives1 (hp1 ?_) ?_
    · have h6 : decide ((l.length : Int) + m.length ≤ lim) = true := by simp; omega
      simp [putGood, putOk, h, h'', hc, hb, h6, bne_eq_false_iff_eq.1 h']
    · simp only [leS_tup, leL_cons]
      refine ⟨leS_refl _, leS_refl _, ?_, trivial⟩
      simp only [leS_dki]
  · have hf : [l, m].flatten = l ++ m := by simp
    rw [hf] at h''
    simp [putGood, putOk, h'']
end Go.Proofs.Ytfpnadmpmfcaaaa
