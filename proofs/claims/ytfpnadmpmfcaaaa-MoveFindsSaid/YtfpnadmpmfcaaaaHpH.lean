/- find, Find, CheckValue. -/
import Derived.Test.YtfpnadmpmfcaaaaHpG
open Rx Go
namespace Go.Proofs.Ytfpnadmpmfcaaaa

def valOk (l : List Wd) (w : Wd) : Bool := wordOk l ((startsS l).getD []) w
def cvErr (l : List Wd) (lim : Int) (w : Wd) : Int := if checkB l lim = true then if valOk l w = true then 0 else 3 else 9
def cvO (l : List Wd) (lim : Int) (w : Wd) : T Out := .ret (vI .i64 (cvErr l lim w), [])

def findF (l : List Wd) : Nat → Wd → Wd
  | 0, w => w
  | f + 1, w => if w.k = 5 ∧ (at' l w.n).k = 10 then findF l f ⟨w.k, (at' l w.n).n, w.s⟩ else w
/-- the way from a value to where it is now -/
def chainP (l : List Wd) : Nat → Wd → Prop
  | 0, _ => False
  | f + 1, w => w.k = 5 → (0 ≤ w.n ∧ w.n < l.length) ∧ ((at' l w.n).k = 10 → chainP l f ⟨w.k, (at' l w.n).n, w.s⟩)
def findS (l : List Wd) (w : Wd) : Wd := findF l (l.length + 1) w
def findO (l : List Wd) (w : Wd) : T Out := .need (chainP l (l.length + 1) w) (.ret (wS (findS l w), []))
def noWd : Wd := ⟨0, 0, ⟨#[]⟩⟩
def findR (l : List Wd) (lim : Int) (w : Wd) : Wd := if cvErr l lim w = 0 then findS l w else noWd
def findBigO (l : List Wd) (lim : Int) (w : Wd) : T Out := .ret (.tup [wS (findR l lim w), vI .i64 (cvErr l lim w)], [])

def fiArgs : List SV := [.ptr 0 0, .ptr 1 0, .ptr 2 0]
def fiObs (l : List Wd) (lim k n : Int) (s : ByteArray) : List (Option Ob) := [some (.cells 25 [wD l, vI .i64 lim]), some (.cells 30 [vI .i64 k, vI .i64 n, vS s]), some (.cells 30 [.junk, .junk, .junk])]
def fiOut (l : List Wd) (x : Nat × Wd) : T OutC := .need (chainP l x.1 x.2) (.ret (.exit 0, [.ptr 0 0, .ptr 1 0], [some (.cells 30 [vI .i64 (findF l x.1 x.2).k, vI .i64 (findF l x.1 x.2).n, vS (findF l x.1 x.2).s]), some (.cells 30 [.junk, .junk, .junk])]))
def rdO (o : Option Ob) : Option Wd := match o with
  | some (.cells _ [k, n, .dt (.cell (.string s))]) => match rdI (nrm k), rdI (nrm n) with
    | some k, some n => some ⟨k, n, s⟩
    | _, _ => none
  | _ => none
def fiLF : LF := ⟨1, ⟨[2, 3, 4], [3, 4], []⟩, fun _ ol => match ol with
  | [h, w, _] => match rdH h, rdO w with
    | some (l, lim), some w => some (fiArgs, fiObs l lim w.k w.n w.s, fiOut l (l.length + 1, w))
    | _, _ => none
  | _ => none⟩
noncomputable def fiE : Env := fnE Try.prog 27 0 [] [fiLF]
noncomputable def fiLoop : Code := (loopIn 1 (bodyOf Try.f25)).getD .skip
def cvKs : List (Nat × Nat × FC) := [(1, 1, checkF), (4, 2, startsFC), (5, 4, valueF)]
noncomputable def cvE : Env := fnE Try.prog 37 0 cvKs []
def cvFC : FC := ⟨15, false, false, fun al ol => match al, ol with
  | [h, w], [] => match rdHp h, rdW w with
    | some (l, lim), some w => some ([hS l lim, wS w], [], cvO l lim w)
    | _, _ => none
  | _, _ => none⟩
def findFC : FC := ⟨25, false, false, fun al ol => match al, ol with
  | [h, w], [] => match rdHp h, rdW w with
    | some (l, lim), some w => some ([hS l lim, wS w], [], findO l w)
    | _, _ => none
  | _, _ => none⟩
def fbKs : List (Nat × Nat × FC) := [(1, 2, cvFC), (4, 2, findFC)]
noncomputable def fbE : Env := fnE Try.prog 17 0 fbKs []

def fiQ (l : List Wd) (lim k n : Int) (s : ByteArray) (Rn : List SV → List (Option Ob) → Prop) (Re : Ex → List SV → List (Option Ob) → Prop) : Prop :=
((((k == (5 : Int)) = Bool.true) →
 ((((0 : Int) ≤ n) ∧
   (n < (↑l.length : Int))) ∧
  (((((l.getD n.toNat Inhabited.default).k == (10 : Int)) = Bool.true) →
    ((((0 : Int) ≤ n) ∧
      (n < (↑l.length : Int))) ∧
     Rn ([SV.ptr 0 0, SV.ptr 1 0, SV.ptr 2 0]) ([some (Ob.cells 25 [SV.dt (Dt.arr ((3 : Nat)) (l.length) (Go.Proofs.Ytfpnadmpmfcaaaa.wF l)), SV.dt (Dt.cell (Go.Value.int Go.IntKind.i64 lim))]), some (Ob.cells 30 [SV.dt (Dt.cell (Go.Value.int Go.IntKind.i64 k)), SV.dt (Dt.cell (Go.Value.int Go.IntKind.i64 (l.getD n.toNat Inhabited.default).n)), SV.dt (Dt.cell (Go.Value.string s))]), some (Ob.cells 30 [SV.junk, SV.junk, SV.junk])]))) ∧
   ((((l.getD n.toNat Inhabited.default).k == (10 : Int)) = Bool.false) →
    Re (Rx.Ex.exit (0 : Nat)) ([SV.ptr 0 0, SV.ptr 1 0]) ([some (Ob.cells 30 [SV.dt (Dt.cell (Go.Value.int Go.IntKind.i64 k)), SV.dt (Dt.cell (Go.Value.int Go.IntKind.i64 n)), SV.dt (Dt.cell (Go.Value.string s))]), some (Ob.cells 30 [SV.junk, SV.junk, SV.junk])]))))) ∧
(((k == (5 : Int)) = Bool.false) →
 Re (Rx.Ex.exit (0 : Nat)) ([SV.ptr 0 0, SV.ptr 1 0]) ([some (Ob.cells 30 [SV.dt (Dt.cell (Go.Value.int Go.IntKind.i64 k)), SV.dt (Dt.cell (Go.Value.int Go.IntKind.i64 n)), SV.dt (Dt.cell (Go.Value.string s))]), some (Ob.cells 30 [SV.junk, SV.junk, SV.junk])])))
def findQ (l : List Wd) (lim : Int) (w : Wd) (R : SV → List (Option Ob) → Prop) : Prop :=
(((Rx.leS (SV.ptr 0 0) (SV.ptr 0 0)) ∧
 ((Rx.leS (SV.ptr 1 0) (SV.ptr 1 0)) ∧
  ((Rx.leS (SV.ptr 2 0) (SV.ptr 2 0)) ∧
   True))) ∧
((Rx.leOO ([some (Ob.cells 25 [SV.dt (Dt.arr ((3 : Nat)) (l.length) (Go.Proofs.Ytfpnadmpmfcaaaa.wF l)), SV.dt (Dt.cell (Go.Value.int Go.IntKind.i64 lim))]), some (Ob.cells 30 [SV.dt (Dt.cell (Go.Value.int Go.IntKind.i64 w.k)), SV.dt (Dt.cell (Go.Value.int Go.IntKind.i64 w.n)), SV.dt (Dt.cell (Go.Value.string w.s))]), some (Ob.cells 30 [SV.ki Go.IntKind.i64 ((0 : Int)), SV.ki Go.IntKind.i64 ((0 : Int)), SV.dt (Dt.cell (Go.Value.string (ByteArray.mk #[])))])]) ([some (Ob.cells 25 [SV.dt (Dt.arr ((3 : Nat)) ((Go.Proofs.Ytfpnadmpmfcaaaa.rdF l.length (Go.Proofs.Ytfpnadmpmfcaaaa.wF l)).length) (Go.Proofs.Ytfpnadmpmfcaaaa.wF (Go.Proofs.Ytfpnadmpmfcaaaa.rdF l.length (Go.Proofs.Ytfpnadmpmfcaaaa.wF l)))), SV.dt (Dt.cell (Go.Value.int Go.IntKind.i64 lim))]), some (Ob.cells 30 [SV.dt (Dt.cell (Go.Value.int Go.IntKind.i64 w.k)), SV.dt (Dt.cell (Go.Value.int Go.IntKind.i64 w.n)), SV.dt (Dt.cell (Go.Value.string w.s))]), some (Ob.cells 30 [SV.junk, SV.junk, SV.junk])])) ∧
 ((Go.Proofs.Ytfpnadmpmfcaaaa.chainP (Go.Proofs.Ytfpnadmpmfcaaaa.rdF l.length (Go.Proofs.Ytfpnadmpmfcaaaa.wF l)) ((Go.Proofs.Ytfpnadmpmfcaaaa.rdF l.length (Go.Proofs.Ytfpnadmpmfcaaaa.wF l)).length + (1 : Nat)) (Go.Proofs.Ytfpnadmpmfcaaaa.Wd.mk w.k w.n w.s)) ∧
  (True ∧
   R (SV.agg [SV.dt (Dt.cell (Go.Value.int Go.IntKind.i64 (Go.Proofs.Ytfpnadmpmfcaaaa.findF (Go.Proofs.Ytfpnadmpmfcaaaa.rdF l.length (Go.Proofs.Ytfpnadmpmfcaaaa.wF l)) ((Go.Proofs.Ytfpnadmpmfcaaaa.rdF l.length (Go.Proofs.Ytfpnadmpmfcaaaa.wF l)).length + (1 : Nat)) (Go.Proofs.Ytfpnadmpmfcaaaa.Wd.mk w.k w.n w.s)).k)), SV.dt (Dt.cell (Go.Value.int Go.IntKind.i64 (Go.Proofs.Ytfpnadmpmfcaaaa.findF (Go.Proofs.Ytfpnadmpmfcaaaa.rdF l.length (Go.Proofs.Ytfpnadmpmfcaaaa.wF l)) ((Go.Proofs.Ytfpnadmpmfcaaaa.rdF l.length (Go.Proofs.Ytfpnadmpmfcaaaa.wF l)).length + (1 : Nat)) (Go.Proofs.Ytfpnadmpmfcaaaa.Wd.mk w.k w.n w.s)).n)), SV.dt (Dt.cell (Go.Value.string (Go.Proofs.Ytfpnadmpmfcaaaa.findF (Go.Proofs.Ytfpnadmpmfcaaaa.rdF l.length (Go.Proofs.Ytfpnadmpmfcaaaa.wF l)) ((Go.Proofs.Ytfpnadmpmfcaaaa.rdF l.length (Go.Proofs.Ytfpnadmpmfcaaaa.wF l)).length + (1 : Nat)) (Go.Proofs.Ytfpnadmpmfcaaaa.Wd.mk w.k w.n w.s)).s))]) ([])))))
def cvQ (l : List Wd) (lim : Int) (w : Wd) (R : SV → List (Option Ob) → Prop) : Prop :=
((Rx.leL ([SV.agg [SV.dt (Dt.arr ((3 : Nat)) (l.length) (Go.Proofs.Ytfpnadmpmfcaaaa.wF l)), SV.dt (Dt.cell (Go.Value.int Go.IntKind.i64 lim))]]) ([SV.agg [SV.dt (Dt.arr ((3 : Nat)) ((Go.Proofs.Ytfpnadmpmfcaaaa.rdF l.length (Go.Proofs.Ytfpnadmpmfcaaaa.wF l)).length) (Go.Proofs.Ytfpnadmpmfcaaaa.wF (Go.Proofs.Ytfpnadmpmfcaaaa.rdF l.length (Go.Proofs.Ytfpnadmpmfcaaaa.wF l)))), SV.dt (Dt.cell (Go.Value.int Go.IntKind.i64 lim))]])) ∧
((Rx.leObL ([]) ([])) ∧
 (((Go.Proofs.Ytfpnadmpmfcaaaa.checkB (Go.Proofs.Ytfpnadmpmfcaaaa.rdF l.length (Go.Proofs.Ytfpnadmpmfcaaaa.wF l)) lim = Bool.true) →
   (((((0 : Int) != (0 : Int)) = Bool.true) →
     (True ∧
      R (SV.dt (Dt.cell (Go.Value.int Go.IntKind.i64 (0 : Int)))) ([]))) ∧
    ((((0 : Int) != (0 : Int)) = Bool.false) →
     ((Rx.leL ([SV.dt (Dt.arr ((3 : Nat)) (l.length) (Go.Proofs.Ytfpnadmpmfcaaaa.wF l))]) ([SV.dt (Dt.arr ((3 : Nat)) ((Go.Proofs.Ytfpnadmpmfcaaaa.rdF l.length (Go.Proofs.Ytfpnadmpmfcaaaa.wF l)).length) (Go.Proofs.Ytfpnadmpmfcaaaa.wF (Go.Proofs.Ytfpnadmpmfcaaaa.rdF l.length (Go.Proofs.Ytfpnadmpmfcaaaa.wF l))))])) ∧
      ((Rx.leObL ([]) ([])) ∧
       ((Go.Proofs.Ytfpnadmpmfcaaaa.fitsW (Go.Proofs.Ytfpnadmpmfcaaaa.rdF l.length (Go.Proofs.Ytfpnadmpmfcaaaa.wF l))) ∧
        ((((Go.Proofs.Ytfpnadmpmfcaaaa.startsS (Go.Proofs.Ytfpnadmpmfcaaaa.rdF l.length (Go.Proofs.Ytfpnadmpmfcaaaa.wF l))).isSome = Bool.true) →
          ((Rx.leL ([SV.agg [SV.dt (Dt.cell (Go.Value.int Go.IntKind.i64 w.k)), SV.dt (Dt.cell (Go.Value.int Go.IntKind.i64 w.n)), SV.dt (Dt.cell (Go.Value.string w.s))], SV.dt (Dt.cell (Go.Value.int Go.IntKind.i64 (↑l.length : Int)))]) ([SV.agg [SV.dt (Dt.cell (Go.Value.int Go.IntKind.i64 w.k)), SV.dt (Dt.cell (Go.Value.int Go.IntKind.i64 w.n)), SV.dt (Dt.cell (Go.Value.string w.s))], SV.dt (Dt.cell (Go.Value.int Go.IntKind.i64 (↑l.length : Int)))])) ∧
           ((Rx.leObL ([]) ([])) ∧
            ((((!Go.Proofs.Ytfpnadmpmfcaaaa.valueS (Go.Proofs.Ytfpnadmpmfcaaaa.Wd.mk w.k w.n w.s) (↑l.length : Int)) = Bool.true) →
              (True ∧
               R (SV.dt (Dt.cell (Go.Value.int Go.IntKind.i64 (3 : Int)))) ([]))) ∧
             (((!Go.Proofs.Ytfpnadmpmfcaaaa.valueS (Go.Proofs.Ytfpnadmpmfcaaaa.Wd.mk w.k w.n w.s) (↑l.length : Int)) = Bool.false) →
              ((((w.k == (5 : Int)) = Bool.true) →
                ((((!Rx.toB ((Rx.mget (Rx.Ty.int Go.IntKind.i64) (Go.Proofs.Ytfpnadmpmfcaaaa.stM ((Go.Proofs.Ytfpnadmpmfcaaaa.startsS (Go.Proofs.Ytfpnadmpmfcaaaa.rdF l.length (Go.Proofs.Ytfpnadmpmfcaaaa.wF l))).getD [])) w.n).getD Rx.Ty.bool.dflt)) = Bool.true) →
                  (True ∧
                   R (SV.dt (Dt.cell (Go.Value.int Go.IntKind.i64 (3 : Int)))) ([]))) ∧
                 (((!Rx.toB ((Rx.mget (Rx.Ty.int Go.IntKind.i64) (Go.Proofs.Ytfpnadmpmfcaaaa.stM ((Go.Proofs.Ytfpnadmpmfcaaaa.startsS (Go.Proofs.Ytfpnadmpmfcaaaa.rdF l.length (Go.Proofs.Ytfpnadmpmfcaaaa.wF l))).getD [])) w.n).getD Rx.Ty.bool.dflt)) = Bool.false) →
                  (True ∧
                   R (SV.dt (Dt.cell (Go.Value.int Go.IntKind.i64 (0 : Int)))) ([]))))) ∧
               (((w.k == (5 : Int)) = Bool.false) →
                (True ∧
                 R (SV.dt (Dt.cell (Go.Value.int Go.IntKind.i64 (0 : Int)))) ([]))))))))) ∧
         (((Go.Proofs.Ytfpnadmpmfcaaaa.startsS (Go.Proofs.Ytfpnadmpmfcaaaa.rdF l.length (Go.Proofs.Ytfpnadmpmfcaaaa.wF l))).isSome = Bool.false) →
          ((Rx.leL ([SV.agg [SV.dt (Dt.cell (Go.Value.int Go.IntKind.i64 w.k)), SV.dt (Dt.cell (Go.Value.int Go.IntKind.i64 w.n)), SV.dt (Dt.cell (Go.Value.string w.s))], SV.dt (Dt.cell (Go.Value.int Go.IntKind.i64 (↑l.length : Int)))]) ([SV.agg [SV.dt (Dt.cell (Go.Value.int Go.IntKind.i64 w.k)), SV.dt (Dt.cell (Go.Value.int Go.IntKind.i64 w.n)), SV.dt (Dt.cell (Go.Value.string w.s))], SV.dt (Dt.cell (Go.Value.int Go.IntKind.i64 (↑l.length : Int)))])) ∧
           ((Rx.leObL ([]) ([])) ∧
            ((((!Go.Proofs.Ytfpnadmpmfcaaaa.valueS (Go.Proofs.Ytfpnadmpmfcaaaa.Wd.mk w.k w.n w.s) (↑l.length : Int)) = Bool.true) →
              (True ∧
               R (SV.dt (Dt.cell (Go.Value.int Go.IntKind.i64 (3 : Int)))) ([]))) ∧
             (((!Go.Proofs.Ytfpnadmpmfcaaaa.valueS (Go.Proofs.Ytfpnadmpmfcaaaa.Wd.mk w.k w.n w.s) (↑l.length : Int)) = Bool.false) →
              ((((w.k == (5 : Int)) = Bool.true) →
                ((((!Rx.toB ((Rx.mget (Rx.Ty.int Go.IntKind.i64) [] w.n).getD Rx.Ty.bool.dflt)) = Bool.true) →
                  (True ∧
                   R (SV.dt (Dt.cell (Go.Value.int Go.IntKind.i64 (3 : Int)))) ([]))) ∧
                 (((!Rx.toB ((Rx.mget (Rx.Ty.int Go.IntKind.i64) [] w.n).getD Rx.Ty.bool.dflt)) = Bool.false) →
                  (True ∧
                   R (SV.dt (Dt.cell (Go.Value.int Go.IntKind.i64 (0 : Int)))) ([]))))) ∧
               (((w.k == (5 : Int)) = Bool.false) →
                (True ∧
                 R (SV.dt (Dt.cell (Go.Value.int Go.IntKind.i64 (0 : Int)))) ([])))))))))))))))) ∧
  ((Go.Proofs.Ytfpnadmpmfcaaaa.checkB (Go.Proofs.Ytfpnadmpmfcaaaa.rdF l.length (Go.Proofs.Ytfpnadmpmfcaaaa.wF l)) lim = Bool.false) →
   (((((9 : Int) != (0 : Int)) = Bool.true) →
     (True ∧
      R (SV.dt (Dt.cell (Go.Value.int Go.IntKind.i64 (9 : Int)))) ([]))) ∧
    ((((9 : Int) != (0 : Int)) = Bool.false) →
     ((Rx.leL ([SV.dt (Dt.arr ((3 : Nat)) (l.length) (Go.Proofs.Ytfpnadmpmfcaaaa.wF l))]) ([SV.dt (Dt.arr ((3 : Nat)) ((Go.Proofs.Ytfpnadmpmfcaaaa.rdF l.length (Go.Proofs.Ytfpnadmpmfcaaaa.wF l)).length) (Go.Proofs.Ytfpnadmpmfcaaaa.wF (Go.Proofs.Ytfpnadmpmfcaaaa.rdF l.length (Go.Proofs.Ytfpnadmpmfcaaaa.wF l))))])) ∧
      ((Rx.leObL ([]) ([])) ∧
       ((Go.Proofs.Ytfpnadmpmfcaaaa.fitsW (Go.Proofs.Ytfpnadmpmfcaaaa.rdF l.length (Go.Proofs.Ytfpnadmpmfcaaaa.wF l))) ∧
        ((((Go.Proofs.Ytfpnadmpmfcaaaa.startsS (Go.Proofs.Ytfpnadmpmfcaaaa.rdF l.length (Go.Proofs.Ytfpnadmpmfcaaaa.wF l))).isSome = Bool.true) →
          ((Rx.leL ([SV.agg [SV.dt (Dt.cell (Go.Value.int Go.IntKind.i64 w.k)), SV.dt (Dt.cell (Go.Value.int Go.IntKind.i64 w.n)), SV.dt (Dt.cell (Go.Value.string w.s))], SV.dt (Dt.cell (Go.Value.int Go.IntKind.i64 (↑l.length : Int)))]) ([SV.agg [SV.dt (Dt.cell (Go.Value.int Go.IntKind.i64 w.k)), SV.dt (Dt.cell (Go.Value.int Go.IntKind.i64 w.n)), SV.dt (Dt.cell (Go.Value.string w.s))], SV.dt (Dt.cell (Go.Value.int Go.IntKind.i64 (↑l.length : Int)))])) ∧
           ((Rx.leObL ([]) ([])) ∧
            ((((!Go.Proofs.Ytfpnadmpmfcaaaa.valueS (Go.Proofs.Ytfpnadmpmfcaaaa.Wd.mk w.k w.n w.s) (↑l.length : Int)) = Bool.true) →
              (True ∧
               R (SV.dt (Dt.cell (Go.Value.int Go.IntKind.i64 (3 : Int)))) ([]))) ∧
             (((!Go.Proofs.Ytfpnadmpmfcaaaa.valueS (Go.Proofs.Ytfpnadmpmfcaaaa.Wd.mk w.k w.n w.s) (↑l.length : Int)) = Bool.false) →
              ((((w.k == (5 : Int)) = Bool.true) →
                ((((!Rx.toB ((Rx.mget (Rx.Ty.int Go.IntKind.i64) (Go.Proofs.Ytfpnadmpmfcaaaa.stM ((Go.Proofs.Ytfpnadmpmfcaaaa.startsS (Go.Proofs.Ytfpnadmpmfcaaaa.rdF l.length (Go.Proofs.Ytfpnadmpmfcaaaa.wF l))).getD [])) w.n).getD Rx.Ty.bool.dflt)) = Bool.true) →
                  (True ∧
                   R (SV.dt (Dt.cell (Go.Value.int Go.IntKind.i64 (3 : Int)))) ([]))) ∧
                 (((!Rx.toB ((Rx.mget (Rx.Ty.int Go.IntKind.i64) (Go.Proofs.Ytfpnadmpmfcaaaa.stM ((Go.Proofs.Ytfpnadmpmfcaaaa.startsS (Go.Proofs.Ytfpnadmpmfcaaaa.rdF l.length (Go.Proofs.Ytfpnadmpmfcaaaa.wF l))).getD [])) w.n).getD Rx.Ty.bool.dflt)) = Bool.false) →
                  (True ∧
                   R (SV.dt (Dt.cell (Go.Value.int Go.IntKind.i64 (0 : Int)))) ([]))))) ∧
               (((w.k == (5 : Int)) = Bool.false) →
                (True ∧
                 R (SV.dt (Dt.cell (Go.Value.int Go.IntKind.i64 (0 : Int)))) ([]))))))))) ∧
         (((Go.Proofs.Ytfpnadmpmfcaaaa.startsS (Go.Proofs.Ytfpnadmpmfcaaaa.rdF l.length (Go.Proofs.Ytfpnadmpmfcaaaa.wF l))).isSome = Bool.false) →
          ((Rx.leL ([SV.agg [SV.dt (Dt.cell (Go.Value.int Go.IntKind.i64 w.k)), SV.dt (Dt.cell (Go.Value.int Go.IntKind.i64 w.n)), SV.dt (Dt.cell (Go.Value.string w.s))], SV.dt (Dt.cell (Go.Value.int Go.IntKind.i64 (↑l.length : Int)))]) ([SV.agg [SV.dt (Dt.cell (Go.Value.int Go.IntKind.i64 w.k)), SV.dt (Dt.cell (Go.Value.int Go.IntKind.i64 w.n)), SV.dt (Dt.cell (Go.Value.string w.s))], SV.dt (Dt.cell (Go.Value.int Go.IntKind.i64 (↑l.length : Int)))])) ∧
           ((Rx.leObL ([]) ([])) ∧
            ((((!Go.Proofs.Ytfpnadmpmfcaaaa.valueS (Go.Proofs.Ytfpnadmpmfcaaaa.Wd.mk w.k w.n w.s) (↑l.length : Int)) = Bool.true) →
              (True ∧
               R (SV.dt (Dt.cell (Go.Value.int Go.IntKind.i64 (3 : Int)))) ([]))) ∧
             (((!Go.Proofs.Ytfpnadmpmfcaaaa.valueS (Go.Proofs.Ytfpnadmpmfcaaaa.Wd.mk w.k w.n w.s) (↑l.length : Int)) = Bool.false) →
              ((((w.k == (5 : Int)) = Bool.true) →
                ((((!Rx.toB ((Rx.mget (Rx.Ty.int Go.IntKind.i64) [] w.n).getD Rx.Ty.bool.dflt)) = Bool.true) →
                  (True ∧
                   R (SV.dt (Dt.cell (Go.Value.int Go.IntKind.i64 (3 : Int)))) ([]))) ∧
                 (((!Rx.toB ((Rx.mget (Rx.Ty.int Go.IntKind.i64) [] w.n).getD Rx.Ty.bool.dflt)) = Bool.false) →
                  (True ∧
                   R (SV.dt (Dt.cell (Go.Value.int Go.IntKind.i64 (0 : Int)))) ([]))))) ∧
               (((w.k == (5 : Int)) = Bool.false) →
                (True ∧
                 R (SV.dt (Dt.cell (Go.Value.int Go.IntKind.i64 (0 : Int)))) ([])))))))))))))))))))
def fbQ (l : List Wd) (lim : Int) (w : Wd) (R : SV → List (Option Ob) → Prop) : Prop :=
((Rx.leL ([SV.agg [SV.dt (Dt.arr ((3 : Nat)) (l.length) (Go.Proofs.Ytfpnadmpmfcaaaa.wF l)), SV.dt (Dt.cell (Go.Value.int Go.IntKind.i64 lim))], SV.agg [SV.dt (Dt.cell (Go.Value.int Go.IntKind.i64 w.k)), SV.dt (Dt.cell (Go.Value.int Go.IntKind.i64 w.n)), SV.dt (Dt.cell (Go.Value.string w.s))]]) ([SV.agg [SV.dt (Dt.arr ((3 : Nat)) ((Go.Proofs.Ytfpnadmpmfcaaaa.rdF l.length (Go.Proofs.Ytfpnadmpmfcaaaa.wF l)).length) (Go.Proofs.Ytfpnadmpmfcaaaa.wF (Go.Proofs.Ytfpnadmpmfcaaaa.rdF l.length (Go.Proofs.Ytfpnadmpmfcaaaa.wF l)))), SV.dt (Dt.cell (Go.Value.int Go.IntKind.i64 lim))], SV.agg [SV.dt (Dt.cell (Go.Value.int Go.IntKind.i64 w.k)), SV.dt (Dt.cell (Go.Value.int Go.IntKind.i64 w.n)), SV.dt (Dt.cell (Go.Value.string w.s))]])) ∧
((Rx.leObL ([]) ([])) ∧
 ((((Go.Proofs.Ytfpnadmpmfcaaaa.cvErr (Go.Proofs.Ytfpnadmpmfcaaaa.rdF l.length (Go.Proofs.Ytfpnadmpmfcaaaa.wF l)) lim (Go.Proofs.Ytfpnadmpmfcaaaa.Wd.mk w.k w.n w.s) != (0 : Int)) = Bool.true) →
   (True ∧
    R (SV.tup [SV.agg [SV.ki Go.IntKind.i64 ((0 : Int)), SV.ki Go.IntKind.i64 ((0 : Int)), SV.dt (Dt.cell (Go.Value.string (ByteArray.mk #[])))], SV.dt (Dt.cell (Go.Value.int Go.IntKind.i64 (Go.Proofs.Ytfpnadmpmfcaaaa.cvErr (Go.Proofs.Ytfpnadmpmfcaaaa.rdF l.length (Go.Proofs.Ytfpnadmpmfcaaaa.wF l)) lim (Go.Proofs.Ytfpnadmpmfcaaaa.Wd.mk w.k w.n w.s))))]) ([]))) ∧
  (((Go.Proofs.Ytfpnadmpmfcaaaa.cvErr (Go.Proofs.Ytfpnadmpmfcaaaa.rdF l.length (Go.Proofs.Ytfpnadmpmfcaaaa.wF l)) lim (Go.Proofs.Ytfpnadmpmfcaaaa.Wd.mk w.k w.n w.s) != (0 : Int)) = Bool.false) →
   ((Rx.leL ([SV.agg [SV.dt (Dt.arr ((3 : Nat)) (l.length) (Go.Proofs.Ytfpnadmpmfcaaaa.wF l)), SV.dt (Dt.cell (Go.Value.int Go.IntKind.i64 lim))], SV.agg [SV.dt (Dt.cell (Go.Value.int Go.IntKind.i64 w.k)), SV.dt (Dt.cell (Go.Value.int Go.IntKind.i64 w.n)), SV.dt (Dt.cell (Go.Value.string w.s))]]) ([SV.agg [SV.dt (Dt.arr ((3 : Nat)) ((Go.Proofs.Ytfpnadmpmfcaaaa.rdF l.length (Go.Proofs.Ytfpnadmpmfcaaaa.wF l)).length) (Go.Proofs.Ytfpnadmpmfcaaaa.wF (Go.Proofs.Ytfpnadmpmfcaaaa.rdF l.length (Go.Proofs.Ytfpnadmpmfcaaaa.wF l)))), SV.dt (Dt.cell (Go.Value.int Go.IntKind.i64 lim))], SV.agg [SV.dt (Dt.cell (Go.Value.int Go.IntKind.i64 w.k)), SV.dt (Dt.cell (Go.Value.int Go.IntKind.i64 w.n)), SV.dt (Dt.cell (Go.Value.string w.s))]])) ∧
    ((Rx.leObL ([]) ([])) ∧
     ((Go.Proofs.Ytfpnadmpmfcaaaa.chainP (Go.Proofs.Ytfpnadmpmfcaaaa.rdF l.length (Go.Proofs.Ytfpnadmpmfcaaaa.wF l)) ((Go.Proofs.Ytfpnadmpmfcaaaa.rdF l.length (Go.Proofs.Ytfpnadmpmfcaaaa.wF l)).length + (1 : Nat)) (Go.Proofs.Ytfpnadmpmfcaaaa.Wd.mk w.k w.n w.s)) ∧
      (True ∧
       R (SV.tup [SV.agg [SV.dt (Dt.cell (Go.Value.int Go.IntKind.i64 (Go.Proofs.Ytfpnadmpmfcaaaa.findS (Go.Proofs.Ytfpnadmpmfcaaaa.rdF l.length (Go.Proofs.Ytfpnadmpmfcaaaa.wF l)) (Go.Proofs.Ytfpnadmpmfcaaaa.Wd.mk w.k w.n w.s)).k)), SV.dt (Dt.cell (Go.Value.int Go.IntKind.i64 (Go.Proofs.Ytfpnadmpmfcaaaa.findS (Go.Proofs.Ytfpnadmpmfcaaaa.rdF l.length (Go.Proofs.Ytfpnadmpmfcaaaa.wF l)) (Go.Proofs.Ytfpnadmpmfcaaaa.Wd.mk w.k w.n w.s)).n)), SV.dt (Dt.cell (Go.Value.string (Go.Proofs.Ytfpnadmpmfcaaaa.findS (Go.Proofs.Ytfpnadmpmfcaaaa.rdF l.length (Go.Proofs.Ytfpnadmpmfcaaaa.wF l)) (Go.Proofs.Ytfpnadmpmfcaaaa.Wd.mk w.k w.n w.s)).s))], SV.dt (Dt.cell (Go.Value.int Go.IntKind.i64 (0 : Int)))]) ([])))))))))
theorem checkB_fits {l : List Wd} {lim : Int} (h : checkB l lim = true) : fitsW l := by
  have := checkB_lims h
  show (l.length : Int) ≤ _
  omega
theorem checkB_starts {l : List Wd} {lim : Int} (h : checkB l lim = true) : (startsS l).isSome = true := by
  simp only [checkB, Bool.and_eq_true] at h
  have h := h.2
  unfold allOk at h
  split at h
  · rename_i hs; rw [hs]; rfl
  · cases h
/-- on a heap that may be, all that was moved leads on -/
theorem checkB_okAt {l : List Wd} {lim : Int} (h : checkB l lim = true) : ∀ a ∈ (startsS l).getD [], okAt l ((startsS l).getD []) a = true ∧ a < l.length := by
  simp only [checkB, Bool.and_eq_true] at h
  have h := h.2
  unfold allOk at h
  split at h
  · rename_i acc hs
    intro a ha
    rw [hs] at ha ⊢
    exact ⟨List.all_eq_true.1 h a ha, (startsF_mem _ _ hs a ha).2.1⟩
  · cases h
theorem chain_at {l : List Wd} {lim : Int} (h : checkB l lim = true) : ∀ (f a : Nat) (k : Int) (s : ByteArray), a ∈ (startsS l).getD [] → l.length < f + a → chainP l f ⟨k, a, s⟩
  | 0, a, k, s, ha, hf => by have := (checkB_okAt h a ha).2; omega
  | f + 1, a, k, s, ha, hf => by
    intro _
    obtain ⟨h1, h2⟩ := checkB_okAt h a ha
    refine ⟨⟨by show (0 : Int) ≤ (a : Int); omega, by show (a : Int) < _; omega⟩, fun h10 => ?_⟩
    have h10 : (at' l a).k = 10 := h10
    unfold okAt at h1
    rw [if_pos h10] at h1
    simp only [Bool.and_eq_true, Bool.or_eq_true, beq_iff_eq, decide_eq_true_eq] at h1
    obtain ⟨b, hb, hbn⟩ := (inS_iff _ _).1 h1.1
    show chainP l f ⟨k, (at' l a).n, s⟩
    rw [← hbn]
    rcases h1.2 with h9 | h9
    · have hlt := (checkB_okAt h b hb).2
      cases f with
      | zero =>
        omega
      | succ f =>
        intro _
        refine ⟨⟨by show (0 : Int) ≤ (b : Int); omega, by show (b : Int) < _; omega⟩, fun h10' => ?_⟩
        have h10' : (at' l b).k = 10 := h10'
        rw [hbn] at h10'
        omega
    · exact chain_at h f b k s hb (by omega)
theorem chain_of {l : List Wd} {lim : Int} {w : Wd} (h : checkB l lim = true) (hv : valOk l w = true) : chainP l (l.length + 1) w := by
  intro h5
  unfold valOk wordOk at hv
  simp only [Bool.and_eq_true, Bool.or_eq_true, Bool.not_eq_true', beq_eq_false_iff_ne] at hv
  obtain ⟨b, hb, hbn⟩ := (inS_iff _ _).1 (hv.2.resolve_left fun h => h h5)
  have := chain_at h (l.length + 1) b w.k w.s hb (by omega)
  have e : (⟨w.k, b, w.s⟩ : Wd) = w := by cases w; simp at hbn; simp [hbn]
  rw [e] at this
  exact this h5
theorem fiLoop_ok (l : List Wd) (lim : Int) (x : Nat × Wd) : Sound fiE (.loop fiLoop) (mkSt (fiLF.live.h.zip fiArgs) (fiObs l lim x.2.k x.2.n x.2.s)) ((fiOut l x).map (OutC.st fiLF.live)) := by
  refine loop_fn mixed all_nil (fun c hc => by rw [show loopsOf fiLoop = [] from by kernel_rfl] at hc; cases hc) fiLF.live (fun _ => fiArgs) (fun x => fiObs l lim x.2.k x.2.n x.2.s) (fiOut l) (fun x => x.1) (Q := fun x Rn Re => fiQ l lim x.2.k x.2.n x.2.s Rn Re) ?_ (fun ⟨f, k, n, s⟩ Rn Re => by kernel_rfl) x
  rintro ⟨f, k, n, s⟩ post hp
  obtain ⟨hc, hp⟩ := hp
  cases f with
  | zero => exact hc.elim
  | succ f =>
  have hc : k = 5 → (0 ≤ n ∧ n < l.length) ∧ ((at' l n).k = 10 → chainP l f ⟨k, (at' l n).n, s⟩) := hc
  have e : ∀ i : Int, l.getD i.toNat default = at' l i := fun _ => rfl
  have leaf : ¬ (k = 5 ∧ (at' l n).k = 10) → Outs post (.exit 0) [.ptr 0 0, .ptr 1 0] [some (.cells 30 [vI .i64 k, vI .i64 n, vS s]), some (.cells 30 [.junk, .junk, .junk])] := by
    intro h
    have hp : post (.exit 0, [.ptr 0 0, .ptr 1 0], [some (.cells 30 [vI .i64 (findF l (f + 1) ⟨k, n, s⟩).k, vI .i64 (findF l (f + 1) ⟨k, n, s⟩).n, vS (findF l (f + 1) ⟨k, n, s⟩).s]), some (.cells 30 [.junk, .junk, .junk])]) := hp
    rw [findF, if_neg h] at hp
    exact Outs.mk hp (leL_refl _) (leOO_refl _)
  simp only
  unfold fiQ
  simp only [e, beq_iff_eq, beq_eq_false_iff_ne]
  refine ⟨fun h5 => ⟨(hc h5).1, fun h10 => ⟨(hc h5).1, ⟨f, ⟨k, (at' l n).n, s⟩⟩, Nat.lt_succ_self _, leL_refl _, leOO_refl _, (hc h5).2 h10, ?_⟩, fun h10 => leaf (fun h => h10 h.2)⟩, fun h5 => leaf (fun h => h5 h.1)⟩
  have e2 : findF l (f + 1) ⟨k, n, s⟩ = findF l f ⟨k, (at' l n).n, s⟩ := by rw [findF, if_pos ⟨h5, h10⟩]
  have hp : post (.exit 0, [.ptr 0 0, .ptr 1 0], [some (.cells 30 [vI .i64 (findF l (f + 1) ⟨k, n, s⟩).k, vI .i64 (findF l (f + 1) ⟨k, n, s⟩).n, vS (findF l (f + 1) ⟨k, n, s⟩).s]), some (.cells 30 [.junk, .junk, .junk])]) := hp
  rw [e2] at hp
  exact hp
theorem fiLF_ok : LFok fiE fiLF fiLoop := by
  intro svs obl args obs out h
  unfold fiLF at h
  simp only at h
  repeat' split at h
  all_goals first
    | (simp only [Option.some.injEq, Prod.mk.injEq] at h; obtain ⟨rfl, rfl, rfl⟩ := h; apply fiLoop_ok)
    | cases h
theorem fiLok : fiE.Lok (loopsOf (bodyOf Try.f25)) := by
  rw [show loopsOf (bodyOf Try.f25) = [fiLoop] from by kernel_rfl]
  exact fnE_Lok (all_cons (all_cons (fun _ => fiLF_ok) all_nil) all_nil)
theorem find_ctr (l : List Wd) (lim : Int) (w : Wd) : Ctr Try.prog 25 [hS l lim, wS w] [] (findO l w) := by
  refine ctr_fn mixed (N := 27) (fn := Try.f25) (c := bodyOf Try.f25) (ks := []) (ls := [fiLF]) (by kernel_rfl) (by kernel_rfl) (by kernel_rfl) all_nil fin0 fiLok (by kernel_rfl) (Q := findQ l lim w) (fun post hp => ?_) (fun R => by kernel_rfl)
  obtain ⟨hc, hp⟩ := hp
  have hp : post (wS (findS l w), []) := hp
  unfold findQ
  simp only [rdF_wF, leS_self, true_and]
  refine ⟨?_, hc, gives1 hp (leS_refl _)⟩
  simp only [leOO_cons, leOb_cells, leL_cons, leS_self, leL_nil, leS_junk, leOO_nil, and_true, true_and]
theorem cv_ctr (l : List Wd) (lim : Int) (w : Wd) : Ctr Try.prog 15 [hS l lim, wS w] [] (cvO l lim w) := by
  refine ctr_fn mixed (N := 37) (fn := Try.f15) (c := bodyOf Try.f15) (ks := cvKs) (ls := []) (by kernel_rfl) (by kernel_rfl) (by kernel_rfl) (all_cons checkF_ok (all_cons startsFC_ok (all_cons valueF_ok all_nil))) fin0 (fun c hc => by rw [show loopsOf (bodyOf Try.f15) = [] from by kernel_rfl] at hc; cases hc) (by kernel_rfl) (Q := cvQ l lim w) (fun post hp => ?_) (fun R => by kernel_rfl)
  have hp : post (vI .i64 (cvErr l lim w), []) := hp
  have leaf : ∀ e, cvErr l lim w = e → Gives post (vI .i64 e) [] := fun e h => gives1 hp (by rw [leS_int]; exact h)
  have n9 : ((9 : Int) != 0) = true := rfl
  unfold cvQ
  simp only [rdF_wF, wd_eta, inS_eq, leL_self, leObL_self, leS_self, leOO_self, true_and, and_true, n9, bne_self_eq_false, Bool.false_eq_true, false_implies, true_implies, reduceCtorEq, beq_iff_eq, beq_eq_false_iff_ne]
  refine ⟨fun hc => ⟨checkB_fits hc, fun hs => ⟨fun h1 => leaf 3 ?_, fun h1 => ⟨fun h5 => ⟨fun h2 => leaf 3 ?_, fun h2 => leaf 0 ?_⟩, fun h5 => leaf 0 ?_⟩⟩, fun hs => ?_⟩, fun hc => leaf 9 (by simp [cvErr, hc])⟩
  · simp only [Bool.not_eq_true'] at h1; simp [cvErr, hc, valOk, wordOk, h1]
  · simp only [Bool.not_eq_true', Bool.not_eq_false'] at h1 h2; simp [cvErr, hc, valOk, wordOk, h1, h2, h5]
  · simp only [Bool.not_eq_true', Bool.not_eq_false'] at h1 h2; simp [cvErr, hc, valOk, wordOk, h1, h2]
  · simp only [Bool.not_eq_true', Bool.not_eq_false'] at h1; simp [cvErr, hc, valOk, wordOk, h1, h5]
  · exact absurd (checkB_starts hc) (by simp [hs])
theorem cvFC_ok : cvFC.Ok Try.prog := by
  intro al ol args obs out h
  unfold cvFC at h
  simp only at h
  repeat' split at h
  all_goals first
    | (simp only [Option.some.injEq, Prod.mk.injEq] at h; obtain ⟨rfl, rfl, rfl⟩ := h; apply cv_ctr)
    | cases h
theorem findFC_ok : findFC.Ok Try.prog := by
  intro al ol args obs out h
  unfold findFC at h
  simp only at h
  repeat' split at h
  all_goals first
    | (simp only [Option.some.injEq, Prod.mk.injEq] at h; obtain ⟨rfl, rfl, rfl⟩ := h; apply find_ctr)
    | cases h
theorem fb_ctr (l : List Wd) (lim : Int) (w : Wd) : Ctr Try.prog 13 [hS l lim, wS w] [] (findBigO l lim w) := by
  refine ctr_fn mixed (N := 17) (fn := Try.f13) (c := bodyOf Try.f13) (ks := fbKs) (ls := []) (by kernel_rfl) (by kernel_rfl) (by kernel_rfl) (all_cons cvFC_ok (all_cons findFC_ok all_nil)) fin0 (fun c hc => by rw [show loopsOf (bodyOf Try.f13) = [] from by kernel_rfl] at hc; cases hc) (by kernel_rfl) (Q := fbQ l lim w) (fun post hp => ?_) (fun R => by kernel_rfl)
  have hp : post (.tup [wS (findR l lim w), vI .i64 (cvErr l lim w)], []) := hp
  unfold fbQ
  simp only [rdF_wF, wd_eta, leL_self, leObL_self, leS_self, leOO_self, true_and, and_true, beq_iff_eq, beq_eq_false_iff_ne, bne_iff_ne, bne_eq_false_iff_eq]
  refine ⟨fun h => gives1 hp ?_, fun h => ?_⟩
  · have : findR l lim w = noWd := by rw [findR, if_neg h]
    rw [this]
    simp only [leS_tup, leL_cons, wS, leS_agg, leS_self, leL_nil, and_true, leS_ki, noWd, true_and]
  · have hcv : checkB l lim = true ∧ valOk l w = true := by
      unfold cvErr at h
      by_cases hc : checkB l lim = true
      · rw [if_pos hc] at h
        by_cases hv : valOk l w = true
        · exact ⟨hc, hv⟩
        · rw [if_neg hv] at h; omega
      · rw [if_neg hc] at h; omega
    refine ⟨chain_of hcv.1 hcv.2, gives1 hp ?_⟩
    have : findR l lim w = findS l w := by rw [findR, if_pos h]
    rw [this, h]
    exact leS_refl _
end Go.Proofs.Ytfpnadmpmfcaaaa
