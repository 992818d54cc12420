/- value, span: what may stand on a heap. -/
import Derived.Test.YtfpnadmpmfcaaaaHpA
open Rx Go
namespace Go.Proofs.Ytfpnadmpmfcaaaa

def valueP (w : Wd) (m : Int) : Prop :=
  (w.k = 1 ∧ -1099511627776 ≤ w.n ∧ w.n ≤ 1099511627776 ∧ w.s.size = 0) ∨ (w.k = 2 ∧ 0 ≤ w.n ∧ w.n ≤ 1 ∧ w.s.size = 0) ∨ (w.k = 3 ∧ w.n = 0 ∧ w.s.size = 0) ∨
    (w.k = 4 ∧ w.n = 0 ∧ 1 ≤ w.s.size ∧ w.s.size ≤ 16) ∨ (w.k = 5 ∧ 0 ≤ w.n ∧ w.n < m ∧ w.s.size = 0)
instance (w : Wd) (m : Int) : Decidable (valueP w m) := by unfold valueP; infer_instance
def valueS (w : Wd) (m : Int) : Bool := decide (valueP w m)

def cntS (l : List Wd) (i : Int) : Int :=
  if (l.length : Int) ≤ i ∨ (at' l i).k ≠ 1 ∨ (at' l i).n < 0 ∨ 40 < (at' l i).n then -1 else (at' l i).n

/-- something begins here, and it is whole -/
def spP (l : List Wd) (a : Int) : Prop :=
  (at' l a).s.size = 0 ∧ (((at' l a).k = 6 ∧ (at' l a).n = 0 ∧ a + 3 ≤ l.length) ∨ ((at' l a).k = 7 ∧ (at' l a).n = 0 ∧ a + 2 ≤ l.length) ∨
  ((at' l a).k = 8 ∧ 0 ≤ (at' l a).n ∧ (at' l a).n < 2000 ∧ 0 ≤ cntS l (a + 1) ∧ a + 2 + cntS l (a + 1) ≤ l.length ∧ (at' l (a + 1)).s.size = 0) ∨
  ((at' l a).k = 9 ∧ 0 ≤ (at' l a).n ∧ (at' l a).n < 8 ∧ 0 ≤ cntS l (a + 2) ∧ cntS l (a + 2) ≤ 6 ∧ a + 3 + cntS l (a + 2) ≤ l.length ∧
    (at' l (a + 1)).k = 1 ∧ 0 ≤ (at' l (a + 1)).n ∧ (at' l (a + 1)).n < 20 ∧ (at' l (a + 1)).s.size = 0 ∧ (at' l (a + 2)).s.size = 0))
instance (l : List Wd) (a : Int) : Decidable (spP l a) := by unfold spP; infer_instance
def spOk (l : List Wd) (a : Int) : Bool := decide (spP l a)
def spSize (l : List Wd) (a : Int) : Int :=
  if spP l a then if (at' l a).k = 6 then 3 else if (at' l a).k = 7 then 2 else if (at' l a).k = 8 then 2 + cntS l (a + 1) else 3 + cntS l (a + 2) else 0
def spFrom (l : List Wd) (a : Int) : Int :=
  if spP l a then if (at' l a).k = 6 then 1 else if (at' l a).k = 7 then 1 else if (at' l a).k = 8 then 2 else 3 else 0

/-- a slice takes fewer bytes than there are -/
def fitsW (l : List Wd) : Prop := (l.length : Int) ≤ 4398046511104

def valueO (w : Wd) (m : Int) : T Out := .ret (vB (valueS w m), [])
def cntO (l : List Wd) (i : Int) : T Out := .need (0 ≤ i ∧ isInt i) (.ret (vI .i64 (cntS l i), [some (.cells 23 [wD l])]))
def spanO (l : List Wd) (a : Int) : T Out := .need (0 ≤ a ∧ a < l.length ∧ fitsW l) (.ret (.tup [vI .i64 (spSize l a), vI .i64 (spFrom l a), vB (spOk l a)], []))

/-- the closure that counts -/
def cntF : FC := ⟨31, false, false, fun al ol => match al, ol with
  | [i, .ptr 0 0], [.cells 23 [s]] => match rdI i, rdL s with
    | some i, some l => some ([vI .i64 i, .ptr 0 0], [.cells 23 [wD l]], cntO l i)
    | _, _ => none
  | _, _ => none⟩

noncomputable def spanK : Nat → Nat → Option Summ
  | 10, 3 => some (cntF.summ Try.prog)
  | 15, 3 => some (cntF.summ Try.prog)
  | _, _ => none

def valueQ (k n m : Int) (s : ByteArray) (R : SV → List (Option Ob) → Prop) : Prop :=
((((k == (1 : Int)) = Bool.true) →
 (((Decidable.decide (n ≥ (-1099511627776 : Int)) = Bool.true) →
   (((Decidable.decide (n ≤ (1099511627776 : Int)) = Bool.true) →
     (True ∧
      R (SV.dt (Dt.cell (Go.Value.bool (s.data.toList == [])))) ([]))) ∧
    ((Decidable.decide (n ≤ (1099511627776 : Int)) = Bool.false) →
     (True ∧
      R (SV.dt (Dt.cell (Go.Value.bool Bool.false))) ([]))))) ∧
  ((Decidable.decide (n ≥ (-1099511627776 : Int)) = Bool.false) →
   (True ∧
    R (SV.dt (Dt.cell (Go.Value.bool Bool.false))) ([]))))) ∧
(((k == (1 : Int)) = Bool.false) →
 ((((k == (2 : Int)) = Bool.true) →
   ((((n == (0 : Int)) = Bool.true) →
     (True ∧
      R (SV.dt (Dt.cell (Go.Value.bool (s.data.toList == [])))) ([]))) ∧
    (((n == (0 : Int)) = Bool.false) →
     ((((n == (1 : Int)) = Bool.true) →
       (True ∧
        R (SV.dt (Dt.cell (Go.Value.bool (s.data.toList == [])))) ([]))) ∧
      (((n == (1 : Int)) = Bool.false) →
       (True ∧
        R (SV.dt (Dt.cell (Go.Value.bool Bool.false))) ([]))))))) ∧
  (((k == (2 : Int)) = Bool.false) →
   ((((k == (3 : Int)) = Bool.true) →
     ((((n == (0 : Int)) = Bool.true) →
       (True ∧
        R (SV.dt (Dt.cell (Go.Value.bool (s.data.toList == [])))) ([]))) ∧
      (((n == (0 : Int)) = Bool.false) →
       (True ∧
        R (SV.dt (Dt.cell (Go.Value.bool Bool.false))) ([]))))) ∧
    (((k == (3 : Int)) = Bool.false) →
     ((((k == (4 : Int)) = Bool.true) →
       ((((n == (0 : Int)) = Bool.true) →
         (((Decidable.decide ((↑s.size : Int) ≥ (1 : Int)) = Bool.true) →
           (True ∧
            R (SV.dt (Dt.cell (Go.Value.bool (Decidable.decide ((↑s.size : Int) ≤ (16 : Int)))))) ([]))) ∧
          ((Decidable.decide ((↑s.size : Int) ≥ (1 : Int)) = Bool.false) →
           (True ∧
            R (SV.dt (Dt.cell (Go.Value.bool Bool.false))) ([]))))) ∧
        (((n == (0 : Int)) = Bool.false) →
         (True ∧
          R (SV.dt (Dt.cell (Go.Value.bool Bool.false))) ([]))))) ∧
      (((k == (4 : Int)) = Bool.false) →
       ((((k == (5 : Int)) = Bool.true) →
         (((Decidable.decide (n ≥ (0 : Int)) = Bool.true) →
           (((Decidable.decide (n < m) = Bool.true) →
             (True ∧
              R (SV.dt (Dt.cell (Go.Value.bool (s.data.toList == [])))) ([]))) ∧
            ((Decidable.decide (n < m) = Bool.false) →
             (True ∧
              R (SV.dt (Dt.cell (Go.Value.bool Bool.false))) ([]))))) ∧
          ((Decidable.decide (n ≥ (0 : Int)) = Bool.false) →
           (True ∧
            R (SV.dt (Dt.cell (Go.Value.bool Bool.false))) ([]))))) ∧
        (((k == (5 : Int)) = Bool.false) →
         (True ∧
          R (SV.dt (Dt.cell (Go.Value.bool Bool.false))) ([]))))))))))))
def cntQ (l : List Wd) (i : Int) (R : SV → List (Option Ob) → Prop) : Prop :=
(((Decidable.decide (i ≥ (↑l.length : Int)) = Bool.true) →
 (True ∧
  R (SV.dt (Dt.cell (Go.Value.int Go.IntKind.i64 (-1 : Int)))) ([some (Ob.cells 23 [SV.dt (Dt.arr ((3 : Nat)) (l.length) (Go.Proofs.Ytfpnadmpmfcaaaa.wF l))])]))) ∧
((Decidable.decide (i ≥ (↑l.length : Int)) = Bool.false) →
 ((((0 : Int) ≤ i) ∧
   (i < (↑l.length : Int))) ∧
  (((((l.getD i.toNat Inhabited.default).k != (1 : Int)) = Bool.true) →
    (True ∧
     R (SV.dt (Dt.cell (Go.Value.int Go.IntKind.i64 (-1 : Int)))) ([some (Ob.cells 23 [SV.dt (Dt.arr ((3 : Nat)) (l.length) (Go.Proofs.Ytfpnadmpmfcaaaa.wF l))])]))) ∧
   ((((l.getD i.toNat Inhabited.default).k != (1 : Int)) = Bool.false) →
    ((((0 : Int) ≤ i) ∧
      (i < (↑l.length : Int))) ∧
     (((Decidable.decide ((l.getD i.toNat Inhabited.default).n < (0 : Int)) = Bool.true) →
       (True ∧
        R (SV.dt (Dt.cell (Go.Value.int Go.IntKind.i64 (-1 : Int)))) ([some (Ob.cells 23 [SV.dt (Dt.arr ((3 : Nat)) (l.length) (Go.Proofs.Ytfpnadmpmfcaaaa.wF l))])]))) ∧
      ((Decidable.decide ((l.getD i.toNat Inhabited.default).n < (0 : Int)) = Bool.false) →
       ((((0 : Int) ≤ i) ∧
         (i < (↑l.length : Int))) ∧
        (((Decidable.decide ((l.getD i.toNat Inhabited.default).n > (40 : Int)) = Bool.true) →
          (True ∧
           R (SV.dt (Dt.cell (Go.Value.int Go.IntKind.i64 (-1 : Int)))) ([some (Ob.cells 23 [SV.dt (Dt.arr ((3 : Nat)) (l.length) (Go.Proofs.Ytfpnadmpmfcaaaa.wF l))])]))) ∧
         ((Decidable.decide ((l.getD i.toNat Inhabited.default).n > (40 : Int)) = Bool.false) →
          ((((0 : Int) ≤ i) ∧
            (i < (↑l.length : Int))) ∧
           (True ∧
            R (SV.dt (Dt.cell (Go.Value.int Go.IntKind.i64 (l.getD i.toNat Inhabited.default).n))) ([some (Ob.cells 23 [SV.dt (Dt.arr ((3 : Nat)) (l.length) (Go.Proofs.Ytfpnadmpmfcaaaa.wF l))])]))))))))))))))
def spanQ (l : List Wd) (a : Int) (R : SV → List (Option Ob) → Prop) : Prop :=
((((0 : Int) ≤ a) ∧
 (a < (↑l.length : Int))) ∧
(((((l.getD a.toNat Inhabited.default).k == (6 : Int)) = Bool.true) →
  (((Rx.lo Go.IntKind.i64 ≤ a + (3 : Int)) ∧
    (a + (3 : Int) ≤ Rx.hi Go.IntKind.i64)) ∧
   (((Decidable.decide (a + (3 : Int) > (↑l.length : Int)) = Bool.true) →
     (True ∧
      R (SV.tup [SV.dt (Dt.cell (Go.Value.int Go.IntKind.i64 (0 : Int))), SV.dt (Dt.cell (Go.Value.int Go.IntKind.i64 (0 : Int))), SV.dt (Dt.cell (Go.Value.bool Bool.false))]) ([]))) ∧
    ((Decidable.decide (a + (3 : Int) > (↑l.length : Int)) = Bool.false) →
     ((((!(l.getD a.toNat Inhabited.default).s.data.toList == []) = Bool.true) →
       (True ∧
        R (SV.tup [SV.dt (Dt.cell (Go.Value.int Go.IntKind.i64 (0 : Int))), SV.dt (Dt.cell (Go.Value.int Go.IntKind.i64 (0 : Int))), SV.dt (Dt.cell (Go.Value.bool Bool.false))]) ([]))) ∧
      (((!(l.getD a.toNat Inhabited.default).s.data.toList == []) = Bool.false) →
       (((((l.getD a.toNat Inhabited.default).k == (6 : Int)) = Bool.true) →
         (((((l.getD a.toNat Inhabited.default).n != (0 : Int)) = Bool.true) →
           (True ∧
            R (SV.tup [SV.dt (Dt.cell (Go.Value.int Go.IntKind.i64 (0 : Int))), SV.dt (Dt.cell (Go.Value.int Go.IntKind.i64 (0 : Int))), SV.dt (Dt.cell (Go.Value.bool Bool.false))]) ([]))) ∧
          ((((l.getD a.toNat Inhabited.default).n != (0 : Int)) = Bool.false) →
           (((((l.getD a.toNat Inhabited.default).k == (8 : Int)) = Bool.true) →
             (((Rx.lo Go.IntKind.i64 ≤ a + (1 : Int)) ∧
               (a + (1 : Int) ≤ Rx.hi Go.IntKind.i64)) ∧
              ((((0 : Int) ≤ a + (1 : Int)) ∧
                (a + (1 : Int) < (↑l.length : Int))) ∧
               ((((!(l.getD (a + (1 : Int)).toNat Inhabited.default).s.data.toList == []) = Bool.true) →
                 (True ∧
                  R (SV.tup [SV.dt (Dt.cell (Go.Value.int Go.IntKind.i64 (0 : Int))), SV.dt (Dt.cell (Go.Value.int Go.IntKind.i64 (0 : Int))), SV.dt (Dt.cell (Go.Value.bool Bool.false))]) ([]))) ∧
                (((!(l.getD (a + (1 : Int)).toNat Inhabited.default).s.data.toList == []) = Bool.false) →
                 (True ∧
                  R (SV.tup [SV.dt (Dt.cell (Go.Value.int Go.IntKind.i64 (3 : Int))), SV.dt (Dt.cell (Go.Value.int Go.IntKind.i64 (1 : Int))), SV.dt (Dt.cell (Go.Value.bool Bool.true))]) ([]))))))) ∧
            ((((l.getD a.toNat Inhabited.default).k == (8 : Int)) = Bool.false) →
             (True ∧
              R (SV.tup [SV.dt (Dt.cell (Go.Value.int Go.IntKind.i64 (3 : Int))), SV.dt (Dt.cell (Go.Value.int Go.IntKind.i64 (1 : Int))), SV.dt (Dt.cell (Go.Value.bool Bool.true))]) ([]))))))) ∧
        ((((l.getD a.toNat Inhabited.default).k == (6 : Int)) = Bool.false) →
         (((((l.getD a.toNat Inhabited.default).k == (7 : Int)) = Bool.true) →
           (((((l.getD a.toNat Inhabited.default).n != (0 : Int)) = Bool.true) →
             (True ∧
              R (SV.tup [SV.dt (Dt.cell (Go.Value.int Go.IntKind.i64 (0 : Int))), SV.dt (Dt.cell (Go.Value.int Go.IntKind.i64 (0 : Int))), SV.dt (Dt.cell (Go.Value.bool Bool.false))]) ([]))) ∧
            ((((l.getD a.toNat Inhabited.default).n != (0 : Int)) = Bool.false) →
             (((((l.getD a.toNat Inhabited.default).k == (8 : Int)) = Bool.true) →
               (((Rx.lo Go.IntKind.i64 ≤ a + (1 : Int)) ∧
                 (a + (1 : Int) ≤ Rx.hi Go.IntKind.i64)) ∧
                ((((0 : Int) ≤ a + (1 : Int)) ∧
                  (a + (1 : Int) < (↑l.length : Int))) ∧
                 ((((!(l.getD (a + (1 : Int)).toNat Inhabited.default).s.data.toList == []) = Bool.true) →
                   (True ∧
                    R (SV.tup [SV.dt (Dt.cell (Go.Value.int Go.IntKind.i64 (0 : Int))), SV.dt (Dt.cell (Go.Value.int Go.IntKind.i64 (0 : Int))), SV.dt (Dt.cell (Go.Value.bool Bool.false))]) ([]))) ∧
                  (((!(l.getD (a + (1 : Int)).toNat Inhabited.default).s.data.toList == []) = Bool.false) →
                   (True ∧
                    R (SV.tup [SV.dt (Dt.cell (Go.Value.int Go.IntKind.i64 (3 : Int))), SV.dt (Dt.cell (Go.Value.int Go.IntKind.i64 (1 : Int))), SV.dt (Dt.cell (Go.Value.bool Bool.true))]) ([]))))))) ∧
              ((((l.getD a.toNat Inhabited.default).k == (8 : Int)) = Bool.false) →
               (True ∧
                R (SV.tup [SV.dt (Dt.cell (Go.Value.int Go.IntKind.i64 (3 : Int))), SV.dt (Dt.cell (Go.Value.int Go.IntKind.i64 (1 : Int))), SV.dt (Dt.cell (Go.Value.bool Bool.true))]) ([]))))))) ∧
          ((((l.getD a.toNat Inhabited.default).k == (7 : Int)) = Bool.false) →
           (((((l.getD a.toNat Inhabited.default).k == (8 : Int)) = Bool.true) →
             (((Rx.lo Go.IntKind.i64 ≤ a + (1 : Int)) ∧
               (a + (1 : Int) ≤ Rx.hi Go.IntKind.i64)) ∧
              ((((0 : Int) ≤ a + (1 : Int)) ∧
                (a + (1 : Int) < (↑l.length : Int))) ∧
               ((((!(l.getD (a + (1 : Int)).toNat Inhabited.default).s.data.toList == []) = Bool.true) →
                 (True ∧
                  R (SV.tup [SV.dt (Dt.cell (Go.Value.int Go.IntKind.i64 (0 : Int))), SV.dt (Dt.cell (Go.Value.int Go.IntKind.i64 (0 : Int))), SV.dt (Dt.cell (Go.Value.bool Bool.false))]) ([]))) ∧
                (((!(l.getD (a + (1 : Int)).toNat Inhabited.default).s.data.toList == []) = Bool.false) →
                 (True ∧
                  R (SV.tup [SV.dt (Dt.cell (Go.Value.int Go.IntKind.i64 (3 : Int))), SV.dt (Dt.cell (Go.Value.int Go.IntKind.i64 (1 : Int))), SV.dt (Dt.cell (Go.Value.bool Bool.true))]) ([]))))))) ∧
            ((((l.getD a.toNat Inhabited.default).k == (8 : Int)) = Bool.false) →
             (True ∧
              R (SV.tup [SV.dt (Dt.cell (Go.Value.int Go.IntKind.i64 (3 : Int))), SV.dt (Dt.cell (Go.Value.int Go.IntKind.i64 (1 : Int))), SV.dt (Dt.cell (Go.Value.bool Bool.true))]) ([])))))))))))))) ∧
 ((((l.getD a.toNat Inhabited.default).k == (6 : Int)) = Bool.false) →
  (((((l.getD a.toNat Inhabited.default).k == (7 : Int)) = Bool.true) →
    (((Rx.lo Go.IntKind.i64 ≤ a + (2 : Int)) ∧
      (a + (2 : Int) ≤ Rx.hi Go.IntKind.i64)) ∧
     (((Decidable.decide (a + (2 : Int) > (↑l.length : Int)) = Bool.true) →
       (True ∧
        R (SV.tup [SV.dt (Dt.cell (Go.Value.int Go.IntKind.i64 (0 : Int))), SV.dt (Dt.cell (Go.Value.int Go.IntKind.i64 (0 : Int))), SV.dt (Dt.cell (Go.Value.bool Bool.false))]) ([]))) ∧
      ((Decidable.decide (a + (2 : Int) > (↑l.length : Int)) = Bool.false) →
       ((((!(l.getD a.toNat Inhabited.default).s.data.toList == []) = Bool.true) →
         (True ∧
          R (SV.tup [SV.dt (Dt.cell (Go.Value.int Go.IntKind.i64 (0 : Int))), SV.dt (Dt.cell (Go.Value.int Go.IntKind.i64 (0 : Int))), SV.dt (Dt.cell (Go.Value.bool Bool.false))]) ([]))) ∧
        (((!(l.getD a.toNat Inhabited.default).s.data.toList == []) = Bool.false) →
         (((((l.getD a.toNat Inhabited.default).k == (6 : Int)) = Bool.true) →
           (((((l.getD a.toNat Inhabited.default).n != (0 : Int)) = Bool.true) →
             (True ∧
              R (SV.tup [SV.dt (Dt.cell (Go.Value.int Go.IntKind.i64 (0 : Int))), SV.dt (Dt.cell (Go.Value.int Go.IntKind.i64 (0 : Int))), SV.dt (Dt.cell (Go.Value.bool Bool.false))]) ([]))) ∧
            ((((l.getD a.toNat Inhabited.default).n != (0 : Int)) = Bool.false) →
             (((((l.getD a.toNat Inhabited.default).k == (8 : Int)) = Bool.true) →
               (((Rx.lo Go.IntKind.i64 ≤ a + (1 : Int)) ∧
                 (a + (1 : Int) ≤ Rx.hi Go.IntKind.i64)) ∧
                ((((0 : Int) ≤ a + (1 : Int)) ∧
                  (a + (1 : Int) < (↑l.length : Int))) ∧
                 ((((!(l.getD (a + (1 : Int)).toNat Inhabited.default).s.data.toList == []) = Bool.true) →
                   (True ∧
                    R (SV.tup [SV.dt (Dt.cell (Go.Value.int Go.IntKind.i64 (0 : Int))), SV.dt (Dt.cell (Go.Value.int Go.IntKind.i64 (0 : Int))), SV.dt (Dt.cell (Go.Value.bool Bool.false))]) ([]))) ∧
                  (((!(l.getD (a + (1 : Int)).toNat Inhabited.default).s.data.toList == []) = Bool.false) →
                   (True ∧
                    R (SV.tup [SV.dt (Dt.cell (Go.Value.int Go.IntKind.i64 (2 : Int))), SV.dt (Dt.cell (Go.Value.int Go.IntKind.i64 (1 : Int))), SV.dt (Dt.cell (Go.Value.bool Bool.true))]) ([]))))))) ∧
              ((((l.getD a.toNat Inhabited.default).k == (8 : Int)) = Bool.false) →
               (True ∧
                R (SV.tup [SV.dt (Dt.cell (Go.Value.int Go.IntKind.i64 (2 : Int))), SV.dt (Dt.cell (Go.Value.int Go.IntKind.i64 (1 : Int))), SV.dt (Dt.cell (Go.Value.bool Bool.true))]) ([]))))))) ∧
          ((((l.getD a.toNat Inhabited.default).k == (6 : Int)) = Bool.false) →
           (((((l.getD a.toNat Inhabited.default).k == (7 : Int)) = Bool.true) →
             (((((l.getD a.toNat Inhabited.default).n != (0 : Int)) = Bool.true) →
               (True ∧
                R (SV.tup [SV.dt (Dt.cell (Go.Value.int Go.IntKind.i64 (0 : Int))), SV.dt (Dt.cell (Go.Value.int Go.IntKind.i64 (0 : Int))), SV.dt (Dt.cell (Go.Value.bool Bool.false))]) ([]))) ∧
              ((((l.getD a.toNat Inhabited.default).n != (0 : Int)) = Bool.false) →
               (((((l.getD a.toNat Inhabited.default).k == (8 : Int)) = Bool.true) →
                 (((Rx.lo Go.IntKind.i64 ≤ a + (1 : Int)) ∧
                   (a + (1 : Int) ≤ Rx.hi Go.IntKind.i64)) ∧
                  ((((0 : Int) ≤ a + (1 : Int)) ∧
                    (a + (1 : Int) < (↑l.length : Int))) ∧
                   ((((!(l.getD (a + (1 : Int)).toNat Inhabited.default).s.data.toList == []) = Bool.true) →
                     (True ∧
                      R (SV.tup [SV.dt (Dt.cell (Go.Value.int Go.IntKind.i64 (0 : Int))), SV.dt (Dt.cell (Go.Value.int Go.IntKind.i64 (0 : Int))), SV.dt (Dt.cell (Go.Value.bool Bool.false))]) ([]))) ∧
                    (((!(l.getD (a + (1 : Int)).toNat Inhabited.default).s.data.toList == []) = Bool.false) →
                     (True ∧
                      R (SV.tup [SV.dt (Dt.cell (Go.Value.int Go.IntKind.i64 (2 : Int))), SV.dt (Dt.cell (Go.Value.int Go.IntKind.i64 (1 : Int))), SV.dt (Dt.cell (Go.Value.bool Bool.true))]) ([]))))))) ∧
                ((((l.getD a.toNat Inhabited.default).k == (8 : Int)) = Bool.false) →
                 (True ∧
                  R (SV.tup [SV.dt (Dt.cell (Go.Value.int Go.IntKind.i64 (2 : Int))), SV.dt (Dt.cell (Go.Value.int Go.IntKind.i64 (1 : Int))), SV.dt (Dt.cell (Go.Value.bool Bool.true))]) ([]))))))) ∧
            ((((l.getD a.toNat Inhabited.default).k == (7 : Int)) = Bool.false) →
             (((((l.getD a.toNat Inhabited.default).k == (8 : Int)) = Bool.true) →
               (((Rx.lo Go.IntKind.i64 ≤ a + (1 : Int)) ∧
                 (a + (1 : Int) ≤ Rx.hi Go.IntKind.i64)) ∧
                ((((0 : Int) ≤ a + (1 : Int)) ∧
                  (a + (1 : Int) < (↑l.length : Int))) ∧
                 ((((!(l.getD (a + (1 : Int)).toNat Inhabited.default).s.data.toList == []) = Bool.true) →
                   (True ∧
                    R (SV.tup [SV.dt (Dt.cell (Go.Value.int Go.IntKind.i64 (0 : Int))), SV.dt (Dt.cell (Go.Value.int Go.IntKind.i64 (0 : Int))), SV.dt (Dt.cell (Go.Value.bool Bool.false))]) ([]))) ∧
                  (((!(l.getD (a + (1 : Int)).toNat Inhabited.default).s.data.toList == []) = Bool.false) →
                   (True ∧
                    R (SV.tup [SV.dt (Dt.cell (Go.Value.int Go.IntKind.i64 (2 : Int))), SV.dt (Dt.cell (Go.Value.int Go.IntKind.i64 (1 : Int))), SV.dt (Dt.cell (Go.Value.bool Bool.true))]) ([]))))))) ∧
              ((((l.getD a.toNat Inhabited.default).k == (8 : Int)) = Bool.false) →
               (True ∧
                R (SV.tup [SV.dt (Dt.cell (Go.Value.int Go.IntKind.i64 (2 : Int))), SV.dt (Dt.cell (Go.Value.int Go.IntKind.i64 (1 : Int))), SV.dt (Dt.cell (Go.Value.bool Bool.true))]) ([])))))))))))))) ∧
   ((((l.getD a.toNat Inhabited.default).k == (7 : Int)) = Bool.false) →
    (((((l.getD a.toNat Inhabited.default).k == (8 : Int)) = Bool.true) →
      (((Rx.lo Go.IntKind.i64 ≤ a + (1 : Int)) ∧
        (a + (1 : Int) ≤ Rx.hi Go.IntKind.i64)) ∧
       ((Rx.leL ([SV.dt (Dt.cell (Go.Value.int Go.IntKind.i64 (a + (1 : Int)))), SV.ptr 0 0]) ([SV.dt (Dt.cell (Go.Value.int Go.IntKind.i64 (a + (1 : Int)))), SV.ptr 0 0])) ∧
        ((Rx.leObL ([Ob.cells 23 [SV.dt (Dt.arr ((3 : Nat)) (l.length) (Go.Proofs.Ytfpnadmpmfcaaaa.wF l))]]) ([Ob.cells 23 [SV.dt (Dt.arr ((3 : Nat)) ((Go.Proofs.Ytfpnadmpmfcaaaa.rdF l.length (Go.Proofs.Ytfpnadmpmfcaaaa.wF l)).length) (Go.Proofs.Ytfpnadmpmfcaaaa.wF (Go.Proofs.Ytfpnadmpmfcaaaa.rdF l.length (Go.Proofs.Ytfpnadmpmfcaaaa.wF l))))]])) ∧
         ((((0 : Int) ≤ a + (1 : Int)) ∧
           (Go.Proofs.Ytfpnadmpmfcaaaa.isInt (a + (1 : Int)))) ∧
          (((Rx.lo Go.IntKind.i64 ≤ (2 : Int) + Go.Proofs.Ytfpnadmpmfcaaaa.cntS (Go.Proofs.Ytfpnadmpmfcaaaa.rdF l.length (Go.Proofs.Ytfpnadmpmfcaaaa.wF l)) (a + (1 : Int))) ∧
            ((2 : Int) + Go.Proofs.Ytfpnadmpmfcaaaa.cntS (Go.Proofs.Ytfpnadmpmfcaaaa.rdF l.length (Go.Proofs.Ytfpnadmpmfcaaaa.wF l)) (a + (1 : Int)) ≤ Rx.hi Go.IntKind.i64)) ∧
           (((Decidable.decide (Go.Proofs.Ytfpnadmpmfcaaaa.cntS (Go.Proofs.Ytfpnadmpmfcaaaa.rdF l.length (Go.Proofs.Ytfpnadmpmfcaaaa.wF l)) (a + (1 : Int)) < (0 : Int)) = Bool.true) →
             (True ∧
              R (SV.tup [SV.dt (Dt.cell (Go.Value.int Go.IntKind.i64 (0 : Int))), SV.dt (Dt.cell (Go.Value.int Go.IntKind.i64 (0 : Int))), SV.dt (Dt.cell (Go.Value.bool Bool.false))]) ([]))) ∧
            ((Decidable.decide (Go.Proofs.Ytfpnadmpmfcaaaa.cntS (Go.Proofs.Ytfpnadmpmfcaaaa.rdF l.length (Go.Proofs.Ytfpnadmpmfcaaaa.wF l)) (a + (1 : Int)) < (0 : Int)) = Bool.false) →
             (((Decidable.decide ((l.getD a.toNat Inhabited.default).n < (0 : Int)) = Bool.true) →
               (True ∧
                R (SV.tup [SV.dt (Dt.cell (Go.Value.int Go.IntKind.i64 (0 : Int))), SV.dt (Dt.cell (Go.Value.int Go.IntKind.i64 (0 : Int))), SV.dt (Dt.cell (Go.Value.bool Bool.false))]) ([]))) ∧
              ((Decidable.decide ((l.getD a.toNat Inhabited.default).n < (0 : Int)) = Bool.false) →
               (((Decidable.decide ((l.getD a.toNat Inhabited.default).n ≥ (2000 : Int)) = Bool.true) →
                 (True ∧
                  R (SV.tup [SV.dt (Dt.cell (Go.Value.int Go.IntKind.i64 (0 : Int))), SV.dt (Dt.cell (Go.Value.int Go.IntKind.i64 (0 : Int))), SV.dt (Dt.cell (Go.Value.bool Bool.false))]) ([]))) ∧
                ((Decidable.decide ((l.getD a.toNat Inhabited.default).n ≥ (2000 : Int)) = Bool.false) →
                 (((Rx.lo Go.IntKind.i64 ≤ a + ((2 : Int) + Go.Proofs.Ytfpnadmpmfcaaaa.cntS (Go.Proofs.Ytfpnadmpmfcaaaa.rdF l.length (Go.Proofs.Ytfpnadmpmfcaaaa.wF l)) (a + (1 : Int)))) ∧
                   (a + ((2 : Int) + Go.Proofs.Ytfpnadmpmfcaaaa.cntS (Go.Proofs.Ytfpnadmpmfcaaaa.rdF l.length (Go.Proofs.Ytfpnadmpmfcaaaa.wF l)) (a + (1 : Int))) ≤ Rx.hi Go.IntKind.i64)) ∧
                  (((Decidable.decide (a + ((2 : Int) + Go.Proofs.Ytfpnadmpmfcaaaa.cntS (Go.Proofs.Ytfpnadmpmfcaaaa.rdF l.length (Go.Proofs.Ytfpnadmpmfcaaaa.wF l)) (a + (1 : Int))) > (↑(Go.Proofs.Ytfpnadmpmfcaaaa.rdF l.length (Go.Proofs.Ytfpnadmpmfcaaaa.wF l)).length : Int)) = Bool.true) →
                    (True ∧
                     R (SV.tup [SV.dt (Dt.cell (Go.Value.int Go.IntKind.i64 (0 : Int))), SV.dt (Dt.cell (Go.Value.int Go.IntKind.i64 (0 : Int))), SV.dt (Dt.cell (Go.Value.bool Bool.false))]) ([]))) ∧
                   ((Decidable.decide (a + ((2 : Int) + Go.Proofs.Ytfpnadmpmfcaaaa.cntS (Go.Proofs.Ytfpnadmpmfcaaaa.rdF l.length (Go.Proofs.Ytfpnadmpmfcaaaa.wF l)) (a + (1 : Int))) > (↑(Go.Proofs.Ytfpnadmpmfcaaaa.rdF l.length (Go.Proofs.Ytfpnadmpmfcaaaa.wF l)).length : Int)) = Bool.false) →
                    ((((!(l.getD a.toNat Inhabited.default).s.data.toList == []) = Bool.true) →
                      (True ∧
                       R (SV.tup [SV.dt (Dt.cell (Go.Value.int Go.IntKind.i64 (0 : Int))), SV.dt (Dt.cell (Go.Value.int Go.IntKind.i64 (0 : Int))), SV.dt (Dt.cell (Go.Value.bool Bool.false))]) ([]))) ∧
                     (((!(l.getD a.toNat Inhabited.default).s.data.toList == []) = Bool.false) →
                      (((((l.getD a.toNat Inhabited.default).k == (6 : Int)) = Bool.true) →
                        (((((l.getD a.toNat Inhabited.default).n != (0 : Int)) = Bool.true) →
                          (True ∧
                           R (SV.tup [SV.dt (Dt.cell (Go.Value.int Go.IntKind.i64 (0 : Int))), SV.dt (Dt.cell (Go.Value.int Go.IntKind.i64 (0 : Int))), SV.dt (Dt.cell (Go.Value.bool Bool.false))]) ([]))) ∧
                         ((((l.getD a.toNat Inhabited.default).n != (0 : Int)) = Bool.false) →
                          (((((l.getD a.toNat Inhabited.default).k == (8 : Int)) = Bool.true) →
                            (((Rx.lo Go.IntKind.i64 ≤ a + (1 : Int)) ∧
                              (a + (1 : Int) ≤ Rx.hi Go.IntKind.i64)) ∧
                             ((((0 : Int) ≤ a + (1 : Int)) ∧
                               (a + (1 : Int) < (↑(Go.Proofs.Ytfpnadmpmfcaaaa.rdF l.length (Go.Proofs.Ytfpnadmpmfcaaaa.wF l)).length : Int))) ∧
                              ((((!((Go.Proofs.Ytfpnadmpmfcaaaa.rdF l.length (Go.Proofs.Ytfpnadmpmfcaaaa.wF l)).getD (a + (1 : Int)).toNat Inhabited.default).s.data.toList == []) = Bool.true) →
                                (True ∧
                                 R (SV.tup [SV.dt (Dt.cell (Go.Value.int Go.IntKind.i64 (0 : Int))), SV.dt (Dt.cell (Go.Value.int Go.IntKind.i64 (0 : Int))), SV.dt (Dt.cell (Go.Value.bool Bool.false))]) ([]))) ∧
                               (((!((Go.Proofs.Ytfpnadmpmfcaaaa.rdF l.length (Go.Proofs.Ytfpnadmpmfcaaaa.wF l)).getD (a + (1 : Int)).toNat Inhabited.default).s.data.toList == []) = Bool.false) →
                                (True ∧
                                 R (SV.tup [SV.dt (Dt.cell (Go.Value.int Go.IntKind.i64 ((2 : Int) + Go.Proofs.Ytfpnadmpmfcaaaa.cntS (Go.Proofs.Ytfpnadmpmfcaaaa.rdF l.length (Go.Proofs.Ytfpnadmpmfcaaaa.wF l)) (a + (1 : Int))))), SV.dt (Dt.cell (Go.Value.int Go.IntKind.i64 (2 : Int))), SV.dt (Dt.cell (Go.Value.bool Bool.true))]) ([]))))))) ∧
                           ((((l.getD a.toNat Inhabited.default).k == (8 : Int)) = Bool.false) →
                            (True ∧
                             R (SV.tup [SV.dt (Dt.cell (Go.Value.int Go.IntKind.i64 ((2 : Int) + Go.Proofs.Ytfpnadmpmfcaaaa.cntS (Go.Proofs.Ytfpnadmpmfcaaaa.rdF l.length (Go.Proofs.Ytfpnadmpmfcaaaa.wF l)) (a + (1 : Int))))), SV.dt (Dt.cell (Go.Value.int Go.IntKind.i64 (2 : Int))), SV.dt (Dt.cell (Go.Value.bool Bool.true))]) ([]))))))) ∧
                       ((((l.getD a.toNat Inhabited.default).k == (6 : Int)) = Bool.false) →
                        (((((l.getD a.toNat Inhabited.default).k == (7 : Int)) = Bool.true) →
                          (((((l.getD a.toNat Inhabited.default).n != (0 : Int)) = Bool.true) →
                            (True ∧
                             R (SV.tup [SV.dt (Dt.cell (Go.Value.int Go.IntKind.i64 (0 : Int))), SV.dt (Dt.cell (Go.Value.int Go.IntKind.i64 (0 : Int))), SV.dt (Dt.cell (Go.Value.bool Bool.false))]) ([]))) ∧
                           ((((l.getD a.toNat Inhabited.default).n != (0 : Int)) = Bool.false) →
                            (((((l.getD a.toNat Inhabited.default).k == (8 : Int)) = Bool.true) →
                              (((Rx.lo Go.IntKind.i64 ≤ a + (1 : Int)) ∧
                                (a + (1 : Int) ≤ Rx.hi Go.IntKind.i64)) ∧
                               ((((0 : Int) ≤ a + (1 : Int)) ∧
                                 (a + (1 : Int) < (↑(Go.Proofs.Ytfpnadmpmfcaaaa.rdF l.length (Go.Proofs.Ytfpnadmpmfcaaaa.wF l)).length : Int))) ∧
                                ((((!((Go.Proofs.Ytfpnadmpmfcaaaa.rdF l.length (Go.Proofs.Ytfpnadmpmfcaaaa.wF l)).getD (a + (1 : Int)).toNat Inhabited.default).s.data.toList == []) = Bool.true) →
                                  (True ∧
                                   R (SV.tup [SV.dt (Dt.cell (Go.Value.int Go.IntKind.i64 (0 : Int))), SV.dt (Dt.cell (Go.Value.int Go.IntKind.i64 (0 : Int))), SV.dt (Dt.cell (Go.Value.bool Bool.false))]) ([]))) ∧
                                 (((!((Go.Proofs.Ytfpnadmpmfcaaaa.rdF l.length (Go.Proofs.Ytfpnadmpmfcaaaa.wF l)).getD (a + (1 : Int)).toNat Inhabited.default).s.data.toList == []) = Bool.false) →
                                  (True ∧
                                   R (SV.tup [SV.dt (Dt.cell (Go.Value.int Go.IntKind.i64 ((2 : Int) + Go.Proofs.Ytfpnadmpmfcaaaa.cntS (Go.Proofs.Ytfpnadmpmfcaaaa.rdF l.length (Go.Proofs.Ytfpnadmpmfcaaaa.wF l)) (a + (1 : Int))))), SV.dt (Dt.cell (Go.Value.int Go.IntKind.i64 (2 : Int))), SV.dt (Dt.cell (Go.Value.bool Bool.true))]) ([]))))))) ∧
                             ((((l.getD a.toNat Inhabited.default).k == (8 : Int)) = Bool.false) →
                              (True ∧
                               R (SV.tup [SV.dt (Dt.cell (Go.Value.int Go.IntKind.i64 ((2 : Int) + Go.Proofs.Ytfpnadmpmfcaaaa.cntS (Go.Proofs.Ytfpnadmpmfcaaaa.rdF l.length (Go.Proofs.Ytfpnadmpmfcaaaa.wF l)) (a + (1 : Int))))), SV.dt (Dt.cell (Go.Value.int Go.IntKind.i64 (2 : Int))), SV.dt (Dt.cell (Go.Value.bool Bool.true))]) ([]))))))) ∧
                         ((((l.getD a.toNat Inhabited.default).k == (7 : Int)) = Bool.false) →
                          (((((l.getD a.toNat Inhabited.default).k == (8 : Int)) = Bool.true) →
                            (((Rx.lo Go.IntKind.i64 ≤ a + (1 : Int)) ∧
                              (a + (1 : Int) ≤ Rx.hi Go.IntKind.i64)) ∧
                             ((((0 : Int) ≤ a + (1 : Int)) ∧
                               (a + (1 : Int) < (↑(Go.Proofs.Ytfpnadmpmfcaaaa.rdF l.length (Go.Proofs.Ytfpnadmpmfcaaaa.wF l)).length : Int))) ∧
                              ((((!((Go.Proofs.Ytfpnadmpmfcaaaa.rdF l.length (Go.Proofs.Ytfpnadmpmfcaaaa.wF l)).getD (a + (1 : Int)).toNat Inhabited.default).s.data.toList == []) = Bool.true) →
                                (True ∧
                                 R (SV.tup [SV.dt (Dt.cell (Go.Value.int Go.IntKind.i64 (0 : Int))), SV.dt (Dt.cell (Go.Value.int Go.IntKind.i64 (0 : Int))), SV.dt (Dt.cell (Go.Value.bool Bool.false))]) ([]))) ∧
                               (((!((Go.Proofs.Ytfpnadmpmfcaaaa.rdF l.length (Go.Proofs.Ytfpnadmpmfcaaaa.wF l)).getD (a + (1 : Int)).toNat Inhabited.default).s.data.toList == []) = Bool.false) →
                                (True ∧
                                 R (SV.tup [SV.dt (Dt.cell (Go.Value.int Go.IntKind.i64 ((2 : Int) + Go.Proofs.Ytfpnadmpmfcaaaa.cntS (Go.Proofs.Ytfpnadmpmfcaaaa.rdF l.length (Go.Proofs.Ytfpnadmpmfcaaaa.wF l)) (a + (1 : Int))))), SV.dt (Dt.cell (Go.Value.int Go.IntKind.i64 (2 : Int))), SV.dt (Dt.cell (Go.Value.bool Bool.true))]) ([]))))))) ∧
                           ((((l.getD a.toNat Inhabited.default).k == (8 : Int)) = Bool.false) →
                            (True ∧
                             R (SV.tup [SV.dt (Dt.cell (Go.Value.int Go.IntKind.i64 ((2 : Int) + Go.Proofs.Ytfpnadmpmfcaaaa.cntS (Go.Proofs.Ytfpnadmpmfcaaaa.rdF l.length (Go.Proofs.Ytfpnadmpmfcaaaa.wF l)) (a + (1 : Int))))), SV.dt (Dt.cell (Go.Value.int Go.IntKind.i64 (2 : Int))), SV.dt (Dt.cell (Go.Value.bool Bool.true))]) ([]))))))))))))))))))))))))) ∧
     ((((l.getD a.toNat Inhabited.default).k == (8 : Int)) = Bool.false) →
      (((((l.getD a.toNat Inhabited.default).k == (9 : Int)) = Bool.true) →
        (((Rx.lo Go.IntKind.i64 ≤ a + (2 : Int)) ∧
          (a + (2 : Int) ≤ Rx.hi Go.IntKind.i64)) ∧
         ((Rx.leL ([SV.dt (Dt.cell (Go.Value.int Go.IntKind.i64 (a + (2 : Int)))), SV.ptr 0 0]) ([SV.dt (Dt.cell (Go.Value.int Go.IntKind.i64 (a + (2 : Int)))), SV.ptr 0 0])) ∧
          ((Rx.leObL ([Ob.cells 23 [SV.dt (Dt.arr ((3 : Nat)) (l.length) (Go.Proofs.Ytfpnadmpmfcaaaa.wF l))]]) ([Ob.cells 23 [SV.dt (Dt.arr ((3 : Nat)) ((Go.Proofs.Ytfpnadmpmfcaaaa.rdF l.length (Go.Proofs.Ytfpnadmpmfcaaaa.wF l)).length) (Go.Proofs.Ytfpnadmpmfcaaaa.wF (Go.Proofs.Ytfpnadmpmfcaaaa.rdF l.length (Go.Proofs.Ytfpnadmpmfcaaaa.wF l))))]])) ∧
           ((((0 : Int) ≤ a + (2 : Int)) ∧
             (Go.Proofs.Ytfpnadmpmfcaaaa.isInt (a + (2 : Int)))) ∧
            (((Rx.lo Go.IntKind.i64 ≤ (3 : Int) + Go.Proofs.Ytfpnadmpmfcaaaa.cntS (Go.Proofs.Ytfpnadmpmfcaaaa.rdF l.length (Go.Proofs.Ytfpnadmpmfcaaaa.wF l)) (a + (2 : Int))) ∧
              ((3 : Int) + Go.Proofs.Ytfpnadmpmfcaaaa.cntS (Go.Proofs.Ytfpnadmpmfcaaaa.rdF l.length (Go.Proofs.Ytfpnadmpmfcaaaa.wF l)) (a + (2 : Int)) ≤ Rx.hi Go.IntKind.i64)) ∧
             (((Decidable.decide (Go.Proofs.Ytfpnadmpmfcaaaa.cntS (Go.Proofs.Ytfpnadmpmfcaaaa.rdF l.length (Go.Proofs.Ytfpnadmpmfcaaaa.wF l)) (a + (2 : Int)) < (0 : Int)) = Bool.true) →
               (True ∧
                R (SV.tup [SV.dt (Dt.cell (Go.Value.int Go.IntKind.i64 (0 : Int))), SV.dt (Dt.cell (Go.Value.int Go.IntKind.i64 (0 : Int))), SV.dt (Dt.cell (Go.Value.bool Bool.false))]) ([]))) ∧
              ((Decidable.decide (Go.Proofs.Ytfpnadmpmfcaaaa.cntS (Go.Proofs.Ytfpnadmpmfcaaaa.rdF l.length (Go.Proofs.Ytfpnadmpmfcaaaa.wF l)) (a + (2 : Int)) < (0 : Int)) = Bool.false) →
               (((Decidable.decide ((l.getD a.toNat Inhabited.default).n < (0 : Int)) = Bool.true) →
                 (True ∧
                  R (SV.tup [SV.dt (Dt.cell (Go.Value.int Go.IntKind.i64 (0 : Int))), SV.dt (Dt.cell (Go.Value.int Go.IntKind.i64 (0 : Int))), SV.dt (Dt.cell (Go.Value.bool Bool.false))]) ([]))) ∧
                ((Decidable.decide ((l.getD a.toNat Inhabited.default).n < (0 : Int)) = Bool.false) →
                 (((Decidable.decide ((l.getD a.toNat Inhabited.default).n ≥ (8 : Int)) = Bool.true) →
                   (True ∧
                    R (SV.tup [SV.dt (Dt.cell (Go.Value.int Go.IntKind.i64 (0 : Int))), SV.dt (Dt.cell (Go.Value.int Go.IntKind.i64 (0 : Int))), SV.dt (Dt.cell (Go.Value.bool Bool.false))]) ([]))) ∧
                  ((Decidable.decide ((l.getD a.toNat Inhabited.default).n ≥ (8 : Int)) = Bool.false) →
                   (((Decidable.decide (Go.Proofs.Ytfpnadmpmfcaaaa.cntS (Go.Proofs.Ytfpnadmpmfcaaaa.rdF l.length (Go.Proofs.Ytfpnadmpmfcaaaa.wF l)) (a + (2 : Int)) > (6 : Int)) = Bool.true) →
                     (True ∧
                      R (SV.tup [SV.dt (Dt.cell (Go.Value.int Go.IntKind.i64 (0 : Int))), SV.dt (Dt.cell (Go.Value.int Go.IntKind.i64 (0 : Int))), SV.dt (Dt.cell (Go.Value.bool Bool.false))]) ([]))) ∧
                    ((Decidable.decide (Go.Proofs.Ytfpnadmpmfcaaaa.cntS (Go.Proofs.Ytfpnadmpmfcaaaa.rdF l.length (Go.Proofs.Ytfpnadmpmfcaaaa.wF l)) (a + (2 : Int)) > (6 : Int)) = Bool.false) →
                     (((Rx.lo Go.IntKind.i64 ≤ a + (1 : Int)) ∧
                       (a + (1 : Int) ≤ Rx.hi Go.IntKind.i64)) ∧
                      (((Decidable.decide (a + (1 : Int) ≥ (↑(Go.Proofs.Ytfpnadmpmfcaaaa.rdF l.length (Go.Proofs.Ytfpnadmpmfcaaaa.wF l)).length : Int)) = Bool.true) →
                        (True ∧
                         R (SV.tup [SV.dt (Dt.cell (Go.Value.int Go.IntKind.i64 (0 : Int))), SV.dt (Dt.cell (Go.Value.int Go.IntKind.i64 (0 : Int))), SV.dt (Dt.cell (Go.Value.bool Bool.false))]) ([]))) ∧
                       ((Decidable.decide (a + (1 : Int) ≥ (↑(Go.Proofs.Ytfpnadmpmfcaaaa.rdF l.length (Go.Proofs.Ytfpnadmpmfcaaaa.wF l)).length : Int)) = Bool.false) →
                        (((Rx.lo Go.IntKind.i64 ≤ a + (1 : Int)) ∧
                          (a + (1 : Int) ≤ Rx.hi Go.IntKind.i64)) ∧
                         ((((0 : Int) ≤ a + (1 : Int)) ∧
                           (a + (1 : Int) < (↑(Go.Proofs.Ytfpnadmpmfcaaaa.rdF l.length (Go.Proofs.Ytfpnadmpmfcaaaa.wF l)).length : Int))) ∧
                          ((((((Go.Proofs.Ytfpnadmpmfcaaaa.rdF l.length (Go.Proofs.Ytfpnadmpmfcaaaa.wF l)).getD (a + (1 : Int)).toNat Inhabited.default).k != (1 : Int)) = Bool.true) →
                            (True ∧
                             R (SV.tup [SV.dt (Dt.cell (Go.Value.int Go.IntKind.i64 (0 : Int))), SV.dt (Dt.cell (Go.Value.int Go.IntKind.i64 (0 : Int))), SV.dt (Dt.cell (Go.Value.bool Bool.false))]) ([]))) ∧
                           (((((Go.Proofs.Ytfpnadmpmfcaaaa.rdF l.length (Go.Proofs.Ytfpnadmpmfcaaaa.wF l)).getD (a + (1 : Int)).toNat Inhabited.default).k != (1 : Int)) = Bool.false) →
                            (((Rx.lo Go.IntKind.i64 ≤ a + (1 : Int)) ∧
                              (a + (1 : Int) ≤ Rx.hi Go.IntKind.i64)) ∧
                             ((((0 : Int) ≤ a + (1 : Int)) ∧
                               (a + (1 : Int) < (↑(Go.Proofs.Ytfpnadmpmfcaaaa.rdF l.length (Go.Proofs.Ytfpnadmpmfcaaaa.wF l)).length : Int))) ∧
                              (((Decidable.decide (((Go.Proofs.Ytfpnadmpmfcaaaa.rdF l.length (Go.Proofs.Ytfpnadmpmfcaaaa.wF l)).getD (a + (1 : Int)).toNat Inhabited.default).n < (0 : Int)) = Bool.true) →
                                (True ∧
                                 R (SV.tup [SV.dt (Dt.cell (Go.Value.int Go.IntKind.i64 (0 : Int))), SV.dt (Dt.cell (Go.Value.int Go.IntKind.i64 (0 : Int))), SV.dt (Dt.cell (Go.Value.bool Bool.false))]) ([]))) ∧
                               ((Decidable.decide (((Go.Proofs.Ytfpnadmpmfcaaaa.rdF l.length (Go.Proofs.Ytfpnadmpmfcaaaa.wF l)).getD (a + (1 : Int)).toNat Inhabited.default).n < (0 : Int)) = Bool.false) →
                                (((Rx.lo Go.IntKind.i64 ≤ a + (1 : Int)) ∧
                                  (a + (1 : Int) ≤ Rx.hi Go.IntKind.i64)) ∧
                                 ((((0 : Int) ≤ a + (1 : Int)) ∧
                                   (a + (1 : Int) < (↑(Go.Proofs.Ytfpnadmpmfcaaaa.rdF l.length (Go.Proofs.Ytfpnadmpmfcaaaa.wF l)).length : Int))) ∧
                                  (((Decidable.decide (((Go.Proofs.Ytfpnadmpmfcaaaa.rdF l.length (Go.Proofs.Ytfpnadmpmfcaaaa.wF l)).getD (a + (1 : Int)).toNat Inhabited.default).n ≥ (20 : Int)) = Bool.true) →
                                    (True ∧
                                     R (SV.tup [SV.dt (Dt.cell (Go.Value.int Go.IntKind.i64 (0 : Int))), SV.dt (Dt.cell (Go.Value.int Go.IntKind.i64 (0 : Int))), SV.dt (Dt.cell (Go.Value.bool Bool.false))]) ([]))) ∧
                                   ((Decidable.decide (((Go.Proofs.Ytfpnadmpmfcaaaa.rdF l.length (Go.Proofs.Ytfpnadmpmfcaaaa.wF l)).getD (a + (1 : Int)).toNat Inhabited.default).n ≥ (20 : Int)) = Bool.false) →
                                    (((Rx.lo Go.IntKind.i64 ≤ a + (1 : Int)) ∧
                                      (a + (1 : Int) ≤ Rx.hi Go.IntKind.i64)) ∧
                                     ((((0 : Int) ≤ a + (1 : Int)) ∧
                                       (a + (1 : Int) < (↑(Go.Proofs.Ytfpnadmpmfcaaaa.rdF l.length (Go.Proofs.Ytfpnadmpmfcaaaa.wF l)).length : Int))) ∧
                                      ((((!((Go.Proofs.Ytfpnadmpmfcaaaa.rdF l.length (Go.Proofs.Ytfpnadmpmfcaaaa.wF l)).getD (a + (1 : Int)).toNat Inhabited.default).s.data.toList == []) = Bool.true) →
                                        (True ∧
                                         R (SV.tup [SV.dt (Dt.cell (Go.Value.int Go.IntKind.i64 (0 : Int))), SV.dt (Dt.cell (Go.Value.int Go.IntKind.i64 (0 : Int))), SV.dt (Dt.cell (Go.Value.bool Bool.false))]) ([]))) ∧
                                       (((!((Go.Proofs.Ytfpnadmpmfcaaaa.rdF l.length (Go.Proofs.Ytfpnadmpmfcaaaa.wF l)).getD (a + (1 : Int)).toNat Inhabited.default).s.data.toList == []) = Bool.false) →
                                        (((Rx.lo Go.IntKind.i64 ≤ a + (2 : Int)) ∧
                                          (a + (2 : Int) ≤ Rx.hi Go.IntKind.i64)) ∧
                                         ((((0 : Int) ≤ a + (2 : Int)) ∧
                                           (a + (2 : Int) < (↑(Go.Proofs.Ytfpnadmpmfcaaaa.rdF l.length (Go.Proofs.Ytfpnadmpmfcaaaa.wF l)).length : Int))) ∧
                                          ((((!((Go.Proofs.Ytfpnadmpmfcaaaa.rdF l.length (Go.Proofs.Ytfpnadmpmfcaaaa.wF l)).getD (a + (2 : Int)).toNat Inhabited.default).s.data.toList == []) = Bool.true) →
                                            (True ∧
                                             R (SV.tup [SV.dt (Dt.cell (Go.Value.int Go.IntKind.i64 (0 : Int))), SV.dt (Dt.cell (Go.Value.int Go.IntKind.i64 (0 : Int))), SV.dt (Dt.cell (Go.Value.bool Bool.false))]) ([]))) ∧
                                           (((!((Go.Proofs.Ytfpnadmpmfcaaaa.rdF l.length (Go.Proofs.Ytfpnadmpmfcaaaa.wF l)).getD (a + (2 : Int)).toNat Inhabited.default).s.data.toList == []) = Bool.false) →
                                            (((Rx.lo Go.IntKind.i64 ≤ a + ((3 : Int) + Go.Proofs.Ytfpnadmpmfcaaaa.cntS (Go.Proofs.Ytfpnadmpmfcaaaa.rdF l.length (Go.Proofs.Ytfpnadmpmfcaaaa.wF l)) (a + (2 : Int)))) ∧
                                              (a + ((3 : Int) + Go.Proofs.Ytfpnadmpmfcaaaa.cntS (Go.Proofs.Ytfpnadmpmfcaaaa.rdF l.length (Go.Proofs.Ytfpnadmpmfcaaaa.wF l)) (a + (2 : Int))) ≤ Rx.hi Go.IntKind.i64)) ∧
                                             (((Decidable.decide (a + ((3 : Int) + Go.Proofs.Ytfpnadmpmfcaaaa.cntS (Go.Proofs.Ytfpnadmpmfcaaaa.rdF l.length (Go.Proofs.Ytfpnadmpmfcaaaa.wF l)) (a + (2 : Int))) > (↑(Go.Proofs.Ytfpnadmpmfcaaaa.rdF l.length (Go.Proofs.Ytfpnadmpmfcaaaa.wF l)).length : Int)) = Bool.true) →
                                               (True ∧
                                                R (SV.tup [SV.dt (Dt.cell (Go.Value.int Go.IntKind.i64 (0 : Int))), SV.dt (Dt.cell (Go.Value.int Go.IntKind.i64 (0 : Int))), SV.dt (Dt.cell (Go.Value.bool Bool.false))]) ([]))) ∧
                                              ((Decidable.decide (a + ((3 : Int) + Go.Proofs.Ytfpnadmpmfcaaaa.cntS (Go.Proofs.Ytfpnadmpmfcaaaa.rdF l.length (Go.Proofs.Ytfpnadmpmfcaaaa.wF l)) (a + (2 : Int))) > (↑(Go.Proofs.Ytfpnadmpmfcaaaa.rdF l.length (Go.Proofs.Ytfpnadmpmfcaaaa.wF l)).length : Int)) = Bool.false) →
                                               ((((!(l.getD a.toNat Inhabited.default).s.data.toList == []) = Bool.true) →
                                                 (True ∧
                                                  R (SV.tup [SV.dt (Dt.cell (Go.Value.int Go.IntKind.i64 (0 : Int))), SV.dt (Dt.cell (Go.Value.int Go.IntKind.i64 (0 : Int))), SV.dt (Dt.cell (Go.Value.bool Bool.false))]) ([]))) ∧
                                                (((!(l.getD a.toNat Inhabited.default).s.data.toList == []) = Bool.false) →
                                                 (((((l.getD a.toNat Inhabited.default).k == (6 : Int)) = Bool.true) →
                                                   (((((l.getD a.toNat Inhabited.default).n != (0 : Int)) = Bool.true) →
                                                     (True ∧
                                                      R (SV.tup [SV.dt (Dt.cell (Go.Value.int Go.IntKind.i64 (0 : Int))), SV.dt (Dt.cell (Go.Value.int Go.IntKind.i64 (0 : Int))), SV.dt (Dt.cell (Go.Value.bool Bool.false))]) ([]))) ∧
                                                    ((((l.getD a.toNat Inhabited.default).n != (0 : Int)) = Bool.false) →
                                                     (((((l.getD a.toNat Inhabited.default).k == (8 : Int)) = Bool.true) →
                                                       (((Rx.lo Go.IntKind.i64 ≤ a + (1 : Int)) ∧
                                                         (a + (1 : Int) ≤ Rx.hi Go.IntKind.i64)) ∧
                                                        ((((0 : Int) ≤ a + (1 : Int)) ∧
                                                          (a + (1 : Int) < (↑(Go.Proofs.Ytfpnadmpmfcaaaa.rdF l.length (Go.Proofs.Ytfpnadmpmfcaaaa.wF l)).length : Int))) ∧
                                                         ((((!((Go.Proofs.Ytfpnadmpmfcaaaa.rdF l.length (Go.Proofs.Ytfpnadmpmfcaaaa.wF l)).getD (a + (1 : Int)).toNat Inhabited.default).s.data.toList == []) = Bool.true) →
                                                           (True ∧
                                                            R (SV.tup [SV.dt (Dt.cell (Go.Value.int Go.IntKind.i64 (0 : Int))), SV.dt (Dt.cell (Go.Value.int Go.IntKind.i64 (0 : Int))), SV.dt (Dt.cell (Go.Value.bool Bool.false))]) ([]))) ∧
                                                          (((!((Go.Proofs.Ytfpnadmpmfcaaaa.rdF l.length (Go.Proofs.Ytfpnadmpmfcaaaa.wF l)).getD (a + (1 : Int)).toNat Inhabited.default).s.data.toList == []) = Bool.false) →
                                                           (True ∧
                                                            R (SV.tup [SV.dt (Dt.cell (Go.Value.int Go.IntKind.i64 ((3 : Int) + Go.Proofs.Ytfpnadmpmfcaaaa.cntS (Go.Proofs.Ytfpnadmpmfcaaaa.rdF l.length (Go.Proofs.Ytfpnadmpmfcaaaa.wF l)) (a + (2 : Int))))), SV.dt (Dt.cell (Go.Value.int Go.IntKind.i64 (3 : Int))), SV.dt (Dt.cell (Go.Value.bool Bool.true))]) ([]))))))) ∧
                                                      ((((l.getD a.toNat Inhabited.default).k == (8 : Int)) = Bool.false) →
                                                       (True ∧
                                                        R (SV.tup [SV.dt (Dt.cell (Go.Value.int Go.IntKind.i64 ((3 : Int) + Go.Proofs.Ytfpnadmpmfcaaaa.cntS (Go.Proofs.Ytfpnadmpmfcaaaa.rdF l.length (Go.Proofs.Ytfpnadmpmfcaaaa.wF l)) (a + (2 : Int))))), SV.dt (Dt.cell (Go.Value.int Go.IntKind.i64 (3 : Int))), SV.dt (Dt.cell (Go.Value.bool Bool.true))]) ([]))))))) ∧
                                                  ((((l.getD a.toNat Inhabited.default).k == (6 : Int)) = Bool.false) →
                                                   (((((l.getD a.toNat Inhabited.default).k == (7 : Int)) = Bool.true) →
                                                     (((((l.getD a.toNat Inhabited.default).n != (0 : Int)) = Bool.true) →
                                                       (True ∧
                                                        R (SV.tup [SV.dt (Dt.cell (Go.Value.int Go.IntKind.i64 (0 : Int))), SV.dt (Dt.cell (Go.Value.int Go.IntKind.i64 (0 : Int))), SV.dt (Dt.cell (Go.Value.bool Bool.false))]) ([]))) ∧
                                                      ((((l.getD a.toNat Inhabited.default).n != (0 : Int)) = Bool.false) →
                                                       (((((l.getD a.toNat Inhabited.default).k == (8 : Int)) = Bool.true) →
                                                         (((Rx.lo Go.IntKind.i64 ≤ a + (1 : Int)) ∧
                                                           (a + (1 : Int) ≤ Rx.hi Go.IntKind.i64)) ∧
                                                          ((((0 : Int) ≤ a + (1 : Int)) ∧
                                                            (a + (1 : Int) < (↑(Go.Proofs.Ytfpnadmpmfcaaaa.rdF l.length (Go.Proofs.Ytfpnadmpmfcaaaa.wF l)).length : Int))) ∧
                                                           ((((!((Go.Proofs.Ytfpnadmpmfcaaaa.rdF l.length (Go.Proofs.Ytfpnadmpmfcaaaa.wF l)).getD (a + (1 : Int)).toNat Inhabited.default).s.data.toList == []) = Bool.true) →
                                                             (True ∧
                                                              R (SV.tup [SV.dt (Dt.cell (Go.Value.int Go.IntKind.i64 (0 : Int))), SV.dt (Dt.cell (Go.Value.int Go.IntKind.i64 (0 : Int))), SV.dt (Dt.cell (Go.Value.bool Bool.false))]) ([]))) ∧
                                                            (((!((Go.Proofs.Ytfpnadmpmfcaaaa.rdF l.length (Go.Proofs.Ytfpnadmpmfcaaaa.wF l)).getD (a + (1 : Int)).toNat Inhabited.default).s.data.toList == []) = Bool.false) →
                                                             (True ∧
                                                              R (SV.tup [SV.dt (Dt.cell (Go.Value.int Go.IntKind.i64 ((3 : Int) + Go.Proofs.Ytfpnadmpmfcaaaa.cntS (Go.Proofs.Ytfpnadmpmfcaaaa.rdF l.length (Go.Proofs.Ytfpnadmpmfcaaaa.wF l)) (a + (2 : Int))))), SV.dt (Dt.cell (Go.Value.int Go.IntKind.i64 (3 : Int))), SV.dt (Dt.cell (Go.Value.bool Bool.true))]) ([]))))))) ∧
                                                        ((((l.getD a.toNat Inhabited.default).k == (8 : Int)) = Bool.false) →
                                                         (True ∧
                                                          R (SV.tup [SV.dt (Dt.cell (Go.Value.int Go.IntKind.i64 ((3 : Int) + Go.Proofs.Ytfpnadmpmfcaaaa.cntS (Go.Proofs.Ytfpnadmpmfcaaaa.rdF l.length (Go.Proofs.Ytfpnadmpmfcaaaa.wF l)) (a + (2 : Int))))), SV.dt (Dt.cell (Go.Value.int Go.IntKind.i64 (3 : Int))), SV.dt (Dt.cell (Go.Value.bool Bool.true))]) ([]))))))) ∧
                                                    ((((l.getD a.toNat Inhabited.default).k == (7 : Int)) = Bool.false) →
                                                     (((((l.getD a.toNat Inhabited.default).k == (8 : Int)) = Bool.true) →
                                                       (((Rx.lo Go.IntKind.i64 ≤ a + (1 : Int)) ∧
                                                         (a + (1 : Int) ≤ Rx.hi Go.IntKind.i64)) ∧
                                                        ((((0 : Int) ≤ a + (1 : Int)) ∧
                                                          (a + (1 : Int) < (↑(Go.Proofs.Ytfpnadmpmfcaaaa.rdF l.length (Go.Proofs.Ytfpnadmpmfcaaaa.wF l)).length : Int))) ∧
                                                         ((((!((Go.Proofs.Ytfpnadmpmfcaaaa.rdF l.length (Go.Proofs.Ytfpnadmpmfcaaaa.wF l)).getD (a + (1 : Int)).toNat Inhabited.default).s.data.toList == []) = Bool.true) →
                                                           (True ∧
                                                            R (SV.tup [SV.dt (Dt.cell (Go.Value.int Go.IntKind.i64 (0 : Int))), SV.dt (Dt.cell (Go.Value.int Go.IntKind.i64 (0 : Int))), SV.dt (Dt.cell (Go.Value.bool Bool.false))]) ([]))) ∧
                                                          (((!((Go.Proofs.Ytfpnadmpmfcaaaa.rdF l.length (Go.Proofs.Ytfpnadmpmfcaaaa.wF l)).getD (a + (1 : Int)).toNat Inhabited.default).s.data.toList == []) = Bool.false) →
                                                           (True ∧
                                                            R (SV.tup [SV.dt (Dt.cell (Go.Value.int Go.IntKind.i64 ((3 : Int) + Go.Proofs.Ytfpnadmpmfcaaaa.cntS (Go.Proofs.Ytfpnadmpmfcaaaa.rdF l.length (Go.Proofs.Ytfpnadmpmfcaaaa.wF l)) (a + (2 : Int))))), SV.dt (Dt.cell (Go.Value.int Go.IntKind.i64 (3 : Int))), SV.dt (Dt.cell (Go.Value.bool Bool.true))]) ([]))))))) ∧
                                                      ((((l.getD a.toNat Inhabited.default).k == (8 : Int)) = Bool.false) →
                                                       (True ∧
                                                        R (SV.tup [SV.dt (Dt.cell (Go.Value.int Go.IntKind.i64 ((3 : Int) + Go.Proofs.Ytfpnadmpmfcaaaa.cntS (Go.Proofs.Ytfpnadmpmfcaaaa.rdF l.length (Go.Proofs.Ytfpnadmpmfcaaaa.wF l)) (a + (2 : Int))))), SV.dt (Dt.cell (Go.Value.int Go.IntKind.i64 (3 : Int))), SV.dt (Dt.cell (Go.Value.bool Bool.true))]) ([])))))))))))))))))))))))))))))))))))))))))))))))))) ∧
       ((((l.getD a.toNat Inhabited.default).k == (9 : Int)) = Bool.false) →
        (True ∧
         R (SV.tup [SV.dt (Dt.cell (Go.Value.int Go.IntKind.i64 (0 : Int))), SV.dt (Dt.cell (Go.Value.int Go.IntKind.i64 (0 : Int))), SV.dt (Dt.cell (Go.Value.bool Bool.false))]) ([])))))))))))
theorem value_ctr (w : Wd) (m : Int) : Ctr Try.prog 27 [wS w, vI .i64 m] [] (valueO w m) := by
  refine ctr0 (N := 80) (fn := Try.f27) (c := bodyOf Try.f27) (by kernel_rfl) (by kernel_rfl) (by kernel_rfl) (by kernel_rfl) fin0 (by kernel_rfl) (Q := valueQ w.k w.n m w.s) (fun post hp => ?_) (fun R => by kernel_rfl)
  have hp : post (vB (valueS w m), []) := hp
  have leafT : valueP w m → Gives post (.dt (.cell (.bool true))) [] := fun h => gives1 hp (by rw [leS_cell]; simp [valueS, h])
  have leafF : ¬ valueP w m → Gives post (.dt (.cell (.bool false))) [] := fun h => gives1 hp (by rw [leS_cell]; simp [valueS, h])
  have leafD : ∀ (q : Prop) [Decidable q], (q ↔ valueP w m) → Gives post (.dt (.cell (.bool (decide q)))) [] := fun q _ h => gives1 hp (by rw [leS_cell]; simp [valueS, h])
  unfold valueQ
  simp only [str_eq_nil, str_eq_nil', true_and, beq_iff_eq, beq_eq_false_iff_ne, decide_eq_true_eq, decide_eq_false_iff_not]
  unfold valueP at leafT leafF leafD
  repeat' (first | (refine And.intro ?_ ?_) | intro _)
  all_goals first
    | exact leafF (by omega)
    | exact leafT (by omega)
    | exact leafD _ ⟨fun h => by omega, fun h => by omega⟩

theorem cnt_ctr (l : List Wd) (i : Int) : Ctr Try.prog 31 [vI .i64 i, .ptr 0 0] [.cells 23 [wD l]] (cntO l i) := by
  refine ctr0 (N := 37) (fn := Try.f31) (c := bodyOf Try.f31) (by kernel_rfl) (by kernel_rfl) (by kernel_rfl) (by kernel_rfl) fin0 (by kernel_rfl) (Q := cntQ l i) (fun post hp => ?_) (fun R => by kernel_rfl)
  obtain ⟨⟨h0, h1⟩, hp⟩ := hp
  have leaf : ∀ n, n = cntS l i → Gives post (.dt (.cell (.int .i64 n))) [some (.cells 23 [wD l])] := fun b hb => gives1 hp (by rw [leS_cell, hb])
  have e : ∀ i : Int, l.getD i.toNat default = at' l i := fun _ => rfl
  unfold cntQ
  simp only [e, true_and, decide_eq_true_eq, decide_eq_false_iff_not, bne_iff_ne, bne_eq_false_iff_eq]
  repeat' (first | (refine And.intro ?_ ?_) | intro _)
  all_goals first
    | omega
    | (apply leaf; unfold cntS; rw [if_pos (by omega)])
    | (apply leaf; unfold cntS; rw [if_neg (by omega)])

theorem cntF_ok : cntF.Ok Try.prog := by
  intro al ol args obs out h
  unfold cntF at h
  simp only at h
  split at h
  · split at h
    · simp only [Option.some.injEq, Prod.mk.injEq] at h
      obtain ⟨rfl, rfl, rfl⟩ := h
      exact cnt_ctr _ _
    · cases h
  · cases h

theorem spanK_ok (N nb : Nat) (L : Code → St → Option LI) : (mkE N nb spanK L).Kok := by
  intro rid i s h
  have h : spanK rid i = some s := h
  unfold spanK at h
  split at h
  · injection h with h; subst h; exact FC.summ_ok cntF_ok
  · injection h with h; subst h; exact FC.summ_ok cntF_ok
  · cases h

/-! ## what a list of words says no less than -/
theorem le_wD (l : List Wd) : leS (.dt (.arr 3 l.length (wF l))) (wD (rdF l.length (wF l))) := by
  rw [rdF_wF]; exact leS_refl _
theorem le_wD' (l : List Wd) : leDt (.arr 3 l.length (wF l)) (.arr 3 (rdF l.length (wF l)).length (wF (rdF l.length (wF l)))) := by
  rw [rdF_wF]; exact leDt_refl _

theorem cnt_bounds (l : List Wd) (i : Int) : -1 ≤ cntS l i ∧ cntS l i ≤ 40 ∧ (0 ≤ cntS l i → i < l.length) := by
  unfold cntS
  split <;> omega

theorem span_ctr (l : List Wd) (a : Int) : Ctr Try.prog 24 [wD l, vI .i64 a] [] (spanO l a) := by
  refine ctr_by (E := mkE 160 0 spanK noL) (spanK_ok _ _ _) mixed Try.f24 (bodyOf Try.f24) (by kernel_rfl) (by kernel_rfl) (by kernel_rfl) (fun c hc => by rw [show loopsOf (bodyOf Try.f24) = [] from by kernel_rfl] at hc; cases hc) fin0 rfl (by kernel_rfl) (Q := spanQ l a) (fun post hp => ?_) (fun R => by kernel_rfl)
  obtain ⟨⟨h0, h1, h2⟩, hp⟩ := hp
  have hp : post (.tup [vI .i64 (spSize l a), vI .i64 (spFrom l a), vB (spOk l a)], []) := hp
  have h2 : (l.length : Int) ≤ 4398046511104 := h2
  have leafN : ¬ spP l a → Gives post (.tup [.dt (.cell (.int .i64 0)), .dt (.cell (.int .i64 0)), .dt (.cell (.bool false))]) [] := fun h =>
    gives1 hp (by rw [leS_tup, leL_cons, leL_cons, leL_cons, leL_nil, leS_int, leS_int, leS_bool]; simp [spSize, spFrom, spOk, h])
  have leafS : ∀ x y, spP l a ∧ (((at' l a).k = 6 ∧ x = 3 ∧ y = 1) ∨ ((at' l a).k = 7 ∧ x = 2 ∧ y = 1) ∨ ((at' l a).k = 8 ∧ x = 2 + cntS l (a + 1) ∧ y = 2) ∨ ((at' l a).k = 9 ∧ x = 3 + cntS l (a + 2) ∧ y = 3)) →
      Gives post (.tup [.dt (.cell (.int .i64 x)), .dt (.cell (.int .i64 y)), .dt (.cell (.bool true))]) [] := fun x y h =>
    gives1 hp (by
      rw [leS_tup, leL_cons, leL_cons, leL_cons, leL_nil, leS_int, leS_int, leS_bool]
      obtain ⟨h, h'⟩ := h
      simp only [spSize, spFrom, spOk, h, decide_true, if_true, and_true]
      rcases h' with ⟨h', rfl, rfl⟩ | ⟨h', rfl, rfl⟩ | ⟨h', rfl, rfl⟩ | ⟨h', rfl, rfl⟩ <;> simp [h'])
  have e : ∀ i : Int, l.getD i.toNat default = at' l i := fun _ => rfl
  obtain ⟨b1, b2, b3⟩ := cnt_bounds l (a + 1)
  obtain ⟨b4, b5, b6⟩ := cnt_bounds l (a + 2)
  unfold spanQ
  simp only [rdF_wF, leL_self, leObL_self, str_eq_nil, str_eq_nil', e, true_and, beq_iff_eq, beq_eq_false_iff_ne, bne_iff_ne, bne_eq_false_iff_eq, decide_eq_true_eq, decide_eq_false_iff_not, Bool.not_eq_true', Bool.not_eq_false', ne_eq, lo, hi]
  unfold spP at leafN leafS
  clear hp
  repeat' (first | (refine And.intro ?_ ?_) | intro _)
  all_goals first
    | trivial
    | exact leafN (by omega)
    | exact leafS _ _ (by omega)
    | (show isInt _; unfold isInt; omega)
    | omega
end Go.Proofs.Ytfpnadmpmfcaaaa
