/- Three laws' functions: blanks, quotes, texts that are cut. -/
import Derived.Test.YtnalaogenpicfaaDoorRdQ
set_option linter.unusedSimpArgs false
set_option linter.unusedVariables false
open Rx Go
namespace Rd
--PROG prog

/-! ## blanks -/
def blkKs (g : Nat) (l : Rw) (d : Dm) : List (Nat × Nat × FC) := [(1, 1, ExprF l), (2, 1, dataF g), (3, 2, pickedF), (3, 9, pickedF), (3, 13, dataF g), (4, 0, cF f_readTells false [] [] (tellsO g)), (4, 10, eqF [d])]
def blText (l : Rw) (n : Int) : ByteArray := preS.getD (pickedS n 4).toNat noS ++ exprX l ++ postS.getD (pickedS n 3).toNat noS
def okOne (g : Nat) (s : ByteArray) (d : Dm) : Prop := s.size ≤ 3000 ∧ readS g s = some ⟨[d], 0, 0⟩
def blanksLawO (g : Nat) (l : Rw) (n : Int) (d : Dm) : T Out := .need (isInt n ∧ okR l ∧ okOne g (exprX l) d ∧ okOne g (blText l n) d ∧ readS g aS = some ⟨[.mk 3 0 aS []], 0, 0⟩ ∧ dmN d ≤ 1000000) (.ret (vB true, []))
/-! ## quotes -/
def quKs (g : Nat) (l : Rw) (d : Dm) : List (Nat × Nat × FC) := [(1, 1, ExprF l), (2, 2, dataF g), (3, 3, dataF g), (4, 21, cF f_sameDatum false [dmS d, dmS d] [] eqO)]
def quT1 (l : Rw) : ByteArray := ByteArray.mk #[39] ++ exprX l
def quT2 (l : Rw) : ByteArray := ByteArray.mk #[40, 113, 117, 111, 116, 101, 32] ++ exprX l ++ ByteArray.mk #[41]
def quLawO (g : Nat) (l : Rw) (d : Dm) : T Out := .need (okR l ∧ okOne g (quT1 l) d ∧ okOne g (quT2 l) d ∧ dmN d ≤ 1000000) (.ret (vB true, []))
/-! ## texts that are cut -/
def toKs (g : Nat) (l : Rw) : List (Nat × Nat × FC) := [(1, 1, ExprF l), (2, 4, pickedF), (3, 3, readF g), (4, 2, readF g)]
def toK (l : Rw) (n : Int) : Int := 1 + pickedS n (((parS l).size : Int) - 1)
def toLawO (g : Nat) (l : Rw) (n : Int) (r : RR) : T Out := .need (isInt n ∧ okR l ∧ readS g ((parS l).extract 0 (toK l n).toNat) = some r ∧ (r.e = 5 ∧ r.i = toK l n ∨ r.e = 4 ∧ r.i < toK l n) ∧ readS g (parS l ++ ByteArray.mk #[41]) = some ⟨[], (parS l).size, 4⟩) (.ret (vB true, []))
def blanksLawQ (g : Nat) (l : Rw) (n : Int) (d : Dm) (R : SV → List (Option Ob) → Prop) : Prop :=
((Rx.leL ([SV.dt (Dt.arr ((4 : Nat)) (List.length l) (Rx.rowsF l))]) ([SV.dt (Dt.arr ((4 : Nat)) (List.length l) (Rx.rowsF l))])) ∧
((Rx.leObL ([]) ([])) ∧
 ((Rd.okR l) ∧
  ((Rx.leL ([SV.dt (Dt.cell (Go.Value.string (Rd.exprX l)))]) ([SV.dt (Dt.cell (Go.Value.string (Rd.exprX l)))])) ∧
   ((Rx.leObL ([]) ([])) ∧
    ((((Rd.exprX l).size ≤ (3000 : Nat)) ∧
      ((Rd.readS g (Rd.exprX l)).isSome = Bool.true)) ∧
     ((Rx.leL ([SV.dt (Dt.cell (Go.Value.int Go.IntKind.i64 n)), SV.dt (Dt.cell (Go.Value.int Go.IntKind.i64 (4 : Int)))]) ([SV.dt (Dt.cell (Go.Value.int Go.IntKind.i64 n)), SV.dt (Dt.cell (Go.Value.int Go.IntKind.i64 (4 : Int)))])) ∧
      ((Rx.leObL ([]) ([])) ∧
       (((Rd.isInt n) ∧
         ((4 : Int) ≠ (0 : Int))) ∧
        ((((0 : Int) ≤ Rd.pickedS n (4 : Int)) ∧
          (Rd.pickedS n (4 : Int) < (↑(4 : Nat) : Int))) ∧
         (((↑([ByteArray.mk #[(32 : UInt8)], ByteArray.mk #[(10 : UInt8), (59 : UInt8), (120 : UInt8), (32 : UInt8), (40 : UInt8), (10 : UInt8)], ByteArray.mk #[(9 : UInt8), (32 : UInt8), (59 : UInt8), (59 : UInt8), (10 : UInt8), (32 : UInt8)], ByteArray.mk #[]].getD (Rd.pickedS n (4 : Int)).toNat (ByteArray.mk #[])).size : Int) + (↑(Rd.exprX l).size : Int) ≤ (9223372036854775807 : Int)) ∧
          ((Rx.leL ([SV.dt (Dt.cell (Go.Value.int Go.IntKind.i64 n)), SV.dt (Dt.cell (Go.Value.int Go.IntKind.i64 (3 : Int)))]) ([SV.dt (Dt.cell (Go.Value.int Go.IntKind.i64 n)), SV.dt (Dt.cell (Go.Value.int Go.IntKind.i64 (3 : Int)))])) ∧
           ((Rx.leObL ([]) ([])) ∧
            (((Rd.isInt n) ∧
              ((3 : Int) ≠ (0 : Int))) ∧
             ((((0 : Int) ≤ Rd.pickedS n (3 : Int)) ∧
               (Rd.pickedS n (3 : Int) < (↑(3 : Nat) : Int))) ∧
              (((↑([ByteArray.mk #[(32 : UInt8)], ByteArray.mk #[(10 : UInt8), (59 : UInt8), (120 : UInt8), (32 : UInt8), (40 : UInt8), (10 : UInt8)], ByteArray.mk #[(9 : UInt8), (32 : UInt8), (59 : UInt8), (59 : UInt8), (10 : UInt8), (32 : UInt8)], ByteArray.mk #[]].getD (Rd.pickedS n (4 : Int)).toNat (ByteArray.mk #[]) ++ Rd.exprX l).size : Int) + (↑([ByteArray.mk #[(32 : UInt8)], ByteArray.mk #[(10 : UInt8), (59 : UInt8), (32 : UInt8), (41 : UInt8)], ByteArray.mk #[]].getD (Rd.pickedS n (3 : Int)).toNat (ByteArray.mk #[])).size : Int) ≤ (9223372036854775807 : Int)) ∧
               ((Rx.leL ([SV.dt (Dt.cell (Go.Value.string ([ByteArray.mk #[(32 : UInt8)], ByteArray.mk #[(10 : UInt8), (59 : UInt8), (120 : UInt8), (32 : UInt8), (40 : UInt8), (10 : UInt8)], ByteArray.mk #[(9 : UInt8), (32 : UInt8), (59 : UInt8), (59 : UInt8), (10 : UInt8), (32 : UInt8)], ByteArray.mk #[]].getD (Rd.pickedS n (4 : Int)).toNat (ByteArray.mk #[]) ++ Rd.exprX l ++ [ByteArray.mk #[(32 : UInt8)], ByteArray.mk #[(10 : UInt8), (59 : UInt8), (32 : UInt8), (41 : UInt8)], ByteArray.mk #[]].getD (Rd.pickedS n (3 : Int)).toNat (ByteArray.mk #[]))))]) ([SV.dt (Dt.cell (Go.Value.string ([ByteArray.mk #[(32 : UInt8)], ByteArray.mk #[(10 : UInt8), (59 : UInt8), (120 : UInt8), (32 : UInt8), (40 : UInt8), (10 : UInt8)], ByteArray.mk #[(9 : UInt8), (32 : UInt8), (59 : UInt8), (59 : UInt8), (10 : UInt8), (32 : UInt8)], ByteArray.mk #[]].getD (Rd.pickedS n (4 : Int)).toNat (ByteArray.mk #[]) ++ Rd.exprX l ++ [ByteArray.mk #[(32 : UInt8)], ByteArray.mk #[(10 : UInt8), (59 : UInt8), (32 : UInt8), (41 : UInt8)], ByteArray.mk #[]].getD (Rd.pickedS n (3 : Int)).toNat (ByteArray.mk #[]))))])) ∧
                ((Rx.leObL ([]) ([])) ∧
                 (((([ByteArray.mk #[(32 : UInt8)], ByteArray.mk #[(10 : UInt8), (59 : UInt8), (120 : UInt8), (32 : UInt8), (40 : UInt8), (10 : UInt8)], ByteArray.mk #[(9 : UInt8), (32 : UInt8), (59 : UInt8), (59 : UInt8), (10 : UInt8), (32 : UInt8)], ByteArray.mk #[]].getD (Rd.pickedS n (4 : Int)).toNat (ByteArray.mk #[]) ++ Rd.exprX l ++ [ByteArray.mk #[(32 : UInt8)], ByteArray.mk #[(10 : UInt8), (59 : UInt8), (32 : UInt8), (41 : UInt8)], ByteArray.mk #[]].getD (Rd.pickedS n (3 : Int)).toNat (ByteArray.mk #[])).size ≤ (3000 : Nat)) ∧
                   ((Rd.readS g ([ByteArray.mk #[(32 : UInt8)], ByteArray.mk #[(10 : UInt8), (59 : UInt8), (120 : UInt8), (32 : UInt8), (40 : UInt8), (10 : UInt8)], ByteArray.mk #[(9 : UInt8), (32 : UInt8), (59 : UInt8), (59 : UInt8), (10 : UInt8), (32 : UInt8)], ByteArray.mk #[]].getD (Rd.pickedS n (4 : Int)).toNat (ByteArray.mk #[]) ++ Rd.exprX l ++ [ByteArray.mk #[(32 : UInt8)], ByteArray.mk #[(10 : UInt8), (59 : UInt8), (32 : UInt8), (41 : UInt8)], ByteArray.mk #[]].getD (Rd.pickedS n (3 : Int)).toNat (ByteArray.mk #[]))).isSome = Bool.true)) ∧
                  ((Rx.leL ([]) ([])) ∧
                   ((Rx.leObL ([]) ([])) ∧
                    ((Rd.readS g Rd.aS = Option.some (Rd.RR.mk [Rd.Dm.mk (3 : Int) (0 : Int) Rd.aS []] (0 : Int) (0 : Int))) ∧
                     (((Bool.true = Bool.true) →
                       (((((Rd.readR g (Rd.exprX l)).e == (0 : Int)) = Bool.true) →
                         (((((Rd.readR g ([ByteArray.mk #[(32 : UInt8)], ByteArray.mk #[(10 : UInt8), (59 : UInt8), (120 : UInt8), (32 : UInt8), (40 : UInt8), (10 : UInt8)], ByteArray.mk #[(9 : UInt8), (32 : UInt8), (59 : UInt8), (59 : UInt8), (10 : UInt8), (32 : UInt8)], ByteArray.mk #[]].getD (Rd.pickedS n (4 : Int)).toNat (ByteArray.mk #[]) ++ Rd.exprX l ++ [ByteArray.mk #[(32 : UInt8)], ByteArray.mk #[(10 : UInt8), (59 : UInt8), (32 : UInt8), (41 : UInt8)], ByteArray.mk #[]].getD (Rd.pickedS n (3 : Int)).toNat (ByteArray.mk #[]))).e == (0 : Int)) = Bool.true) →
                           ((Rx.leL ([SV.dt (Dt.arr ((4 : Nat)) ((Rd.readR g (Rd.exprX l)).l.length) (Rd.dmL (Rd.readR g (Rd.exprX l)).l)), SV.dt (Dt.arr ((4 : Nat)) ((Rd.readR g ([ByteArray.mk #[(32 : UInt8)], ByteArray.mk #[(10 : UInt8), (59 : UInt8), (120 : UInt8), (32 : UInt8), (40 : UInt8), (10 : UInt8)], ByteArray.mk #[(9 : UInt8), (32 : UInt8), (59 : UInt8), (59 : UInt8), (10 : UInt8), (32 : UInt8)], ByteArray.mk #[]].getD (Rd.pickedS n (4 : Int)).toNat (ByteArray.mk #[]) ++ Rd.exprX l ++ [ByteArray.mk #[(32 : UInt8)], ByteArray.mk #[(10 : UInt8), (59 : UInt8), (32 : UInt8), (41 : UInt8)], ByteArray.mk #[]].getD (Rd.pickedS n (3 : Int)).toNat (ByteArray.mk #[]))).l.length) (Rd.dmL (Rd.readR g ([ByteArray.mk #[(32 : UInt8)], ByteArray.mk #[(10 : UInt8), (59 : UInt8), (120 : UInt8), (32 : UInt8), (40 : UInt8), (10 : UInt8)], ByteArray.mk #[(9 : UInt8), (32 : UInt8), (59 : UInt8), (59 : UInt8), (10 : UInt8), (32 : UInt8)], ByteArray.mk #[]].getD (Rd.pickedS n (4 : Int)).toNat (ByteArray.mk #[]) ++ Rd.exprX l ++ [ByteArray.mk #[(32 : UInt8)], ByteArray.mk #[(10 : UInt8), (59 : UInt8), (32 : UInt8), (41 : UInt8)], ByteArray.mk #[]].getD (Rd.pickedS n (3 : Int)).toNat (ByteArray.mk #[]))).l)), SV.fn 14 []]) ([SV.dt (Dt.arr ((4 : Nat)) ([d].length) (Rd.dmC [d])), SV.dt (Dt.arr ((4 : Nat)) ([d].length) (Rd.dmC [d])), SV.fn 14 []])) ∧
                            ((Rx.leObL ([]) ([])) ∧
                             (True ∧
                              R (SV.dt (Dt.cell (Go.Value.bool Bool.true))) ([]))))) ∧
                          ((((Rd.readR g ([ByteArray.mk #[(32 : UInt8)], ByteArray.mk #[(10 : UInt8), (59 : UInt8), (120 : UInt8), (32 : UInt8), (40 : UInt8), (10 : UInt8)], ByteArray.mk #[(9 : UInt8), (32 : UInt8), (59 : UInt8), (59 : UInt8), (10 : UInt8), (32 : UInt8)], ByteArray.mk #[]].getD (Rd.pickedS n (4 : Int)).toNat (ByteArray.mk #[]) ++ Rd.exprX l ++ [ByteArray.mk #[(32 : UInt8)], ByteArray.mk #[(10 : UInt8), (59 : UInt8), (32 : UInt8), (41 : UInt8)], ByteArray.mk #[]].getD (Rd.pickedS n (3 : Int)).toNat (ByteArray.mk #[]))).e == (0 : Int)) = Bool.false) →
                           (True ∧
                            R (SV.dt (Dt.cell (Go.Value.bool Bool.false))) ([]))))) ∧
                        ((((Rd.readR g (Rd.exprX l)).e == (0 : Int)) = Bool.false) →
                         (True ∧
                          R (SV.dt (Dt.cell (Go.Value.bool Bool.false))) ([]))))) ∧
                      ((Bool.true = Bool.false) →
                       (True ∧
                        R (SV.dt (Dt.cell (Go.Value.bool Bool.false))) ([]))))))))))))))))))))))))))
def quLawQ (g : Nat) (l : Rw) (d : Dm) (R : SV → List (Option Ob) → Prop) : Prop :=
((Rx.leL ([SV.dt (Dt.arr ((4 : Nat)) (List.length l) (Rx.rowsF l))]) ([SV.dt (Dt.arr ((4 : Nat)) (List.length l) (Rx.rowsF l))])) ∧
((Rx.leObL ([]) ([])) ∧
 ((Rd.okR l) ∧
  (((↑(ByteArray.mk #[(39 : UInt8)]).size : Int) + (↑(Rd.exprX l).size : Int) ≤ (9223372036854775807 : Int)) ∧
   ((Rx.leL ([SV.dt (Dt.cell (Go.Value.string (ByteArray.mk #[(39 : UInt8)] ++ Rd.exprX l)))]) ([SV.dt (Dt.cell (Go.Value.string (ByteArray.mk #[(39 : UInt8)] ++ Rd.exprX l)))])) ∧
    ((Rx.leObL ([]) ([])) ∧
     ((((ByteArray.mk #[(39 : UInt8)] ++ Rd.exprX l).size ≤ (3000 : Nat)) ∧
       ((Rd.readS g (ByteArray.mk #[(39 : UInt8)] ++ Rd.exprX l)).isSome = Bool.true)) ∧
      (((↑(ByteArray.mk #[(40 : UInt8), (113 : UInt8), (117 : UInt8), (111 : UInt8), (116 : UInt8), (101 : UInt8), (32 : UInt8)]).size : Int) + (↑(Rd.exprX l).size : Int) ≤ (9223372036854775807 : Int)) ∧
       (((↑(ByteArray.mk #[(40 : UInt8), (113 : UInt8), (117 : UInt8), (111 : UInt8), (116 : UInt8), (101 : UInt8), (32 : UInt8)] ++ Rd.exprX l).size : Int) + (↑(ByteArray.mk #[(41 : UInt8)]).size : Int) ≤ (9223372036854775807 : Int)) ∧
        ((Rx.leL ([SV.dt (Dt.cell (Go.Value.string (ByteArray.mk #[(40 : UInt8), (113 : UInt8), (117 : UInt8), (111 : UInt8), (116 : UInt8), (101 : UInt8), (32 : UInt8)] ++ Rd.exprX l ++ ByteArray.mk #[(41 : UInt8)])))]) ([SV.dt (Dt.cell (Go.Value.string (ByteArray.mk #[(40 : UInt8), (113 : UInt8), (117 : UInt8), (111 : UInt8), (116 : UInt8), (101 : UInt8), (32 : UInt8)] ++ Rd.exprX l ++ ByteArray.mk #[(41 : UInt8)])))])) ∧
         ((Rx.leObL ([]) ([])) ∧
          ((((ByteArray.mk #[(40 : UInt8), (113 : UInt8), (117 : UInt8), (111 : UInt8), (116 : UInt8), (101 : UInt8), (32 : UInt8)] ++ Rd.exprX l ++ ByteArray.mk #[(41 : UInt8)]).size ≤ (3000 : Nat)) ∧
            ((Rd.readS g (ByteArray.mk #[(40 : UInt8), (113 : UInt8), (117 : UInt8), (111 : UInt8), (116 : UInt8), (101 : UInt8), (32 : UInt8)] ++ Rd.exprX l ++ ByteArray.mk #[(41 : UInt8)])).isSome = Bool.true)) ∧
           (((((Rd.readR g (ByteArray.mk #[(39 : UInt8)] ++ Rd.exprX l)).e == (0 : Int)) = Bool.true) →
             (((((Rd.readR g (ByteArray.mk #[(40 : UInt8), (113 : UInt8), (117 : UInt8), (111 : UInt8), (116 : UInt8), (101 : UInt8), (32 : UInt8)] ++ Rd.exprX l ++ ByteArray.mk #[(41 : UInt8)])).e == (0 : Int)) = Bool.true) →
               (((((↑(Rd.readR g (ByteArray.mk #[(39 : UInt8)] ++ Rd.exprX l)).l.length : Int) == (1 : Int)) = Bool.true) →
                 (((((↑(Rd.readR g (ByteArray.mk #[(40 : UInt8), (113 : UInt8), (117 : UInt8), (111 : UInt8), (116 : UInt8), (101 : UInt8), (32 : UInt8)] ++ Rd.exprX l ++ ByteArray.mk #[(41 : UInt8)])).l.length : Int) == (1 : Int)) = Bool.true) →
                   ((((0 : Int) ≤ (0 : Int)) ∧
                     ((0 : Int) < (↑(Rd.readR g (ByteArray.mk #[(39 : UInt8)] ++ Rd.exprX l)).l.length : Int))) ∧
                    ((((0 : Int) ≤ (0 : Int)) ∧
                      ((0 : Int) < (↑(Rd.readR g (ByteArray.mk #[(40 : UInt8), (113 : UInt8), (117 : UInt8), (111 : UInt8), (116 : UInt8), (101 : UInt8), (32 : UInt8)] ++ Rd.exprX l ++ ByteArray.mk #[(41 : UInt8)])).l.length : Int))) ∧
                     ((Rx.leL ([SV.agg [SV.dt (Rd.dmL (Rd.readR g (ByteArray.mk #[(39 : UInt8)] ++ Rd.exprX l)).l (Int.toNat (0 : Int)) (nat_lit 0)), SV.dt (Rd.dmL (Rd.readR g (ByteArray.mk #[(39 : UInt8)] ++ Rd.exprX l)).l (Int.toNat (0 : Int)) (nat_lit 1)), SV.dt (Rd.dmL (Rd.readR g (ByteArray.mk #[(39 : UInt8)] ++ Rd.exprX l)).l (Int.toNat (0 : Int)) (nat_lit 2)), SV.dt (Rd.dmL (Rd.readR g (ByteArray.mk #[(39 : UInt8)] ++ Rd.exprX l)).l (Int.toNat (0 : Int)) (nat_lit 3))], SV.agg [SV.dt (Rd.dmL (Rd.readR g (ByteArray.mk #[(40 : UInt8), (113 : UInt8), (117 : UInt8), (111 : UInt8), (116 : UInt8), (101 : UInt8), (32 : UInt8)] ++ Rd.exprX l ++ ByteArray.mk #[(41 : UInt8)])).l (Int.toNat (0 : Int)) (nat_lit 0)), SV.dt (Rd.dmL (Rd.readR g (ByteArray.mk #[(40 : UInt8), (113 : UInt8), (117 : UInt8), (111 : UInt8), (116 : UInt8), (101 : UInt8), (32 : UInt8)] ++ Rd.exprX l ++ ByteArray.mk #[(41 : UInt8)])).l (Int.toNat (0 : Int)) (nat_lit 1)), SV.dt (Rd.dmL (Rd.readR g (ByteArray.mk #[(40 : UInt8), (113 : UInt8), (117 : UInt8), (111 : UInt8), (116 : UInt8), (101 : UInt8), (32 : UInt8)] ++ Rd.exprX l ++ ByteArray.mk #[(41 : UInt8)])).l (Int.toNat (0 : Int)) (nat_lit 2)), SV.dt (Rd.dmL (Rd.readR g (ByteArray.mk #[(40 : UInt8), (113 : UInt8), (117 : UInt8), (111 : UInt8), (116 : UInt8), (101 : UInt8), (32 : UInt8)] ++ Rd.exprX l ++ ByteArray.mk #[(41 : UInt8)])).l (Int.toNat (0 : Int)) (nat_lit 3))]]) ([SV.agg [SV.dt (Dt.cell (Go.Value.int Go.IntKind.i64 d.k)), SV.dt (Dt.cell (Go.Value.int Go.IntKind.i64 d.n)), SV.dt (Dt.cell (Go.Value.string d.s)), SV.dt (Dt.arr ((4 : Nat)) (d.l.length) (Rd.dmL d.l))], SV.agg [SV.dt (Dt.cell (Go.Value.int Go.IntKind.i64 d.k)), SV.dt (Dt.cell (Go.Value.int Go.IntKind.i64 d.n)), SV.dt (Dt.cell (Go.Value.string d.s)), SV.dt (Dt.arr ((4 : Nat)) (d.l.length) (Rd.dmL d.l))]])) ∧
                      ((Rx.leObL ([]) ([])) ∧
                       (True ∧
                        R (SV.dt (Dt.cell (Go.Value.bool Bool.true))) ([]))))))) ∧
                  ((((↑(Rd.readR g (ByteArray.mk #[(40 : UInt8), (113 : UInt8), (117 : UInt8), (111 : UInt8), (116 : UInt8), (101 : UInt8), (32 : UInt8)] ++ Rd.exprX l ++ ByteArray.mk #[(41 : UInt8)])).l.length : Int) == (1 : Int)) = Bool.false) →
                   (True ∧
                    R (SV.dt (Dt.cell (Go.Value.bool Bool.false))) ([]))))) ∧
                ((((↑(Rd.readR g (ByteArray.mk #[(39 : UInt8)] ++ Rd.exprX l)).l.length : Int) == (1 : Int)) = Bool.false) →
                 (True ∧
                  R (SV.dt (Dt.cell (Go.Value.bool Bool.false))) ([]))))) ∧
              ((((Rd.readR g (ByteArray.mk #[(40 : UInt8), (113 : UInt8), (117 : UInt8), (111 : UInt8), (116 : UInt8), (101 : UInt8), (32 : UInt8)] ++ Rd.exprX l ++ ByteArray.mk #[(41 : UInt8)])).e == (0 : Int)) = Bool.false) →
               (True ∧
                R (SV.dt (Dt.cell (Go.Value.bool Bool.false))) ([]))))) ∧
            ((((Rd.readR g (ByteArray.mk #[(39 : UInt8)] ++ Rd.exprX l)).e == (0 : Int)) = Bool.false) →
             (True ∧
              R (SV.dt (Dt.cell (Go.Value.bool Bool.false))) ([]))))))))))))))))
def toLawQ (g : Nat) (l : Rw) (n : Int) (R : SV → List (Option Ob) → Prop) : Prop :=
((Rx.leL ([SV.dt (Dt.arr ((4 : Nat)) (List.length l) (Rx.rowsF l))]) ([SV.dt (Dt.arr ((4 : Nat)) (List.length l) (Rx.rowsF l))])) ∧
((Rx.leObL ([]) ([])) ∧
 ((Rd.okR l) ∧
  (((↑(ByteArray.mk #[(40 : UInt8)]).size : Int) + (↑(Rd.exprX l).size : Int) ≤ (9223372036854775807 : Int)) ∧
   (((↑(ByteArray.mk #[(40 : UInt8)] ++ Rd.exprX l).size : Int) + (↑(ByteArray.mk #[(41 : UInt8)]).size : Int) ≤ (9223372036854775807 : Int)) ∧
    (((Rx.lo Go.IntKind.i64 ≤ (↑(ByteArray.mk #[(40 : UInt8)] ++ Rd.exprX l ++ ByteArray.mk #[(41 : UInt8)]).size : Int) - (1 : Int)) ∧
      ((↑(ByteArray.mk #[(40 : UInt8)] ++ Rd.exprX l ++ ByteArray.mk #[(41 : UInt8)]).size : Int) - (1 : Int) ≤ Rx.hi Go.IntKind.i64)) ∧
     ((Rx.leL ([SV.dt (Dt.cell (Go.Value.int Go.IntKind.i64 n)), SV.dt (Dt.cell (Go.Value.int Go.IntKind.i64 ((↑(ByteArray.mk #[(40 : UInt8)] ++ Rd.exprX l ++ ByteArray.mk #[(41 : UInt8)]).size : Int) - (1 : Int))))]) ([SV.dt (Dt.cell (Go.Value.int Go.IntKind.i64 n)), SV.dt (Dt.cell (Go.Value.int Go.IntKind.i64 ((↑(ByteArray.mk #[(40 : UInt8)] ++ Rd.exprX l ++ ByteArray.mk #[(41 : UInt8)]).size : Int) - (1 : Int))))])) ∧
      ((Rx.leObL ([]) ([])) ∧
       (((Rd.isInt n) ∧
         ((↑(ByteArray.mk #[(40 : UInt8)] ++ Rd.exprX l ++ ByteArray.mk #[(41 : UInt8)]).size : Int) - (1 : Int) ≠ (0 : Int))) ∧
        (((Rx.lo Go.IntKind.i64 ≤ (1 : Int) + Rd.pickedS n ((↑(ByteArray.mk #[(40 : UInt8)] ++ Rd.exprX l ++ ByteArray.mk #[(41 : UInt8)]).size : Int) - (1 : Int))) ∧
          ((1 : Int) + Rd.pickedS n ((↑(ByteArray.mk #[(40 : UInt8)] ++ Rd.exprX l ++ ByteArray.mk #[(41 : UInt8)]).size : Int) - (1 : Int)) ≤ Rx.hi Go.IntKind.i64)) ∧
         ((((0 : Int) ≤ (1 : Int) + Rd.pickedS n ((↑(ByteArray.mk #[(40 : UInt8)] ++ Rd.exprX l ++ ByteArray.mk #[(41 : UInt8)]).size : Int) - (1 : Int))) ∧
           ((1 : Int) + Rd.pickedS n ((↑(ByteArray.mk #[(40 : UInt8)] ++ Rd.exprX l ++ ByteArray.mk #[(41 : UInt8)]).size : Int) - (1 : Int)) ≤ (↑(ByteArray.mk #[(40 : UInt8)] ++ Rd.exprX l ++ ByteArray.mk #[(41 : UInt8)]).size : Int))) ∧
          ((Rx.leL ([SV.dt (Dt.cell (Go.Value.string ((ByteArray.mk #[(40 : UInt8)] ++ Rd.exprX l ++ ByteArray.mk #[(41 : UInt8)]).extract (0 : Nat) ((1 : Int) + Rd.pickedS n ((↑(ByteArray.mk #[(40 : UInt8)] ++ Rd.exprX l ++ ByteArray.mk #[(41 : UInt8)]).size : Int) - (1 : Int))).toNat)))]) ([SV.dt (Dt.cell (Go.Value.string ((ByteArray.mk #[(40 : UInt8)] ++ Rd.exprX l ++ ByteArray.mk #[(41 : UInt8)]).extract (0 : Nat) ((1 : Int) + Rd.pickedS n ((↑(ByteArray.mk #[(40 : UInt8)] ++ Rd.exprX l ++ ByteArray.mk #[(41 : UInt8)]).size : Int) - (1 : Int))).toNat)))])) ∧
           ((Rx.leObL ([]) ([])) ∧
            (((((ByteArray.mk #[(40 : UInt8)] ++ Rd.exprX l ++ ByteArray.mk #[(41 : UInt8)]).extract (0 : Nat) ((1 : Int) + Rd.pickedS n ((↑(ByteArray.mk #[(40 : UInt8)] ++ Rd.exprX l ++ ByteArray.mk #[(41 : UInt8)]).size : Int) - (1 : Int))).toNat).size ≤ (3000 : Nat)) ∧
              ((Rd.readS g ((ByteArray.mk #[(40 : UInt8)] ++ Rd.exprX l ++ ByteArray.mk #[(41 : UInt8)]).extract (0 : Nat) ((1 : Int) + Rd.pickedS n ((↑(ByteArray.mk #[(40 : UInt8)] ++ Rd.exprX l ++ ByteArray.mk #[(41 : UInt8)]).size : Int) - (1 : Int))).toNat)).isSome = Bool.true)) ∧
             (((↑(ByteArray.mk #[(40 : UInt8)] ++ Rd.exprX l ++ ByteArray.mk #[(41 : UInt8)]).size : Int) + (↑(ByteArray.mk #[(41 : UInt8)]).size : Int) ≤ (9223372036854775807 : Int)) ∧
              ((Rx.leL ([SV.dt (Dt.cell (Go.Value.string (ByteArray.mk #[(40 : UInt8)] ++ Rd.exprX l ++ ByteArray.mk #[(41 : UInt8)] ++ ByteArray.mk #[(41 : UInt8)])))]) ([SV.dt (Dt.cell (Go.Value.string (ByteArray.mk #[(40 : UInt8)] ++ Rd.exprX l ++ ByteArray.mk #[(41 : UInt8)] ++ ByteArray.mk #[(41 : UInt8)])))])) ∧
               ((Rx.leObL ([]) ([])) ∧
                ((((ByteArray.mk #[(40 : UInt8)] ++ Rd.exprX l ++ ByteArray.mk #[(41 : UInt8)] ++ ByteArray.mk #[(41 : UInt8)]).size ≤ (3000 : Nat)) ∧
                  ((Rd.readS g (ByteArray.mk #[(40 : UInt8)] ++ Rd.exprX l ++ ByteArray.mk #[(41 : UInt8)] ++ ByteArray.mk #[(41 : UInt8)])).isSome = Bool.true)) ∧
                 (((((Rd.readR g ((ByteArray.mk #[(40 : UInt8)] ++ Rd.exprX l ++ ByteArray.mk #[(41 : UInt8)]).extract (0 : Nat) ((1 : Int) + Rd.pickedS n ((↑(ByteArray.mk #[(40 : UInt8)] ++ Rd.exprX l ++ ByteArray.mk #[(41 : UInt8)]).size : Int) - (1 : Int))).toNat)).e == (5 : Int)) = Bool.true) →
                   (((((Rd.readR g ((ByteArray.mk #[(40 : UInt8)] ++ Rd.exprX l ++ ByteArray.mk #[(41 : UInt8)]).extract (0 : Nat) ((1 : Int) + Rd.pickedS n ((↑(ByteArray.mk #[(40 : UInt8)] ++ Rd.exprX l ++ ByteArray.mk #[(41 : UInt8)]).size : Int) - (1 : Int))).toNat)).i == (1 : Int) + Rd.pickedS n ((↑(ByteArray.mk #[(40 : UInt8)] ++ Rd.exprX l ++ ByteArray.mk #[(41 : UInt8)]).size : Int) - (1 : Int))) = Bool.true) →
                     (((((Rd.readR g (ByteArray.mk #[(40 : UInt8)] ++ Rd.exprX l ++ ByteArray.mk #[(41 : UInt8)] ++ ByteArray.mk #[(41 : UInt8)])).e == (4 : Int)) = Bool.true) →
                       (True ∧
                        R (SV.dt (Dt.cell (Go.Value.bool ((Rd.readR g (ByteArray.mk #[(40 : UInt8)] ++ Rd.exprX l ++ ByteArray.mk #[(41 : UInt8)] ++ ByteArray.mk #[(41 : UInt8)])).i == (↑(ByteArray.mk #[(40 : UInt8)] ++ Rd.exprX l ++ ByteArray.mk #[(41 : UInt8)]).size : Int))))) ([]))) ∧
                      ((((Rd.readR g (ByteArray.mk #[(40 : UInt8)] ++ Rd.exprX l ++ ByteArray.mk #[(41 : UInt8)] ++ ByteArray.mk #[(41 : UInt8)])).e == (4 : Int)) = Bool.false) →
                       (True ∧
                        R (SV.dt (Dt.cell (Go.Value.bool Bool.false))) ([]))))) ∧
                    ((((Rd.readR g ((ByteArray.mk #[(40 : UInt8)] ++ Rd.exprX l ++ ByteArray.mk #[(41 : UInt8)]).extract (0 : Nat) ((1 : Int) + Rd.pickedS n ((↑(ByteArray.mk #[(40 : UInt8)] ++ Rd.exprX l ++ ByteArray.mk #[(41 : UInt8)]).size : Int) - (1 : Int))).toNat)).i == (1 : Int) + Rd.pickedS n ((↑(ByteArray.mk #[(40 : UInt8)] ++ Rd.exprX l ++ ByteArray.mk #[(41 : UInt8)]).size : Int) - (1 : Int))) = Bool.false) →
                     (((((Rd.readR g ((ByteArray.mk #[(40 : UInt8)] ++ Rd.exprX l ++ ByteArray.mk #[(41 : UInt8)]).extract (0 : Nat) ((1 : Int) + Rd.pickedS n ((↑(ByteArray.mk #[(40 : UInt8)] ++ Rd.exprX l ++ ByteArray.mk #[(41 : UInt8)]).size : Int) - (1 : Int))).toNat)).e == (4 : Int)) = Bool.true) →
                       (((Decidable.decide ((Rd.readR g ((ByteArray.mk #[(40 : UInt8)] ++ Rd.exprX l ++ ByteArray.mk #[(41 : UInt8)]).extract (0 : Nat) ((1 : Int) + Rd.pickedS n ((↑(ByteArray.mk #[(40 : UInt8)] ++ Rd.exprX l ++ ByteArray.mk #[(41 : UInt8)]).size : Int) - (1 : Int))).toNat)).i < (1 : Int) + Rd.pickedS n ((↑(ByteArray.mk #[(40 : UInt8)] ++ Rd.exprX l ++ ByteArray.mk #[(41 : UInt8)]).size : Int) - (1 : Int))) = Bool.true) →
                         (((((Rd.readR g (ByteArray.mk #[(40 : UInt8)] ++ Rd.exprX l ++ ByteArray.mk #[(41 : UInt8)] ++ ByteArray.mk #[(41 : UInt8)])).e == (4 : Int)) = Bool.true) →
                           (True ∧
                            R (SV.dt (Dt.cell (Go.Value.bool ((Rd.readR g (ByteArray.mk #[(40 : UInt8)] ++ Rd.exprX l ++ ByteArray.mk #[(41 : UInt8)] ++ ByteArray.mk #[(41 : UInt8)])).i == (↑(ByteArray.mk #[(40 : UInt8)] ++ Rd.exprX l ++ ByteArray.mk #[(41 : UInt8)]).size : Int))))) ([]))) ∧
                          ((((Rd.readR g (ByteArray.mk #[(40 : UInt8)] ++ Rd.exprX l ++ ByteArray.mk #[(41 : UInt8)] ++ ByteArray.mk #[(41 : UInt8)])).e == (4 : Int)) = Bool.false) →
                           (True ∧
                            R (SV.dt (Dt.cell (Go.Value.bool Bool.false))) ([]))))) ∧
                        ((Decidable.decide ((Rd.readR g ((ByteArray.mk #[(40 : UInt8)] ++ Rd.exprX l ++ ByteArray.mk #[(41 : UInt8)]).extract (0 : Nat) ((1 : Int) + Rd.pickedS n ((↑(ByteArray.mk #[(40 : UInt8)] ++ Rd.exprX l ++ ByteArray.mk #[(41 : UInt8)]).size : Int) - (1 : Int))).toNat)).i < (1 : Int) + Rd.pickedS n ((↑(ByteArray.mk #[(40 : UInt8)] ++ Rd.exprX l ++ ByteArray.mk #[(41 : UInt8)]).size : Int) - (1 : Int))) = Bool.false) →
                         (True ∧
                          R (SV.dt (Dt.cell (Go.Value.bool Bool.false))) ([]))))) ∧
                      ((((Rd.readR g ((ByteArray.mk #[(40 : UInt8)] ++ Rd.exprX l ++ ByteArray.mk #[(41 : UInt8)]).extract (0 : Nat) ((1 : Int) + Rd.pickedS n ((↑(ByteArray.mk #[(40 : UInt8)] ++ Rd.exprX l ++ ByteArray.mk #[(41 : UInt8)]).size : Int) - (1 : Int))).toNat)).e == (4 : Int)) = Bool.false) →
                       (True ∧
                        R (SV.dt (Dt.cell (Go.Value.bool Bool.false))) ([]))))))) ∧
                  ((((Rd.readR g ((ByteArray.mk #[(40 : UInt8)] ++ Rd.exprX l ++ ByteArray.mk #[(41 : UInt8)]).extract (0 : Nat) ((1 : Int) + Rd.pickedS n ((↑(ByteArray.mk #[(40 : UInt8)] ++ Rd.exprX l ++ ByteArray.mk #[(41 : UInt8)]).size : Int) - (1 : Int))).toNat)).e == (5 : Int)) = Bool.false) →
                   (((((Rd.readR g ((ByteArray.mk #[(40 : UInt8)] ++ Rd.exprX l ++ ByteArray.mk #[(41 : UInt8)]).extract (0 : Nat) ((1 : Int) + Rd.pickedS n ((↑(ByteArray.mk #[(40 : UInt8)] ++ Rd.exprX l ++ ByteArray.mk #[(41 : UInt8)]).size : Int) - (1 : Int))).toNat)).e == (4 : Int)) = Bool.true) →
                     (((Decidable.decide ((Rd.readR g ((ByteArray.mk #[(40 : UInt8)] ++ Rd.exprX l ++ ByteArray.mk #[(41 : UInt8)]).extract (0 : Nat) ((1 : Int) + Rd.pickedS n ((↑(ByteArray.mk #[(40 : UInt8)] ++ Rd.exprX l ++ ByteArray.mk #[(41 : UInt8)]).size : Int) - (1 : Int))).toNat)).i < (1 : Int) + Rd.pickedS n ((↑(ByteArray.mk #[(40 : UInt8)] ++ Rd.exprX l ++ ByteArray.mk #[(41 : UInt8)]).size : Int) - (1 : Int))) = Bool.true) →
                       (((((Rd.readR g (ByteArray.mk #[(40 : UInt8)] ++ Rd.exprX l ++ ByteArray.mk #[(41 : UInt8)] ++ ByteArray.mk #[(41 : UInt8)])).e == (4 : Int)) = Bool.true) →
                         (True ∧
                          R (SV.dt (Dt.cell (Go.Value.bool ((Rd.readR g (ByteArray.mk #[(40 : UInt8)] ++ Rd.exprX l ++ ByteArray.mk #[(41 : UInt8)] ++ ByteArray.mk #[(41 : UInt8)])).i == (↑(ByteArray.mk #[(40 : UInt8)] ++ Rd.exprX l ++ ByteArray.mk #[(41 : UInt8)]).size : Int))))) ([]))) ∧
                        ((((Rd.readR g (ByteArray.mk #[(40 : UInt8)] ++ Rd.exprX l ++ ByteArray.mk #[(41 : UInt8)] ++ ByteArray.mk #[(41 : UInt8)])).e == (4 : Int)) = Bool.false) →
                         (True ∧
                          R (SV.dt (Dt.cell (Go.Value.bool Bool.false))) ([]))))) ∧
                      ((Decidable.decide ((Rd.readR g ((ByteArray.mk #[(40 : UInt8)] ++ Rd.exprX l ++ ByteArray.mk #[(41 : UInt8)]).extract (0 : Nat) ((1 : Int) + Rd.pickedS n ((↑(ByteArray.mk #[(40 : UInt8)] ++ Rd.exprX l ++ ByteArray.mk #[(41 : UInt8)]).size : Int) - (1 : Int))).toNat)).i < (1 : Int) + Rd.pickedS n ((↑(ByteArray.mk #[(40 : UInt8)] ++ Rd.exprX l ++ ByteArray.mk #[(41 : UInt8)]).size : Int) - (1 : Int))) = Bool.false) →
                       (True ∧
                        R (SV.dt (Dt.cell (Go.Value.bool Bool.false))) ([]))))) ∧
                    ((((Rd.readR g ((ByteArray.mk #[(40 : UInt8)] ++ Rd.exprX l ++ ByteArray.mk #[(41 : UInt8)]).extract (0 : Nat) ((1 : Int) + Rd.pickedS n ((↑(ByteArray.mk #[(40 : UInt8)] ++ Rd.exprX l ++ ByteArray.mk #[(41 : UInt8)]).size : Int) - (1 : Int))).toNat)).e == (4 : Int)) = Bool.false) →
                     (True ∧
                      R (SV.dt (Dt.cell (Go.Value.bool Bool.false))) ([]))))))))))))))))))))))))
theorem elem_le {l : List Dm} {i : Nat} {d : Dm} (h : l[i]? = some d) : leS (.agg [.dt (dmL l i 0), .dt (dmL l i 1), .dt (dmL l i 2), .dt (dmL l i 3)]) (dmS d) := by
  rw [dmL_get 0 h, dmL_get 1 h, dmL_get 2 h, dmL_get 3 h, dmT_eq d 0 (by decide), dmT_eq d 1 (by decide), dmT_eq d 2 (by decide), dmT_eq d 3 (by decide)]
  exact leS_refl (dmS d)
theorem some_of {g : Nat} {s : ByteArray} {r : RR} (h : readS g s = some r) : (readS g s).isSome = true := by rw [h]; rfl

theorem blanks_law (g : Nat) (l : Rw) (n : Int) (d : Dm) (hd : dmN d ≤ 1000000) : Ctr prog f_ReadBlanks [rawsD l, vI .i64 n] [] (blanksLawO g l n d) := by
  refine ctr_fn mixed (N := 46) (fn := c_ReadBlanks) (c := bodyOf c_ReadBlanks) (ks := blkKs g l d) (ls := []) (by kernel_rfl) (by kernel_rfl) (by kernel_rfl)
    (all_cons (ExprF_ok l) (all_cons (dataF_ok g) (all_cons pickedF_ok (all_cons pickedF_ok (all_cons (dataF_ok g) (all_cons (cF_ok (tells_ctr g)) (all_cons (cF_ok (same_list [d] (by simp only [dmNL]; omega))) all_nil))))))) fin0 (no_loops (by kernel_rfl)) (by kernel_rfl) (Q := blanksLawQ g l n d) (fun post hp => ?_) (fun R => by kernel_rfl)
  obtain ⟨⟨hn, hR, h1, h2, h3, _⟩, hp⟩ := hp
  have hp : post (vB true, []) := hp
  have q1 := pickedS_range (n := n) (m := 4) (by decide)
  have q2 := pickedS_range (n := n) (m := 3) (by decide)
  unfold okOne blText preS postS noS at h2
  unfold okOne at h1
  have e1 := readR_eq h1.2
  have e2 := readR_eq h2.2
  have z := h2.1
  rw [ByteArray.size_append] at z
  have z' := z
  rw [ByteArray.size_append] at z'
  unfold blanksLawQ
  rw [e1, e2]
  exact ⟨leL_refl _, trivial, hR, leL_refl _, trivial, ⟨h1.1, some_of h1.2⟩, leL_refl _, trivial, ⟨hn, by decide⟩, ⟨q1.1, q1.2⟩, by omega, leL_refl _, trivial, ⟨hn, by decide⟩, ⟨q2.1, q2.2⟩, by omega, leL_refl _, trivial, ⟨h2.1, some_of h2.2⟩, leL_refl _, trivial, h3,
    fun _ => ⟨fun _ => ⟨fun _ => ⟨⟨dmAB [d], dmAB [d], leS_refl _, trivial⟩, trivial, trivial, gives1 hp (leS_refl _)⟩, fun h => absurd h (by simp)⟩, fun h => absurd h (by simp)⟩, fun h => (by cases h)⟩

theorem qu_law (g : Nat) (l : Rw) (d : Dm) (hd : dmN d ≤ 1000000) : Ctr prog f_ReadQuote [rawsD l] [] (quLawO g l d) := by
  refine ctr_fn mixed (N := 46) (fn := c_ReadQuote) (c := bodyOf c_ReadQuote) (ks := quKs g l d) (ls := []) (by kernel_rfl) (by kernel_rfl) (by kernel_rfl)
    (all_cons (ExprF_ok l) (all_cons (dataF_ok g) (all_cons (dataF_ok g) (all_cons (cF_ok (same_ctr d hd)) all_nil)))) fin0 (no_loops (by kernel_rfl)) (by kernel_rfl) (Q := quLawQ g l d) (fun post hp => ?_) (fun R => by kernel_rfl)
  obtain ⟨⟨hR, h1, h2, _⟩, hp⟩ := hp
  have hp : post (vB true, []) := hp
  unfold okOne quT1 at h1
  unfold okOne quT2 at h2
  have e1 := readR_eq h1.2
  have e2 := readR_eq h2.2
  have hz := exprX_size l
  have z1 : (ByteArray.mk #[39]).size = 1 := rfl
  have z2 : (ByteArray.mk #[40, 113, 117, 111, 116, 101, 32]).size = 7 := rfl
  have z3 : (ByteArray.mk #[41]).size = 1 := rfl
  unfold quLawQ
  rw [e1, e2]
  exact ⟨leL_refl _, trivial, hR, by rw [z1]; omega, leL_refl _, trivial, ⟨h1.1, some_of h1.2⟩, by rw [z2]; omega, by rw [ByteArray.size_append, z2, z3]; omega, leL_refl _, trivial, ⟨h2.1, some_of h2.2⟩,
    fun _ => ⟨fun _ => ⟨fun _ => ⟨fun _ => ⟨⟨by simp, by simp⟩, ⟨by simp, by simp⟩, ⟨elem_le (l := [d]) (i := 0) rfl, elem_le (l := [d]) (i := 0) rfl, trivial⟩, trivial, trivial, gives1 hp (leS_refl _)⟩, fun h => absurd h (by simp)⟩, fun h => absurd h (by simp)⟩, fun h => absurd h (by simp)⟩, fun h => absurd h (by simp)⟩

theorem to_law (g : Nat) (l : Rw) (n : Int) (r : RR) : Ctr prog f_ReadTorn [rawsD l, vI .i64 n] [] (toLawO g l n r) := by
  refine ctr_fn mixed (N := 64) (fn := c_ReadTorn) (c := bodyOf c_ReadTorn) (ks := toKs g l) (ls := []) (by kernel_rfl) (by kernel_rfl) (by kernel_rfl)
    (all_cons (ExprF_ok l) (all_cons pickedF_ok (all_cons (readF_ok g) (all_cons (readF_ok g) all_nil)))) fin0 (no_loops (by kernel_rfl)) (by kernel_rfl) (Q := toLawQ g l n) (fun post hp => ?_) (fun R => by kernel_rfl)
  obtain ⟨⟨hn, hR, h1, hr, h2⟩, hp⟩ := hp
  have hp : post (vB true, []) := hp
  have hz := exprX_size l
  have hps := par_size l
  have q := pickedS_range (n := n) (m := ((parS l).size : Int) - 1) (by omega)
  have z1 : (ByteArray.mk #[40]).size = 1 := rfl
  have z3 : (ByteArray.mk #[41]).size = 1 := rfl
  have ep : ByteArray.mk #[40] ++ exprX l ++ ByteArray.mk #[41] = parS l := rfl
  unfold toK at h1 hr
  have e1 := readR_eq h1
  have e2 := readR_eq h2
  unfold toLawQ
  simp only [ep, e1, e2, lo, hi]
  have sz1 : ((parS l).extract 0 (1 + pickedS n (((parS l).size : Int) - 1)).toNat).size ≤ 3000 := by rw [ByteArray.size_extract]; omega
  have sz2 : (parS l ++ ByteArray.mk #[41]).size ≤ 3000 := by rw [ByteArray.size_append, z3]; omega
  refine ⟨leL_refl _, trivial, hR, by rw [z1]; omega, by rw [ByteArray.size_append, z1, z3]; omega, ⟨by omega, by omega⟩, leL_refl _, trivial, ⟨hn, by omega⟩, ⟨by omega, by omega⟩, ⟨by omega, by omega⟩, leL_refl _, trivial, ⟨sz1, some_of h1⟩, by rw [z3]; omega, leL_refl _, trivial, ⟨sz2, some_of h2⟩, ?_⟩
  have leaf : Gives post (.dt (.cell (.bool (((parS l).size : Int) == ((parS l).size : Int))))) [] := gives1 hp (by rw [leS_cell]; simp)
  rcases hr with ⟨a1, a2⟩ | ⟨a1, a2⟩
  · refine ⟨fun _ => ⟨fun _ => ⟨fun _ => ⟨trivial, leaf⟩, fun h => absurd h (by decide)⟩, fun h => ?_⟩, fun h => ?_⟩
    · rw [a2] at h; simp at h
    · rw [a1] at h; exact absurd h (by decide)
  · refine ⟨fun h => ?_, fun _ => ⟨fun _ => ⟨fun _ => ⟨fun _ => ⟨trivial, leaf⟩, fun h => absurd h (by decide)⟩, fun h => ?_⟩, fun h => ?_⟩⟩
    · rw [a1] at h; exact absurd h (by decide)
    · have := of_decide_eq_false h; omega
    · rw [a1] at h; exact absurd h (by decide)
end Rd
