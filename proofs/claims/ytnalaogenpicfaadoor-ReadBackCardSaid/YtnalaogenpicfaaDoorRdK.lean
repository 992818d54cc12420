/- Sources out of raw things: an expression as text; data of a text; the same data. -/
import Derived.Test.YtnalaogenpicfaaDoorRdJ
import Derived.Test.YtnalaogenpicfaaDoorRdE
set_option linter.unusedSimpArgs false
set_option linter.unusedVariables false
open Rx Go
namespace Rd
--PROG prog

/-! ## an expression's function, all kinds -/
def nS : ByteArray := ⟨#[110]⟩
def exG (l : Rw) : FC := ⟨f_expr, true, false, fun al ol => match al, ol with
  | [.ptr 0 0, d], [_, _] => match rdI d with
    | some d => some (exArgs d.toNat, exObs l [nS] 0, exprO l d.toNat [nS] 0)
    | none => none
  | _, _ => none⟩
def rawsD (l : Rw) : SV := .dt (.arr 4 l.length (rowsF l))
/-- an expression that is not too long -/
def exprIt (l : Rw) : Nat → ByteArray → ByteArray
  | 0, s => s
  | f + 1, s => if 250 < s.size then exprIt l f (exprS l f [nS] 0).t else s
def exprX (l : Rw) : ByteArray := exprIt l 3 (exprS l 3 [nS] 0).t
structure XX where
  f : Nat
  s : ByteArray
def xpArgs (l : Rw) (x : XX) : List SV := [rawsD l, vS x.s, vI .i64 (3 - x.f)]
def xpOut (l : Rw) (x : XX) : T OutC := .need (okR l ∧ x.f ≤ 3 ∧ (x.f = 0 → x.s.size ≤ 250)) (.ret (.exit 0, [vS (exprIt l x.f x.s)], []))
def noX : XX := ⟨3, noS⟩
def xpLF (l : Rw) : LF := ⟨4, ⟨[0, 4, 5], [4], []⟩, fun svs _ => match svs with
  | [_, s, _] => match rdS s with
    | some s => some (xpArgs l ⟨3, s⟩, [], xpOut l ⟨3, s⟩)
    | none => none
  | _ => none⟩
def xpKs (l : Rw) : List (Nat × Nat × FC) := [(1, 1, noF), (2, 1, exG l), (6, 1, noF), (7, 4, exG l)]
noncomputable def xpEnv (l : Rw) : Env := fnE prog 27 0 (xpKs l) [xpLF l]
noncomputable def xpLoop : Code := (loopIn 4 (bodyOf c_Expr)).getD .skip
def ExprO (l : Rw) : T Out := .need (okR l) (.ret (vS (exprX l), []))
def ExprF (l : Rw) : FC := cF f_Expr false [rawsD l] [] (ExprO l)

/-! ## data of a text -/
def dataO (g : Nat) (s : ByteArray) : T Out := .need (s.size ≤ 3000 ∧ (readS g s).isSome = true) (.ret (.tup [dmA (readR g s).l, vB ((readR g s).e == 0)], []))
def dataF (g : Nat) : FC := ⟨f_data, false, false, fun al ol => match al, ol with
  | [x], [] => match rdS x with
    | some s => some ([vS s], [], dataO g s)
    | none => none
  | _, _ => none⟩
def aS : ByteArray := ⟨#[97]⟩
def tellsO (g : Nat) : T Out := .need (readS g aS = some ⟨[.mk 3 0 aS []], 0, 0⟩) (.ret (vB true, []))

/-! ## the same data -/
mutual
/-- how many data there are -/
def dmN : Dm → Nat
  | .mk _ _ _ l => 1 + dmNL l
def dmNL : List Dm → Nat
  | [] => 0
  | d :: l => dmN d + dmNL l
end
/-- data of a slice, each shown -/
def dmC (l : List Dm) (i : Nat) : Nat → Dt
  | 0 => .cell (.int .i64 (l.getD i d0).k)
  | 1 => .cell (.int .i64 (l.getD i d0).n)
  | 2 => .cell (.string (l.getD i d0).s)
  | _ => .arr 4 (l.getD i d0).l.length (dmL (l.getD i d0).l)
def dmB (l : List Dm) : SV := .dt (.arr 4 l.length (dmC l))
def SdP (l : List Dm) (k n : Int) (s : ByteArray) (m : Nat) (f : Nat → Nat → Dt) : Prop := ∃ d, d ∈ l ∧ leS (.agg [vI .i64 k, vI .i64 n, vS s, .dt (.arr 4 m f)]) (dmS d)
def sdX (k n : Int) (s : ByteArray) (m : Nat) (f : Nat → Nat → Dt) : SV := .agg [vI .i64 k, vI .i64 n, vS s, .dt (.arr 4 m f)]
def sdF (l : List Dm) : FC := ⟨f_sameDatum, false, false, fun al ol => match al, ol with
  | [.agg [k, n, s, .dt (.arr 4 m f)], .agg _], [] => match rdI k, rdI n, rdS s with
    | some k, some n, some s => some ([sdX k n s m f, sdX k n s m f], [], .need (SdP l k n s m f) (.ret (vB true, [])))
    | _, _, _ => none
  | _, _ => none⟩
def eqO : T Out := .ret (vB true, [])
def eqF (l : List Dm) : FC := cF f_EqualFunc false [dmB l, dmB l, .fn f_sameDatum []] [] eqO
def eqArgs (l : List Dm) (i : Nat) : List SV := [dmB l, .fn f_sameDatum [], dmB l, vI .i64 l.length, vI .i64 i]
def eqOut (l : List Dm) (i : Nat) : T OutC := .need (i ≤ l.length) (.ret (.exit 0, [], []))
def eqLF (l : List Dm) : LF := ⟨4, ⟨[1, 2, 15, 16, 17], [], [6]⟩, fun _ _ => some (eqArgs l 0, [], eqOut l 0)⟩
def eqKs (l : List Dm) : List (Nat × Nat × FC) := [(7, 3, sdF l)]
noncomputable def eqEnv (l : List Dm) : Env := fnE prog 32 0 (eqKs l) [eqLF l]
noncomputable def eqLoop : Code := (loopIn 4 (bodyOf c_EqualFunc)).getD .skip
def sdKs (l : List Dm) : List (Nat × Nat × FC) := [(1, 24, eqF l)]

def xpLoopQ (l : Rw) (f : Nat) (s : ByteArray) (Rn : List SV → List (Option Ob) → Prop) (Re : Ex → List SV → List (Option Ob) → Prop) : Prop :=
(((Decidable.decide ((↑s.size : Int) > (250 : Int)) = Bool.true) →
 (((Rx.lo Go.IntKind.i64 ≤ (2 : Int) - ((3 : Int) - (↑f : Int))) ∧
   ((2 : Int) - ((3 : Int) - (↑f : Int)) ≤ Rx.hi Go.IntKind.i64)) ∧
  ((Rx.leL ([SV.ptr 0 0, SV.dt (Dt.cell (Go.Value.int Go.IntKind.i64 (if (0 : Int) > (2 : Int) - ((3 : Int) - (↑f : Int)) then (0 : Int) else (2 : Int) - ((3 : Int) - (↑f : Int)))))]) ([SV.ptr 0 0, SV.dt (Dt.cell (Go.Value.int Go.IntKind.i64 (↑(if (0 : Int) > (2 : Int) - ((3 : Int) - (↑f : Int)) then (0 : Int) else (2 : Int) - ((3 : Int) - (↑f : Int))).toNat : Int)))])) ∧
   ((Rx.leObL ([Ob.cells 45 [SV.dt (Dt.arr ((4 : Nat)) (List.length l) (Rx.rowsF l)), SV.nm 1, SV.ki Go.IntKind.i64 ((0 : Int))], Ob.row 9 1 ((1 : Nat)) (Rx.litF (1 : Nat) [Rx.Dt.cell (Go.Value.string (ByteArray.mk #[(110 : UInt8)]))])]) ([Ob.cells 45 [SV.dt (Dt.arr ((4 : Nat)) (List.length l - (0 : Nat)) (fun i j => Rx.rowsF l (i + (0 : Nat)) j)), SV.nm 1, SV.junk], Ob.row 9 1 ([Rd.nS].length) (Rd.strF [Rd.nS])])) ∧
    (((Rd.okR l) ∧
      (Rd.okN [Rd.nS] (if (0 : Int) > (2 : Int) - ((3 : Int) - (↑f : Int)) then (0 : Int) else (2 : Int) - ((3 : Int) - (↑f : Int))).toNat)) ∧
     ((((Rd.exprS l (if (0 : Int) > (2 : Int) - ((3 : Int) - (↑f : Int)) then (0 : Int) else (2 : Int) - ((3 : Int) - (↑f : Int))).toNat [Rd.nS] (0 : Nat)).m = Bool.true) →
       (((Rx.lo Go.IntKind.i64 ≤ (3 : Int) - (↑f : Int) + (1 : Int)) ∧
         ((3 : Int) - (↑f : Int) + (1 : Int) ≤ Rx.hi Go.IntKind.i64)) ∧
        Rn ([SV.dt (Dt.arr ((4 : Nat)) (List.length l) (Rx.rowsF l)), SV.dt (Dt.cell (Go.Value.string (Rd.exprS l (if (0 : Int) > (2 : Int) - ((3 : Int) - (↑f : Int)) then (0 : Int) else (2 : Int) - ((3 : Int) - (↑f : Int))).toNat [Rd.nS] (0 : Nat)).t)), SV.dt (Dt.cell (Go.Value.int Go.IntKind.i64 ((3 : Int) - (↑f : Int) + (1 : Int))))]) ([]))) ∧
      (((Rd.exprS l (if (0 : Int) > (2 : Int) - ((3 : Int) - (↑f : Int)) then (0 : Int) else (2 : Int) - ((3 : Int) - (↑f : Int))).toNat [Rd.nS] (0 : Nat)).m = Bool.false) →
       (((Rx.lo Go.IntKind.i64 ≤ (3 : Int) - (↑f : Int) + (1 : Int)) ∧
         ((3 : Int) - (↑f : Int) + (1 : Int) ≤ Rx.hi Go.IntKind.i64)) ∧
        Rn ([SV.dt (Dt.arr ((4 : Nat)) (List.length l) (Rx.rowsF l)), SV.dt (Dt.cell (Go.Value.string (Rd.exprS l (if (0 : Int) > (2 : Int) - ((3 : Int) - (↑f : Int)) then (0 : Int) else (2 : Int) - ((3 : Int) - (↑f : Int))).toNat [Rd.nS] (0 : Nat)).t)), SV.dt (Dt.cell (Go.Value.int Go.IntKind.i64 ((3 : Int) - (↑f : Int) + (1 : Int))))]) ([]))))))))) ∧
((Decidable.decide ((↑s.size : Int) > (250 : Int)) = Bool.false) →
 Re (Rx.Ex.exit (0 : Nat)) ([SV.dt (Dt.cell (Go.Value.string s))]) ([])))
def ExprQ (l : Rw) (R : SV → List (Option Ob) → Prop) : Prop :=
((Rx.leL ([SV.ptr 0 0, SV.dt (Dt.cell (Go.Value.int Go.IntKind.i64 (3 : Int)))]) ([SV.ptr 0 0, SV.dt (Dt.cell (Go.Value.int Go.IntKind.i64 (↑(Int.toNat (3 : Int)) : Int)))])) ∧
((Rx.leObL ([Ob.cells 45 [SV.dt (Dt.arr ((4 : Nat)) (List.length l) (Rx.rowsF l)), SV.nm 1, SV.ki Go.IntKind.i64 ((0 : Int))], Ob.row 9 1 ((1 : Nat)) (Rx.litF (1 : Nat) [Rx.Dt.cell (Go.Value.string (ByteArray.mk #[(110 : UInt8)]))])]) ([Ob.cells 45 [SV.dt (Dt.arr ((4 : Nat)) (List.length l - (0 : Nat)) (fun i j => Rx.rowsF l (i + (0 : Nat)) j)), SV.nm 1, SV.junk], Ob.row 9 1 ([Rd.nS].length) (Rd.strF [Rd.nS])])) ∧
 (((Rd.okR l) ∧
   (Rd.okN [Rd.nS] (Int.toNat (3 : Int)))) ∧
  ((((Rd.exprS l (Int.toNat (3 : Int)) [Rd.nS] (0 : Nat)).m = Bool.true) →
    (((Rx.leS (SV.dt (Dt.arr ((4 : Nat)) (List.length l) (Rx.rowsF l))) (SV.dt (Dt.arr ((4 : Nat)) (List.length l) (Rx.rowsF l)))) ∧
      ((Rx.leS (SV.dt (Dt.cell (Go.Value.string (Rd.exprS l (Int.toNat (3 : Int)) [Rd.nS] (0 : Nat)).t))) (SV.dt (Dt.cell (Go.Value.string (Rd.exprS l (Int.toNat (3 : Int)) [Rd.nS] (0 : Nat)).t)))) ∧
       ((Rx.leS (SV.dt (Dt.cell (Go.Value.int Go.IntKind.i64 (0 : Int)))) (SV.dt (Dt.cell (Go.Value.int Go.IntKind.i64 ((3 : Int) - (↑(3 : Nat) : Int)))))) ∧
        True))) ∧
     ((Rx.leOO ([]) ([])) ∧
      (((Rd.okR l) ∧
        (((3 : Nat) ≤ (3 : Nat)) ∧
         (((3 : Nat) = (0 : Nat)) →
          ((Rd.exprS l (Int.toNat (3 : Int)) [Rd.nS] (0 : Nat)).t.size ≤ (250 : Nat))))) ∧
       (True ∧
        R (SV.dt (Dt.cell (Go.Value.string (Rd.exprIt l (3 : Nat) (Rd.exprS l (Int.toNat (3 : Int)) [Rd.nS] (0 : Nat)).t)))) ([])))))) ∧
   (((Rd.exprS l (Int.toNat (3 : Int)) [Rd.nS] (0 : Nat)).m = Bool.false) →
    (((Rx.leS (SV.dt (Dt.arr ((4 : Nat)) (List.length l) (Rx.rowsF l))) (SV.dt (Dt.arr ((4 : Nat)) (List.length l) (Rx.rowsF l)))) ∧
      ((Rx.leS (SV.dt (Dt.cell (Go.Value.string (Rd.exprS l (Int.toNat (3 : Int)) [Rd.nS] (0 : Nat)).t))) (SV.dt (Dt.cell (Go.Value.string (Rd.exprS l (Int.toNat (3 : Int)) [Rd.nS] (0 : Nat)).t)))) ∧
       ((Rx.leS (SV.dt (Dt.cell (Go.Value.int Go.IntKind.i64 (0 : Int)))) (SV.dt (Dt.cell (Go.Value.int Go.IntKind.i64 ((3 : Int) - (↑(3 : Nat) : Int)))))) ∧
        True))) ∧
     ((Rx.leOO ([]) ([])) ∧
      (((Rd.okR l) ∧
        (((3 : Nat) ≤ (3 : Nat)) ∧
         (((3 : Nat) = (0 : Nat)) →
          ((Rd.exprS l (Int.toNat (3 : Int)) [Rd.nS] (0 : Nat)).t.size ≤ (250 : Nat))))) ∧
       (True ∧
        R (SV.dt (Dt.cell (Go.Value.string (Rd.exprIt l (3 : Nat) (Rd.exprS l (Int.toNat (3 : Int)) [Rd.nS] (0 : Nat)).t)))) ([]))))))))))
def dataQ (g : Nat) (s : ByteArray) (R : SV → List (Option Ob) → Prop) : Prop :=
((Rx.leL ([SV.dt (Dt.cell (Go.Value.string s))]) ([SV.dt (Dt.cell (Go.Value.string s))])) ∧
((Rx.leObL ([]) ([])) ∧
 (((s.size ≤ (3000 : Nat)) ∧
   ((Rd.readS g s).isSome = Bool.true)) ∧
  (True ∧
   R (SV.tup [SV.dt (Dt.arr ((4 : Nat)) ((Rd.readR g s).l.length) (Rd.dmL (Rd.readR g s).l)), SV.dt (Dt.cell (Go.Value.bool ((Rd.readR g s).e == (0 : Int))))]) ([])))))
def tellsQ (g : Nat) (R : SV → List (Option Ob) → Prop) : Prop :=
((Rx.leL ([SV.dt (Dt.cell (Go.Value.string (ByteArray.mk #[(97 : UInt8)])))]) ([SV.dt (Dt.cell (Go.Value.string (ByteArray.mk #[(97 : UInt8)])))])) ∧
((Rx.leObL ([]) ([])) ∧
 ((((ByteArray.mk #[(97 : UInt8)]).size ≤ (3000 : Nat)) ∧
   ((Rd.readS g (ByteArray.mk #[(97 : UInt8)])).isSome = Bool.true)) ∧
  (((((Rd.readR g (ByteArray.mk #[(97 : UInt8)])).e == (0 : Int)) = Bool.true) →
    (True ∧
     R (SV.dt (Dt.cell (Go.Value.bool ((↑(Rd.readR g (ByteArray.mk #[(97 : UInt8)])).l.length : Int) == (1 : Int))))) ([]))) ∧
   ((((Rd.readR g (ByteArray.mk #[(97 : UInt8)])).e == (0 : Int)) = Bool.false) →
    (True ∧
     R (SV.dt (Dt.cell (Go.Value.bool Bool.false))) ([])))))))
def eqLoopQ (l : List Dm) (i : Nat) (Rn : List SV → List (Option Ob) → Prop) (Re : Ex → List SV → List (Option Ob) → Prop) : Prop :=
(((Decidable.decide ((↑i : Int) < (↑l.length : Int)) = Bool.true) →
 ((((0 : Int) ≤ (↑i : Int)) ∧
   ((↑i : Int) < (↑l.length : Int))) ∧
  ((((0 : Int) ≤ (↑i : Int)) ∧
    ((↑i : Int) < (↑l.length : Int))) ∧
   ((Rx.leL ([SV.agg [SV.dt (Dt.cell (Go.Value.int Go.IntKind.i64 (l.getD (↑i : Int).toNat Rd.d0).k)), SV.dt (Dt.cell (Go.Value.int Go.IntKind.i64 (l.getD (↑i : Int).toNat Rd.d0).n)), SV.dt (Dt.cell (Go.Value.string (l.getD (↑i : Int).toNat Rd.d0).s)), SV.dt (Dt.arr ((4 : Nat)) ((l.getD (↑i : Int).toNat Rd.d0).l.length) (Rd.dmL (l.getD (↑i : Int).toNat Rd.d0).l))], SV.agg [SV.dt (Dt.cell (Go.Value.int Go.IntKind.i64 (l.getD (↑i : Int).toNat Rd.d0).k)), SV.dt (Dt.cell (Go.Value.int Go.IntKind.i64 (l.getD (↑i : Int).toNat Rd.d0).n)), SV.dt (Dt.cell (Go.Value.string (l.getD (↑i : Int).toNat Rd.d0).s)), SV.dt (Dt.arr ((4 : Nat)) ((l.getD (↑i : Int).toNat Rd.d0).l.length) (Rd.dmL (l.getD (↑i : Int).toNat Rd.d0).l))]]) ([SV.agg [SV.dt (Dt.cell (Go.Value.int Go.IntKind.i64 (l.getD (↑i : Int).toNat Rd.d0).k)), SV.dt (Dt.cell (Go.Value.int Go.IntKind.i64 (l.getD (↑i : Int).toNat Rd.d0).n)), SV.dt (Dt.cell (Go.Value.string (l.getD (↑i : Int).toNat Rd.d0).s)), SV.dt (Dt.arr ((4 : Nat)) ((l.getD (↑i : Int).toNat Rd.d0).l.length) (Rd.dmL (l.getD (↑i : Int).toNat Rd.d0).l))], SV.agg [SV.dt (Dt.cell (Go.Value.int Go.IntKind.i64 (l.getD (↑i : Int).toNat Rd.d0).k)), SV.dt (Dt.cell (Go.Value.int Go.IntKind.i64 (l.getD (↑i : Int).toNat Rd.d0).n)), SV.dt (Dt.cell (Go.Value.string (l.getD (↑i : Int).toNat Rd.d0).s)), SV.dt (Dt.arr ((4 : Nat)) ((l.getD (↑i : Int).toNat Rd.d0).l.length) (Rd.dmL (l.getD (↑i : Int).toNat Rd.d0).l))]])) ∧
    ((Rx.leObL ([]) ([])) ∧
     ((Rd.SdP l (l.getD (↑i : Int).toNat Rd.d0).k (l.getD (↑i : Int).toNat Rd.d0).n (l.getD (↑i : Int).toNat Rd.d0).s (l.getD (↑i : Int).toNat Rd.d0).l.length (Rd.dmL (l.getD (↑i : Int).toNat Rd.d0).l)) ∧
      ((((!Bool.true) = Bool.true) →
        Re (Rx.Ex.ret) ([SV.dt (Dt.cell (Go.Value.bool Bool.false))]) ([])) ∧
       (((!Bool.true) = Bool.false) →
        (((Rx.lo Go.IntKind.i64 ≤ (↑i : Int) + (1 : Int)) ∧
          ((↑i : Int) + (1 : Int) ≤ Rx.hi Go.IntKind.i64)) ∧
         Rn ([SV.dt (Dt.arr ((4 : Nat)) (l.length) (Rd.dmC l)), SV.fn 14 [], SV.dt (Dt.arr ((4 : Nat)) (l.length) (Rd.dmC l)), SV.dt (Dt.cell (Go.Value.int Go.IntKind.i64 (↑l.length : Int))), SV.dt (Dt.cell (Go.Value.int Go.IntKind.i64 ((↑i : Int) + (1 : Int))))]) ([])))))))))) ∧
((Decidable.decide ((↑i : Int) < (↑l.length : Int)) = Bool.false) →
 Re (Rx.Ex.exit (0 : Nat)) ([]) ([])))
def eqQ (l : List Dm) (R : SV → List (Option Ob) → Prop) : Prop :=
(((((↑l.length : Int) != (↑l.length : Int)) = Bool.true) →
 (True ∧
  R (SV.dt (Dt.cell (Go.Value.bool Bool.false))) ([]))) ∧
((((↑l.length : Int) != (↑l.length : Int)) = Bool.false) →
 (((Rx.leS (SV.dt (Dt.arr ((4 : Nat)) (l.length) (Rd.dmC l))) (SV.dt (Dt.arr ((4 : Nat)) (l.length) (Rd.dmC l)))) ∧
   ((Rx.leS (SV.fn 14 []) (SV.fn 14 [])) ∧
    ((Rx.leS (SV.dt (Dt.arr ((4 : Nat)) (l.length) (Rd.dmC l))) (SV.dt (Dt.arr ((4 : Nat)) (l.length) (Rd.dmC l)))) ∧
     ((Rx.leS (SV.dt (Dt.cell (Go.Value.int Go.IntKind.i64 (↑l.length : Int)))) (SV.dt (Dt.cell (Go.Value.int Go.IntKind.i64 (↑l.length : Int))))) ∧
      ((Rx.leS (SV.dt (Dt.cell (Go.Value.int Go.IntKind.i64 (0 : Int)))) (SV.dt (Dt.cell (Go.Value.int Go.IntKind.i64 (↑(0 : Nat) : Int))))) ∧
       True))))) ∧
  ((Rx.leOO ([]) ([])) ∧
   (((0 : Nat) ≤ l.length) ∧
    (True ∧
     R (SV.dt (Dt.cell (Go.Value.bool Bool.true))) ([])))))))
def sdQ (d : Dm) (R : SV → List (Option Ob) → Prop) : Prop :=
((((d.k == d.k) = Bool.true) →
 ((((d.n == d.n) = Bool.true) →
   ((((d.s.data.toList == d.s.data.toList) = Bool.true) →
     ((Rx.leL ([SV.dt (Dt.arr ((4 : Nat)) (d.l.length) (Rd.dmL d.l)), SV.dt (Dt.arr ((4 : Nat)) (d.l.length) (Rd.dmL d.l)), SV.fn 14 []]) ([SV.dt (Dt.arr ((4 : Nat)) (d.l.length) (Rd.dmC d.l)), SV.dt (Dt.arr ((4 : Nat)) (d.l.length) (Rd.dmC d.l)), SV.fn 14 []])) ∧
      ((Rx.leObL ([]) ([])) ∧
       (True ∧
        R (SV.dt (Dt.cell (Go.Value.bool Bool.true))) ([]))))) ∧
    (((d.s.data.toList == d.s.data.toList) = Bool.false) →
     (True ∧
      R (SV.dt (Dt.cell (Go.Value.bool Bool.false))) ([]))))) ∧
  (((d.n == d.n) = Bool.false) →
   (True ∧
    R (SV.dt (Dt.cell (Go.Value.bool Bool.false))) ([]))))) ∧
(((d.k == d.k) = Bool.false) →
 (True ∧
  R (SV.dt (Dt.cell (Go.Value.bool Bool.false))) ([]))))
theorem exG_ok (l : Rw) : (exG l).Ok prog := by
  intro al ol args obs out h
  unfold exG at h
  simp only at h
  repeat' split at h
  all_goals first
    | (simp only [Option.some.injEq, Prod.mk.injEq] at h; obtain ⟨rfl, rfl, rfl⟩ := h; apply expr_ctr)
    | cases h
theorem noF_ok' : noF.Ok prog := noF_ok
theorem xpKs_ok (l : Rw) : ∀ x ∈ xpKs l, x.2.2.Ok prog := all_cons noF_ok (all_cons (exG_ok l) (all_cons noF_ok (all_cons (exG_ok l) all_nil)))
theorem okN_n {d : Nat} (h : d ≤ 3) : okN [nS] d := ⟨h, by simp; omega, fun x hx => by
  rw [List.mem_singleton] at hx; subst hx; decide⟩
theorem xpOb (l : Rw) (x : SV) : leObL [Ob.cells tBard [.dt (.arr 4 (List.length l) (rowsF l)), .nm 1, x], Ob.row tString 1 1 (litF 1 [Dt.cell (.string ⟨#[110]⟩)])] (exObs l [nS] 0) :=
  ⟨⟨rfl, leS_refl _, leS_refl _, (leS_junk _).2 trivial, trivial⟩, ⟨rfl, rfl, rfl, fun k _ j _ => leDt_refl _⟩, trivial⟩
theorem exprIt_le {l : Rw} {f : Nat} {s : ByteArray} (h : ¬ 250 < s.size) : exprIt l f s = s := by
  cases f with
  | zero => rfl
  | succ f => rw [exprIt, if_neg h]
theorem exprIt_size (l : Rw) : ∀ (f : Nat) (s : ByteArray), (f = 0 → s.size ≤ 250) → (exprIt l f s).size ≤ 250
  | 0, s, h => h rfl
  | f + 1, s, _ => by
    rw [exprIt]
    split
    · refine exprIt_size l f _ fun h => ?_
      subst h
      have := exprS_size (l := l) 0 [nS] 0 (okN_n (by decide))
      omega
    · omega
theorem exprX_size (l : Rw) : (exprX l).size ≤ 250 := exprIt_size l 3 _ fun h => by cases h

theorem xpLoop_sound (l : Rw) (x : XX) : Sound (xpEnv l) (.loop xpLoop) (mkSt ((xpLF l).live.h.zip (xpArgs l x)) []) ((xpOut l x).map (OutC.st (xpLF l).live)) := by
  refine loop_fn mixed (ks := xpKs l) (ls := [xpLF l]) (c := xpLoop) (nb := 0) (N := 27) (xpKs_ok l) (no_loops (by kernel_rfl)) (xpLF l).live (fun x : XX => xpArgs l x) (fun _ => []) (fun x => xpOut l x) (fun x => x.f)
    (Q := fun x => xpLoopQ l x.f x.s) (fun x post hp => ?_) (fun a Rn Re => by kernel_rfl) x
  obtain ⟨f, s⟩ := x
  obtain ⟨⟨hR, hf, h0⟩, hp⟩ := hp
  have hp : post (.exit 0, [vS (exprIt l f s)], []) := hp
  simp only at hf h0
  unfold xpLoopQ
  refine ⟨fun h => ?_, fun h => ?_⟩
  · have hs : 250 < s.size := by have := of_decide_eq_true h; simp only at this; omega
    cases f with
    | zero => have := h0 rfl; omega
    | succ f =>
    have eD : (if (0 : Int) > 2 - (3 - ((f + 1 : Nat) : Int)) then 0 else 2 - (3 - ((f + 1 : Nat) : Int))) = (f : Int) := by split <;> omega
    simp only [eD, Int.toNat_natCast, lo, hi]
    have rest : ∀ b : Bool, (exprS l f [nS] 0).m = b → (-9223372036854775808 ≤ 3 - ((f + 1 : Nat) : Int) + 1 ∧ 3 - ((f + 1 : Nat) : Int) + 1 ≤ 9223372036854775807) ∧
        ∃ x' : XX, x'.f < f + 1 ∧ leL [.dt (.arr 4 (List.length l) (rowsF l)), vS (exprS l f [nS] 0).t, vI .i64 (3 - ((f + 1 : Nat) : Int) + 1)] (xpArgs l x') ∧ leOO [] [] ∧ (xpOut l x').holds post := fun b _ => by
      refine ⟨⟨by omega, by omega⟩, ⟨f, (exprS l f [nS] 0).t⟩, Nat.lt_succ_self f, ⟨leS_refl _, leS_refl _, (leS_int _ _ _).2 (by simp only; omega), trivial⟩, trivial, ⟨hR, by simp only; omega, fun h => ?_⟩, ?_⟩
      · simp only at h
        subst h
        have := exprS_size (l := l) 0 [nS] 0 (okN_n (by decide))
        simp only; omega
      · have e : exprIt l (f + 1) s = exprIt l f (exprS l f [nS] 0).t := by rw [exprIt, if_pos hs]
        rw [e] at hp
        exact hp
    exact ⟨⟨by omega, by omega⟩, leL_refl _, xpOb l _, ⟨hR, okN_n (by omega)⟩, rest true, rest false⟩
  · have h : ¬ 250 < s.size := by have := of_decide_eq_false h; simp only at this; omega
    rw [exprIt_le h] at hp
    exact Outs.mk hp (leL_refl _) (leOO_refl _)
theorem xpLF_ok (l : Rw) : LFok (xpEnv l) (xpLF l) xpLoop := by
  intro svs obl args obs out h
  unfold xpLF at h
  simp only at h
  repeat' split at h
  all_goals first
    | (simp only [Option.some.injEq, Prod.mk.injEq] at h; obtain ⟨rfl, rfl, rfl⟩ := h; apply xpLoop_sound)
    | cases h
theorem xpEnv_Lok (l : Rw) : (xpEnv l).Lok (loopsOf (bodyOf c_Expr)) := by
  have hl : loopsOf (bodyOf c_Expr) = [xpLoop] := by kernel_rfl
  rw [hl]
  refine fnE_Lok fun f h c hc hr => ?_
  rw [List.mem_singleton] at hc h
  subst hc; subst h
  exact xpLF_ok l
theorem Expr_ctr (l : Rw) : Ctr prog f_Expr [rawsD l] [] (ExprO l) := by
  refine ctr_fn mixed (N := 27) (fn := c_Expr) (c := bodyOf c_Expr) (ks := xpKs l) (ls := [xpLF l]) (by kernel_rfl) (by kernel_rfl) (by kernel_rfl) (xpKs_ok l) fin0 (xpEnv_Lok l) (by kernel_rfl) (Q := ExprQ l) (fun post hp => ?_) (fun R => by kernel_rfl)
  obtain ⟨hR, hp⟩ := hp
  have hp : post (vS (exprX l), []) := hp
  unfold ExprQ
  refine ⟨leL_refl _, xpOb l _, ⟨hR, okN_n (by decide)⟩, ?_, ?_⟩
  all_goals
    intro _
    exact ⟨⟨leS_refl _, leS_refl _, leS_refl _, trivial⟩, trivial, ⟨hR, Nat.le_refl _, fun h => by cases h⟩, trivial, gives1 hp (leS_refl _)⟩
theorem ExprF_ok (l : Rw) : (ExprF l).Ok prog := cF_ok (Expr_ctr l)

theorem data_ctr (g : Nat) (s : ByteArray) : Ctr prog f_data [vS s] [] (dataO g s) := by
  refine ctr_fn mixed (N := 16) (fn := c_data) (c := bodyOf c_data) (ks := [(1, 1, readF g)]) (ls := []) (by kernel_rfl) (by kernel_rfl) (by kernel_rfl) (all_cons (readF_ok g) all_nil) fin0 (no_loops (by kernel_rfl)) (by kernel_rfl) (Q := dataQ g s) (fun post hp => ?_) (fun R => by kernel_rfl)
  obtain ⟨h, hp⟩ := hp
  unfold dataQ
  exact ⟨leL_refl _, trivial, h, trivial, gives1 hp (leS_refl _)⟩
theorem dataF_ok (g : Nat) : (dataF g).Ok prog := by
  intro al ol args obs out h
  unfold dataF at h
  simp only at h
  repeat' split at h
  all_goals first
    | (simp only [Option.some.injEq, Prod.mk.injEq] at h; obtain ⟨rfl, rfl, rfl⟩ := h; apply data_ctr)
    | cases h
theorem tells_ctr (g : Nat) : Ctr prog f_readTells [] [] (tellsO g) := by
  refine ctr_fn mixed (N := 16) (fn := c_readTells) (c := bodyOf c_readTells) (ks := [(1, 0, readF g)]) (ls := []) (by kernel_rfl) (by kernel_rfl) (by kernel_rfl) (all_cons (readF_ok g) all_nil) fin0 (no_loops (by kernel_rfl)) (by kernel_rfl) (Q := tellsQ g) (fun post hp => ?_) (fun R => by kernel_rfl)
  obtain ⟨h, hp⟩ := hp
  have hp : post (vB true, []) := hp
  have e : readR g aS = ⟨[.mk 3 0 aS []], 0, 0⟩ := readR_eq h
  have e : readR g ⟨#[97]⟩ = ⟨[.mk 3 0 aS []], 0, 0⟩ := e
  have h : readS g ⟨#[97]⟩ = some ⟨[.mk 3 0 aS []], 0, 0⟩ := h
  unfold tellsQ
  rw [e, h]
  refine ⟨leL_refl _, trivial, ⟨by decide, rfl⟩, fun _ => ⟨trivial, gives1 hp (leS_refl _)⟩, fun h => by cases h⟩

/-! ## the same data -/
theorem dmL_get : ∀ {l : List Dm} {i : Nat} {d : Dm} (j : Nat), l[i]? = some d → dmL l i j = dmT d j
  | [], _, _, _, h => by simp at h
  | x :: l, 0, d, j, h => by simp at h; subst h; simp [dmL]
  | x :: l, i + 1, d, j, h => by simp only [dmL]; exact dmL_get j (by simpa using h)
theorem sdF_ok {l : List Dm} (hl : ∀ d ∈ l, Ctr prog f_sameDatum [dmS d, dmS d] [] eqO) : (sdF l).Ok prog := by
  have key : ∀ k n s m f, Ctr prog f_sameDatum [sdX k n s m f, sdX k n s m f] [] (.need (SdP l k n s m f) (.ret (vB true, []))) := fun k n s m f => ctr_need fun ⟨d, hd, hle⟩ => by
    intro C w vs post hw ho hn hr hp
    exact hl d hd C w vs post hw ho hn (leL_rel _ _ _ (show leL [sdX k n s m f, sdX k n s m f] [dmS d, dmS d] from ⟨hle, hle, trivial⟩) hr) hp
  intro al ol args obs out h
  unfold sdF at h
  simp only at h
  repeat' split at h
  all_goals first
    | (simp only [Option.some.injEq, Prod.mk.injEq] at h; obtain ⟨rfl, rfl, rfl⟩ := h; apply key)
    | cases h
theorem eqKs_ok {l : List Dm} (hl : ∀ d ∈ l, Ctr prog f_sameDatum [dmS d, dmS d] [] eqO) : ∀ x ∈ eqKs l, x.2.2.Ok prog := all_cons (sdF_ok hl) all_nil
theorem dmC_eq {l : List Dm} {i j : Nat} (hi : i < l.length) (hj : j < 4) : dmL l i j = dmC l i j := by
  have h : l[i]? = some (l.getD i d0) := by rw [List.getD_eq_getElem?_getD, List.getElem?_eq_getElem hi]; rfl
  rw [dmL_get j h, dmT_eq _ j hj]
  match j, hj with
  | 0, _ => rfl
  | 1, _ => rfl
  | 2, _ => rfl
  | 3, _ => rfl
theorem dmAB (l : List Dm) : leS (dmA l) (dmB l) := by
  rw [dmA, dmB, leS_dt, leDt_arr]
  exact ⟨rfl, .inr ⟨rfl, fun k hk j hj => by rw [dmC_eq hk hj]; exact leDt_refl _⟩⟩
theorem eqLoop_sound {l : List Dm} (hb : l.length ≤ 1000000) (hl : ∀ d ∈ l, Ctr prog f_sameDatum [dmS d, dmS d] [] eqO) (i : Nat) : Sound (eqEnv l) (.loop eqLoop) (mkSt ((eqLF l).live.h.zip (eqArgs l i)) []) ((eqOut l i).map (OutC.st (eqLF l).live)) := by
  refine loop_fn mixed (ks := eqKs l) (ls := [eqLF l]) (c := eqLoop) (nb := 0) (N := 32) (eqKs_ok hl) (no_loops (by kernel_rfl)) (eqLF l).live (fun i : Nat => eqArgs l i) (fun _ => []) (fun i => eqOut l i) (fun i => l.length - i)
    (Q := fun i => eqLoopQ l i) (fun i post hp => ?_) (fun a Rn Re => by kernel_rfl) i
  obtain ⟨hin, hp⟩ := hp
  have hp : post (.exit 0, [], []) := hp
  have nx : i < l.length → ∃ x', l.length - x' < l.length - i ∧ leL [dmB l, .fn f_sameDatum [], dmB l, vI .i64 l.length, vI .i64 ((i : Int) + 1)] (eqArgs l x') ∧ leOO [] [] ∧ (eqOut l x').holds post := fun h =>
    ⟨i + 1, by omega, ⟨leS_refl _, leS_refl _, leS_refl _, leS_refl _, (leS_int _ _ _).2 (by omega), trivial⟩, trivial, h, hp⟩
  have ei : ((i : Nat) : Int).toNat = i := Int.toNat_natCast i
  unfold eqLoopQ
  simp only [ei, lo, hi]
  refine ⟨fun h => ?_, fun _ => Outs.mk hp (leL_refl _) (leOO_refl _)⟩
  have h : i < l.length := by have := of_decide_eq_true h; omega
  have hm : l.getD i d0 ∈ l := by
    rw [List.getD_eq_getElem?_getD, List.getElem?_eq_getElem h]
    exact List.getElem_mem h
  exact ⟨⟨by omega, by omega⟩, ⟨by omega, by omega⟩, leL_refl _, trivial, ⟨_, hm, leS_refl (dmS _)⟩, fun h => (by cases h), fun _ => ⟨⟨by omega, by omega⟩, nx h⟩⟩
theorem eqLF_ok {l : List Dm} (hb : l.length ≤ 1000000) (hl : ∀ d ∈ l, Ctr prog f_sameDatum [dmS d, dmS d] [] eqO) : LFok (eqEnv l) (eqLF l) eqLoop := by
  intro svs obl args obs out h
  unfold eqLF at h
  simp only at h
  repeat' split at h
  all_goals first
    | (simp only [Option.some.injEq, Prod.mk.injEq] at h; obtain ⟨rfl, rfl, rfl⟩ := h; apply eqLoop_sound hb hl)
    | cases h
theorem eqEnv_Lok {l : List Dm} (hb : l.length ≤ 1000000) (hl : ∀ d ∈ l, Ctr prog f_sameDatum [dmS d, dmS d] [] eqO) : (eqEnv l).Lok (loopsOf (bodyOf c_EqualFunc)) := by
  have hl' : loopsOf (bodyOf c_EqualFunc) = [eqLoop] := by kernel_rfl
  rw [hl']
  refine fnE_Lok fun f h c hc hr => ?_
  rw [List.mem_singleton] at hc h
  subst hc; subst h
  exact eqLF_ok hb hl
theorem eq_ctr {l : List Dm} (hb : l.length ≤ 1000000) (hl : ∀ d ∈ l, Ctr prog f_sameDatum [dmS d, dmS d] [] eqO) : Ctr prog f_EqualFunc [dmB l, dmB l, .fn f_sameDatum []] [] eqO := by
  refine ctr_fn mixed (N := 32) (fn := c_EqualFunc) (c := bodyOf c_EqualFunc) (ks := eqKs l) (ls := [eqLF l]) (by kernel_rfl) (by kernel_rfl) (by kernel_rfl) (eqKs_ok hl) fin0 (eqEnv_Lok hb hl) (by kernel_rfl) (Q := eqQ l) (fun post hp => ?_) (fun R => by kernel_rfl)
  have hp : post (vB true, []) := hp
  unfold eqQ
  exact ⟨fun h => absurd h (by simp), fun _ => ⟨⟨leS_refl _, leS_refl _, leS_refl _, leS_refl _, leS_refl _, trivial⟩, trivial, Nat.zero_le _, trivial, gives1 hp (leS_refl _)⟩⟩
theorem same_step {d : Dm} (hb : d.l.length ≤ 1000000) (hl : ∀ x ∈ d.l, Ctr prog f_sameDatum [dmS x, dmS x] [] eqO) : Ctr prog f_sameDatum [dmS d, dmS d] [] eqO := by
  refine ctr_fn mixed (N := 31) (fn := c_sameDatum) (c := bodyOf c_sameDatum) (ks := sdKs d.l) (ls := []) (by kernel_rfl) (by kernel_rfl) (by kernel_rfl) (all_cons (cF_ok (eq_ctr hb hl)) all_nil) fin0 (no_loops (by kernel_rfl)) (by kernel_rfl) (Q := sdQ d) (fun post hp => ?_) (fun R => by kernel_rfl)
  have hp : post (vB true, []) := hp
  unfold sdQ
  exact ⟨fun _ => ⟨fun _ => ⟨fun _ => ⟨⟨dmAB _, dmAB _, leS_refl _, trivial⟩, trivial, trivial, gives1 hp (leS_refl _)⟩, fun h => absurd h (by simp)⟩, fun h => absurd h (by simp)⟩, fun h => absurd h (by simp)⟩
theorem dmNL_len : ∀ l : List Dm, l.length ≤ dmNL l
  | [] => Nat.zero_le _
  | .mk _ _ _ _ :: l => by
    have := dmNL_len l
    simp only [List.length_cons, dmNL, dmN]; omega
theorem dmN_mem : ∀ {l : List Dm} {d : Dm}, d ∈ l → dmN d ≤ dmNL l
  | x :: l, d, h => by
    rcases List.mem_cons.1 h with rfl | h
    · simp only [dmNL]; omega
    · have := dmN_mem h
      simp only [dmNL]; omega
theorem same_ctr (d : Dm) (hd : dmN d ≤ 1000000) : Ctr prog f_sameDatum [dmS d, dmS d] [] eqO := by
  have key : ∀ (n : Nat) (d : Dm), dmN d < n → n ≤ 1000001 → Ctr prog f_sameDatum [dmS d, dmS d] [] eqO := by
    intro n
    induction n with
    | zero => intro d h; omega
    | succ n ih =>
      intro d h hn
      have h2 : dmNL d.l < dmN d := by cases d; simp only [Dm.l, dmN]; omega
      have h3 := dmNL_len d.l
      refine same_step (by omega) fun x hx => ih x ?_ (by omega)
      have h1 := dmN_mem hx
      omega
  exact key _ d (Nat.lt_succ_self _) (by omega)
theorem same_list (l : List Dm) (hl : dmNL l ≤ 1000000) : Ctr prog f_EqualFunc [dmB l, dmB l, .fn f_sameDatum []] [] eqO :=
  eq_ctr (by have := dmNL_len l; omega) fun d hd => same_ctr d (by have := dmN_mem hd; omega)
end Rd
