/- Check a heap. -/
import Derived.Test.YtfpnadmpmfcaaaaHpC
open Rx Go
namespace Go.Proofs.Ytfpnadmpmfcaaaa

def inS (acc : List Nat) (n : Int) : Bool := (mget (.int .i64) (stM acc) n).getD false

/-- a word that may be a value here -/
def wordOk (l : List Wd) (acc : List Nat) (w : Wd) : Bool := valueS w l.length && (!(w.k == 5) || inS acc w.n)

/-- what begins at a may be -/
def okAt (l : List Wd) (acc : List Nat) (a : Nat) : Bool :=
  if (at' l a).k = 10 then inS acc (at' l a).n && ((at' l (at' l a).n).k == 9 || ((at' l (at' l a).n).k == 10 && decide ((a : Int) < (at' l a).n)))
  else (List.range (spSize l a - spFrom l a).toNat).all fun i => wordOk l acc (at' l (a + spFrom l a + i))

def allOk (l : List Wd) : Bool := match startsS l with
  | some acc => acc.all (okAt l acc)
  | none => false

def checkB (l : List Wd) (lim : Int) : Bool := decide (50 ≤ lim) && decide (lim ≤ 60000) && decide ((l.length : Int) ≤ lim) && allOk l

def hS (l : List Wd) (lim : Int) : SV := .agg [wD l, vI .i64 lim]
def checkO (l : List Wd) (lim : Int) : T Out := .ite (checkB l lim) (.ret (vI .i64 0, [])) (.ret (vI .i64 9, []))

def valueF : FC := ⟨27, false, false, fun al ol => match al, ol with
  | [w, m], [] => match rdW w, rdI m with
    | some w, some m => some ([wS w, vI .i64 m], [], valueO w m)
    | _, _ => none
  | _, _ => none⟩
def startsFC : FC := ⟨26, true, false, fun al ol => match al, ol with
  | [s], [] => match rdL s with
    | some l => some ([wD l], [], startsO l)
    | none => none
  | _, _ => none⟩

/-- the words that are looked at, from i on -/
structure CkI where
  l : List Wd
  lim : Int
  acc : List Nat
  n : Nat
  seen : List Nat
  ws : List Wd
  i : Nat
def ckObs (l : List Wd) (lim : Int) (acc : List Nat) (n : Nat) (seen : List Nat) : List (Option Ob) := [some (.cells 25 [wD l, vI .i64 lim]), some (mapT acc), some (.it 1 n seen)]
def ciArgs (x : CkI) : List SV := [.ptr 0 0, vI .i64 0, .nm 1, .ptr 2 0, wD x.ws, vI .i64 x.ws.length, vI .i64 x.i]
def ciOut (x : CkI) : T OutC := .need (fitsW x.ws) (.ite ((x.ws.drop x.i).all (wordOk x.l x.acc))
  (.ret (.exit 2, [.ptr 0 0, vI .i64 0, .nm 1, .ptr 2 0], ckObs x.l x.lim x.acc x.n x.seen))
  (.ret (.ret, [vI .i64 9], [])))

def rdH (o : Option Ob) : Option (List Wd × Int) := match o with
  | some (.cells _ [s, .dt (.cell (.int _ n))]) => match rdL s with
    | some l => some (l, n)
    | none => none
  | _ => none
def rdM (o : Option Ob) : Option (List Nat) := match o with
  | some (.mp (.int _) .bool l) => some (l.map fun (x : Int × Bool) => x.1.toNat)
  | _ => none
def rdIt (o : Option Ob) : Option (Nat × List Nat) := match o with
  | some (.it _ n s) => some (n, s)
  | _ => none

def ciLF : LF := ⟨15, ⟨[1, 2, 3, 37, 98, 99, 100], [1, 2, 3, 37], [2]⟩, fun svs obs => match svs, obs with
  | [_, _, _, _, s, _, _], [o1, o2, o3] => match rdL s, rdH o1, rdM o2, rdIt o3 with
    | some ws, some (l, lim), some acc, some (n, seen) => some (ciArgs ⟨l, lim, acc, n, seen, ws, 0⟩, ckObs l lim acc n seen, ciOut ⟨l, lim, acc, n, seen, ws, 0⟩)
    | _, _, _, _ => none
  | _, _ => none⟩

/-- the map is gone over, seen behind it -/
structure CkO where
  l : List Wd
  lim : Int
  acc : List Nat
  seen : List Nat
def coArgs (_ : CkO) : List SV := [.ptr 0 0, vI .i64 0, .nm 1, .ptr 2 0]
def coOut (x : CkO) : T OutC := .need (fitsW x.l ∧ ∀ a ∈ x.acc, a < x.l.length ∧ ((at' x.l a).k = 10 ∨ spP x.l a)) (.ite ((Rx.leftOf x.acc.length x.seen).all fun k => okAt x.l x.acc (x.acc.getD k 0))
  (.ret (.exit 0, [vI .i64 0], []))
  (.ret (.ret, [vI .i64 9], [])))
def coLF : LF := ⟨7, ⟨[1, 2, 3, 37], [2], [2]⟩, fun svs obs => match svs, obs with
  | [_, _, _, _], [o1, o2, o3] => match rdH o1, rdM o2, rdIt o3 with
    | some (l, lim), some acc, some (_, seen) => some (coArgs ⟨l, lim, acc, seen⟩, ckObs l lim acc acc.length seen, coOut ⟨l, lim, acc, seen⟩)
    | _, _, _ => none
  | _, _ => none⟩
def ckKs : List (Nat × Nat × FC) := [(3, 2, startsFC), (13, 3, spanF), (17, 4, valueF)]
noncomputable def ckE : Env := fnE Try.prog 123 0 ckKs [ciLF, coLF]
noncomputable def coLoop : Code := (loopIn 7 (bodyOf Try.f14)).getD .skip
noncomputable def ciLoop : Code := (loopIn 15 (bodyOf Try.f14)).getD .skip

def ciQ (l : List Wd) (lim : Int) (acc : List Nat) (n : Nat) (seen : List Nat) (ws : List Wd) (i : Nat) (Rn : List SV → List (Option Ob) → Prop) (Re : Ex → List SV → List (Option Ob) → Prop) : Prop :=
(((Decidable.decide ((↑i : Int) < (↑ws.length : Int)) = Bool.true) →
 ((((0 : Int) ≤ (↑i : Int)) ∧
   ((↑i : Int) < (↑ws.length : Int))) ∧
  ((Rx.leL ([SV.agg [SV.dt (Dt.cell (Go.Value.int Go.IntKind.i64 (ws.getD (↑i : Int).toNat Inhabited.default).k)), SV.dt (Dt.cell (Go.Value.int Go.IntKind.i64 (ws.getD (↑i : Int).toNat Inhabited.default).n)), SV.dt (Dt.cell (Go.Value.string (ws.getD (↑i : Int).toNat Inhabited.default).s))], SV.dt (Dt.cell (Go.Value.int Go.IntKind.i64 (↑l.length : Int)))]) ([SV.agg [SV.dt (Dt.cell (Go.Value.int Go.IntKind.i64 (ws.getD (↑i : Int).toNat Inhabited.default).k)), SV.dt (Dt.cell (Go.Value.int Go.IntKind.i64 (ws.getD (↑i : Int).toNat Inhabited.default).n)), SV.dt (Dt.cell (Go.Value.string (ws.getD (↑i : Int).toNat Inhabited.default).s))], SV.dt (Dt.cell (Go.Value.int Go.IntKind.i64 (↑l.length : Int)))])) ∧
   ((Rx.leObL ([]) ([])) ∧
    ((((!Go.Proofs.Ytfpnadmpmfcaaaa.valueS (Go.Proofs.Ytfpnadmpmfcaaaa.Wd.mk (ws.getD (↑i : Int).toNat Inhabited.default).k (ws.getD (↑i : Int).toNat Inhabited.default).n (ws.getD (↑i : Int).toNat Inhabited.default).s) (↑l.length : Int)) = Bool.true) →
      Re (Rx.Ex.ret) ([SV.dt (Dt.cell (Go.Value.int Go.IntKind.i64 (9 : Int)))]) ([])) ∧
     (((!Go.Proofs.Ytfpnadmpmfcaaaa.valueS (Go.Proofs.Ytfpnadmpmfcaaaa.Wd.mk (ws.getD (↑i : Int).toNat Inhabited.default).k (ws.getD (↑i : Int).toNat Inhabited.default).n (ws.getD (↑i : Int).toNat Inhabited.default).s) (↑l.length : Int)) = Bool.false) →
      (((((ws.getD (↑i : Int).toNat Inhabited.default).k == (5 : Int)) = Bool.true) →
        ((((!Rx.toB ((Rx.mget (Rx.Ty.int Go.IntKind.i64) (Go.Proofs.Ytfpnadmpmfcaaaa.stM acc) (ws.getD (↑i : Int).toNat Inhabited.default).n).getD Rx.Ty.bool.dflt)) = Bool.true) →
          Re (Rx.Ex.ret) ([SV.dt (Dt.cell (Go.Value.int Go.IntKind.i64 (9 : Int)))]) ([])) ∧
         (((!Rx.toB ((Rx.mget (Rx.Ty.int Go.IntKind.i64) (Go.Proofs.Ytfpnadmpmfcaaaa.stM acc) (ws.getD (↑i : Int).toNat Inhabited.default).n).getD Rx.Ty.bool.dflt)) = Bool.false) →
          (((Rx.lo Go.IntKind.i64 ≤ (↑i : Int) + (1 : Int)) ∧
            ((↑i : Int) + (1 : Int) ≤ Rx.hi Go.IntKind.i64)) ∧
           Rn ([SV.ptr 0 0, SV.dt (Dt.cell (Go.Value.int Go.IntKind.i64 (0 : Int))), SV.nm 1, SV.ptr 2 0, SV.dt (Dt.arr ((3 : Nat)) (ws.length) (Go.Proofs.Ytfpnadmpmfcaaaa.wF ws)), SV.dt (Dt.cell (Go.Value.int Go.IntKind.i64 (↑ws.length : Int))), SV.dt (Dt.cell (Go.Value.int Go.IntKind.i64 ((↑i : Int) + (1 : Int))))]) ([some (Ob.cells 25 [SV.dt (Dt.arr ((3 : Nat)) (l.length) (Go.Proofs.Ytfpnadmpmfcaaaa.wF l)), SV.dt (Dt.cell (Go.Value.int Go.IntKind.i64 lim))]), some (Ob.mp (Rx.Ty.int Go.IntKind.i64) (Rx.Ty.bool) (Go.Proofs.Ytfpnadmpmfcaaaa.stM acc)), some (Ob.it 1 (n) (seen))]))))) ∧
       ((((ws.getD (↑i : Int).toNat Inhabited.default).k == (5 : Int)) = Bool.false) →
        (((Rx.lo Go.IntKind.i64 ≤ (↑i : Int) + (1 : Int)) ∧
          ((↑i : Int) + (1 : Int) ≤ Rx.hi Go.IntKind.i64)) ∧
         Rn ([SV.ptr 0 0, SV.dt (Dt.cell (Go.Value.int Go.IntKind.i64 (0 : Int))), SV.nm 1, SV.ptr 2 0, SV.dt (Dt.arr ((3 : Nat)) (ws.length) (Go.Proofs.Ytfpnadmpmfcaaaa.wF ws)), SV.dt (Dt.cell (Go.Value.int Go.IntKind.i64 (↑ws.length : Int))), SV.dt (Dt.cell (Go.Value.int Go.IntKind.i64 ((↑i : Int) + (1 : Int))))]) ([some (Ob.cells 25 [SV.dt (Dt.arr ((3 : Nat)) (l.length) (Go.Proofs.Ytfpnadmpmfcaaaa.wF l)), SV.dt (Dt.cell (Go.Value.int Go.IntKind.i64 lim))]), some (Ob.mp (Rx.Ty.int Go.IntKind.i64) (Rx.Ty.bool) (Go.Proofs.Ytfpnadmpmfcaaaa.stM acc)), some (Ob.it 1 (n) (seen))])))))))))) ∧
((Decidable.decide ((↑i : Int) < (↑ws.length : Int)) = Bool.false) →
 Re (Rx.Ex.exit (2 : Nat)) ([SV.ptr 0 0, SV.dt (Dt.cell (Go.Value.int Go.IntKind.i64 (0 : Int))), SV.nm 1, SV.ptr 2 0]) ([some (Ob.cells 25 [SV.dt (Dt.arr ((3 : Nat)) (l.length) (Go.Proofs.Ytfpnadmpmfcaaaa.wF l)), SV.dt (Dt.cell (Go.Value.int Go.IntKind.i64 lim))]), some (Ob.mp (Rx.Ty.int Go.IntKind.i64) (Rx.Ty.bool) (Go.Proofs.Ytfpnadmpmfcaaaa.stM acc)), some (Ob.it 1 (n) (seen))])))
def coQ (l : List Wd) (lim : Int) (acc : List Nat) (seen : List Nat) (Rn : List SV → List (Option Ob) → Prop) (Re : Ex → List SV → List (Option Ob) → Prop) : Prop :=
((acc.length = (Go.Proofs.Ytfpnadmpmfcaaaa.stM acc).length) ∧
((((Rx.leftOf acc.length seen).isEmpty = Bool.true) →
  Re (Rx.Ex.exit (0 : Nat)) ([SV.dt (Dt.cell (Go.Value.int Go.IntKind.i64 (0 : Int)))]) ([])) ∧
 (((Rx.leftOf acc.length seen).isEmpty = Bool.false) →
  (∀ (i : Nat), ((i < (Rx.leftOf acc.length seen).length) →
    (((acc.length = (Go.Proofs.Ytfpnadmpmfcaaaa.stM acc).length) ∧
      ((Rx.leftOf acc.length seen).getD i (0 : Nat) < (Go.Proofs.Ytfpnadmpmfcaaaa.stM acc).length)) ∧
     ((((0 : Int) ≤ Rx.toI (k := Go.IntKind.i64) (Rx.entAt (Rx.Ty.int Go.IntKind.i64) Rx.Ty.bool (Go.Proofs.Ytfpnadmpmfcaaaa.stM acc) ((Rx.leftOf acc.length seen).getD i (0 : Nat))).fst) ∧
       (Rx.toI (k := Go.IntKind.i64) (Rx.entAt (Rx.Ty.int Go.IntKind.i64) Rx.Ty.bool (Go.Proofs.Ytfpnadmpmfcaaaa.stM acc) ((Rx.leftOf acc.length seen).getD i (0 : Nat))).fst < (↑l.length : Int))) ∧
      (((((l.getD (Rx.toI (k := Go.IntKind.i64) (Rx.entAt (Rx.Ty.int Go.IntKind.i64) Rx.Ty.bool (Go.Proofs.Ytfpnadmpmfcaaaa.stM acc) ((Rx.leftOf acc.length seen).getD i (0 : Nat))).fst).toNat Inhabited.default).k == (10 : Int)) = Bool.true) →
        ((((0 : Int) ≤ Rx.toI (k := Go.IntKind.i64) (Rx.entAt (Rx.Ty.int Go.IntKind.i64) Rx.Ty.bool (Go.Proofs.Ytfpnadmpmfcaaaa.stM acc) ((Rx.leftOf acc.length seen).getD i (0 : Nat))).fst) ∧
          (Rx.toI (k := Go.IntKind.i64) (Rx.entAt (Rx.Ty.int Go.IntKind.i64) Rx.Ty.bool (Go.Proofs.Ytfpnadmpmfcaaaa.stM acc) ((Rx.leftOf acc.length seen).getD i (0 : Nat))).fst < (↑l.length : Int))) ∧
         ((((!Rx.toB ((Rx.mget (Rx.Ty.int Go.IntKind.i64) (Go.Proofs.Ytfpnadmpmfcaaaa.stM acc) (l.getD (Rx.toI (k := Go.IntKind.i64) (Rx.entAt (Rx.Ty.int Go.IntKind.i64) Rx.Ty.bool (Go.Proofs.Ytfpnadmpmfcaaaa.stM acc) ((Rx.leftOf acc.length seen).getD i (0 : Nat))).fst).toNat Inhabited.default).n).getD Rx.Ty.bool.dflt)) = Bool.true) →
           Re (Rx.Ex.ret) ([SV.dt (Dt.cell (Go.Value.int Go.IntKind.i64 (9 : Int)))]) ([])) ∧
          (((!Rx.toB ((Rx.mget (Rx.Ty.int Go.IntKind.i64) (Go.Proofs.Ytfpnadmpmfcaaaa.stM acc) (l.getD (Rx.toI (k := Go.IntKind.i64) (Rx.entAt (Rx.Ty.int Go.IntKind.i64) Rx.Ty.bool (Go.Proofs.Ytfpnadmpmfcaaaa.stM acc) ((Rx.leftOf acc.length seen).getD i (0 : Nat))).fst).toNat Inhabited.default).n).getD Rx.Ty.bool.dflt)) = Bool.false) →
           ((((0 : Int) ≤ (l.getD (Rx.toI (k := Go.IntKind.i64) (Rx.entAt (Rx.Ty.int Go.IntKind.i64) Rx.Ty.bool (Go.Proofs.Ytfpnadmpmfcaaaa.stM acc) ((Rx.leftOf acc.length seen).getD i (0 : Nat))).fst).toNat Inhabited.default).n) ∧
             ((l.getD (Rx.toI (k := Go.IntKind.i64) (Rx.entAt (Rx.Ty.int Go.IntKind.i64) Rx.Ty.bool (Go.Proofs.Ytfpnadmpmfcaaaa.stM acc) ((Rx.leftOf acc.length seen).getD i (0 : Nat))).fst).toNat Inhabited.default).n < (↑l.length : Int))) ∧
            (((((l.getD (l.getD (Rx.toI (k := Go.IntKind.i64) (Rx.entAt (Rx.Ty.int Go.IntKind.i64) Rx.Ty.bool (Go.Proofs.Ytfpnadmpmfcaaaa.stM acc) ((Rx.leftOf acc.length seen).getD i (0 : Nat))).fst).toNat Inhabited.default).n.toNat Inhabited.default).k != (9 : Int)) = Bool.true) →
              ((((0 : Int) ≤ (l.getD (Rx.toI (k := Go.IntKind.i64) (Rx.entAt (Rx.Ty.int Go.IntKind.i64) Rx.Ty.bool (Go.Proofs.Ytfpnadmpmfcaaaa.stM acc) ((Rx.leftOf acc.length seen).getD i (0 : Nat))).fst).toNat Inhabited.default).n) ∧
                ((l.getD (Rx.toI (k := Go.IntKind.i64) (Rx.entAt (Rx.Ty.int Go.IntKind.i64) Rx.Ty.bool (Go.Proofs.Ytfpnadmpmfcaaaa.stM acc) ((Rx.leftOf acc.length seen).getD i (0 : Nat))).fst).toNat Inhabited.default).n < (↑l.length : Int))) ∧
               (((((l.getD (l.getD (Rx.toI (k := Go.IntKind.i64) (Rx.entAt (Rx.Ty.int Go.IntKind.i64) Rx.Ty.bool (Go.Proofs.Ytfpnadmpmfcaaaa.stM acc) ((Rx.leftOf acc.length seen).getD i (0 : Nat))).fst).toNat Inhabited.default).n.toNat Inhabited.default).k != (10 : Int)) = Bool.true) →
                 Re (Rx.Ex.ret) ([SV.dt (Dt.cell (Go.Value.int Go.IntKind.i64 (9 : Int)))]) ([])) ∧
                ((((l.getD (l.getD (Rx.toI (k := Go.IntKind.i64) (Rx.entAt (Rx.Ty.int Go.IntKind.i64) Rx.Ty.bool (Go.Proofs.Ytfpnadmpmfcaaaa.stM acc) ((Rx.leftOf acc.length seen).getD i (0 : Nat))).fst).toNat Inhabited.default).n.toNat Inhabited.default).k != (10 : Int)) = Bool.false) →
                 (((Decidable.decide ((l.getD (Rx.toI (k := Go.IntKind.i64) (Rx.entAt (Rx.Ty.int Go.IntKind.i64) Rx.Ty.bool (Go.Proofs.Ytfpnadmpmfcaaaa.stM acc) ((Rx.leftOf acc.length seen).getD i (0 : Nat))).fst).toNat Inhabited.default).n ≤ Rx.toI (k := Go.IntKind.i64) (Rx.entAt (Rx.Ty.int Go.IntKind.i64) Rx.Ty.bool (Go.Proofs.Ytfpnadmpmfcaaaa.stM acc) ((Rx.leftOf acc.length seen).getD i (0 : Nat))).fst) = Bool.true) →
                   Re (Rx.Ex.ret) ([SV.dt (Dt.cell (Go.Value.int Go.IntKind.i64 (9 : Int)))]) ([])) ∧
                  ((Decidable.decide ((l.getD (Rx.toI (k := Go.IntKind.i64) (Rx.entAt (Rx.Ty.int Go.IntKind.i64) Rx.Ty.bool (Go.Proofs.Ytfpnadmpmfcaaaa.stM acc) ((Rx.leftOf acc.length seen).getD i (0 : Nat))).fst).toNat Inhabited.default).n ≤ Rx.toI (k := Go.IntKind.i64) (Rx.entAt (Rx.Ty.int Go.IntKind.i64) Rx.Ty.bool (Go.Proofs.Ytfpnadmpmfcaaaa.stM acc) ((Rx.leftOf acc.length seen).getD i (0 : Nat))).fst) = Bool.false) →
                   Rn ([SV.ptr 0 0, SV.dt (Dt.cell (Go.Value.int Go.IntKind.i64 (0 : Int))), SV.nm 1, SV.ptr 2 0]) ([some (Ob.cells 25 [SV.dt (Dt.arr ((3 : Nat)) (l.length) (Go.Proofs.Ytfpnadmpmfcaaaa.wF l)), SV.dt (Dt.cell (Go.Value.int Go.IntKind.i64 lim))]), some (Ob.mp (Rx.Ty.int Go.IntKind.i64) (Rx.Ty.bool) (Go.Proofs.Ytfpnadmpmfcaaaa.stM acc)), some (Ob.it 1 (acc.length) ((Rx.leftOf acc.length seen).getD i (0 : Nat) :: seen))]))))))) ∧
             ((((l.getD (l.getD (Rx.toI (k := Go.IntKind.i64) (Rx.entAt (Rx.Ty.int Go.IntKind.i64) Rx.Ty.bool (Go.Proofs.Ytfpnadmpmfcaaaa.stM acc) ((Rx.leftOf acc.length seen).getD i (0 : Nat))).fst).toNat Inhabited.default).n.toNat Inhabited.default).k != (9 : Int)) = Bool.false) →
              Rn ([SV.ptr 0 0, SV.dt (Dt.cell (Go.Value.int Go.IntKind.i64 (0 : Int))), SV.nm 1, SV.ptr 2 0]) ([some (Ob.cells 25 [SV.dt (Dt.arr ((3 : Nat)) (l.length) (Go.Proofs.Ytfpnadmpmfcaaaa.wF l)), SV.dt (Dt.cell (Go.Value.int Go.IntKind.i64 lim))]), some (Ob.mp (Rx.Ty.int Go.IntKind.i64) (Rx.Ty.bool) (Go.Proofs.Ytfpnadmpmfcaaaa.stM acc)), some (Ob.it 1 (acc.length) ((Rx.leftOf acc.length seen).getD i (0 : Nat) :: seen))])))))))) ∧
       ((((l.getD (Rx.toI (k := Go.IntKind.i64) (Rx.entAt (Rx.Ty.int Go.IntKind.i64) Rx.Ty.bool (Go.Proofs.Ytfpnadmpmfcaaaa.stM acc) ((Rx.leftOf acc.length seen).getD i (0 : Nat))).fst).toNat Inhabited.default).k == (10 : Int)) = Bool.false) →
        ((Rx.leL ([SV.dt (Dt.arr ((3 : Nat)) (l.length) (Go.Proofs.Ytfpnadmpmfcaaaa.wF l)), SV.dt (Dt.cell (Go.Value.int Go.IntKind.i64 (Rx.toI (k := Go.IntKind.i64) (Rx.entAt (Rx.Ty.int Go.IntKind.i64) Rx.Ty.bool (Go.Proofs.Ytfpnadmpmfcaaaa.stM acc) ((Rx.leftOf acc.length seen).getD i (0 : Nat))).fst)))]) ([SV.dt (Dt.arr ((3 : Nat)) ((Go.Proofs.Ytfpnadmpmfcaaaa.rdF l.length (Go.Proofs.Ytfpnadmpmfcaaaa.wF l)).length) (Go.Proofs.Ytfpnadmpmfcaaaa.wF (Go.Proofs.Ytfpnadmpmfcaaaa.rdF l.length (Go.Proofs.Ytfpnadmpmfcaaaa.wF l)))), SV.dt (Dt.cell (Go.Value.int Go.IntKind.i64 (Rx.toI (k := Go.IntKind.i64) (Rx.entAt (Rx.Ty.int Go.IntKind.i64) Rx.Ty.bool (Go.Proofs.Ytfpnadmpmfcaaaa.stM acc) ((Rx.leftOf acc.length seen).getD i (0 : Nat))).fst)))])) ∧
         ((Rx.leObL ([]) ([])) ∧
          ((((0 : Int) ≤ Rx.toI (k := Go.IntKind.i64) (Rx.entAt (Rx.Ty.int Go.IntKind.i64) Rx.Ty.bool (Go.Proofs.Ytfpnadmpmfcaaaa.stM acc) ((Rx.leftOf acc.length seen).getD i (0 : Nat))).fst) ∧
            ((Rx.toI (k := Go.IntKind.i64) (Rx.entAt (Rx.Ty.int Go.IntKind.i64) Rx.Ty.bool (Go.Proofs.Ytfpnadmpmfcaaaa.stM acc) ((Rx.leftOf acc.length seen).getD i (0 : Nat))).fst < (↑(Go.Proofs.Ytfpnadmpmfcaaaa.rdF l.length (Go.Proofs.Ytfpnadmpmfcaaaa.wF l)).length : Int)) ∧
             (Go.Proofs.Ytfpnadmpmfcaaaa.fitsW (Go.Proofs.Ytfpnadmpmfcaaaa.rdF l.length (Go.Proofs.Ytfpnadmpmfcaaaa.wF l))))) ∧
           (((Rx.lo Go.IntKind.i64 ≤ Rx.toI (k := Go.IntKind.i64) (Rx.entAt (Rx.Ty.int Go.IntKind.i64) Rx.Ty.bool (Go.Proofs.Ytfpnadmpmfcaaaa.stM acc) ((Rx.leftOf acc.length seen).getD i (0 : Nat))).fst + Go.Proofs.Ytfpnadmpmfcaaaa.spFrom (Go.Proofs.Ytfpnadmpmfcaaaa.rdF l.length (Go.Proofs.Ytfpnadmpmfcaaaa.wF l)) (Rx.toI (k := Go.IntKind.i64) (Rx.entAt (Rx.Ty.int Go.IntKind.i64) Rx.Ty.bool (Go.Proofs.Ytfpnadmpmfcaaaa.stM acc) ((Rx.leftOf acc.length seen).getD i (0 : Nat))).fst)) ∧
             (Rx.toI (k := Go.IntKind.i64) (Rx.entAt (Rx.Ty.int Go.IntKind.i64) Rx.Ty.bool (Go.Proofs.Ytfpnadmpmfcaaaa.stM acc) ((Rx.leftOf acc.length seen).getD i (0 : Nat))).fst + Go.Proofs.Ytfpnadmpmfcaaaa.spFrom (Go.Proofs.Ytfpnadmpmfcaaaa.rdF l.length (Go.Proofs.Ytfpnadmpmfcaaaa.wF l)) (Rx.toI (k := Go.IntKind.i64) (Rx.entAt (Rx.Ty.int Go.IntKind.i64) Rx.Ty.bool (Go.Proofs.Ytfpnadmpmfcaaaa.stM acc) ((Rx.leftOf acc.length seen).getD i (0 : Nat))).fst) ≤ Rx.hi Go.IntKind.i64)) ∧
            (((Rx.lo Go.IntKind.i64 ≤ Rx.toI (k := Go.IntKind.i64) (Rx.entAt (Rx.Ty.int Go.IntKind.i64) Rx.Ty.bool (Go.Proofs.Ytfpnadmpmfcaaaa.stM acc) ((Rx.leftOf acc.length seen).getD i (0 : Nat))).fst + Go.Proofs.Ytfpnadmpmfcaaaa.spSize (Go.Proofs.Ytfpnadmpmfcaaaa.rdF l.length (Go.Proofs.Ytfpnadmpmfcaaaa.wF l)) (Rx.toI (k := Go.IntKind.i64) (Rx.entAt (Rx.Ty.int Go.IntKind.i64) Rx.Ty.bool (Go.Proofs.Ytfpnadmpmfcaaaa.stM acc) ((Rx.leftOf acc.length seen).getD i (0 : Nat))).fst)) ∧
              (Rx.toI (k := Go.IntKind.i64) (Rx.entAt (Rx.Ty.int Go.IntKind.i64) Rx.Ty.bool (Go.Proofs.Ytfpnadmpmfcaaaa.stM acc) ((Rx.leftOf acc.length seen).getD i (0 : Nat))).fst + Go.Proofs.Ytfpnadmpmfcaaaa.spSize (Go.Proofs.Ytfpnadmpmfcaaaa.rdF l.length (Go.Proofs.Ytfpnadmpmfcaaaa.wF l)) (Rx.toI (k := Go.IntKind.i64) (Rx.entAt (Rx.Ty.int Go.IntKind.i64) Rx.Ty.bool (Go.Proofs.Ytfpnadmpmfcaaaa.stM acc) ((Rx.leftOf acc.length seen).getD i (0 : Nat))).fst) ≤ Rx.hi Go.IntKind.i64)) ∧
             ((((0 : Int) ≤ Rx.toI (k := Go.IntKind.i64) (Rx.entAt (Rx.Ty.int Go.IntKind.i64) Rx.Ty.bool (Go.Proofs.Ytfpnadmpmfcaaaa.stM acc) ((Rx.leftOf acc.length seen).getD i (0 : Nat))).fst + Go.Proofs.Ytfpnadmpmfcaaaa.spFrom (Go.Proofs.Ytfpnadmpmfcaaaa.rdF l.length (Go.Proofs.Ytfpnadmpmfcaaaa.wF l)) (Rx.toI (k := Go.IntKind.i64) (Rx.entAt (Rx.Ty.int Go.IntKind.i64) Rx.Ty.bool (Go.Proofs.Ytfpnadmpmfcaaaa.stM acc) ((Rx.leftOf acc.length seen).getD i (0 : Nat))).fst)) ∧
               ((Rx.toI (k := Go.IntKind.i64) (Rx.entAt (Rx.Ty.int Go.IntKind.i64) Rx.Ty.bool (Go.Proofs.Ytfpnadmpmfcaaaa.stM acc) ((Rx.leftOf acc.length seen).getD i (0 : Nat))).fst + Go.Proofs.Ytfpnadmpmfcaaaa.spFrom (Go.Proofs.Ytfpnadmpmfcaaaa.rdF l.length (Go.Proofs.Ytfpnadmpmfcaaaa.wF l)) (Rx.toI (k := Go.IntKind.i64) (Rx.entAt (Rx.Ty.int Go.IntKind.i64) Rx.Ty.bool (Go.Proofs.Ytfpnadmpmfcaaaa.stM acc) ((Rx.leftOf acc.length seen).getD i (0 : Nat))).fst) ≤ Rx.toI (k := Go.IntKind.i64) (Rx.entAt (Rx.Ty.int Go.IntKind.i64) Rx.Ty.bool (Go.Proofs.Ytfpnadmpmfcaaaa.stM acc) ((Rx.leftOf acc.length seen).getD i (0 : Nat))).fst + Go.Proofs.Ytfpnadmpmfcaaaa.spSize (Go.Proofs.Ytfpnadmpmfcaaaa.rdF l.length (Go.Proofs.Ytfpnadmpmfcaaaa.wF l)) (Rx.toI (k := Go.IntKind.i64) (Rx.entAt (Rx.Ty.int Go.IntKind.i64) Rx.Ty.bool (Go.Proofs.Ytfpnadmpmfcaaaa.stM acc) ((Rx.leftOf acc.length seen).getD i (0 : Nat))).fst)) ∧
                (Rx.toI (k := Go.IntKind.i64) (Rx.entAt (Rx.Ty.int Go.IntKind.i64) Rx.Ty.bool (Go.Proofs.Ytfpnadmpmfcaaaa.stM acc) ((Rx.leftOf acc.length seen).getD i (0 : Nat))).fst + Go.Proofs.Ytfpnadmpmfcaaaa.spSize (Go.Proofs.Ytfpnadmpmfcaaaa.rdF l.length (Go.Proofs.Ytfpnadmpmfcaaaa.wF l)) (Rx.toI (k := Go.IntKind.i64) (Rx.entAt (Rx.Ty.int Go.IntKind.i64) Rx.Ty.bool (Go.Proofs.Ytfpnadmpmfcaaaa.stM acc) ((Rx.leftOf acc.length seen).getD i (0 : Nat))).fst) ≤ (↑l.length : Int)))) ∧
              (((Rx.leS (SV.ptr 0 0) (SV.ptr 0 0)) ∧
                ((Rx.leS (SV.dt (Dt.cell (Go.Value.int Go.IntKind.i64 (0 : Int)))) (SV.dt (Dt.cell (Go.Value.int Go.IntKind.i64 (0 : Int))))) ∧
                 ((Rx.leS (SV.nm 1) (SV.nm 1)) ∧
                  ((Rx.leS (SV.ptr 2 0) (SV.ptr 2 0)) ∧
                   ((Rx.leS (SV.dt (Dt.arr ((3 : Nat)) ((Rx.toI (k := Go.IntKind.i64) (Rx.entAt (Rx.Ty.int Go.IntKind.i64) Rx.Ty.bool (Go.Proofs.Ytfpnadmpmfcaaaa.stM acc) ((Rx.leftOf acc.length seen).getD i (0 : Nat))).fst + Go.Proofs.Ytfpnadmpmfcaaaa.spSize (Go.Proofs.Ytfpnadmpmfcaaaa.rdF l.length (Go.Proofs.Ytfpnadmpmfcaaaa.wF l)) (Rx.toI (k := Go.IntKind.i64) (Rx.entAt (Rx.Ty.int Go.IntKind.i64) Rx.Ty.bool (Go.Proofs.Ytfpnadmpmfcaaaa.stM acc) ((Rx.leftOf acc.length seen).getD i (0 : Nat))).fst)).toNat - (Rx.toI (k := Go.IntKind.i64) (Rx.entAt (Rx.Ty.int Go.IntKind.i64) Rx.Ty.bool (Go.Proofs.Ytfpnadmpmfcaaaa.stM acc) ((Rx.leftOf acc.length seen).getD i (0 : Nat))).fst + Go.Proofs.Ytfpnadmpmfcaaaa.spFrom (Go.Proofs.Ytfpnadmpmfcaaaa.rdF l.length (Go.Proofs.Ytfpnadmpmfcaaaa.wF l)) (Rx.toI (k := Go.IntKind.i64) (Rx.entAt (Rx.Ty.int Go.IntKind.i64) Rx.Ty.bool (Go.Proofs.Ytfpnadmpmfcaaaa.stM acc) ((Rx.leftOf acc.length seen).getD i (0 : Nat))).fst)).toNat) (fun i_1 j => Go.Proofs.Ytfpnadmpmfcaaaa.wF l (i_1 + (Rx.toI (k := Go.IntKind.i64) (Rx.entAt (Rx.Ty.int Go.IntKind.i64) Rx.Ty.bool (Go.Proofs.Ytfpnadmpmfcaaaa.stM acc) ((Rx.leftOf acc.length seen).getD i (0 : Nat))).fst + Go.Proofs.Ytfpnadmpmfcaaaa.spFrom (Go.Proofs.Ytfpnadmpmfcaaaa.rdF l.length (Go.Proofs.Ytfpnadmpmfcaaaa.wF l)) (Rx.toI (k := Go.IntKind.i64) (Rx.entAt (Rx.Ty.int Go.IntKind.i64) Rx.Ty.bool (Go.Proofs.Ytfpnadmpmfcaaaa.stM acc) ((Rx.leftOf acc.length seen).getD i (0 : Nat))).fst)).toNat) j))) (SV.dt (Dt.arr ((3 : Nat)) ((Go.Proofs.Ytfpnadmpmfcaaaa.rdF ((Rx.toI (k := Go.IntKind.i64) (Rx.entAt (Rx.Ty.int Go.IntKind.i64) Rx.Ty.bool (Go.Proofs.Ytfpnadmpmfcaaaa.stM acc) ((Rx.leftOf acc.length seen).getD i (0 : Nat))).fst + Go.Proofs.Ytfpnadmpmfcaaaa.spSize (Go.Proofs.Ytfpnadmpmfcaaaa.rdF l.length (Go.Proofs.Ytfpnadmpmfcaaaa.wF l)) (Rx.toI (k := Go.IntKind.i64) (Rx.entAt (Rx.Ty.int Go.IntKind.i64) Rx.Ty.bool (Go.Proofs.Ytfpnadmpmfcaaaa.stM acc) ((Rx.leftOf acc.length seen).getD i (0 : Nat))).fst)).toNat - (Rx.toI (k := Go.IntKind.i64) (Rx.entAt (Rx.Ty.int Go.IntKind.i64) Rx.Ty.bool (Go.Proofs.Ytfpnadmpmfcaaaa.stM acc) ((Rx.leftOf acc.length seen).getD i (0 : Nat))).fst + Go.Proofs.Ytfpnadmpmfcaaaa.spFrom (Go.Proofs.Ytfpnadmpmfcaaaa.rdF l.length (Go.Proofs.Ytfpnadmpmfcaaaa.wF l)) (Rx.toI (k := Go.IntKind.i64) (Rx.entAt (Rx.Ty.int Go.IntKind.i64) Rx.Ty.bool (Go.Proofs.Ytfpnadmpmfcaaaa.stM acc) ((Rx.leftOf acc.length seen).getD i (0 : Nat))).fst)).toNat) fun i_1 j => Go.Proofs.Ytfpnadmpmfcaaaa.wF l (i_1 + (Rx.toI (k := Go.IntKind.i64) (Rx.entAt (Rx.Ty.int Go.IntKind.i64) Rx.Ty.bool (Go.Proofs.Ytfpnadmpmfcaaaa.stM acc) ((Rx.leftOf acc.length seen).getD i (0 : Nat))).fst + Go.Proofs.Ytfpnadmpmfcaaaa.spFrom (Go.Proofs.Ytfpnadmpmfcaaaa.rdF l.length (Go.Proofs.Ytfpnadmpmfcaaaa.wF l)) (Rx.toI (k := Go.IntKind.i64) (Rx.entAt (Rx.Ty.int Go.IntKind.i64) Rx.Ty.bool (Go.Proofs.Ytfpnadmpmfcaaaa.stM acc) ((Rx.leftOf acc.length seen).getD i (0 : Nat))).fst)).toNat) j).length) (Go.Proofs.Ytfpnadmpmfcaaaa.wF (Go.Proofs.Ytfpnadmpmfcaaaa.rdF ((Rx.toI (k := Go.IntKind.i64) (Rx.entAt (Rx.Ty.int Go.IntKind.i64) Rx.Ty.bool (Go.Proofs.Ytfpnadmpmfcaaaa.stM acc) ((Rx.leftOf acc.length seen).getD i (0 : Nat))).fst + Go.Proofs.Ytfpnadmpmfcaaaa.spSize (Go.Proofs.Ytfpnadmpmfcaaaa.rdF l.length (Go.Proofs.Ytfpnadmpmfcaaaa.wF l)) (Rx.toI (k := Go.IntKind.i64) (Rx.entAt (Rx.Ty.int Go.IntKind.i64) Rx.Ty.bool (Go.Proofs.Ytfpnadmpmfcaaaa.stM acc) ((Rx.leftOf acc.length seen).getD i (0 : Nat))).fst)).toNat - (Rx.toI (k := Go.IntKind.i64) (Rx.entAt (Rx.Ty.int Go.IntKind.i64) Rx.Ty.bool (Go.Proofs.Ytfpnadmpmfcaaaa.stM acc) ((Rx.leftOf acc.length seen).getD i (0 : Nat))).fst + Go.Proofs.Ytfpnadmpmfcaaaa.spFrom (Go.Proofs.Ytfpnadmpmfcaaaa.rdF l.length (Go.Proofs.Ytfpnadmpmfcaaaa.wF l)) (Rx.toI (k := Go.IntKind.i64) (Rx.entAt (Rx.Ty.int Go.IntKind.i64) Rx.Ty.bool (Go.Proofs.Ytfpnadmpmfcaaaa.stM acc) ((Rx.leftOf acc.length seen).getD i (0 : Nat))).fst)).toNat) fun i_1 j => Go.Proofs.Ytfpnadmpmfcaaaa.wF l (i_1 + (Rx.toI (k := Go.IntKind.i64) (Rx.entAt (Rx.Ty.int Go.IntKind.i64) Rx.Ty.bool (Go.Proofs.Ytfpnadmpmfcaaaa.stM acc) ((Rx.leftOf acc.length seen).getD i (0 : Nat))).fst + Go.Proofs.Ytfpnadmpmfcaaaa.spFrom (Go.Proofs.Ytfpnadmpmfcaaaa.rdF l.length (Go.Proofs.Ytfpnadmpmfcaaaa.wF l)) (Rx.toI (k := Go.IntKind.i64) (Rx.entAt (Rx.Ty.int Go.IntKind.i64) Rx.Ty.bool (Go.Proofs.Ytfpnadmpmfcaaaa.stM acc) ((Rx.leftOf acc.length seen).getD i (0 : Nat))).fst)).toNat) j))))) ∧
                    ((Rx.leS (SV.dt (Dt.cell (Go.Value.int Go.IntKind.i64 (↑((Rx.toI (k := Go.IntKind.i64) (Rx.entAt (Rx.Ty.int Go.IntKind.i64) Rx.Ty.bool (Go.Proofs.Ytfpnadmpmfcaaaa.stM acc) ((Rx.leftOf acc.length seen).getD i (0 : Nat))).fst + Go.Proofs.Ytfpnadmpmfcaaaa.spSize (Go.Proofs.Ytfpnadmpmfcaaaa.rdF l.length (Go.Proofs.Ytfpnadmpmfcaaaa.wF l)) (Rx.toI (k := Go.IntKind.i64) (Rx.entAt (Rx.Ty.int Go.IntKind.i64) Rx.Ty.bool (Go.Proofs.Ytfpnadmpmfcaaaa.stM acc) ((Rx.leftOf acc.length seen).getD i (0 : Nat))).fst)).toNat - (Rx.toI (k := Go.IntKind.i64) (Rx.entAt (Rx.Ty.int Go.IntKind.i64) Rx.Ty.bool (Go.Proofs.Ytfpnadmpmfcaaaa.stM acc) ((Rx.leftOf acc.length seen).getD i (0 : Nat))).fst + Go.Proofs.Ytfpnadmpmfcaaaa.spFrom (Go.Proofs.Ytfpnadmpmfcaaaa.rdF l.length (Go.Proofs.Ytfpnadmpmfcaaaa.wF l)) (Rx.toI (k := Go.IntKind.i64) (Rx.entAt (Rx.Ty.int Go.IntKind.i64) Rx.Ty.bool (Go.Proofs.Ytfpnadmpmfcaaaa.stM acc) ((Rx.leftOf acc.length seen).getD i (0 : Nat))).fst)).toNat) : Int)))) (SV.dt (Dt.cell (Go.Value.int Go.IntKind.i64 (↑(Go.Proofs.Ytfpnadmpmfcaaaa.rdF ((Rx.toI (k := Go.IntKind.i64) (Rx.entAt (Rx.Ty.int Go.IntKind.i64) Rx.Ty.bool (Go.Proofs.Ytfpnadmpmfcaaaa.stM acc) ((Rx.leftOf acc.length seen).getD i (0 : Nat))).fst + Go.Proofs.Ytfpnadmpmfcaaaa.spSize (Go.Proofs.Ytfpnadmpmfcaaaa.rdF l.length (Go.Proofs.Ytfpnadmpmfcaaaa.wF l)) (Rx.toI (k := Go.IntKind.i64) (Rx.entAt (Rx.Ty.int Go.IntKind.i64) Rx.Ty.bool (Go.Proofs.Ytfpnadmpmfcaaaa.stM acc) ((Rx.leftOf acc.length seen).getD i (0 : Nat))).fst)).toNat - (Rx.toI (k := Go.IntKind.i64) (Rx.entAt (Rx.Ty.int Go.IntKind.i64) Rx.Ty.bool (Go.Proofs.Ytfpnadmpmfcaaaa.stM acc) ((Rx.leftOf acc.length seen).getD i (0 : Nat))).fst + Go.Proofs.Ytfpnadmpmfcaaaa.spFrom (Go.Proofs.Ytfpnadmpmfcaaaa.rdF l.length (Go.Proofs.Ytfpnadmpmfcaaaa.wF l)) (Rx.toI (k := Go.IntKind.i64) (Rx.entAt (Rx.Ty.int Go.IntKind.i64) Rx.Ty.bool (Go.Proofs.Ytfpnadmpmfcaaaa.stM acc) ((Rx.leftOf acc.length seen).getD i (0 : Nat))).fst)).toNat) fun i_1 j => Go.Proofs.Ytfpnadmpmfcaaaa.wF l (i_1 + (Rx.toI (k := Go.IntKind.i64) (Rx.entAt (Rx.Ty.int Go.IntKind.i64) Rx.Ty.bool (Go.Proofs.Ytfpnadmpmfcaaaa.stM acc) ((Rx.leftOf acc.length seen).getD i (0 : Nat))).fst + Go.Proofs.Ytfpnadmpmfcaaaa.spFrom (Go.Proofs.Ytfpnadmpmfcaaaa.rdF l.length (Go.Proofs.Ytfpnadmpmfcaaaa.wF l)) (Rx.toI (k := Go.IntKind.i64) (Rx.entAt (Rx.Ty.int Go.IntKind.i64) Rx.Ty.bool (Go.Proofs.Ytfpnadmpmfcaaaa.stM acc) ((Rx.leftOf acc.length seen).getD i (0 : Nat))).fst)).toNat) j).length : Int))))) ∧
                     ((Rx.leS (SV.dt (Dt.cell (Go.Value.int Go.IntKind.i64 (0 : Int)))) (SV.dt (Dt.cell (Go.Value.int Go.IntKind.i64 (↑(0 : Nat) : Int))))) ∧
                      True))))))) ∧
               ((Rx.leOO ([some (Ob.cells 25 [SV.dt (Dt.arr ((3 : Nat)) (l.length) (Go.Proofs.Ytfpnadmpmfcaaaa.wF l)), SV.dt (Dt.cell (Go.Value.int Go.IntKind.i64 lim))]), some (Ob.mp (Rx.Ty.int Go.IntKind.i64) (Rx.Ty.bool) (Go.Proofs.Ytfpnadmpmfcaaaa.stM acc)), some (Ob.it 1 (acc.length) ((Rx.leftOf acc.length seen).getD i (0 : Nat) :: seen))]) ([some (Ob.cells 25 [SV.dt (Dt.arr ((3 : Nat)) ((Go.Proofs.Ytfpnadmpmfcaaaa.rdF l.length (Go.Proofs.Ytfpnadmpmfcaaaa.wF l)).length) (Go.Proofs.Ytfpnadmpmfcaaaa.wF (Go.Proofs.Ytfpnadmpmfcaaaa.rdF l.length (Go.Proofs.Ytfpnadmpmfcaaaa.wF l)))), SV.dt (Dt.cell (Go.Value.int Go.IntKind.i64 lim))]), some (Ob.mp (Rx.Ty.int Go.IntKind.i64) (Rx.Ty.bool) (Go.Proofs.Ytfpnadmpmfcaaaa.stM (List.map (fun x => x.fst.toNat) (Go.Proofs.Ytfpnadmpmfcaaaa.stM acc)))), some (Ob.it 1 (acc.length) ((Rx.leftOf acc.length seen).getD i (0 : Nat) :: seen))])) ∧
                ((Go.Proofs.Ytfpnadmpmfcaaaa.fitsW (Go.Proofs.Ytfpnadmpmfcaaaa.rdF ((Rx.toI (k := Go.IntKind.i64) (Rx.entAt (Rx.Ty.int Go.IntKind.i64) Rx.Ty.bool (Go.Proofs.Ytfpnadmpmfcaaaa.stM acc) ((Rx.leftOf acc.length seen).getD i (0 : Nat))).fst + Go.Proofs.Ytfpnadmpmfcaaaa.spSize (Go.Proofs.Ytfpnadmpmfcaaaa.rdF l.length (Go.Proofs.Ytfpnadmpmfcaaaa.wF l)) (Rx.toI (k := Go.IntKind.i64) (Rx.entAt (Rx.Ty.int Go.IntKind.i64) Rx.Ty.bool (Go.Proofs.Ytfpnadmpmfcaaaa.stM acc) ((Rx.leftOf acc.length seen).getD i (0 : Nat))).fst)).toNat - (Rx.toI (k := Go.IntKind.i64) (Rx.entAt (Rx.Ty.int Go.IntKind.i64) Rx.Ty.bool (Go.Proofs.Ytfpnadmpmfcaaaa.stM acc) ((Rx.leftOf acc.length seen).getD i (0 : Nat))).fst + Go.Proofs.Ytfpnadmpmfcaaaa.spFrom (Go.Proofs.Ytfpnadmpmfcaaaa.rdF l.length (Go.Proofs.Ytfpnadmpmfcaaaa.wF l)) (Rx.toI (k := Go.IntKind.i64) (Rx.entAt (Rx.Ty.int Go.IntKind.i64) Rx.Ty.bool (Go.Proofs.Ytfpnadmpmfcaaaa.stM acc) ((Rx.leftOf acc.length seen).getD i (0 : Nat))).fst)).toNat) fun i_1 j => Go.Proofs.Ytfpnadmpmfcaaaa.wF l (i_1 + (Rx.toI (k := Go.IntKind.i64) (Rx.entAt (Rx.Ty.int Go.IntKind.i64) Rx.Ty.bool (Go.Proofs.Ytfpnadmpmfcaaaa.stM acc) ((Rx.leftOf acc.length seen).getD i (0 : Nat))).fst + Go.Proofs.Ytfpnadmpmfcaaaa.spFrom (Go.Proofs.Ytfpnadmpmfcaaaa.rdF l.length (Go.Proofs.Ytfpnadmpmfcaaaa.wF l)) (Rx.toI (k := Go.IntKind.i64) (Rx.entAt (Rx.Ty.int Go.IntKind.i64) Rx.Ty.bool (Go.Proofs.Ytfpnadmpmfcaaaa.stM acc) ((Rx.leftOf acc.length seen).getD i (0 : Nat))).fst)).toNat) j)) ∧
                 ((((List.drop (0 : Nat) (Go.Proofs.Ytfpnadmpmfcaaaa.rdF ((Rx.toI (k := Go.IntKind.i64) (Rx.entAt (Rx.Ty.int Go.IntKind.i64) Rx.Ty.bool (Go.Proofs.Ytfpnadmpmfcaaaa.stM acc) ((Rx.leftOf acc.length seen).getD i (0 : Nat))).fst + Go.Proofs.Ytfpnadmpmfcaaaa.spSize (Go.Proofs.Ytfpnadmpmfcaaaa.rdF l.length (Go.Proofs.Ytfpnadmpmfcaaaa.wF l)) (Rx.toI (k := Go.IntKind.i64) (Rx.entAt (Rx.Ty.int Go.IntKind.i64) Rx.Ty.bool (Go.Proofs.Ytfpnadmpmfcaaaa.stM acc) ((Rx.leftOf acc.length seen).getD i (0 : Nat))).fst)).toNat - (Rx.toI (k := Go.IntKind.i64) (Rx.entAt (Rx.Ty.int Go.IntKind.i64) Rx.Ty.bool (Go.Proofs.Ytfpnadmpmfcaaaa.stM acc) ((Rx.leftOf acc.length seen).getD i (0 : Nat))).fst + Go.Proofs.Ytfpnadmpmfcaaaa.spFrom (Go.Proofs.Ytfpnadmpmfcaaaa.rdF l.length (Go.Proofs.Ytfpnadmpmfcaaaa.wF l)) (Rx.toI (k := Go.IntKind.i64) (Rx.entAt (Rx.Ty.int Go.IntKind.i64) Rx.Ty.bool (Go.Proofs.Ytfpnadmpmfcaaaa.stM acc) ((Rx.leftOf acc.length seen).getD i (0 : Nat))).fst)).toNat) fun i_1 j => Go.Proofs.Ytfpnadmpmfcaaaa.wF l (i_1 + (Rx.toI (k := Go.IntKind.i64) (Rx.entAt (Rx.Ty.int Go.IntKind.i64) Rx.Ty.bool (Go.Proofs.Ytfpnadmpmfcaaaa.stM acc) ((Rx.leftOf acc.length seen).getD i (0 : Nat))).fst + Go.Proofs.Ytfpnadmpmfcaaaa.spFrom (Go.Proofs.Ytfpnadmpmfcaaaa.rdF l.length (Go.Proofs.Ytfpnadmpmfcaaaa.wF l)) (Rx.toI (k := Go.IntKind.i64) (Rx.entAt (Rx.Ty.int Go.IntKind.i64) Rx.Ty.bool (Go.Proofs.Ytfpnadmpmfcaaaa.stM acc) ((Rx.leftOf acc.length seen).getD i (0 : Nat))).fst)).toNat) j)).all (Go.Proofs.Ytfpnadmpmfcaaaa.wordOk (Go.Proofs.Ytfpnadmpmfcaaaa.rdF l.length (Go.Proofs.Ytfpnadmpmfcaaaa.wF l)) (List.map (fun x => x.fst.toNat) (Go.Proofs.Ytfpnadmpmfcaaaa.stM acc))) = Bool.true) →
                   Rn ([SV.ptr 0 0, SV.dt (Dt.cell (Go.Value.int Go.IntKind.i64 (0 : Int))), SV.nm 1, SV.ptr 2 0]) ([some (Ob.cells 25 [SV.dt (Dt.arr ((3 : Nat)) ((Go.Proofs.Ytfpnadmpmfcaaaa.rdF l.length (Go.Proofs.Ytfpnadmpmfcaaaa.wF l)).length) (Go.Proofs.Ytfpnadmpmfcaaaa.wF (Go.Proofs.Ytfpnadmpmfcaaaa.rdF l.length (Go.Proofs.Ytfpnadmpmfcaaaa.wF l)))), SV.dt (Dt.cell (Go.Value.int Go.IntKind.i64 lim))]), some (Ob.mp (Rx.Ty.int Go.IntKind.i64) (Rx.Ty.bool) (Go.Proofs.Ytfpnadmpmfcaaaa.stM (List.map (fun x => x.fst.toNat) (Go.Proofs.Ytfpnadmpmfcaaaa.stM acc)))), some (Ob.it 1 (acc.length) ((Rx.leftOf acc.length seen).getD i (0 : Nat) :: seen))])) ∧
                  (((List.drop (0 : Nat) (Go.Proofs.Ytfpnadmpmfcaaaa.rdF ((Rx.toI (k := Go.IntKind.i64) (Rx.entAt (Rx.Ty.int Go.IntKind.i64) Rx.Ty.bool (Go.Proofs.Ytfpnadmpmfcaaaa.stM acc) ((Rx.leftOf acc.length seen).getD i (0 : Nat))).fst + Go.Proofs.Ytfpnadmpmfcaaaa.spSize (Go.Proofs.Ytfpnadmpmfcaaaa.rdF l.length (Go.Proofs.Ytfpnadmpmfcaaaa.wF l)) (Rx.toI (k := Go.IntKind.i64) (Rx.entAt (Rx.Ty.int Go.IntKind.i64) Rx.Ty.bool (Go.Proofs.Ytfpnadmpmfcaaaa.stM acc) ((Rx.leftOf acc.length seen).getD i (0 : Nat))).fst)).toNat - (Rx.toI (k := Go.IntKind.i64) (Rx.entAt (Rx.Ty.int Go.IntKind.i64) Rx.Ty.bool (Go.Proofs.Ytfpnadmpmfcaaaa.stM acc) ((Rx.leftOf acc.length seen).getD i (0 : Nat))).fst + Go.Proofs.Ytfpnadmpmfcaaaa.spFrom (Go.Proofs.Ytfpnadmpmfcaaaa.rdF l.length (Go.Proofs.Ytfpnadmpmfcaaaa.wF l)) (Rx.toI (k := Go.IntKind.i64) (Rx.entAt (Rx.Ty.int Go.IntKind.i64) Rx.Ty.bool (Go.Proofs.Ytfpnadmpmfcaaaa.stM acc) ((Rx.leftOf acc.length seen).getD i (0 : Nat))).fst)).toNat) fun i_1 j => Go.Proofs.Ytfpnadmpmfcaaaa.wF l (i_1 + (Rx.toI (k := Go.IntKind.i64) (Rx.entAt (Rx.Ty.int Go.IntKind.i64) Rx.Ty.bool (Go.Proofs.Ytfpnadmpmfcaaaa.stM acc) ((Rx.leftOf acc.length seen).getD i (0 : Nat))).fst + Go.Proofs.Ytfpnadmpmfcaaaa.spFrom (Go.Proofs.Ytfpnadmpmfcaaaa.rdF l.length (Go.Proofs.Ytfpnadmpmfcaaaa.wF l)) (Rx.toI (k := Go.IntKind.i64) (Rx.entAt (Rx.Ty.int Go.IntKind.i64) Rx.Ty.bool (Go.Proofs.Ytfpnadmpmfcaaaa.stM acc) ((Rx.leftOf acc.length seen).getD i (0 : Nat))).fst)).toNat) j)).all (Go.Proofs.Ytfpnadmpmfcaaaa.wordOk (Go.Proofs.Ytfpnadmpmfcaaaa.rdF l.length (Go.Proofs.Ytfpnadmpmfcaaaa.wF l)) (List.map (fun x => x.fst.toNat) (Go.Proofs.Ytfpnadmpmfcaaaa.stM acc))) = Bool.false) →
                   Re (Rx.Ex.ret) ([SV.dt (Dt.cell (Go.Value.int Go.IntKind.i64 (9 : Int)))]) ([])))))))))))))))))))))
def checkQ (l : List Wd) (lim : Int) (R : SV → List (Option Ob) → Prop) : Prop :=
(((Decidable.decide (lim < (50 : Int)) = Bool.true) →
 (True ∧
  R (SV.dt (Dt.cell (Go.Value.int Go.IntKind.i64 (9 : Int)))) ([]))) ∧
((Decidable.decide (lim < (50 : Int)) = Bool.false) →
 (((Decidable.decide (lim > (60000 : Int)) = Bool.true) →
   (True ∧
    R (SV.dt (Dt.cell (Go.Value.int Go.IntKind.i64 (9 : Int)))) ([]))) ∧
  ((Decidable.decide (lim > (60000 : Int)) = Bool.false) →
   (((Decidable.decide ((↑l.length : Int) > lim) = Bool.true) →
     (True ∧
      R (SV.dt (Dt.cell (Go.Value.int Go.IntKind.i64 (9 : Int)))) ([]))) ∧
    ((Decidable.decide ((↑l.length : Int) > lim) = Bool.false) →
     ((Rx.leL ([SV.dt (Dt.arr ((3 : Nat)) (l.length) (Go.Proofs.Ytfpnadmpmfcaaaa.wF l))]) ([SV.dt (Dt.arr ((3 : Nat)) ((Go.Proofs.Ytfpnadmpmfcaaaa.rdF l.length (Go.Proofs.Ytfpnadmpmfcaaaa.wF l)).length) (Go.Proofs.Ytfpnadmpmfcaaaa.wF (Go.Proofs.Ytfpnadmpmfcaaaa.rdF l.length (Go.Proofs.Ytfpnadmpmfcaaaa.wF l))))])) ∧
      ((Rx.leObL ([]) ([])) ∧
       ((Go.Proofs.Ytfpnadmpmfcaaaa.fitsW (Go.Proofs.Ytfpnadmpmfcaaaa.rdF l.length (Go.Proofs.Ytfpnadmpmfcaaaa.wF l))) ∧
        ((((Go.Proofs.Ytfpnadmpmfcaaaa.startsS (Go.Proofs.Ytfpnadmpmfcaaaa.rdF l.length (Go.Proofs.Ytfpnadmpmfcaaaa.wF l))).isSome = Bool.true) →
          (((Rx.leS (SV.ptr 0 0) (SV.ptr 0 0)) ∧
            ((Rx.leS (SV.dt (Dt.cell (Go.Value.int Go.IntKind.i64 (0 : Int)))) (SV.dt (Dt.cell (Go.Value.int Go.IntKind.i64 (0 : Int))))) ∧
             ((Rx.leS (SV.nm 1) (SV.nm 1)) ∧
              ((Rx.leS (SV.ptr 2 0) (SV.ptr 2 0)) ∧
               True)))) ∧
           ((Rx.leOO ([some (Ob.cells 25 [SV.dt (Dt.arr ((3 : Nat)) (l.length) (Go.Proofs.Ytfpnadmpmfcaaaa.wF l)), SV.dt (Dt.cell (Go.Value.int Go.IntKind.i64 lim))]), some (Ob.mp (Rx.Ty.int Go.IntKind.i64) (Rx.Ty.bool) (Go.Proofs.Ytfpnadmpmfcaaaa.stM ((Go.Proofs.Ytfpnadmpmfcaaaa.startsS (Go.Proofs.Ytfpnadmpmfcaaaa.rdF l.length (Go.Proofs.Ytfpnadmpmfcaaaa.wF l))).getD []))), some (Ob.it 1 ((Go.Proofs.Ytfpnadmpmfcaaaa.stM ((Go.Proofs.Ytfpnadmpmfcaaaa.startsS (Go.Proofs.Ytfpnadmpmfcaaaa.rdF l.length (Go.Proofs.Ytfpnadmpmfcaaaa.wF l))).getD [])).length) ([]))]) ([some (Ob.cells 25 [SV.dt (Dt.arr ((3 : Nat)) ((Go.Proofs.Ytfpnadmpmfcaaaa.rdF l.length (Go.Proofs.Ytfpnadmpmfcaaaa.wF l)).length) (Go.Proofs.Ytfpnadmpmfcaaaa.wF (Go.Proofs.Ytfpnadmpmfcaaaa.rdF l.length (Go.Proofs.Ytfpnadmpmfcaaaa.wF l)))), SV.dt (Dt.cell (Go.Value.int Go.IntKind.i64 lim))]), some (Ob.mp (Rx.Ty.int Go.IntKind.i64) (Rx.Ty.bool) (Go.Proofs.Ytfpnadmpmfcaaaa.stM (List.map (fun x => x.fst.toNat) (Go.Proofs.Ytfpnadmpmfcaaaa.stM ((Go.Proofs.Ytfpnadmpmfcaaaa.startsS (Go.Proofs.Ytfpnadmpmfcaaaa.rdF l.length (Go.Proofs.Ytfpnadmpmfcaaaa.wF l))).getD []))))), some (Ob.it 1 ((List.map (fun x => x.fst.toNat) (Go.Proofs.Ytfpnadmpmfcaaaa.stM ((Go.Proofs.Ytfpnadmpmfcaaaa.startsS (Go.Proofs.Ytfpnadmpmfcaaaa.rdF l.length (Go.Proofs.Ytfpnadmpmfcaaaa.wF l))).getD []))).length) ([]))])) ∧
            (((Go.Proofs.Ytfpnadmpmfcaaaa.fitsW (Go.Proofs.Ytfpnadmpmfcaaaa.rdF l.length (Go.Proofs.Ytfpnadmpmfcaaaa.wF l))) ∧
              (∀ (a : Nat), ((a ∈ List.map (fun x => x.fst.toNat) (Go.Proofs.Ytfpnadmpmfcaaaa.stM ((Go.Proofs.Ytfpnadmpmfcaaaa.startsS (Go.Proofs.Ytfpnadmpmfcaaaa.rdF l.length (Go.Proofs.Ytfpnadmpmfcaaaa.wF l))).getD []))) →
                ((a < (Go.Proofs.Ytfpnadmpmfcaaaa.rdF l.length (Go.Proofs.Ytfpnadmpmfcaaaa.wF l)).length) ∧
                 (((Go.Proofs.Ytfpnadmpmfcaaaa.at' (Go.Proofs.Ytfpnadmpmfcaaaa.rdF l.length (Go.Proofs.Ytfpnadmpmfcaaaa.wF l)) (↑a : Int)).k = (10 : Int)) ∨ (Go.Proofs.Ytfpnadmpmfcaaaa.spP (Go.Proofs.Ytfpnadmpmfcaaaa.rdF l.length (Go.Proofs.Ytfpnadmpmfcaaaa.wF l)) (↑a : Int))))))) ∧
             (((((Rx.leftOf (List.map (fun x => x.fst.toNat) (Go.Proofs.Ytfpnadmpmfcaaaa.stM ((Go.Proofs.Ytfpnadmpmfcaaaa.startsS (Go.Proofs.Ytfpnadmpmfcaaaa.rdF l.length (Go.Proofs.Ytfpnadmpmfcaaaa.wF l))).getD []))).length []).all fun k => Go.Proofs.Ytfpnadmpmfcaaaa.okAt (Go.Proofs.Ytfpnadmpmfcaaaa.rdF l.length (Go.Proofs.Ytfpnadmpmfcaaaa.wF l)) (List.map (fun x => x.fst.toNat) (Go.Proofs.Ytfpnadmpmfcaaaa.stM ((Go.Proofs.Ytfpnadmpmfcaaaa.startsS (Go.Proofs.Ytfpnadmpmfcaaaa.rdF l.length (Go.Proofs.Ytfpnadmpmfcaaaa.wF l))).getD []))) ((List.map (fun x => x.fst.toNat) (Go.Proofs.Ytfpnadmpmfcaaaa.stM ((Go.Proofs.Ytfpnadmpmfcaaaa.startsS (Go.Proofs.Ytfpnadmpmfcaaaa.rdF l.length (Go.Proofs.Ytfpnadmpmfcaaaa.wF l))).getD []))).getD k (0 : Nat))) = Bool.true) →
               (True ∧
                R (SV.dt (Dt.cell (Go.Value.int Go.IntKind.i64 (0 : Int)))) ([]))) ∧
              ((((Rx.leftOf (List.map (fun x => x.fst.toNat) (Go.Proofs.Ytfpnadmpmfcaaaa.stM ((Go.Proofs.Ytfpnadmpmfcaaaa.startsS (Go.Proofs.Ytfpnadmpmfcaaaa.rdF l.length (Go.Proofs.Ytfpnadmpmfcaaaa.wF l))).getD []))).length []).all fun k => Go.Proofs.Ytfpnadmpmfcaaaa.okAt (Go.Proofs.Ytfpnadmpmfcaaaa.rdF l.length (Go.Proofs.Ytfpnadmpmfcaaaa.wF l)) (List.map (fun x => x.fst.toNat) (Go.Proofs.Ytfpnadmpmfcaaaa.stM ((Go.Proofs.Ytfpnadmpmfcaaaa.startsS (Go.Proofs.Ytfpnadmpmfcaaaa.rdF l.length (Go.Proofs.Ytfpnadmpmfcaaaa.wF l))).getD []))) ((List.map (fun x => x.fst.toNat) (Go.Proofs.Ytfpnadmpmfcaaaa.stM ((Go.Proofs.Ytfpnadmpmfcaaaa.startsS (Go.Proofs.Ytfpnadmpmfcaaaa.rdF l.length (Go.Proofs.Ytfpnadmpmfcaaaa.wF l))).getD []))).getD k (0 : Nat))) = Bool.false) →
               (True ∧
                R (SV.dt (Dt.cell (Go.Value.int Go.IntKind.i64 (9 : Int)))) ([])))))))) ∧
         (((Go.Proofs.Ytfpnadmpmfcaaaa.startsS (Go.Proofs.Ytfpnadmpmfcaaaa.rdF l.length (Go.Proofs.Ytfpnadmpmfcaaaa.wF l))).isSome = Bool.false) →
          (True ∧
           R (SV.dt (Dt.cell (Go.Value.int Go.IntKind.i64 (9 : Int)))) ([])))))))))))))
theorem valueF_ok : valueF.Ok Try.prog := by
  intro al ol args obs out h
  unfold valueF at h
  simp only at h
  split at h
  · split at h
    · simp only [Option.some.injEq, Prod.mk.injEq] at h
      obtain ⟨rfl, rfl, rfl⟩ := h
      exact value_ctr _ _
    · cases h
  · cases h
theorem startsFC_ok : startsFC.Ok Try.prog := by
  intro al ol args obs out h
  unfold startsFC at h
  simp only at h
  split at h
  · split at h
    · simp only [Option.some.injEq, Prod.mk.injEq] at h
      obtain ⟨rfl, rfl, rfl⟩ := h
      exact starts_ctr _
    · cases h
  · cases h
theorem ckKs_ok : ∀ x ∈ ckKs, x.2.2.Ok Try.prog := all_cons startsFC_ok (all_cons spanF_ok (all_cons valueF_ok all_nil))

theorem at'_drop {ws : List Wd} {i : Nat} (h : i < ws.length) : ws.drop i = at' ws i :: ws.drop (i + 1) := by
  rw [List.drop_eq_getElem_cons h]
  congr 1
  simp [at', h]

theorem wd_eta (w : Wd) : Wd.mk w.k w.n w.s = w := rfl
theorem inS_eq (acc : List Nat) (n : Int) : toB ((mget (.int .i64) (stM acc) n).getD Ty.bool.dflt) = inS acc n := rfl

theorem ciLoop_ok (x : CkI) : Sound ckE (.loop ciLoop) (mkSt (ciLF.live.h.zip (ciArgs x)) (ckObs x.l x.lim x.acc x.n x.seen)) ((ciOut x).map (OutC.st ciLF.live)) := by
  refine loop_fn mixed ckKs_ok (fun c hc => by rw [show loopsOf ciLoop = [] from by kernel_rfl] at hc; cases hc) ciLF.live ciArgs (fun x => ckObs x.l x.lim x.acc x.n x.seen) ciOut (fun x => x.ws.length - x.i)
    (Q := fun x Rn Re => ciQ x.l x.lim x.acc x.n x.seen x.ws x.i Rn Re) ?_ (fun ⟨l, lim, acc, n, seen, ws, i⟩ Rn Re => by kernel_rfl) x
  rintro ⟨l, lim, acc, n, seen, ws, i⟩ post hp
  obtain ⟨hfit, hp1, hp2⟩ := hp
  have hfit : (ws.length : Int) ≤ 4398046511104 := hfit
  have hp1 : (ws.drop i).all (wordOk l acc) = true → post (.exit 2, [.ptr 0 0, vI .i64 0, .nm 1, .ptr 2 0], ckObs l lim acc n seen) := hp1
  have hp2 : (ws.drop i).all (wordOk l acc) = false → post (.ret, [vI .i64 9], []) := hp2
  have leafR : i < ws.length → wordOk l acc (at' ws i) = false → Outs post .ret [vI .i64 9] [] := by
    intro h1 h2
    refine Outs.mk (hp2 ?_) (leL_refl _) (leOO_refl _)
    rw [at'_drop h1, List.all_cons, h2]; rfl
  have leafE : ¬ i < ws.length → Outs post (.exit 2) [.ptr 0 0, vI .i64 0, .nm 1, .ptr 2 0] (ckObs l lim acc n seen) := by
    intro h1
    refine Outs.mk (hp1 ?_) (leL_refl _) (leOO_refl _)
    rw [List.drop_of_length_le (by omega)]; rfl
  have leafN : i < ws.length → wordOk l acc (at' ws i) = true → ∃ x' : CkI, x'.ws.length - x'.i < ws.length - i ∧ leL [.ptr 0 0, vI .i64 0, .nm 1, .ptr 2 0, wD ws, vI .i64 ws.length, vI .i64 ((i : Int) + 1)] (ciArgs x') ∧ leOO (ckObs l lim acc n seen) (ckObs x'.l x'.lim x'.acc x'.n x'.seen) ∧ (ciOut x').holds post := by
    intro h1 h2
    refine ⟨⟨l, lim, acc, n, seen, ws, i + 1⟩, by simp only; omega, ?_, leOO_refl _, hfit, fun h => ?_, fun h => ?_⟩
    · simp only [ciArgs, leL_cons, leS_self, leL_nil, and_true, true_and, leS_int]
      omega
    · exact hp1 (by rw [at'_drop h1, List.all_cons, h2]; exact h)
    · exact hp2 (by rw [at'_drop h1, List.all_cons, h2]; exact h)
  have e : ∀ i : Int, ws.getD i.toNat default = at' ws i := fun _ => rfl
  simp only
  unfold ciQ
  simp only [e, wd_eta, inS_eq, leL_self, leObL_self, true_and, beq_iff_eq, beq_eq_false_iff_ne, decide_eq_true_eq, decide_eq_false_iff_not, Bool.not_eq_true', Bool.not_eq_false', ne_eq, lo, hi, Int.ofNat_lt]
  refine ⟨fun h => ⟨⟨by omega, h⟩, fun h1 => ?_, fun h1 => ⟨fun h2 => ⟨fun h3 => ?_, fun h3 => ⟨⟨by omega, by omega⟩, ?_⟩⟩, fun h2 => ⟨⟨by omega, by omega⟩, ?_⟩⟩⟩, fun h => leafE h⟩
  · exact leafR h (by simp [wordOk, h1])
  · exact leafR h (by simp [wordOk, h1, h2, h3])
  · exact leafN h (by simp [wordOk, h1, h2, h3])
  · exact leafN h (by simp [wordOk, h1, h2])

theorem rdF_length (n : Nat) (f : Nat → Nat → Dt) : (rdF n f).length = n := by simp [rdF]
theorem rdF_map (n : Nat) (g : Nat → Wd) : rdF n (fun i j => wC (g i) j) = (List.range n).map g := by
  unfold rdF
  exact List.map_congr_left fun i _ => rdC_wC (g i)
theorem le_rdF (n : Nat) (g : Nat → Wd) : leDt (.arr 3 n (fun i j => wC (g i) j)) (.arr 3 (rdF n fun i j => wC (g i) j).length (wF (rdF n fun i j => wC (g i) j))) := by
  rw [leDt_arr]
  refine ⟨rdF_length _ _, .inr ⟨rfl, fun k hk j _ => ?_⟩⟩
  rw [rdF_map]
  have : wF ((List.range n).map g) k j = wC (g k) j := by simp [wF, hk]
  rw [this]
  exact leDt_refl _

theorem stM_toNat (acc : List Nat) : (stM acc).map (fun (x : Int × Bool) => x.1.toNat) = acc := by
  simp only [stM, List.map_map]
  conv => rhs; rw [← List.map_id acc]
  exact List.map_congr_left fun a _ => by simp
theorem stM_length (acc : List Nat) : (stM acc).length = acc.length := by simp [stM]
theorem entAt_stM (acc : List Nat) (k : Nat) : toI (entAt (.int .i64) .bool (stM acc) k).1 = ((acc.getD k 0 : Nat) : Int) := by
  show ((stM acc).getD k ((0 : Int), false)).1 = _
  simp only [stM, List.getD_eq_getElem?_getD, List.getElem?_map]
  cases acc[k]? <;> rfl

theorem leftOf_cons {n k : Nat} {seen : List Nat} (h : k ∈ Rx.leftOf n seen) (p : Nat → Bool) :
    (Rx.leftOf n seen).all p = (p k && (Rx.leftOf n (k :: seen)).all p) ∧ (Rx.leftOf n (k :: seen)).length < (Rx.leftOf n seen).length := by
  have hm : ∀ j, j ∈ Rx.leftOf n (k :: seen) ↔ j ∈ Rx.leftOf n seen ∧ j ≠ k := by
    intro j
    simp only [Rx.leftOf, List.mem_filter, List.mem_range, List.contains_eq_mem, List.mem_cons, Bool.not_eq_true', decide_eq_false_iff_not, not_or]
    constructor
    · rintro ⟨h1, h2, h3⟩; exact ⟨⟨h1, h3⟩, h2⟩
    · rintro ⟨⟨h1, h3⟩, h2⟩; exact ⟨h1, h2, h3⟩
  have hf : Rx.leftOf n (k :: seen) = (Rx.leftOf n seen).filter fun j => !(j == k) := by
    simp only [Rx.leftOf, List.filter_filter]
    apply List.filter_congr
    intro j _
    simp only [List.contains_eq_mem, List.mem_cons]
    by_cases h1 : j = k <;> simp [h1]
  refine ⟨?_, ?_⟩
  · rw [Bool.eq_iff_iff, Bool.and_eq_true, List.all_eq_true, List.all_eq_true]
    constructor
    · intro ha
      exact ⟨ha k h, fun j hj => ha j ((hm j).1 hj).1⟩
    · rintro ⟨h1, h2⟩ j hj
      by_cases hjk : j = k
      · rw [hjk]; exact h1
      · exact h2 j ((hm j).2 ⟨hj, hjk⟩)
  · rw [hf]
    refine Nat.lt_of_le_of_ne (List.length_filter_le _ _) fun he => ?_
    have := List.filter_eq_self.1 (List.length_filter_eq_length_iff.1 he |> fun h' => List.filter_eq_self.2 h') k h
    simp at this

theorem inS_iff (acc : List Nat) (n : Int) : inS acc n = true ↔ ∃ a ∈ acc, (a : Int) = n := by
  unfold inS
  induction acc with
  | nil => simp [stM, mget]
  | cons a acc ih =>
    have e : stM (a :: acc) = ((a : Int), true) :: stM acc := rfl
    rw [e]
    simp only [mget]
    cases hq : (Ty.int .i64).eqb n (a : Int) with
    | true =>
      have : n = (a : Int) := (eqb_iff (.int .i64) _ _).1 hq
      simp [this]
    | false =>
      rw [cond_false, ih]
      have hne : ¬ (a : Int) = n := fun h => by
        have : (Ty.int .i64).eqb n (a : Int) = true := (eqb_iff (.int .i64) _ _).2 h.symm
        rw [this] at hq; cases hq
      simp [hne]

theorem ckLok : ckE.Lok (loopsOf coLoop) := by
  rw [show loopsOf coLoop = [ciLoop] from by kernel_rfl]
  refine fnE_Lok (all_cons (all_cons (fun _ => ?_) all_nil) (all_cons (all_cons (fun h => ?_) all_nil) all_nil))
  · intro svs obl args obs out h
    unfold ciLF at h
    simp only at h
    split at h
    · split at h
      · simp only [Option.some.injEq, Prod.mk.injEq] at h
        obtain ⟨rfl, rfl, rfl⟩ := h
        exact ciLoop_ok _
      · cases h
    · cases h
  · rw [show firstRid ciLoop = 15 from by kernel_rfl] at h
    exact absurd h (by decide)

theorem coLoop_ok (x : CkO) : Sound ckE (.loop coLoop) (mkSt (coLF.live.h.zip (coArgs x)) (ckObs x.l x.lim x.acc x.acc.length x.seen)) ((coOut x).map (OutC.st coLF.live)) := by
  refine loop_fn mixed ckKs_ok ckLok coLF.live coArgs (fun x => ckObs x.l x.lim x.acc x.acc.length x.seen) coOut (fun x => (Rx.leftOf x.acc.length x.seen).length)
    (Q := fun x Rn Re => coQ x.l x.lim x.acc x.seen Rn Re) ?_ (fun ⟨l, lim, acc, seen⟩ Rn Re => by kernel_rfl) x
  rintro ⟨l, lim, acc, seen⟩ post hp
  obtain ⟨⟨hfit, hacc⟩, hp1, hp2⟩ := hp
  have hacc : ∀ a ∈ acc, a < l.length ∧ ((at' l a).k = 10 ∨ spP l a) := hacc
  have hfit' : (l.length : Int) ≤ 4398046511104 := hfit
  have hp1 : (Rx.leftOf acc.length seen).all (fun k => okAt l acc (acc.getD k 0)) = true → post (.exit 0, [vI .i64 0], []) := hp1
  have hp2 : (Rx.leftOf acc.length seen).all (fun k => okAt l acc (acc.getD k 0)) = false → post (.ret, [vI .i64 9], []) := hp2
  simp only
  unfold coQ
  simp only [rdF_wF, stM_length, stM_toNat, entAt_stM, wd_eta, inS_eq, leL_self, leObL_self, leS_self, true_and, and_true, beq_iff_eq, beq_eq_false_iff_ne, bne_iff_ne, bne_eq_false_iff_eq, decide_eq_true_eq, decide_eq_false_iff_not, Bool.not_eq_true', Bool.not_eq_false', ne_eq, lo, hi]
  refine ⟨fun h => ?_, fun h i hi => ?_⟩
  · have : Rx.leftOf acc.length seen = [] := by simpa using h
    exact Outs.mk (hp1 (by rw [this]; rfl)) (leL_refl _) (leOO_refl _)
  generalize hk : (Rx.leftOf acc.length seen).getD i 0 = k
  have hkm : k ∈ Rx.leftOf acc.length seen := by
    rw [← hk, List.getD_eq_getElem?_getD, List.getElem?_eq_getElem hi]
    exact List.getElem_mem _
  have hklt := (Rx.leftOf_lt hkm).1
  obtain ⟨c1, c2⟩ := leftOf_cons hkm (fun k => okAt l acc (acc.getD k 0))
  rw [c1] at hp1 hp2
  have ham : acc.getD k 0 ∈ acc := by
    rw [List.getD_eq_getElem?_getD, List.getElem?_eq_getElem hklt]
    exact List.getElem_mem _
  obtain ⟨ha1, ha2⟩ := hacc _ ham
  generalize acc.getD k 0 = a at *
  have leafR : okAt l acc a = false → Outs post .ret [vI .i64 9] [] := fun h => Outs.mk (hp2 (by rw [h]; rfl)) (leL_refl _) (leOO_refl _)
  have leafN : okAt l acc a = true → ∃ x' : CkO, (Rx.leftOf x'.acc.length x'.seen).length < (Rx.leftOf acc.length seen).length ∧ leL [.ptr 0 0, vI .i64 0, .nm 1, .ptr 2 0] (coArgs x') ∧
      leOO (ckObs l lim acc acc.length (k :: seen)) (ckObs x'.l x'.lim x'.acc x'.acc.length x'.seen) ∧ (coOut x').holds post := fun h =>
    ⟨⟨l, lim, acc, k :: seen⟩, c2, leL_refl _, leOO_refl _, ⟨hfit, hacc⟩, fun h' => hp1 (by rw [h]; exact h'), fun h' => hp2 (by rw [h]; exact h')⟩
  have e : ∀ i : Int, l.getD i.toNat default = at' l i := fun _ => rfl
  simp only [e]
  refine ⟨hklt, ⟨by omega, by omega⟩, fun h10 => ⟨⟨by omega, by omega⟩, fun h2 => leafR (by simp [okAt, h10, h2]), fun h2 => ?_⟩, fun h10 => ?_⟩
  · obtain ⟨b, hb, hbn⟩ := (inS_iff _ _).1 h2
    have := (hacc b hb).1
    refine ⟨⟨by omega, by omega⟩, fun h9 => ⟨⟨by omega, by omega⟩, fun h3 => leafR (by simp [okAt, h10, h2, h9, h3]), fun h3 => ⟨fun h4 => leafR ?_, fun h4 => leafN ?_⟩⟩, fun h9 => leafN (by simp [okAt, h10, h2, h9])⟩
    · simp [okAt, h10, h2, h3]; omega
    · simp [okAt, h10, h2, h3]; omega
  · have hsp : spP l a := by
      rcases ha2 with h | h
      · exact absurd h h10
      · exact h
    obtain ⟨b1, b2, b3, b4, b5, b6⟩ := spSize_bounds l a hsp
    have hF : ∀ (m c : Nat), rdF m (fun i j => wF l (i + c) j) = (List.range m).map fun i => l.getD (i + c) default := fun m c => rdF_map m fun i => l.getD (i + c) default
    have hall : (List.drop 0 (rdF ((a + spSize l a).toNat - (a + spFrom l a).toNat) fun i j => wF l (i + (a + spFrom l a).toNat) j)).all (wordOk l acc) = okAt l acc a := by
      rw [hF, okAt, if_neg h10, List.drop_zero, List.all_map]
      have e1 : (a + spSize l a).toNat - (a + spFrom l a).toNat = (spSize l a - spFrom l a).toNat := by omega
      rw [e1]
      congr 1
      funext i
      simp only [Function.comp, at']
      congr 2
      omega
    have hle := le_rdF ((a + spSize l a).toNat - (a + spFrom l a).toNat) fun i => l.getD (i + (a + spFrom l a).toNat) default
    refine ⟨⟨by omega, by omega, hfit⟩, ⟨by omega, by omega⟩, ⟨by omega, by omega⟩, ⟨by omega, by omega, by omega⟩, ⟨?_, ?_⟩, ?_, ?_, fun h => ?_, fun h => ?_⟩
    · rw [leS_dt]; exact hle
    · refine ⟨?_, ?_⟩
      · rw [leS_int, rdF_length]
      · rw [leS_int]; rfl
    · exact leOO_refl _
    · show ((rdF _ _).length : Int) ≤ _
      rw [rdF_length]; omega
    · rw [hall] at h; exact leafN h
    · rw [hall] at h; exact leafR h

theorem coLF_ok : LFok ckE coLF coLoop := by
  intro svs obl args obs out h
  unfold coLF at h
  simp only at h
  split at h
  · split at h
    · simp only [Option.some.injEq, Prod.mk.injEq] at h
      obtain ⟨rfl, rfl, rfl⟩ := h
      exact coLoop_ok _
    · cases h
  · cases h

theorem ckLok' : ckE.Lok (loopsOf (bodyOf Try.f14)) := by
  rw [show loopsOf (bodyOf Try.f14) = [coLoop] from by kernel_rfl]
  refine fnE_Lok (all_cons (all_cons (fun h => ?_) all_nil) (all_cons (all_cons (fun _ => coLF_ok) all_nil) all_nil))
  rw [show firstRid coLoop = 7 from by kernel_rfl] at h
  exact absurd h (by decide)

theorem startsF_mem {l : List Wd} : ∀ (f a : Nat) {r : List Nat}, startsF l f a = some r → ∀ b ∈ r, a ≤ b ∧ b < l.length ∧ (stepS l b).isSome = true
  | 0, a, r, h, b, hb => by simp only [startsF, Option.some.injEq] at h; subst h; cases hb
  | f + 1, a, r, h, b, hb => by
    simp only [startsF] at h
    split at h
    · rename_i hlt
      split at h
      · cases h
      · rename_i d hs
        obtain ⟨r', h1, rfl⟩ := Option.map_eq_some_iff.1 h
        rcases List.mem_cons.1 hb with rfl | hb
        · exact ⟨Nat.le_refl _, hlt, by rw [hs]; rfl⟩
        · have := startsF_mem f (a + d) h1 b hb
          exact ⟨by omega, this.2⟩
    · simp only [Option.some.injEq] at h; subst h; cases hb

theorem stepS_some {l : List Wd} {b : Nat} (h : (stepS l b).isSome = true) : (at' l b).k = 10 ∨ spP l b := by
  unfold stepS at h
  split at h
  · left; assumption
  · split at h
    · right; assumption
    · cases h

theorem check_ctr (l : List Wd) (lim : Int) : Ctr Try.prog 14 [hS l lim] [] (checkO l lim) := by
  refine ctr_fn mixed (N := 123) (fn := Try.f14) (c := bodyOf Try.f14) (ks := ckKs) (ls := [ciLF, coLF]) (by kernel_rfl) (by kernel_rfl) (by kernel_rfl) ckKs_ok fin0 ckLok' (by kernel_rfl) (Q := checkQ l lim) (fun post hp => ?_) (fun R => by kernel_rfl)
  obtain ⟨hp1, hp2⟩ := hp
  have hp1 : checkB l lim = true → post (vI .i64 0, []) := hp1
  have hp2 : checkB l lim = false → post (vI .i64 9, []) := hp2
  have leaf9 : checkB l lim = false → Gives post (vI .i64 9) [] := fun h => gives1 (hp2 h) (leS_refl _)
  have leaf0 : checkB l lim = true → Gives post (vI .i64 0) [] := fun h => gives1 (hp1 h) (leS_refl _)
  unfold checkQ
  simp only [rdF_wF, stM_length, stM_toNat, leL_self, leObL_self, leS_self, leOO_self, true_and, and_true, decide_eq_true_eq, decide_eq_false_iff_not, Bool.not_eq_true', Bool.not_eq_false', leS_int]
  refine ⟨fun h1 => leaf9 ?_, fun h1 => ⟨fun h2 => leaf9 ?_, fun h2 => ⟨fun h3 => leaf9 ?_, fun h3 => ?_⟩⟩⟩
  · simp [checkB]; omega
  · simp [checkB]; omega
  · simp [checkB]; omega
  · have hfit : fitsW l := by show (l.length : Int) ≤ _; omega
    have hb : ∀ r, startsS l = some r → checkB l lim = r.all (okAt l r) := fun r hr => by
      have e1 : decide (50 ≤ lim) = true := by simp; omega
      have e2 : decide (lim ≤ 60000) = true := by simp; omega
      have e3 : decide ((l.length : Int) ≤ lim) = true := by simp; omega
      simp only [checkB, e1, e2, e3, Bool.true_and, allOk, hr]
    refine ⟨hfit, fun h => ?_, fun h => leaf9 ?_⟩
    · obtain ⟨r, hr⟩ := Option.isSome_iff_exists.1 h
      rw [hr]
      simp only [Option.getD_some, Rx.leftOf]
      have hall' : ∀ p : Nat → Bool, ((List.range r.length).filter fun k => !([] : List Nat).contains k).all (fun k => p (r.getD k 0)) = r.all p := by
        intro p
        have : (List.range r.length).filter (fun k => !([] : List Nat).contains k) = List.range r.length := List.filter_eq_self.2 fun a _ => by simp
        rw [this]
        have e : r = (List.range r.length).map fun k => r.getD k 0 := by
          apply List.ext_getElem
          · simp
          · intro i h1 h2; simp [h1]
        conv => rhs; rw [e, List.all_map]
        congr 1
      have hall := hall' (okAt l r)
      refine ⟨⟨hfit, fun a ha => ?_⟩, fun h' => leaf0 ?_, fun h' => leaf9 ?_⟩
      · have := startsF_mem _ _ hr a ha
        exact ⟨this.2.1, stepS_some this.2.2⟩
      · rw [hb r hr, ← hall]; exact h'
      · rw [hb r hr, ← hall]; exact h'
    · have : startsS l = none := by simpa using h
      simp [checkB, allOk, this]
end Go.Proofs.Ytfpnadmpmfcaaaa
