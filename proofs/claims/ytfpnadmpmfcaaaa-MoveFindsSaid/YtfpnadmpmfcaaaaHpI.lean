/- built: a heap of raw things. -/
import Derived.Test.YtfpnadmpmfcaaaaHpH
open Rx Go
namespace Go.Proofs.Ytfpnadmpmfcaaaa

structure Rw where
  k : Int
  a : Int
  b : Int
  c : Int
  deriving Inhabited
def rC (r : Rw) (j : Nat) : Dt :=
  match j with
  | 0 => .cell (.int .i64 r.k)
  | 1 => .cell (.int .i64 r.a)
  | 2 => .cell (.int .i64 r.b)
  | _ => .cell (.int .i64 r.c)
def rF (l : List Rw) (i j : Nat) : Dt := rC (l.getD i default) j
def rD (l : List Rw) : SV := .dt (.arr 4 l.length (rF l))
def dI : Dt → Int
  | .cell (.int _ k) => k
  | _ => 0
def rdRw (f : Nat → Dt) : Rw := ⟨dI (f 0), dI (f 1), dI (f 2), dI (f 3)⟩
def rdRs (n : Nat) (f : Nat → Nat → Dt) : List Rw := (List.range n).map fun i => rdRw (f i)
def rdR : SV → Option (List Rw)
  | .dt (.arr 4 n f) => some (rdRs n f)
  | _ => none
def rawOk (l : List Rw) : Prop := ∀ r ∈ l, isInt r.k ∧ isInt r.a ∧ isInt r.b ∧ isInt r.c

/-- what was built: blocks, and what was made -/
structure Bd where
  bs : List (List Wd)
  ms : List Wd
def Bd.ws (d : Bd) : List Wd := d.bs.flatten
def noS : ByteArray := ⟨#[]⟩
def pickW (mk : List Wd) (n : Int) : Wd := at' mk (pickedS n mk.length)
def blkOf (mk : List Wd) (r : Rw) : List Wd :=
  if pickedS r.k 4 = 0 then [⟨7, 0, noS⟩, pickW mk r.a]
  else if pickedS r.k 4 = 1 then [⟨9, pickedS r.c 3, noS⟩, ⟨1, pickedS r.c 2, noS⟩, ⟨1, 2, noS⟩, pickW mk r.a, pickW mk r.b]
  else [⟨6, 0, noS⟩, pickW mk r.a, pickW mk r.b]
def Bd.step (d : Bd) (r : Rw) : Bd := ⟨d.bs ++ [blkOf d.ms r], d.ms ++ [⟨5, d.ws.length, noS⟩]⟩
def bd0 : Bd := ⟨[], [⟨1, 7, noS⟩, ⟨3, 0, noS⟩]⟩
def builtD (l : List Rw) (most : Int) : Bd := (l.take most.toNat).foldl Bd.step bd0
def builtO (l : List Rw) (most : Int) : T Out := .need (rawOk l ∧ 0 ≤ most ∧ most ≤ 30) (.ret (.tup [hS (builtD l most).ws 600, wD (builtD l most).ms], []))

def noF : FC := ⟨0, false, false, fun _ _ => none⟩
def buKs : List (Nat × Nat × FC) := [(2, 2, noF), (7, 5, pickedF), (8, 5, pickedF), (10, 2, pickedF), (14, 2, pickedF), (14, 6, pickedF), (15, 2, putF)]
def buArgs (l : List Rw) (most : Int) (i : Nat) : List SV := [rD l, vI .i64 most, .ptr 0 0, .ptr 1 0, .nm 2, vI .i64 i]
def buObs (ws mk : List Wd) : List (Option Ob) := [some (.cells 25 [.junk, .junk]), some (.cells 25 [wD ws, vI .i64 600]), some (wR mk)]
def buOut (l : List Rw) (most : Int) (i : Nat) : T OutC := .need (rawOk l ∧ 0 ≤ most ∧ most ≤ 30 ∧ i ≤ most) (.ret (.exit 0, [.ptr 0 0, .ptr 1 0, .nm 2], buObs (builtD l most).ws (builtD l most).ms))
def buLF : LF := ⟨4, ⟨[0, 1, 4, 6, 7, 8], [4, 6, 7], []⟩, fun svs _ => match svs with
  | [s, m, _, _, _, _] => match rdR s, rdI m with
    | some l, some most => some (buArgs l most 0, buObs noW bd0.ms, buOut l most 0)
    | _, _ => none
  | _ => none⟩
noncomputable def buE : Env := fnE Try.prog 94 0 buKs [buLF]
noncomputable def buLoop : Code := (loopIn 4 (bodyOf Try.f12)).getD .skip

def buLQ (l : List Rw) (most : Int) (i : Nat) (ws mk : List Wd) (Rn : List SV → List (Option Ob) → Prop) (Re : Ex → List SV → List (Option Ob) → Prop) : Prop :=
(((Decidable.decide ((↑i : Int) < (↑l.length : Int)) = Bool.true) →
 (((Decidable.decide ((↑i : Int) < most) = Bool.true) →
   ((((0 : Int) ≤ (↑i : Int)) ∧
     ((↑i : Int) < (↑l.length : Int))) ∧
    ((Rx.leL ([SV.dt (Dt.cell (Go.Value.int Go.IntKind.i64 (l.getD (↑i : Int).toNat Inhabited.default).a)), SV.dt (Dt.cell (Go.Value.int Go.IntKind.i64 (↑mk.length : Int)))]) ([SV.dt (Dt.cell (Go.Value.int Go.IntKind.i64 (l.getD (↑i : Int).toNat Inhabited.default).a)), SV.dt (Dt.cell (Go.Value.int Go.IntKind.i64 (↑mk.length : Int)))])) ∧
     ((Rx.leObL ([]) ([])) ∧
      (((Go.Proofs.Ytfpnadmpmfcaaaa.isInt (l.getD (↑i : Int).toNat Inhabited.default).a) ∧
        ((↑mk.length : Int) ≠ (0 : Int))) ∧
       ((((0 : Int) ≤ Go.Proofs.Ytfpnadmpmfcaaaa.pickedS (l.getD (↑i : Int).toNat Inhabited.default).a (↑mk.length : Int)) ∧
         (Go.Proofs.Ytfpnadmpmfcaaaa.pickedS (l.getD (↑i : Int).toNat Inhabited.default).a (↑mk.length : Int) < (↑mk.length : Int))) ∧
        (((Go.Proofs.Ytfpnadmpmfcaaaa.pickedS (l.getD (↑i : Int).toNat Inhabited.default).a (↑mk.length : Int)).toNat < mk.length) ∧
         ((Rx.leL ([SV.dt (Dt.cell (Go.Value.int Go.IntKind.i64 (l.getD (↑i : Int).toNat Inhabited.default).b)), SV.dt (Dt.cell (Go.Value.int Go.IntKind.i64 (↑mk.length : Int)))]) ([SV.dt (Dt.cell (Go.Value.int Go.IntKind.i64 (l.getD (↑i : Int).toNat Inhabited.default).b)), SV.dt (Dt.cell (Go.Value.int Go.IntKind.i64 (↑mk.length : Int)))])) ∧
          ((Rx.leObL ([]) ([])) ∧
           (((Go.Proofs.Ytfpnadmpmfcaaaa.isInt (l.getD (↑i : Int).toNat Inhabited.default).b) ∧
             ((↑mk.length : Int) ≠ (0 : Int))) ∧
            ((((0 : Int) ≤ Go.Proofs.Ytfpnadmpmfcaaaa.pickedS (l.getD (↑i : Int).toNat Inhabited.default).b (↑mk.length : Int)) ∧
              (Go.Proofs.Ytfpnadmpmfcaaaa.pickedS (l.getD (↑i : Int).toNat Inhabited.default).b (↑mk.length : Int) < (↑mk.length : Int))) ∧
             (((Go.Proofs.Ytfpnadmpmfcaaaa.pickedS (l.getD (↑i : Int).toNat Inhabited.default).b (↑mk.length : Int)).toNat < mk.length) ∧
              ((Rx.leL ([SV.dt (Dt.cell (Go.Value.int Go.IntKind.i64 (l.getD (↑i : Int).toNat Inhabited.default).k)), SV.dt (Dt.cell (Go.Value.int Go.IntKind.i64 (4 : Int)))]) ([SV.dt (Dt.cell (Go.Value.int Go.IntKind.i64 (l.getD (↑i : Int).toNat Inhabited.default).k)), SV.dt (Dt.cell (Go.Value.int Go.IntKind.i64 (4 : Int)))])) ∧
               ((Rx.leObL ([]) ([])) ∧
                (((Go.Proofs.Ytfpnadmpmfcaaaa.isInt (l.getD (↑i : Int).toNat Inhabited.default).k) ∧
                  ((4 : Int) ≠ (0 : Int))) ∧
                 ((((Go.Proofs.Ytfpnadmpmfcaaaa.pickedS (l.getD (↑i : Int).toNat Inhabited.default).k (4 : Int) == (0 : Int)) = Bool.true) →
                   ((Rx.leL ([SV.agg [SV.dt (Dt.arr ((3 : Nat)) (ws.length) (Go.Proofs.Ytfpnadmpmfcaaaa.wF ws)), SV.dt (Dt.cell (Go.Value.int Go.IntKind.i64 (600 : Int)))], SV.dt (Dt.arr ((3 : Nat)) ((2 : Nat)) (fun i_1 j => [Rx.Dt.cell (Go.Value.int Go.IntKind.i64 (7 : Int)), Rx.Dt.cell (Go.Value.int Go.IntKind.i64 (0 : Int)), Rx.Dt.cell (Go.Value.string (ByteArray.mk #[])), Go.Proofs.Ytfpnadmpmfcaaaa.wF mk (Go.Proofs.Ytfpnadmpmfcaaaa.pickedS (l.getD (↑i : Int).toNat Inhabited.default).a (↑mk.length : Int)).toNat ((0 : Nat) + nat_lit 0), Go.Proofs.Ytfpnadmpmfcaaaa.wF mk (Go.Proofs.Ytfpnadmpmfcaaaa.pickedS (l.getD (↑i : Int).toNat Inhabited.default).a (↑mk.length : Int)).toNat ((0 : Nat) + nat_lit 1), Go.Proofs.Ytfpnadmpmfcaaaa.wF mk (Go.Proofs.Ytfpnadmpmfcaaaa.pickedS (l.getD (↑i : Int).toNat Inhabited.default).a (↑mk.length : Int)).toNat ((0 : Nat) + nat_lit 2)].getD (i_1 * (3 : Nat) + j) Rx.undefCell))]) ([SV.agg [SV.dt (Dt.arr ((3 : Nat)) ((Go.Proofs.Ytfpnadmpmfcaaaa.rdF ws.length (Go.Proofs.Ytfpnadmpmfcaaaa.wF ws)).length) (Go.Proofs.Ytfpnadmpmfcaaaa.wF (Go.Proofs.Ytfpnadmpmfcaaaa.rdF ws.length (Go.Proofs.Ytfpnadmpmfcaaaa.wF ws)))), SV.dt (Dt.cell (Go.Value.int Go.IntKind.i64 (600 : Int)))], SV.dt (Dt.arr ((3 : Nat)) ((Go.Proofs.Ytfpnadmpmfcaaaa.rdF (2 : Nat) fun i_1 j => [Rx.Dt.cell (Go.Value.int Go.IntKind.i64 (7 : Int)), Rx.Dt.cell (Go.Value.int Go.IntKind.i64 (0 : Int)), Rx.Dt.cell (Go.Value.string (ByteArray.mk #[])), Go.Proofs.Ytfpnadmpmfcaaaa.wF mk (Go.Proofs.Ytfpnadmpmfcaaaa.pickedS (l.getD (↑i : Int).toNat Inhabited.default).a (↑mk.length : Int)).toNat ((0 : Nat) + nat_lit 0), Go.Proofs.Ytfpnadmpmfcaaaa.wF mk (Go.Proofs.Ytfpnadmpmfcaaaa.pickedS (l.getD (↑i : Int).toNat Inhabited.default).a (↑mk.length : Int)).toNat ((0 : Nat) + nat_lit 1), Go.Proofs.Ytfpnadmpmfcaaaa.wF mk (Go.Proofs.Ytfpnadmpmfcaaaa.pickedS (l.getD (↑i : Int).toNat Inhabited.default).a (↑mk.length : Int)).toNat ((0 : Nat) + nat_lit 2)].getD (i_1 * (3 : Nat) + j) Rx.undefCell).length) (Go.Proofs.Ytfpnadmpmfcaaaa.wF (Go.Proofs.Ytfpnadmpmfcaaaa.rdF (2 : Nat) fun i_1 j => [Rx.Dt.cell (Go.Value.int Go.IntKind.i64 (7 : Int)), Rx.Dt.cell (Go.Value.int Go.IntKind.i64 (0 : Int)), Rx.Dt.cell (Go.Value.string (ByteArray.mk #[])), Go.Proofs.Ytfpnadmpmfcaaaa.wF mk (Go.Proofs.Ytfpnadmpmfcaaaa.pickedS (l.getD (↑i : Int).toNat Inhabited.default).a (↑mk.length : Int)).toNat ((0 : Nat) + nat_lit 0), Go.Proofs.Ytfpnadmpmfcaaaa.wF mk (Go.Proofs.Ytfpnadmpmfcaaaa.pickedS (l.getD (↑i : Int).toNat Inhabited.default).a (↑mk.length : Int)).toNat ((0 : Nat) + nat_lit 1), Go.Proofs.Ytfpnadmpmfcaaaa.wF mk (Go.Proofs.Ytfpnadmpmfcaaaa.pickedS (l.getD (↑i : Int).toNat Inhabited.default).a (↑mk.length : Int)).toNat ((0 : Nat) + nat_lit 2)].getD (i_1 * (3 : Nat) + j) Rx.undefCell)))])) ∧
                    ((Rx.leObL ([]) ([])) ∧
                     ((Go.Proofs.Ytfpnadmpmfcaaaa.fitsW (Go.Proofs.Ytfpnadmpmfcaaaa.rdF (2 : Nat) fun i_1 j => [Rx.Dt.cell (Go.Value.int Go.IntKind.i64 (7 : Int)), Rx.Dt.cell (Go.Value.int Go.IntKind.i64 (0 : Int)), Rx.Dt.cell (Go.Value.string (ByteArray.mk #[])), Go.Proofs.Ytfpnadmpmfcaaaa.wF mk (Go.Proofs.Ytfpnadmpmfcaaaa.pickedS (l.getD (↑i : Int).toNat Inhabited.default).a (↑mk.length : Int)).toNat ((0 : Nat) + nat_lit 0), Go.Proofs.Ytfpnadmpmfcaaaa.wF mk (Go.Proofs.Ytfpnadmpmfcaaaa.pickedS (l.getD (↑i : Int).toNat Inhabited.default).a (↑mk.length : Int)).toNat ((0 : Nat) + nat_lit 1), Go.Proofs.Ytfpnadmpmfcaaaa.wF mk (Go.Proofs.Ytfpnadmpmfcaaaa.pickedS (l.getD (↑i : Int).toNat Inhabited.default).a (↑mk.length : Int)).toNat ((0 : Nat) + nat_lit 2)].getD (i_1 * (3 : Nat) + j) Rx.undefCell)) ∧
                      (((Go.Proofs.Ytfpnadmpmfcaaaa.putGood (Go.Proofs.Ytfpnadmpmfcaaaa.rdF ws.length (Go.Proofs.Ytfpnadmpmfcaaaa.wF ws)) (600 : Int) (Go.Proofs.Ytfpnadmpmfcaaaa.rdF (2 : Nat) fun i_1 j => [Rx.Dt.cell (Go.Value.int Go.IntKind.i64 (7 : Int)), Rx.Dt.cell (Go.Value.int Go.IntKind.i64 (0 : Int)), Rx.Dt.cell (Go.Value.string (ByteArray.mk #[])), Go.Proofs.Ytfpnadmpmfcaaaa.wF mk (Go.Proofs.Ytfpnadmpmfcaaaa.pickedS (l.getD (↑i : Int).toNat Inhabited.default).a (↑mk.length : Int)).toNat ((0 : Nat) + nat_lit 0), Go.Proofs.Ytfpnadmpmfcaaaa.wF mk (Go.Proofs.Ytfpnadmpmfcaaaa.pickedS (l.getD (↑i : Int).toNat Inhabited.default).a (↑mk.length : Int)).toNat ((0 : Nat) + nat_lit 1), Go.Proofs.Ytfpnadmpmfcaaaa.wF mk (Go.Proofs.Ytfpnadmpmfcaaaa.pickedS (l.getD (↑i : Int).toNat Inhabited.default).a (↑mk.length : Int)).toNat ((0 : Nat) + nat_lit 2)].getD (i_1 * (3 : Nat) + j) Rx.undefCell) = Bool.true) →
                        (((mk.length + (1 : Nat)) * (32 : Nat) ≤ (140737488355328 : Nat)) ∧
                         (((Rx.lo Go.IntKind.i64 ≤ (↑i : Int) + (1 : Int)) ∧
                           ((↑i : Int) + (1 : Int) ≤ Rx.hi Go.IntKind.i64)) ∧
                          Rn ([SV.dt (Dt.arr ((4 : Nat)) (l.length) (Go.Proofs.Ytfpnadmpmfcaaaa.rF l)), SV.dt (Dt.cell (Go.Value.int Go.IntKind.i64 most)), SV.ptr 0 0, SV.ptr 1 0, SV.nm 2, SV.dt (Dt.cell (Go.Value.int Go.IntKind.i64 ((↑i : Int) + (1 : Int))))]) ([some (Ob.cells 25 [SV.junk, SV.junk]), some (Ob.cells 25 [SV.dt (Dt.arr ((3 : Nat)) ((Go.Proofs.Ytfpnadmpmfcaaaa.rdF ws.length (Go.Proofs.Ytfpnadmpmfcaaaa.wF ws) ++ Go.Proofs.Ytfpnadmpmfcaaaa.rdF (2 : Nat) fun i_1 j => [Rx.Dt.cell (Go.Value.int Go.IntKind.i64 (7 : Int)), Rx.Dt.cell (Go.Value.int Go.IntKind.i64 (0 : Int)), Rx.Dt.cell (Go.Value.string (ByteArray.mk #[])), Go.Proofs.Ytfpnadmpmfcaaaa.wF mk (Go.Proofs.Ytfpnadmpmfcaaaa.pickedS (l.getD (↑i : Int).toNat Inhabited.default).a (↑mk.length : Int)).toNat ((0 : Nat) + nat_lit 0), Go.Proofs.Ytfpnadmpmfcaaaa.wF mk (Go.Proofs.Ytfpnadmpmfcaaaa.pickedS (l.getD (↑i : Int).toNat Inhabited.default).a (↑mk.length : Int)).toNat ((0 : Nat) + nat_lit 1), Go.Proofs.Ytfpnadmpmfcaaaa.wF mk (Go.Proofs.Ytfpnadmpmfcaaaa.pickedS (l.getD (↑i : Int).toNat Inhabited.default).a (↑mk.length : Int)).toNat ((0 : Nat) + nat_lit 2)].getD (i_1 * (3 : Nat) + j) Rx.undefCell).length) (Go.Proofs.Ytfpnadmpmfcaaaa.wF (Go.Proofs.Ytfpnadmpmfcaaaa.rdF ws.length (Go.Proofs.Ytfpnadmpmfcaaaa.wF ws) ++ Go.Proofs.Ytfpnadmpmfcaaaa.rdF (2 : Nat) fun i_1 j => [Rx.Dt.cell (Go.Value.int Go.IntKind.i64 (7 : Int)), Rx.Dt.cell (Go.Value.int Go.IntKind.i64 (0 : Int)), Rx.Dt.cell (Go.Value.string (ByteArray.mk #[])), Go.Proofs.Ytfpnadmpmfcaaaa.wF mk (Go.Proofs.Ytfpnadmpmfcaaaa.pickedS (l.getD (↑i : Int).toNat Inhabited.default).a (↑mk.length : Int)).toNat ((0 : Nat) + nat_lit 0), Go.Proofs.Ytfpnadmpmfcaaaa.wF mk (Go.Proofs.Ytfpnadmpmfcaaaa.pickedS (l.getD (↑i : Int).toNat Inhabited.default).a (↑mk.length : Int)).toNat ((0 : Nat) + nat_lit 1), Go.Proofs.Ytfpnadmpmfcaaaa.wF mk (Go.Proofs.Ytfpnadmpmfcaaaa.pickedS (l.getD (↑i : Int).toNat Inhabited.default).a (↑mk.length : Int)).toNat ((0 : Nat) + nat_lit 2)].getD (i_1 * (3 : Nat) + j) Rx.undefCell))), SV.dt (Dt.cell (Go.Value.int Go.IntKind.i64 (600 : Int)))]), some (Ob.row 30 3 (mk.length + (1 : Nat)) (Rx.catF mk.length (Go.Proofs.Ytfpnadmpmfcaaaa.wF mk) fun i j => [Rx.Dt.cell (Go.Value.int Go.IntKind.i64 (5 : Int)), Rx.Dt.cell (Go.Value.int Go.IntKind.i64 (↑(Go.Proofs.Ytfpnadmpmfcaaaa.rdF ws.length (Go.Proofs.Ytfpnadmpmfcaaaa.wF ws)).length : Int)), Rx.Dt.cell (Go.Value.string (ByteArray.mk #[]))].getD (i * (3 : Nat) + j) Rx.undefCell))])))) ∧
                       ((Go.Proofs.Ytfpnadmpmfcaaaa.putGood (Go.Proofs.Ytfpnadmpmfcaaaa.rdF ws.length (Go.Proofs.Ytfpnadmpmfcaaaa.wF ws)) (600 : Int) (Go.Proofs.Ytfpnadmpmfcaaaa.rdF (2 : Nat) fun i_1 j => [Rx.Dt.cell (Go.Value.int Go.IntKind.i64 (7 : Int)), Rx.Dt.cell (Go.Value.int Go.IntKind.i64 (0 : Int)), Rx.Dt.cell (Go.Value.string (ByteArray.mk #[])), Go.Proofs.Ytfpnadmpmfcaaaa.wF mk (Go.Proofs.Ytfpnadmpmfcaaaa.pickedS (l.getD (↑i : Int).toNat Inhabited.default).a (↑mk.length : Int)).toNat ((0 : Nat) + nat_lit 0), Go.Proofs.Ytfpnadmpmfcaaaa.wF mk (Go.Proofs.Ytfpnadmpmfcaaaa.pickedS (l.getD (↑i : Int).toNat Inhabited.default).a (↑mk.length : Int)).toNat ((0 : Nat) + nat_lit 1), Go.Proofs.Ytfpnadmpmfcaaaa.wF mk (Go.Proofs.Ytfpnadmpmfcaaaa.pickedS (l.getD (↑i : Int).toNat Inhabited.default).a (↑mk.length : Int)).toNat ((0 : Nat) + nat_lit 2)].getD (i_1 * (3 : Nat) + j) Rx.undefCell) = Bool.false) →
                        ((((Go.Proofs.Ytfpnadmpmfcaaaa.putErr (Go.Proofs.Ytfpnadmpmfcaaaa.rdF ws.length (Go.Proofs.Ytfpnadmpmfcaaaa.wF ws)) (600 : Int) (Go.Proofs.Ytfpnadmpmfcaaaa.rdF (2 : Nat) fun i_1 j => [Rx.Dt.cell (Go.Value.int Go.IntKind.i64 (7 : Int)), Rx.Dt.cell (Go.Value.int Go.IntKind.i64 (0 : Int)), Rx.Dt.cell (Go.Value.string (ByteArray.mk #[])), Go.Proofs.Ytfpnadmpmfcaaaa.wF mk (Go.Proofs.Ytfpnadmpmfcaaaa.pickedS (l.getD (↑i : Int).toNat Inhabited.default).a (↑mk.length : Int)).toNat ((0 : Nat) + nat_lit 0), Go.Proofs.Ytfpnadmpmfcaaaa.wF mk (Go.Proofs.Ytfpnadmpmfcaaaa.pickedS (l.getD (↑i : Int).toNat Inhabited.default).a (↑mk.length : Int)).toNat ((0 : Nat) + nat_lit 1), Go.Proofs.Ytfpnadmpmfcaaaa.wF mk (Go.Proofs.Ytfpnadmpmfcaaaa.pickedS (l.getD (↑i : Int).toNat Inhabited.default).a (↑mk.length : Int)).toNat ((0 : Nat) + nat_lit 2)].getD (i_1 * (3 : Nat) + j) Rx.undefCell) != (0 : Int)) = Bool.true) →
                          Re (Rx.Ex.exit (0 : Nat)) ([SV.ptr 0 0, SV.ptr 1 0, SV.nm 2]) ([some (Ob.cells 25 [SV.junk, SV.junk]), some (Ob.cells 25 [SV.dt (Dt.arr ((3 : Nat)) (ws.length) (Go.Proofs.Ytfpnadmpmfcaaaa.wF ws)), SV.dt (Dt.cell (Go.Value.int Go.IntKind.i64 (600 : Int)))]), some (Ob.row 30 3 (mk.length) (Go.Proofs.Ytfpnadmpmfcaaaa.wF mk))])) ∧
                         (((Go.Proofs.Ytfpnadmpmfcaaaa.putErr (Go.Proofs.Ytfpnadmpmfcaaaa.rdF ws.length (Go.Proofs.Ytfpnadmpmfcaaaa.wF ws)) (600 : Int) (Go.Proofs.Ytfpnadmpmfcaaaa.rdF (2 : Nat) fun i_1 j => [Rx.Dt.cell (Go.Value.int Go.IntKind.i64 (7 : Int)), Rx.Dt.cell (Go.Value.int Go.IntKind.i64 (0 : Int)), Rx.Dt.cell (Go.Value.string (ByteArray.mk #[])), Go.Proofs.Ytfpnadmpmfcaaaa.wF mk (Go.Proofs.Ytfpnadmpmfcaaaa.pickedS (l.getD (↑i : Int).toNat Inhabited.default).a (↑mk.length : Int)).toNat ((0 : Nat) + nat_lit 0), Go.Proofs.Ytfpnadmpmfcaaaa.wF mk (Go.Proofs.Ytfpnadmpmfcaaaa.pickedS (l.getD (↑i : Int).toNat Inhabited.default).a (↑mk.length : Int)).toNat ((0 : Nat) + nat_lit 1), Go.Proofs.Ytfpnadmpmfcaaaa.wF mk (Go.Proofs.Ytfpnadmpmfcaaaa.pickedS (l.getD (↑i : Int).toNat Inhabited.default).a (↑mk.length : Int)).toNat ((0 : Nat) + nat_lit 2)].getD (i_1 * (3 : Nat) + j) Rx.undefCell) != (0 : Int)) = Bool.false) →
                          (((mk.length + (1 : Nat)) * (32 : Nat) ≤ (140737488355328 : Nat)) ∧
                           (((Rx.lo Go.IntKind.i64 ≤ (↑i : Int) + (1 : Int)) ∧
                             ((↑i : Int) + (1 : Int) ≤ Rx.hi Go.IntKind.i64)) ∧
                            Rn ([SV.dt (Dt.arr ((4 : Nat)) (l.length) (Go.Proofs.Ytfpnadmpmfcaaaa.rF l)), SV.dt (Dt.cell (Go.Value.int Go.IntKind.i64 most)), SV.ptr 0 0, SV.ptr 1 0, SV.nm 2, SV.dt (Dt.cell (Go.Value.int Go.IntKind.i64 ((↑i : Int) + (1 : Int))))]) ([some (Ob.cells 25 [SV.junk, SV.junk]), some (Ob.cells 25 [SV.dt (Dt.cell (Go.Value.slice Option.none (0 : Nat) (0 : Nat))), SV.dt (Dt.cell (Go.Value.int Go.IntKind.i64 (0 : Int)))]), some (Ob.row 30 3 (mk.length + (1 : Nat)) (Rx.catF mk.length (Go.Proofs.Ytfpnadmpmfcaaaa.wF mk) fun i j => [Rx.Dt.cell (Go.Value.int Go.IntKind.i64 (5 : Int)), Rx.Dt.cell (Go.Value.int Go.IntKind.i64 (0 : Int)), Rx.Dt.cell (Go.Value.string (ByteArray.mk #[]))].getD (i * (3 : Nat) + j) Rx.undefCell))]))))))))))) ∧
                  (((Go.Proofs.Ytfpnadmpmfcaaaa.pickedS (l.getD (↑i : Int).toNat Inhabited.default).k (4 : Int) == (0 : Int)) = Bool.false) →
                   ((((Go.Proofs.Ytfpnadmpmfcaaaa.pickedS (l.getD (↑i : Int).toNat Inhabited.default).k (4 : Int) == (1 : Int)) = Bool.true) →
                     ((Rx.leL ([SV.dt (Dt.cell (Go.Value.int Go.IntKind.i64 (l.getD (↑i : Int).toNat Inhabited.default).c)), SV.dt (Dt.cell (Go.Value.int Go.IntKind.i64 (3 : Int)))]) ([SV.dt (Dt.cell (Go.Value.int Go.IntKind.i64 (l.getD (↑i : Int).toNat Inhabited.default).c)), SV.dt (Dt.cell (Go.Value.int Go.IntKind.i64 (3 : Int)))])) ∧
                      ((Rx.leObL ([]) ([])) ∧
                       (((Go.Proofs.Ytfpnadmpmfcaaaa.isInt (l.getD (↑i : Int).toNat Inhabited.default).c) ∧
                         ((3 : Int) ≠ (0 : Int))) ∧
                        ((Rx.leL ([SV.dt (Dt.cell (Go.Value.int Go.IntKind.i64 (l.getD (↑i : Int).toNat Inhabited.default).c)), SV.dt (Dt.cell (Go.Value.int Go.IntKind.i64 (2 : Int)))]) ([SV.dt (Dt.cell (Go.Value.int Go.IntKind.i64 (l.getD (↑i : Int).toNat Inhabited.default).c)), SV.dt (Dt.cell (Go.Value.int Go.IntKind.i64 (2 : Int)))])) ∧
                         ((Rx.leObL ([]) ([])) ∧
                          (((Go.Proofs.Ytfpnadmpmfcaaaa.isInt (l.getD (↑i : Int).toNat Inhabited.default).c) ∧
                            ((2 : Int) ≠ (0 : Int))) ∧
                           ((Rx.leL ([SV.agg [SV.dt (Dt.arr ((3 : Nat)) (ws.length) (Go.Proofs.Ytfpnadmpmfcaaaa.wF ws)), SV.dt (Dt.cell (Go.Value.int Go.IntKind.i64 (600 : Int)))], SV.dt (Dt.arr ((3 : Nat)) ((5 : Nat)) (fun i_1 j => [Rx.Dt.cell (Go.Value.int Go.IntKind.i64 (9 : Int)), Rx.Dt.cell (Go.Value.int Go.IntKind.i64 (Go.Proofs.Ytfpnadmpmfcaaaa.pickedS (l.getD (↑i : Int).toNat Inhabited.default).c (3 : Int))), Rx.Dt.cell (Go.Value.string (ByteArray.mk #[])), Rx.Dt.cell (Go.Value.int Go.IntKind.i64 (1 : Int)), Rx.Dt.cell (Go.Value.int Go.IntKind.i64 (Go.Proofs.Ytfpnadmpmfcaaaa.pickedS (l.getD (↑i : Int).toNat Inhabited.default).c (2 : Int))), Rx.Dt.cell (Go.Value.string (ByteArray.mk #[])), Rx.Dt.cell (Go.Value.int Go.IntKind.i64 (1 : Int)), Rx.Dt.cell (Go.Value.int Go.IntKind.i64 (2 : Int)), Rx.Dt.cell (Go.Value.string (ByteArray.mk #[])), Go.Proofs.Ytfpnadmpmfcaaaa.wF mk (Go.Proofs.Ytfpnadmpmfcaaaa.pickedS (l.getD (↑i : Int).toNat Inhabited.default).a (↑mk.length : Int)).toNat ((0 : Nat) + nat_lit 0), Go.Proofs.Ytfpnadmpmfcaaaa.wF mk (Go.Proofs.Ytfpnadmpmfcaaaa.pickedS (l.getD (↑i : Int).toNat Inhabited.default).a (↑mk.length : Int)).toNat ((0 : Nat) + nat_lit 1), Go.Proofs.Ytfpnadmpmfcaaaa.wF mk (Go.Proofs.Ytfpnadmpmfcaaaa.pickedS (l.getD (↑i : Int).toNat Inhabited.default).a (↑mk.length : Int)).toNat ((0 : Nat) + nat_lit 2), Go.Proofs.Ytfpnadmpmfcaaaa.wF mk (Go.Proofs.Ytfpnadmpmfcaaaa.pickedS (l.getD (↑i : Int).toNat Inhabited.default).b (↑mk.length : Int)).toNat ((0 : Nat) + nat_lit 0), Go.Proofs.Ytfpnadmpmfcaaaa.wF mk (Go.Proofs.Ytfpnadmpmfcaaaa.pickedS (l.getD (↑i : Int).toNat Inhabited.default).b (↑mk.length : Int)).toNat ((0 : Nat) + nat_lit 1), Go.Proofs.Ytfpnadmpmfcaaaa.wF mk (Go.Proofs.Ytfpnadmpmfcaaaa.pickedS (l.getD (↑i : Int).toNat Inhabited.default).b (↑mk.length : Int)).toNat ((0 : Nat) + nat_lit 2)].getD (i_1 * (3 : Nat) + j) Rx.undefCell))]) ([SV.agg [SV.dt (Dt.arr ((3 : Nat)) ((Go.Proofs.Ytfpnadmpmfcaaaa.rdF ws.length (Go.Proofs.Ytfpnadmpmfcaaaa.wF ws)).length) (Go.Proofs.Ytfpnadmpmfcaaaa.wF (Go.Proofs.Ytfpnadmpmfcaaaa.rdF ws.length (Go.Proofs.Ytfpnadmpmfcaaaa.wF ws)))), SV.dt (Dt.cell (Go.Value.int Go.IntKind.i64 (600 : Int)))], SV.dt (Dt.arr ((3 : Nat)) ((Go.Proofs.Ytfpnadmpmfcaaaa.rdF (5 : Nat) fun i_1 j => [Rx.Dt.cell (Go.Value.int Go.IntKind.i64 (9 : Int)), Rx.Dt.cell (Go.Value.int Go.IntKind.i64 (Go.Proofs.Ytfpnadmpmfcaaaa.pickedS (l.getD (↑i : Int).toNat Inhabited.default).c (3 : Int))), Rx.Dt.cell (Go.Value.string (ByteArray.mk #[])), Rx.Dt.cell (Go.Value.int Go.IntKind.i64 (1 : Int)), Rx.Dt.cell (Go.Value.int Go.IntKind.i64 (Go.Proofs.Ytfpnadmpmfcaaaa.pickedS (l.getD (↑i : Int).toNat Inhabited.default).c (2 : Int))), Rx.Dt.cell (Go.Value.string (ByteArray.mk #[])), Rx.Dt.cell (Go.Value.int Go.IntKind.i64 (1 : Int)), Rx.Dt.cell (Go.Value.int Go.IntKind.i64 (2 : Int)), Rx.Dt.cell (Go.Value.string (ByteArray.mk #[])), Go.Proofs.Ytfpnadmpmfcaaaa.wF mk (Go.Proofs.Ytfpnadmpmfcaaaa.pickedS (l.getD (↑i : Int).toNat Inhabited.default).a (↑mk.length : Int)).toNat ((0 : Nat) + nat_lit 0), Go.Proofs.Ytfpnadmpmfcaaaa.wF mk (Go.Proofs.Ytfpnadmpmfcaaaa.pickedS (l.getD (↑i : Int).toNat Inhabited.default).a (↑mk.length : Int)).toNat ((0 : Nat) + nat_lit 1), Go.Proofs.Ytfpnadmpmfcaaaa.wF mk (Go.Proofs.Ytfpnadmpmfcaaaa.pickedS (l.getD (↑i : Int).toNat Inhabited.default).a (↑mk.length : Int)).toNat ((0 : Nat) + nat_lit 2), Go.Proofs.Ytfpnadmpmfcaaaa.wF mk (Go.Proofs.Ytfpnadmpmfcaaaa.pickedS (l.getD (↑i : Int).toNat Inhabited.default).b (↑mk.length : Int)).toNat ((0 : Nat) + nat_lit 0), Go.Proofs.Ytfpnadmpmfcaaaa.wF mk (Go.Proofs.Ytfpnadmpmfcaaaa.pickedS (l.getD (↑i : Int).toNat Inhabited.default).b (↑mk.length : Int)).toNat ((0 : Nat) + nat_lit 1), Go.Proofs.Ytfpnadmpmfcaaaa.wF mk (Go.Proofs.Ytfpnadmpmfcaaaa.pickedS (l.getD (↑i : Int).toNat Inhabited.default).b (↑mk.length : Int)).toNat ((0 : Nat) + nat_lit 2)].getD (i_1 * (3 : Nat) + j) Rx.undefCell).length) (Go.Proofs.Ytfpnadmpmfcaaaa.wF (Go.Proofs.Ytfpnadmpmfcaaaa.rdF (5 : Nat) fun i_1 j => [Rx.Dt.cell (Go.Value.int Go.IntKind.i64 (9 : Int)), Rx.Dt.cell (Go.Value.int Go.IntKind.i64 (Go.Proofs.Ytfpnadmpmfcaaaa.pickedS (l.getD (↑i : Int).toNat Inhabited.default).c (3 : Int))), Rx.Dt.cell (Go.Value.string (ByteArray.mk #[])), Rx.Dt.cell (Go.Value.int Go.IntKind.i64 (1 : Int)), Rx.Dt.cell (Go.Value.int Go.IntKind.i64 (Go.Proofs.Ytfpnadmpmfcaaaa.pickedS (l.getD (↑i : Int).toNat Inhabited.default).c (2 : Int))), Rx.Dt.cell (Go.Value.string (ByteArray.mk #[])), Rx.Dt.cell (Go.Value.int Go.IntKind.i64 (1 : Int)), Rx.Dt.cell (Go.Value.int Go.IntKind.i64 (2 : Int)), Rx.Dt.cell (Go.Value.string (ByteArray.mk #[])), Go.Proofs.Ytfpnadmpmfcaaaa.wF mk (Go.Proofs.Ytfpnadmpmfcaaaa.pickedS (l.getD (↑i : Int).toNat Inhabited.default).a (↑mk.length : Int)).toNat ((0 : Nat) + nat_lit 0), Go.Proofs.Ytfpnadmpmfcaaaa.wF mk (Go.Proofs.Ytfpnadmpmfcaaaa.pickedS (l.getD (↑i : Int).toNat Inhabited.default).a (↑mk.length : Int)).toNat ((0 : Nat) + nat_lit 1), Go.Proofs.Ytfpnadmpmfcaaaa.wF mk (Go.Proofs.Ytfpnadmpmfcaaaa.pickedS (l.getD (↑i : Int).toNat Inhabited.default).a (↑mk.length : Int)).toNat ((0 : Nat) + nat_lit 2), Go.Proofs.Ytfpnadmpmfcaaaa.wF mk (Go.Proofs.Ytfpnadmpmfcaaaa.pickedS (l.getD (↑i : Int).toNat Inhabited.default).b (↑mk.length : Int)).toNat ((0 : Nat) + nat_lit 0), Go.Proofs.Ytfpnadmpmfcaaaa.wF mk (Go.Proofs.Ytfpnadmpmfcaaaa.pickedS (l.getD (↑i : Int).toNat Inhabited.default).b (↑mk.length : Int)).toNat ((0 : Nat) + nat_lit 1), Go.Proofs.Ytfpnadmpmfcaaaa.wF mk (Go.Proofs.Ytfpnadmpmfcaaaa.pickedS (l.getD (↑i : Int).toNat Inhabited.default).b (↑mk.length : Int)).toNat ((0 : Nat) + nat_lit 2)].getD (i_1 * (3 : Nat) + j) Rx.undefCell)))])) ∧
                            ((Rx.leObL ([]) ([])) ∧
                             ((Go.Proofs.Ytfpnadmpmfcaaaa.fitsW (Go.Proofs.Ytfpnadmpmfcaaaa.rdF (5 : Nat) fun i_1 j => [Rx.Dt.cell (Go.Value.int Go.IntKind.i64 (9 : Int)), Rx.Dt.cell (Go.Value.int Go.IntKind.i64 (Go.Proofs.Ytfpnadmpmfcaaaa.pickedS (l.getD (↑i : Int).toNat Inhabited.default).c (3 : Int))), Rx.Dt.cell (Go.Value.string (ByteArray.mk #[])), Rx.Dt.cell (Go.Value.int Go.IntKind.i64 (1 : Int)), Rx.Dt.cell (Go.Value.int Go.IntKind.i64 (Go.Proofs.Ytfpnadmpmfcaaaa.pickedS (l.getD (↑i : Int).toNat Inhabited.default).c (2 : Int))), Rx.Dt.cell (Go.Value.string (ByteArray.mk #[])), Rx.Dt.cell (Go.Value.int Go.IntKind.i64 (1 : Int)), Rx.Dt.cell (Go.Value.int Go.IntKind.i64 (2 : Int)), Rx.Dt.cell (Go.Value.string (ByteArray.mk #[])), Go.Proofs.Ytfpnadmpmfcaaaa.wF mk (Go.Proofs.Ytfpnadmpmfcaaaa.pickedS (l.getD (↑i : Int).toNat Inhabited.default).a (↑mk.length : Int)).toNat ((0 : Nat) + nat_lit 0), Go.Proofs.Ytfpnadmpmfcaaaa.wF mk (Go.Proofs.Ytfpnadmpmfcaaaa.pickedS (l.getD (↑i : Int).toNat Inhabited.default).a (↑mk.length : Int)).toNat ((0 : Nat) + nat_lit 1), Go.Proofs.Ytfpnadmpmfcaaaa.wF mk (Go.Proofs.Ytfpnadmpmfcaaaa.pickedS (l.getD (↑i : Int).toNat Inhabited.default).a (↑mk.length : Int)).toNat ((0 : Nat) + nat_lit 2), Go.Proofs.Ytfpnadmpmfcaaaa.wF mk (Go.Proofs.Ytfpnadmpmfcaaaa.pickedS (l.getD (↑i : Int).toNat Inhabited.default).b (↑mk.length : Int)).toNat ((0 : Nat) + nat_lit 0), Go.Proofs.Ytfpnadmpmfcaaaa.wF mk (Go.Proofs.Ytfpnadmpmfcaaaa.pickedS (l.getD (↑i : Int).toNat Inhabited.default).b (↑mk.length : Int)).toNat ((0 : Nat) + nat_lit 1), Go.Proofs.Ytfpnadmpmfcaaaa.wF mk (Go.Proofs.Ytfpnadmpmfcaaaa.pickedS (l.getD (↑i : Int).toNat Inhabited.default).b (↑mk.length : Int)).toNat ((0 : Nat) + nat_lit 2)].getD (i_1 * (3 : Nat) + j) Rx.undefCell)) ∧
                              (((Go.Proofs.Ytfpnadmpmfcaaaa.putGood (Go.Proofs.Ytfpnadmpmfcaaaa.rdF ws.length (Go.Proofs.Ytfpnadmpmfcaaaa.wF ws)) (600 : Int) (Go.Proofs.Ytfpnadmpmfcaaaa.rdF (5 : Nat) fun i_1 j => [Rx.Dt.cell (Go.Value.int Go.IntKind.i64 (9 : Int)), Rx.Dt.cell (Go.Value.int Go.IntKind.i64 (Go.Proofs.Ytfpnadmpmfcaaaa.pickedS (l.getD (↑i : Int).toNat Inhabited.default).c (3 : Int))), Rx.Dt.cell (Go.Value.string (ByteArray.mk #[])), Rx.Dt.cell (Go.Value.int Go.IntKind.i64 (1 : Int)), Rx.Dt.cell (Go.Value.int Go.IntKind.i64 (Go.Proofs.Ytfpnadmpmfcaaaa.pickedS (l.getD (↑i : Int).toNat Inhabited.default).c (2 : Int))), Rx.Dt.cell (Go.Value.string (ByteArray.mk #[])), Rx.Dt.cell (Go.Value.int Go.IntKind.i64 (1 : Int)), Rx.Dt.cell (Go.Value.int Go.IntKind.i64 (2 : Int)), Rx.Dt.cell (Go.Value.string (ByteArray.mk #[])), Go.Proofs.Ytfpnadmpmfcaaaa.wF mk (Go.Proofs.Ytfpnadmpmfcaaaa.pickedS (l.getD (↑i : Int).toNat Inhabited.default).a (↑mk.length : Int)).toNat ((0 : Nat) + nat_lit 0), Go.Proofs.Ytfpnadmpmfcaaaa.wF mk (Go.Proofs.Ytfpnadmpmfcaaaa.pickedS (l.getD (↑i : Int).toNat Inhabited.default).a (↑mk.length : Int)).toNat ((0 : Nat) + nat_lit 1), Go.Proofs.Ytfpnadmpmfcaaaa.wF mk (Go.Proofs.Ytfpnadmpmfcaaaa.pickedS (l.getD (↑i : Int).toNat Inhabited.default).a (↑mk.length : Int)).toNat ((0 : Nat) + nat_lit 2), Go.Proofs.Ytfpnadmpmfcaaaa.wF mk (Go.Proofs.Ytfpnadmpmfcaaaa.pickedS (l.getD (↑i : Int).toNat Inhabited.default).b (↑mk.length : Int)).toNat ((0 : Nat) + nat_lit 0), Go.Proofs.Ytfpnadmpmfcaaaa.wF mk (Go.Proofs.Ytfpnadmpmfcaaaa.pickedS (l.getD (↑i : Int).toNat Inhabited.default).b (↑mk.length : Int)).toNat ((0 : Nat) + nat_lit 1), Go.Proofs.Ytfpnadmpmfcaaaa.wF mk (Go.Proofs.Ytfpnadmpmfcaaaa.pickedS (l.getD (↑i : Int).toNat Inhabited.default).b (↑mk.length : Int)).toNat ((0 : Nat) + nat_lit 2)].getD (i_1 * (3 : Nat) + j) Rx.undefCell) = Bool.true) →
                                (((mk.length + (1 : Nat)) * (32 : Nat) ≤ (140737488355328 : Nat)) ∧
                                 (((Rx.lo Go.IntKind.i64 ≤ (↑i : Int) + (1 : Int)) ∧
                                   ((↑i : Int) + (1 : Int) ≤ Rx.hi Go.IntKind.i64)) ∧
                                  Rn ([SV.dt (Dt.arr ((4 : Nat)) (l.length) (Go.Proofs.Ytfpnadmpmfcaaaa.rF l)), SV.dt (Dt.cell (Go.Value.int Go.IntKind.i64 most)), SV.ptr 0 0, SV.ptr 1 0, SV.nm 2, SV.dt (Dt.cell (Go.Value.int Go.IntKind.i64 ((↑i : Int) + (1 : Int))))]) ([some (Ob.cells 25 [SV.junk, SV.junk]), some (Ob.cells 25 [SV.dt (Dt.arr ((3 : Nat)) ((Go.Proofs.Ytfpnadmpmfcaaaa.rdF ws.length (Go.Proofs.Ytfpnadmpmfcaaaa.wF ws) ++ Go.Proofs.Ytfpnadmpmfcaaaa.rdF (5 : Nat) fun i_1 j => [Rx.Dt.cell (Go.Value.int Go.IntKind.i64 (9 : Int)), Rx.Dt.cell (Go.Value.int Go.IntKind.i64 (Go.Proofs.Ytfpnadmpmfcaaaa.pickedS (l.getD (↑i : Int).toNat Inhabited.default).c (3 : Int))), Rx.Dt.cell (Go.Value.string (ByteArray.mk #[])), Rx.Dt.cell (Go.Value.int Go.IntKind.i64 (1 : Int)), Rx.Dt.cell (Go.Value.int Go.IntKind.i64 (Go.Proofs.Ytfpnadmpmfcaaaa.pickedS (l.getD (↑i : Int).toNat Inhabited.default).c (2 : Int))), Rx.Dt.cell (Go.Value.string (ByteArray.mk #[])), Rx.Dt.cell (Go.Value.int Go.IntKind.i64 (1 : Int)), Rx.Dt.cell (Go.Value.int Go.IntKind.i64 (2 : Int)), Rx.Dt.cell (Go.Value.string (ByteArray.mk #[])), Go.Proofs.Ytfpnadmpmfcaaaa.wF mk (Go.Proofs.Ytfpnadmpmfcaaaa.pickedS (l.getD (↑i : Int).toNat Inhabited.default).a (↑mk.length : Int)).toNat ((0 : Nat) + nat_lit 0), Go.Proofs.Ytfpnadmpmfcaaaa.wF mk (Go.Proofs.Ytfpnadmpmfcaaaa.pickedS (l.getD (↑i : Int).toNat Inhabited.default).a (↑mk.length : Int)).toNat ((0 : Nat) + nat_lit 1), Go.Proofs.Ytfpnadmpmfcaaaa.wF mk (Go.Proofs.Ytfpnadmpmfcaaaa.pickedS (l.getD (↑i : Int).toNat Inhabited.default).a (↑mk.length : Int)).toNat ((0 : Nat) + nat_lit 2), Go.Proofs.Ytfpnadmpmfcaaaa.wF mk (Go.Proofs.Ytfpnadmpmfcaaaa.pickedS (l.getD (↑i : Int).toNat Inhabited.default).b (↑mk.length : Int)).toNat ((0 : Nat) + nat_lit 0), Go.Proofs.Ytfpnadmpmfcaaaa.wF mk (Go.Proofs.Ytfpnadmpmfcaaaa.pickedS (l.getD (↑i : Int).toNat Inhabited.default).b (↑mk.length : Int)).toNat ((0 : Nat) + nat_lit 1), Go.Proofs.Ytfpnadmpmfcaaaa.wF mk (Go.Proofs.Ytfpnadmpmfcaaaa.pickedS (l.getD (↑i : Int).toNat Inhabited.default).b (↑mk.length : Int)).toNat ((0 : Nat) + nat_lit 2)].getD (i_1 * (3 : Nat) + j) Rx.undefCell).length) (Go.Proofs.Ytfpnadmpmfcaaaa.wF (Go.Proofs.Ytfpnadmpmfcaaaa.rdF ws.length (Go.Proofs.Ytfpnadmpmfcaaaa.wF ws) ++ Go.Proofs.Ytfpnadmpmfcaaaa.rdF (5 : Nat) fun i_1 j => [Rx.Dt.cell (Go.Value.int Go.IntKind.i64 (9 : Int)), Rx.Dt.cell (Go.Value.int Go.IntKind.i64 (Go.Proofs.Ytfpnadmpmfcaaaa.pickedS (l.getD (↑i : Int).toNat Inhabited.default).c (3 : Int))), Rx.Dt.cell (Go.Value.string (ByteArray.mk #[])), Rx.Dt.cell (Go.Value.int Go.IntKind.i64 (1 : Int)), Rx.Dt.cell (Go.Value.int Go.IntKind.i64 (Go.Proofs.Ytfpnadmpmfcaaaa.pickedS (l.getD (↑i : Int).toNat Inhabited.default).c (2 : Int))), Rx.Dt.cell (Go.Value.string (ByteArray.mk #[])), Rx.Dt.cell (Go.Value.int Go.IntKind.i64 (1 : Int)), Rx.Dt.cell (Go.Value.int Go.IntKind.i64 (2 : Int)), Rx.Dt.cell (Go.Value.string (ByteArray.mk #[])), Go.Proofs.Ytfpnadmpmfcaaaa.wF mk (Go.Proofs.Ytfpnadmpmfcaaaa.pickedS (l.getD (↑i : Int).toNat Inhabited.default).a (↑mk.length : Int)).toNat ((0 : Nat) + nat_lit 0), Go.Proofs.Ytfpnadmpmfcaaaa.wF mk (Go.Proofs.Ytfpnadmpmfcaaaa.pickedS (l.getD (↑i : Int).toNat Inhabited.default).a (↑mk.length : Int)).toNat ((0 : Nat) + nat_lit 1), Go.Proofs.Ytfpnadmpmfcaaaa.wF mk (Go.Proofs.Ytfpnadmpmfcaaaa.pickedS (l.getD (↑i : Int).toNat Inhabited.default).a (↑mk.length : Int)).toNat ((0 : Nat) + nat_lit 2), Go.Proofs.Ytfpnadmpmfcaaaa.wF mk (Go.Proofs.Ytfpnadmpmfcaaaa.pickedS (l.getD (↑i : Int).toNat Inhabited.default).b (↑mk.length : Int)).toNat ((0 : Nat) + nat_lit 0), Go.Proofs.Ytfpnadmpmfcaaaa.wF mk (Go.Proofs.Ytfpnadmpmfcaaaa.pickedS (l.getD (↑i : Int).toNat Inhabited.default).b (↑mk.length : Int)).toNat ((0 : Nat) + nat_lit 1), Go.Proofs.Ytfpnadmpmfcaaaa.wF mk (Go.Proofs.Ytfpnadmpmfcaaaa.pickedS (l.getD (↑i : Int).toNat Inhabited.default).b (↑mk.length : Int)).toNat ((0 : Nat) + nat_lit 2)].getD (i_1 * (3 : Nat) + j) Rx.undefCell))), SV.dt (Dt.cell (Go.Value.int Go.IntKind.i64 (600 : Int)))]), some (Ob.row 30 3 (mk.length + (1 : Nat)) (Rx.catF mk.length (Go.Proofs.Ytfpnadmpmfcaaaa.wF mk) fun i j => [Rx.Dt.cell (Go.Value.int Go.IntKind.i64 (5 : Int)), Rx.Dt.cell (Go.Value.int Go.IntKind.i64 (↑(Go.Proofs.Ytfpnadmpmfcaaaa.rdF ws.length (Go.Proofs.Ytfpnadmpmfcaaaa.wF ws)).length : Int)), Rx.Dt.cell (Go.Value.string (ByteArray.mk #[]))].getD (i * (3 : Nat) + j) Rx.undefCell))])))) ∧
                               ((Go.Proofs.Ytfpnadmpmfcaaaa.putGood (Go.Proofs.Ytfpnadmpmfcaaaa.rdF ws.length (Go.Proofs.Ytfpnadmpmfcaaaa.wF ws)) (600 : Int) (Go.Proofs.Ytfpnadmpmfcaaaa.rdF (5 : Nat) fun i_1 j => [Rx.Dt.cell (Go.Value.int Go.IntKind.i64 (9 : Int)), Rx.Dt.cell (Go.Value.int Go.IntKind.i64 (Go.Proofs.Ytfpnadmpmfcaaaa.pickedS (l.getD (↑i : Int).toNat Inhabited.default).c (3 : Int))), Rx.Dt.cell (Go.Value.string (ByteArray.mk #[])), Rx.Dt.cell (Go.Value.int Go.IntKind.i64 (1 : Int)), Rx.Dt.cell (Go.Value.int Go.IntKind.i64 (Go.Proofs.Ytfpnadmpmfcaaaa.pickedS (l.getD (↑i : Int).toNat Inhabited.default).c (2 : Int))), Rx.Dt.cell (Go.Value.string (ByteArray.mk #[])), Rx.Dt.cell (Go.Value.int Go.IntKind.i64 (1 : Int)), Rx.Dt.cell (Go.Value.int Go.IntKind.i64 (2 : Int)), Rx.Dt.cell (Go.Value.string (ByteArray.mk #[])), Go.Proofs.Ytfpnadmpmfcaaaa.wF mk (Go.Proofs.Ytfpnadmpmfcaaaa.pickedS (l.getD (↑i : Int).toNat Inhabited.default).a (↑mk.length : Int)).toNat ((0 : Nat) + nat_lit 0), Go.Proofs.Ytfpnadmpmfcaaaa.wF mk (Go.Proofs.Ytfpnadmpmfcaaaa.pickedS (l.getD (↑i : Int).toNat Inhabited.default).a (↑mk.length : Int)).toNat ((0 : Nat) + nat_lit 1), Go.Proofs.Ytfpnadmpmfcaaaa.wF mk (Go.Proofs.Ytfpnadmpmfcaaaa.pickedS (l.getD (↑i : Int).toNat Inhabited.default).a (↑mk.length : Int)).toNat ((0 : Nat) + nat_lit 2), Go.Proofs.Ytfpnadmpmfcaaaa.wF mk (Go.Proofs.Ytfpnadmpmfcaaaa.pickedS (l.getD (↑i : Int).toNat Inhabited.default).b (↑mk.length : Int)).toNat ((0 : Nat) + nat_lit 0), Go.Proofs.Ytfpnadmpmfcaaaa.wF mk (Go.Proofs.Ytfpnadmpmfcaaaa.pickedS (l.getD (↑i : Int).toNat Inhabited.default).b (↑mk.length : Int)).toNat ((0 : Nat) + nat_lit 1), Go.Proofs.Ytfpnadmpmfcaaaa.wF mk (Go.Proofs.Ytfpnadmpmfcaaaa.pickedS (l.getD (↑i : Int).toNat Inhabited.default).b (↑mk.length : Int)).toNat ((0 : Nat) + nat_lit 2)].getD (i_1 * (3 : Nat) + j) Rx.undefCell) = Bool.false) →
                                ((((Go.Proofs.Ytfpnadmpmfcaaaa.putErr (Go.Proofs.Ytfpnadmpmfcaaaa.rdF ws.length (Go.Proofs.Ytfpnadmpmfcaaaa.wF ws)) (600 : Int) (Go.Proofs.Ytfpnadmpmfcaaaa.rdF (5 : Nat) fun i_1 j => [Rx.Dt.cell (Go.Value.int Go.IntKind.i64 (9 : Int)), Rx.Dt.cell (Go.Value.int Go.IntKind.i64 (Go.Proofs.Ytfpnadmpmfcaaaa.pickedS (l.getD (↑i : Int).toNat Inhabited.default).c (3 : Int))), Rx.Dt.cell (Go.Value.string (ByteArray.mk #[])), Rx.Dt.cell (Go.Value.int Go.IntKind.i64 (1 : Int)), Rx.Dt.cell (Go.Value.int Go.IntKind.i64 (Go.Proofs.Ytfpnadmpmfcaaaa.pickedS (l.getD (↑i : Int).toNat Inhabited.default).c (2 : Int))), Rx.Dt.cell (Go.Value.string (ByteArray.mk #[])), Rx.Dt.cell (Go.Value.int Go.IntKind.i64 (1 : Int)), Rx.Dt.cell (Go.Value.int Go.IntKind.i64 (2 : Int)), Rx.Dt.cell (Go.Value.string (ByteArray.mk #[])), Go.Proofs.Ytfpnadmpmfcaaaa.wF mk (Go.Proofs.Ytfpnadmpmfcaaaa.pickedS (l.getD (↑i : Int).toNat Inhabited.default).a (↑mk.length : Int)).toNat ((0 : Nat) + nat_lit 0), Go.Proofs.Ytfpnadmpmfcaaaa.wF mk (Go.Proofs.Ytfpnadmpmfcaaaa.pickedS (l.getD (↑i : Int).toNat Inhabited.default).a (↑mk.length : Int)).toNat ((0 : Nat) + nat_lit 1), Go.Proofs.Ytfpnadmpmfcaaaa.wF mk (Go.Proofs.Ytfpnadmpmfcaaaa.pickedS (l.getD (↑i : Int).toNat Inhabited.default).a (↑mk.length : Int)).toNat ((0 : Nat) + nat_lit 2), Go.Proofs.Ytfpnadmpmfcaaaa.wF mk (Go.Proofs.Ytfpnadmpmfcaaaa.pickedS (l.getD (↑i : Int).toNat Inhabited.default).b (↑mk.length : Int)).toNat ((0 : Nat) + nat_lit 0), Go.Proofs.Ytfpnadmpmfcaaaa.wF mk (Go.Proofs.Ytfpnadmpmfcaaaa.pickedS (l.getD (↑i : Int).toNat Inhabited.default).b (↑mk.length : Int)).toNat ((0 : Nat) + nat_lit 1), Go.Proofs.Ytfpnadmpmfcaaaa.wF mk (Go.Proofs.Ytfpnadmpmfcaaaa.pickedS (l.getD (↑i : Int).toNat Inhabited.default).b (↑mk.length : Int)).toNat ((0 : Nat) + nat_lit 2)].getD (i_1 * (3 : Nat) + j) Rx.undefCell) != (0 : Int)) = Bool.true) →
                                  Re (Rx.Ex.exit (0 : Nat)) ([SV.ptr 0 0, SV.ptr 1 0, SV.nm 2]) ([some (Ob.cells 25 [SV.junk, SV.junk]), some (Ob.cells 25 [SV.dt (Dt.arr ((3 : Nat)) (ws.length) (Go.Proofs.Ytfpnadmpmfcaaaa.wF ws)), SV.dt (Dt.cell (Go.Value.int Go.IntKind.i64 (600 : Int)))]), some (Ob.row 30 3 (mk.length) (Go.Proofs.Ytfpnadmpmfcaaaa.wF mk))])) ∧
                                 (((Go.Proofs.Ytfpnadmpmfcaaaa.putErr (Go.Proofs.Ytfpnadmpmfcaaaa.rdF ws.length (Go.Proofs.Ytfpnadmpmfcaaaa.wF ws)) (600 : Int) (Go.Proofs.Ytfpnadmpmfcaaaa.rdF (5 : Nat) fun i_1 j => [Rx.Dt.cell (Go.Value.int Go.IntKind.i64 (9 : Int)), Rx.Dt.cell (Go.Value.int Go.IntKind.i64 (Go.Proofs.Ytfpnadmpmfcaaaa.pickedS (l.getD (↑i : Int).toNat Inhabited.default).c (3 : Int))), Rx.Dt.cell (Go.Value.string (ByteArray.mk #[])), Rx.Dt.cell (Go.Value.int Go.IntKind.i64 (1 : Int)), Rx.Dt.cell (Go.Value.int Go.IntKind.i64 (Go.Proofs.Ytfpnadmpmfcaaaa.pickedS (l.getD (↑i : Int).toNat Inhabited.default).c (2 : Int))), Rx.Dt.cell (Go.Value.string (ByteArray.mk #[])), Rx.Dt.cell (Go.Value.int Go.IntKind.i64 (1 : Int)), Rx.Dt.cell (Go.Value.int Go.IntKind.i64 (2 : Int)), Rx.Dt.cell (Go.Value.string (ByteArray.mk #[])), Go.Proofs.Ytfpnadmpmfcaaaa.wF mk (Go.Proofs.Ytfpnadmpmfcaaaa.pickedS (l.getD (↑i : Int).toNat Inhabited.default).a (↑mk.length : Int)).toNat ((0 : Nat) + nat_lit 0), Go.Proofs.Ytfpnadmpmfcaaaa.wF mk (Go.Proofs.Ytfpnadmpmfcaaaa.pickedS (l.getD (↑i : Int).toNat Inhabited.default).a (↑mk.length : Int)).toNat ((0 : Nat) + nat_lit 1), Go.Proofs.Ytfpnadmpmfcaaaa.wF mk (Go.Proofs.Ytfpnadmpmfcaaaa.pickedS (l.getD (↑i : Int).toNat Inhabited.default).a (↑mk.length : Int)).toNat ((0 : Nat) + nat_lit 2), Go.Proofs.Ytfpnadmpmfcaaaa.wF mk (Go.Proofs.Ytfpnadmpmfcaaaa.pickedS (l.getD (↑i : Int).toNat Inhabited.default).b (↑mk.length : Int)).toNat ((0 : Nat) + nat_lit 0), Go.Proofs.Ytfpnadmpmfcaaaa.wF mk (Go.Proofs.Ytfpnadmpmfcaaaa.pickedS (l.getD (↑i : Int).toNat Inhabited.default).b (↑mk.length : Int)).toNat ((0 : Nat) + nat_lit 1), Go.Proofs.Ytfpnadmpmfcaaaa.wF mk (Go.Proofs.Ytfpnadmpmfcaaaa.pickedS (l.getD (↑i : Int).toNat Inhabited.default).b (↑mk.length : Int)).toNat ((0 : Nat) + nat_lit 2)].getD (i_1 * (3 : Nat) + j) Rx.undefCell) != (0 : Int)) = Bool.false) →
                                  (((mk.length + (1 : Nat)) * (32 : Nat) ≤ (140737488355328 : Nat)) ∧
                                   (((Rx.lo Go.IntKind.i64 ≤ (↑i : Int) + (1 : Int)) ∧
                                     ((↑i : Int) + (1 : Int) ≤ Rx.hi Go.IntKind.i64)) ∧
                                    Rn ([SV.dt (Dt.arr ((4 : Nat)) (l.length) (Go.Proofs.Ytfpnadmpmfcaaaa.rF l)), SV.dt (Dt.cell (Go.Value.int Go.IntKind.i64 most)), SV.ptr 0 0, SV.ptr 1 0, SV.nm 2, SV.dt (Dt.cell (Go.Value.int Go.IntKind.i64 ((↑i : Int) + (1 : Int))))]) ([some (Ob.cells 25 [SV.junk, SV.junk]), some (Ob.cells 25 [SV.dt (Dt.cell (Go.Value.slice Option.none (0 : Nat) (0 : Nat))), SV.dt (Dt.cell (Go.Value.int Go.IntKind.i64 (0 : Int)))]), some (Ob.row 30 3 (mk.length + (1 : Nat)) (Rx.catF mk.length (Go.Proofs.Ytfpnadmpmfcaaaa.wF mk) fun i j => [Rx.Dt.cell (Go.Value.int Go.IntKind.i64 (5 : Int)), Rx.Dt.cell (Go.Value.int Go.IntKind.i64 (0 : Int)), Rx.Dt.cell (Go.Value.string (ByteArray.mk #[]))].getD (i * (3 : Nat) + j) Rx.undefCell))]))))))))))))))))) ∧
                    (((Go.Proofs.Ytfpnadmpmfcaaaa.pickedS (l.getD (↑i : Int).toNat Inhabited.default).k (4 : Int) == (1 : Int)) = Bool.false) →
                     ((Rx.leL ([SV.agg [SV.dt (Dt.arr ((3 : Nat)) (ws.length) (Go.Proofs.Ytfpnadmpmfcaaaa.wF ws)), SV.dt (Dt.cell (Go.Value.int Go.IntKind.i64 (600 : Int)))], SV.dt (Dt.arr ((3 : Nat)) ((3 : Nat)) (fun i_1 j => [Rx.Dt.cell (Go.Value.int Go.IntKind.i64 (6 : Int)), Rx.Dt.cell (Go.Value.int Go.IntKind.i64 (0 : Int)), Rx.Dt.cell (Go.Value.string (ByteArray.mk #[])), Go.Proofs.Ytfpnadmpmfcaaaa.wF mk (Go.Proofs.Ytfpnadmpmfcaaaa.pickedS (l.getD (↑i : Int).toNat Inhabited.default).a (↑mk.length : Int)).toNat ((0 : Nat) + nat_lit 0), Go.Proofs.Ytfpnadmpmfcaaaa.wF mk (Go.Proofs.Ytfpnadmpmfcaaaa.pickedS (l.getD (↑i : Int).toNat Inhabited.default).a (↑mk.length : Int)).toNat ((0 : Nat) + nat_lit 1), Go.Proofs.Ytfpnadmpmfcaaaa.wF mk (Go.Proofs.Ytfpnadmpmfcaaaa.pickedS (l.getD (↑i : Int).toNat Inhabited.default).a (↑mk.length : Int)).toNat ((0 : Nat) + nat_lit 2), Go.Proofs.Ytfpnadmpmfcaaaa.wF mk (Go.Proofs.Ytfpnadmpmfcaaaa.pickedS (l.getD (↑i : Int).toNat Inhabited.default).b (↑mk.length : Int)).toNat ((0 : Nat) + nat_lit 0), Go.Proofs.Ytfpnadmpmfcaaaa.wF mk (Go.Proofs.Ytfpnadmpmfcaaaa.pickedS (l.getD (↑i : Int).toNat Inhabited.default).b (↑mk.length : Int)).toNat ((0 : Nat) + nat_lit 1), Go.Proofs.Ytfpnadmpmfcaaaa.wF mk (Go.Proofs.Ytfpnadmpmfcaaaa.pickedS (l.getD (↑i : Int).toNat Inhabited.default).b (↑mk.length : Int)).toNat ((0 : Nat) + nat_lit 2)].getD (i_1 * (3 : Nat) + j) Rx.undefCell))]) ([SV.agg [SV.dt (Dt.arr ((3 : Nat)) ((Go.Proofs.Ytfpnadmpmfcaaaa.rdF ws.length (Go.Proofs.Ytfpnadmpmfcaaaa.wF ws)).length) (Go.Proofs.Ytfpnadmpmfcaaaa.wF (Go.Proofs.Ytfpnadmpmfcaaaa.rdF ws.length (Go.Proofs.Ytfpnadmpmfcaaaa.wF ws)))), SV.dt (Dt.cell (Go.Value.int Go.IntKind.i64 (600 : Int)))], SV.dt (Dt.arr ((3 : Nat)) ((Go.Proofs.Ytfpnadmpmfcaaaa.rdF (3 : Nat) fun i_1 j => [Rx.Dt.cell (Go.Value.int Go.IntKind.i64 (6 : Int)), Rx.Dt.cell (Go.Value.int Go.IntKind.i64 (0 : Int)), Rx.Dt.cell (Go.Value.string (ByteArray.mk #[])), Go.Proofs.Ytfpnadmpmfcaaaa.wF mk (Go.Proofs.Ytfpnadmpmfcaaaa.pickedS (l.getD (↑i : Int).toNat Inhabited.default).a (↑mk.length : Int)).toNat ((0 : Nat) + nat_lit 0), Go.Proofs.Ytfpnadmpmfcaaaa.wF mk (Go.Proofs.Ytfpnadmpmfcaaaa.pickedS (l.getD (↑i : Int).toNat Inhabited.default).a (↑mk.length : Int)).toNat ((0 : Nat) + nat_lit 1), Go.Proofs.Ytfpnadmpmfcaaaa.wF mk (Go.Proofs.Ytfpnadmpmfcaaaa.pickedS (l.getD (↑i : Int).toNat Inhabited.default).a (↑mk.length : Int)).toNat ((0 : Nat) + nat_lit 2), Go.Proofs.Ytfpnadmpmfcaaaa.wF mk (Go.Proofs.Ytfpnadmpmfcaaaa.pickedS (l.getD (↑i : Int).toNat Inhabited.default).b (↑mk.length : Int)).toNat ((0 : Nat) + nat_lit 0), Go.Proofs.Ytfpnadmpmfcaaaa.wF mk (Go.Proofs.Ytfpnadmpmfcaaaa.pickedS (l.getD (↑i : Int).toNat Inhabited.default).b (↑mk.length : Int)).toNat ((0 : Nat) + nat_lit 1), Go.Proofs.Ytfpnadmpmfcaaaa.wF mk (Go.Proofs.Ytfpnadmpmfcaaaa.pickedS (l.getD (↑i : Int).toNat Inhabited.default).b (↑mk.length : Int)).toNat ((0 : Nat) + nat_lit 2)].getD (i_1 * (3 : Nat) + j) Rx.undefCell).length) (Go.Proofs.Ytfpnadmpmfcaaaa.wF (Go.Proofs.Ytfpnadmpmfcaaaa.rdF (3 : Nat) fun i_1 j => [Rx.Dt.cell (Go.Value.int Go.IntKind.i64 (6 : Int)), Rx.Dt.cell (Go.Value.int Go.IntKind.i64 (0 : Int)), Rx.Dt.cell (Go.Value.string (ByteArray.mk #[])), Go.Proofs.Ytfpnadmpmfcaaaa.wF mk (Go.Proofs.Ytfpnadmpmfcaaaa.pickedS (l.getD (↑i : Int).toNat Inhabited.default).a (↑mk.length : Int)).toNat ((0 : Nat) + nat_lit 0), Go.Proofs.Ytfpnadmpmfcaaaa.wF mk (Go.Proofs.Ytfpnadmpmfcaaaa.pickedS (l.getD (↑i : Int).toNat Inhabited.default).a (↑mk.length : Int)).toNat ((0 : Nat) + nat_lit 1), Go.Proofs.Ytfpnadmpmfcaaaa.wF mk (Go.Proofs.Ytfpnadmpmfcaaaa.pickedS (l.getD (↑i : Int).toNat Inhabited.default).a (↑mk.length : Int)).toNat ((0 : Nat) + nat_lit 2), Go.Proofs.Ytfpnadmpmfcaaaa.wF mk (Go.Proofs.Ytfpnadmpmfcaaaa.pickedS (l.getD (↑i : Int).toNat Inhabited.default).b (↑mk.length : Int)).toNat ((0 : Nat) + nat_lit 0), Go.Proofs.Ytfpnadmpmfcaaaa.wF mk (Go.Proofs.Ytfpnadmpmfcaaaa.pickedS (l.getD (↑i : Int).toNat Inhabited.default).b (↑mk.length : Int)).toNat ((0 : Nat) + nat_lit 1), Go.Proofs.Ytfpnadmpmfcaaaa.wF mk (Go.Proofs.Ytfpnadmpmfcaaaa.pickedS (l.getD (↑i : Int).toNat Inhabited.default).b (↑mk.length : Int)).toNat ((0 : Nat) + nat_lit 2)].getD (i_1 * (3 : Nat) + j) Rx.undefCell)))])) ∧
                      ((Rx.leObL ([]) ([])) ∧
                       ((Go.Proofs.Ytfpnadmpmfcaaaa.fitsW (Go.Proofs.Ytfpnadmpmfcaaaa.rdF (3 : Nat) fun i_1 j => [Rx.Dt.cell (Go.Value.int Go.IntKind.i64 (6 : Int)), Rx.Dt.cell (Go.Value.int Go.IntKind.i64 (0 : Int)), Rx.Dt.cell (Go.Value.string (ByteArray.mk #[])), Go.Proofs.Ytfpnadmpmfcaaaa.wF mk (Go.Proofs.Ytfpnadmpmfcaaaa.pickedS (l.getD (↑i : Int).toNat Inhabited.default).a (↑mk.length : Int)).toNat ((0 : Nat) + nat_lit 0), Go.Proofs.Ytfpnadmpmfcaaaa.wF mk (Go.Proofs.Ytfpnadmpmfcaaaa.pickedS (l.getD (↑i : Int).toNat Inhabited.default).a (↑mk.length : Int)).toNat ((0 : Nat) + nat_lit 1), Go.Proofs.Ytfpnadmpmfcaaaa.wF mk (Go.Proofs.Ytfpnadmpmfcaaaa.pickedS (l.getD (↑i : Int).toNat Inhabited.default).a (↑mk.length : Int)).toNat ((0 : Nat) + nat_lit 2), Go.Proofs.Ytfpnadmpmfcaaaa.wF mk (Go.Proofs.Ytfpnadmpmfcaaaa.pickedS (l.getD (↑i : Int).toNat Inhabited.default).b (↑mk.length : Int)).toNat ((0 : Nat) + nat_lit 0), Go.Proofs.Ytfpnadmpmfcaaaa.wF mk (Go.Proofs.Ytfpnadmpmfcaaaa.pickedS (l.getD (↑i : Int).toNat Inhabited.default).b (↑mk.length : Int)).toNat ((0 : Nat) + nat_lit 1), Go.Proofs.Ytfpnadmpmfcaaaa.wF mk (Go.Proofs.Ytfpnadmpmfcaaaa.pickedS (l.getD (↑i : Int).toNat Inhabited.default).b (↑mk.length : Int)).toNat ((0 : Nat) + nat_lit 2)].getD (i_1 * (3 : Nat) + j) Rx.undefCell)) ∧
                        (((Go.Proofs.Ytfpnadmpmfcaaaa.putGood (Go.Proofs.Ytfpnadmpmfcaaaa.rdF ws.length (Go.Proofs.Ytfpnadmpmfcaaaa.wF ws)) (600 : Int) (Go.Proofs.Ytfpnadmpmfcaaaa.rdF (3 : Nat) fun i_1 j => [Rx.Dt.cell (Go.Value.int Go.IntKind.i64 (6 : Int)), Rx.Dt.cell (Go.Value.int Go.IntKind.i64 (0 : Int)), Rx.Dt.cell (Go.Value.string (ByteArray.mk #[])), Go.Proofs.Ytfpnadmpmfcaaaa.wF mk (Go.Proofs.Ytfpnadmpmfcaaaa.pickedS (l.getD (↑i : Int).toNat Inhabited.default).a (↑mk.length : Int)).toNat ((0 : Nat) + nat_lit 0), Go.Proofs.Ytfpnadmpmfcaaaa.wF mk (Go.Proofs.Ytfpnadmpmfcaaaa.pickedS (l.getD (↑i : Int).toNat Inhabited.default).a (↑mk.length : Int)).toNat ((0 : Nat) + nat_lit 1), Go.Proofs.Ytfpnadmpmfcaaaa.wF mk (Go.Proofs.Ytfpnadmpmfcaaaa.pickedS (l.getD (↑i : Int).toNat Inhabited.default).a (↑mk.length : Int)).toNat ((0 : Nat) + nat_lit 2), Go.Proofs.Ytfpnadmpmfcaaaa.wF mk (Go.Proofs.Ytfpnadmpmfcaaaa.pickedS (l.getD (↑i : Int).toNat Inhabited.default).b (↑mk.length : Int)).toNat ((0 : Nat) + nat_lit 0), Go.Proofs.Ytfpnadmpmfcaaaa.wF mk (Go.Proofs.Ytfpnadmpmfcaaaa.pickedS (l.getD (↑i : Int).toNat Inhabited.default).b (↑mk.length : Int)).toNat ((0 : Nat) + nat_lit 1), Go.Proofs.Ytfpnadmpmfcaaaa.wF mk (Go.Proofs.Ytfpnadmpmfcaaaa.pickedS (l.getD (↑i : Int).toNat Inhabited.default).b (↑mk.length : Int)).toNat ((0 : Nat) + nat_lit 2)].getD (i_1 * (3 : Nat) + j) Rx.undefCell) = Bool.true) →
                          (((mk.length + (1 : Nat)) * (32 : Nat) ≤ (140737488355328 : Nat)) ∧
                           (((Rx.lo Go.IntKind.i64 ≤ (↑i : Int) + (1 : Int)) ∧
                             ((↑i : Int) + (1 : Int) ≤ Rx.hi Go.IntKind.i64)) ∧
                            Rn ([SV.dt (Dt.arr ((4 : Nat)) (l.length) (Go.Proofs.Ytfpnadmpmfcaaaa.rF l)), SV.dt (Dt.cell (Go.Value.int Go.IntKind.i64 most)), SV.ptr 0 0, SV.ptr 1 0, SV.nm 2, SV.dt (Dt.cell (Go.Value.int Go.IntKind.i64 ((↑i : Int) + (1 : Int))))]) ([some (Ob.cells 25 [SV.junk, SV.junk]), some (Ob.cells 25 [SV.dt (Dt.arr ((3 : Nat)) ((Go.Proofs.Ytfpnadmpmfcaaaa.rdF ws.length (Go.Proofs.Ytfpnadmpmfcaaaa.wF ws) ++ Go.Proofs.Ytfpnadmpmfcaaaa.rdF (3 : Nat) fun i_1 j => [Rx.Dt.cell (Go.Value.int Go.IntKind.i64 (6 : Int)), Rx.Dt.cell (Go.Value.int Go.IntKind.i64 (0 : Int)), Rx.Dt.cell (Go.Value.string (ByteArray.mk #[])), Go.Proofs.Ytfpnadmpmfcaaaa.wF mk (Go.Proofs.Ytfpnadmpmfcaaaa.pickedS (l.getD (↑i : Int).toNat Inhabited.default).a (↑mk.length : Int)).toNat ((0 : Nat) + nat_lit 0), Go.Proofs.Ytfpnadmpmfcaaaa.wF mk (Go.Proofs.Ytfpnadmpmfcaaaa.pickedS (l.getD (↑i : Int).toNat Inhabited.default).a (↑mk.length : Int)).toNat ((0 : Nat) + nat_lit 1), Go.Proofs.Ytfpnadmpmfcaaaa.wF mk (Go.Proofs.Ytfpnadmpmfcaaaa.pickedS (l.getD (↑i : Int).toNat Inhabited.default).a (↑mk.length : Int)).toNat ((0 : Nat) + nat_lit 2), Go.Proofs.Ytfpnadmpmfcaaaa.wF mk (Go.Proofs.Ytfpnadmpmfcaaaa.pickedS (l.getD (↑i : Int).toNat Inhabited.default).b (↑mk.length : Int)).toNat ((0 : Nat) + nat_lit 0), Go.Proofs.Ytfpnadmpmfcaaaa.wF mk (Go.Proofs.Ytfpnadmpmfcaaaa.pickedS (l.getD (↑i : Int).toNat Inhabited.default).b (↑mk.length : Int)).toNat ((0 : Nat) + nat_lit 1), Go.Proofs.Ytfpnadmpmfcaaaa.wF mk (Go.Proofs.Ytfpnadmpmfcaaaa.pickedS (l.getD (↑i : Int).toNat Inhabited.default).b (↑mk.length : Int)).toNat ((0 : Nat) + nat_lit 2)].getD (i_1 * (3 : Nat) + j) Rx.undefCell).length) (Go.Proofs.Ytfpnadmpmfcaaaa.wF (Go.Proofs.Ytfpnadmpmfcaaaa.rdF ws.length (Go.Proofs.Ytfpnadmpmfcaaaa.wF ws) ++ Go.Proofs.Ytfpnadmpmfcaaaa.rdF (3 : Nat) fun i_1 j => [Rx.Dt.cell (Go.Value.int Go.IntKind.i64 (6 : Int)), Rx.Dt.cell (Go.Value.int Go.IntKind.i64 (0 : Int)), Rx.Dt.cell (Go.Value.string (ByteArray.mk #[])), Go.Proofs.Ytfpnadmpmfcaaaa.wF mk (Go.Proofs.Ytfpnadmpmfcaaaa.pickedS (l.getD (↑i : Int).toNat Inhabited.default).a (↑mk.length : Int)).toNat ((0 : Nat) + nat_lit 0), Go.Proofs.Ytfpnadmpmfcaaaa.wF mk (Go.Proofs.Ytfpnadmpmfcaaaa.pickedS (l.getD (↑i : Int).toNat Inhabited.default).a (↑mk.length : Int)).toNat ((0 : Nat) + nat_lit 1), Go.Proofs.Ytfpnadmpmfcaaaa.wF mk (Go.Proofs.Ytfpnadmpmfcaaaa.pickedS (l.getD (↑i : Int).toNat Inhabited.default).a (↑mk.length : Int)).toNat ((0 : Nat) + nat_lit 2), Go.Proofs.Ytfpnadmpmfcaaaa.wF mk (Go.Proofs.Ytfpnadmpmfcaaaa.pickedS (l.getD (↑i : Int).toNat Inhabited.default).b (↑mk.length : Int)).toNat ((0 : Nat) + nat_lit 0), Go.Proofs.Ytfpnadmpmfcaaaa.wF mk (Go.Proofs.Ytfpnadmpmfcaaaa.pickedS (l.getD (↑i : Int).toNat Inhabited.default).b (↑mk.length : Int)).toNat ((0 : Nat) + nat_lit 1), Go.Proofs.Ytfpnadmpmfcaaaa.wF mk (Go.Proofs.Ytfpnadmpmfcaaaa.pickedS (l.getD (↑i : Int).toNat Inhabited.default).b (↑mk.length : Int)).toNat ((0 : Nat) + nat_lit 2)].getD (i_1 * (3 : Nat) + j) Rx.undefCell))), SV.dt (Dt.cell (Go.Value.int Go.IntKind.i64 (600 : Int)))]), some (Ob.row 30 3 (mk.length + (1 : Nat)) (Rx.catF mk.length (Go.Proofs.Ytfpnadmpmfcaaaa.wF mk) fun i j => [Rx.Dt.cell (Go.Value.int Go.IntKind.i64 (5 : Int)), Rx.Dt.cell (Go.Value.int Go.IntKind.i64 (↑(Go.Proofs.Ytfpnadmpmfcaaaa.rdF ws.length (Go.Proofs.Ytfpnadmpmfcaaaa.wF ws)).length : Int)), Rx.Dt.cell (Go.Value.string (ByteArray.mk #[]))].getD (i * (3 : Nat) + j) Rx.undefCell))])))) ∧
                         ((Go.Proofs.Ytfpnadmpmfcaaaa.putGood (Go.Proofs.Ytfpnadmpmfcaaaa.rdF ws.length (Go.Proofs.Ytfpnadmpmfcaaaa.wF ws)) (600 : Int) (Go.Proofs.Ytfpnadmpmfcaaaa.rdF (3 : Nat) fun i_1 j => [Rx.Dt.cell (Go.Value.int Go.IntKind.i64 (6 : Int)), Rx.Dt.cell (Go.Value.int Go.IntKind.i64 (0 : Int)), Rx.Dt.cell (Go.Value.string (ByteArray.mk #[])), Go.Proofs.Ytfpnadmpmfcaaaa.wF mk (Go.Proofs.Ytfpnadmpmfcaaaa.pickedS (l.getD (↑i : Int).toNat Inhabited.default).a (↑mk.length : Int)).toNat ((0 : Nat) + nat_lit 0), Go.Proofs.Ytfpnadmpmfcaaaa.wF mk (Go.Proofs.Ytfpnadmpmfcaaaa.pickedS (l.getD (↑i : Int).toNat Inhabited.default).a (↑mk.length : Int)).toNat ((0 : Nat) + nat_lit 1), Go.Proofs.Ytfpnadmpmfcaaaa.wF mk (Go.Proofs.Ytfpnadmpmfcaaaa.pickedS (l.getD (↑i : Int).toNat Inhabited.default).a (↑mk.length : Int)).toNat ((0 : Nat) + nat_lit 2), Go.Proofs.Ytfpnadmpmfcaaaa.wF mk (Go.Proofs.Ytfpnadmpmfcaaaa.pickedS (l.getD (↑i : Int).toNat Inhabited.default).b (↑mk.length : Int)).toNat ((0 : Nat) + nat_lit 0), Go.Proofs.Ytfpnadmpmfcaaaa.wF mk (Go.Proofs.Ytfpnadmpmfcaaaa.pickedS (l.getD (↑i : Int).toNat Inhabited.default).b (↑mk.length : Int)).toNat ((0 : Nat) + nat_lit 1), Go.Proofs.Ytfpnadmpmfcaaaa.wF mk (Go.Proofs.Ytfpnadmpmfcaaaa.pickedS (l.getD (↑i : Int).toNat Inhabited.default).b (↑mk.length : Int)).toNat ((0 : Nat) + nat_lit 2)].getD (i_1 * (3 : Nat) + j) Rx.undefCell) = Bool.false) →
                          ((((Go.Proofs.Ytfpnadmpmfcaaaa.putErr (Go.Proofs.Ytfpnadmpmfcaaaa.rdF ws.length (Go.Proofs.Ytfpnadmpmfcaaaa.wF ws)) (600 : Int) (Go.Proofs.Ytfpnadmpmfcaaaa.rdF (3 : Nat) fun i_1 j => [Rx.Dt.cell (Go.Value.int Go.IntKind.i64 (6 : Int)), Rx.Dt.cell (Go.Value.int Go.IntKind.i64 (0 : Int)), Rx.Dt.cell (Go.Value.string (ByteArray.mk #[])), Go.Proofs.Ytfpnadmpmfcaaaa.wF mk (Go.Proofs.Ytfpnadmpmfcaaaa.pickedS (l.getD (↑i : Int).toNat Inhabited.default).a (↑mk.length : Int)).toNat ((0 : Nat) + nat_lit 0), Go.Proofs.Ytfpnadmpmfcaaaa.wF mk (Go.Proofs.Ytfpnadmpmfcaaaa.pickedS (l.getD (↑i : Int).toNat Inhabited.default).a (↑mk.length : Int)).toNat ((0 : Nat) + nat_lit 1), Go.Proofs.Ytfpnadmpmfcaaaa.wF mk (Go.Proofs.Ytfpnadmpmfcaaaa.pickedS (l.getD (↑i : Int).toNat Inhabited.default).a (↑mk.length : Int)).toNat ((0 : Nat) + nat_lit 2), Go.Proofs.Ytfpnadmpmfcaaaa.wF mk (Go.Proofs.Ytfpnadmpmfcaaaa.pickedS (l.getD (↑i : Int).toNat Inhabited.default).b (↑mk.length : Int)).toNat ((0 : Nat) + nat_lit 0), Go.Proofs.Ytfpnadmpmfcaaaa.wF mk (Go.Proofs.Ytfpnadmpmfcaaaa.pickedS (l.getD (↑i : Int).toNat Inhabited.default).b (↑mk.length : Int)).toNat ((0 : Nat) + nat_lit 1), Go.Proofs.Ytfpnadmpmfcaaaa.wF mk (Go.Proofs.Ytfpnadmpmfcaaaa.pickedS (l.getD (↑i : Int).toNat Inhabited.default).b (↑mk.length : Int)).toNat ((0 : Nat) + nat_lit 2)].getD (i_1 * (3 : Nat) + j) Rx.undefCell) != (0 : Int)) = Bool.true) →
                            Re (Rx.Ex.exit (0 : Nat)) ([SV.ptr 0 0, SV.ptr 1 0, SV.nm 2]) ([some (Ob.cells 25 [SV.junk, SV.junk]), some (Ob.cells 25 [SV.dt (Dt.arr ((3 : Nat)) (ws.length) (Go.Proofs.Ytfpnadmpmfcaaaa.wF ws)), SV.dt (Dt.cell (Go.Value.int Go.IntKind.i64 (600 : Int)))]), some (Ob.row 30 3 (mk.length) (Go.Proofs.Ytfpnadmpmfcaaaa.wF mk))])) ∧
                           (((Go.Proofs.Ytfpnadmpmfcaaaa.putErr (Go.Proofs.Ytfpnadmpmfcaaaa.rdF ws.length (Go.Proofs.Ytfpnadmpmfcaaaa.wF ws)) (600 : Int) (Go.Proofs.Ytfpnadmpmfcaaaa.rdF (3 : Nat) fun i_1 j => [Rx.Dt.cell (Go.Value.int Go.IntKind.i64 (6 : Int)), Rx.Dt.cell (Go.Value.int Go.IntKind.i64 (0 : Int)), Rx.Dt.cell (Go.Value.string (ByteArray.mk #[])), Go.Proofs.Ytfpnadmpmfcaaaa.wF mk (Go.Proofs.Ytfpnadmpmfcaaaa.pickedS (l.getD (↑i : Int).toNat Inhabited.default).a (↑mk.length : Int)).toNat ((0 : Nat) + nat_lit 0), Go.Proofs.Ytfpnadmpmfcaaaa.wF mk (Go.Proofs.Ytfpnadmpmfcaaaa.pickedS (l.getD (↑i : Int).toNat Inhabited.default).a (↑mk.length : Int)).toNat ((0 : Nat) + nat_lit 1), Go.Proofs.Ytfpnadmpmfcaaaa.wF mk (Go.Proofs.Ytfpnadmpmfcaaaa.pickedS (l.getD (↑i : Int).toNat Inhabited.default).a (↑mk.length : Int)).toNat ((0 : Nat) + nat_lit 2), Go.Proofs.Ytfpnadmpmfcaaaa.wF mk (Go.Proofs.Ytfpnadmpmfcaaaa.pickedS (l.getD (↑i : Int).toNat Inhabited.default).b (↑mk.length : Int)).toNat ((0 : Nat) + nat_lit 0), Go.Proofs.Ytfpnadmpmfcaaaa.wF mk (Go.Proofs.Ytfpnadmpmfcaaaa.pickedS (l.getD (↑i : Int).toNat Inhabited.default).b (↑mk.length : Int)).toNat ((0 : Nat) + nat_lit 1), Go.Proofs.Ytfpnadmpmfcaaaa.wF mk (Go.Proofs.Ytfpnadmpmfcaaaa.pickedS (l.getD (↑i : Int).toNat Inhabited.default).b (↑mk.length : Int)).toNat ((0 : Nat) + nat_lit 2)].getD (i_1 * (3 : Nat) + j) Rx.undefCell) != (0 : Int)) = Bool.false) →
                            (((mk.length + (1 : Nat)) * (32 : Nat) ≤ (140737488355328 : Nat)) ∧
                             (((Rx.lo Go.IntKind.i64 ≤ (↑i : Int) + (1 : Int)) ∧
                               ((↑i : Int) + (1 : Int) ≤ Rx.hi Go.IntKind.i64)) ∧
                              Rn ([SV.dt (Dt.arr ((4 : Nat)) (l.length) (Go.Proofs.Ytfpnadmpmfcaaaa.rF l)), SV.dt (Dt.cell (Go.Value.int Go.IntKind.i64 most)), SV.ptr 0 0, SV.ptr 1 0, SV.nm 2, SV.dt (Dt.cell (Go.Value.int Go.IntKind.i64 ((↑i : Int) + (1 : Int))))]) ([some (Ob.cells 25 [SV.junk, SV.junk]), some (Ob.cells 25 [SV.dt (Dt.cell (Go.Value.slice Option.none (0 : Nat) (0 : Nat))), SV.dt (Dt.cell (Go.Value.int Go.IntKind.i64 (0 : Int)))]), some (Ob.row 30 3 (mk.length + (1 : Nat)) (Rx.catF mk.length (Go.Proofs.Ytfpnadmpmfcaaaa.wF mk) fun i j => [Rx.Dt.cell (Go.Value.int Go.IntKind.i64 (5 : Int)), Rx.Dt.cell (Go.Value.int Go.IntKind.i64 (0 : Int)), Rx.Dt.cell (Go.Value.string (ByteArray.mk #[]))].getD (i * (3 : Nat) + j) Rx.undefCell))]))))))))))))))))))))))))))))) ∧
  ((Decidable.decide ((↑i : Int) < most) = Bool.false) →
   Re (Rx.Ex.exit (0 : Nat)) ([SV.ptr 0 0, SV.ptr 1 0, SV.nm 2]) ([some (Ob.cells 25 [SV.junk, SV.junk]), some (Ob.cells 25 [SV.dt (Dt.arr ((3 : Nat)) (ws.length) (Go.Proofs.Ytfpnadmpmfcaaaa.wF ws)), SV.dt (Dt.cell (Go.Value.int Go.IntKind.i64 (600 : Int)))]), some (Ob.row 30 3 (mk.length) (Go.Proofs.Ytfpnadmpmfcaaaa.wF mk))])))) ∧
((Decidable.decide ((↑i : Int) < (↑l.length : Int)) = Bool.false) →
 Re (Rx.Ex.exit (0 : Nat)) ([SV.ptr 0 0, SV.ptr 1 0, SV.nm 2]) ([some (Ob.cells 25 [SV.junk, SV.junk]), some (Ob.cells 25 [SV.dt (Dt.arr ((3 : Nat)) (ws.length) (Go.Proofs.Ytfpnadmpmfcaaaa.wF ws)), SV.dt (Dt.cell (Go.Value.int Go.IntKind.i64 (600 : Int)))]), some (Ob.row 30 3 (mk.length) (Go.Proofs.Ytfpnadmpmfcaaaa.wF mk))])))
def buQ (l : List Rw) (most : Int) (R : SV → List (Option Ob) → Prop) : Prop :=
(((Rx.leS (SV.dt (Dt.arr ((4 : Nat)) (l.length) (Go.Proofs.Ytfpnadmpmfcaaaa.rF l))) (SV.dt (Dt.arr ((4 : Nat)) ((Go.Proofs.Ytfpnadmpmfcaaaa.rdRs l.length (Go.Proofs.Ytfpnadmpmfcaaaa.rF l)).length) (Go.Proofs.Ytfpnadmpmfcaaaa.rF (Go.Proofs.Ytfpnadmpmfcaaaa.rdRs l.length (Go.Proofs.Ytfpnadmpmfcaaaa.rF l)))))) ∧
 ((Rx.leS (SV.dt (Dt.cell (Go.Value.int Go.IntKind.i64 most))) (SV.dt (Dt.cell (Go.Value.int Go.IntKind.i64 most)))) ∧
  ((Rx.leS (SV.ptr 0 0) (SV.ptr 0 0)) ∧
   ((Rx.leS (SV.ptr 1 0) (SV.ptr 1 0)) ∧
    ((Rx.leS (SV.nm 2) (SV.nm 2)) ∧
     ((Rx.leS (SV.dt (Dt.cell (Go.Value.int Go.IntKind.i64 (0 : Int)))) (SV.dt (Dt.cell (Go.Value.int Go.IntKind.i64 (↑(0 : Nat) : Int))))) ∧
      True)))))) ∧
((Rx.leOO ([some (Ob.cells 25 [SV.dt (Dt.cell (Go.Value.slice Option.none (0 : Nat) (0 : Nat))), SV.ki Go.IntKind.i64 ((0 : Int))]), some (Ob.cells 25 [SV.dt (Dt.cell (Go.Value.slice Option.none (0 : Nat) (0 : Nat))), SV.dt (Dt.cell (Go.Value.int Go.IntKind.i64 (600 : Int)))]), some (Ob.row 30 3 ((2 : Nat)) (fun i j => [Rx.Dt.cell (Go.Value.int Go.IntKind.i64 (1 : Int)), Rx.Dt.cell (Go.Value.int Go.IntKind.i64 (7 : Int)), Rx.Dt.cell (Go.Value.string (ByteArray.mk #[])), Rx.Dt.cell (Go.Value.int Go.IntKind.i64 (3 : Int)), Rx.Dt.cell (Go.Value.int Go.IntKind.i64 (0 : Int)), Rx.Dt.cell (Go.Value.string (ByteArray.mk #[]))].getD (i * (3 : Nat) + j) Rx.undefCell))]) ([some (Ob.cells 25 [SV.junk, SV.junk]), some (Ob.cells 25 [SV.dt (Dt.arr ((3 : Nat)) (Go.Proofs.Ytfpnadmpmfcaaaa.noW.length) (Go.Proofs.Ytfpnadmpmfcaaaa.wF Go.Proofs.Ytfpnadmpmfcaaaa.noW)), SV.dt (Dt.cell (Go.Value.int Go.IntKind.i64 (600 : Int)))]), some (Ob.row 30 3 ([Go.Proofs.Ytfpnadmpmfcaaaa.Wd.mk (1 : Int) (7 : Int) Go.Proofs.Ytfpnadmpmfcaaaa.noS, Go.Proofs.Ytfpnadmpmfcaaaa.Wd.mk (3 : Int) (0 : Int) Go.Proofs.Ytfpnadmpmfcaaaa.noS].length) (Go.Proofs.Ytfpnadmpmfcaaaa.wF [Go.Proofs.Ytfpnadmpmfcaaaa.Wd.mk (1 : Int) (7 : Int) Go.Proofs.Ytfpnadmpmfcaaaa.noS, Go.Proofs.Ytfpnadmpmfcaaaa.Wd.mk (3 : Int) (0 : Int) Go.Proofs.Ytfpnadmpmfcaaaa.noS]))])) ∧
 (((Go.Proofs.Ytfpnadmpmfcaaaa.rawOk (Go.Proofs.Ytfpnadmpmfcaaaa.rdRs l.length (Go.Proofs.Ytfpnadmpmfcaaaa.rF l))) ∧
   (((0 : Int) ≤ most) ∧
    ((most ≤ (30 : Int)) ∧
     ((↑(0 : Nat) : Int) ≤ most)))) ∧
  (True ∧
   R (SV.tup [SV.agg [SV.dt (Dt.arr ((3 : Nat)) ((Go.Proofs.Ytfpnadmpmfcaaaa.builtD (Go.Proofs.Ytfpnadmpmfcaaaa.rdRs l.length (Go.Proofs.Ytfpnadmpmfcaaaa.rF l)) most).ws.length) (Go.Proofs.Ytfpnadmpmfcaaaa.wF (Go.Proofs.Ytfpnadmpmfcaaaa.builtD (Go.Proofs.Ytfpnadmpmfcaaaa.rdRs l.length (Go.Proofs.Ytfpnadmpmfcaaaa.rF l)) most).ws)), SV.dt (Dt.cell (Go.Value.int Go.IntKind.i64 (600 : Int)))], SV.dt (Dt.arr ((3 : Nat)) ((Go.Proofs.Ytfpnadmpmfcaaaa.builtD (Go.Proofs.Ytfpnadmpmfcaaaa.rdRs l.length (Go.Proofs.Ytfpnadmpmfcaaaa.rF l)) most).ms.length) (Go.Proofs.Ytfpnadmpmfcaaaa.wF (Go.Proofs.Ytfpnadmpmfcaaaa.builtD (Go.Proofs.Ytfpnadmpmfcaaaa.rdRs l.length (Go.Proofs.Ytfpnadmpmfcaaaa.rF l)) most).ms))]) ([])))))
/-! ## words written out -/
def rdT (a b c : Dt) : Wd := ⟨match a with
    | .cell (.int _ k) => k
    | _ => 0, match b with
    | .cell (.int _ k) => k
    | _ => 0, match c with
    | .cell (.string s) => s
    | _ => default⟩
theorem rdT_w (l : List Wd) (n : Nat) : rdT (wF l n 0) (wF l n 1) (wF l n 2) = l.getD n default := rfl
theorem rdT_c (k n : Int) (s : ByteArray) (i j : IntKind) : rdT (.cell (.int i k)) (.cell (.int j n)) (.cell (.string s)) = ⟨k, n, s⟩ := rfl
theorem rdF_lit1 (a b c : Dt) : (rdF (1 : Nat) fun i j => [a, b, c].getD (i * (3 : Nat) + j) undefCell) = [rdT a b c] := rfl
theorem rdF_lit2 (a b c a2 b2 c2 : Dt) : (rdF (2 : Nat) fun i j => [a, b, c, a2, b2, c2].getD (i * (3 : Nat) + j) undefCell) = [rdT a b c, rdT a2 b2 c2] := rfl
theorem rdF_lit3 (a b c a2 b2 c2 a3 b3 c3 : Dt) : (rdF (3 : Nat) fun i j => [a, b, c, a2, b2, c2, a3, b3, c3].getD (i * (3 : Nat) + j) undefCell) = [rdT a b c, rdT a2 b2 c2, rdT a3 b3 c3] := rfl
theorem rdF_lit5 (a b c a2 b2 c2 a3 b3 c3 a4 b4 c4 a5 b5 c5 : Dt) : (rdF (5 : Nat) fun i j => [a, b, c, a2, b2, c2, a3, b3, c3, a4, b4, c4, a5, b5, c5].getD (i * (3 : Nat) + j) undefCell) = [rdT a b c, rdT a2 b2 c2, rdT a3 b3 c3, rdT a4 b4 c4, rdT a5 b5 c5] := rfl
theorem catF_lit (l m : List Wd) (k j : Nat) (hk : k < l.length + m.length) (hj : j < 3) : catF l.length (wF l) (litF (cells3 m)) k j = wF (l ++ m) k j := by
  unfold catF
  cases h : Nat.blt k l.length with
  | true =>
    rw [Nat.blt_eq] at h
    simp [wF, List.getElem?_append, h]
  | false =>
    have h' : ¬ k < l.length := fun h' => by rw [← Nat.blt_eq] at h'; rw [h'] at h; cases h
    show litF (cells3 m) (k - l.length) j = _
    have := cells3_get m (k - l.length) j (by omega) hj
    unfold litF
    rw [this]
    simp [wF, List.getElem?_append, h']
theorem rdRs_rF (l : List Rw) : rdRs l.length (rF l) = l := by
  apply List.ext_getElem
  · simp [rdRs]
  · intro i h1 h2
    simp only [rdRs, List.getElem_map, List.getElem_range]
    have : rdRw (rF l i) = l.getD i default := rfl
    rw [this]
    simp [h2]

/-! ## the plain law: what was built may be -/
/-- a value on the blocks -/
def vOk (bs : List (List Wd)) (w : Wd) : Prop :=
  w.s.size = 0 ∧ ((w.k = 1 ∧ 0 ≤ w.n ∧ w.n ≤ 100) ∨ (w.k = 3 ∧ w.n = 0) ∨ (w.k = 5 ∧ ∃ a ∈ offs bs 0, (a : Int) = w.n))
theorem offs_append : ∀ (bs : List (List Wd)) (b : List Wd) (a : Nat), offs (bs ++ [b]) a = offs bs a ++ [a + bs.flatten.length]
  | [], b, a => by simp [offs]
  | c :: bs, b, a => by
    have := offs_append bs b (a + c.length)
    simp only [List.cons_append, offs, this, List.flatten_cons, List.length_append]
    rw [Nat.add_assoc]
theorem offs_lt : ∀ (bs : List (List Wd)) (a : Nat), (∀ b ∈ bs, isBlk b) → ∀ x ∈ offs bs a, a ≤ x ∧ x + 2 ≤ a + bs.flatten.length
  | [], _, _, x, hx => by cases hx
  | c :: bs, a, h, x, hx => by
    have hc := blk_len (h c (by simp))
    simp only [offs, List.mem_cons] at hx
    simp only [List.flatten_cons, List.length_append]
    rcases hx with rfl | hx
    · exact ⟨Nat.le_refl _, by omega⟩
    · have := offs_lt bs (a + c.length) (fun b hb => h b (by simp [hb])) x hx
      omega
theorem vOk_mono {bs : List (List Wd)} {b : List Wd} {w : Wd} (h : vOk bs w) : vOk (bs ++ [b]) w := by
  obtain ⟨h1, h2⟩ := h
  refine ⟨h1, ?_⟩
  rcases h2 with h2 | h2 | ⟨h2, a, ha, hn⟩
  · exact .inl h2
  · exact .inr (.inl h2)
  · exact .inr (.inr ⟨h2, a, by rw [offs_append]; exact List.mem_append_left _ ha, hn⟩)
theorem vOk_word {bs : List (List Wd)} {w : Wd} (hb : ∀ b ∈ bs, isBlk b) (h : vOk bs w) : wordOk bs.flatten (offs bs 0) w = true := by
  obtain ⟨h1, h2⟩ := h
  have hv : valueS w bs.flatten.length = true := by
    simp only [valueS, decide_eq_true_eq]
    unfold valueP
    rcases h2 with h2 | h2 | ⟨h2, a, ha, hn⟩
    · exact .inl ⟨h2.1, by omega, by omega, h1⟩
    · exact .inr (.inr (.inl ⟨h2.1, h2.2, h1⟩))
    · have := offs_lt bs 0 hb a ha
      exact .inr (.inr (.inr (.inr ⟨h2, by omega, by omega, h1⟩)))
  unfold wordOk
  rw [hv]
  simp only [Bool.true_and, Bool.or_eq_true, Bool.not_eq_true', beq_eq_false_iff_ne]
  rcases h2 with h2 | h2 | ⟨h2, h3⟩
  · exact .inl (by omega)
  · exact .inl (by omega)
  · exact .inr ((inS_iff _ _).2 h3)
structure BI (d : Bd) : Prop where
  blk : ∀ b ∈ d.bs, isBlk b
  val : ∀ b ∈ d.bs, ∀ w ∈ wordsOf b, vOk d.bs w
  mv : ∀ w ∈ d.ms, vOk d.bs w
  pos : 0 < d.ms.length
theorem bi_check {d : Bd} (h : BI d) {lim : Int} (h1 : 50 ≤ lim) (h2 : lim ≤ 60000) (h3 : (d.ws.length : Int) ≤ lim) : checkB d.ws lim = true := by
  have ha : allOk d.ws = true := by
    unfold Bd.ws
    rw [allOk_blocks h.blk, List.all_eq_true]
    intro b hb
    rw [List.all_eq_true]
    exact fun w hw => vOk_word h.blk (h.val b hb w hw)
  simp only [checkB, ha, Bool.and_true, Bool.and_eq_true, decide_eq_true_eq]
  omega
theorem picked_lt {n : Int} (h : isInt n) {m : Nat} (hm : 0 < m) : 0 ≤ pickedS n m ∧ pickedS n m < m := by
  unfold pickedS
  have h : -9223372036854775808 ≤ n ∧ n ≤ 9223372036854775807 := h
  have := Int.emod_nonneg (a := if n < 0 then 0 - (n + 1) else n) (b := (m : Int)) (by omega)
  have := Int.emod_lt_of_pos (if n < 0 then 0 - (n + 1) else n) (show (0 : Int) < m by omega)
  rw [Int.tmod_eq_emod_of_nonneg (by split <;> omega)]
  omega
theorem pickW_mem {ms : List Wd} {n : Int} (h : isInt n) (hm : 0 < ms.length) : pickW ms n ∈ ms := by
  obtain ⟨h1, h2⟩ := picked_lt h hm
  unfold pickW at'
  rw [List.getD_eq_getElem?_getD, List.getElem?_eq_getElem (by omega)]
  exact List.getElem_mem _
theorem isBlk_iff (b : List Wd) : isBlk b ↔ spP b 0 ∧ spSize b 0 = b.length := Iff.rfl
/-- a block of a raw thing: it is whole, and its words are made -/
theorem blk_raw {d : Bd} (h : BI d) {r : Rw} (hr : isInt r.k ∧ isInt r.a ∧ isInt r.b ∧ isInt r.c) : isBlk (blkOf d.ms r) ∧ (∀ w ∈ wordsOf (blkOf d.ms r), w ∈ d.ms) ∧ 2 ≤ (blkOf d.ms r).length ∧ (blkOf d.ms r).length ≤ 5 := by
  have ha := pickW_mem hr.2.1 h.pos
  have hb := pickW_mem hr.2.2.1 h.pos
  have c3 := picked_lt hr.2.2.2 (m := 3) (by omega)
  have c2 := picked_lt hr.2.2.2 (m := 2) (by omega)
  unfold blkOf
  generalize pickW d.ms r.a = a at *
  generalize pickW d.ms r.b = b at *
  generalize pickedS r.c 3 = n3 at *
  generalize pickedS r.c 2 = n2 at *
  have n0 : noS.size = 0 := rfl
  split
  · have hs : spP [⟨7, 0, noS⟩, a] 0 := by
      refine ⟨rfl, .inr (.inl ⟨rfl, rfl, by simp⟩)⟩
    have hz : spSize [⟨7, 0, noS⟩, a] 0 = 2 := by rw [spSize, if_pos hs]; rfl
    have hf : spFrom [⟨7, 0, noS⟩, a] 0 = 1 := by rw [spFrom, if_pos hs]; rfl
    refine ⟨⟨hs, hz⟩, fun w hw => ?_, by simp, by simp⟩
    rw [wordsOf, hf] at hw
    simp at hw
    rw [hw]; exact ha
  · split
    · have hc : cntS [⟨9, n3, noS⟩, ⟨1, n2, noS⟩, ⟨1, 2, noS⟩, a, b] (0 + 2) = 2 := by
        unfold cntS
        rw [if_neg]
        · rfl
        · simp [at']
      have hs : spP [⟨9, n3, noS⟩, ⟨1, n2, noS⟩, ⟨1, 2, noS⟩, a, b] 0 := by
        refine ⟨rfl, .inr (.inr (.inr ⟨rfl, ?_, ?_, ?_, ?_, ?_, rfl, ?_, ?_, rfl, rfl⟩))⟩
        · show 0 ≤ n3; omega
        · show n3 < 8; omega
        · rw [hc]; omega
        · rw [hc]; omega
        · rw [hc]; simp
        · show 0 ≤ n2; omega
        · show n2 < 20; omega
      have hz : spSize [⟨9, n3, noS⟩, ⟨1, n2, noS⟩, ⟨1, 2, noS⟩, a, b] 0 = 5 := by rw [spSize, if_pos hs, hc]; rfl
      have hf : spFrom [⟨9, n3, noS⟩, ⟨1, n2, noS⟩, ⟨1, 2, noS⟩, a, b] 0 = 3 := by rw [spFrom, if_pos hs]; rfl
      refine ⟨⟨hs, hz⟩, fun w hw => ?_, by simp, by simp⟩
      rw [wordsOf, hf] at hw
      simp at hw
      rcases hw with hw | hw <;> rw [hw] <;> assumption
    · have hs : spP [⟨6, 0, noS⟩, a, b] 0 := by
        refine ⟨rfl, .inl ⟨rfl, rfl, by simp⟩⟩
      have hz : spSize [⟨6, 0, noS⟩, a, b] 0 = 3 := by rw [spSize, if_pos hs]; rfl
      have hf : spFrom [⟨6, 0, noS⟩, a, b] 0 = 1 := by rw [spFrom, if_pos hs]; rfl
      refine ⟨⟨hs, hz⟩, fun w hw => ?_, by simp, by simp⟩
      rw [wordsOf, hf] at hw
      simp at hw
      rcases hw with hw | hw <;> rw [hw] <;> assumption
theorem bi_add {d : Bd} (h : BI d) {m : List Wd} (hm : isBlk m) (hw : ∀ w ∈ wordsOf m, w ∈ d.ms) : BI ⟨d.bs ++ [m], d.ms ++ [⟨5, d.ws.length, noS⟩]⟩ := by
  refine ⟨fun b hb => ?_, fun b hb w hwb => ?_, fun w hwm => ?_, by simp⟩
  · rcases List.mem_append.1 hb with hb | hb
    · exact h.blk b hb
    · simp at hb; rw [hb]; exact hm
  · refine vOk_mono ?_
    rcases List.mem_append.1 hb with hb | hb
    · exact h.val b hb w hwb
    · simp at hb; rw [hb] at hwb; exact h.mv w (hw w hwb)
  · rcases List.mem_append.1 hwm with hwm | hwm
    · exact vOk_mono (h.mv w hwm)
    · simp at hwm
      rw [hwm]
      refine ⟨rfl, .inr (.inr ⟨rfl, d.ws.length, ?_, rfl⟩)⟩
      rw [offs_append]
      simp [Bd.ws]
theorem bi_step {d : Bd} (h : BI d) {r : Rw} (hr : isInt r.k ∧ isInt r.a ∧ isInt r.b ∧ isInt r.c) : BI (d.step r) := by
  obtain ⟨h1, h2, _⟩ := blk_raw h hr
  exact bi_add h h1 h2
theorem bi_0 : BI bd0 := by
  refine ⟨fun b hb => (by cases hb), fun b hb => (by cases hb), fun w hw => ?_, by decide⟩
  simp only [bd0, List.mem_cons, List.not_mem_nil, or_false] at hw
  rcases hw with rfl | rfl
  · exact ⟨rfl, .inl ⟨rfl, by decide, by decide⟩⟩
  · exact ⟨rfl, .inr (.inl ⟨rfl, rfl⟩)⟩
/-- behind so many raw things -/
def dAt (l : List Rw) (i : Nat) : Bd := (l.take i).foldl Bd.step bd0
theorem dAt_succ {l : List Rw} {i : Nat} (h : i < l.length) : dAt l (i + 1) = (dAt l i).step (l.getD i default) := by
  unfold dAt
  rw [List.take_add_one, List.foldl_append]
  simp [h]
theorem dAt_bi {l : List Rw} (hl : rawOk l) : ∀ i, BI (dAt l i) ∧ (dAt l i).ws.length ≤ 5 * i ∧ (dAt l i).ms.length ≤ i + 2
  | 0 => ⟨bi_0, by simp [dAt, bd0, Bd.ws], by simp [dAt, bd0]⟩
  | i + 1 => by
    obtain ⟨h1, h2, h3⟩ := dAt_bi hl i
    by_cases h : i < l.length
    · rw [dAt_succ h]
      have hr : l.getD i default ∈ l := by
        rw [List.getD_eq_getElem?_getD, List.getElem?_eq_getElem h]
        exact List.getElem_mem _
      refine ⟨bi_step h1 (hl _ hr), ?_, by simp [Bd.step]; omega⟩
      have := (blk_raw h1 (hl _ hr)).2.2
      simp only [Bd.step, Bd.ws, List.flatten_append, List.length_append, List.flatten_cons, List.flatten_nil, List.append_nil] at h2 ⊢
      omega
    · have : dAt l (i + 1) = dAt l i := by
        unfold dAt
        rw [List.take_of_length_le (by omega), List.take_of_length_le (by omega)]
      rw [this]
      exact ⟨h1, by omega, by omega⟩
theorem put_good {d : Bd} (h : BI d) {m : List Wd} (hm : isBlk m) (hw : ∀ w ∈ wordsOf m, w ∈ d.ms) {lim : Int} (h1 : 50 ≤ lim) (h2 : lim ≤ 60000) (h3 : (d.ws.length : Int) + m.length ≤ lim) : putGood d.ws lim m = true := by
  have hb := bi_add h hm hw
  have e : (Bd.ws ⟨d.bs ++ [m], d.ms ++ [⟨5, d.ws.length, noS⟩]⟩) = d.ws ++ m := by simp [Bd.ws]
  have c1 := bi_check h h1 h2 (by omega)
  have c2 := bi_check hb h1 h2 (by rw [e, List.length_append]; omega)
  rw [e] at c2
  have hl := blk_len hm
  have hn : Nat.beq m.length 0 = false := by cases hq : Nat.beq m.length 0 with
    | false => rfl
    | true => have := Nat.eq_of_beq_eq_true hq; omega
  unfold putGood putOk
  rw [c1, c2, hn]
  have : spOk m 0 = true := by simp [spOk, hm.1]
  simp [this, hm.2]
  omega

theorem buKs_ok : ∀ k ∈ buKs, k.2.2.Ok Try.prog := by
  have n : noF.Ok Try.prog := fun al ol args obs out h => by cases h
  exact all_cons n (all_cons pickedF_ok (all_cons pickedF_ok (all_cons pickedF_ok (all_cons pickedF_ok (all_cons pickedF_ok (all_cons putF_ok all_nil))))))
theorem buLoop_ok (l : List Rw) (most : Int) (i : Nat) : Sound buE (.loop buLoop) (mkSt (buLF.live.h.zip (buArgs l most i)) (buObs (dAt l i).ws (dAt l i).ms)) ((buOut l most i).map (OutC.st buLF.live)) := by
  refine loop_fn mixed buKs_ok (fun c hc => by rw [show loopsOf buLoop = [] from by kernel_rfl] at hc; cases hc) buLF.live (buArgs l most) (fun i => buObs (dAt l i).ws (dAt l i).ms) (buOut l most) (fun i => l.length - i) (Q := fun i Rn Re => buLQ l most i (dAt l i).ws (dAt l i).ms Rn Re) ?_ (fun i Rn Re => by kernel_rfl) i
  intro i post hp
  obtain ⟨⟨hr, h0, h30, him⟩, hp⟩ := hp
  have hp : post (.exit 0, [.ptr 0 0, .ptr 1 0, .nm 2], buObs (builtD l most).ws (builtD l most).ms) := hp
  obtain ⟨hbi, hw5, hm2⟩ := dAt_bi hr i
  have hlast : ¬ (i < l.length ∧ (i : Int) < most) → Outs post (.exit 0) [.ptr 0 0, .ptr 1 0, .nm 2] (buObs (dAt l i).ws (dAt l i).ms) := by
    intro h
    have e : builtD l most = dAt l i := by
      unfold builtD dAt
      by_cases h1 : i < l.length
      · rw [show most.toNat = i by omega]
      · rw [List.take_of_length_le (by omega), List.take_of_length_le (by omega)]
    rw [e] at hp
    exact Outs.mk hp (leL_refl _) (leOO_refl _)
  by_cases hlt : i < l.length ∧ (i : Int) < most
  · have hrm : l.getD i default ∈ l := by
      rw [List.getD_eq_getElem?_getD, List.getElem?_eq_getElem hlt.1]
      exact List.getElem_mem _
    obtain ⟨r1, r2, r3, r4⟩ := hr _ hrm
    obtain ⟨b1, b2, b3, b4⟩ := blk_raw hbi (hr _ hrm)
    have hgood := put_good hbi b1 b2 (lim := 600) (by omega) (by omega) (by omega)
    have hnext : ∀ n : Int, n = i + 1 → ∃ x' : Nat, l.length - x' < l.length - i ∧ leL [rD l, vI .i64 most, .ptr 0 0, .ptr 1 0, .nm 2, vI .i64 n] (buArgs l most x') ∧
        leOO [some (.cells 25 [.junk, .junk]), some (.cells 25 [wD ((dAt l i).ws ++ blkOf (dAt l i).ms (l.getD i default)), vI .i64 600]), some (.row 30 3 ((dAt l i).ms.length + 1) (catF (dAt l i).ms.length (wF (dAt l i).ms) (litF (cells3 [⟨5, (dAt l i).ws.length, noS⟩]))))] (buObs (dAt l x').ws (dAt l x').ms) ∧ (buOut l most x').holds post := by
      rintro n rfl
      refine ⟨i + 1, by omega, ?_, ?_, ⟨hr, h0, h30, by omega⟩, hp⟩
      · simp only [buArgs, leL_cons, leS_self, leL_nil, and_true, true_and, leS_int]; omega
      · rw [dAt_succ hlt.1]
        have e : ((dAt l i).step (l.getD i default)).ws = (dAt l i).ws ++ blkOf (dAt l i).ms (l.getD i default) := by simp [Bd.step, Bd.ws]
        have e2 : ((dAt l i).step (l.getD i default)).ms = (dAt l i).ms ++ [⟨5, (dAt l i).ws.length, noS⟩] := rfl
        rw [e, e2]
        simp only [buObs, leOO_cons, leOb_cells, leL_cons, leS_self, leL_nil, leOO_nil, and_true, true_and, wR, leOb_row]
        refine ⟨by simp, fun k hk j hj => ?_⟩
        rw [catF_lit _ _ _ _ (by simpa using hk) hj]
        exact leDt_refl _
    obtain ⟨p1, p2⟩ := picked_lt r2 hbi.pos
    obtain ⟨p3, p4⟩ := picked_lt r3 hbi.pos
    generalize hd : dAt l i = d at *
    have hfit : fitsW (blkOf d.ms (l.getD i default)) := by show ((blkOf d.ms (l.getD i default)).length : Int) ≤ _; omega
    have eW : ∀ n : Int, d.ms.getD (pickedS n d.ms.length).toNat default = pickW d.ms n := fun _ => rfl
    have eR : l.getD (i : Int).toNat default = l.getD i default := rfl
    unfold buLQ
    simp only [Nat.zero_add, rdF_lit1, rdF_lit2, rdF_lit3, rdF_lit5, rdT_w, rdT_c, eW, eR, rdF_wF, leL_self, leObL_self, leS_self, true_and, and_true, decide_eq_true_eq, decide_eq_false_iff_not, beq_iff_eq, beq_eq_false_iff_ne, bne_self_eq_false, Bool.false_eq_true, false_implies, true_implies, lo, hi]
    refine ⟨fun h1 => ⟨fun h2 => ⟨⟨by omega, by omega⟩, ⟨r2, by omega⟩, ⟨p1, p2⟩, by omega, ⟨r3, by omega⟩, ⟨p3, p4⟩, by omega, ⟨r1, by decide⟩, fun k0 => ?_, fun k0 => ⟨fun k1 => ⟨⟨r4, by decide⟩, ⟨r4, by decide⟩, ?_⟩, fun k1 => ?_⟩⟩, fun h2 => absurd hlt.2 h2⟩, fun h1 => absurd hlt.1 (by omega)⟩
    · have eb : blkOf d.ms (l.getD i default) = [⟨7, 0, noS⟩, pickW d.ms (l.getD i default).a] := by unfold blkOf; rw [if_pos k0]
      rw [eb] at hgood hfit hnext
      exact ⟨⟨leS_refl _, lit_le (m := [⟨7, 0, noS⟩, pickW d.ms (l.getD i default).a]) rfl, trivial⟩, hfit, fun _ => ⟨by omega, ⟨by omega, by omega⟩, hnext _ rfl⟩, fun h => absurd (hgood.symm.trans h) (by decide)⟩
    · have eb : blkOf d.ms (l.getD i default) = [⟨9, pickedS (l.getD i default).c 3, noS⟩, ⟨1, pickedS (l.getD i default).c 2, noS⟩, ⟨1, 2, noS⟩, pickW d.ms (l.getD i default).a, pickW d.ms (l.getD i default).b] := by unfold blkOf; rw [if_neg k0, if_pos k1]
      rw [eb] at hgood hfit hnext
      exact ⟨⟨leS_refl _, lit_le (m := [⟨9, pickedS (l.getD i default).c 3, noS⟩, ⟨1, pickedS (l.getD i default).c 2, noS⟩, ⟨1, 2, noS⟩, pickW d.ms (l.getD i default).a, pickW d.ms (l.getD i default).b]) rfl, trivial⟩, hfit, fun _ => ⟨by omega, ⟨by omega, by omega⟩, hnext _ rfl⟩, fun h => absurd (hgood.symm.trans h) (by decide)⟩
    · have eb : blkOf d.ms (l.getD i default) = [⟨6, 0, noS⟩, pickW d.ms (l.getD i default).a, pickW d.ms (l.getD i default).b] := by unfold blkOf; rw [if_neg k0, if_neg k1]
      rw [eb] at hgood hfit hnext
      exact ⟨⟨leS_refl _, lit_le (m := [⟨6, 0, noS⟩, pickW d.ms (l.getD i default).a, pickW d.ms (l.getD i default).b]) rfl, trivial⟩, hfit, fun _ => ⟨by omega, ⟨by omega, by omega⟩, hnext _ rfl⟩, fun h => absurd (hgood.symm.trans h) (by decide)⟩
  · have hl := hlast hlt
    unfold buLQ
    simp only [decide_eq_true_eq, decide_eq_false_iff_not]
    exact ⟨fun h1 => ⟨fun h2 => absurd ⟨by omega, h2⟩ hlt, fun _ => hl⟩, fun _ => hl⟩
theorem buLok : buE.Lok (loopsOf (bodyOf Try.f12)) := by
  rw [show loopsOf (bodyOf Try.f12) = [buLoop] from by kernel_rfl]
  refine fnE_Lok (all_cons (all_cons (fun _ => ?_) all_nil) all_nil)
  intro svs obl args obs out h
  unfold buLF at h
  simp only at h
  repeat' split at h
  all_goals first
    | (simp only [Option.some.injEq, Prod.mk.injEq] at h; obtain ⟨rfl, rfl, rfl⟩ := h; exact buLoop_ok _ _ 0)
    | cases h
theorem built_ctr (l : List Rw) (most : Int) : Ctr Try.prog 12 [rD l, vI .i64 most] [] (builtO l most) := by
  refine ctr_fn mixed (N := 94) (fn := Try.f12) (c := bodyOf Try.f12) (ks := buKs) (ls := [buLF]) (by kernel_rfl) (by kernel_rfl) (by kernel_rfl) buKs_ok finF buLok (by kernel_rfl) (Q := buQ l most) (fun post hp => ?_) (fun R => by kernel_rfl)
  obtain ⟨⟨hr, h0, h30⟩, hp⟩ := hp
  have hp : post (.tup [hS (builtD l most).ws 600, wD (builtD l most).ms], []) := hp
  unfold buQ
  simp only [rdRs_rF, leL_self, leObL_self, leS_self, true_and, and_true]
  refine ⟨?_, ?_, ⟨hr, h0, h30, by omega⟩, gives1 hp (leS_refl _)⟩
  · rw [leS_int]; rfl
  · simp only [leOO_cons, leOb_cells, leL_cons, leS_self, leL_nil, leOO_nil, leS_junk, and_true, true_and, leOb_row]
    refine ⟨nil_le, rfl, fun k hk j hj => ?_⟩
    have := cells3_get bd0.ms k j hk hj
    show leDt (litF (cells3 bd0.ms) k j) _
    unfold litF
    rw [this]
    exact leDt_refl _
end Go.Proofs.Ytfpnadmpmfcaaaa
