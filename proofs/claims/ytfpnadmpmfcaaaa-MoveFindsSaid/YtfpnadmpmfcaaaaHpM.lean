/- Collect. -/
import Derived.Test.YtfpnadmpmfcaaaaHpL
open Rx Go
namespace Go.Proofs.Ytfpnadmpmfcaaaa

/-- what the roots reach at once -/
def rootK (l : List Wd) (rs : List Wd) : List Nat := rs.foldl (addK l) []
/-- all that is kept, in its order -/
def kept (l rs : List Wd) : List Nat := runS l (rootK l rs) 0
def colW (l rs : List Wd) : List Wd := cook l (kept l rs) (rawTo l (kept l rs)).length
def colR (l rs : List Wd) : List Wd := rs.map (imgW l (kept l rs))
def colGood (l : List Wd) (lim : Int) (rs : List Wd) : Bool := checkB l lim && rs.all (valOk l)
def colO (l : List Wd) (lim : Int) (rs : List Wd) : T Out := .need (rs.length ≤ 1000000) (.ite (colGood l lim rs)
  (.ret (.tup [hS (colW l rs) lim, wD (colR l rs), .ki .i64 0], []))
  (.ret (.tup [noH, nilS, vI .i64 (if checkB l lim = true then 3 else 9)], [])))

/-- the roots are looked at -/
structure CaI where
  l : List Wd
  lim : Int
  acc : List Nat
  rs : List Wd
  i : Nat
def caArgs (rs : List Wd) (i : Nat) : List SV := [wD rs, .ptr 0 0, .ptr 1 0, .nm 2, wD rs, vI .i64 rs.length, vI .i64 i]
def caObs (l : List Wd) (lim : Int) (acc : List Nat) : List (Option Ob) := [some (.cells 25 [wD l, vI .i64 lim]), some (.cells 25 [.junk, .junk]), some (mapT acc)]
def noHO : Ob := .cells 25 [nilS, .ki .i64 0]
def caOut (x : CaI) : T OutC := .need (x.rs.length ≤ 1000000) (.ite ((x.rs.drop x.i).all (wordOk x.l x.acc))
  (.ret (.exit 0, [wD x.rs, .ptr 0 0, .ptr 1 0], [some (.cells 25 [wD x.l, vI .i64 x.lim]), some (.cells 25 [.junk, .junk])]))
  (.ret (.ret, [.ptr 0 0, nilS, .ki .i64 3], [some noHO])))
def caLF : LF := ⟨6, ⟨[1, 2, 4, 8, 34, 35, 36], [1, 2, 4], [4, 5, 6]⟩, fun svs ol => match svs, ol with
  | s :: _, [h, _, m] => match rdL s, rdH h, rdM m with
    | some rs, some (l, lim), some acc => some (caArgs rs 0, caObs l lim acc, caOut ⟨l, lim, acc, rs, 0⟩)
    | _, _, _ => none
  | _, _ => none⟩

/-- the roots are moved -/
def cbArgs (rs : List Wd) (i : Nat) : List SV := [.ptr 0 0, .ptr 1 0, .ptr 2 0, .nm 5, wD rs, vI .i64 rs.length, vI .i64 i]
def cObs (l : List Wd) (lim : Int) (m : Mv) (outs : List Wd) : List (Option Ob) := [some (.cells 25 [wD l, vI .i64 lim]), some (.cells 25 [.junk, .junk]), some (.cells 67 [wD l, .nm 3, .nm 4]), some (wR m.to), some (mpO m.mp), some (wR outs)]
def cbSt (l rs : List Wd) (i : Nat) : Mv := stM' l (rootK l (rs.take i)) 0
def cbOs (l rs : List Wd) (i : Nat) : List Wd := (rs.take i).map (imgW l (rootK l (rs.take i)))
def cPre (l : List Wd) (lim : Int) (rs : List Wd) : Prop := checkB l lim = true ∧ rs.all (valOk l) = true ∧ rs.length ≤ 1000000
def cX : List SV := [.ptr 0 0, .ptr 1 0, .ptr 2 0, .nm 5]
def cbOut (l : List Wd) (lim : Int) (rs : List Wd) : T OutC := .need (cPre l lim rs) (.ret (.exit 2, cX, cObs l lim (stM' l (rootK l rs) 0) (rs.map (imgW l (rootK l rs)))))
def rdMv (ol : List (Option Ob)) : Option Mv := match ol with
  | [_, _, _, some (.row _ _ n f), some (.mp (.int .i64) (.int .i64) mp), _] => some ⟨rdF n f, mp⟩
  | _ => none
def rdRow (o : Option Ob) : Option (List Wd) := match o with
  | some (.row _ _ n f) => some (rdF n f)
  | _ => none
def cbLF : LF := ⟨14, ⟨[2, 4, 12, 13, 65, 66, 67], [2, 4, 12, 13], []⟩, fun svs ol => match svs, ol with
  | [_, _, _, _, s, _, _], h :: _ => match rdL s, rdH h with
    | some rs, some (l, lim) => some (cbArgs rs 0, cObs l lim ⟨noW, []⟩ noW, cbOut l lim rs)
    | _, _ => none
  | _, _ => none⟩

/-- the words are moved: of one thing, from i on; the thing is at a and has so many words -/
structure CcI where
  ks : List Nat
  i : Nat
def ccArgs (a s i : Nat) : List SV := [.ptr 0 0, .ptr 1 0, .ptr 2 0, .nm 5, vI .i64 a, vI .i64 s, vI .i64 i]
def ccX (a s : Nat) : List SV := [.ptr 0 0, .ptr 1 0, .ptr 2 0, .nm 5, vI .i64 a, vI .i64 s]
/-- from i to e -/
def upK (l : List Wd) : Nat → List Nat → Nat → List Nat
  | 0, ks, _ => ks
  | n + 1, ks, i => upK l n (addK l ks (rawAt l ks i)) (i + 1)
def valsP (l : List Wd) (ks : List Nat) (i e : Nat) : Prop := e ≤ (rawTo l ks).length ∧ ∀ q, i ≤ q → q < e → valAt l ks q = true
def ccPre (l : List Wd) (lim : Int) (a s : Nat) (x : CcI) : Prop := checkB l lim = true ∧ KI l x.ks x.i ∧ x.i ≤ a + s ∧ valsP l x.ks x.i (a + s)
def ccOut (l : List Wd) (lim : Int) (outs : List Wd) (a s : Nat) (x : CcI) : T OutC := .need (ccPre l lim a s x) (.ret (.exit 6, ccX a s, cObs l lim (stM' l (upK l (a + s - x.i) x.ks x.i) (a + s)) outs))
/-- what was copied, out of what is where -/
def rdKs (mp : List (Int × Int)) : List Nat := mp.map fun x => x.1.toNat
def ccLF : LF := ⟨22, ⟨[2, 4, 12, 13, 16, 17, 20], [2, 4, 12, 13, 16, 17], []⟩, fun svs ol => match svs, ol with
  | [_, _, _, _, a, s, i], [h, _, _, _, some (.mp (.int .i64) (.int .i64) mp), o] => match rdI a, rdI s, rdI i, rdH h, rdRow o with
    | some a, some s, some i, some (l, lim), some outs => some (ccArgs a.toNat s.toNat i.toNat, cObs l lim (stM' l (rdKs mp) i.toNat) outs, ccOut l lim outs a.toNat s.toNat ⟨rdKs mp, i.toNat⟩)
    | _, _, _, _, _ => none
  | _, _ => none⟩

/-- thing by thing; so many were gone through -/
structure CdI where
  ks : List Nat
  j : Nat
def cdA (l : List Wd) (x : CdI) : Nat := (rawTo l (x.ks.take x.j)).length
def cdArgs (a : Nat) : List SV := [.ptr 0 0, .ptr 1 0, .ptr 2 0, .nm 5, vI .i64 a]
def cdPre (l : List Wd) (lim : Int) (x : CdI) : Prop := checkB l lim = true ∧ x.j ≤ x.ks.length ∧ KI l x.ks (cdA l x)
def cdOut (l : List Wd) (lim : Int) (outs : List Wd) (x : CdI) : T OutC := .need (cdPre l lim x) (.ret (.exit 4, cX, cObs l lim (stM' l (runS l x.ks (cdA l x)) (rawTo l (runS l x.ks (cdA l x))).length) outs))
def cdLF : LF := ⟨19, ⟨[2, 4, 12, 13, 16], [2, 4, 12, 13], []⟩, fun _ ol => match ol with
  | [h, _, _, _, some (.mp (.int .i64) (.int .i64) mp), o] => match rdH h, rdRow o with
    | some (l, lim), some outs => some (cdArgs 0, cObs l lim (stM' l (rdKs mp) 0) outs, cdOut l lim outs ⟨rdKs mp, 0⟩)
    | _, _ => none
  | _ => none⟩

def coKs : List (Nat × Nat × FC) := [(1, 1, checkF), (4, 2, startsFC), (8, 4, valueF), (11, 4, noF), (12, 0, noF), (16, 3, mvF), (20, 5, spanF), (24, 8, mvF)]
noncomputable def coE : Env := fnE Try.prog 132 0 coKs [caLF, cbLF, cdLF, ccLF]
noncomputable def caLoop : Code := (loopIn 6 (bodyOf Try.f16)).getD .skip
noncomputable def cbLoop : Code := (loopIn 14 (bodyOf Try.f16)).getD .skip
noncomputable def cdLoop : Code := (loopIn 19 (bodyOf Try.f16)).getD .skip
noncomputable def ccLoop : Code := (loopIn 22 (bodyOf Try.f16)).getD .skip

def caQ (l : List Wd) (lim : Int) (acc : List Nat) (rs : List Wd) (i : Nat) (Rn : List SV → List (Option Ob) → Prop) (Re : Ex → List SV → List (Option Ob) → Prop) : Prop :=
(((Decidable.decide ((↑i : Int) < (↑rs.length : Int)) = Bool.true) →
 ((((0 : Int) ≤ (↑i : Int)) ∧
   ((↑i : Int) < (↑rs.length : Int))) ∧
  ((Rx.leL ([SV.agg [SV.dt (Dt.cell (Go.Value.int Go.IntKind.i64 (rs.getD (↑i : Int).toNat Inhabited.default).k)), SV.dt (Dt.cell (Go.Value.int Go.IntKind.i64 (rs.getD (↑i : Int).toNat Inhabited.default).n)), SV.dt (Dt.cell (Go.Value.string (rs.getD (↑i : Int).toNat Inhabited.default).s))], SV.dt (Dt.cell (Go.Value.int Go.IntKind.i64 (↑l.length : Int)))]) ([SV.agg [SV.dt (Dt.cell (Go.Value.int Go.IntKind.i64 (rs.getD (↑i : Int).toNat Inhabited.default).k)), SV.dt (Dt.cell (Go.Value.int Go.IntKind.i64 (rs.getD (↑i : Int).toNat Inhabited.default).n)), SV.dt (Dt.cell (Go.Value.string (rs.getD (↑i : Int).toNat Inhabited.default).s))], SV.dt (Dt.cell (Go.Value.int Go.IntKind.i64 (↑l.length : Int)))])) ∧
   ((Rx.leObL ([]) ([])) ∧
    ((((!Go.Proofs.Ytfpnadmpmfcaaaa.valueS (Go.Proofs.Ytfpnadmpmfcaaaa.Wd.mk (rs.getD (↑i : Int).toNat Inhabited.default).k (rs.getD (↑i : Int).toNat Inhabited.default).n (rs.getD (↑i : Int).toNat Inhabited.default).s) (↑l.length : Int)) = Bool.true) →
      Re (Rx.Ex.ret) ([SV.ptr 0 0, SV.dt (Dt.cell (Go.Value.slice Option.none (0 : Nat) (0 : Nat))), SV.dt (Dt.cell (Go.Value.int Go.IntKind.i64 (3 : Int)))]) ([some (Ob.cells 25 [SV.dt (Dt.cell (Go.Value.slice Option.none (0 : Nat) (0 : Nat))), SV.ki Go.IntKind.i64 ((0 : Int))])])) ∧
     (((!Go.Proofs.Ytfpnadmpmfcaaaa.valueS (Go.Proofs.Ytfpnadmpmfcaaaa.Wd.mk (rs.getD (↑i : Int).toNat Inhabited.default).k (rs.getD (↑i : Int).toNat Inhabited.default).n (rs.getD (↑i : Int).toNat Inhabited.default).s) (↑l.length : Int)) = Bool.false) →
      (((((rs.getD (↑i : Int).toNat Inhabited.default).k == (5 : Int)) = Bool.true) →
        ((((!Rx.toB ((Rx.mget (Rx.Ty.int Go.IntKind.i64) (Go.Proofs.Ytfpnadmpmfcaaaa.stM acc) (rs.getD (↑i : Int).toNat Inhabited.default).n).getD Rx.Ty.bool.dflt)) = Bool.true) →
          Re (Rx.Ex.ret) ([SV.ptr 0 0, SV.dt (Dt.cell (Go.Value.slice Option.none (0 : Nat) (0 : Nat))), SV.dt (Dt.cell (Go.Value.int Go.IntKind.i64 (3 : Int)))]) ([some (Ob.cells 25 [SV.dt (Dt.cell (Go.Value.slice Option.none (0 : Nat) (0 : Nat))), SV.ki Go.IntKind.i64 ((0 : Int))])])) ∧
         (((!Rx.toB ((Rx.mget (Rx.Ty.int Go.IntKind.i64) (Go.Proofs.Ytfpnadmpmfcaaaa.stM acc) (rs.getD (↑i : Int).toNat Inhabited.default).n).getD Rx.Ty.bool.dflt)) = Bool.false) →
          (((Rx.lo Go.IntKind.i64 ≤ (↑i : Int) + (1 : Int)) ∧
            ((↑i : Int) + (1 : Int) ≤ Rx.hi Go.IntKind.i64)) ∧
           Rn ([SV.dt (Dt.arr ((3 : Nat)) (rs.length) (Go.Proofs.Ytfpnadmpmfcaaaa.wF rs)), SV.ptr 0 0, SV.ptr 1 0, SV.nm 2, SV.dt (Dt.arr ((3 : Nat)) (rs.length) (Go.Proofs.Ytfpnadmpmfcaaaa.wF rs)), SV.dt (Dt.cell (Go.Value.int Go.IntKind.i64 (↑rs.length : Int))), SV.dt (Dt.cell (Go.Value.int Go.IntKind.i64 ((↑i : Int) + (1 : Int))))]) ([some (Ob.cells 25 [SV.dt (Dt.arr ((3 : Nat)) (l.length) (Go.Proofs.Ytfpnadmpmfcaaaa.wF l)), SV.dt (Dt.cell (Go.Value.int Go.IntKind.i64 lim))]), some (Ob.cells 25 [SV.junk, SV.junk]), some (Ob.mp (Rx.Ty.int Go.IntKind.i64) (Rx.Ty.bool) (Go.Proofs.Ytfpnadmpmfcaaaa.stM acc))]))))) ∧
       ((((rs.getD (↑i : Int).toNat Inhabited.default).k == (5 : Int)) = Bool.false) →
        (((Rx.lo Go.IntKind.i64 ≤ (↑i : Int) + (1 : Int)) ∧
          ((↑i : Int) + (1 : Int) ≤ Rx.hi Go.IntKind.i64)) ∧
         Rn ([SV.dt (Dt.arr ((3 : Nat)) (rs.length) (Go.Proofs.Ytfpnadmpmfcaaaa.wF rs)), SV.ptr 0 0, SV.ptr 1 0, SV.nm 2, SV.dt (Dt.arr ((3 : Nat)) (rs.length) (Go.Proofs.Ytfpnadmpmfcaaaa.wF rs)), SV.dt (Dt.cell (Go.Value.int Go.IntKind.i64 (↑rs.length : Int))), SV.dt (Dt.cell (Go.Value.int Go.IntKind.i64 ((↑i : Int) + (1 : Int))))]) ([some (Ob.cells 25 [SV.dt (Dt.arr ((3 : Nat)) (l.length) (Go.Proofs.Ytfpnadmpmfcaaaa.wF l)), SV.dt (Dt.cell (Go.Value.int Go.IntKind.i64 lim))]), some (Ob.cells 25 [SV.junk, SV.junk]), some (Ob.mp (Rx.Ty.int Go.IntKind.i64) (Rx.Ty.bool) (Go.Proofs.Ytfpnadmpmfcaaaa.stM acc))])))))))))) ∧
((Decidable.decide ((↑i : Int) < (↑rs.length : Int)) = Bool.false) →
 Re (Rx.Ex.exit (0 : Nat)) ([SV.dt (Dt.arr ((3 : Nat)) (rs.length) (Go.Proofs.Ytfpnadmpmfcaaaa.wF rs)), SV.ptr 0 0, SV.ptr 1 0]) ([some (Ob.cells 25 [SV.dt (Dt.arr ((3 : Nat)) (l.length) (Go.Proofs.Ytfpnadmpmfcaaaa.wF l)), SV.dt (Dt.cell (Go.Value.int Go.IntKind.i64 lim))]), some (Ob.cells 25 [SV.junk, SV.junk])])))
def cbQ (l : List Wd) (lim : Int) (rs : List Wd) (i : Nat) (to : List Wd) (mp : List (Int × Int)) (outs : List Wd) (Rn : List SV → List (Option Ob) → Prop) (Re : Ex → List SV → List (Option Ob) → Prop) : Prop :=
(((Decidable.decide ((↑i : Int) < (↑rs.length : Int)) = Bool.true) →
 ((((0 : Int) ≤ (↑i : Int)) ∧
   ((↑i : Int) < (↑rs.length : Int))) ∧
  ((Rx.leL ([SV.ptr 0 0, SV.agg [SV.dt (Dt.cell (Go.Value.int Go.IntKind.i64 (rs.getD (↑i : Int).toNat Inhabited.default).k)), SV.dt (Dt.cell (Go.Value.int Go.IntKind.i64 (rs.getD (↑i : Int).toNat Inhabited.default).n)), SV.dt (Dt.cell (Go.Value.string (rs.getD (↑i : Int).toNat Inhabited.default).s))]]) ([SV.ptr 0 0, SV.agg [SV.dt (Dt.cell (Go.Value.int Go.IntKind.i64 (rs.getD (↑i : Int).toNat Inhabited.default).k)), SV.dt (Dt.cell (Go.Value.int Go.IntKind.i64 (rs.getD (↑i : Int).toNat Inhabited.default).n)), SV.dt (Dt.cell (Go.Value.string (rs.getD (↑i : Int).toNat Inhabited.default).s))]])) ∧
   ((Rx.leObL ([Ob.cells 67 [SV.dt (Dt.arr ((3 : Nat)) (l.length) (Go.Proofs.Ytfpnadmpmfcaaaa.wF l)), SV.nm 1, SV.nm 2], Ob.row 30 3 (to.length) (Go.Proofs.Ytfpnadmpmfcaaaa.wF to), Ob.mp (Rx.Ty.int Go.IntKind.i64) (Rx.Ty.int Go.IntKind.i64) (mp)]) ([Ob.cells 67 [SV.dt (Dt.arr ((3 : Nat)) ((Go.Proofs.Ytfpnadmpmfcaaaa.rdF l.length (Go.Proofs.Ytfpnadmpmfcaaaa.wF l)).length) (Go.Proofs.Ytfpnadmpmfcaaaa.wF (Go.Proofs.Ytfpnadmpmfcaaaa.rdF l.length (Go.Proofs.Ytfpnadmpmfcaaaa.wF l)))), SV.nm 1, SV.nm 2], Ob.row 30 3 ((Go.Proofs.Ytfpnadmpmfcaaaa.rdF to.length (Go.Proofs.Ytfpnadmpmfcaaaa.wF to)).length) (Go.Proofs.Ytfpnadmpmfcaaaa.wF (Go.Proofs.Ytfpnadmpmfcaaaa.rdF to.length (Go.Proofs.Ytfpnadmpmfcaaaa.wF to))), Ob.mp (Rx.Ty.int Go.IntKind.i64) (Rx.Ty.int Go.IntKind.i64) (mp)])) ∧
    ((Go.Proofs.Ytfpnadmpmfcaaaa.mvPre (Go.Proofs.Ytfpnadmpmfcaaaa.rdF l.length (Go.Proofs.Ytfpnadmpmfcaaaa.wF l)) (Go.Proofs.Ytfpnadmpmfcaaaa.Mv.mk (Go.Proofs.Ytfpnadmpmfcaaaa.rdF to.length (Go.Proofs.Ytfpnadmpmfcaaaa.wF to)) mp) (Go.Proofs.Ytfpnadmpmfcaaaa.Wd.mk (rs.getD (↑i : Int).toNat Inhabited.default).k (rs.getD (↑i : Int).toNat Inhabited.default).n (rs.getD (↑i : Int).toNat Inhabited.default).s)) ∧
     (((Go.Proofs.Ytfpnadmpmfcaaaa.isNew (Go.Proofs.Ytfpnadmpmfcaaaa.rdF l.length (Go.Proofs.Ytfpnadmpmfcaaaa.wF l)) (Go.Proofs.Ytfpnadmpmfcaaaa.Mv.mk (Go.Proofs.Ytfpnadmpmfcaaaa.rdF to.length (Go.Proofs.Ytfpnadmpmfcaaaa.wF to)) mp) (Go.Proofs.Ytfpnadmpmfcaaaa.Wd.mk (rs.getD (↑i : Int).toNat Inhabited.default).k (rs.getD (↑i : Int).toNat Inhabited.default).n (rs.getD (↑i : Int).toNat Inhabited.default).s) = Bool.true) →
       (((outs.length + (1 : Nat)) * (32 : Nat) ≤ (140737488355328 : Nat)) ∧
        (((Rx.lo Go.IntKind.i64 ≤ (↑i : Int) + (1 : Int)) ∧
          ((↑i : Int) + (1 : Int) ≤ Rx.hi Go.IntKind.i64)) ∧
         Rn ([SV.ptr 0 0, SV.ptr 1 0, SV.ptr 2 0, SV.nm 5, SV.dt (Dt.arr ((3 : Nat)) (rs.length) (Go.Proofs.Ytfpnadmpmfcaaaa.wF rs)), SV.dt (Dt.cell (Go.Value.int Go.IntKind.i64 (↑rs.length : Int))), SV.dt (Dt.cell (Go.Value.int Go.IntKind.i64 ((↑i : Int) + (1 : Int))))]) ([some (Ob.cells 25 [SV.dt (Dt.arr ((3 : Nat)) (l.length) (Go.Proofs.Ytfpnadmpmfcaaaa.wF l)), SV.dt (Dt.cell (Go.Value.int Go.IntKind.i64 lim))]), some (Ob.cells 25 [SV.junk, SV.junk]), some (Ob.cells 67 [SV.dt (Dt.arr ((3 : Nat)) ((Go.Proofs.Ytfpnadmpmfcaaaa.rdF l.length (Go.Proofs.Ytfpnadmpmfcaaaa.wF l)).length) (Go.Proofs.Ytfpnadmpmfcaaaa.wF (Go.Proofs.Ytfpnadmpmfcaaaa.rdF l.length (Go.Proofs.Ytfpnadmpmfcaaaa.wF l)))), SV.nm 3, SV.nm 4]), some (Ob.row 30 3 ((Go.Proofs.Ytfpnadmpmfcaaaa.rdF to.length (Go.Proofs.Ytfpnadmpmfcaaaa.wF to) ++ Go.Proofs.Ytfpnadmpmfcaaaa.cutW (Go.Proofs.Ytfpnadmpmfcaaaa.rdF l.length (Go.Proofs.Ytfpnadmpmfcaaaa.wF l)) (Go.Proofs.Ytfpnadmpmfcaaaa.findS (Go.Proofs.Ytfpnadmpmfcaaaa.rdF l.length (Go.Proofs.Ytfpnadmpmfcaaaa.wF l)) (Go.Proofs.Ytfpnadmpmfcaaaa.Wd.mk (rs.getD (↑i : Int).toNat Inhabited.default).k (rs.getD (↑i : Int).toNat Inhabited.default).n (rs.getD (↑i : Int).toNat Inhabited.default).s)).n (Go.Proofs.Ytfpnadmpmfcaaaa.spSize (Go.Proofs.Ytfpnadmpmfcaaaa.rdF l.length (Go.Proofs.Ytfpnadmpmfcaaaa.wF l)) (Go.Proofs.Ytfpnadmpmfcaaaa.findS (Go.Proofs.Ytfpnadmpmfcaaaa.rdF l.length (Go.Proofs.Ytfpnadmpmfcaaaa.wF l)) (Go.Proofs.Ytfpnadmpmfcaaaa.Wd.mk (rs.getD (↑i : Int).toNat Inhabited.default).k (rs.getD (↑i : Int).toNat Inhabited.default).n (rs.getD (↑i : Int).toNat Inhabited.default).s)).n)).length) (Go.Proofs.Ytfpnadmpmfcaaaa.wF (Go.Proofs.Ytfpnadmpmfcaaaa.rdF to.length (Go.Proofs.Ytfpnadmpmfcaaaa.wF to) ++ Go.Proofs.Ytfpnadmpmfcaaaa.cutW (Go.Proofs.Ytfpnadmpmfcaaaa.rdF l.length (Go.Proofs.Ytfpnadmpmfcaaaa.wF l)) (Go.Proofs.Ytfpnadmpmfcaaaa.findS (Go.Proofs.Ytfpnadmpmfcaaaa.rdF l.length (Go.Proofs.Ytfpnadmpmfcaaaa.wF l)) (Go.Proofs.Ytfpnadmpmfcaaaa.Wd.mk (rs.getD (↑i : Int).toNat Inhabited.default).k (rs.getD (↑i : Int).toNat Inhabited.default).n (rs.getD (↑i : Int).toNat Inhabited.default).s)).n (Go.Proofs.Ytfpnadmpmfcaaaa.spSize (Go.Proofs.Ytfpnadmpmfcaaaa.rdF l.length (Go.Proofs.Ytfpnadmpmfcaaaa.wF l)) (Go.Proofs.Ytfpnadmpmfcaaaa.findS (Go.Proofs.Ytfpnadmpmfcaaaa.rdF l.length (Go.Proofs.Ytfpnadmpmfcaaaa.wF l)) (Go.Proofs.Ytfpnadmpmfcaaaa.Wd.mk (rs.getD (↑i : Int).toNat Inhabited.default).k (rs.getD (↑i : Int).toNat Inhabited.default).n (rs.getD (↑i : Int).toNat Inhabited.default).s)).n)))), some (Ob.mp (Rx.Ty.int Go.IntKind.i64) (Rx.Ty.int Go.IntKind.i64) (Rx.mset (Rx.Ty.int Go.IntKind.i64) mp (Go.Proofs.Ytfpnadmpmfcaaaa.findS (Go.Proofs.Ytfpnadmpmfcaaaa.rdF l.length (Go.Proofs.Ytfpnadmpmfcaaaa.wF l)) (Go.Proofs.Ytfpnadmpmfcaaaa.Wd.mk (rs.getD (↑i : Int).toNat Inhabited.default).k (rs.getD (↑i : Int).toNat Inhabited.default).n (rs.getD (↑i : Int).toNat Inhabited.default).s)).n (↑(Go.Proofs.Ytfpnadmpmfcaaaa.rdF to.length (Go.Proofs.Ytfpnadmpmfcaaaa.wF to)).length : Int))), some (Ob.row 30 3 (outs.length + (1 : Nat)) (Rx.catF outs.length (Go.Proofs.Ytfpnadmpmfcaaaa.wF outs) fun i_1 j => [Rx.Dt.cell (Go.Value.int Go.IntKind.i64 (Go.Proofs.Ytfpnadmpmfcaaaa.mvW (Go.Proofs.Ytfpnadmpmfcaaaa.rdF l.length (Go.Proofs.Ytfpnadmpmfcaaaa.wF l)) (Go.Proofs.Ytfpnadmpmfcaaaa.Mv.mk (Go.Proofs.Ytfpnadmpmfcaaaa.rdF to.length (Go.Proofs.Ytfpnadmpmfcaaaa.wF to)) mp) (Go.Proofs.Ytfpnadmpmfcaaaa.Wd.mk (rs.getD (↑i : Int).toNat Inhabited.default).k (rs.getD (↑i : Int).toNat Inhabited.default).n (rs.getD (↑i : Int).toNat Inhabited.default).s)).k), Rx.Dt.cell (Go.Value.int Go.IntKind.i64 (Go.Proofs.Ytfpnadmpmfcaaaa.mvW (Go.Proofs.Ytfpnadmpmfcaaaa.rdF l.length (Go.Proofs.Ytfpnadmpmfcaaaa.wF l)) (Go.Proofs.Ytfpnadmpmfcaaaa.Mv.mk (Go.Proofs.Ytfpnadmpmfcaaaa.rdF to.length (Go.Proofs.Ytfpnadmpmfcaaaa.wF to)) mp) (Go.Proofs.Ytfpnadmpmfcaaaa.Wd.mk (rs.getD (↑i : Int).toNat Inhabited.default).k (rs.getD (↑i : Int).toNat Inhabited.default).n (rs.getD (↑i : Int).toNat Inhabited.default).s)).n), Rx.Dt.cell (Go.Value.string (Go.Proofs.Ytfpnadmpmfcaaaa.mvW (Go.Proofs.Ytfpnadmpmfcaaaa.rdF l.length (Go.Proofs.Ytfpnadmpmfcaaaa.wF l)) (Go.Proofs.Ytfpnadmpmfcaaaa.Mv.mk (Go.Proofs.Ytfpnadmpmfcaaaa.rdF to.length (Go.Proofs.Ytfpnadmpmfcaaaa.wF to)) mp) (Go.Proofs.Ytfpnadmpmfcaaaa.Wd.mk (rs.getD (↑i : Int).toNat Inhabited.default).k (rs.getD (↑i : Int).toNat Inhabited.default).n (rs.getD (↑i : Int).toNat Inhabited.default).s)).s)].getD (i_1 * (3 : Nat) + j) Rx.undefCell))])))) ∧
      ((Go.Proofs.Ytfpnadmpmfcaaaa.isNew (Go.Proofs.Ytfpnadmpmfcaaaa.rdF l.length (Go.Proofs.Ytfpnadmpmfcaaaa.wF l)) (Go.Proofs.Ytfpnadmpmfcaaaa.Mv.mk (Go.Proofs.Ytfpnadmpmfcaaaa.rdF to.length (Go.Proofs.Ytfpnadmpmfcaaaa.wF to)) mp) (Go.Proofs.Ytfpnadmpmfcaaaa.Wd.mk (rs.getD (↑i : Int).toNat Inhabited.default).k (rs.getD (↑i : Int).toNat Inhabited.default).n (rs.getD (↑i : Int).toNat Inhabited.default).s) = Bool.false) →
       (((outs.length + (1 : Nat)) * (32 : Nat) ≤ (140737488355328 : Nat)) ∧
        (((Rx.lo Go.IntKind.i64 ≤ (↑i : Int) + (1 : Int)) ∧
          ((↑i : Int) + (1 : Int) ≤ Rx.hi Go.IntKind.i64)) ∧
         Rn ([SV.ptr 0 0, SV.ptr 1 0, SV.ptr 2 0, SV.nm 5, SV.dt (Dt.arr ((3 : Nat)) (rs.length) (Go.Proofs.Ytfpnadmpmfcaaaa.wF rs)), SV.dt (Dt.cell (Go.Value.int Go.IntKind.i64 (↑rs.length : Int))), SV.dt (Dt.cell (Go.Value.int Go.IntKind.i64 ((↑i : Int) + (1 : Int))))]) ([some (Ob.cells 25 [SV.dt (Dt.arr ((3 : Nat)) (l.length) (Go.Proofs.Ytfpnadmpmfcaaaa.wF l)), SV.dt (Dt.cell (Go.Value.int Go.IntKind.i64 lim))]), some (Ob.cells 25 [SV.junk, SV.junk]), some (Ob.cells 67 [SV.dt (Dt.arr ((3 : Nat)) ((Go.Proofs.Ytfpnadmpmfcaaaa.rdF l.length (Go.Proofs.Ytfpnadmpmfcaaaa.wF l)).length) (Go.Proofs.Ytfpnadmpmfcaaaa.wF (Go.Proofs.Ytfpnadmpmfcaaaa.rdF l.length (Go.Proofs.Ytfpnadmpmfcaaaa.wF l)))), SV.nm 3, SV.nm 4]), some (Ob.row 30 3 ((Go.Proofs.Ytfpnadmpmfcaaaa.rdF to.length (Go.Proofs.Ytfpnadmpmfcaaaa.wF to)).length) (Go.Proofs.Ytfpnadmpmfcaaaa.wF (Go.Proofs.Ytfpnadmpmfcaaaa.rdF to.length (Go.Proofs.Ytfpnadmpmfcaaaa.wF to)))), some (Ob.mp (Rx.Ty.int Go.IntKind.i64) (Rx.Ty.int Go.IntKind.i64) (mp)), some (Ob.row 30 3 (outs.length + (1 : Nat)) (Rx.catF outs.length (Go.Proofs.Ytfpnadmpmfcaaaa.wF outs) fun i_1 j => [Rx.Dt.cell (Go.Value.int Go.IntKind.i64 (Go.Proofs.Ytfpnadmpmfcaaaa.mvW (Go.Proofs.Ytfpnadmpmfcaaaa.rdF l.length (Go.Proofs.Ytfpnadmpmfcaaaa.wF l)) (Go.Proofs.Ytfpnadmpmfcaaaa.Mv.mk (Go.Proofs.Ytfpnadmpmfcaaaa.rdF to.length (Go.Proofs.Ytfpnadmpmfcaaaa.wF to)) mp) (Go.Proofs.Ytfpnadmpmfcaaaa.Wd.mk (rs.getD (↑i : Int).toNat Inhabited.default).k (rs.getD (↑i : Int).toNat Inhabited.default).n (rs.getD (↑i : Int).toNat Inhabited.default).s)).k), Rx.Dt.cell (Go.Value.int Go.IntKind.i64 (Go.Proofs.Ytfpnadmpmfcaaaa.mvW (Go.Proofs.Ytfpnadmpmfcaaaa.rdF l.length (Go.Proofs.Ytfpnadmpmfcaaaa.wF l)) (Go.Proofs.Ytfpnadmpmfcaaaa.Mv.mk (Go.Proofs.Ytfpnadmpmfcaaaa.rdF to.length (Go.Proofs.Ytfpnadmpmfcaaaa.wF to)) mp) (Go.Proofs.Ytfpnadmpmfcaaaa.Wd.mk (rs.getD (↑i : Int).toNat Inhabited.default).k (rs.getD (↑i : Int).toNat Inhabited.default).n (rs.getD (↑i : Int).toNat Inhabited.default).s)).n), Rx.Dt.cell (Go.Value.string (Go.Proofs.Ytfpnadmpmfcaaaa.mvW (Go.Proofs.Ytfpnadmpmfcaaaa.rdF l.length (Go.Proofs.Ytfpnadmpmfcaaaa.wF l)) (Go.Proofs.Ytfpnadmpmfcaaaa.Mv.mk (Go.Proofs.Ytfpnadmpmfcaaaa.rdF to.length (Go.Proofs.Ytfpnadmpmfcaaaa.wF to)) mp) (Go.Proofs.Ytfpnadmpmfcaaaa.Wd.mk (rs.getD (↑i : Int).toNat Inhabited.default).k (rs.getD (↑i : Int).toNat Inhabited.default).n (rs.getD (↑i : Int).toNat Inhabited.default).s)).s)].getD (i_1 * (3 : Nat) + j) Rx.undefCell))])))))))))) ∧
((Decidable.decide ((↑i : Int) < (↑rs.length : Int)) = Bool.false) →
 Re (Rx.Ex.exit (2 : Nat)) ([SV.ptr 0 0, SV.ptr 1 0, SV.ptr 2 0, SV.nm 5]) ([some (Ob.cells 25 [SV.dt (Dt.arr ((3 : Nat)) (l.length) (Go.Proofs.Ytfpnadmpmfcaaaa.wF l)), SV.dt (Dt.cell (Go.Value.int Go.IntKind.i64 lim))]), some (Ob.cells 25 [SV.junk, SV.junk]), some (Ob.cells 67 [SV.dt (Dt.arr ((3 : Nat)) (l.length) (Go.Proofs.Ytfpnadmpmfcaaaa.wF l)), SV.nm 3, SV.nm 4]), some (Ob.row 30 3 (to.length) (Go.Proofs.Ytfpnadmpmfcaaaa.wF to)), some (Ob.mp (Rx.Ty.int Go.IntKind.i64) (Rx.Ty.int Go.IntKind.i64) (mp)), some (Ob.row 30 3 (outs.length) (Go.Proofs.Ytfpnadmpmfcaaaa.wF outs))])))
def ccQ (l : List Wd) (lim : Int) (a s i : Nat) (to : List Wd) (mp : List (Int × Int)) (outs : List Wd) (Rn : List SV → List (Option Ob) → Prop) (Re : Ex → List SV → List (Option Ob) → Prop) : Prop :=
(((Rx.lo Go.IntKind.i64 ≤ (↑a : Int) + (↑s : Int)) ∧
 ((↑a : Int) + (↑s : Int) ≤ Rx.hi Go.IntKind.i64)) ∧
(((Decidable.decide ((↑i : Int) < (↑a : Int) + (↑s : Int)) = Bool.true) →
  ((((0 : Int) ≤ (↑i : Int)) ∧
    ((↑i : Int) < (↑to.length : Int))) ∧
   (((↑i : Int).toNat < to.length) ∧
    ((Rx.leL ([SV.ptr 0 0, SV.agg [SV.dt (Dt.cell (Go.Value.int Go.IntKind.i64 (to.getD (↑i : Int).toNat Inhabited.default).k)), SV.dt (Dt.cell (Go.Value.int Go.IntKind.i64 (to.getD (↑i : Int).toNat Inhabited.default).n)), SV.dt (Dt.cell (Go.Value.string (to.getD (↑i : Int).toNat Inhabited.default).s))]]) ([SV.ptr 0 0, SV.agg [SV.dt (Dt.cell (Go.Value.int Go.IntKind.i64 (to.getD (↑i : Int).toNat Inhabited.default).k)), SV.dt (Dt.cell (Go.Value.int Go.IntKind.i64 (to.getD (↑i : Int).toNat Inhabited.default).n)), SV.dt (Dt.cell (Go.Value.string (to.getD (↑i : Int).toNat Inhabited.default).s))]])) ∧
     ((Rx.leObL ([Ob.cells 67 [SV.dt (Dt.arr ((3 : Nat)) (l.length) (Go.Proofs.Ytfpnadmpmfcaaaa.wF l)), SV.nm 1, SV.nm 2], Ob.row 30 3 (to.length) (Go.Proofs.Ytfpnadmpmfcaaaa.wF to), Ob.mp (Rx.Ty.int Go.IntKind.i64) (Rx.Ty.int Go.IntKind.i64) (mp)]) ([Ob.cells 67 [SV.dt (Dt.arr ((3 : Nat)) ((Go.Proofs.Ytfpnadmpmfcaaaa.rdF l.length (Go.Proofs.Ytfpnadmpmfcaaaa.wF l)).length) (Go.Proofs.Ytfpnadmpmfcaaaa.wF (Go.Proofs.Ytfpnadmpmfcaaaa.rdF l.length (Go.Proofs.Ytfpnadmpmfcaaaa.wF l)))), SV.nm 1, SV.nm 2], Ob.row 30 3 ((Go.Proofs.Ytfpnadmpmfcaaaa.rdF to.length (Go.Proofs.Ytfpnadmpmfcaaaa.wF to)).length) (Go.Proofs.Ytfpnadmpmfcaaaa.wF (Go.Proofs.Ytfpnadmpmfcaaaa.rdF to.length (Go.Proofs.Ytfpnadmpmfcaaaa.wF to))), Ob.mp (Rx.Ty.int Go.IntKind.i64) (Rx.Ty.int Go.IntKind.i64) (mp)])) ∧
      ((Go.Proofs.Ytfpnadmpmfcaaaa.mvPre (Go.Proofs.Ytfpnadmpmfcaaaa.rdF l.length (Go.Proofs.Ytfpnadmpmfcaaaa.wF l)) (Go.Proofs.Ytfpnadmpmfcaaaa.Mv.mk (Go.Proofs.Ytfpnadmpmfcaaaa.rdF to.length (Go.Proofs.Ytfpnadmpmfcaaaa.wF to)) mp) (Go.Proofs.Ytfpnadmpmfcaaaa.Wd.mk (to.getD (↑i : Int).toNat Inhabited.default).k (to.getD (↑i : Int).toNat Inhabited.default).n (to.getD (↑i : Int).toNat Inhabited.default).s)) ∧
       (((Go.Proofs.Ytfpnadmpmfcaaaa.isNew (Go.Proofs.Ytfpnadmpmfcaaaa.rdF l.length (Go.Proofs.Ytfpnadmpmfcaaaa.wF l)) (Go.Proofs.Ytfpnadmpmfcaaaa.Mv.mk (Go.Proofs.Ytfpnadmpmfcaaaa.rdF to.length (Go.Proofs.Ytfpnadmpmfcaaaa.wF to)) mp) (Go.Proofs.Ytfpnadmpmfcaaaa.Wd.mk (to.getD (↑i : Int).toNat Inhabited.default).k (to.getD (↑i : Int).toNat Inhabited.default).n (to.getD (↑i : Int).toNat Inhabited.default).s) = Bool.true) →
         ((((0 : Int) ≤ (↑i : Int)) ∧
           ((↑i : Int) < (↑(Go.Proofs.Ytfpnadmpmfcaaaa.rdF to.length (Go.Proofs.Ytfpnadmpmfcaaaa.wF to) ++ Go.Proofs.Ytfpnadmpmfcaaaa.cutW (Go.Proofs.Ytfpnadmpmfcaaaa.rdF l.length (Go.Proofs.Ytfpnadmpmfcaaaa.wF l)) (Go.Proofs.Ytfpnadmpmfcaaaa.findS (Go.Proofs.Ytfpnadmpmfcaaaa.rdF l.length (Go.Proofs.Ytfpnadmpmfcaaaa.wF l)) (Go.Proofs.Ytfpnadmpmfcaaaa.Wd.mk (to.getD (↑i : Int).toNat Inhabited.default).k (to.getD (↑i : Int).toNat Inhabited.default).n (to.getD (↑i : Int).toNat Inhabited.default).s)).n (Go.Proofs.Ytfpnadmpmfcaaaa.spSize (Go.Proofs.Ytfpnadmpmfcaaaa.rdF l.length (Go.Proofs.Ytfpnadmpmfcaaaa.wF l)) (Go.Proofs.Ytfpnadmpmfcaaaa.findS (Go.Proofs.Ytfpnadmpmfcaaaa.rdF l.length (Go.Proofs.Ytfpnadmpmfcaaaa.wF l)) (Go.Proofs.Ytfpnadmpmfcaaaa.Wd.mk (to.getD (↑i : Int).toNat Inhabited.default).k (to.getD (↑i : Int).toNat Inhabited.default).n (to.getD (↑i : Int).toNat Inhabited.default).s)).n)).length : Int))) ∧
          (((↑i : Int).toNat < (Go.Proofs.Ytfpnadmpmfcaaaa.rdF to.length (Go.Proofs.Ytfpnadmpmfcaaaa.wF to) ++ Go.Proofs.Ytfpnadmpmfcaaaa.cutW (Go.Proofs.Ytfpnadmpmfcaaaa.rdF l.length (Go.Proofs.Ytfpnadmpmfcaaaa.wF l)) (Go.Proofs.Ytfpnadmpmfcaaaa.findS (Go.Proofs.Ytfpnadmpmfcaaaa.rdF l.length (Go.Proofs.Ytfpnadmpmfcaaaa.wF l)) (Go.Proofs.Ytfpnadmpmfcaaaa.Wd.mk (to.getD (↑i : Int).toNat Inhabited.default).k (to.getD (↑i : Int).toNat Inhabited.default).n (to.getD (↑i : Int).toNat Inhabited.default).s)).n (Go.Proofs.Ytfpnadmpmfcaaaa.spSize (Go.Proofs.Ytfpnadmpmfcaaaa.rdF l.length (Go.Proofs.Ytfpnadmpmfcaaaa.wF l)) (Go.Proofs.Ytfpnadmpmfcaaaa.findS (Go.Proofs.Ytfpnadmpmfcaaaa.rdF l.length (Go.Proofs.Ytfpnadmpmfcaaaa.wF l)) (Go.Proofs.Ytfpnadmpmfcaaaa.Wd.mk (to.getD (↑i : Int).toNat Inhabited.default).k (to.getD (↑i : Int).toNat Inhabited.default).n (to.getD (↑i : Int).toNat Inhabited.default).s)).n)).length) ∧
           (((Rx.lo Go.IntKind.i64 ≤ (↑i : Int) + (1 : Int)) ∧
             ((↑i : Int) + (1 : Int) ≤ Rx.hi Go.IntKind.i64)) ∧
            Rn ([SV.ptr 0 0, SV.ptr 1 0, SV.ptr 2 0, SV.nm 5, SV.dt (Dt.cell (Go.Value.int Go.IntKind.i64 (↑a : Int))), SV.dt (Dt.cell (Go.Value.int Go.IntKind.i64 (↑s : Int))), SV.dt (Dt.cell (Go.Value.int Go.IntKind.i64 ((↑i : Int) + (1 : Int))))]) ([some (Ob.cells 25 [SV.dt (Dt.arr ((3 : Nat)) (l.length) (Go.Proofs.Ytfpnadmpmfcaaaa.wF l)), SV.dt (Dt.cell (Go.Value.int Go.IntKind.i64 lim))]), some (Ob.cells 25 [SV.junk, SV.junk]), some (Ob.cells 67 [SV.dt (Dt.arr ((3 : Nat)) ((Go.Proofs.Ytfpnadmpmfcaaaa.rdF l.length (Go.Proofs.Ytfpnadmpmfcaaaa.wF l)).length) (Go.Proofs.Ytfpnadmpmfcaaaa.wF (Go.Proofs.Ytfpnadmpmfcaaaa.rdF l.length (Go.Proofs.Ytfpnadmpmfcaaaa.wF l)))), SV.nm 3, SV.nm 4]), some (Ob.row 30 3 ((Go.Proofs.Ytfpnadmpmfcaaaa.rdF to.length (Go.Proofs.Ytfpnadmpmfcaaaa.wF to) ++ Go.Proofs.Ytfpnadmpmfcaaaa.cutW (Go.Proofs.Ytfpnadmpmfcaaaa.rdF l.length (Go.Proofs.Ytfpnadmpmfcaaaa.wF l)) (Go.Proofs.Ytfpnadmpmfcaaaa.findS (Go.Proofs.Ytfpnadmpmfcaaaa.rdF l.length (Go.Proofs.Ytfpnadmpmfcaaaa.wF l)) (Go.Proofs.Ytfpnadmpmfcaaaa.Wd.mk (to.getD (↑i : Int).toNat Inhabited.default).k (to.getD (↑i : Int).toNat Inhabited.default).n (to.getD (↑i : Int).toNat Inhabited.default).s)).n (Go.Proofs.Ytfpnadmpmfcaaaa.spSize (Go.Proofs.Ytfpnadmpmfcaaaa.rdF l.length (Go.Proofs.Ytfpnadmpmfcaaaa.wF l)) (Go.Proofs.Ytfpnadmpmfcaaaa.findS (Go.Proofs.Ytfpnadmpmfcaaaa.rdF l.length (Go.Proofs.Ytfpnadmpmfcaaaa.wF l)) (Go.Proofs.Ytfpnadmpmfcaaaa.Wd.mk (to.getD (↑i : Int).toNat Inhabited.default).k (to.getD (↑i : Int).toNat Inhabited.default).n (to.getD (↑i : Int).toNat Inhabited.default).s)).n)).length) (Rx.setRow (Go.Proofs.Ytfpnadmpmfcaaaa.wF (Go.Proofs.Ytfpnadmpmfcaaaa.rdF to.length (Go.Proofs.Ytfpnadmpmfcaaaa.wF to) ++ Go.Proofs.Ytfpnadmpmfcaaaa.cutW (Go.Proofs.Ytfpnadmpmfcaaaa.rdF l.length (Go.Proofs.Ytfpnadmpmfcaaaa.wF l)) (Go.Proofs.Ytfpnadmpmfcaaaa.findS (Go.Proofs.Ytfpnadmpmfcaaaa.rdF l.length (Go.Proofs.Ytfpnadmpmfcaaaa.wF l)) (Go.Proofs.Ytfpnadmpmfcaaaa.Wd.mk (to.getD (↑i : Int).toNat Inhabited.default).k (to.getD (↑i : Int).toNat Inhabited.default).n (to.getD (↑i : Int).toNat Inhabited.default).s)).n (Go.Proofs.Ytfpnadmpmfcaaaa.spSize (Go.Proofs.Ytfpnadmpmfcaaaa.rdF l.length (Go.Proofs.Ytfpnadmpmfcaaaa.wF l)) (Go.Proofs.Ytfpnadmpmfcaaaa.findS (Go.Proofs.Ytfpnadmpmfcaaaa.rdF l.length (Go.Proofs.Ytfpnadmpmfcaaaa.wF l)) (Go.Proofs.Ytfpnadmpmfcaaaa.Wd.mk (to.getD (↑i : Int).toNat Inhabited.default).k (to.getD (↑i : Int).toNat Inhabited.default).n (to.getD (↑i : Int).toNat Inhabited.default).s)).n))) (↑i : Int).toNat (0 : Nat) [Rx.Dt.cell (Go.Value.int Go.IntKind.i64 (Go.Proofs.Ytfpnadmpmfcaaaa.mvW (Go.Proofs.Ytfpnadmpmfcaaaa.rdF l.length (Go.Proofs.Ytfpnadmpmfcaaaa.wF l)) (Go.Proofs.Ytfpnadmpmfcaaaa.Mv.mk (Go.Proofs.Ytfpnadmpmfcaaaa.rdF to.length (Go.Proofs.Ytfpnadmpmfcaaaa.wF to)) mp) (Go.Proofs.Ytfpnadmpmfcaaaa.Wd.mk (to.getD (↑i : Int).toNat Inhabited.default).k (to.getD (↑i : Int).toNat Inhabited.default).n (to.getD (↑i : Int).toNat Inhabited.default).s)).k), Rx.Dt.cell (Go.Value.int Go.IntKind.i64 (Go.Proofs.Ytfpnadmpmfcaaaa.mvW (Go.Proofs.Ytfpnadmpmfcaaaa.rdF l.length (Go.Proofs.Ytfpnadmpmfcaaaa.wF l)) (Go.Proofs.Ytfpnadmpmfcaaaa.Mv.mk (Go.Proofs.Ytfpnadmpmfcaaaa.rdF to.length (Go.Proofs.Ytfpnadmpmfcaaaa.wF to)) mp) (Go.Proofs.Ytfpnadmpmfcaaaa.Wd.mk (to.getD (↑i : Int).toNat Inhabited.default).k (to.getD (↑i : Int).toNat Inhabited.default).n (to.getD (↑i : Int).toNat Inhabited.default).s)).n), Rx.Dt.cell (Go.Value.string (Go.Proofs.Ytfpnadmpmfcaaaa.mvW (Go.Proofs.Ytfpnadmpmfcaaaa.rdF l.length (Go.Proofs.Ytfpnadmpmfcaaaa.wF l)) (Go.Proofs.Ytfpnadmpmfcaaaa.Mv.mk (Go.Proofs.Ytfpnadmpmfcaaaa.rdF to.length (Go.Proofs.Ytfpnadmpmfcaaaa.wF to)) mp) (Go.Proofs.Ytfpnadmpmfcaaaa.Wd.mk (to.getD (↑i : Int).toNat Inhabited.default).k (to.getD (↑i : Int).toNat Inhabited.default).n (to.getD (↑i : Int).toNat Inhabited.default).s)).s)])), some (Ob.mp (Rx.Ty.int Go.IntKind.i64) (Rx.Ty.int Go.IntKind.i64) (Rx.mset (Rx.Ty.int Go.IntKind.i64) mp (Go.Proofs.Ytfpnadmpmfcaaaa.findS (Go.Proofs.Ytfpnadmpmfcaaaa.rdF l.length (Go.Proofs.Ytfpnadmpmfcaaaa.wF l)) (Go.Proofs.Ytfpnadmpmfcaaaa.Wd.mk (to.getD (↑i : Int).toNat Inhabited.default).k (to.getD (↑i : Int).toNat Inhabited.default).n (to.getD (↑i : Int).toNat Inhabited.default).s)).n (↑(Go.Proofs.Ytfpnadmpmfcaaaa.rdF to.length (Go.Proofs.Ytfpnadmpmfcaaaa.wF to)).length : Int))), some (Ob.row 30 3 (outs.length) (Go.Proofs.Ytfpnadmpmfcaaaa.wF outs))]))))) ∧
        ((Go.Proofs.Ytfpnadmpmfcaaaa.isNew (Go.Proofs.Ytfpnadmpmfcaaaa.rdF l.length (Go.Proofs.Ytfpnadmpmfcaaaa.wF l)) (Go.Proofs.Ytfpnadmpmfcaaaa.Mv.mk (Go.Proofs.Ytfpnadmpmfcaaaa.rdF to.length (Go.Proofs.Ytfpnadmpmfcaaaa.wF to)) mp) (Go.Proofs.Ytfpnadmpmfcaaaa.Wd.mk (to.getD (↑i : Int).toNat Inhabited.default).k (to.getD (↑i : Int).toNat Inhabited.default).n (to.getD (↑i : Int).toNat Inhabited.default).s) = Bool.false) →
         ((((0 : Int) ≤ (↑i : Int)) ∧
           ((↑i : Int) < (↑(Go.Proofs.Ytfpnadmpmfcaaaa.rdF to.length (Go.Proofs.Ytfpnadmpmfcaaaa.wF to)).length : Int))) ∧
          (((↑i : Int).toNat < (Go.Proofs.Ytfpnadmpmfcaaaa.rdF to.length (Go.Proofs.Ytfpnadmpmfcaaaa.wF to)).length) ∧
           (((Rx.lo Go.IntKind.i64 ≤ (↑i : Int) + (1 : Int)) ∧
             ((↑i : Int) + (1 : Int) ≤ Rx.hi Go.IntKind.i64)) ∧
            Rn ([SV.ptr 0 0, SV.ptr 1 0, SV.ptr 2 0, SV.nm 5, SV.dt (Dt.cell (Go.Value.int Go.IntKind.i64 (↑a : Int))), SV.dt (Dt.cell (Go.Value.int Go.IntKind.i64 (↑s : Int))), SV.dt (Dt.cell (Go.Value.int Go.IntKind.i64 ((↑i : Int) + (1 : Int))))]) ([some (Ob.cells 25 [SV.dt (Dt.arr ((3 : Nat)) (l.length) (Go.Proofs.Ytfpnadmpmfcaaaa.wF l)), SV.dt (Dt.cell (Go.Value.int Go.IntKind.i64 lim))]), some (Ob.cells 25 [SV.junk, SV.junk]), some (Ob.cells 67 [SV.dt (Dt.arr ((3 : Nat)) ((Go.Proofs.Ytfpnadmpmfcaaaa.rdF l.length (Go.Proofs.Ytfpnadmpmfcaaaa.wF l)).length) (Go.Proofs.Ytfpnadmpmfcaaaa.wF (Go.Proofs.Ytfpnadmpmfcaaaa.rdF l.length (Go.Proofs.Ytfpnadmpmfcaaaa.wF l)))), SV.nm 3, SV.nm 4]), some (Ob.row 30 3 ((Go.Proofs.Ytfpnadmpmfcaaaa.rdF to.length (Go.Proofs.Ytfpnadmpmfcaaaa.wF to)).length) (Rx.setRow (Go.Proofs.Ytfpnadmpmfcaaaa.wF (Go.Proofs.Ytfpnadmpmfcaaaa.rdF to.length (Go.Proofs.Ytfpnadmpmfcaaaa.wF to))) (↑i : Int).toNat (0 : Nat) [Rx.Dt.cell (Go.Value.int Go.IntKind.i64 (Go.Proofs.Ytfpnadmpmfcaaaa.mvW (Go.Proofs.Ytfpnadmpmfcaaaa.rdF l.length (Go.Proofs.Ytfpnadmpmfcaaaa.wF l)) (Go.Proofs.Ytfpnadmpmfcaaaa.Mv.mk (Go.Proofs.Ytfpnadmpmfcaaaa.rdF to.length (Go.Proofs.Ytfpnadmpmfcaaaa.wF to)) mp) (Go.Proofs.Ytfpnadmpmfcaaaa.Wd.mk (to.getD (↑i : Int).toNat Inhabited.default).k (to.getD (↑i : Int).toNat Inhabited.default).n (to.getD (↑i : Int).toNat Inhabited.default).s)).k), Rx.Dt.cell (Go.Value.int Go.IntKind.i64 (Go.Proofs.Ytfpnadmpmfcaaaa.mvW (Go.Proofs.Ytfpnadmpmfcaaaa.rdF l.length (Go.Proofs.Ytfpnadmpmfcaaaa.wF l)) (Go.Proofs.Ytfpnadmpmfcaaaa.Mv.mk (Go.Proofs.Ytfpnadmpmfcaaaa.rdF to.length (Go.Proofs.Ytfpnadmpmfcaaaa.wF to)) mp) (Go.Proofs.Ytfpnadmpmfcaaaa.Wd.mk (to.getD (↑i : Int).toNat Inhabited.default).k (to.getD (↑i : Int).toNat Inhabited.default).n (to.getD (↑i : Int).toNat Inhabited.default).s)).n), Rx.Dt.cell (Go.Value.string (Go.Proofs.Ytfpnadmpmfcaaaa.mvW (Go.Proofs.Ytfpnadmpmfcaaaa.rdF l.length (Go.Proofs.Ytfpnadmpmfcaaaa.wF l)) (Go.Proofs.Ytfpnadmpmfcaaaa.Mv.mk (Go.Proofs.Ytfpnadmpmfcaaaa.rdF to.length (Go.Proofs.Ytfpnadmpmfcaaaa.wF to)) mp) (Go.Proofs.Ytfpnadmpmfcaaaa.Wd.mk (to.getD (↑i : Int).toNat Inhabited.default).k (to.getD (↑i : Int).toNat Inhabited.default).n (to.getD (↑i : Int).toNat Inhabited.default).s)).s)])), some (Ob.mp (Rx.Ty.int Go.IntKind.i64) (Rx.Ty.int Go.IntKind.i64) (mp)), some (Ob.row 30 3 (outs.length) (Go.Proofs.Ytfpnadmpmfcaaaa.wF outs))])))))))))))) ∧
 ((Decidable.decide ((↑i : Int) < (↑a : Int) + (↑s : Int)) = Bool.false) →
  Re (Rx.Ex.exit (6 : Nat)) ([SV.ptr 0 0, SV.ptr 1 0, SV.ptr 2 0, SV.nm 5, SV.dt (Dt.cell (Go.Value.int Go.IntKind.i64 (↑a : Int))), SV.dt (Dt.cell (Go.Value.int Go.IntKind.i64 (↑s : Int)))]) ([some (Ob.cells 25 [SV.dt (Dt.arr ((3 : Nat)) (l.length) (Go.Proofs.Ytfpnadmpmfcaaaa.wF l)), SV.dt (Dt.cell (Go.Value.int Go.IntKind.i64 lim))]), some (Ob.cells 25 [SV.junk, SV.junk]), some (Ob.cells 67 [SV.dt (Dt.arr ((3 : Nat)) (l.length) (Go.Proofs.Ytfpnadmpmfcaaaa.wF l)), SV.nm 3, SV.nm 4]), some (Ob.row 30 3 (to.length) (Go.Proofs.Ytfpnadmpmfcaaaa.wF to)), some (Ob.mp (Rx.Ty.int Go.IntKind.i64) (Rx.Ty.int Go.IntKind.i64) (mp)), some (Ob.row 30 3 (outs.length) (Go.Proofs.Ytfpnadmpmfcaaaa.wF outs))]))))
def cdQ (l : List Wd) (lim : Int) (a : Nat) (to : List Wd) (mp : List (Int × Int)) (outs : List Wd) (Rn : List SV → List (Option Ob) → Prop) (Re : Ex → List SV → List (Option Ob) → Prop) : Prop :=
(((Decidable.decide ((↑a : Int) < (↑to.length : Int)) = Bool.true) →
 ((Rx.leL ([SV.dt (Dt.arr ((3 : Nat)) (to.length) (Go.Proofs.Ytfpnadmpmfcaaaa.wF to)), SV.dt (Dt.cell (Go.Value.int Go.IntKind.i64 (↑a : Int)))]) ([SV.dt (Dt.arr ((3 : Nat)) ((Go.Proofs.Ytfpnadmpmfcaaaa.rdF to.length (Go.Proofs.Ytfpnadmpmfcaaaa.wF to)).length) (Go.Proofs.Ytfpnadmpmfcaaaa.wF (Go.Proofs.Ytfpnadmpmfcaaaa.rdF to.length (Go.Proofs.Ytfpnadmpmfcaaaa.wF to)))), SV.dt (Dt.cell (Go.Value.int Go.IntKind.i64 (↑a : Int)))])) ∧
  ((Rx.leObL ([]) ([])) ∧
   ((((0 : Int) ≤ (↑a : Int)) ∧
     (((↑a : Int) < (↑(Go.Proofs.Ytfpnadmpmfcaaaa.rdF to.length (Go.Proofs.Ytfpnadmpmfcaaaa.wF to)).length : Int)) ∧
      (Go.Proofs.Ytfpnadmpmfcaaaa.fitsW (Go.Proofs.Ytfpnadmpmfcaaaa.rdF to.length (Go.Proofs.Ytfpnadmpmfcaaaa.wF to))))) ∧
    (((Rx.lo Go.IntKind.i64 ≤ (↑a : Int) + Go.Proofs.Ytfpnadmpmfcaaaa.spFrom (Go.Proofs.Ytfpnadmpmfcaaaa.rdF to.length (Go.Proofs.Ytfpnadmpmfcaaaa.wF to)) (↑a : Int)) ∧
      ((↑a : Int) + Go.Proofs.Ytfpnadmpmfcaaaa.spFrom (Go.Proofs.Ytfpnadmpmfcaaaa.rdF to.length (Go.Proofs.Ytfpnadmpmfcaaaa.wF to)) (↑a : Int) ≤ Rx.hi Go.IntKind.i64)) ∧
     (((Rx.leS (SV.ptr 0 0) (SV.ptr 0 0)) ∧
       ((Rx.leS (SV.ptr 1 0) (SV.ptr 1 0)) ∧
        ((Rx.leS (SV.ptr 2 0) (SV.ptr 2 0)) ∧
         ((Rx.leS (SV.nm 5) (SV.nm 5)) ∧
          ((Rx.leS (SV.dt (Dt.cell (Go.Value.int Go.IntKind.i64 (↑a : Int)))) (SV.dt (Dt.cell (Go.Value.int Go.IntKind.i64 (↑(↑a : Int).toNat : Int))))) ∧
           ((Rx.leS (SV.dt (Dt.cell (Go.Value.int Go.IntKind.i64 (Go.Proofs.Ytfpnadmpmfcaaaa.spSize (Go.Proofs.Ytfpnadmpmfcaaaa.rdF to.length (Go.Proofs.Ytfpnadmpmfcaaaa.wF to)) (↑a : Int))))) (SV.dt (Dt.cell (Go.Value.int Go.IntKind.i64 (↑(Go.Proofs.Ytfpnadmpmfcaaaa.spSize (Go.Proofs.Ytfpnadmpmfcaaaa.rdF to.length (Go.Proofs.Ytfpnadmpmfcaaaa.wF to)) (↑a : Int)).toNat : Int))))) ∧
            ((Rx.leS (SV.dt (Dt.cell (Go.Value.int Go.IntKind.i64 ((↑a : Int) + Go.Proofs.Ytfpnadmpmfcaaaa.spFrom (Go.Proofs.Ytfpnadmpmfcaaaa.rdF to.length (Go.Proofs.Ytfpnadmpmfcaaaa.wF to)) (↑a : Int))))) (SV.dt (Dt.cell (Go.Value.int Go.IntKind.i64 (↑((↑a : Int) + Go.Proofs.Ytfpnadmpmfcaaaa.spFrom (Go.Proofs.Ytfpnadmpmfcaaaa.rdF to.length (Go.Proofs.Ytfpnadmpmfcaaaa.wF to)) (↑a : Int)).toNat : Int))))) ∧
             True))))))) ∧
      ((Rx.leOO ([some (Ob.cells 25 [SV.dt (Dt.arr ((3 : Nat)) (l.length) (Go.Proofs.Ytfpnadmpmfcaaaa.wF l)), SV.dt (Dt.cell (Go.Value.int Go.IntKind.i64 lim))]), some (Ob.cells 25 [SV.junk, SV.junk]), some (Ob.cells 67 [SV.dt (Dt.arr ((3 : Nat)) (l.length) (Go.Proofs.Ytfpnadmpmfcaaaa.wF l)), SV.nm 3, SV.nm 4]), some (Ob.row 30 3 (to.length) (Go.Proofs.Ytfpnadmpmfcaaaa.wF to)), some (Ob.mp (Rx.Ty.int Go.IntKind.i64) (Rx.Ty.int Go.IntKind.i64) (mp)), some (Ob.row 30 3 (outs.length) (Go.Proofs.Ytfpnadmpmfcaaaa.wF outs))]) ([some (Ob.cells 25 [SV.dt (Dt.arr ((3 : Nat)) ((Go.Proofs.Ytfpnadmpmfcaaaa.rdF l.length (Go.Proofs.Ytfpnadmpmfcaaaa.wF l)).length) (Go.Proofs.Ytfpnadmpmfcaaaa.wF (Go.Proofs.Ytfpnadmpmfcaaaa.rdF l.length (Go.Proofs.Ytfpnadmpmfcaaaa.wF l)))), SV.dt (Dt.cell (Go.Value.int Go.IntKind.i64 lim))]), some (Ob.cells 25 [SV.junk, SV.junk]), some (Ob.cells 67 [SV.dt (Dt.arr ((3 : Nat)) ((Go.Proofs.Ytfpnadmpmfcaaaa.rdF l.length (Go.Proofs.Ytfpnadmpmfcaaaa.wF l)).length) (Go.Proofs.Ytfpnadmpmfcaaaa.wF (Go.Proofs.Ytfpnadmpmfcaaaa.rdF l.length (Go.Proofs.Ytfpnadmpmfcaaaa.wF l)))), SV.nm 3, SV.nm 4]), some (Ob.row 30 3 ((Go.Proofs.Ytfpnadmpmfcaaaa.cook (Go.Proofs.Ytfpnadmpmfcaaaa.rdF l.length (Go.Proofs.Ytfpnadmpmfcaaaa.wF l)) (Go.Proofs.Ytfpnadmpmfcaaaa.rdKs mp) ((↑a : Int) + Go.Proofs.Ytfpnadmpmfcaaaa.spFrom (Go.Proofs.Ytfpnadmpmfcaaaa.rdF to.length (Go.Proofs.Ytfpnadmpmfcaaaa.wF to)) (↑a : Int)).toNat).length) (Go.Proofs.Ytfpnadmpmfcaaaa.wF (Go.Proofs.Ytfpnadmpmfcaaaa.cook (Go.Proofs.Ytfpnadmpmfcaaaa.rdF l.length (Go.Proofs.Ytfpnadmpmfcaaaa.wF l)) (Go.Proofs.Ytfpnadmpmfcaaaa.rdKs mp) ((↑a : Int) + Go.Proofs.Ytfpnadmpmfcaaaa.spFrom (Go.Proofs.Ytfpnadmpmfcaaaa.rdF to.length (Go.Proofs.Ytfpnadmpmfcaaaa.wF to)) (↑a : Int)).toNat))), some (Ob.mp (Rx.Ty.int Go.IntKind.i64) (Rx.Ty.int Go.IntKind.i64) (Go.Proofs.Ytfpnadmpmfcaaaa.mpF (Go.Proofs.Ytfpnadmpmfcaaaa.rdF l.length (Go.Proofs.Ytfpnadmpmfcaaaa.wF l)) (Go.Proofs.Ytfpnadmpmfcaaaa.rdKs mp) (0 : Nat))), some (Ob.row 30 3 ((Go.Proofs.Ytfpnadmpmfcaaaa.rdF outs.length (Go.Proofs.Ytfpnadmpmfcaaaa.wF outs)).length) (Go.Proofs.Ytfpnadmpmfcaaaa.wF (Go.Proofs.Ytfpnadmpmfcaaaa.rdF outs.length (Go.Proofs.Ytfpnadmpmfcaaaa.wF outs))))])) ∧
       ((Go.Proofs.Ytfpnadmpmfcaaaa.ccPre (Go.Proofs.Ytfpnadmpmfcaaaa.rdF l.length (Go.Proofs.Ytfpnadmpmfcaaaa.wF l)) lim (↑a : Int).toNat (Go.Proofs.Ytfpnadmpmfcaaaa.spSize (Go.Proofs.Ytfpnadmpmfcaaaa.rdF to.length (Go.Proofs.Ytfpnadmpmfcaaaa.wF to)) (↑a : Int)).toNat (Go.Proofs.Ytfpnadmpmfcaaaa.CcI.mk (Go.Proofs.Ytfpnadmpmfcaaaa.rdKs mp) ((↑a : Int) + Go.Proofs.Ytfpnadmpmfcaaaa.spFrom (Go.Proofs.Ytfpnadmpmfcaaaa.rdF to.length (Go.Proofs.Ytfpnadmpmfcaaaa.wF to)) (↑a : Int)).toNat)) ∧
        (((Rx.lo Go.IntKind.i64 ≤ (↑(↑a : Int).toNat : Int) + (↑(Go.Proofs.Ytfpnadmpmfcaaaa.spSize (Go.Proofs.Ytfpnadmpmfcaaaa.rdF to.length (Go.Proofs.Ytfpnadmpmfcaaaa.wF to)) (↑a : Int)).toNat : Int)) ∧
          ((↑(↑a : Int).toNat : Int) + (↑(Go.Proofs.Ytfpnadmpmfcaaaa.spSize (Go.Proofs.Ytfpnadmpmfcaaaa.rdF to.length (Go.Proofs.Ytfpnadmpmfcaaaa.wF to)) (↑a : Int)).toNat : Int) ≤ Rx.hi Go.IntKind.i64)) ∧
         Rn ([SV.ptr 0 0, SV.ptr 1 0, SV.ptr 2 0, SV.nm 5, SV.dt (Dt.cell (Go.Value.int Go.IntKind.i64 ((↑(↑a : Int).toNat : Int) + (↑(Go.Proofs.Ytfpnadmpmfcaaaa.spSize (Go.Proofs.Ytfpnadmpmfcaaaa.rdF to.length (Go.Proofs.Ytfpnadmpmfcaaaa.wF to)) (↑a : Int)).toNat : Int))))]) ([some (Ob.cells 25 [SV.dt (Dt.arr ((3 : Nat)) ((Go.Proofs.Ytfpnadmpmfcaaaa.rdF l.length (Go.Proofs.Ytfpnadmpmfcaaaa.wF l)).length) (Go.Proofs.Ytfpnadmpmfcaaaa.wF (Go.Proofs.Ytfpnadmpmfcaaaa.rdF l.length (Go.Proofs.Ytfpnadmpmfcaaaa.wF l)))), SV.dt (Dt.cell (Go.Value.int Go.IntKind.i64 lim))]), some (Ob.cells 25 [SV.junk, SV.junk]), some (Ob.cells 67 [SV.dt (Dt.arr ((3 : Nat)) ((Go.Proofs.Ytfpnadmpmfcaaaa.rdF l.length (Go.Proofs.Ytfpnadmpmfcaaaa.wF l)).length) (Go.Proofs.Ytfpnadmpmfcaaaa.wF (Go.Proofs.Ytfpnadmpmfcaaaa.rdF l.length (Go.Proofs.Ytfpnadmpmfcaaaa.wF l)))), SV.nm 3, SV.nm 4]), some (Ob.row 30 3 ((Go.Proofs.Ytfpnadmpmfcaaaa.cook (Go.Proofs.Ytfpnadmpmfcaaaa.rdF l.length (Go.Proofs.Ytfpnadmpmfcaaaa.wF l)) (Go.Proofs.Ytfpnadmpmfcaaaa.upK (Go.Proofs.Ytfpnadmpmfcaaaa.rdF l.length (Go.Proofs.Ytfpnadmpmfcaaaa.wF l)) ((↑a : Int).toNat + (Go.Proofs.Ytfpnadmpmfcaaaa.spSize (Go.Proofs.Ytfpnadmpmfcaaaa.rdF to.length (Go.Proofs.Ytfpnadmpmfcaaaa.wF to)) (↑a : Int)).toNat - ((↑a : Int) + Go.Proofs.Ytfpnadmpmfcaaaa.spFrom (Go.Proofs.Ytfpnadmpmfcaaaa.rdF to.length (Go.Proofs.Ytfpnadmpmfcaaaa.wF to)) (↑a : Int)).toNat) (Go.Proofs.Ytfpnadmpmfcaaaa.rdKs mp) ((↑a : Int) + Go.Proofs.Ytfpnadmpmfcaaaa.spFrom (Go.Proofs.Ytfpnadmpmfcaaaa.rdF to.length (Go.Proofs.Ytfpnadmpmfcaaaa.wF to)) (↑a : Int)).toNat) ((↑a : Int).toNat + (Go.Proofs.Ytfpnadmpmfcaaaa.spSize (Go.Proofs.Ytfpnadmpmfcaaaa.rdF to.length (Go.Proofs.Ytfpnadmpmfcaaaa.wF to)) (↑a : Int)).toNat)).length) (Go.Proofs.Ytfpnadmpmfcaaaa.wF (Go.Proofs.Ytfpnadmpmfcaaaa.cook (Go.Proofs.Ytfpnadmpmfcaaaa.rdF l.length (Go.Proofs.Ytfpnadmpmfcaaaa.wF l)) (Go.Proofs.Ytfpnadmpmfcaaaa.upK (Go.Proofs.Ytfpnadmpmfcaaaa.rdF l.length (Go.Proofs.Ytfpnadmpmfcaaaa.wF l)) ((↑a : Int).toNat + (Go.Proofs.Ytfpnadmpmfcaaaa.spSize (Go.Proofs.Ytfpnadmpmfcaaaa.rdF to.length (Go.Proofs.Ytfpnadmpmfcaaaa.wF to)) (↑a : Int)).toNat - ((↑a : Int) + Go.Proofs.Ytfpnadmpmfcaaaa.spFrom (Go.Proofs.Ytfpnadmpmfcaaaa.rdF to.length (Go.Proofs.Ytfpnadmpmfcaaaa.wF to)) (↑a : Int)).toNat) (Go.Proofs.Ytfpnadmpmfcaaaa.rdKs mp) ((↑a : Int) + Go.Proofs.Ytfpnadmpmfcaaaa.spFrom (Go.Proofs.Ytfpnadmpmfcaaaa.rdF to.length (Go.Proofs.Ytfpnadmpmfcaaaa.wF to)) (↑a : Int)).toNat) ((↑a : Int).toNat + (Go.Proofs.Ytfpnadmpmfcaaaa.spSize (Go.Proofs.Ytfpnadmpmfcaaaa.rdF to.length (Go.Proofs.Ytfpnadmpmfcaaaa.wF to)) (↑a : Int)).toNat)))), some (Ob.mp (Rx.Ty.int Go.IntKind.i64) (Rx.Ty.int Go.IntKind.i64) (Go.Proofs.Ytfpnadmpmfcaaaa.mpF (Go.Proofs.Ytfpnadmpmfcaaaa.rdF l.length (Go.Proofs.Ytfpnadmpmfcaaaa.wF l)) (Go.Proofs.Ytfpnadmpmfcaaaa.upK (Go.Proofs.Ytfpnadmpmfcaaaa.rdF l.length (Go.Proofs.Ytfpnadmpmfcaaaa.wF l)) ((↑a : Int).toNat + (Go.Proofs.Ytfpnadmpmfcaaaa.spSize (Go.Proofs.Ytfpnadmpmfcaaaa.rdF to.length (Go.Proofs.Ytfpnadmpmfcaaaa.wF to)) (↑a : Int)).toNat - ((↑a : Int) + Go.Proofs.Ytfpnadmpmfcaaaa.spFrom (Go.Proofs.Ytfpnadmpmfcaaaa.rdF to.length (Go.Proofs.Ytfpnadmpmfcaaaa.wF to)) (↑a : Int)).toNat) (Go.Proofs.Ytfpnadmpmfcaaaa.rdKs mp) ((↑a : Int) + Go.Proofs.Ytfpnadmpmfcaaaa.spFrom (Go.Proofs.Ytfpnadmpmfcaaaa.rdF to.length (Go.Proofs.Ytfpnadmpmfcaaaa.wF to)) (↑a : Int)).toNat) (0 : Nat))), some (Ob.row 30 3 ((Go.Proofs.Ytfpnadmpmfcaaaa.rdF outs.length (Go.Proofs.Ytfpnadmpmfcaaaa.wF outs)).length) (Go.Proofs.Ytfpnadmpmfcaaaa.wF (Go.Proofs.Ytfpnadmpmfcaaaa.rdF outs.length (Go.Proofs.Ytfpnadmpmfcaaaa.wF outs))))])))))))))) ∧
((Decidable.decide ((↑a : Int) < (↑to.length : Int)) = Bool.false) →
 Re (Rx.Ex.exit (4 : Nat)) ([SV.ptr 0 0, SV.ptr 1 0, SV.ptr 2 0, SV.nm 5]) ([some (Ob.cells 25 [SV.dt (Dt.arr ((3 : Nat)) (l.length) (Go.Proofs.Ytfpnadmpmfcaaaa.wF l)), SV.dt (Dt.cell (Go.Value.int Go.IntKind.i64 lim))]), some (Ob.cells 25 [SV.junk, SV.junk]), some (Ob.cells 67 [SV.dt (Dt.arr ((3 : Nat)) (l.length) (Go.Proofs.Ytfpnadmpmfcaaaa.wF l)), SV.nm 3, SV.nm 4]), some (Ob.row 30 3 (to.length) (Go.Proofs.Ytfpnadmpmfcaaaa.wF to)), some (Ob.mp (Rx.Ty.int Go.IntKind.i64) (Rx.Ty.int Go.IntKind.i64) (mp)), some (Ob.row 30 3 (outs.length) (Go.Proofs.Ytfpnadmpmfcaaaa.wF outs))])))
def colQ (l : List Wd) (lim : Int) (rs : List Wd) (R : SV → List (Option Ob) → Prop) : Prop :=
((Rx.leL ([SV.agg [SV.dt (Dt.arr ((3 : Nat)) (l.length) (Go.Proofs.Ytfpnadmpmfcaaaa.wF l)), SV.dt (Dt.cell (Go.Value.int Go.IntKind.i64 lim))]]) ([SV.agg [SV.dt (Dt.arr ((3 : Nat)) ((Go.Proofs.Ytfpnadmpmfcaaaa.rdF l.length (Go.Proofs.Ytfpnadmpmfcaaaa.wF l)).length) (Go.Proofs.Ytfpnadmpmfcaaaa.wF (Go.Proofs.Ytfpnadmpmfcaaaa.rdF l.length (Go.Proofs.Ytfpnadmpmfcaaaa.wF l)))), SV.dt (Dt.cell (Go.Value.int Go.IntKind.i64 lim))]])) ∧
((Rx.leObL ([]) ([])) ∧
 (((Go.Proofs.Ytfpnadmpmfcaaaa.checkB (Go.Proofs.Ytfpnadmpmfcaaaa.rdF l.length (Go.Proofs.Ytfpnadmpmfcaaaa.wF l)) lim = Bool.true) →
   (((((0 : Int) != (0 : Int)) = Bool.true) →
     (True ∧
      R (SV.tup [SV.agg [SV.dt (Dt.cell (Go.Value.slice Option.none (0 : Nat) (0 : Nat))), SV.ki Go.IntKind.i64 ((0 : Int))], SV.dt (Dt.cell (Go.Value.slice Option.none (0 : Nat) (0 : Nat))), SV.dt (Dt.cell (Go.Value.int Go.IntKind.i64 (0 : Int)))]) ([]))) ∧
    ((((0 : Int) != (0 : Int)) = Bool.false) →
     ((Rx.leL ([SV.dt (Dt.arr ((3 : Nat)) (l.length) (Go.Proofs.Ytfpnadmpmfcaaaa.wF l))]) ([SV.dt (Dt.arr ((3 : Nat)) ((Go.Proofs.Ytfpnadmpmfcaaaa.rdF l.length (Go.Proofs.Ytfpnadmpmfcaaaa.wF l)).length) (Go.Proofs.Ytfpnadmpmfcaaaa.wF (Go.Proofs.Ytfpnadmpmfcaaaa.rdF l.length (Go.Proofs.Ytfpnadmpmfcaaaa.wF l))))])) ∧
      ((Rx.leObL ([]) ([])) ∧
       ((Go.Proofs.Ytfpnadmpmfcaaaa.fitsW (Go.Proofs.Ytfpnadmpmfcaaaa.rdF l.length (Go.Proofs.Ytfpnadmpmfcaaaa.wF l))) ∧
        ((((Go.Proofs.Ytfpnadmpmfcaaaa.startsS (Go.Proofs.Ytfpnadmpmfcaaaa.rdF l.length (Go.Proofs.Ytfpnadmpmfcaaaa.wF l))).isSome = Bool.true) →
          (((Rx.leS (SV.dt (Dt.arr ((3 : Nat)) (rs.length) (Go.Proofs.Ytfpnadmpmfcaaaa.wF rs))) (SV.dt (Dt.arr ((3 : Nat)) ((Go.Proofs.Ytfpnadmpmfcaaaa.rdF rs.length (Go.Proofs.Ytfpnadmpmfcaaaa.wF rs)).length) (Go.Proofs.Ytfpnadmpmfcaaaa.wF (Go.Proofs.Ytfpnadmpmfcaaaa.rdF rs.length (Go.Proofs.Ytfpnadmpmfcaaaa.wF rs)))))) ∧
            ((Rx.leS (SV.ptr 0 0) (SV.ptr 0 0)) ∧
             ((Rx.leS (SV.ptr 1 0) (SV.ptr 1 0)) ∧
              ((Rx.leS (SV.nm 2) (SV.nm 2)) ∧
               ((Rx.leS (SV.dt (Dt.arr ((3 : Nat)) (rs.length) (Go.Proofs.Ytfpnadmpmfcaaaa.wF rs))) (SV.dt (Dt.arr ((3 : Nat)) ((Go.Proofs.Ytfpnadmpmfcaaaa.rdF rs.length (Go.Proofs.Ytfpnadmpmfcaaaa.wF rs)).length) (Go.Proofs.Ytfpnadmpmfcaaaa.wF (Go.Proofs.Ytfpnadmpmfcaaaa.rdF rs.length (Go.Proofs.Ytfpnadmpmfcaaaa.wF rs)))))) ∧
                ((Rx.leS (SV.dt (Dt.cell (Go.Value.int Go.IntKind.i64 (↑rs.length : Int)))) (SV.dt (Dt.cell (Go.Value.int Go.IntKind.i64 (↑(Go.Proofs.Ytfpnadmpmfcaaaa.rdF rs.length (Go.Proofs.Ytfpnadmpmfcaaaa.wF rs)).length : Int))))) ∧
                 ((Rx.leS (SV.dt (Dt.cell (Go.Value.int Go.IntKind.i64 (0 : Int)))) (SV.dt (Dt.cell (Go.Value.int Go.IntKind.i64 (↑(0 : Nat) : Int))))) ∧
                  True))))))) ∧
           ((Rx.leOO ([some (Ob.cells 25 [SV.dt (Dt.arr ((3 : Nat)) (l.length) (Go.Proofs.Ytfpnadmpmfcaaaa.wF l)), SV.dt (Dt.cell (Go.Value.int Go.IntKind.i64 lim))]), some (Ob.cells 25 [SV.dt (Dt.cell (Go.Value.slice Option.none (0 : Nat) (0 : Nat))), SV.ki Go.IntKind.i64 ((0 : Int))]), some (Ob.mp (Rx.Ty.int Go.IntKind.i64) (Rx.Ty.bool) (Go.Proofs.Ytfpnadmpmfcaaaa.stM ((Go.Proofs.Ytfpnadmpmfcaaaa.startsS (Go.Proofs.Ytfpnadmpmfcaaaa.rdF l.length (Go.Proofs.Ytfpnadmpmfcaaaa.wF l))).getD [])))]) ([some (Ob.cells 25 [SV.dt (Dt.arr ((3 : Nat)) ((Go.Proofs.Ytfpnadmpmfcaaaa.rdF l.length (Go.Proofs.Ytfpnadmpmfcaaaa.wF l)).length) (Go.Proofs.Ytfpnadmpmfcaaaa.wF (Go.Proofs.Ytfpnadmpmfcaaaa.rdF l.length (Go.Proofs.Ytfpnadmpmfcaaaa.wF l)))), SV.dt (Dt.cell (Go.Value.int Go.IntKind.i64 lim))]), some (Ob.cells 25 [SV.junk, SV.junk]), some (Ob.mp (Rx.Ty.int Go.IntKind.i64) (Rx.Ty.bool) (Go.Proofs.Ytfpnadmpmfcaaaa.stM (List.map (fun x => x.fst.toNat) (Go.Proofs.Ytfpnadmpmfcaaaa.stM ((Go.Proofs.Ytfpnadmpmfcaaaa.startsS (Go.Proofs.Ytfpnadmpmfcaaaa.rdF l.length (Go.Proofs.Ytfpnadmpmfcaaaa.wF l))).getD [])))))])) ∧
            (((Go.Proofs.Ytfpnadmpmfcaaaa.rdF rs.length (Go.Proofs.Ytfpnadmpmfcaaaa.wF rs)).length ≤ (1000000 : Nat)) ∧
             ((((List.drop (0 : Nat) (Go.Proofs.Ytfpnadmpmfcaaaa.rdF rs.length (Go.Proofs.Ytfpnadmpmfcaaaa.wF rs))).all (Go.Proofs.Ytfpnadmpmfcaaaa.wordOk (Go.Proofs.Ytfpnadmpmfcaaaa.rdF l.length (Go.Proofs.Ytfpnadmpmfcaaaa.wF l)) (List.map (fun x => x.fst.toNat) (Go.Proofs.Ytfpnadmpmfcaaaa.stM ((Go.Proofs.Ytfpnadmpmfcaaaa.startsS (Go.Proofs.Ytfpnadmpmfcaaaa.rdF l.length (Go.Proofs.Ytfpnadmpmfcaaaa.wF l))).getD [])))) = Bool.true) →
               (((Rx.leS (SV.ptr 0 0) (SV.ptr 0 0)) ∧
                 ((Rx.leS (SV.ptr 1 0) (SV.ptr 1 0)) ∧
                  ((Rx.leS (SV.ptr 2 0) (SV.ptr 2 0)) ∧
                   ((Rx.leS (SV.nm 5) (SV.nm 5)) ∧
                    ((Rx.leS (SV.dt (Dt.arr ((3 : Nat)) ((Go.Proofs.Ytfpnadmpmfcaaaa.rdF rs.length (Go.Proofs.Ytfpnadmpmfcaaaa.wF rs)).length) (Go.Proofs.Ytfpnadmpmfcaaaa.wF (Go.Proofs.Ytfpnadmpmfcaaaa.rdF rs.length (Go.Proofs.Ytfpnadmpmfcaaaa.wF rs))))) (SV.dt (Dt.arr ((3 : Nat)) ((Go.Proofs.Ytfpnadmpmfcaaaa.rdF (Go.Proofs.Ytfpnadmpmfcaaaa.rdF rs.length (Go.Proofs.Ytfpnadmpmfcaaaa.wF rs)).length (Go.Proofs.Ytfpnadmpmfcaaaa.wF (Go.Proofs.Ytfpnadmpmfcaaaa.rdF rs.length (Go.Proofs.Ytfpnadmpmfcaaaa.wF rs)))).length) (Go.Proofs.Ytfpnadmpmfcaaaa.wF (Go.Proofs.Ytfpnadmpmfcaaaa.rdF (Go.Proofs.Ytfpnadmpmfcaaaa.rdF rs.length (Go.Proofs.Ytfpnadmpmfcaaaa.wF rs)).length (Go.Proofs.Ytfpnadmpmfcaaaa.wF (Go.Proofs.Ytfpnadmpmfcaaaa.rdF rs.length (Go.Proofs.Ytfpnadmpmfcaaaa.wF rs)))))))) ∧
                     ((Rx.leS (SV.dt (Dt.cell (Go.Value.int Go.IntKind.i64 (↑(Go.Proofs.Ytfpnadmpmfcaaaa.rdF rs.length (Go.Proofs.Ytfpnadmpmfcaaaa.wF rs)).length : Int)))) (SV.dt (Dt.cell (Go.Value.int Go.IntKind.i64 (↑(Go.Proofs.Ytfpnadmpmfcaaaa.rdF (Go.Proofs.Ytfpnadmpmfcaaaa.rdF rs.length (Go.Proofs.Ytfpnadmpmfcaaaa.wF rs)).length (Go.Proofs.Ytfpnadmpmfcaaaa.wF (Go.Proofs.Ytfpnadmpmfcaaaa.rdF rs.length (Go.Proofs.Ytfpnadmpmfcaaaa.wF rs)))).length : Int))))) ∧
                      ((Rx.leS (SV.dt (Dt.cell (Go.Value.int Go.IntKind.i64 (0 : Int)))) (SV.dt (Dt.cell (Go.Value.int Go.IntKind.i64 (↑(0 : Nat) : Int))))) ∧
                       True))))))) ∧
                ((Rx.leOO ([some (Ob.cells 25 [SV.dt (Dt.arr ((3 : Nat)) ((Go.Proofs.Ytfpnadmpmfcaaaa.rdF l.length (Go.Proofs.Ytfpnadmpmfcaaaa.wF l)).length) (Go.Proofs.Ytfpnadmpmfcaaaa.wF (Go.Proofs.Ytfpnadmpmfcaaaa.rdF l.length (Go.Proofs.Ytfpnadmpmfcaaaa.wF l)))), SV.dt (Dt.cell (Go.Value.int Go.IntKind.i64 lim))]), some (Ob.cells 25 [SV.junk, SV.junk]), some (Ob.cells 67 [SV.dt (Dt.arr ((3 : Nat)) ((Go.Proofs.Ytfpnadmpmfcaaaa.rdF l.length (Go.Proofs.Ytfpnadmpmfcaaaa.wF l)).length) (Go.Proofs.Ytfpnadmpmfcaaaa.wF (Go.Proofs.Ytfpnadmpmfcaaaa.rdF l.length (Go.Proofs.Ytfpnadmpmfcaaaa.wF l)))), SV.nm 3, SV.nm 4]), some (Ob.row 30 3 ((0 : Nat)) (fun x x_1 => Rx.undefCell)), some (Ob.mp (Rx.Ty.int Go.IntKind.i64) (Rx.Ty.int Go.IntKind.i64) ([])), some (Ob.row 30 3 ((0 : Nat)) (fun x x_1 => Rx.undefCell))]) ([some (Ob.cells 25 [SV.dt (Dt.arr ((3 : Nat)) ((Go.Proofs.Ytfpnadmpmfcaaaa.rdF (Go.Proofs.Ytfpnadmpmfcaaaa.rdF l.length (Go.Proofs.Ytfpnadmpmfcaaaa.wF l)).length (Go.Proofs.Ytfpnadmpmfcaaaa.wF (Go.Proofs.Ytfpnadmpmfcaaaa.rdF l.length (Go.Proofs.Ytfpnadmpmfcaaaa.wF l)))).length) (Go.Proofs.Ytfpnadmpmfcaaaa.wF (Go.Proofs.Ytfpnadmpmfcaaaa.rdF (Go.Proofs.Ytfpnadmpmfcaaaa.rdF l.length (Go.Proofs.Ytfpnadmpmfcaaaa.wF l)).length (Go.Proofs.Ytfpnadmpmfcaaaa.wF (Go.Proofs.Ytfpnadmpmfcaaaa.rdF l.length (Go.Proofs.Ytfpnadmpmfcaaaa.wF l)))))), SV.dt (Dt.cell (Go.Value.int Go.IntKind.i64 lim))]), some (Ob.cells 25 [SV.junk, SV.junk]), some (Ob.cells 67 [SV.dt (Dt.arr ((3 : Nat)) ((Go.Proofs.Ytfpnadmpmfcaaaa.rdF (Go.Proofs.Ytfpnadmpmfcaaaa.rdF l.length (Go.Proofs.Ytfpnadmpmfcaaaa.wF l)).length (Go.Proofs.Ytfpnadmpmfcaaaa.wF (Go.Proofs.Ytfpnadmpmfcaaaa.rdF l.length (Go.Proofs.Ytfpnadmpmfcaaaa.wF l)))).length) (Go.Proofs.Ytfpnadmpmfcaaaa.wF (Go.Proofs.Ytfpnadmpmfcaaaa.rdF (Go.Proofs.Ytfpnadmpmfcaaaa.rdF l.length (Go.Proofs.Ytfpnadmpmfcaaaa.wF l)).length (Go.Proofs.Ytfpnadmpmfcaaaa.wF (Go.Proofs.Ytfpnadmpmfcaaaa.rdF l.length (Go.Proofs.Ytfpnadmpmfcaaaa.wF l)))))), SV.nm 3, SV.nm 4]), some (Ob.row 30 3 (Go.Proofs.Ytfpnadmpmfcaaaa.noW.length) (Go.Proofs.Ytfpnadmpmfcaaaa.wF Go.Proofs.Ytfpnadmpmfcaaaa.noW)), some (Ob.mp (Rx.Ty.int Go.IntKind.i64) (Rx.Ty.int Go.IntKind.i64) ([])), some (Ob.row 30 3 (Go.Proofs.Ytfpnadmpmfcaaaa.noW.length) (Go.Proofs.Ytfpnadmpmfcaaaa.wF Go.Proofs.Ytfpnadmpmfcaaaa.noW))])) ∧
                 ((Go.Proofs.Ytfpnadmpmfcaaaa.cPre (Go.Proofs.Ytfpnadmpmfcaaaa.rdF (Go.Proofs.Ytfpnadmpmfcaaaa.rdF l.length (Go.Proofs.Ytfpnadmpmfcaaaa.wF l)).length (Go.Proofs.Ytfpnadmpmfcaaaa.wF (Go.Proofs.Ytfpnadmpmfcaaaa.rdF l.length (Go.Proofs.Ytfpnadmpmfcaaaa.wF l)))) lim (Go.Proofs.Ytfpnadmpmfcaaaa.rdF (Go.Proofs.Ytfpnadmpmfcaaaa.rdF rs.length (Go.Proofs.Ytfpnadmpmfcaaaa.wF rs)).length (Go.Proofs.Ytfpnadmpmfcaaaa.wF (Go.Proofs.Ytfpnadmpmfcaaaa.rdF rs.length (Go.Proofs.Ytfpnadmpmfcaaaa.wF rs))))) ∧
                  (((Rx.leS (SV.ptr 0 0) (SV.ptr 0 0)) ∧
                    ((Rx.leS (SV.ptr 1 0) (SV.ptr 1 0)) ∧
                     ((Rx.leS (SV.ptr 2 0) (SV.ptr 2 0)) ∧
                      ((Rx.leS (SV.nm 5) (SV.nm 5)) ∧
                       ((Rx.leS (SV.dt (Dt.cell (Go.Value.int Go.IntKind.i64 (0 : Int)))) (SV.dt (Dt.cell (Go.Value.int Go.IntKind.i64 (↑(0 : Nat) : Int))))) ∧
                        True))))) ∧
                   ((Rx.leOO ([some (Ob.cells 25 [SV.dt (Dt.arr ((3 : Nat)) ((Go.Proofs.Ytfpnadmpmfcaaaa.rdF (Go.Proofs.Ytfpnadmpmfcaaaa.rdF l.length (Go.Proofs.Ytfpnadmpmfcaaaa.wF l)).length (Go.Proofs.Ytfpnadmpmfcaaaa.wF (Go.Proofs.Ytfpnadmpmfcaaaa.rdF l.length (Go.Proofs.Ytfpnadmpmfcaaaa.wF l)))).length) (Go.Proofs.Ytfpnadmpmfcaaaa.wF (Go.Proofs.Ytfpnadmpmfcaaaa.rdF (Go.Proofs.Ytfpnadmpmfcaaaa.rdF l.length (Go.Proofs.Ytfpnadmpmfcaaaa.wF l)).length (Go.Proofs.Ytfpnadmpmfcaaaa.wF (Go.Proofs.Ytfpnadmpmfcaaaa.rdF l.length (Go.Proofs.Ytfpnadmpmfcaaaa.wF l)))))), SV.dt (Dt.cell (Go.Value.int Go.IntKind.i64 lim))]), some (Ob.cells 25 [SV.junk, SV.junk]), some (Ob.cells 67 [SV.dt (Dt.arr ((3 : Nat)) ((Go.Proofs.Ytfpnadmpmfcaaaa.rdF (Go.Proofs.Ytfpnadmpmfcaaaa.rdF l.length (Go.Proofs.Ytfpnadmpmfcaaaa.wF l)).length (Go.Proofs.Ytfpnadmpmfcaaaa.wF (Go.Proofs.Ytfpnadmpmfcaaaa.rdF l.length (Go.Proofs.Ytfpnadmpmfcaaaa.wF l)))).length) (Go.Proofs.Ytfpnadmpmfcaaaa.wF (Go.Proofs.Ytfpnadmpmfcaaaa.rdF (Go.Proofs.Ytfpnadmpmfcaaaa.rdF l.length (Go.Proofs.Ytfpnadmpmfcaaaa.wF l)).length (Go.Proofs.Ytfpnadmpmfcaaaa.wF (Go.Proofs.Ytfpnadmpmfcaaaa.rdF l.length (Go.Proofs.Ytfpnadmpmfcaaaa.wF l)))))), SV.nm 3, SV.nm 4]), some (Ob.row 30 3 ((Go.Proofs.Ytfpnadmpmfcaaaa.cook (Go.Proofs.Ytfpnadmpmfcaaaa.rdF (Go.Proofs.Ytfpnadmpmfcaaaa.rdF l.length (Go.Proofs.Ytfpnadmpmfcaaaa.wF l)).length (Go.Proofs.Ytfpnadmpmfcaaaa.wF (Go.Proofs.Ytfpnadmpmfcaaaa.rdF l.length (Go.Proofs.Ytfpnadmpmfcaaaa.wF l)))) (Go.Proofs.Ytfpnadmpmfcaaaa.rootK (Go.Proofs.Ytfpnadmpmfcaaaa.rdF (Go.Proofs.Ytfpnadmpmfcaaaa.rdF l.length (Go.Proofs.Ytfpnadmpmfcaaaa.wF l)).length (Go.Proofs.Ytfpnadmpmfcaaaa.wF (Go.Proofs.Ytfpnadmpmfcaaaa.rdF l.length (Go.Proofs.Ytfpnadmpmfcaaaa.wF l)))) (Go.Proofs.Ytfpnadmpmfcaaaa.rdF (Go.Proofs.Ytfpnadmpmfcaaaa.rdF rs.length (Go.Proofs.Ytfpnadmpmfcaaaa.wF rs)).length (Go.Proofs.Ytfpnadmpmfcaaaa.wF (Go.Proofs.Ytfpnadmpmfcaaaa.rdF rs.length (Go.Proofs.Ytfpnadmpmfcaaaa.wF rs))))) (0 : Nat)).length) (Go.Proofs.Ytfpnadmpmfcaaaa.wF (Go.Proofs.Ytfpnadmpmfcaaaa.cook (Go.Proofs.Ytfpnadmpmfcaaaa.rdF (Go.Proofs.Ytfpnadmpmfcaaaa.rdF l.length (Go.Proofs.Ytfpnadmpmfcaaaa.wF l)).length (Go.Proofs.Ytfpnadmpmfcaaaa.wF (Go.Proofs.Ytfpnadmpmfcaaaa.rdF l.length (Go.Proofs.Ytfpnadmpmfcaaaa.wF l)))) (Go.Proofs.Ytfpnadmpmfcaaaa.rootK (Go.Proofs.Ytfpnadmpmfcaaaa.rdF (Go.Proofs.Ytfpnadmpmfcaaaa.rdF l.length (Go.Proofs.Ytfpnadmpmfcaaaa.wF l)).length (Go.Proofs.Ytfpnadmpmfcaaaa.wF (Go.Proofs.Ytfpnadmpmfcaaaa.rdF l.length (Go.Proofs.Ytfpnadmpmfcaaaa.wF l)))) (Go.Proofs.Ytfpnadmpmfcaaaa.rdF (Go.Proofs.Ytfpnadmpmfcaaaa.rdF rs.length (Go.Proofs.Ytfpnadmpmfcaaaa.wF rs)).length (Go.Proofs.Ytfpnadmpmfcaaaa.wF (Go.Proofs.Ytfpnadmpmfcaaaa.rdF rs.length (Go.Proofs.Ytfpnadmpmfcaaaa.wF rs))))) (0 : Nat)))), some (Ob.mp (Rx.Ty.int Go.IntKind.i64) (Rx.Ty.int Go.IntKind.i64) (Go.Proofs.Ytfpnadmpmfcaaaa.mpF (Go.Proofs.Ytfpnadmpmfcaaaa.rdF (Go.Proofs.Ytfpnadmpmfcaaaa.rdF l.length (Go.Proofs.Ytfpnadmpmfcaaaa.wF l)).length (Go.Proofs.Ytfpnadmpmfcaaaa.wF (Go.Proofs.Ytfpnadmpmfcaaaa.rdF l.length (Go.Proofs.Ytfpnadmpmfcaaaa.wF l)))) (Go.Proofs.Ytfpnadmpmfcaaaa.rootK (Go.Proofs.Ytfpnadmpmfcaaaa.rdF (Go.Proofs.Ytfpnadmpmfcaaaa.rdF l.length (Go.Proofs.Ytfpnadmpmfcaaaa.wF l)).length (Go.Proofs.Ytfpnadmpmfcaaaa.wF (Go.Proofs.Ytfpnadmpmfcaaaa.rdF l.length (Go.Proofs.Ytfpnadmpmfcaaaa.wF l)))) (Go.Proofs.Ytfpnadmpmfcaaaa.rdF (Go.Proofs.Ytfpnadmpmfcaaaa.rdF rs.length (Go.Proofs.Ytfpnadmpmfcaaaa.wF rs)).length (Go.Proofs.Ytfpnadmpmfcaaaa.wF (Go.Proofs.Ytfpnadmpmfcaaaa.rdF rs.length (Go.Proofs.Ytfpnadmpmfcaaaa.wF rs))))) (0 : Nat))), some (Ob.row 30 3 ((List.map (Go.Proofs.Ytfpnadmpmfcaaaa.imgW (Go.Proofs.Ytfpnadmpmfcaaaa.rdF (Go.Proofs.Ytfpnadmpmfcaaaa.rdF l.length (Go.Proofs.Ytfpnadmpmfcaaaa.wF l)).length (Go.Proofs.Ytfpnadmpmfcaaaa.wF (Go.Proofs.Ytfpnadmpmfcaaaa.rdF l.length (Go.Proofs.Ytfpnadmpmfcaaaa.wF l)))) (Go.Proofs.Ytfpnadmpmfcaaaa.rootK (Go.Proofs.Ytfpnadmpmfcaaaa.rdF (Go.Proofs.Ytfpnadmpmfcaaaa.rdF l.length (Go.Proofs.Ytfpnadmpmfcaaaa.wF l)).length (Go.Proofs.Ytfpnadmpmfcaaaa.wF (Go.Proofs.Ytfpnadmpmfcaaaa.rdF l.length (Go.Proofs.Ytfpnadmpmfcaaaa.wF l)))) (Go.Proofs.Ytfpnadmpmfcaaaa.rdF (Go.Proofs.Ytfpnadmpmfcaaaa.rdF rs.length (Go.Proofs.Ytfpnadmpmfcaaaa.wF rs)).length (Go.Proofs.Ytfpnadmpmfcaaaa.wF (Go.Proofs.Ytfpnadmpmfcaaaa.rdF rs.length (Go.Proofs.Ytfpnadmpmfcaaaa.wF rs)))))) (Go.Proofs.Ytfpnadmpmfcaaaa.rdF (Go.Proofs.Ytfpnadmpmfcaaaa.rdF rs.length (Go.Proofs.Ytfpnadmpmfcaaaa.wF rs)).length (Go.Proofs.Ytfpnadmpmfcaaaa.wF (Go.Proofs.Ytfpnadmpmfcaaaa.rdF rs.length (Go.Proofs.Ytfpnadmpmfcaaaa.wF rs))))).length) (Go.Proofs.Ytfpnadmpmfcaaaa.wF (List.map (Go.Proofs.Ytfpnadmpmfcaaaa.imgW (Go.Proofs.Ytfpnadmpmfcaaaa.rdF (Go.Proofs.Ytfpnadmpmfcaaaa.rdF l.length (Go.Proofs.Ytfpnadmpmfcaaaa.wF l)).length (Go.Proofs.Ytfpnadmpmfcaaaa.wF (Go.Proofs.Ytfpnadmpmfcaaaa.rdF l.length (Go.Proofs.Ytfpnadmpmfcaaaa.wF l)))) (Go.Proofs.Ytfpnadmpmfcaaaa.rootK (Go.Proofs.Ytfpnadmpmfcaaaa.rdF (Go.Proofs.Ytfpnadmpmfcaaaa.rdF l.length (Go.Proofs.Ytfpnadmpmfcaaaa.wF l)).length (Go.Proofs.Ytfpnadmpmfcaaaa.wF (Go.Proofs.Ytfpnadmpmfcaaaa.rdF l.length (Go.Proofs.Ytfpnadmpmfcaaaa.wF l)))) (Go.Proofs.Ytfpnadmpmfcaaaa.rdF (Go.Proofs.Ytfpnadmpmfcaaaa.rdF rs.length (Go.Proofs.Ytfpnadmpmfcaaaa.wF rs)).length (Go.Proofs.Ytfpnadmpmfcaaaa.wF (Go.Proofs.Ytfpnadmpmfcaaaa.rdF rs.length (Go.Proofs.Ytfpnadmpmfcaaaa.wF rs)))))) (Go.Proofs.Ytfpnadmpmfcaaaa.rdF (Go.Proofs.Ytfpnadmpmfcaaaa.rdF rs.length (Go.Proofs.Ytfpnadmpmfcaaaa.wF rs)).length (Go.Proofs.Ytfpnadmpmfcaaaa.wF (Go.Proofs.Ytfpnadmpmfcaaaa.rdF rs.length (Go.Proofs.Ytfpnadmpmfcaaaa.wF rs)))))))]) ([some (Ob.cells 25 [SV.dt (Dt.arr ((3 : Nat)) ((Go.Proofs.Ytfpnadmpmfcaaaa.rdF (Go.Proofs.Ytfpnadmpmfcaaaa.rdF (Go.Proofs.Ytfpnadmpmfcaaaa.rdF l.length (Go.Proofs.Ytfpnadmpmfcaaaa.wF l)).length (Go.Proofs.Ytfpnadmpmfcaaaa.wF (Go.Proofs.Ytfpnadmpmfcaaaa.rdF l.length (Go.Proofs.Ytfpnadmpmfcaaaa.wF l)))).length (Go.Proofs.Ytfpnadmpmfcaaaa.wF (Go.Proofs.Ytfpnadmpmfcaaaa.rdF (Go.Proofs.Ytfpnadmpmfcaaaa.rdF l.length (Go.Proofs.Ytfpnadmpmfcaaaa.wF l)).length (Go.Proofs.Ytfpnadmpmfcaaaa.wF (Go.Proofs.Ytfpnadmpmfcaaaa.rdF l.length (Go.Proofs.Ytfpnadmpmfcaaaa.wF l)))))).length) (Go.Proofs.Ytfpnadmpmfcaaaa.wF (Go.Proofs.Ytfpnadmpmfcaaaa.rdF (Go.Proofs.Ytfpnadmpmfcaaaa.rdF (Go.Proofs.Ytfpnadmpmfcaaaa.rdF l.length (Go.Proofs.Ytfpnadmpmfcaaaa.wF l)).length (Go.Proofs.Ytfpnadmpmfcaaaa.wF (Go.Proofs.Ytfpnadmpmfcaaaa.rdF l.length (Go.Proofs.Ytfpnadmpmfcaaaa.wF l)))).length (Go.Proofs.Ytfpnadmpmfcaaaa.wF (Go.Proofs.Ytfpnadmpmfcaaaa.rdF (Go.Proofs.Ytfpnadmpmfcaaaa.rdF l.length (Go.Proofs.Ytfpnadmpmfcaaaa.wF l)).length (Go.Proofs.Ytfpnadmpmfcaaaa.wF (Go.Proofs.Ytfpnadmpmfcaaaa.rdF l.length (Go.Proofs.Ytfpnadmpmfcaaaa.wF l)))))))), SV.dt (Dt.cell (Go.Value.int Go.IntKind.i64 lim))]), some (Ob.cells 25 [SV.junk, SV.junk]), some (Ob.cells 67 [SV.dt (Dt.arr ((3 : Nat)) ((Go.Proofs.Ytfpnadmpmfcaaaa.rdF (Go.Proofs.Ytfpnadmpmfcaaaa.rdF (Go.Proofs.Ytfpnadmpmfcaaaa.rdF l.length (Go.Proofs.Ytfpnadmpmfcaaaa.wF l)).length (Go.Proofs.Ytfpnadmpmfcaaaa.wF (Go.Proofs.Ytfpnadmpmfcaaaa.rdF l.length (Go.Proofs.Ytfpnadmpmfcaaaa.wF l)))).length (Go.Proofs.Ytfpnadmpmfcaaaa.wF (Go.Proofs.Ytfpnadmpmfcaaaa.rdF (Go.Proofs.Ytfpnadmpmfcaaaa.rdF l.length (Go.Proofs.Ytfpnadmpmfcaaaa.wF l)).length (Go.Proofs.Ytfpnadmpmfcaaaa.wF (Go.Proofs.Ytfpnadmpmfcaaaa.rdF l.length (Go.Proofs.Ytfpnadmpmfcaaaa.wF l)))))).length) (Go.Proofs.Ytfpnadmpmfcaaaa.wF (Go.Proofs.Ytfpnadmpmfcaaaa.rdF (Go.Proofs.Ytfpnadmpmfcaaaa.rdF (Go.Proofs.Ytfpnadmpmfcaaaa.rdF l.length (Go.Proofs.Ytfpnadmpmfcaaaa.wF l)).length (Go.Proofs.Ytfpnadmpmfcaaaa.wF (Go.Proofs.Ytfpnadmpmfcaaaa.rdF l.length (Go.Proofs.Ytfpnadmpmfcaaaa.wF l)))).length (Go.Proofs.Ytfpnadmpmfcaaaa.wF (Go.Proofs.Ytfpnadmpmfcaaaa.rdF (Go.Proofs.Ytfpnadmpmfcaaaa.rdF l.length (Go.Proofs.Ytfpnadmpmfcaaaa.wF l)).length (Go.Proofs.Ytfpnadmpmfcaaaa.wF (Go.Proofs.Ytfpnadmpmfcaaaa.rdF l.length (Go.Proofs.Ytfpnadmpmfcaaaa.wF l)))))))), SV.nm 3, SV.nm 4]), some (Ob.row 30 3 ((Go.Proofs.Ytfpnadmpmfcaaaa.cook (Go.Proofs.Ytfpnadmpmfcaaaa.rdF (Go.Proofs.Ytfpnadmpmfcaaaa.rdF (Go.Proofs.Ytfpnadmpmfcaaaa.rdF l.length (Go.Proofs.Ytfpnadmpmfcaaaa.wF l)).length (Go.Proofs.Ytfpnadmpmfcaaaa.wF (Go.Proofs.Ytfpnadmpmfcaaaa.rdF l.length (Go.Proofs.Ytfpnadmpmfcaaaa.wF l)))).length (Go.Proofs.Ytfpnadmpmfcaaaa.wF (Go.Proofs.Ytfpnadmpmfcaaaa.rdF (Go.Proofs.Ytfpnadmpmfcaaaa.rdF l.length (Go.Proofs.Ytfpnadmpmfcaaaa.wF l)).length (Go.Proofs.Ytfpnadmpmfcaaaa.wF (Go.Proofs.Ytfpnadmpmfcaaaa.rdF l.length (Go.Proofs.Ytfpnadmpmfcaaaa.wF l)))))) (Go.Proofs.Ytfpnadmpmfcaaaa.rdKs (Go.Proofs.Ytfpnadmpmfcaaaa.mpF (Go.Proofs.Ytfpnadmpmfcaaaa.rdF (Go.Proofs.Ytfpnadmpmfcaaaa.rdF l.length (Go.Proofs.Ytfpnadmpmfcaaaa.wF l)).length (Go.Proofs.Ytfpnadmpmfcaaaa.wF (Go.Proofs.Ytfpnadmpmfcaaaa.rdF l.length (Go.Proofs.Ytfpnadmpmfcaaaa.wF l)))) (Go.Proofs.Ytfpnadmpmfcaaaa.rootK (Go.Proofs.Ytfpnadmpmfcaaaa.rdF (Go.Proofs.Ytfpnadmpmfcaaaa.rdF l.length (Go.Proofs.Ytfpnadmpmfcaaaa.wF l)).length (Go.Proofs.Ytfpnadmpmfcaaaa.wF (Go.Proofs.Ytfpnadmpmfcaaaa.rdF l.length (Go.Proofs.Ytfpnadmpmfcaaaa.wF l)))) (Go.Proofs.Ytfpnadmpmfcaaaa.rdF (Go.Proofs.Ytfpnadmpmfcaaaa.rdF rs.length (Go.Proofs.Ytfpnadmpmfcaaaa.wF rs)).length (Go.Proofs.Ytfpnadmpmfcaaaa.wF (Go.Proofs.Ytfpnadmpmfcaaaa.rdF rs.length (Go.Proofs.Ytfpnadmpmfcaaaa.wF rs))))) (0 : Nat))) (0 : Nat)).length) (Go.Proofs.Ytfpnadmpmfcaaaa.wF (Go.Proofs.Ytfpnadmpmfcaaaa.cook (Go.Proofs.Ytfpnadmpmfcaaaa.rdF (Go.Proofs.Ytfpnadmpmfcaaaa.rdF (Go.Proofs.Ytfpnadmpmfcaaaa.rdF l.length (Go.Proofs.Ytfpnadmpmfcaaaa.wF l)).length (Go.Proofs.Ytfpnadmpmfcaaaa.wF (Go.Proofs.Ytfpnadmpmfcaaaa.rdF l.length (Go.Proofs.Ytfpnadmpmfcaaaa.wF l)))).length (Go.Proofs.Ytfpnadmpmfcaaaa.wF (Go.Proofs.Ytfpnadmpmfcaaaa.rdF (Go.Proofs.Ytfpnadmpmfcaaaa.rdF l.length (Go.Proofs.Ytfpnadmpmfcaaaa.wF l)).length (Go.Proofs.Ytfpnadmpmfcaaaa.wF (Go.Proofs.Ytfpnadmpmfcaaaa.rdF l.length (Go.Proofs.Ytfpnadmpmfcaaaa.wF l)))))) (Go.Proofs.Ytfpnadmpmfcaaaa.rdKs (Go.Proofs.Ytfpnadmpmfcaaaa.mpF (Go.Proofs.Ytfpnadmpmfcaaaa.rdF (Go.Proofs.Ytfpnadmpmfcaaaa.rdF l.length (Go.Proofs.Ytfpnadmpmfcaaaa.wF l)).length (Go.Proofs.Ytfpnadmpmfcaaaa.wF (Go.Proofs.Ytfpnadmpmfcaaaa.rdF l.length (Go.Proofs.Ytfpnadmpmfcaaaa.wF l)))) (Go.Proofs.Ytfpnadmpmfcaaaa.rootK (Go.Proofs.Ytfpnadmpmfcaaaa.rdF (Go.Proofs.Ytfpnadmpmfcaaaa.rdF l.length (Go.Proofs.Ytfpnadmpmfcaaaa.wF l)).length (Go.Proofs.Ytfpnadmpmfcaaaa.wF (Go.Proofs.Ytfpnadmpmfcaaaa.rdF l.length (Go.Proofs.Ytfpnadmpmfcaaaa.wF l)))) (Go.Proofs.Ytfpnadmpmfcaaaa.rdF (Go.Proofs.Ytfpnadmpmfcaaaa.rdF rs.length (Go.Proofs.Ytfpnadmpmfcaaaa.wF rs)).length (Go.Proofs.Ytfpnadmpmfcaaaa.wF (Go.Proofs.Ytfpnadmpmfcaaaa.rdF rs.length (Go.Proofs.Ytfpnadmpmfcaaaa.wF rs))))) (0 : Nat))) (0 : Nat)))), some (Ob.mp (Rx.Ty.int Go.IntKind.i64) (Rx.Ty.int Go.IntKind.i64) (Go.Proofs.Ytfpnadmpmfcaaaa.mpF (Go.Proofs.Ytfpnadmpmfcaaaa.rdF (Go.Proofs.Ytfpnadmpmfcaaaa.rdF (Go.Proofs.Ytfpnadmpmfcaaaa.rdF l.length (Go.Proofs.Ytfpnadmpmfcaaaa.wF l)).length (Go.Proofs.Ytfpnadmpmfcaaaa.wF (Go.Proofs.Ytfpnadmpmfcaaaa.rdF l.length (Go.Proofs.Ytfpnadmpmfcaaaa.wF l)))).length (Go.Proofs.Ytfpnadmpmfcaaaa.wF (Go.Proofs.Ytfpnadmpmfcaaaa.rdF (Go.Proofs.Ytfpnadmpmfcaaaa.rdF l.length (Go.Proofs.Ytfpnadmpmfcaaaa.wF l)).length (Go.Proofs.Ytfpnadmpmfcaaaa.wF (Go.Proofs.Ytfpnadmpmfcaaaa.rdF l.length (Go.Proofs.Ytfpnadmpmfcaaaa.wF l)))))) (Go.Proofs.Ytfpnadmpmfcaaaa.rdKs (Go.Proofs.Ytfpnadmpmfcaaaa.mpF (Go.Proofs.Ytfpnadmpmfcaaaa.rdF (Go.Proofs.Ytfpnadmpmfcaaaa.rdF l.length (Go.Proofs.Ytfpnadmpmfcaaaa.wF l)).length (Go.Proofs.Ytfpnadmpmfcaaaa.wF (Go.Proofs.Ytfpnadmpmfcaaaa.rdF l.length (Go.Proofs.Ytfpnadmpmfcaaaa.wF l)))) (Go.Proofs.Ytfpnadmpmfcaaaa.rootK (Go.Proofs.Ytfpnadmpmfcaaaa.rdF (Go.Proofs.Ytfpnadmpmfcaaaa.rdF l.length (Go.Proofs.Ytfpnadmpmfcaaaa.wF l)).length (Go.Proofs.Ytfpnadmpmfcaaaa.wF (Go.Proofs.Ytfpnadmpmfcaaaa.rdF l.length (Go.Proofs.Ytfpnadmpmfcaaaa.wF l)))) (Go.Proofs.Ytfpnadmpmfcaaaa.rdF (Go.Proofs.Ytfpnadmpmfcaaaa.rdF rs.length (Go.Proofs.Ytfpnadmpmfcaaaa.wF rs)).length (Go.Proofs.Ytfpnadmpmfcaaaa.wF (Go.Proofs.Ytfpnadmpmfcaaaa.rdF rs.length (Go.Proofs.Ytfpnadmpmfcaaaa.wF rs))))) (0 : Nat))) (0 : Nat))), some (Ob.row 30 3 ((Go.Proofs.Ytfpnadmpmfcaaaa.rdF (List.map (Go.Proofs.Ytfpnadmpmfcaaaa.imgW (Go.Proofs.Ytfpnadmpmfcaaaa.rdF (Go.Proofs.Ytfpnadmpmfcaaaa.rdF l.length (Go.Proofs.Ytfpnadmpmfcaaaa.wF l)).length (Go.Proofs.Ytfpnadmpmfcaaaa.wF (Go.Proofs.Ytfpnadmpmfcaaaa.rdF l.length (Go.Proofs.Ytfpnadmpmfcaaaa.wF l)))) (Go.Proofs.Ytfpnadmpmfcaaaa.rootK (Go.Proofs.Ytfpnadmpmfcaaaa.rdF (Go.Proofs.Ytfpnadmpmfcaaaa.rdF l.length (Go.Proofs.Ytfpnadmpmfcaaaa.wF l)).length (Go.Proofs.Ytfpnadmpmfcaaaa.wF (Go.Proofs.Ytfpnadmpmfcaaaa.rdF l.length (Go.Proofs.Ytfpnadmpmfcaaaa.wF l)))) (Go.Proofs.Ytfpnadmpmfcaaaa.rdF (Go.Proofs.Ytfpnadmpmfcaaaa.rdF rs.length (Go.Proofs.Ytfpnadmpmfcaaaa.wF rs)).length (Go.Proofs.Ytfpnadmpmfcaaaa.wF (Go.Proofs.Ytfpnadmpmfcaaaa.rdF rs.length (Go.Proofs.Ytfpnadmpmfcaaaa.wF rs)))))) (Go.Proofs.Ytfpnadmpmfcaaaa.rdF (Go.Proofs.Ytfpnadmpmfcaaaa.rdF rs.length (Go.Proofs.Ytfpnadmpmfcaaaa.wF rs)).length (Go.Proofs.Ytfpnadmpmfcaaaa.wF (Go.Proofs.Ytfpnadmpmfcaaaa.rdF rs.length (Go.Proofs.Ytfpnadmpmfcaaaa.wF rs))))).length (Go.Proofs.Ytfpnadmpmfcaaaa.wF (List.map (Go.Proofs.Ytfpnadmpmfcaaaa.imgW (Go.Proofs.Ytfpnadmpmfcaaaa.rdF (Go.Proofs.Ytfpnadmpmfcaaaa.rdF l.length (Go.Proofs.Ytfpnadmpmfcaaaa.wF l)).length (Go.Proofs.Ytfpnadmpmfcaaaa.wF (Go.Proofs.Ytfpnadmpmfcaaaa.rdF l.length (Go.Proofs.Ytfpnadmpmfcaaaa.wF l)))) (Go.Proofs.Ytfpnadmpmfcaaaa.rootK (Go.Proofs.Ytfpnadmpmfcaaaa.rdF (Go.Proofs.Ytfpnadmpmfcaaaa.rdF l.length (Go.Proofs.Ytfpnadmpmfcaaaa.wF l)).length (Go.Proofs.Ytfpnadmpmfcaaaa.wF (Go.Proofs.Ytfpnadmpmfcaaaa.rdF l.length (Go.Proofs.Ytfpnadmpmfcaaaa.wF l)))) (Go.Proofs.Ytfpnadmpmfcaaaa.rdF (Go.Proofs.Ytfpnadmpmfcaaaa.rdF rs.length (Go.Proofs.Ytfpnadmpmfcaaaa.wF rs)).length (Go.Proofs.Ytfpnadmpmfcaaaa.wF (Go.Proofs.Ytfpnadmpmfcaaaa.rdF rs.length (Go.Proofs.Ytfpnadmpmfcaaaa.wF rs)))))) (Go.Proofs.Ytfpnadmpmfcaaaa.rdF (Go.Proofs.Ytfpnadmpmfcaaaa.rdF rs.length (Go.Proofs.Ytfpnadmpmfcaaaa.wF rs)).length (Go.Proofs.Ytfpnadmpmfcaaaa.wF (Go.Proofs.Ytfpnadmpmfcaaaa.rdF rs.length (Go.Proofs.Ytfpnadmpmfcaaaa.wF rs))))))).length) (Go.Proofs.Ytfpnadmpmfcaaaa.wF (Go.Proofs.Ytfpnadmpmfcaaaa.rdF (List.map (Go.Proofs.Ytfpnadmpmfcaaaa.imgW (Go.Proofs.Ytfpnadmpmfcaaaa.rdF (Go.Proofs.Ytfpnadmpmfcaaaa.rdF l.length (Go.Proofs.Ytfpnadmpmfcaaaa.wF l)).length (Go.Proofs.Ytfpnadmpmfcaaaa.wF (Go.Proofs.Ytfpnadmpmfcaaaa.rdF l.length (Go.Proofs.Ytfpnadmpmfcaaaa.wF l)))) (Go.Proofs.Ytfpnadmpmfcaaaa.rootK (Go.Proofs.Ytfpnadmpmfcaaaa.rdF (Go.Proofs.Ytfpnadmpmfcaaaa.rdF l.length (Go.Proofs.Ytfpnadmpmfcaaaa.wF l)).length (Go.Proofs.Ytfpnadmpmfcaaaa.wF (Go.Proofs.Ytfpnadmpmfcaaaa.rdF l.length (Go.Proofs.Ytfpnadmpmfcaaaa.wF l)))) (Go.Proofs.Ytfpnadmpmfcaaaa.rdF (Go.Proofs.Ytfpnadmpmfcaaaa.rdF rs.length (Go.Proofs.Ytfpnadmpmfcaaaa.wF rs)).length (Go.Proofs.Ytfpnadmpmfcaaaa.wF (Go.Proofs.Ytfpnadmpmfcaaaa.rdF rs.length (Go.Proofs.Ytfpnadmpmfcaaaa.wF rs)))))) (Go.Proofs.Ytfpnadmpmfcaaaa.rdF (Go.Proofs.Ytfpnadmpmfcaaaa.rdF rs.length (Go.Proofs.Ytfpnadmpmfcaaaa.wF rs)).length (Go.Proofs.Ytfpnadmpmfcaaaa.wF (Go.Proofs.Ytfpnadmpmfcaaaa.rdF rs.length (Go.Proofs.Ytfpnadmpmfcaaaa.wF rs))))).length (Go.Proofs.Ytfpnadmpmfcaaaa.wF (List.map (Go.Proofs.Ytfpnadmpmfcaaaa.imgW (Go.Proofs.Ytfpnadmpmfcaaaa.rdF (Go.Proofs.Ytfpnadmpmfcaaaa.rdF l.length (Go.Proofs.Ytfpnadmpmfcaaaa.wF l)).length (Go.Proofs.Ytfpnadmpmfcaaaa.wF (Go.Proofs.Ytfpnadmpmfcaaaa.rdF l.length (Go.Proofs.Ytfpnadmpmfcaaaa.wF l)))) (Go.Proofs.Ytfpnadmpmfcaaaa.rootK (Go.Proofs.Ytfpnadmpmfcaaaa.rdF (Go.Proofs.Ytfpnadmpmfcaaaa.rdF l.length (Go.Proofs.Ytfpnadmpmfcaaaa.wF l)).length (Go.Proofs.Ytfpnadmpmfcaaaa.wF (Go.Proofs.Ytfpnadmpmfcaaaa.rdF l.length (Go.Proofs.Ytfpnadmpmfcaaaa.wF l)))) (Go.Proofs.Ytfpnadmpmfcaaaa.rdF (Go.Proofs.Ytfpnadmpmfcaaaa.rdF rs.length (Go.Proofs.Ytfpnadmpmfcaaaa.wF rs)).length (Go.Proofs.Ytfpnadmpmfcaaaa.wF (Go.Proofs.Ytfpnadmpmfcaaaa.rdF rs.length (Go.Proofs.Ytfpnadmpmfcaaaa.wF rs)))))) (Go.Proofs.Ytfpnadmpmfcaaaa.rdF (Go.Proofs.Ytfpnadmpmfcaaaa.rdF rs.length (Go.Proofs.Ytfpnadmpmfcaaaa.wF rs)).length (Go.Proofs.Ytfpnadmpmfcaaaa.wF (Go.Proofs.Ytfpnadmpmfcaaaa.rdF rs.length (Go.Proofs.Ytfpnadmpmfcaaaa.wF rs)))))))))])) ∧
                    ((Go.Proofs.Ytfpnadmpmfcaaaa.cdPre (Go.Proofs.Ytfpnadmpmfcaaaa.rdF (Go.Proofs.Ytfpnadmpmfcaaaa.rdF (Go.Proofs.Ytfpnadmpmfcaaaa.rdF l.length (Go.Proofs.Ytfpnadmpmfcaaaa.wF l)).length (Go.Proofs.Ytfpnadmpmfcaaaa.wF (Go.Proofs.Ytfpnadmpmfcaaaa.rdF l.length (Go.Proofs.Ytfpnadmpmfcaaaa.wF l)))).length (Go.Proofs.Ytfpnadmpmfcaaaa.wF (Go.Proofs.Ytfpnadmpmfcaaaa.rdF (Go.Proofs.Ytfpnadmpmfcaaaa.rdF l.length (Go.Proofs.Ytfpnadmpmfcaaaa.wF l)).length (Go.Proofs.Ytfpnadmpmfcaaaa.wF (Go.Proofs.Ytfpnadmpmfcaaaa.rdF l.length (Go.Proofs.Ytfpnadmpmfcaaaa.wF l)))))) lim (Go.Proofs.Ytfpnadmpmfcaaaa.CdI.mk (Go.Proofs.Ytfpnadmpmfcaaaa.rdKs (Go.Proofs.Ytfpnadmpmfcaaaa.mpF (Go.Proofs.Ytfpnadmpmfcaaaa.rdF (Go.Proofs.Ytfpnadmpmfcaaaa.rdF l.length (Go.Proofs.Ytfpnadmpmfcaaaa.wF l)).length (Go.Proofs.Ytfpnadmpmfcaaaa.wF (Go.Proofs.Ytfpnadmpmfcaaaa.rdF l.length (Go.Proofs.Ytfpnadmpmfcaaaa.wF l)))) (Go.Proofs.Ytfpnadmpmfcaaaa.rootK (Go.Proofs.Ytfpnadmpmfcaaaa.rdF (Go.Proofs.Ytfpnadmpmfcaaaa.rdF l.length (Go.Proofs.Ytfpnadmpmfcaaaa.wF l)).length (Go.Proofs.Ytfpnadmpmfcaaaa.wF (Go.Proofs.Ytfpnadmpmfcaaaa.rdF l.length (Go.Proofs.Ytfpnadmpmfcaaaa.wF l)))) (Go.Proofs.Ytfpnadmpmfcaaaa.rdF (Go.Proofs.Ytfpnadmpmfcaaaa.rdF rs.length (Go.Proofs.Ytfpnadmpmfcaaaa.wF rs)).length (Go.Proofs.Ytfpnadmpmfcaaaa.wF (Go.Proofs.Ytfpnadmpmfcaaaa.rdF rs.length (Go.Proofs.Ytfpnadmpmfcaaaa.wF rs))))) (0 : Nat))) (0 : Nat))) ∧
                     (True ∧
                      R (SV.tup [SV.agg [SV.dt (Dt.arr ((3 : Nat)) ((Go.Proofs.Ytfpnadmpmfcaaaa.cook (Go.Proofs.Ytfpnadmpmfcaaaa.rdF (Go.Proofs.Ytfpnadmpmfcaaaa.rdF (Go.Proofs.Ytfpnadmpmfcaaaa.rdF l.length (Go.Proofs.Ytfpnadmpmfcaaaa.wF l)).length (Go.Proofs.Ytfpnadmpmfcaaaa.wF (Go.Proofs.Ytfpnadmpmfcaaaa.rdF l.length (Go.Proofs.Ytfpnadmpmfcaaaa.wF l)))).length (Go.Proofs.Ytfpnadmpmfcaaaa.wF (Go.Proofs.Ytfpnadmpmfcaaaa.rdF (Go.Proofs.Ytfpnadmpmfcaaaa.rdF l.length (Go.Proofs.Ytfpnadmpmfcaaaa.wF l)).length (Go.Proofs.Ytfpnadmpmfcaaaa.wF (Go.Proofs.Ytfpnadmpmfcaaaa.rdF l.length (Go.Proofs.Ytfpnadmpmfcaaaa.wF l)))))) (Go.Proofs.Ytfpnadmpmfcaaaa.runS (Go.Proofs.Ytfpnadmpmfcaaaa.rdF (Go.Proofs.Ytfpnadmpmfcaaaa.rdF (Go.Proofs.Ytfpnadmpmfcaaaa.rdF l.length (Go.Proofs.Ytfpnadmpmfcaaaa.wF l)).length (Go.Proofs.Ytfpnadmpmfcaaaa.wF (Go.Proofs.Ytfpnadmpmfcaaaa.rdF l.length (Go.Proofs.Ytfpnadmpmfcaaaa.wF l)))).length (Go.Proofs.Ytfpnadmpmfcaaaa.wF (Go.Proofs.Ytfpnadmpmfcaaaa.rdF (Go.Proofs.Ytfpnadmpmfcaaaa.rdF l.length (Go.Proofs.Ytfpnadmpmfcaaaa.wF l)).length (Go.Proofs.Ytfpnadmpmfcaaaa.wF (Go.Proofs.Ytfpnadmpmfcaaaa.rdF l.length (Go.Proofs.Ytfpnadmpmfcaaaa.wF l)))))) (Go.Proofs.Ytfpnadmpmfcaaaa.rdKs (Go.Proofs.Ytfpnadmpmfcaaaa.mpF (Go.Proofs.Ytfpnadmpmfcaaaa.rdF (Go.Proofs.Ytfpnadmpmfcaaaa.rdF l.length (Go.Proofs.Ytfpnadmpmfcaaaa.wF l)).length (Go.Proofs.Ytfpnadmpmfcaaaa.wF (Go.Proofs.Ytfpnadmpmfcaaaa.rdF l.length (Go.Proofs.Ytfpnadmpmfcaaaa.wF l)))) (Go.Proofs.Ytfpnadmpmfcaaaa.rootK (Go.Proofs.Ytfpnadmpmfcaaaa.rdF (Go.Proofs.Ytfpnadmpmfcaaaa.rdF l.length (Go.Proofs.Ytfpnadmpmfcaaaa.wF l)).length (Go.Proofs.Ytfpnadmpmfcaaaa.wF (Go.Proofs.Ytfpnadmpmfcaaaa.rdF l.length (Go.Proofs.Ytfpnadmpmfcaaaa.wF l)))) (Go.Proofs.Ytfpnadmpmfcaaaa.rdF (Go.Proofs.Ytfpnadmpmfcaaaa.rdF rs.length (Go.Proofs.Ytfpnadmpmfcaaaa.wF rs)).length (Go.Proofs.Ytfpnadmpmfcaaaa.wF (Go.Proofs.Ytfpnadmpmfcaaaa.rdF rs.length (Go.Proofs.Ytfpnadmpmfcaaaa.wF rs))))) (0 : Nat))) (Go.Proofs.Ytfpnadmpmfcaaaa.cdA (Go.Proofs.Ytfpnadmpmfcaaaa.rdF (Go.Proofs.Ytfpnadmpmfcaaaa.rdF (Go.Proofs.Ytfpnadmpmfcaaaa.rdF l.length (Go.Proofs.Ytfpnadmpmfcaaaa.wF l)).length (Go.Proofs.Ytfpnadmpmfcaaaa.wF (Go.Proofs.Ytfpnadmpmfcaaaa.rdF l.length (Go.Proofs.Ytfpnadmpmfcaaaa.wF l)))).length (Go.Proofs.Ytfpnadmpmfcaaaa.wF (Go.Proofs.Ytfpnadmpmfcaaaa.rdF (Go.Proofs.Ytfpnadmpmfcaaaa.rdF l.length (Go.Proofs.Ytfpnadmpmfcaaaa.wF l)).length (Go.Proofs.Ytfpnadmpmfcaaaa.wF (Go.Proofs.Ytfpnadmpmfcaaaa.rdF l.length (Go.Proofs.Ytfpnadmpmfcaaaa.wF l)))))) (Go.Proofs.Ytfpnadmpmfcaaaa.CdI.mk (Go.Proofs.Ytfpnadmpmfcaaaa.rdKs (Go.Proofs.Ytfpnadmpmfcaaaa.mpF (Go.Proofs.Ytfpnadmpmfcaaaa.rdF (Go.Proofs.Ytfpnadmpmfcaaaa.rdF l.length (Go.Proofs.Ytfpnadmpmfcaaaa.wF l)).length (Go.Proofs.Ytfpnadmpmfcaaaa.wF (Go.Proofs.Ytfpnadmpmfcaaaa.rdF l.length (Go.Proofs.Ytfpnadmpmfcaaaa.wF l)))) (Go.Proofs.Ytfpnadmpmfcaaaa.rootK (Go.Proofs.Ytfpnadmpmfcaaaa.rdF (Go.Proofs.Ytfpnadmpmfcaaaa.rdF l.length (Go.Proofs.Ytfpnadmpmfcaaaa.wF l)).length (Go.Proofs.Ytfpnadmpmfcaaaa.wF (Go.Proofs.Ytfpnadmpmfcaaaa.rdF l.length (Go.Proofs.Ytfpnadmpmfcaaaa.wF l)))) (Go.Proofs.Ytfpnadmpmfcaaaa.rdF (Go.Proofs.Ytfpnadmpmfcaaaa.rdF rs.length (Go.Proofs.Ytfpnadmpmfcaaaa.wF rs)).length (Go.Proofs.Ytfpnadmpmfcaaaa.wF (Go.Proofs.Ytfpnadmpmfcaaaa.rdF rs.length (Go.Proofs.Ytfpnadmpmfcaaaa.wF rs))))) (0 : Nat))) (0 : Nat)))) (Go.Proofs.Ytfpnadmpmfcaaaa.rawTo (Go.Proofs.Ytfpnadmpmfcaaaa.rdF (Go.Proofs.Ytfpnadmpmfcaaaa.rdF (Go.Proofs.Ytfpnadmpmfcaaaa.rdF l.length (Go.Proofs.Ytfpnadmpmfcaaaa.wF l)).length (Go.Proofs.Ytfpnadmpmfcaaaa.wF (Go.Proofs.Ytfpnadmpmfcaaaa.rdF l.length (Go.Proofs.Ytfpnadmpmfcaaaa.wF l)))).length (Go.Proofs.Ytfpnadmpmfcaaaa.wF (Go.Proofs.Ytfpnadmpmfcaaaa.rdF (Go.Proofs.Ytfpnadmpmfcaaaa.rdF l.length (Go.Proofs.Ytfpnadmpmfcaaaa.wF l)).length (Go.Proofs.Ytfpnadmpmfcaaaa.wF (Go.Proofs.Ytfpnadmpmfcaaaa.rdF l.length (Go.Proofs.Ytfpnadmpmfcaaaa.wF l)))))) (Go.Proofs.Ytfpnadmpmfcaaaa.runS (Go.Proofs.Ytfpnadmpmfcaaaa.rdF (Go.Proofs.Ytfpnadmpmfcaaaa.rdF (Go.Proofs.Ytfpnadmpmfcaaaa.rdF l.length (Go.Proofs.Ytfpnadmpmfcaaaa.wF l)).length (Go.Proofs.Ytfpnadmpmfcaaaa.wF (Go.Proofs.Ytfpnadmpmfcaaaa.rdF l.length (Go.Proofs.Ytfpnadmpmfcaaaa.wF l)))).length (Go.Proofs.Ytfpnadmpmfcaaaa.wF (Go.Proofs.Ytfpnadmpmfcaaaa.rdF (Go.Proofs.Ytfpnadmpmfcaaaa.rdF l.length (Go.Proofs.Ytfpnadmpmfcaaaa.wF l)).length (Go.Proofs.Ytfpnadmpmfcaaaa.wF (Go.Proofs.Ytfpnadmpmfcaaaa.rdF l.length (Go.Proofs.Ytfpnadmpmfcaaaa.wF l)))))) (Go.Proofs.Ytfpnadmpmfcaaaa.rdKs (Go.Proofs.Ytfpnadmpmfcaaaa.mpF (Go.Proofs.Ytfpnadmpmfcaaaa.rdF (Go.Proofs.Ytfpnadmpmfcaaaa.rdF l.length (Go.Proofs.Ytfpnadmpmfcaaaa.wF l)).length (Go.Proofs.Ytfpnadmpmfcaaaa.wF (Go.Proofs.Ytfpnadmpmfcaaaa.rdF l.length (Go.Proofs.Ytfpnadmpmfcaaaa.wF l)))) (Go.Proofs.Ytfpnadmpmfcaaaa.rootK (Go.Proofs.Ytfpnadmpmfcaaaa.rdF (Go.Proofs.Ytfpnadmpmfcaaaa.rdF l.length (Go.Proofs.Ytfpnadmpmfcaaaa.wF l)).length (Go.Proofs.Ytfpnadmpmfcaaaa.wF (Go.Proofs.Ytfpnadmpmfcaaaa.rdF l.length (Go.Proofs.Ytfpnadmpmfcaaaa.wF l)))) (Go.Proofs.Ytfpnadmpmfcaaaa.rdF (Go.Proofs.Ytfpnadmpmfcaaaa.rdF rs.length (Go.Proofs.Ytfpnadmpmfcaaaa.wF rs)).length (Go.Proofs.Ytfpnadmpmfcaaaa.wF (Go.Proofs.Ytfpnadmpmfcaaaa.rdF rs.length (Go.Proofs.Ytfpnadmpmfcaaaa.wF rs))))) (0 : Nat))) (Go.Proofs.Ytfpnadmpmfcaaaa.cdA (Go.Proofs.Ytfpnadmpmfcaaaa.rdF (Go.Proofs.Ytfpnadmpmfcaaaa.rdF (Go.Proofs.Ytfpnadmpmfcaaaa.rdF l.length (Go.Proofs.Ytfpnadmpmfcaaaa.wF l)).length (Go.Proofs.Ytfpnadmpmfcaaaa.wF (Go.Proofs.Ytfpnadmpmfcaaaa.rdF l.length (Go.Proofs.Ytfpnadmpmfcaaaa.wF l)))).length (Go.Proofs.Ytfpnadmpmfcaaaa.wF (Go.Proofs.Ytfpnadmpmfcaaaa.rdF (Go.Proofs.Ytfpnadmpmfcaaaa.rdF l.length (Go.Proofs.Ytfpnadmpmfcaaaa.wF l)).length (Go.Proofs.Ytfpnadmpmfcaaaa.wF (Go.Proofs.Ytfpnadmpmfcaaaa.rdF l.length (Go.Proofs.Ytfpnadmpmfcaaaa.wF l)))))) (Go.Proofs.Ytfpnadmpmfcaaaa.CdI.mk (Go.Proofs.Ytfpnadmpmfcaaaa.rdKs (Go.Proofs.Ytfpnadmpmfcaaaa.mpF (Go.Proofs.Ytfpnadmpmfcaaaa.rdF (Go.Proofs.Ytfpnadmpmfcaaaa.rdF l.length (Go.Proofs.Ytfpnadmpmfcaaaa.wF l)).length (Go.Proofs.Ytfpnadmpmfcaaaa.wF (Go.Proofs.Ytfpnadmpmfcaaaa.rdF l.length (Go.Proofs.Ytfpnadmpmfcaaaa.wF l)))) (Go.Proofs.Ytfpnadmpmfcaaaa.rootK (Go.Proofs.Ytfpnadmpmfcaaaa.rdF (Go.Proofs.Ytfpnadmpmfcaaaa.rdF l.length (Go.Proofs.Ytfpnadmpmfcaaaa.wF l)).length (Go.Proofs.Ytfpnadmpmfcaaaa.wF (Go.Proofs.Ytfpnadmpmfcaaaa.rdF l.length (Go.Proofs.Ytfpnadmpmfcaaaa.wF l)))) (Go.Proofs.Ytfpnadmpmfcaaaa.rdF (Go.Proofs.Ytfpnadmpmfcaaaa.rdF rs.length (Go.Proofs.Ytfpnadmpmfcaaaa.wF rs)).length (Go.Proofs.Ytfpnadmpmfcaaaa.wF (Go.Proofs.Ytfpnadmpmfcaaaa.rdF rs.length (Go.Proofs.Ytfpnadmpmfcaaaa.wF rs))))) (0 : Nat))) (0 : Nat))))).length).length) (Go.Proofs.Ytfpnadmpmfcaaaa.wF (Go.Proofs.Ytfpnadmpmfcaaaa.cook (Go.Proofs.Ytfpnadmpmfcaaaa.rdF (Go.Proofs.Ytfpnadmpmfcaaaa.rdF (Go.Proofs.Ytfpnadmpmfcaaaa.rdF l.length (Go.Proofs.Ytfpnadmpmfcaaaa.wF l)).length (Go.Proofs.Ytfpnadmpmfcaaaa.wF (Go.Proofs.Ytfpnadmpmfcaaaa.rdF l.length (Go.Proofs.Ytfpnadmpmfcaaaa.wF l)))).length (Go.Proofs.Ytfpnadmpmfcaaaa.wF (Go.Proofs.Ytfpnadmpmfcaaaa.rdF (Go.Proofs.Ytfpnadmpmfcaaaa.rdF l.length (Go.Proofs.Ytfpnadmpmfcaaaa.wF l)).length (Go.Proofs.Ytfpnadmpmfcaaaa.wF (Go.Proofs.Ytfpnadmpmfcaaaa.rdF l.length (Go.Proofs.Ytfpnadmpmfcaaaa.wF l)))))) (Go.Proofs.Ytfpnadmpmfcaaaa.runS (Go.Proofs.Ytfpnadmpmfcaaaa.rdF (Go.Proofs.Ytfpnadmpmfcaaaa.rdF (Go.Proofs.Ytfpnadmpmfcaaaa.rdF l.length (Go.Proofs.Ytfpnadmpmfcaaaa.wF l)).length (Go.Proofs.Ytfpnadmpmfcaaaa.wF (Go.Proofs.Ytfpnadmpmfcaaaa.rdF l.length (Go.Proofs.Ytfpnadmpmfcaaaa.wF l)))).length (Go.Proofs.Ytfpnadmpmfcaaaa.wF (Go.Proofs.Ytfpnadmpmfcaaaa.rdF (Go.Proofs.Ytfpnadmpmfcaaaa.rdF l.length (Go.Proofs.Ytfpnadmpmfcaaaa.wF l)).length (Go.Proofs.Ytfpnadmpmfcaaaa.wF (Go.Proofs.Ytfpnadmpmfcaaaa.rdF l.length (Go.Proofs.Ytfpnadmpmfcaaaa.wF l)))))) (Go.Proofs.Ytfpnadmpmfcaaaa.rdKs (Go.Proofs.Ytfpnadmpmfcaaaa.mpF (Go.Proofs.Ytfpnadmpmfcaaaa.rdF (Go.Proofs.Ytfpnadmpmfcaaaa.rdF l.length (Go.Proofs.Ytfpnadmpmfcaaaa.wF l)).length (Go.Proofs.Ytfpnadmpmfcaaaa.wF (Go.Proofs.Ytfpnadmpmfcaaaa.rdF l.length (Go.Proofs.Ytfpnadmpmfcaaaa.wF l)))) (Go.Proofs.Ytfpnadmpmfcaaaa.rootK (Go.Proofs.Ytfpnadmpmfcaaaa.rdF (Go.Proofs.Ytfpnadmpmfcaaaa.rdF l.length (Go.Proofs.Ytfpnadmpmfcaaaa.wF l)).length (Go.Proofs.Ytfpnadmpmfcaaaa.wF (Go.Proofs.Ytfpnadmpmfcaaaa.rdF l.length (Go.Proofs.Ytfpnadmpmfcaaaa.wF l)))) (Go.Proofs.Ytfpnadmpmfcaaaa.rdF (Go.Proofs.Ytfpnadmpmfcaaaa.rdF rs.length (Go.Proofs.Ytfpnadmpmfcaaaa.wF rs)).length (Go.Proofs.Ytfpnadmpmfcaaaa.wF (Go.Proofs.Ytfpnadmpmfcaaaa.rdF rs.length (Go.Proofs.Ytfpnadmpmfcaaaa.wF rs))))) (0 : Nat))) (Go.Proofs.Ytfpnadmpmfcaaaa.cdA (Go.Proofs.Ytfpnadmpmfcaaaa.rdF (Go.Proofs.Ytfpnadmpmfcaaaa.rdF (Go.Proofs.Ytfpnadmpmfcaaaa.rdF l.length (Go.Proofs.Ytfpnadmpmfcaaaa.wF l)).length (Go.Proofs.Ytfpnadmpmfcaaaa.wF (Go.Proofs.Ytfpnadmpmfcaaaa.rdF l.length (Go.Proofs.Ytfpnadmpmfcaaaa.wF l)))).length (Go.Proofs.Ytfpnadmpmfcaaaa.wF (Go.Proofs.Ytfpnadmpmfcaaaa.rdF (Go.Proofs.Ytfpnadmpmfcaaaa.rdF l.length (Go.Proofs.Ytfpnadmpmfcaaaa.wF l)).length (Go.Proofs.Ytfpnadmpmfcaaaa.wF (Go.Proofs.Ytfpnadmpmfcaaaa.rdF l.length (Go.Proofs.Ytfpnadmpmfcaaaa.wF l)))))) (Go.Proofs.Ytfpnadmpmfcaaaa.CdI.mk (Go.Proofs.Ytfpnadmpmfcaaaa.rdKs (Go.Proofs.Ytfpnadmpmfcaaaa.mpF (Go.Proofs.Ytfpnadmpmfcaaaa.rdF (Go.Proofs.Ytfpnadmpmfcaaaa.rdF l.length (Go.Proofs.Ytfpnadmpmfcaaaa.wF l)).length (Go.Proofs.Ytfpnadmpmfcaaaa.wF (Go.Proofs.Ytfpnadmpmfcaaaa.rdF l.length (Go.Proofs.Ytfpnadmpmfcaaaa.wF l)))) (Go.Proofs.Ytfpnadmpmfcaaaa.rootK (Go.Proofs.Ytfpnadmpmfcaaaa.rdF (Go.Proofs.Ytfpnadmpmfcaaaa.rdF l.length (Go.Proofs.Ytfpnadmpmfcaaaa.wF l)).length (Go.Proofs.Ytfpnadmpmfcaaaa.wF (Go.Proofs.Ytfpnadmpmfcaaaa.rdF l.length (Go.Proofs.Ytfpnadmpmfcaaaa.wF l)))) (Go.Proofs.Ytfpnadmpmfcaaaa.rdF (Go.Proofs.Ytfpnadmpmfcaaaa.rdF rs.length (Go.Proofs.Ytfpnadmpmfcaaaa.wF rs)).length (Go.Proofs.Ytfpnadmpmfcaaaa.wF (Go.Proofs.Ytfpnadmpmfcaaaa.rdF rs.length (Go.Proofs.Ytfpnadmpmfcaaaa.wF rs))))) (0 : Nat))) (0 : Nat)))) (Go.Proofs.Ytfpnadmpmfcaaaa.rawTo (Go.Proofs.Ytfpnadmpmfcaaaa.rdF (Go.Proofs.Ytfpnadmpmfcaaaa.rdF (Go.Proofs.Ytfpnadmpmfcaaaa.rdF l.length (Go.Proofs.Ytfpnadmpmfcaaaa.wF l)).length (Go.Proofs.Ytfpnadmpmfcaaaa.wF (Go.Proofs.Ytfpnadmpmfcaaaa.rdF l.length (Go.Proofs.Ytfpnadmpmfcaaaa.wF l)))).length (Go.Proofs.Ytfpnadmpmfcaaaa.wF (Go.Proofs.Ytfpnadmpmfcaaaa.rdF (Go.Proofs.Ytfpnadmpmfcaaaa.rdF l.length (Go.Proofs.Ytfpnadmpmfcaaaa.wF l)).length (Go.Proofs.Ytfpnadmpmfcaaaa.wF (Go.Proofs.Ytfpnadmpmfcaaaa.rdF l.length (Go.Proofs.Ytfpnadmpmfcaaaa.wF l)))))) (Go.Proofs.Ytfpnadmpmfcaaaa.runS (Go.Proofs.Ytfpnadmpmfcaaaa.rdF (Go.Proofs.Ytfpnadmpmfcaaaa.rdF (Go.Proofs.Ytfpnadmpmfcaaaa.rdF l.length (Go.Proofs.Ytfpnadmpmfcaaaa.wF l)).length (Go.Proofs.Ytfpnadmpmfcaaaa.wF (Go.Proofs.Ytfpnadmpmfcaaaa.rdF l.length (Go.Proofs.Ytfpnadmpmfcaaaa.wF l)))).length (Go.Proofs.Ytfpnadmpmfcaaaa.wF (Go.Proofs.Ytfpnadmpmfcaaaa.rdF (Go.Proofs.Ytfpnadmpmfcaaaa.rdF l.length (Go.Proofs.Ytfpnadmpmfcaaaa.wF l)).length (Go.Proofs.Ytfpnadmpmfcaaaa.wF (Go.Proofs.Ytfpnadmpmfcaaaa.rdF l.length (Go.Proofs.Ytfpnadmpmfcaaaa.wF l)))))) (Go.Proofs.Ytfpnadmpmfcaaaa.rdKs (Go.Proofs.Ytfpnadmpmfcaaaa.mpF (Go.Proofs.Ytfpnadmpmfcaaaa.rdF (Go.Proofs.Ytfpnadmpmfcaaaa.rdF l.length (Go.Proofs.Ytfpnadmpmfcaaaa.wF l)).length (Go.Proofs.Ytfpnadmpmfcaaaa.wF (Go.Proofs.Ytfpnadmpmfcaaaa.rdF l.length (Go.Proofs.Ytfpnadmpmfcaaaa.wF l)))) (Go.Proofs.Ytfpnadmpmfcaaaa.rootK (Go.Proofs.Ytfpnadmpmfcaaaa.rdF (Go.Proofs.Ytfpnadmpmfcaaaa.rdF l.length (Go.Proofs.Ytfpnadmpmfcaaaa.wF l)).length (Go.Proofs.Ytfpnadmpmfcaaaa.wF (Go.Proofs.Ytfpnadmpmfcaaaa.rdF l.length (Go.Proofs.Ytfpnadmpmfcaaaa.wF l)))) (Go.Proofs.Ytfpnadmpmfcaaaa.rdF (Go.Proofs.Ytfpnadmpmfcaaaa.rdF rs.length (Go.Proofs.Ytfpnadmpmfcaaaa.wF rs)).length (Go.Proofs.Ytfpnadmpmfcaaaa.wF (Go.Proofs.Ytfpnadmpmfcaaaa.rdF rs.length (Go.Proofs.Ytfpnadmpmfcaaaa.wF rs))))) (0 : Nat))) (Go.Proofs.Ytfpnadmpmfcaaaa.cdA (Go.Proofs.Ytfpnadmpmfcaaaa.rdF (Go.Proofs.Ytfpnadmpmfcaaaa.rdF (Go.Proofs.Ytfpnadmpmfcaaaa.rdF l.length (Go.Proofs.Ytfpnadmpmfcaaaa.wF l)).length (Go.Proofs.Ytfpnadmpmfcaaaa.wF (Go.Proofs.Ytfpnadmpmfcaaaa.rdF l.length (Go.Proofs.Ytfpnadmpmfcaaaa.wF l)))).length (Go.Proofs.Ytfpnadmpmfcaaaa.wF (Go.Proofs.Ytfpnadmpmfcaaaa.rdF (Go.Proofs.Ytfpnadmpmfcaaaa.rdF l.length (Go.Proofs.Ytfpnadmpmfcaaaa.wF l)).length (Go.Proofs.Ytfpnadmpmfcaaaa.wF (Go.Proofs.Ytfpnadmpmfcaaaa.rdF l.length (Go.Proofs.Ytfpnadmpmfcaaaa.wF l)))))) (Go.Proofs.Ytfpnadmpmfcaaaa.CdI.mk (Go.Proofs.Ytfpnadmpmfcaaaa.rdKs (Go.Proofs.Ytfpnadmpmfcaaaa.mpF (Go.Proofs.Ytfpnadmpmfcaaaa.rdF (Go.Proofs.Ytfpnadmpmfcaaaa.rdF l.length (Go.Proofs.Ytfpnadmpmfcaaaa.wF l)).length (Go.Proofs.Ytfpnadmpmfcaaaa.wF (Go.Proofs.Ytfpnadmpmfcaaaa.rdF l.length (Go.Proofs.Ytfpnadmpmfcaaaa.wF l)))) (Go.Proofs.Ytfpnadmpmfcaaaa.rootK (Go.Proofs.Ytfpnadmpmfcaaaa.rdF (Go.Proofs.Ytfpnadmpmfcaaaa.rdF l.length (Go.Proofs.Ytfpnadmpmfcaaaa.wF l)).length (Go.Proofs.Ytfpnadmpmfcaaaa.wF (Go.Proofs.Ytfpnadmpmfcaaaa.rdF l.length (Go.Proofs.Ytfpnadmpmfcaaaa.wF l)))) (Go.Proofs.Ytfpnadmpmfcaaaa.rdF (Go.Proofs.Ytfpnadmpmfcaaaa.rdF rs.length (Go.Proofs.Ytfpnadmpmfcaaaa.wF rs)).length (Go.Proofs.Ytfpnadmpmfcaaaa.wF (Go.Proofs.Ytfpnadmpmfcaaaa.rdF rs.length (Go.Proofs.Ytfpnadmpmfcaaaa.wF rs))))) (0 : Nat))) (0 : Nat))))).length))), SV.dt (Dt.cell (Go.Value.int Go.IntKind.i64 lim))], SV.dt (Dt.arr ((3 : Nat)) ((Go.Proofs.Ytfpnadmpmfcaaaa.rdF (List.map (Go.Proofs.Ytfpnadmpmfcaaaa.imgW (Go.Proofs.Ytfpnadmpmfcaaaa.rdF (Go.Proofs.Ytfpnadmpmfcaaaa.rdF l.length (Go.Proofs.Ytfpnadmpmfcaaaa.wF l)).length (Go.Proofs.Ytfpnadmpmfcaaaa.wF (Go.Proofs.Ytfpnadmpmfcaaaa.rdF l.length (Go.Proofs.Ytfpnadmpmfcaaaa.wF l)))) (Go.Proofs.Ytfpnadmpmfcaaaa.rootK (Go.Proofs.Ytfpnadmpmfcaaaa.rdF (Go.Proofs.Ytfpnadmpmfcaaaa.rdF l.length (Go.Proofs.Ytfpnadmpmfcaaaa.wF l)).length (Go.Proofs.Ytfpnadmpmfcaaaa.wF (Go.Proofs.Ytfpnadmpmfcaaaa.rdF l.length (Go.Proofs.Ytfpnadmpmfcaaaa.wF l)))) (Go.Proofs.Ytfpnadmpmfcaaaa.rdF (Go.Proofs.Ytfpnadmpmfcaaaa.rdF rs.length (Go.Proofs.Ytfpnadmpmfcaaaa.wF rs)).length (Go.Proofs.Ytfpnadmpmfcaaaa.wF (Go.Proofs.Ytfpnadmpmfcaaaa.rdF rs.length (Go.Proofs.Ytfpnadmpmfcaaaa.wF rs)))))) (Go.Proofs.Ytfpnadmpmfcaaaa.rdF (Go.Proofs.Ytfpnadmpmfcaaaa.rdF rs.length (Go.Proofs.Ytfpnadmpmfcaaaa.wF rs)).length (Go.Proofs.Ytfpnadmpmfcaaaa.wF (Go.Proofs.Ytfpnadmpmfcaaaa.rdF rs.length (Go.Proofs.Ytfpnadmpmfcaaaa.wF rs))))).length (Go.Proofs.Ytfpnadmpmfcaaaa.wF (List.map (Go.Proofs.Ytfpnadmpmfcaaaa.imgW (Go.Proofs.Ytfpnadmpmfcaaaa.rdF (Go.Proofs.Ytfpnadmpmfcaaaa.rdF l.length (Go.Proofs.Ytfpnadmpmfcaaaa.wF l)).length (Go.Proofs.Ytfpnadmpmfcaaaa.wF (Go.Proofs.Ytfpnadmpmfcaaaa.rdF l.length (Go.Proofs.Ytfpnadmpmfcaaaa.wF l)))) (Go.Proofs.Ytfpnadmpmfcaaaa.rootK (Go.Proofs.Ytfpnadmpmfcaaaa.rdF (Go.Proofs.Ytfpnadmpmfcaaaa.rdF l.length (Go.Proofs.Ytfpnadmpmfcaaaa.wF l)).length (Go.Proofs.Ytfpnadmpmfcaaaa.wF (Go.Proofs.Ytfpnadmpmfcaaaa.rdF l.length (Go.Proofs.Ytfpnadmpmfcaaaa.wF l)))) (Go.Proofs.Ytfpnadmpmfcaaaa.rdF (Go.Proofs.Ytfpnadmpmfcaaaa.rdF rs.length (Go.Proofs.Ytfpnadmpmfcaaaa.wF rs)).length (Go.Proofs.Ytfpnadmpmfcaaaa.wF (Go.Proofs.Ytfpnadmpmfcaaaa.rdF rs.length (Go.Proofs.Ytfpnadmpmfcaaaa.wF rs)))))) (Go.Proofs.Ytfpnadmpmfcaaaa.rdF (Go.Proofs.Ytfpnadmpmfcaaaa.rdF rs.length (Go.Proofs.Ytfpnadmpmfcaaaa.wF rs)).length (Go.Proofs.Ytfpnadmpmfcaaaa.wF (Go.Proofs.Ytfpnadmpmfcaaaa.rdF rs.length (Go.Proofs.Ytfpnadmpmfcaaaa.wF rs))))))).length) (Go.Proofs.Ytfpnadmpmfcaaaa.wF (Go.Proofs.Ytfpnadmpmfcaaaa.rdF (List.map (Go.Proofs.Ytfpnadmpmfcaaaa.imgW (Go.Proofs.Ytfpnadmpmfcaaaa.rdF (Go.Proofs.Ytfpnadmpmfcaaaa.rdF l.length (Go.Proofs.Ytfpnadmpmfcaaaa.wF l)).length (Go.Proofs.Ytfpnadmpmfcaaaa.wF (Go.Proofs.Ytfpnadmpmfcaaaa.rdF l.length (Go.Proofs.Ytfpnadmpmfcaaaa.wF l)))) (Go.Proofs.Ytfpnadmpmfcaaaa.rootK (Go.Proofs.Ytfpnadmpmfcaaaa.rdF (Go.Proofs.Ytfpnadmpmfcaaaa.rdF l.length (Go.Proofs.Ytfpnadmpmfcaaaa.wF l)).length (Go.Proofs.Ytfpnadmpmfcaaaa.wF (Go.Proofs.Ytfpnadmpmfcaaaa.rdF l.length (Go.Proofs.Ytfpnadmpmfcaaaa.wF l)))) (Go.Proofs.Ytfpnadmpmfcaaaa.rdF (Go.Proofs.Ytfpnadmpmfcaaaa.rdF rs.length (Go.Proofs.Ytfpnadmpmfcaaaa.wF rs)).length (Go.Proofs.Ytfpnadmpmfcaaaa.wF (Go.Proofs.Ytfpnadmpmfcaaaa.rdF rs.length (Go.Proofs.Ytfpnadmpmfcaaaa.wF rs)))))) (Go.Proofs.Ytfpnadmpmfcaaaa.rdF (Go.Proofs.Ytfpnadmpmfcaaaa.rdF rs.length (Go.Proofs.Ytfpnadmpmfcaaaa.wF rs)).length (Go.Proofs.Ytfpnadmpmfcaaaa.wF (Go.Proofs.Ytfpnadmpmfcaaaa.rdF rs.length (Go.Proofs.Ytfpnadmpmfcaaaa.wF rs))))).length (Go.Proofs.Ytfpnadmpmfcaaaa.wF (List.map (Go.Proofs.Ytfpnadmpmfcaaaa.imgW (Go.Proofs.Ytfpnadmpmfcaaaa.rdF (Go.Proofs.Ytfpnadmpmfcaaaa.rdF l.length (Go.Proofs.Ytfpnadmpmfcaaaa.wF l)).length (Go.Proofs.Ytfpnadmpmfcaaaa.wF (Go.Proofs.Ytfpnadmpmfcaaaa.rdF l.length (Go.Proofs.Ytfpnadmpmfcaaaa.wF l)))) (Go.Proofs.Ytfpnadmpmfcaaaa.rootK (Go.Proofs.Ytfpnadmpmfcaaaa.rdF (Go.Proofs.Ytfpnadmpmfcaaaa.rdF l.length (Go.Proofs.Ytfpnadmpmfcaaaa.wF l)).length (Go.Proofs.Ytfpnadmpmfcaaaa.wF (Go.Proofs.Ytfpnadmpmfcaaaa.rdF l.length (Go.Proofs.Ytfpnadmpmfcaaaa.wF l)))) (Go.Proofs.Ytfpnadmpmfcaaaa.rdF (Go.Proofs.Ytfpnadmpmfcaaaa.rdF rs.length (Go.Proofs.Ytfpnadmpmfcaaaa.wF rs)).length (Go.Proofs.Ytfpnadmpmfcaaaa.wF (Go.Proofs.Ytfpnadmpmfcaaaa.rdF rs.length (Go.Proofs.Ytfpnadmpmfcaaaa.wF rs)))))) (Go.Proofs.Ytfpnadmpmfcaaaa.rdF (Go.Proofs.Ytfpnadmpmfcaaaa.rdF rs.length (Go.Proofs.Ytfpnadmpmfcaaaa.wF rs)).length (Go.Proofs.Ytfpnadmpmfcaaaa.wF (Go.Proofs.Ytfpnadmpmfcaaaa.rdF rs.length (Go.Proofs.Ytfpnadmpmfcaaaa.wF rs))))))))), SV.dt (Dt.cell (Go.Value.int Go.IntKind.i64 (0 : Int)))]) ([]))))))))) ∧
              (((List.drop (0 : Nat) (Go.Proofs.Ytfpnadmpmfcaaaa.rdF rs.length (Go.Proofs.Ytfpnadmpmfcaaaa.wF rs))).all (Go.Proofs.Ytfpnadmpmfcaaaa.wordOk (Go.Proofs.Ytfpnadmpmfcaaaa.rdF l.length (Go.Proofs.Ytfpnadmpmfcaaaa.wF l)) (List.map (fun x => x.fst.toNat) (Go.Proofs.Ytfpnadmpmfcaaaa.stM ((Go.Proofs.Ytfpnadmpmfcaaaa.startsS (Go.Proofs.Ytfpnadmpmfcaaaa.rdF l.length (Go.Proofs.Ytfpnadmpmfcaaaa.wF l))).getD [])))) = Bool.false) →
               (True ∧
                R (SV.tup [SV.agg [SV.dt (Dt.cell (Go.Value.slice Option.none (0 : Nat) (0 : Nat))), SV.ki Go.IntKind.i64 ((0 : Int))], SV.dt (Dt.cell (Go.Value.slice Option.none (0 : Nat) (0 : Nat))), SV.dt (Dt.cell (Go.Value.int Go.IntKind.i64 (3 : Int)))]) ([])))))))) ∧
         (((Go.Proofs.Ytfpnadmpmfcaaaa.startsS (Go.Proofs.Ytfpnadmpmfcaaaa.rdF l.length (Go.Proofs.Ytfpnadmpmfcaaaa.wF l))).isSome = Bool.false) →
          False)))))))) ∧
  ((Go.Proofs.Ytfpnadmpmfcaaaa.checkB (Go.Proofs.Ytfpnadmpmfcaaaa.rdF l.length (Go.Proofs.Ytfpnadmpmfcaaaa.wF l)) lim = Bool.false) →
   (((((9 : Int) != (0 : Int)) = Bool.true) →
     (True ∧
      R (SV.tup [SV.agg [SV.dt (Dt.cell (Go.Value.slice Option.none (0 : Nat) (0 : Nat))), SV.ki Go.IntKind.i64 ((0 : Int))], SV.dt (Dt.cell (Go.Value.slice Option.none (0 : Nat) (0 : Nat))), SV.dt (Dt.cell (Go.Value.int Go.IntKind.i64 (9 : Int)))]) ([]))) ∧
    ((((9 : Int) != (0 : Int)) = Bool.false) →
     ((Rx.leL ([SV.dt (Dt.arr ((3 : Nat)) (l.length) (Go.Proofs.Ytfpnadmpmfcaaaa.wF l))]) ([SV.dt (Dt.arr ((3 : Nat)) ((Go.Proofs.Ytfpnadmpmfcaaaa.rdF l.length (Go.Proofs.Ytfpnadmpmfcaaaa.wF l)).length) (Go.Proofs.Ytfpnadmpmfcaaaa.wF (Go.Proofs.Ytfpnadmpmfcaaaa.rdF l.length (Go.Proofs.Ytfpnadmpmfcaaaa.wF l))))])) ∧
      ((Rx.leObL ([]) ([])) ∧
       ((Go.Proofs.Ytfpnadmpmfcaaaa.fitsW (Go.Proofs.Ytfpnadmpmfcaaaa.rdF l.length (Go.Proofs.Ytfpnadmpmfcaaaa.wF l))) ∧
        ((((Go.Proofs.Ytfpnadmpmfcaaaa.startsS (Go.Proofs.Ytfpnadmpmfcaaaa.rdF l.length (Go.Proofs.Ytfpnadmpmfcaaaa.wF l))).isSome = Bool.true) →
          (((Rx.leS (SV.dt (Dt.arr ((3 : Nat)) (rs.length) (Go.Proofs.Ytfpnadmpmfcaaaa.wF rs))) (SV.dt (Dt.arr ((3 : Nat)) ((Go.Proofs.Ytfpnadmpmfcaaaa.rdF rs.length (Go.Proofs.Ytfpnadmpmfcaaaa.wF rs)).length) (Go.Proofs.Ytfpnadmpmfcaaaa.wF (Go.Proofs.Ytfpnadmpmfcaaaa.rdF rs.length (Go.Proofs.Ytfpnadmpmfcaaaa.wF rs)))))) ∧
            ((Rx.leS (SV.ptr 0 0) (SV.ptr 0 0)) ∧
             ((Rx.leS (SV.ptr 1 0) (SV.ptr 1 0)) ∧
              ((Rx.leS (SV.nm 2) (SV.nm 2)) ∧
               ((Rx.leS (SV.dt (Dt.arr ((3 : Nat)) (rs.length) (Go.Proofs.Ytfpnadmpmfcaaaa.wF rs))) (SV.dt (Dt.arr ((3 : Nat)) ((Go.Proofs.Ytfpnadmpmfcaaaa.rdF rs.length (Go.Proofs.Ytfpnadmpmfcaaaa.wF rs)).length) (Go.Proofs.Ytfpnadmpmfcaaaa.wF (Go.Proofs.Ytfpnadmpmfcaaaa.rdF rs.length (Go.Proofs.Ytfpnadmpmfcaaaa.wF rs)))))) ∧
                ((Rx.leS (SV.dt (Dt.cell (Go.Value.int Go.IntKind.i64 (↑rs.length : Int)))) (SV.dt (Dt.cell (Go.Value.int Go.IntKind.i64 (↑(Go.Proofs.Ytfpnadmpmfcaaaa.rdF rs.length (Go.Proofs.Ytfpnadmpmfcaaaa.wF rs)).length : Int))))) ∧
                 ((Rx.leS (SV.dt (Dt.cell (Go.Value.int Go.IntKind.i64 (0 : Int)))) (SV.dt (Dt.cell (Go.Value.int Go.IntKind.i64 (↑(0 : Nat) : Int))))) ∧
                  True))))))) ∧
           ((Rx.leOO ([some (Ob.cells 25 [SV.dt (Dt.arr ((3 : Nat)) (l.length) (Go.Proofs.Ytfpnadmpmfcaaaa.wF l)), SV.dt (Dt.cell (Go.Value.int Go.IntKind.i64 lim))]), some (Ob.cells 25 [SV.dt (Dt.cell (Go.Value.slice Option.none (0 : Nat) (0 : Nat))), SV.ki Go.IntKind.i64 ((0 : Int))]), some (Ob.mp (Rx.Ty.int Go.IntKind.i64) (Rx.Ty.bool) (Go.Proofs.Ytfpnadmpmfcaaaa.stM ((Go.Proofs.Ytfpnadmpmfcaaaa.startsS (Go.Proofs.Ytfpnadmpmfcaaaa.rdF l.length (Go.Proofs.Ytfpnadmpmfcaaaa.wF l))).getD [])))]) ([some (Ob.cells 25 [SV.dt (Dt.arr ((3 : Nat)) ((Go.Proofs.Ytfpnadmpmfcaaaa.rdF l.length (Go.Proofs.Ytfpnadmpmfcaaaa.wF l)).length) (Go.Proofs.Ytfpnadmpmfcaaaa.wF (Go.Proofs.Ytfpnadmpmfcaaaa.rdF l.length (Go.Proofs.Ytfpnadmpmfcaaaa.wF l)))), SV.dt (Dt.cell (Go.Value.int Go.IntKind.i64 lim))]), some (Ob.cells 25 [SV.junk, SV.junk]), some (Ob.mp (Rx.Ty.int Go.IntKind.i64) (Rx.Ty.bool) (Go.Proofs.Ytfpnadmpmfcaaaa.stM (List.map (fun x => x.fst.toNat) (Go.Proofs.Ytfpnadmpmfcaaaa.stM ((Go.Proofs.Ytfpnadmpmfcaaaa.startsS (Go.Proofs.Ytfpnadmpmfcaaaa.rdF l.length (Go.Proofs.Ytfpnadmpmfcaaaa.wF l))).getD [])))))])) ∧
            (((Go.Proofs.Ytfpnadmpmfcaaaa.rdF rs.length (Go.Proofs.Ytfpnadmpmfcaaaa.wF rs)).length ≤ (1000000 : Nat)) ∧
             ((((List.drop (0 : Nat) (Go.Proofs.Ytfpnadmpmfcaaaa.rdF rs.length (Go.Proofs.Ytfpnadmpmfcaaaa.wF rs))).all (Go.Proofs.Ytfpnadmpmfcaaaa.wordOk (Go.Proofs.Ytfpnadmpmfcaaaa.rdF l.length (Go.Proofs.Ytfpnadmpmfcaaaa.wF l)) (List.map (fun x => x.fst.toNat) (Go.Proofs.Ytfpnadmpmfcaaaa.stM ((Go.Proofs.Ytfpnadmpmfcaaaa.startsS (Go.Proofs.Ytfpnadmpmfcaaaa.rdF l.length (Go.Proofs.Ytfpnadmpmfcaaaa.wF l))).getD [])))) = Bool.true) →
               (((Rx.leS (SV.ptr 0 0) (SV.ptr 0 0)) ∧
                 ((Rx.leS (SV.ptr 1 0) (SV.ptr 1 0)) ∧
                  ((Rx.leS (SV.ptr 2 0) (SV.ptr 2 0)) ∧
                   ((Rx.leS (SV.nm 5) (SV.nm 5)) ∧
                    ((Rx.leS (SV.dt (Dt.arr ((3 : Nat)) ((Go.Proofs.Ytfpnadmpmfcaaaa.rdF rs.length (Go.Proofs.Ytfpnadmpmfcaaaa.wF rs)).length) (Go.Proofs.Ytfpnadmpmfcaaaa.wF (Go.Proofs.Ytfpnadmpmfcaaaa.rdF rs.length (Go.Proofs.Ytfpnadmpmfcaaaa.wF rs))))) (SV.dt (Dt.arr ((3 : Nat)) ((Go.Proofs.Ytfpnadmpmfcaaaa.rdF (Go.Proofs.Ytfpnadmpmfcaaaa.rdF rs.length (Go.Proofs.Ytfpnadmpmfcaaaa.wF rs)).length (Go.Proofs.Ytfpnadmpmfcaaaa.wF (Go.Proofs.Ytfpnadmpmfcaaaa.rdF rs.length (Go.Proofs.Ytfpnadmpmfcaaaa.wF rs)))).length) (Go.Proofs.Ytfpnadmpmfcaaaa.wF (Go.Proofs.Ytfpnadmpmfcaaaa.rdF (Go.Proofs.Ytfpnadmpmfcaaaa.rdF rs.length (Go.Proofs.Ytfpnadmpmfcaaaa.wF rs)).length (Go.Proofs.Ytfpnadmpmfcaaaa.wF (Go.Proofs.Ytfpnadmpmfcaaaa.rdF rs.length (Go.Proofs.Ytfpnadmpmfcaaaa.wF rs)))))))) ∧
                     ((Rx.leS (SV.dt (Dt.cell (Go.Value.int Go.IntKind.i64 (↑(Go.Proofs.Ytfpnadmpmfcaaaa.rdF rs.length (Go.Proofs.Ytfpnadmpmfcaaaa.wF rs)).length : Int)))) (SV.dt (Dt.cell (Go.Value.int Go.IntKind.i64 (↑(Go.Proofs.Ytfpnadmpmfcaaaa.rdF (Go.Proofs.Ytfpnadmpmfcaaaa.rdF rs.length (Go.Proofs.Ytfpnadmpmfcaaaa.wF rs)).length (Go.Proofs.Ytfpnadmpmfcaaaa.wF (Go.Proofs.Ytfpnadmpmfcaaaa.rdF rs.length (Go.Proofs.Ytfpnadmpmfcaaaa.wF rs)))).length : Int))))) ∧
                      ((Rx.leS (SV.dt (Dt.cell (Go.Value.int Go.IntKind.i64 (0 : Int)))) (SV.dt (Dt.cell (Go.Value.int Go.IntKind.i64 (↑(0 : Nat) : Int))))) ∧
                       True))))))) ∧
                ((Rx.leOO ([some (Ob.cells 25 [SV.dt (Dt.arr ((3 : Nat)) ((Go.Proofs.Ytfpnadmpmfcaaaa.rdF l.length (Go.Proofs.Ytfpnadmpmfcaaaa.wF l)).length) (Go.Proofs.Ytfpnadmpmfcaaaa.wF (Go.Proofs.Ytfpnadmpmfcaaaa.rdF l.length (Go.Proofs.Ytfpnadmpmfcaaaa.wF l)))), SV.dt (Dt.cell (Go.Value.int Go.IntKind.i64 lim))]), some (Ob.cells 25 [SV.junk, SV.junk]), some (Ob.cells 67 [SV.dt (Dt.arr ((3 : Nat)) ((Go.Proofs.Ytfpnadmpmfcaaaa.rdF l.length (Go.Proofs.Ytfpnadmpmfcaaaa.wF l)).length) (Go.Proofs.Ytfpnadmpmfcaaaa.wF (Go.Proofs.Ytfpnadmpmfcaaaa.rdF l.length (Go.Proofs.Ytfpnadmpmfcaaaa.wF l)))), SV.nm 3, SV.nm 4]), some (Ob.row 30 3 ((0 : Nat)) (fun x x_1 => Rx.undefCell)), some (Ob.mp (Rx.Ty.int Go.IntKind.i64) (Rx.Ty.int Go.IntKind.i64) ([])), some (Ob.row 30 3 ((0 : Nat)) (fun x x_1 => Rx.undefCell))]) ([some (Ob.cells 25 [SV.dt (Dt.arr ((3 : Nat)) ((Go.Proofs.Ytfpnadmpmfcaaaa.rdF (Go.Proofs.Ytfpnadmpmfcaaaa.rdF l.length (Go.Proofs.Ytfpnadmpmfcaaaa.wF l)).length (Go.Proofs.Ytfpnadmpmfcaaaa.wF (Go.Proofs.Ytfpnadmpmfcaaaa.rdF l.length (Go.Proofs.Ytfpnadmpmfcaaaa.wF l)))).length) (Go.Proofs.Ytfpnadmpmfcaaaa.wF (Go.Proofs.Ytfpnadmpmfcaaaa.rdF (Go.Proofs.Ytfpnadmpmfcaaaa.rdF l.length (Go.Proofs.Ytfpnadmpmfcaaaa.wF l)).length (Go.Proofs.Ytfpnadmpmfcaaaa.wF (Go.Proofs.Ytfpnadmpmfcaaaa.rdF l.length (Go.Proofs.Ytfpnadmpmfcaaaa.wF l)))))), SV.dt (Dt.cell (Go.Value.int Go.IntKind.i64 lim))]), some (Ob.cells 25 [SV.junk, SV.junk]), some (Ob.cells 67 [SV.dt (Dt.arr ((3 : Nat)) ((Go.Proofs.Ytfpnadmpmfcaaaa.rdF (Go.Proofs.Ytfpnadmpmfcaaaa.rdF l.length (Go.Proofs.Ytfpnadmpmfcaaaa.wF l)).length (Go.Proofs.Ytfpnadmpmfcaaaa.wF (Go.Proofs.Ytfpnadmpmfcaaaa.rdF l.length (Go.Proofs.Ytfpnadmpmfcaaaa.wF l)))).length) (Go.Proofs.Ytfpnadmpmfcaaaa.wF (Go.Proofs.Ytfpnadmpmfcaaaa.rdF (Go.Proofs.Ytfpnadmpmfcaaaa.rdF l.length (Go.Proofs.Ytfpnadmpmfcaaaa.wF l)).length (Go.Proofs.Ytfpnadmpmfcaaaa.wF (Go.Proofs.Ytfpnadmpmfcaaaa.rdF l.length (Go.Proofs.Ytfpnadmpmfcaaaa.wF l)))))), SV.nm 3, SV.nm 4]), some (Ob.row 30 3 (Go.Proofs.Ytfpnadmpmfcaaaa.noW.length) (Go.Proofs.Ytfpnadmpmfcaaaa.wF Go.Proofs.Ytfpnadmpmfcaaaa.noW)), some (Ob.mp (Rx.Ty.int Go.IntKind.i64) (Rx.Ty.int Go.IntKind.i64) ([])), some (Ob.row 30 3 (Go.Proofs.Ytfpnadmpmfcaaaa.noW.length) (Go.Proofs.Ytfpnadmpmfcaaaa.wF Go.Proofs.Ytfpnadmpmfcaaaa.noW))])) ∧
                 ((Go.Proofs.Ytfpnadmpmfcaaaa.cPre (Go.Proofs.Ytfpnadmpmfcaaaa.rdF (Go.Proofs.Ytfpnadmpmfcaaaa.rdF l.length (Go.Proofs.Ytfpnadmpmfcaaaa.wF l)).length (Go.Proofs.Ytfpnadmpmfcaaaa.wF (Go.Proofs.Ytfpnadmpmfcaaaa.rdF l.length (Go.Proofs.Ytfpnadmpmfcaaaa.wF l)))) lim (Go.Proofs.Ytfpnadmpmfcaaaa.rdF (Go.Proofs.Ytfpnadmpmfcaaaa.rdF rs.length (Go.Proofs.Ytfpnadmpmfcaaaa.wF rs)).length (Go.Proofs.Ytfpnadmpmfcaaaa.wF (Go.Proofs.Ytfpnadmpmfcaaaa.rdF rs.length (Go.Proofs.Ytfpnadmpmfcaaaa.wF rs))))) ∧
                  (((Rx.leS (SV.ptr 0 0) (SV.ptr 0 0)) ∧
                    ((Rx.leS (SV.ptr 1 0) (SV.ptr 1 0)) ∧
                     ((Rx.leS (SV.ptr 2 0) (SV.ptr 2 0)) ∧
                      ((Rx.leS (SV.nm 5) (SV.nm 5)) ∧
                       ((Rx.leS (SV.dt (Dt.cell (Go.Value.int Go.IntKind.i64 (0 : Int)))) (SV.dt (Dt.cell (Go.Value.int Go.IntKind.i64 (↑(0 : Nat) : Int))))) ∧
                        True))))) ∧
                   ((Rx.leOO ([some (Ob.cells 25 [SV.dt (Dt.arr ((3 : Nat)) ((Go.Proofs.Ytfpnadmpmfcaaaa.rdF (Go.Proofs.Ytfpnadmpmfcaaaa.rdF l.length (Go.Proofs.Ytfpnadmpmfcaaaa.wF l)).length (Go.Proofs.Ytfpnadmpmfcaaaa.wF (Go.Proofs.Ytfpnadmpmfcaaaa.rdF l.length (Go.Proofs.Ytfpnadmpmfcaaaa.wF l)))).length) (Go.Proofs.Ytfpnadmpmfcaaaa.wF (Go.Proofs.Ytfpnadmpmfcaaaa.rdF (Go.Proofs.Ytfpnadmpmfcaaaa.rdF l.length (Go.Proofs.Ytfpnadmpmfcaaaa.wF l)).length (Go.Proofs.Ytfpnadmpmfcaaaa.wF (Go.Proofs.Ytfpnadmpmfcaaaa.rdF l.length (Go.Proofs.Ytfpnadmpmfcaaaa.wF l)))))), SV.dt (Dt.cell (Go.Value.int Go.IntKind.i64 lim))]), some (Ob.cells 25 [SV.junk, SV.junk]), some (Ob.cells 67 [SV.dt (Dt.arr ((3 : Nat)) ((Go.Proofs.Ytfpnadmpmfcaaaa.rdF (Go.Proofs.Ytfpnadmpmfcaaaa.rdF l.length (Go.Proofs.Ytfpnadmpmfcaaaa.wF l)).length (Go.Proofs.Ytfpnadmpmfcaaaa.wF (Go.Proofs.Ytfpnadmpmfcaaaa.rdF l.length (Go.Proofs.Ytfpnadmpmfcaaaa.wF l)))).length) (Go.Proofs.Ytfpnadmpmfcaaaa.wF (Go.Proofs.Ytfpnadmpmfcaaaa.rdF (Go.Proofs.Ytfpnadmpmfcaaaa.rdF l.length (Go.Proofs.Ytfpnadmpmfcaaaa.wF l)).length (Go.Proofs.Ytfpnadmpmfcaaaa.wF (Go.Proofs.Ytfpnadmpmfcaaaa.rdF l.length (Go.Proofs.Ytfpnadmpmfcaaaa.wF l)))))), SV.nm 3, SV.nm 4]), some (Ob.row 30 3 ((Go.Proofs.Ytfpnadmpmfcaaaa.cook (Go.Proofs.Ytfpnadmpmfcaaaa.rdF (Go.Proofs.Ytfpnadmpmfcaaaa.rdF l.length (Go.Proofs.Ytfpnadmpmfcaaaa.wF l)).length (Go.Proofs.Ytfpnadmpmfcaaaa.wF (Go.Proofs.Ytfpnadmpmfcaaaa.rdF l.length (Go.Proofs.Ytfpnadmpmfcaaaa.wF l)))) (Go.Proofs.Ytfpnadmpmfcaaaa.rootK (Go.Proofs.Ytfpnadmpmfcaaaa.rdF (Go.Proofs.Ytfpnadmpmfcaaaa.rdF l.length (Go.Proofs.Ytfpnadmpmfcaaaa.wF l)).length (Go.Proofs.Ytfpnadmpmfcaaaa.wF (Go.Proofs.Ytfpnadmpmfcaaaa.rdF l.length (Go.Proofs.Ytfpnadmpmfcaaaa.wF l)))) (Go.Proofs.Ytfpnadmpmfcaaaa.rdF (Go.Proofs.Ytfpnadmpmfcaaaa.rdF rs.length (Go.Proofs.Ytfpnadmpmfcaaaa.wF rs)).length (Go.Proofs.Ytfpnadmpmfcaaaa.wF (Go.Proofs.Ytfpnadmpmfcaaaa.rdF rs.length (Go.Proofs.Ytfpnadmpmfcaaaa.wF rs))))) (0 : Nat)).length) (Go.Proofs.Ytfpnadmpmfcaaaa.wF (Go.Proofs.Ytfpnadmpmfcaaaa.cook (Go.Proofs.Ytfpnadmpmfcaaaa.rdF (Go.Proofs.Ytfpnadmpmfcaaaa.rdF l.length (Go.Proofs.Ytfpnadmpmfcaaaa.wF l)).length (Go.Proofs.Ytfpnadmpmfcaaaa.wF (Go.Proofs.Ytfpnadmpmfcaaaa.rdF l.length (Go.Proofs.Ytfpnadmpmfcaaaa.wF l)))) (Go.Proofs.Ytfpnadmpmfcaaaa.rootK (Go.Proofs.Ytfpnadmpmfcaaaa.rdF (Go.Proofs.Ytfpnadmpmfcaaaa.rdF l.length (Go.Proofs.Ytfpnadmpmfcaaaa.wF l)).length (Go.Proofs.Ytfpnadmpmfcaaaa.wF (Go.Proofs.Ytfpnadmpmfcaaaa.rdF l.length (Go.Proofs.Ytfpnadmpmfcaaaa.wF l)))) (Go.Proofs.Ytfpnadmpmfcaaaa.rdF (Go.Proofs.Ytfpnadmpmfcaaaa.rdF rs.length (Go.Proofs.Ytfpnadmpmfcaaaa.wF rs)).length (Go.Proofs.Ytfpnadmpmfcaaaa.wF (Go.Proofs.Ytfpnadmpmfcaaaa.rdF rs.length (Go.Proofs.Ytfpnadmpmfcaaaa.wF rs))))) (0 : Nat)))), some (Ob.mp (Rx.Ty.int Go.IntKind.i64) (Rx.Ty.int Go.IntKind.i64) (Go.Proofs.Ytfpnadmpmfcaaaa.mpF (Go.Proofs.Ytfpnadmpmfcaaaa.rdF (Go.Proofs.Ytfpnadmpmfcaaaa.rdF l.length (Go.Proofs.Ytfpnadmpmfcaaaa.wF l)).length (Go.Proofs.Ytfpnadmpmfcaaaa.wF (Go.Proofs.Ytfpnadmpmfcaaaa.rdF l.length (Go.Proofs.Ytfpnadmpmfcaaaa.wF l)))) (Go.Proofs.Ytfpnadmpmfcaaaa.rootK (Go.Proofs.Ytfpnadmpmfcaaaa.rdF (Go.Proofs.Ytfpnadmpmfcaaaa.rdF l.length (Go.Proofs.Ytfpnadmpmfcaaaa.wF l)).length (Go.Proofs.Ytfpnadmpmfcaaaa.wF (Go.Proofs.Ytfpnadmpmfcaaaa.rdF l.length (Go.Proofs.Ytfpnadmpmfcaaaa.wF l)))) (Go.Proofs.Ytfpnadmpmfcaaaa.rdF (Go.Proofs.Ytfpnadmpmfcaaaa.rdF rs.length (Go.Proofs.Ytfpnadmpmfcaaaa.wF rs)).length (Go.Proofs.Ytfpnadmpmfcaaaa.wF (Go.Proofs.Ytfpnadmpmfcaaaa.rdF rs.length (Go.Proofs.Ytfpnadmpmfcaaaa.wF rs))))) (0 : Nat))), some (Ob.row 30 3 ((List.map (Go.Proofs.Ytfpnadmpmfcaaaa.imgW (Go.Proofs.Ytfpnadmpmfcaaaa.rdF (Go.Proofs.Ytfpnadmpmfcaaaa.rdF l.length (Go.Proofs.Ytfpnadmpmfcaaaa.wF l)).length (Go.Proofs.Ytfpnadmpmfcaaaa.wF (Go.Proofs.Ytfpnadmpmfcaaaa.rdF l.length (Go.Proofs.Ytfpnadmpmfcaaaa.wF l)))) (Go.Proofs.Ytfpnadmpmfcaaaa.rootK (Go.Proofs.Ytfpnadmpmfcaaaa.rdF (Go.Proofs.Ytfpnadmpmfcaaaa.rdF l.length (Go.Proofs.Ytfpnadmpmfcaaaa.wF l)).length (Go.Proofs.Ytfpnadmpmfcaaaa.wF (Go.Proofs.Ytfpnadmpmfcaaaa.rdF l.length (Go.Proofs.Ytfpnadmpmfcaaaa.wF l)))) (Go.Proofs.Ytfpnadmpmfcaaaa.rdF (Go.Proofs.Ytfpnadmpmfcaaaa.rdF rs.length (Go.Proofs.Ytfpnadmpmfcaaaa.wF rs)).length (Go.Proofs.Ytfpnadmpmfcaaaa.wF (Go.Proofs.Ytfpnadmpmfcaaaa.rdF rs.length (Go.Proofs.Ytfpnadmpmfcaaaa.wF rs)))))) (Go.Proofs.Ytfpnadmpmfcaaaa.rdF (Go.Proofs.Ytfpnadmpmfcaaaa.rdF rs.length (Go.Proofs.Ytfpnadmpmfcaaaa.wF rs)).length (Go.Proofs.Ytfpnadmpmfcaaaa.wF (Go.Proofs.Ytfpnadmpmfcaaaa.rdF rs.length (Go.Proofs.Ytfpnadmpmfcaaaa.wF rs))))).length) (Go.Proofs.Ytfpnadmpmfcaaaa.wF (List.map (Go.Proofs.Ytfpnadmpmfcaaaa.imgW (Go.Proofs.Ytfpnadmpmfcaaaa.rdF (Go.Proofs.Ytfpnadmpmfcaaaa.rdF l.length (Go.Proofs.Ytfpnadmpmfcaaaa.wF l)).length (Go.Proofs.Ytfpnadmpmfcaaaa.wF (Go.Proofs.Ytfpnadmpmfcaaaa.rdF l.length (Go.Proofs.Ytfpnadmpmfcaaaa.wF l)))) (Go.Proofs.Ytfpnadmpmfcaaaa.rootK (Go.Proofs.Ytfpnadmpmfcaaaa.rdF (Go.Proofs.Ytfpnadmpmfcaaaa.rdF l.length (Go.Proofs.Ytfpnadmpmfcaaaa.wF l)).length (Go.Proofs.Ytfpnadmpmfcaaaa.wF (Go.Proofs.Ytfpnadmpmfcaaaa.rdF l.length (Go.Proofs.Ytfpnadmpmfcaaaa.wF l)))) (Go.Proofs.Ytfpnadmpmfcaaaa.rdF (Go.Proofs.Ytfpnadmpmfcaaaa.rdF rs.length (Go.Proofs.Ytfpnadmpmfcaaaa.wF rs)).length (Go.Proofs.Ytfpnadmpmfcaaaa.wF (Go.Proofs.Ytfpnadmpmfcaaaa.rdF rs.length (Go.Proofs.Ytfpnadmpmfcaaaa.wF rs)))))) (Go.Proofs.Ytfpnadmpmfcaaaa.rdF (Go.Proofs.Ytfpnadmpmfcaaaa.rdF rs.length (Go.Proofs.Ytfpnadmpmfcaaaa.wF rs)).length (Go.Proofs.Ytfpnadmpmfcaaaa.wF (Go.Proofs.Ytfpnadmpmfcaaaa.rdF rs.length (Go.Proofs.Ytfpnadmpmfcaaaa.wF rs)))))))]) ([some (Ob.cells 25 [SV.dt (Dt.arr ((3 : Nat)) ((Go.Proofs.Ytfpnadmpmfcaaaa.rdF (Go.Proofs.Ytfpnadmpmfcaaaa.rdF (Go.Proofs.Ytfpnadmpmfcaaaa.rdF l.length (Go.Proofs.Ytfpnadmpmfcaaaa.wF l)).length (Go.Proofs.Ytfpnadmpmfcaaaa.wF (Go.Proofs.Ytfpnadmpmfcaaaa.rdF l.length (Go.Proofs.Ytfpnadmpmfcaaaa.wF l)))).length (Go.Proofs.Ytfpnadmpmfcaaaa.wF (Go.Proofs.Ytfpnadmpmfcaaaa.rdF (Go.Proofs.Ytfpnadmpmfcaaaa.rdF l.length (Go.Proofs.Ytfpnadmpmfcaaaa.wF l)).length (Go.Proofs.Ytfpnadmpmfcaaaa.wF (Go.Proofs.Ytfpnadmpmfcaaaa.rdF l.length (Go.Proofs.Ytfpnadmpmfcaaaa.wF l)))))).length) (Go.Proofs.Ytfpnadmpmfcaaaa.wF (Go.Proofs.Ytfpnadmpmfcaaaa.rdF (Go.Proofs.Ytfpnadmpmfcaaaa.rdF (Go.Proofs.Ytfpnadmpmfcaaaa.rdF l.length (Go.Proofs.Ytfpnadmpmfcaaaa.wF l)).length (Go.Proofs.Ytfpnadmpmfcaaaa.wF (Go.Proofs.Ytfpnadmpmfcaaaa.rdF l.length (Go.Proofs.Ytfpnadmpmfcaaaa.wF l)))).length (Go.Proofs.Ytfpnadmpmfcaaaa.wF (Go.Proofs.Ytfpnadmpmfcaaaa.rdF (Go.Proofs.Ytfpnadmpmfcaaaa.rdF l.length (Go.Proofs.Ytfpnadmpmfcaaaa.wF l)).length (Go.Proofs.Ytfpnadmpmfcaaaa.wF (Go.Proofs.Ytfpnadmpmfcaaaa.rdF l.length (Go.Proofs.Ytfpnadmpmfcaaaa.wF l)))))))), SV.dt (Dt.cell (Go.Value.int Go.IntKind.i64 lim))]), some (Ob.cells 25 [SV.junk, SV.junk]), some (Ob.cells 67 [SV.dt (Dt.arr ((3 : Nat)) ((Go.Proofs.Ytfpnadmpmfcaaaa.rdF (Go.Proofs.Ytfpnadmpmfcaaaa.rdF (Go.Proofs.Ytfpnadmpmfcaaaa.rdF l.length (Go.Proofs.Ytfpnadmpmfcaaaa.wF l)).length (Go.Proofs.Ytfpnadmpmfcaaaa.wF (Go.Proofs.Ytfpnadmpmfcaaaa.rdF l.length (Go.Proofs.Ytfpnadmpmfcaaaa.wF l)))).length (Go.Proofs.Ytfpnadmpmfcaaaa.wF (Go.Proofs.Ytfpnadmpmfcaaaa.rdF (Go.Proofs.Ytfpnadmpmfcaaaa.rdF l.length (Go.Proofs.Ytfpnadmpmfcaaaa.wF l)).length (Go.Proofs.Ytfpnadmpmfcaaaa.wF (Go.Proofs.Ytfpnadmpmfcaaaa.rdF l.length (Go.Proofs.Ytfpnadmpmfcaaaa.wF l)))))).length) (Go.Proofs.Ytfpnadmpmfcaaaa.wF (Go.Proofs.Ytfpnadmpmfcaaaa.rdF (Go.Proofs.Ytfpnadmpmfcaaaa.rdF (Go.Proofs.Ytfpnadmpmfcaaaa.rdF l.length (Go.Proofs.Ytfpnadmpmfcaaaa.wF l)).length (Go.Proofs.Ytfpnadmpmfcaaaa.wF (Go.Proofs.Ytfpnadmpmfcaaaa.rdF l.length (Go.Proofs.Ytfpnadmpmfcaaaa.wF l)))).length (Go.Proofs.Ytfpnadmpmfcaaaa.wF (Go.Proofs.Ytfpnadmpmfcaaaa.rdF (Go.Proofs.Ytfpnadmpmfcaaaa.rdF l.length (Go.Proofs.Ytfpnadmpmfcaaaa.wF l)).length (Go.Proofs.Ytfpnadmpmfcaaaa.wF (Go.Proofs.Ytfpnadmpmfcaaaa.rdF l.length (Go.Proofs.Ytfpnadmpmfcaaaa.wF l)))))))), SV.nm 3, SV.nm 4]), some (Ob.row 30 3 ((Go.Proofs.Ytfpnadmpmfcaaaa.cook (Go.Proofs.Ytfpnadmpmfcaaaa.rdF (Go.Proofs.Ytfpnadmpmfcaaaa.rdF (Go.Proofs.Ytfpnadmpmfcaaaa.rdF l.length (Go.Proofs.Ytfpnadmpmfcaaaa.wF l)).length (Go.Proofs.Ytfpnadmpmfcaaaa.wF (Go.Proofs.Ytfpnadmpmfcaaaa.rdF l.length (Go.Proofs.Ytfpnadmpmfcaaaa.wF l)))).length (Go.Proofs.Ytfpnadmpmfcaaaa.wF (Go.Proofs.Ytfpnadmpmfcaaaa.rdF (Go.Proofs.Ytfpnadmpmfcaaaa.rdF l.length (Go.Proofs.Ytfpnadmpmfcaaaa.wF l)).length (Go.Proofs.Ytfpnadmpmfcaaaa.wF (Go.Proofs.Ytfpnadmpmfcaaaa.rdF l.length (Go.Proofs.Ytfpnadmpmfcaaaa.wF l)))))) (Go.Proofs.Ytfpnadmpmfcaaaa.rdKs (Go.Proofs.Ytfpnadmpmfcaaaa.mpF (Go.Proofs.Ytfpnadmpmfcaaaa.rdF (Go.Proofs.Ytfpnadmpmfcaaaa.rdF l.length (Go.Proofs.Ytfpnadmpmfcaaaa.wF l)).length (Go.Proofs.Ytfpnadmpmfcaaaa.wF (Go.Proofs.Ytfpnadmpmfcaaaa.rdF l.length (Go.Proofs.Ytfpnadmpmfcaaaa.wF l)))) (Go.Proofs.Ytfpnadmpmfcaaaa.rootK (Go.Proofs.Ytfpnadmpmfcaaaa.rdF (Go.Proofs.Ytfpnadmpmfcaaaa.rdF l.length (Go.Proofs.Ytfpnadmpmfcaaaa.wF l)).length (Go.Proofs.Ytfpnadmpmfcaaaa.wF (Go.Proofs.Ytfpnadmpmfcaaaa.rdF l.length (Go.Proofs.Ytfpnadmpmfcaaaa.wF l)))) (Go.Proofs.Ytfpnadmpmfcaaaa.rdF (Go.Proofs.Ytfpnadmpmfcaaaa.rdF rs.length (Go.Proofs.Ytfpnadmpmfcaaaa.wF rs)).length (Go.Proofs.Ytfpnadmpmfcaaaa.wF (Go.Proofs.Ytfpnadmpmfcaaaa.rdF rs.length (Go.Proofs.Ytfpnadmpmfcaaaa.wF rs))))) (0 : Nat))) (0 : Nat)).length) (Go.Proofs.Ytfpnadmpmfcaaaa.wF (Go.Proofs.Ytfpnadmpmfcaaaa.cook (Go.Proofs.Ytfpnadmpmfcaaaa.rdF (Go.Proofs.Ytfpnadmpmfcaaaa.rdF (Go.Proofs.Ytfpnadmpmfcaaaa.rdF l.length (Go.Proofs.Ytfpnadmpmfcaaaa.wF l)).length (Go.Proofs.Ytfpnadmpmfcaaaa.wF (Go.Proofs.Ytfpnadmpmfcaaaa.rdF l.length (Go.Proofs.Ytfpnadmpmfcaaaa.wF l)))).length (Go.Proofs.Ytfpnadmpmfcaaaa.wF (Go.Proofs.Ytfpnadmpmfcaaaa.rdF (Go.Proofs.Ytfpnadmpmfcaaaa.rdF l.length (Go.Proofs.Ytfpnadmpmfcaaaa.wF l)).length (Go.Proofs.Ytfpnadmpmfcaaaa.wF (Go.Proofs.Ytfpnadmpmfcaaaa.rdF l.length (Go.Proofs.Ytfpnadmpmfcaaaa.wF l)))))) (Go.Proofs.Ytfpnadmpmfcaaaa.rdKs (Go.Proofs.Ytfpnadmpmfcaaaa.mpF (Go.Proofs.Ytfpnadmpmfcaaaa.rdF (Go.Proofs.Ytfpnadmpmfcaaaa.rdF l.length (Go.Proofs.Ytfpnadmpmfcaaaa.wF l)).length (Go.Proofs.Ytfpnadmpmfcaaaa.wF (Go.Proofs.Ytfpnadmpmfcaaaa.rdF l.length (Go.Proofs.Ytfpnadmpmfcaaaa.wF l)))) (Go.Proofs.Ytfpnadmpmfcaaaa.rootK (Go.Proofs.Ytfpnadmpmfcaaaa.rdF (Go.Proofs.Ytfpnadmpmfcaaaa.rdF l.length (Go.Proofs.Ytfpnadmpmfcaaaa.wF l)).length (Go.Proofs.Ytfpnadmpmfcaaaa.wF (Go.Proofs.Ytfpnadmpmfcaaaa.rdF l.length (Go.Proofs.Ytfpnadmpmfcaaaa.wF l)))) (Go.Proofs.Ytfpnadmpmfcaaaa.rdF (Go.Proofs.Ytfpnadmpmfcaaaa.rdF rs.length (Go.Proofs.Ytfpnadmpmfcaaaa.wF rs)).length (Go.Proofs.Ytfpnadmpmfcaaaa.wF (Go.Proofs.Ytfpnadmpmfcaaaa.rdF rs.length (Go.Proofs.Ytfpnadmpmfcaaaa.wF rs))))) (0 : Nat))) (0 : Nat)))), some (Ob.mp (Rx.Ty.int Go.IntKind.i64) (Rx.Ty.int Go.IntKind.i64) (Go.Proofs.Ytfpnadmpmfcaaaa.mpF (Go.Proofs.Ytfpnadmpmfcaaaa.rdF (Go.Proofs.Ytfpnadmpmfcaaaa.rdF (Go.Proofs.Ytfpnadmpmfcaaaa.rdF l.length (Go.Proofs.Ytfpnadmpmfcaaaa.wF l)).length (Go.Proofs.Ytfpnadmpmfcaaaa.wF (Go.Proofs.Ytfpnadmpmfcaaaa.rdF l.length (Go.Proofs.Ytfpnadmpmfcaaaa.wF l)))).length (Go.Proofs.Ytfpnadmpmfcaaaa.wF (Go.Proofs.Ytfpnadmpmfcaaaa.rdF (Go.Proofs.Ytfpnadmpmfcaaaa.rdF l.length (Go.Proofs.Ytfpnadmpmfcaaaa.wF l)).length (Go.Proofs.Ytfpnadmpmfcaaaa.wF (Go.Proofs.Ytfpnadmpmfcaaaa.rdF l.length (Go.Proofs.Ytfpnadmpmfcaaaa.wF l)))))) (Go.Proofs.Ytfpnadmpmfcaaaa.rdKs (Go.Proofs.Ytfpnadmpmfcaaaa.mpF (Go.Proofs.Ytfpnadmpmfcaaaa.rdF (Go.Proofs.Ytfpnadmpmfcaaaa.rdF l.length (Go.Proofs.Ytfpnadmpmfcaaaa.wF l)).length (Go.Proofs.Ytfpnadmpmfcaaaa.wF (Go.Proofs.Ytfpnadmpmfcaaaa.rdF l.length (Go.Proofs.Ytfpnadmpmfcaaaa.wF l)))) (Go.Proofs.Ytfpnadmpmfcaaaa.rootK (Go.Proofs.Ytfpnadmpmfcaaaa.rdF (Go.Proofs.Ytfpnadmpmfcaaaa.rdF l.length (Go.Proofs.Ytfpnadmpmfcaaaa.wF l)).length (Go.Proofs.Ytfpnadmpmfcaaaa.wF (Go.Proofs.Ytfpnadmpmfcaaaa.rdF l.length (Go.Proofs.Ytfpnadmpmfcaaaa.wF l)))) (Go.Proofs.Ytfpnadmpmfcaaaa.rdF (Go.Proofs.Ytfpnadmpmfcaaaa.rdF rs.length (Go.Proofs.Ytfpnadmpmfcaaaa.wF rs)).length (Go.Proofs.Ytfpnadmpmfcaaaa.wF (Go.Proofs.Ytfpnadmpmfcaaaa.rdF rs.length (Go.Proofs.Ytfpnadmpmfcaaaa.wF rs))))) (0 : Nat))) (0 : Nat))), some (Ob.row 30 3 ((Go.Proofs.Ytfpnadmpmfcaaaa.rdF (List.map (Go.Proofs.Ytfpnadmpmfcaaaa.imgW (Go.Proofs.Ytfpnadmpmfcaaaa.rdF (Go.Proofs.Ytfpnadmpmfcaaaa.rdF l.length (Go.Proofs.Ytfpnadmpmfcaaaa.wF l)).length (Go.Proofs.Ytfpnadmpmfcaaaa.wF (Go.Proofs.Ytfpnadmpmfcaaaa.rdF l.length (Go.Proofs.Ytfpnadmpmfcaaaa.wF l)))) (Go.Proofs.Ytfpnadmpmfcaaaa.rootK (Go.Proofs.Ytfpnadmpmfcaaaa.rdF (Go.Proofs.Ytfpnadmpmfcaaaa.rdF l.length (Go.Proofs.Ytfpnadmpmfcaaaa.wF l)).length (Go.Proofs.Ytfpnadmpmfcaaaa.wF (Go.Proofs.Ytfpnadmpmfcaaaa.rdF l.length (Go.Proofs.Ytfpnadmpmfcaaaa.wF l)))) (Go.Proofs.Ytfpnadmpmfcaaaa.rdF (Go.Proofs.Ytfpnadmpmfcaaaa.rdF rs.length (Go.Proofs.Ytfpnadmpmfcaaaa.wF rs)).length (Go.Proofs.Ytfpnadmpmfcaaaa.wF (Go.Proofs.Ytfpnadmpmfcaaaa.rdF rs.length (Go.Proofs.Ytfpnadmpmfcaaaa.wF rs)))))) (Go.Proofs.Ytfpnadmpmfcaaaa.rdF (Go.Proofs.Ytfpnadmpmfcaaaa.rdF rs.length (Go.Proofs.Ytfpnadmpmfcaaaa.wF rs)).length (Go.Proofs.Ytfpnadmpmfcaaaa.wF (Go.Proofs.Ytfpnadmpmfcaaaa.rdF rs.length (Go.Proofs.Ytfpnadmpmfcaaaa.wF rs))))).length (Go.Proofs.Ytfpnadmpmfcaaaa.wF (List.map (Go.Proofs.Ytfpnadmpmfcaaaa.imgW (Go.Proofs.Ytfpnadmpmfcaaaa.rdF (Go.Proofs.Ytfpnadmpmfcaaaa.rdF l.length (Go.Proofs.Ytfpnadmpmfcaaaa.wF l)).length (Go.Proofs.Ytfpnadmpmfcaaaa.wF (Go.Proofs.Ytfpnadmpmfcaaaa.rdF l.length (Go.Proofs.Ytfpnadmpmfcaaaa.wF l)))) (Go.Proofs.Ytfpnadmpmfcaaaa.rootK (Go.Proofs.Ytfpnadmpmfcaaaa.rdF (Go.Proofs.Ytfpnadmpmfcaaaa.rdF l.length (Go.Proofs.Ytfpnadmpmfcaaaa.wF l)).length (Go.Proofs.Ytfpnadmpmfcaaaa.wF (Go.Proofs.Ytfpnadmpmfcaaaa.rdF l.length (Go.Proofs.Ytfpnadmpmfcaaaa.wF l)))) (Go.Proofs.Ytfpnadmpmfcaaaa.rdF (Go.Proofs.Ytfpnadmpmfcaaaa.rdF rs.length (Go.Proofs.Ytfpnadmpmfcaaaa.wF rs)).length (Go.Proofs.Ytfpnadmpmfcaaaa.wF (Go.Proofs.Ytfpnadmpmfcaaaa.rdF rs.length (Go.Proofs.Ytfpnadmpmfcaaaa.wF rs)))))) (Go.Proofs.Ytfpnadmpmfcaaaa.rdF (Go.Proofs.Ytfpnadmpmfcaaaa.rdF rs.length (Go.Proofs.Ytfpnadmpmfcaaaa.wF rs)).length (Go.Proofs.Ytfpnadmpmfcaaaa.wF (Go.Proofs.Ytfpnadmpmfcaaaa.rdF rs.length (Go.Proofs.Ytfpnadmpmfcaaaa.wF rs))))))).length) (Go.Proofs.Ytfpnadmpmfcaaaa.wF (Go.Proofs.Ytfpnadmpmfcaaaa.rdF (List.map (Go.Proofs.Ytfpnadmpmfcaaaa.imgW (Go.Proofs.Ytfpnadmpmfcaaaa.rdF (Go.Proofs.Ytfpnadmpmfcaaaa.rdF l.length (Go.Proofs.Ytfpnadmpmfcaaaa.wF l)).length (Go.Proofs.Ytfpnadmpmfcaaaa.wF (Go.Proofs.Ytfpnadmpmfcaaaa.rdF l.length (Go.Proofs.Ytfpnadmpmfcaaaa.wF l)))) (Go.Proofs.Ytfpnadmpmfcaaaa.rootK (Go.Proofs.Ytfpnadmpmfcaaaa.rdF (Go.Proofs.Ytfpnadmpmfcaaaa.rdF l.length (Go.Proofs.Ytfpnadmpmfcaaaa.wF l)).length (Go.Proofs.Ytfpnadmpmfcaaaa.wF (Go.Proofs.Ytfpnadmpmfcaaaa.rdF l.length (Go.Proofs.Ytfpnadmpmfcaaaa.wF l)))) (Go.Proofs.Ytfpnadmpmfcaaaa.rdF (Go.Proofs.Ytfpnadmpmfcaaaa.rdF rs.length (Go.Proofs.Ytfpnadmpmfcaaaa.wF rs)).length (Go.Proofs.Ytfpnadmpmfcaaaa.wF (Go.Proofs.Ytfpnadmpmfcaaaa.rdF rs.length (Go.Proofs.Ytfpnadmpmfcaaaa.wF rs)))))) (Go.Proofs.Ytfpnadmpmfcaaaa.rdF (Go.Proofs.Ytfpnadmpmfcaaaa.rdF rs.length (Go.Proofs.Ytfpnadmpmfcaaaa.wF rs)).length (Go.Proofs.Ytfpnadmpmfcaaaa.wF (Go.Proofs.Ytfpnadmpmfcaaaa.rdF rs.length (Go.Proofs.Ytfpnadmpmfcaaaa.wF rs))))).length (Go.Proofs.Ytfpnadmpmfcaaaa.wF (List.map (Go.Proofs.Ytfpnadmpmfcaaaa.imgW (Go.Proofs.Ytfpnadmpmfcaaaa.rdF (Go.Proofs.Ytfpnadmpmfcaaaa.rdF l.length (Go.Proofs.Ytfpnadmpmfcaaaa.wF l)).length (Go.Proofs.Ytfpnadmpmfcaaaa.wF (Go.Proofs.Ytfpnadmpmfcaaaa.rdF l.length (Go.Proofs.Ytfpnadmpmfcaaaa.wF l)))) (Go.Proofs.Ytfpnadmpmfcaaaa.rootK (Go.Proofs.Ytfpnadmpmfcaaaa.rdF (Go.Proofs.Ytfpnadmpmfcaaaa.rdF l.length (Go.Proofs.Ytfpnadmpmfcaaaa.wF l)).length (Go.Proofs.Ytfpnadmpmfcaaaa.wF (Go.Proofs.Ytfpnadmpmfcaaaa.rdF l.length (Go.Proofs.Ytfpnadmpmfcaaaa.wF l)))) (Go.Proofs.Ytfpnadmpmfcaaaa.rdF (Go.Proofs.Ytfpnadmpmfcaaaa.rdF rs.length (Go.Proofs.Ytfpnadmpmfcaaaa.wF rs)).length (Go.Proofs.Ytfpnadmpmfcaaaa.wF (Go.Proofs.Ytfpnadmpmfcaaaa.rdF rs.length (Go.Proofs.Ytfpnadmpmfcaaaa.wF rs)))))) (Go.Proofs.Ytfpnadmpmfcaaaa.rdF (Go.Proofs.Ytfpnadmpmfcaaaa.rdF rs.length (Go.Proofs.Ytfpnadmpmfcaaaa.wF rs)).length (Go.Proofs.Ytfpnadmpmfcaaaa.wF (Go.Proofs.Ytfpnadmpmfcaaaa.rdF rs.length (Go.Proofs.Ytfpnadmpmfcaaaa.wF rs)))))))))])) ∧
                    ((Go.Proofs.Ytfpnadmpmfcaaaa.cdPre (Go.Proofs.Ytfpnadmpmfcaaaa.rdF (Go.Proofs.Ytfpnadmpmfcaaaa.rdF (Go.Proofs.Ytfpnadmpmfcaaaa.rdF l.length (Go.Proofs.Ytfpnadmpmfcaaaa.wF l)).length (Go.Proofs.Ytfpnadmpmfcaaaa.wF (Go.Proofs.Ytfpnadmpmfcaaaa.rdF l.length (Go.Proofs.Ytfpnadmpmfcaaaa.wF l)))).length (Go.Proofs.Ytfpnadmpmfcaaaa.wF (Go.Proofs.Ytfpnadmpmfcaaaa.rdF (Go.Proofs.Ytfpnadmpmfcaaaa.rdF l.length (Go.Proofs.Ytfpnadmpmfcaaaa.wF l)).length (Go.Proofs.Ytfpnadmpmfcaaaa.wF (Go.Proofs.Ytfpnadmpmfcaaaa.rdF l.length (Go.Proofs.Ytfpnadmpmfcaaaa.wF l)))))) lim (Go.Proofs.Ytfpnadmpmfcaaaa.CdI.mk (Go.Proofs.Ytfpnadmpmfcaaaa.rdKs (Go.Proofs.Ytfpnadmpmfcaaaa.mpF (Go.Proofs.Ytfpnadmpmfcaaaa.rdF (Go.Proofs.Ytfpnadmpmfcaaaa.rdF l.length (Go.Proofs.Ytfpnadmpmfcaaaa.wF l)).length (Go.Proofs.Ytfpnadmpmfcaaaa.wF (Go.Proofs.Ytfpnadmpmfcaaaa.rdF l.length (Go.Proofs.Ytfpnadmpmfcaaaa.wF l)))) (Go.Proofs.Ytfpnadmpmfcaaaa.rootK (Go.Proofs.Ytfpnadmpmfcaaaa.rdF (Go.Proofs.Ytfpnadmpmfcaaaa.rdF l.length (Go.Proofs.Ytfpnadmpmfcaaaa.wF l)).length (Go.Proofs.Ytfpnadmpmfcaaaa.wF (Go.Proofs.Ytfpnadmpmfcaaaa.rdF l.length (Go.Proofs.Ytfpnadmpmfcaaaa.wF l)))) (Go.Proofs.Ytfpnadmpmfcaaaa.rdF (Go.Proofs.Ytfpnadmpmfcaaaa.rdF rs.length (Go.Proofs.Ytfpnadmpmfcaaaa.wF rs)).length (Go.Proofs.Ytfpnadmpmfcaaaa.wF (Go.Proofs.Ytfpnadmpmfcaaaa.rdF rs.length (Go.Proofs.Ytfpnadmpmfcaaaa.wF rs))))) (0 : Nat))) (0 : Nat))) ∧
                     (True ∧
                      R (SV.tup [SV.agg [SV.dt (Dt.arr ((3 : Nat)) ((Go.Proofs.Ytfpnadmpmfcaaaa.cook (Go.Proofs.Ytfpnadmpmfcaaaa.rdF (Go.Proofs.Ytfpnadmpmfcaaaa.rdF (Go.Proofs.Ytfpnadmpmfcaaaa.rdF l.length (Go.Proofs.Ytfpnadmpmfcaaaa.wF l)).length (Go.Proofs.Ytfpnadmpmfcaaaa.wF (Go.Proofs.Ytfpnadmpmfcaaaa.rdF l.length (Go.Proofs.Ytfpnadmpmfcaaaa.wF l)))).length (Go.Proofs.Ytfpnadmpmfcaaaa.wF (Go.Proofs.Ytfpnadmpmfcaaaa.rdF (Go.Proofs.Ytfpnadmpmfcaaaa.rdF l.length (Go.Proofs.Ytfpnadmpmfcaaaa.wF l)).length (Go.Proofs.Ytfpnadmpmfcaaaa.wF (Go.Proofs.Ytfpnadmpmfcaaaa.rdF l.length (Go.Proofs.Ytfpnadmpmfcaaaa.wF l)))))) (Go.Proofs.Ytfpnadmpmfcaaaa.runS (Go.Proofs.Ytfpnadmpmfcaaaa.rdF (Go.Proofs.Ytfpnadmpmfcaaaa.rdF (Go.Proofs.Ytfpnadmpmfcaaaa.rdF l.length (Go.Proofs.Ytfpnadmpmfcaaaa.wF l)).length (Go.Proofs.Ytfpnadmpmfcaaaa.wF (Go.Proofs.Ytfpnadmpmfcaaaa.rdF l.length (Go.Proofs.Ytfpnadmpmfcaaaa.wF l)))).length (Go.Proofs.Ytfpnadmpmfcaaaa.wF (Go.Proofs.Ytfpnadmpmfcaaaa.rdF (Go.Proofs.Ytfpnadmpmfcaaaa.rdF l.length (Go.Proofs.Ytfpnadmpmfcaaaa.wF l)).length (Go.Proofs.Ytfpnadmpmfcaaaa.wF (Go.Proofs.Ytfpnadmpmfcaaaa.rdF l.length (Go.Proofs.Ytfpnadmpmfcaaaa.wF l)))))) (Go.Proofs.Ytfpnadmpmfcaaaa.rdKs (Go.Proofs.Ytfpnadmpmfcaaaa.mpF (Go.Proofs.Ytfpnadmpmfcaaaa.rdF (Go.Proofs.Ytfpnadmpmfcaaaa.rdF l.length (Go.Proofs.Ytfpnadmpmfcaaaa.wF l)).length (Go.Proofs.Ytfpnadmpmfcaaaa.wF (Go.Proofs.Ytfpnadmpmfcaaaa.rdF l.length (Go.Proofs.Ytfpnadmpmfcaaaa.wF l)))) (Go.Proofs.Ytfpnadmpmfcaaaa.rootK (Go.Proofs.Ytfpnadmpmfcaaaa.rdF (Go.Proofs.Ytfpnadmpmfcaaaa.rdF l.length (Go.Proofs.Ytfpnadmpmfcaaaa.wF l)).length (Go.Proofs.Ytfpnadmpmfcaaaa.wF (Go.Proofs.Ytfpnadmpmfcaaaa.rdF l.length (Go.Proofs.Ytfpnadmpmfcaaaa.wF l)))) (Go.Proofs.Ytfpnadmpmfcaaaa.rdF (Go.Proofs.Ytfpnadmpmfcaaaa.rdF rs.length (Go.Proofs.Ytfpnadmpmfcaaaa.wF rs)).length (Go.Proofs.Ytfpnadmpmfcaaaa.wF (Go.Proofs.Ytfpnadmpmfcaaaa.rdF rs.length (Go.Proofs.Ytfpnadmpmfcaaaa.wF rs))))) (0 : Nat))) (Go.Proofs.Ytfpnadmpmfcaaaa.cdA (Go.Proofs.Ytfpnadmpmfcaaaa.rdF (Go.Proofs.Ytfpnadmpmfcaaaa.rdF (Go.Proofs.Ytfpnadmpmfcaaaa.rdF l.length (Go.Proofs.Ytfpnadmpmfcaaaa.wF l)).length (Go.Proofs.Ytfpnadmpmfcaaaa.wF (Go.Proofs.Ytfpnadmpmfcaaaa.rdF l.length (Go.Proofs.Ytfpnadmpmfcaaaa.wF l)))).length (Go.Proofs.Ytfpnadmpmfcaaaa.wF (Go.Proofs.Ytfpnadmpmfcaaaa.rdF (Go.Proofs.Ytfpnadmpmfcaaaa.rdF l.length (Go.Proofs.Ytfpnadmpmfcaaaa.wF l)).length (Go.Proofs.Ytfpnadmpmfcaaaa.wF (Go.Proofs.Ytfpnadmpmfcaaaa.rdF l.length (Go.Proofs.Ytfpnadmpmfcaaaa.wF l)))))) (Go.Proofs.Ytfpnadmpmfcaaaa.CdI.mk (Go.Proofs.Ytfpnadmpmfcaaaa.rdKs (Go.Proofs.Ytfpnadmpmfcaaaa.mpF (Go.Proofs.Ytfpnadmpmfcaaaa.rdF (Go.Proofs.Ytfpnadmpmfcaaaa.rdF l.length (Go.Proofs.Ytfpnadmpmfcaaaa.wF l)).length (Go.Proofs.Ytfpnadmpmfcaaaa.wF (Go.Proofs.Ytfpnadmpmfcaaaa.rdF l.length (Go.Proofs.Ytfpnadmpmfcaaaa.wF l)))) (Go.Proofs.Ytfpnadmpmfcaaaa.rootK (Go.Proofs.Ytfpnadmpmfcaaaa.rdF (Go.Proofs.Ytfpnadmpmfcaaaa.rdF l.length (Go.Proofs.Ytfpnadmpmfcaaaa.wF l)).length (Go.Proofs.Ytfpnadmpmfcaaaa.wF (Go.Proofs.Ytfpnadmpmfcaaaa.rdF l.length (Go.Proofs.Ytfpnadmpmfcaaaa.wF l)))) (Go.Proofs.Ytfpnadmpmfcaaaa.rdF (Go.Proofs.Ytfpnadmpmfcaaaa.rdF rs.length (Go.Proofs.Ytfpnadmpmfcaaaa.wF rs)).length (Go.Proofs.Ytfpnadmpmfcaaaa.wF (Go.Proofs.Ytfpnadmpmfcaaaa.rdF rs.length (Go.Proofs.Ytfpnadmpmfcaaaa.wF rs))))) (0 : Nat))) (0 : Nat)))) (Go.Proofs.Ytfpnadmpmfcaaaa.rawTo (Go.Proofs.Ytfpnadmpmfcaaaa.rdF (Go.Proofs.Ytfpnadmpmfcaaaa.rdF (Go.Proofs.Ytfpnadmpmfcaaaa.rdF l.length (Go.Proofs.Ytfpnadmpmfcaaaa.wF l)).length (Go.Proofs.Ytfpnadmpmfcaaaa.wF (Go.Proofs.Ytfpnadmpmfcaaaa.rdF l.length (Go.Proofs.Ytfpnadmpmfcaaaa.wF l)))).length (Go.Proofs.Ytfpnadmpmfcaaaa.wF (Go.Proofs.Ytfpnadmpmfcaaaa.rdF (Go.Proofs.Ytfpnadmpmfcaaaa.rdF l.length (Go.Proofs.Ytfpnadmpmfcaaaa.wF l)).length (Go.Proofs.Ytfpnadmpmfcaaaa.wF (Go.Proofs.Ytfpnadmpmfcaaaa.rdF l.length (Go.Proofs.Ytfpnadmpmfcaaaa.wF l)))))) (Go.Proofs.Ytfpnadmpmfcaaaa.runS (Go.Proofs.Ytfpnadmpmfcaaaa.rdF (Go.Proofs.Ytfpnadmpmfcaaaa.rdF (Go.Proofs.Ytfpnadmpmfcaaaa.rdF l.length (Go.Proofs.Ytfpnadmpmfcaaaa.wF l)).length (Go.Proofs.Ytfpnadmpmfcaaaa.wF (Go.Proofs.Ytfpnadmpmfcaaaa.rdF l.length (Go.Proofs.Ytfpnadmpmfcaaaa.wF l)))).length (Go.Proofs.Ytfpnadmpmfcaaaa.wF (Go.Proofs.Ytfpnadmpmfcaaaa.rdF (Go.Proofs.Ytfpnadmpmfcaaaa.rdF l.length (Go.Proofs.Ytfpnadmpmfcaaaa.wF l)).length (Go.Proofs.Ytfpnadmpmfcaaaa.wF (Go.Proofs.Ytfpnadmpmfcaaaa.rdF l.length (Go.Proofs.Ytfpnadmpmfcaaaa.wF l)))))) (Go.Proofs.Ytfpnadmpmfcaaaa.rdKs (Go.Proofs.Ytfpnadmpmfcaaaa.mpF (Go.Proofs.Ytfpnadmpmfcaaaa.rdF (Go.Proofs.Ytfpnadmpmfcaaaa.rdF l.length (Go.Proofs.Ytfpnadmpmfcaaaa.wF l)).length (Go.Proofs.Ytfpnadmpmfcaaaa.wF (Go.Proofs.Ytfpnadmpmfcaaaa.rdF l.length (Go.Proofs.Ytfpnadmpmfcaaaa.wF l)))) (Go.Proofs.Ytfpnadmpmfcaaaa.rootK (Go.Proofs.Ytfpnadmpmfcaaaa.rdF (Go.Proofs.Ytfpnadmpmfcaaaa.rdF l.length (Go.Proofs.Ytfpnadmpmfcaaaa.wF l)).length (Go.Proofs.Ytfpnadmpmfcaaaa.wF (Go.Proofs.Ytfpnadmpmfcaaaa.rdF l.length (Go.Proofs.Ytfpnadmpmfcaaaa.wF l)))) (Go.Proofs.Ytfpnadmpmfcaaaa.rdF (Go.Proofs.Ytfpnadmpmfcaaaa.rdF rs.length (Go.Proofs.Ytfpnadmpmfcaaaa.wF rs)).length (Go.Proofs.Ytfpnadmpmfcaaaa.wF (Go.Proofs.Ytfpnadmpmfcaaaa.rdF rs.length (Go.Proofs.Ytfpnadmpmfcaaaa.wF rs))))) (0 : Nat))) (Go.Proofs.Ytfpnadmpmfcaaaa.cdA (Go.Proofs.Ytfpnadmpmfcaaaa.rdF (Go.Proofs.Ytfpnadmpmfcaaaa.rdF (Go.Proofs.Ytfpnadmpmfcaaaa.rdF l.length (Go.Proofs.Ytfpnadmpmfcaaaa.wF l)).length (Go.Proofs.Ytfpnadmpmfcaaaa.wF (Go.Proofs.Ytfpnadmpmfcaaaa.rdF l.length (Go.Proofs.Ytfpnadmpmfcaaaa.wF l)))).length (Go.Proofs.Ytfpnadmpmfcaaaa.wF (Go.Proofs.Ytfpnadmpmfcaaaa.rdF (Go.Proofs.Ytfpnadmpmfcaaaa.rdF l.length (Go.Proofs.Ytfpnadmpmfcaaaa.wF l)).length (Go.Proofs.Ytfpnadmpmfcaaaa.wF (Go.Proofs.Ytfpnadmpmfcaaaa.rdF l.length (Go.Proofs.Ytfpnadmpmfcaaaa.wF l)))))) (Go.Proofs.Ytfpnadmpmfcaaaa.CdI.mk (Go.Proofs.Ytfpnadmpmfcaaaa.rdKs (Go.Proofs.Ytfpnadmpmfcaaaa.mpF (Go.Proofs.Ytfpnadmpmfcaaaa.rdF (Go.Proofs.Ytfpnadmpmfcaaaa.rdF l.length (Go.Proofs.Ytfpnadmpmfcaaaa.wF l)).length (Go.Proofs.Ytfpnadmpmfcaaaa.wF (Go.Proofs.Ytfpnadmpmfcaaaa.rdF l.length (Go.Proofs.Ytfpnadmpmfcaaaa.wF l)))) (Go.Proofs.Ytfpnadmpmfcaaaa.rootK (Go.Proofs.Ytfpnadmpmfcaaaa.rdF (Go.Proofs.Ytfpnadmpmfcaaaa.rdF l.length (Go.Proofs.Ytfpnadmpmfcaaaa.wF l)).length (Go.Proofs.Ytfpnadmpmfcaaaa.wF (Go.Proofs.Ytfpnadmpmfcaaaa.rdF l.length (Go.Proofs.Ytfpnadmpmfcaaaa.wF l)))) (Go.Proofs.Ytfpnadmpmfcaaaa.rdF (Go.Proofs.Ytfpnadmpmfcaaaa.rdF rs.length (Go.Proofs.Ytfpnadmpmfcaaaa.wF rs)).length (Go.Proofs.Ytfpnadmpmfcaaaa.wF (Go.Proofs.Ytfpnadmpmfcaaaa.rdF rs.length (Go.Proofs.Ytfpnadmpmfcaaaa.wF rs))))) (0 : Nat))) (0 : Nat))))).length).length) (Go.Proofs.Ytfpnadmpmfcaaaa.wF (Go.Proofs.Ytfpnadmpmfcaaaa.cook (Go.Proofs.Ytfpnadmpmfcaaaa.rdF (Go.Proofs.Ytfpnadmpmfcaaaa.rdF (Go.Proofs.Ytfpnadmpmfcaaaa.rdF l.length (Go.Proofs.Ytfpnadmpmfcaaaa.wF l)).length (Go.Proofs.Ytfpnadmpmfcaaaa.wF (Go.Proofs.Ytfpnadmpmfcaaaa.rdF l.length (Go.Proofs.Ytfpnadmpmfcaaaa.wF l)))).length (Go.Proofs.Ytfpnadmpmfcaaaa.wF (Go.Proofs.Ytfpnadmpmfcaaaa.rdF (Go.Proofs.Ytfpnadmpmfcaaaa.rdF l.length (Go.Proofs.Ytfpnadmpmfcaaaa.wF l)).length (Go.Proofs.Ytfpnadmpmfcaaaa.wF (Go.Proofs.Ytfpnadmpmfcaaaa.rdF l.length (Go.Proofs.Ytfpnadmpmfcaaaa.wF l)))))) (Go.Proofs.Ytfpnadmpmfcaaaa.runS (Go.Proofs.Ytfpnadmpmfcaaaa.rdF (Go.Proofs.Ytfpnadmpmfcaaaa.rdF (Go.Proofs.Ytfpnadmpmfcaaaa.rdF l.length (Go.Proofs.Ytfpnadmpmfcaaaa.wF l)).length (Go.Proofs.Ytfpnadmpmfcaaaa.wF (Go.Proofs.Ytfpnadmpmfcaaaa.rdF l.length (Go.Proofs.Ytfpnadmpmfcaaaa.wF l)))).length (Go.Proofs.Ytfpnadmpmfcaaaa.wF (Go.Proofs.Ytfpnadmpmfcaaaa.rdF (Go.Proofs.Ytfpnadmpmfcaaaa.rdF l.length (Go.Proofs.Ytfpnadmpmfcaaaa.wF l)).length (Go.Proofs.Ytfpnadmpmfcaaaa.wF (Go.Proofs.Ytfpnadmpmfcaaaa.rdF l.length (Go.Proofs.Ytfpnadmpmfcaaaa.wF l)))))) (Go.Proofs.Ytfpnadmpmfcaaaa.rdKs (Go.Proofs.Ytfpnadmpmfcaaaa.mpF (Go.Proofs.Ytfpnadmpmfcaaaa.rdF (Go.Proofs.Ytfpnadmpmfcaaaa.rdF l.length (Go.Proofs.Ytfpnadmpmfcaaaa.wF l)).length (Go.Proofs.Ytfpnadmpmfcaaaa.wF (Go.Proofs.Ytfpnadmpmfcaaaa.rdF l.length (Go.Proofs.Ytfpnadmpmfcaaaa.wF l)))) (Go.Proofs.Ytfpnadmpmfcaaaa.rootK (Go.Proofs.Ytfpnadmpmfcaaaa.rdF (Go.Proofs.Ytfpnadmpmfcaaaa.rdF l.length (Go.Proofs.Ytfpnadmpmfcaaaa.wF l)).length (Go.Proofs.Ytfpnadmpmfcaaaa.wF (Go.Proofs.Ytfpnadmpmfcaaaa.rdF l.length (Go.Proofs.Ytfpnadmpmfcaaaa.wF l)))) (Go.Proofs.Ytfpnadmpmfcaaaa.rdF (Go.Proofs.Ytfpnadmpmfcaaaa.rdF rs.length (Go.Proofs.Ytfpnadmpmfcaaaa.wF rs)).length (Go.Proofs.Ytfpnadmpmfcaaaa.wF (Go.Proofs.Ytfpnadmpmfcaaaa.rdF rs.length (Go.Proofs.Ytfpnadmpmfcaaaa.wF rs))))) (0 : Nat))) (Go.Proofs.Ytfpnadmpmfcaaaa.cdA (Go.Proofs.Ytfpnadmpmfcaaaa.rdF (Go.Proofs.Ytfpnadmpmfcaaaa.rdF (Go.Proofs.Ytfpnadmpmfcaaaa.rdF l.length (Go.Proofs.Ytfpnadmpmfcaaaa.wF l)).length (Go.Proofs.Ytfpnadmpmfcaaaa.wF (Go.Proofs.Ytfpnadmpmfcaaaa.rdF l.length (Go.Proofs.Ytfpnadmpmfcaaaa.wF l)))).length (Go.Proofs.Ytfpnadmpmfcaaaa.wF (Go.Proofs.Ytfpnadmpmfcaaaa.rdF (Go.Proofs.Ytfpnadmpmfcaaaa.rdF l.length (Go.Proofs.Ytfpnadmpmfcaaaa.wF l)).length (Go.Proofs.Ytfpnadmpmfcaaaa.wF (Go.Proofs.Ytfpnadmpmfcaaaa.rdF l.length (Go.Proofs.Ytfpnadmpmfcaaaa.wF l)))))) (Go.Proofs.Ytfpnadmpmfcaaaa.CdI.mk (Go.Proofs.Ytfpnadmpmfcaaaa.rdKs (Go.Proofs.Ytfpnadmpmfcaaaa.mpF (Go.Proofs.Ytfpnadmpmfcaaaa.rdF (Go.Proofs.Ytfpnadmpmfcaaaa.rdF l.length (Go.Proofs.Ytfpnadmpmfcaaaa.wF l)).length (Go.Proofs.Ytfpnadmpmfcaaaa.wF (Go.Proofs.Ytfpnadmpmfcaaaa.rdF l.length (Go.Proofs.Ytfpnadmpmfcaaaa.wF l)))) (Go.Proofs.Ytfpnadmpmfcaaaa.rootK (Go.Proofs.Ytfpnadmpmfcaaaa.rdF (Go.Proofs.Ytfpnadmpmfcaaaa.rdF l.length (Go.Proofs.Ytfpnadmpmfcaaaa.wF l)).length (Go.Proofs.Ytfpnadmpmfcaaaa.wF (Go.Proofs.Ytfpnadmpmfcaaaa.rdF l.length (Go.Proofs.Ytfpnadmpmfcaaaa.wF l)))) (Go.Proofs.Ytfpnadmpmfcaaaa.rdF (Go.Proofs.Ytfpnadmpmfcaaaa.rdF rs.length (Go.Proofs.Ytfpnadmpmfcaaaa.wF rs)).length (Go.Proofs.Ytfpnadmpmfcaaaa.wF (Go.Proofs.Ytfpnadmpmfcaaaa.rdF rs.length (Go.Proofs.Ytfpnadmpmfcaaaa.wF rs))))) (0 : Nat))) (0 : Nat)))) (Go.Proofs.Ytfpnadmpmfcaaaa.rawTo (Go.Proofs.Ytfpnadmpmfcaaaa.rdF (Go.Proofs.Ytfpnadmpmfcaaaa.rdF (Go.Proofs.Ytfpnadmpmfcaaaa.rdF l.length (Go.Proofs.Ytfpnadmpmfcaaaa.wF l)).length (Go.Proofs.Ytfpnadmpmfcaaaa.wF (Go.Proofs.Ytfpnadmpmfcaaaa.rdF l.length (Go.Proofs.Ytfpnadmpmfcaaaa.wF l)))).length (Go.Proofs.Ytfpnadmpmfcaaaa.wF (Go.Proofs.Ytfpnadmpmfcaaaa.rdF (Go.Proofs.Ytfpnadmpmfcaaaa.rdF l.length (Go.Proofs.Ytfpnadmpmfcaaaa.wF l)).length (Go.Proofs.Ytfpnadmpmfcaaaa.wF (Go.Proofs.Ytfpnadmpmfcaaaa.rdF l.length (Go.Proofs.Ytfpnadmpmfcaaaa.wF l)))))) (Go.Proofs.Ytfpnadmpmfcaaaa.runS (Go.Proofs.Ytfpnadmpmfcaaaa.rdF (Go.Proofs.Ytfpnadmpmfcaaaa.rdF (Go.Proofs.Ytfpnadmpmfcaaaa.rdF l.length (Go.Proofs.Ytfpnadmpmfcaaaa.wF l)).length (Go.Proofs.Ytfpnadmpmfcaaaa.wF (Go.Proofs.Ytfpnadmpmfcaaaa.rdF l.length (Go.Proofs.Ytfpnadmpmfcaaaa.wF l)))).length (Go.Proofs.Ytfpnadmpmfcaaaa.wF (Go.Proofs.Ytfpnadmpmfcaaaa.rdF (Go.Proofs.Ytfpnadmpmfcaaaa.rdF l.length (Go.Proofs.Ytfpnadmpmfcaaaa.wF l)).length (Go.Proofs.Ytfpnadmpmfcaaaa.wF (Go.Proofs.Ytfpnadmpmfcaaaa.rdF l.length (Go.Proofs.Ytfpnadmpmfcaaaa.wF l)))))) (Go.Proofs.Ytfpnadmpmfcaaaa.rdKs (Go.Proofs.Ytfpnadmpmfcaaaa.mpF (Go.Proofs.Ytfpnadmpmfcaaaa.rdF (Go.Proofs.Ytfpnadmpmfcaaaa.rdF l.length (Go.Proofs.Ytfpnadmpmfcaaaa.wF l)).length (Go.Proofs.Ytfpnadmpmfcaaaa.wF (Go.Proofs.Ytfpnadmpmfcaaaa.rdF l.length (Go.Proofs.Ytfpnadmpmfcaaaa.wF l)))) (Go.Proofs.Ytfpnadmpmfcaaaa.rootK (Go.Proofs.Ytfpnadmpmfcaaaa.rdF (Go.Proofs.Ytfpnadmpmfcaaaa.rdF l.length (Go.Proofs.Ytfpnadmpmfcaaaa.wF l)).length (Go.Proofs.Ytfpnadmpmfcaaaa.wF (Go.Proofs.Ytfpnadmpmfcaaaa.rdF l.length (Go.Proofs.Ytfpnadmpmfcaaaa.wF l)))) (Go.Proofs.Ytfpnadmpmfcaaaa.rdF (Go.Proofs.Ytfpnadmpmfcaaaa.rdF rs.length (Go.Proofs.Ytfpnadmpmfcaaaa.wF rs)).length (Go.Proofs.Ytfpnadmpmfcaaaa.wF (Go.Proofs.Ytfpnadmpmfcaaaa.rdF rs.length (Go.Proofs.Ytfpnadmpmfcaaaa.wF rs))))) (0 : Nat))) (Go.Proofs.Ytfpnadmpmfcaaaa.cdA (Go.Proofs.Ytfpnadmpmfcaaaa.rdF (Go.Proofs.Ytfpnadmpmfcaaaa.rdF (Go.Proofs.Ytfpnadmpmfcaaaa.rdF l.length (Go.Proofs.Ytfpnadmpmfcaaaa.wF l)).length (Go.Proofs.Ytfpnadmpmfcaaaa.wF (Go.Proofs.Ytfpnadmpmfcaaaa.rdF l.length (Go.Proofs.Ytfpnadmpmfcaaaa.wF l)))).length (Go.Proofs.Ytfpnadmpmfcaaaa.wF (Go.Proofs.Ytfpnadmpmfcaaaa.rdF (Go.Proofs.Ytfpnadmpmfcaaaa.rdF l.length (Go.Proofs.Ytfpnadmpmfcaaaa.wF l)).length (Go.Proofs.Ytfpnadmpmfcaaaa.wF (Go.Proofs.Ytfpnadmpmfcaaaa.rdF l.length (Go.Proofs.Ytfpnadmpmfcaaaa.wF l)))))) (Go.Proofs.Ytfpnadmpmfcaaaa.CdI.mk (Go.Proofs.Ytfpnadmpmfcaaaa.rdKs (Go.Proofs.Ytfpnadmpmfcaaaa.mpF (Go.Proofs.Ytfpnadmpmfcaaaa.rdF (Go.Proofs.Ytfpnadmpmfcaaaa.rdF l.length (Go.Proofs.Ytfpnadmpmfcaaaa.wF l)).length (Go.Proofs.Ytfpnadmpmfcaaaa.wF (Go.Proofs.Ytfpnadmpmfcaaaa.rdF l.length (Go.Proofs.Ytfpnadmpmfcaaaa.wF l)))) (Go.Proofs.Ytfpnadmpmfcaaaa.rootK (Go.Proofs.Ytfpnadmpmfcaaaa.rdF (Go.Proofs.Ytfpnadmpmfcaaaa.rdF l.length (Go.Proofs.Ytfpnadmpmfcaaaa.wF l)).length (Go.Proofs.Ytfpnadmpmfcaaaa.wF (Go.Proofs.Ytfpnadmpmfcaaaa.rdF l.length (Go.Proofs.Ytfpnadmpmfcaaaa.wF l)))) (Go.Proofs.Ytfpnadmpmfcaaaa.rdF (Go.Proofs.Ytfpnadmpmfcaaaa.rdF rs.length (Go.Proofs.Ytfpnadmpmfcaaaa.wF rs)).length (Go.Proofs.Ytfpnadmpmfcaaaa.wF (Go.Proofs.Ytfpnadmpmfcaaaa.rdF rs.length (Go.Proofs.Ytfpnadmpmfcaaaa.wF rs))))) (0 : Nat))) (0 : Nat))))).length))), SV.dt (Dt.cell (Go.Value.int Go.IntKind.i64 lim))], SV.dt (Dt.arr ((3 : Nat)) ((Go.Proofs.Ytfpnadmpmfcaaaa.rdF (List.map (Go.Proofs.Ytfpnadmpmfcaaaa.imgW (Go.Proofs.Ytfpnadmpmfcaaaa.rdF (Go.Proofs.Ytfpnadmpmfcaaaa.rdF l.length (Go.Proofs.Ytfpnadmpmfcaaaa.wF l)).length (Go.Proofs.Ytfpnadmpmfcaaaa.wF (Go.Proofs.Ytfpnadmpmfcaaaa.rdF l.length (Go.Proofs.Ytfpnadmpmfcaaaa.wF l)))) (Go.Proofs.Ytfpnadmpmfcaaaa.rootK (Go.Proofs.Ytfpnadmpmfcaaaa.rdF (Go.Proofs.Ytfpnadmpmfcaaaa.rdF l.length (Go.Proofs.Ytfpnadmpmfcaaaa.wF l)).length (Go.Proofs.Ytfpnadmpmfcaaaa.wF (Go.Proofs.Ytfpnadmpmfcaaaa.rdF l.length (Go.Proofs.Ytfpnadmpmfcaaaa.wF l)))) (Go.Proofs.Ytfpnadmpmfcaaaa.rdF (Go.Proofs.Ytfpnadmpmfcaaaa.rdF rs.length (Go.Proofs.Ytfpnadmpmfcaaaa.wF rs)).length (Go.Proofs.Ytfpnadmpmfcaaaa.wF (Go.Proofs.Ytfpnadmpmfcaaaa.rdF rs.length (Go.Proofs.Ytfpnadmpmfcaaaa.wF rs)))))) (Go.Proofs.Ytfpnadmpmfcaaaa.rdF (Go.Proofs.Ytfpnadmpmfcaaaa.rdF rs.length (Go.Proofs.Ytfpnadmpmfcaaaa.wF rs)).length (Go.Proofs.Ytfpnadmpmfcaaaa.wF (Go.Proofs.Ytfpnadmpmfcaaaa.rdF rs.length (Go.Proofs.Ytfpnadmpmfcaaaa.wF rs))))).length (Go.Proofs.Ytfpnadmpmfcaaaa.wF (List.map (Go.Proofs.Ytfpnadmpmfcaaaa.imgW (Go.Proofs.Ytfpnadmpmfcaaaa.rdF (Go.Proofs.Ytfpnadmpmfcaaaa.rdF l.length (Go.Proofs.Ytfpnadmpmfcaaaa.wF l)).length (Go.Proofs.Ytfpnadmpmfcaaaa.wF (Go.Proofs.Ytfpnadmpmfcaaaa.rdF l.length (Go.Proofs.Ytfpnadmpmfcaaaa.wF l)))) (Go.Proofs.Ytfpnadmpmfcaaaa.rootK (Go.Proofs.Ytfpnadmpmfcaaaa.rdF (Go.Proofs.Ytfpnadmpmfcaaaa.rdF l.length (Go.Proofs.Ytfpnadmpmfcaaaa.wF l)).length (Go.Proofs.Ytfpnadmpmfcaaaa.wF (Go.Proofs.Ytfpnadmpmfcaaaa.rdF l.length (Go.Proofs.Ytfpnadmpmfcaaaa.wF l)))) (Go.Proofs.Ytfpnadmpmfcaaaa.rdF (Go.Proofs.Ytfpnadmpmfcaaaa.rdF rs.length (Go.Proofs.Ytfpnadmpmfcaaaa.wF rs)).length (Go.Proofs.Ytfpnadmpmfcaaaa.wF (Go.Proofs.Ytfpnadmpmfcaaaa.rdF rs.length (Go.Proofs.Ytfpnadmpmfcaaaa.wF rs)))))) (Go.Proofs.Ytfpnadmpmfcaaaa.rdF (Go.Proofs.Ytfpnadmpmfcaaaa.rdF rs.length (Go.Proofs.Ytfpnadmpmfcaaaa.wF rs)).length (Go.Proofs.Ytfpnadmpmfcaaaa.wF (Go.Proofs.Ytfpnadmpmfcaaaa.rdF rs.length (Go.Proofs.Ytfpnadmpmfcaaaa.wF rs))))))).length) (Go.Proofs.Ytfpnadmpmfcaaaa.wF (Go.Proofs.Ytfpnadmpmfcaaaa.rdF (List.map (Go.Proofs.Ytfpnadmpmfcaaaa.imgW (Go.Proofs.Ytfpnadmpmfcaaaa.rdF (Go.Proofs.Ytfpnadmpmfcaaaa.rdF l.length (Go.Proofs.Ytfpnadmpmfcaaaa.wF l)).length (Go.Proofs.Ytfpnadmpmfcaaaa.wF (Go.Proofs.Ytfpnadmpmfcaaaa.rdF l.length (Go.Proofs.Ytfpnadmpmfcaaaa.wF l)))) (Go.Proofs.Ytfpnadmpmfcaaaa.rootK (Go.Proofs.Ytfpnadmpmfcaaaa.rdF (Go.Proofs.Ytfpnadmpmfcaaaa.rdF l.length (Go.Proofs.Ytfpnadmpmfcaaaa.wF l)).length (Go.Proofs.Ytfpnadmpmfcaaaa.wF (Go.Proofs.Ytfpnadmpmfcaaaa.rdF l.length (Go.Proofs.Ytfpnadmpmfcaaaa.wF l)))) (Go.Proofs.Ytfpnadmpmfcaaaa.rdF (Go.Proofs.Ytfpnadmpmfcaaaa.rdF rs.length (Go.Proofs.Ytfpnadmpmfcaaaa.wF rs)).length (Go.Proofs.Ytfpnadmpmfcaaaa.wF (Go.Proofs.Ytfpnadmpmfcaaaa.rdF rs.length (Go.Proofs.Ytfpnadmpmfcaaaa.wF rs)))))) (Go.Proofs.Ytfpnadmpmfcaaaa.rdF (Go.Proofs.Ytfpnadmpmfcaaaa.rdF rs.length (Go.Proofs.Ytfpnadmpmfcaaaa.wF rs)).length (Go.Proofs.Ytfpnadmpmfcaaaa.wF (Go.Proofs.Ytfpnadmpmfcaaaa.rdF rs.length (Go.Proofs.Ytfpnadmpmfcaaaa.wF rs))))).length (Go.Proofs.Ytfpnadmpmfcaaaa.wF (List.map (Go.Proofs.Ytfpnadmpmfcaaaa.imgW (Go.Proofs.Ytfpnadmpmfcaaaa.rdF (Go.Proofs.Ytfpnadmpmfcaaaa.rdF l.length (Go.Proofs.Ytfpnadmpmfcaaaa.wF l)).length (Go.Proofs.Ytfpnadmpmfcaaaa.wF (Go.Proofs.Ytfpnadmpmfcaaaa.rdF l.length (Go.Proofs.Ytfpnadmpmfcaaaa.wF l)))) (Go.Proofs.Ytfpnadmpmfcaaaa.rootK (Go.Proofs.Ytfpnadmpmfcaaaa.rdF (Go.Proofs.Ytfpnadmpmfcaaaa.rdF l.length (Go.Proofs.Ytfpnadmpmfcaaaa.wF l)).length (Go.Proofs.Ytfpnadmpmfcaaaa.wF (Go.Proofs.Ytfpnadmpmfcaaaa.rdF l.length (Go.Proofs.Ytfpnadmpmfcaaaa.wF l)))) (Go.Proofs.Ytfpnadmpmfcaaaa.rdF (Go.Proofs.Ytfpnadmpmfcaaaa.rdF rs.length (Go.Proofs.Ytfpnadmpmfcaaaa.wF rs)).length (Go.Proofs.Ytfpnadmpmfcaaaa.wF (Go.Proofs.Ytfpnadmpmfcaaaa.rdF rs.length (Go.Proofs.Ytfpnadmpmfcaaaa.wF rs)))))) (Go.Proofs.Ytfpnadmpmfcaaaa.rdF (Go.Proofs.Ytfpnadmpmfcaaaa.rdF rs.length (Go.Proofs.Ytfpnadmpmfcaaaa.wF rs)).length (Go.Proofs.Ytfpnadmpmfcaaaa.wF (Go.Proofs.Ytfpnadmpmfcaaaa.rdF rs.length (Go.Proofs.Ytfpnadmpmfcaaaa.wF rs))))))))), SV.dt (Dt.cell (Go.Value.int Go.IntKind.i64 (0 : Int)))]) ([]))))))))) ∧
              (((List.drop (0 : Nat) (Go.Proofs.Ytfpnadmpmfcaaaa.rdF rs.length (Go.Proofs.Ytfpnadmpmfcaaaa.wF rs))).all (Go.Proofs.Ytfpnadmpmfcaaaa.wordOk (Go.Proofs.Ytfpnadmpmfcaaaa.rdF l.length (Go.Proofs.Ytfpnadmpmfcaaaa.wF l)) (List.map (fun x => x.fst.toNat) (Go.Proofs.Ytfpnadmpmfcaaaa.stM ((Go.Proofs.Ytfpnadmpmfcaaaa.startsS (Go.Proofs.Ytfpnadmpmfcaaaa.rdF l.length (Go.Proofs.Ytfpnadmpmfcaaaa.wF l))).getD [])))) = Bool.false) →
               (True ∧
                R (SV.tup [SV.agg [SV.dt (Dt.cell (Go.Value.slice Option.none (0 : Nat) (0 : Nat))), SV.ki Go.IntKind.i64 ((0 : Int))], SV.dt (Dt.cell (Go.Value.slice Option.none (0 : Nat) (0 : Nat))), SV.dt (Dt.cell (Go.Value.int Go.IntKind.i64 (3 : Int)))]) ([])))))))) ∧
         (((Go.Proofs.Ytfpnadmpmfcaaaa.startsS (Go.Proofs.Ytfpnadmpmfcaaaa.rdF l.length (Go.Proofs.Ytfpnadmpmfcaaaa.wF l))).isSome = Bool.false) →
          False)))))))))))
theorem coKs_ok : ∀ k ∈ coKs, k.2.2.Ok Try.prog := by
  have n : noF.Ok Try.prog := fun al ol args obs out h => by cases h
  exact all_cons checkF_ok (all_cons startsFC_ok (all_cons valueF_ok (all_cons n (all_cons n (all_cons mvF_ok (all_cons spanF_ok (all_cons mvF_ok all_nil)))))))

/-! ## plain laws -/
theorem addK_ext (l : List Wd) (ks : List Nat) (w : Wd) : ∃ x, addK l ks w = ks ++ x := by
  unfold addK
  split
  · exact ⟨_, rfl⟩
  · exact ⟨[], by simp⟩
theorem ki_0 (l : List Wd) : KI l [] 0 := ⟨List.nodup_nil, fun _ h => (by cases h), fun _ h => (by omega), Nat.zero_le _⟩
/-- behind some roots -/
theorem root_ki {l : List Wd} {lim : Int} (hc : checkB l lim = true) : ∀ (rs : List Wd) (ks : List Nat), KI l ks 0 → rs.all (valOk l) = true →
    KI l (rs.foldl (addK l) ks) 0 ∧ (∀ r ∈ rs, known l (rs.foldl (addK l) ks) r) ∧ ∃ x, rs.foldl (addK l) ks = ks ++ x
  | [], ks, h, _ => ⟨h, fun _ h => (by cases h), [], by simp⟩
  | r :: rs, ks, h, hv => by
    simp only [List.all_cons, Bool.and_eq_true] at hv
    obtain ⟨_, _, k1, k2, _⟩ := mv_st hc h hv.1
    obtain ⟨g1, g2, x, g3⟩ := root_ki hc rs (addK l ks r) k1 hv.2
    obtain ⟨y, hy⟩ := addK_ext l ks r
    refine ⟨g1, fun q hq => ?_, y ++ x, ?_⟩
    · rw [List.foldl_cons]
      rcases List.mem_cons.1 hq with rfl | hq
      · rw [g3]; exact known_ext _ k2
      · exact g2 q hq
    · rw [List.foldl_cons, g3, hy, List.append_assoc]
theorem rootK_succ {l rs : List Wd} {i : Nat} (h : i < rs.length) : rootK l (rs.take (i + 1)) = addK l (rootK l (rs.take i)) (rs.getD i default) := by
  unfold rootK
  rw [List.take_add_one, List.foldl_append]
  simp [h]
theorem all_take {l rs : List Wd} (h : rs.all (valOk l) = true) (i : Nat) : (rs.take i).all (valOk l) = true := by
  rw [List.all_eq_true] at h ⊢
  exact fun x hx => h x (List.mem_of_mem_take hx)
theorem all_get {l rs : List Wd} (h : rs.all (valOk l) = true) {i : Nat} (hi : i < rs.length) : valOk l (rs.getD i default) = true := by
  rw [List.all_eq_true] at h
  apply h
  rw [List.getD_eq_getElem?_getD, List.getElem?_eq_getElem hi]
  exact List.getElem_mem _
theorem cbOs_succ {l rs : List Wd} {lim : Int} (hc : checkB l lim = true) (hv : rs.all (valOk l) = true) {i : Nat} (hi : i < rs.length) : cbOs l rs (i + 1) = cbOs l rs i ++ [imgW l (rootK l (rs.take (i + 1))) (rs.getD i default)] := by
  obtain ⟨k1, k2, _⟩ := root_ki hc (rs.take i) [] (ki_0 l) (all_take hv i)
  obtain ⟨x, hx⟩ := addK_ext l (rootK l (rs.take i)) (rs.getD i default)
  unfold cbOs
  have e : rs.take (i + 1) = rs.take i ++ [rs.getD i default] := by
    rw [List.take_add_one]
    simp [hi]
  conv => lhs; rw [show (List.map (imgW l (rootK l (rs.take (i + 1)))) (rs.take (i + 1))) = List.map (imgW l (rootK l (rs.take (i + 1)))) (rs.take i ++ [rs.getD i default]) from by rw [← e]]
  rw [List.map_append]
  congr 1
  apply List.map_congr_left
  intro r hr
  rw [rootK_succ hi, hx]
  exact imgW_ext k1.sp (k2 r hr)

/-! ## the loops -/
theorem caLoop_ok (x : CaI) : Sound coE (.loop caLoop) (mkSt (caLF.live.h.zip (caArgs x.rs x.i)) (caObs x.l x.lim x.acc)) ((caOut x).map (OutC.st caLF.live)) := by
  refine loop_fn mixed coKs_ok (fun c hc => by rw [show loopsOf caLoop = [] from by kernel_rfl] at hc; cases hc) caLF.live (fun x => caArgs x.rs x.i) (fun x => caObs x.l x.lim x.acc) caOut (fun x => x.rs.length - x.i) (Q := fun x Rn Re => caQ x.l x.lim x.acc x.rs x.i Rn Re) ?_ (fun ⟨l, lim, acc, rs, i⟩ Rn Re => by kernel_rfl) x
  rintro ⟨l, lim, acc, rs, i⟩ post hp
  obtain ⟨hlen, hp1, hp2⟩ := hp
  have hlen : rs.length ≤ 1000000 := hlen
  have hp1 : (rs.drop i).all (wordOk l acc) = true → post (.exit 0, [wD rs, .ptr 0 0, .ptr 1 0], [some (.cells 25 [wD l, vI .i64 lim]), some (.cells 25 [.junk, .junk])]) := hp1
  have hp2 : (rs.drop i).all (wordOk l acc) = false → post (.ret, [.ptr 0 0, nilS, .ki .i64 3], [some noHO]) := hp2
  have leafR : i < rs.length → wordOk l acc (at' rs i) = false → Outs post .ret [.ptr 0 0, nilS, vI .i64 3] [some noHO] := by
    intro h1 h2
    refine Outs.mk (hp2 ?_) ?_ (leOO_refl _)
    · rw [at'_drop h1, List.all_cons, h2]; rfl
    · simp only [leL_cons, leS_self, leL_nil, and_true, true_and, leS_dki]
  have leafE : ¬ i < rs.length → Outs post (.exit 0) [wD rs, .ptr 0 0, .ptr 1 0] [some (.cells 25 [wD l, vI .i64 lim]), some (.cells 25 [.junk, .junk])] := by
    intro h1
    refine Outs.mk (hp1 ?_) (leL_refl _) (leOO_refl _)
    rw [List.drop_of_length_le (by omega)]; rfl
  have leafN : i < rs.length → wordOk l acc (at' rs i) = true → ∃ x' : CaI, x'.rs.length - x'.i < rs.length - i ∧ leL [wD rs, .ptr 0 0, .ptr 1 0, .nm 2, wD rs, vI .i64 rs.length, vI .i64 ((i : Int) + 1)] (caArgs x'.rs x'.i) ∧ leOO (caObs l lim acc) (caObs x'.l x'.lim x'.acc) ∧ (caOut x').holds post := by
    intro h1 h2
    refine ⟨⟨l, lim, acc, rs, i + 1⟩, by simp only; omega, ?_, leOO_refl _, hlen, fun h => ?_, fun h => ?_⟩
    · simp only [caArgs, leL_cons, leS_self, leL_nil, and_true, true_and, leS_int]
      omega
    · exact hp1 (by rw [at'_drop h1, List.all_cons, h2]; exact h)
    · exact hp2 (by rw [at'_drop h1, List.all_cons, h2]; exact h)
  have e : ∀ i : Int, rs.getD i.toNat default = at' rs i := fun _ => rfl
  simp only
  unfold caQ
  simp only [e, wd_eta, inS_eq, leL_self, leObL_self, true_and, beq_iff_eq, beq_eq_false_iff_ne, decide_eq_true_eq, decide_eq_false_iff_not, Bool.not_eq_true', Bool.not_eq_false', ne_eq, lo, hi, Int.ofNat_lt]
  refine ⟨fun h => ⟨⟨by omega, h⟩, fun h1 => ?_, fun h1 => ⟨fun h2 => ⟨fun h3 => ?_, fun h3 => ⟨⟨by omega, by omega⟩, ?_⟩⟩, fun h2 => ⟨⟨by omega, by omega⟩, ?_⟩⟩⟩, fun h => leafE h⟩
  · exact leafR h (by simp [wordOk, h1])
  · exact leafR h (by simp [wordOk, h1, h2, h3])
  · exact leafN h (by simp [wordOk, h1, h2, h3])
  · exact leafN h (by simp [wordOk, h1, h2])
theorem row_app (outs : List Wd) (w : Wd) : leOb (.row 30 3 (outs.length + 1) (catF outs.length (wF outs) (litF (cells3 [w])))) (wR (outs ++ [w])) := by
  rw [wR, leOb_row]
  refine ⟨rfl, rfl, by simp, fun k hk j hj => ?_⟩
  rw [catF_lit _ _ _ _ (by simpa using hk) hj]
  exact leDt_refl _
theorem cbLoop_ok (l : List Wd) (lim : Int) (rs : List Wd) (i : Nat) : Sound coE (.loop cbLoop) (mkSt (cbLF.live.h.zip (cbArgs rs i)) (cObs l lim (cbSt l rs i) (cbOs l rs i))) ((cbOut l lim rs).map (OutC.st cbLF.live)) := by
  refine loop_fn mixed coKs_ok (fun c hc => by rw [show loopsOf cbLoop = [] from by kernel_rfl] at hc; cases hc) cbLF.live (cbArgs rs) (fun i => cObs l lim (cbSt l rs i) (cbOs l rs i)) (fun _ => cbOut l lim rs) (fun i => rs.length - i) (Q := fun i Rn Re => cbQ l lim rs i (cbSt l rs i).to (cbSt l rs i).mp (cbOs l rs i) Rn Re) ?_ (fun i Rn Re => by kernel_rfl) i
  intro i post hp
  obtain ⟨⟨hc, hv, hlen⟩, hp⟩ := hp
  have hp' : post (.exit 2, cX, cObs l lim (stM' l (rootK l rs) 0) (rs.map (imgW l (rootK l rs)))) := hp
  have hend : ¬ i < rs.length → Outs post (.exit 2) cX (cObs l lim (cbSt l rs i) (cbOs l rs i)) := by
    intro h
    unfold cbSt cbOs
    rw [List.take_of_length_le (by omega)]
    exact Outs.mk hp' (leL_refl _) (leOO_refl _)
  have hos : (cbOs l rs i).length ≤ rs.length := by unfold cbOs; rw [List.length_map, List.length_take]; omega
  unfold cbQ
  simp only [rdF_wF, decide_eq_true_eq, decide_eq_false_iff_not, Int.ofNat_lt]
  refine ⟨fun h => ?_, hend⟩
  obtain ⟨k1, k2, _⟩ := root_ki hc (rs.take i) [] (ki_0 l) (all_take hv i)
  have hr := all_get hv h
  obtain ⟨m1, m2, m3, m4, m5⟩ := mv_st hc k1 hr
  have hsucc := rootK_succ (l := l) h
  have ho := cbOs_succ hc hv h
  have hnext : ∀ m : Mv, m = mvM l (cbSt l rs i) (rs.getD i default) → ∃ x' : Nat, rs.length - x' < rs.length - i ∧ leL [.ptr 0 0, .ptr 1 0, .ptr 2 0, .nm 5, wD rs, vI .i64 rs.length, vI .i64 ((i : Int) + 1)] (cbArgs rs x') ∧
      leOO [some (.cells 25 [wD l, vI .i64 lim]), some (.cells 25 [.junk, .junk]), some (.cells 67 [wD l, .nm 3, .nm 4]), some (wR m.to), some (mpO m.mp), some (.row 30 3 ((cbOs l rs i).length + 1) (catF (cbOs l rs i).length (wF (cbOs l rs i)) (litF (cells3 [mvW l (cbSt l rs i) (rs.getD i default)]))))] (cObs l lim (cbSt l rs x') (cbOs l rs x')) ∧ (cbOut l lim rs).holds post := by
    rintro m rfl
    have e1 : mvM l (cbSt l rs i) (rs.getD i default) = cbSt l rs (i + 1) := by unfold cbSt; rw [hsucc]; exact m1
    have e2 : mvW l (cbSt l rs i) (rs.getD i default) = imgW l (rootK l (rs.take (i + 1))) (rs.getD i default) := by rw [hsucc]; exact m2
    refine ⟨i + 1, by omega, ?_, ?_, ⟨hc, hv, hlen⟩, hp⟩
    · simp only [cbArgs, leL_cons, leS_self, leL_nil, and_true, true_and, leS_int]; omega
    · rw [e1, e2, ho]
      simp only [cObs, leOO_cons, leOb_self, true_and, leOO_nil, and_true]
      exact row_app _ _
  have key : ∀ b : Bool, isNew l (cbSt l rs i) (rs.getD i default) = b → mvM l (cbSt l rs i) (rs.getD i default) = if b = true then mvNew l (cbSt l rs i) (rs.getD i default) else cbSt l rs i := by
    rintro b rfl; rfl
  refine ⟨⟨by omega, h⟩, ?_, ?_, m5, fun hn => ⟨by omega, ⟨by show (-9223372036854775808 : Int) ≤ _; omega, by show _ ≤ (9223372036854775807 : Int); omega⟩, ?_⟩, fun hn => ⟨by omega, ⟨by show (-9223372036854775808 : Int) ≤ _; omega, by show _ ≤ (9223372036854775807 : Int); omega⟩, ?_⟩⟩
  · exact leL_refl _
  · exact leObL_refl _
  · exact hnext (mvNew l (cbSt l rs i) (rs.getD i default)) (key true hn).symm
  · exact hnext (cbSt l rs i) (key false hn).symm
theorem row_set (to : List Wd) (i : Nat) (w : Wd) (n : Nat) (hn : n = to.length) : leOb (.row 30 3 n (setRow (wF to) i 0 (cells3 [w]))) (wR (to.set i w)) := by
  subst hn
  rw [wR, leOb_row]
  refine ⟨rfl, rfl, by simp, fun k hk j hj => ?_⟩
  have e : setRow (wF to) i 0 (cells3 [w]) k j = wF (to.set i w) k j := by
    unfold setRow wF
    simp only [List.getD_eq_getElem?_getD, List.getElem?_set]
    by_cases hki : k = i
    · subst hki
      rw [if_pos rfl, if_pos rfl, if_pos hk]
      have : j = 0 ∨ j = 1 ∨ j = 2 := by omega
      rcases this with rfl | rfl | rfl <;> rfl
    · rw [if_neg hki, if_neg (fun h => hki h.symm)]
  rw [e]
  exact leDt_refl _
theorem upK_next {l : List Wd} {ks : List Nat} {i e : Nat} (h : i < e) : upK l (e - i) ks i = upK l (e - (i + 1)) (addK l ks (rawAt l ks i)) (i + 1) := by
  rw [show e - i = (e - (i + 1)) + 1 by omega, upK]
theorem upK_end {l : List Wd} {ks : List Nat} {i e : Nat} (h : ¬ i < e) : upK l (e - i) ks i = ks := by
  rw [show e - i = 0 by omega, upK]
theorem valsP_next {l : List Wd} {ks : List Nat} (hk : ∀ k ∈ ks, spP l k) {i e : Nat} {x : List Nat} (h : valsP l ks i e) : valsP l (ks ++ x) (i + 1) e := by
  obtain ⟨h1, h2⟩ := h
  refine ⟨?_, fun q q1 q2 => ?_⟩
  · rw [rawTo_app, List.length_append]; omega
  · rw [valAt_left hk x (by omega)]
    exact h2 q (by omega) q2
theorem ccLoop_ok (l : List Wd) (lim : Int) (outs : List Wd) (a s : Nat) (x : CcI) : Sound coE (.loop ccLoop) (mkSt (ccLF.live.h.zip (ccArgs a s x.i)) (cObs l lim (stM' l x.ks x.i) outs)) ((ccOut l lim outs a s x).map (OutC.st ccLF.live)) := by
  refine loop_fn mixed coKs_ok (fun c hc => by rw [show loopsOf ccLoop = [] from by kernel_rfl] at hc; cases hc) ccLF.live (fun x => ccArgs a s x.i) (fun x => cObs l lim (stM' l x.ks x.i) outs) (ccOut l lim outs a s) (fun x => a + s - x.i) (Q := fun x Rn Re => ccQ l lim a s x.i (stM' l x.ks x.i).to (stM' l x.ks x.i).mp outs Rn Re) ?_ (fun ⟨ks, i⟩ Rn Re => by kernel_rfl) x
  rintro ⟨ks, i⟩ post hp
  obtain ⟨⟨hc, hk, hi, hv⟩, hp⟩ := hp
  have hk : KI l ks i := hk
  have hi : i ≤ a + s := hi
  have hv : valsP l ks i (a + s) := hv
  have hp' : post (.exit 6, ccX a s, cObs l lim (stM' l (upK l (a + s - i) ks i) (a + s)) outs) := hp
  have hle := rawTo_le hk
  obtain ⟨l1, l2, l3⟩ := checkB_lims hc
  have hvl := hv.1
  have hlen : (stM' l ks i).to.length = (rawTo l ks).length := cook_length _ _ _
  simp only
  unfold ccQ
  simp only [rdF_wF, decide_eq_true_eq, decide_eq_false_iff_not]
  refine ⟨⟨by show (-9223372036854775808 : Int) ≤ _; omega, by show _ ≤ (9223372036854775807 : Int); omega⟩, fun h => ?_, fun h => ?_⟩
  · have h : i < a + s := by omega
    have hq : i < (rawTo l ks).length := by omega
    have hva := hv.2 i (Nat.le_refl _) h
    have ew : (stM' l ks i).to.getD i default = rawAt l ks i := by
      show (cook l ks i).getD i default = _
      rw [cook_get _ _ _ hq, if_neg (fun h => Nat.lt_irrefl _ h.1)]
    have hr := raw_ok hc hk hq hva
    obtain ⟨m1, m2, m3, m4, m5⟩ := mv_st hc hk hr
    obtain ⟨y, hy⟩ := addK_ext l ks (rawAt l ks i)
    have hnx := hk.next hc hq
    rw [if_pos hva] at hnx
    have e3 : (stM' l (addK l ks (rawAt l ks i)) i).to.set i (imgW l (addK l ks (rawAt l ks i)) (rawAt l ks i)) = (stM' l (addK l ks (rawAt l ks i)) (i + 1)).to := by
      have h1 : valAt l (addK l ks (rawAt l ks i)) i = true := by rw [hy, valAt_left hk.sp _ hq]; exact hva
      have h2 : rawAt l (addK l ks (rawAt l ks i)) i = rawAt l ks i := by rw [hy, rawAt_left _ hq]
      have := cook_set h1
      rw [h2] at this
      exact this
    have hlen2 : i < (mvM l (stM' l ks i) (rawAt l ks i)).to.length := by
      rw [m1]
      show _ < (cook _ _ _).length
      rw [cook_length, hy, rawTo_app, List.length_append]; omega
    have hnext : ∀ (m : Mv) (n : Nat), m = mvM l (stM' l ks i) (rawAt l ks i) → n = m.to.length → ∃ x' : CcI, a + s - x'.i < a + s - i ∧ leL [.ptr 0 0, .ptr 1 0, .ptr 2 0, .nm 5, vI .i64 a, vI .i64 s, vI .i64 ((i : Int) + 1)] (ccArgs a s x'.i) ∧
        leOO [some (.cells 25 [wD l, vI .i64 lim]), some (.cells 25 [.junk, .junk]), some (.cells 67 [wD l, .nm 3, .nm 4]), some (.row 30 3 n (setRow (wF m.to) i 0 (cells3 [mvW l (stM' l ks i) (rawAt l ks i)]))), some (mpO m.mp), some (wR outs)] (cObs l lim (stM' l x'.ks x'.i) outs) ∧ (ccOut l lim outs a s x').holds post := by
      rintro m n rfl rfl
      refine ⟨⟨addK l ks (rawAt l ks i), i + 1⟩, by simp only; omega, ?_, ?_, ⟨hc, hnx, h, ?_⟩, ?_⟩
      · simp only [ccArgs, leL_cons, leS_self, leL_nil, and_true, true_and, leS_int]; omega
      · have := row_set (mvM l (stM' l ks i) (rawAt l ks i)).to i (mvW l (stM' l ks i) (rawAt l ks i)) _ rfl
        rw [m1, m2, e3] at this
        rw [m1, m2]
        simp only [cObs, leOO_cons, leOb_self, true_and, leOO_nil, and_true]
        exact ⟨this, leOb_refl _⟩
      · show valsP l (addK l ks (rawAt l ks i)) (i + 1) (a + s)
        rw [hy]
        exact valsP_next hk.sp hv
      · show post (.exit 6, ccX a s, cObs l lim (stM' l (upK l (a + s - (i + 1)) (addK l ks (rawAt l ks i)) (i + 1)) (a + s)) outs)
        rw [← upK_next h]
        exact hp'
    have key : ∀ b : Bool, isNew l (stM' l ks i) (rawAt l ks i) = b → mvM l (stM' l ks i) (rawAt l ks i) = if b = true then mvNew l (stM' l ks i) (rawAt l ks i) else stM' l ks i := by
      rintro b rfl; rfl
    have ewi : (stM' l ks i).to.getD (i : Int).toNat default = rawAt l ks i := ew
    simp only [ewi]
    refine ⟨⟨by omega, by omega⟩, by omega, leL_refl _, leObL_refl _, m5, fun hn => ?_, fun hn => ?_⟩
    · have hm := key true hn
      rw [if_pos rfl] at hm
      have h9 : i < (mvNew l (stM' l ks i) (rawAt l ks i)).to.length := by rw [← hm]; exact hlen2
      exact ⟨⟨by omega, Int.ofNat_lt.2 h9⟩, h9, ⟨by show (-9223372036854775808 : Int) ≤ _; omega, by show _ ≤ (9223372036854775807 : Int); omega⟩, hnext (mvNew l (stM' l ks i) (rawAt l ks i)) _ hm.symm rfl⟩
    · have hm := key false hn
      rw [if_neg (by decide)] at hm
      have h9 : i < (stM' l ks i).to.length := by omega
      exact ⟨⟨by omega, Int.ofNat_lt.2 h9⟩, h9, ⟨by show (-9223372036854775808 : Int) ≤ _; omega, by show _ ≤ (9223372036854775807 : Int); omega⟩, hnext (stM' l ks i) _ hm.symm rfl⟩
  · have h : ¬ i < a + s := by omega
    rw [upK_end h] at hp'
    have : i = a + s := by omega
    subst this
    exact Outs.mk hp' (leL_refl _) (leOO_refl _)
theorem rdKs_mpF (l : List Wd) : ∀ (ks : List Nat) (o : Nat), rdKs (mpF l ks o) = ks
  | [], _ => rfl
  | k :: ks, o => by
    have := rdKs_mpF l ks (o + sz l k)
    unfold rdKs at this ⊢
    rw [mpF, List.map_cons, this]
    simp
/-- words that are no values are passed -/
theorem skip_ki {l : List Wd} {lim : Int} (hc : checkB l lim = true) : ∀ (n : Nat) {ks : List Nat} {p : Nat}, KI l ks p → p + n ≤ (rawTo l ks).length → (∀ q, p ≤ q → q < p + n → valAt l ks q = false) →
    KI l ks (p + n) ∧ cook l ks (p + n) = cook l ks p ∧ runS l ks p = runS l ks (p + n)
  | 0, ks, p, h, _, _ => ⟨h, rfl, rfl⟩
  | n + 1, ks, p, h, hl, hv => by
    have h1 := hv p (Nat.le_refl _) (by omega)
    have hn := h.next hc (by omega)
    have hr := runS_step h (show p < (rawTo l ks).length by omega)
    rw [if_neg (by rw [h1]; decide)] at hn hr
    obtain ⟨g1, g2, g3⟩ := skip_ki hc n hn (by omega) fun q q1 q2 => hv q (by omega) (by omega)
    have e : p + (n + 1) = p + 1 + n := by omega
    rw [e]
    exact ⟨g1, by rw [g2, cook_skip h1], by rw [hr, g3]⟩
/-- values are turned -/
theorem up_ki {l : List Wd} {lim : Int} (hc : checkB l lim = true) : ∀ (n : Nat) {ks : List Nat} {p : Nat}, KI l ks p → p + n ≤ (rawTo l ks).length → (∀ q, p ≤ q → q < p + n → valAt l ks q = true) →
    KI l (upK l n ks p) (p + n) ∧ (∃ x, upK l n ks p = ks ++ x) ∧ runS l ks p = runS l (upK l n ks p) (p + n)
  | 0, ks, p, h, _, _ => ⟨h, ⟨[], by simp [upK]⟩, rfl⟩
  | n + 1, ks, p, h, hl, hv => by
    have h1 := hv p (Nat.le_refl _) (by omega)
    have hn := h.next hc (by omega)
    have hr := runS_step h (show p < (rawTo l ks).length by omega)
    rw [if_pos h1] at hn hr
    obtain ⟨y, hy⟩ := addK_ext l ks (rawAt l ks p)
    obtain ⟨g1, ⟨x, g2⟩, g3⟩ := up_ki hc n hn (by rw [hy, rawTo_app, List.length_append]; omega) fun q q1 q2 => by
      rw [hy, valAt_left h.sp y (by omega)]
      exact hv q (by omega) (by omega)
    have e : p + (n + 1) = p + 1 + n := by omega
    rw [e]
    refine ⟨g1, ⟨y ++ x, ?_⟩, by rw [hr, g3]; rfl⟩
    show upK l n (addK l ks (rawAt l ks p)) (p + 1) = _
    rw [g2, hy, List.append_assoc]
/-- a thing's frame says what it is -/
theorem sp_frame {l L : List Wd} {k a : Nat} (h : spP l k) (hw : ∀ t, t < fr l k → L.getD (a + t) default = l.getD (k + t) default) (hl : a + sz l k ≤ L.length) : spP L a ∧ spSize L a = spSize l k ∧ spFrom L a = spFrom l k := by
  obtain ⟨s1, s2, s3, s4, s5, s6⟩ := sp_sz h
  have at0 : at' L a = at' l k := by
    have := hw 0 (by omega)
    simpa [at'] using this
  have at1 : 1 < fr l k → at' L (a + 1) = at' l (k + 1) := fun ht => by
    have := hw 1 ht
    unfold at'
    rw [show ((a : Int) + 1).toNat = a + 1 by omega, show ((k : Int) + 1).toNat = k + 1 by omega]
    exact this
  have at2 : 2 < fr l k → at' L (a + 2) = at' l (k + 2) := fun ht => by
    have := hw 2 ht
    unfold at'
    rw [show ((a : Int) + 2).toNat = a + 2 by omega, show ((k : Int) + 2).toNat = k + 2 by omega]
    exact this
  have cnt1 : 1 < fr l k → cntS L (a + 1) = cntS l (k + 1) := fun ht => by
    unfold cntS
    rw [at1 ht]
    have e1 : ¬ ((L.length : Int) ≤ (a : Int) + 1) := by omega
    have e2 : ¬ ((l.length : Int) ≤ (k : Int) + 1) := by omega
    simp only [e1, e2]
  have cnt2 : 2 < fr l k → cntS L (a + 2) = cntS l (k + 2) := fun ht => by
    unfold cntS
    rw [at2 ht]
    have e1 : ¬ ((L.length : Int) ≤ (a : Int) + 2) := by omega
    have e2 : ¬ ((l.length : Int) ≤ (k : Int) + 2) := by omega
    simp only [e1, e2]
  have hP := h
  have hsz := s5
  have hfr := s6
  unfold spSize at hsz
  unfold spFrom at hfr
  rw [if_pos h] at hsz hfr
  have hsp : spP L a := by
    unfold spP at hP ⊢
    rw [at0]
    obtain ⟨p0, pr⟩ := hP
    refine ⟨p0, ?_⟩
    rcases pr with ⟨k6, pr⟩ | ⟨k7, pr⟩ | ⟨k8, pr⟩ | ⟨k9, pr⟩
    · rw [if_pos k6] at hsz
      exact .inl ⟨k6, pr.1, by omega⟩
    · rw [if_neg (by omega), if_pos k7] at hsz
      exact .inr (.inl ⟨k7, pr.1, by omega⟩)
    · rw [if_neg (by omega), if_neg (by omega), if_pos k8] at hsz hfr
      obtain ⟨q1, q2, q3, q4, q5⟩ := pr
      rw [at1 (by omega), cnt1 (by omega)]
      exact .inr (.inr (.inl ⟨k8, q1, q2, q3, by omega, q5⟩))
    · rw [if_neg (by omega), if_neg (by omega), if_neg (by omega)] at hsz hfr
      obtain ⟨q1, q2, q3, q4, q5, q6⟩ := pr
      rw [at1 (by omega), at2 (by omega), cnt2 (by omega)]
      exact .inr (.inr (.inr ⟨k9, q1, q2, q3, q4, by omega, q6⟩))
  refine ⟨hsp, ?_, ?_⟩
  · unfold spSize
    rw [if_pos hsp, if_pos h, at0]
    obtain ⟨p0, pr⟩ := hP
    rcases pr with ⟨k6, pr⟩ | ⟨k7, pr⟩ | ⟨k8, pr⟩ | ⟨k9, pr⟩
    · simp [k6]
    · simp [k7]
    · rw [if_neg (by omega), if_neg (by omega), if_pos k8] at hsz hfr
      rw [cnt1 (by omega)]; simp [k8]
    · rw [if_neg (by omega), if_neg (by omega), if_neg (by omega)] at hsz hfr
      rw [cnt2 (by omega)]; simp [k9]
  · unfold spFrom
    rw [if_pos hsp, if_pos h, at0]
/-- what is copied stands there as a thing -/
theorem cook_sp {l : List Wd} {ks a b : List Nat} {k p : Nat} (hk : KI l ks p) (he : ks = a ++ k :: b) : spP (cook l ks p) (rawTo l a).length ∧ spSize (cook l ks p) (rawTo l a).length = spSize l k ∧ spFrom (cook l ks p) (rawTo l a).length = spFrom l k := by
  subst he
  have hka : ∀ x ∈ a, spP l x := fun x hx => hk.sp x (by simp [hx])
  have hs := hk.sp k (by simp)
  obtain ⟨s1, s2, s3, s4, s5, s6⟩ := sp_sz hs
  have hl : (rawTo l a).length + sz l k ≤ (rawTo l (a ++ k :: b)).length := by
    rw [rawTo_app, rawTo_cons, List.length_append, List.length_append, blkAt_length hs]; omega
  refine sp_frame hs (fun t ht => ?_) (by rw [cook_length]; exact hl)
  obtain ⟨e1, e2⟩ := at_blk (ks := a) (ks' := b) hka hs (show t < sz l k by omega)
  rw [cook_get _ _ _ (by omega), e1, e2, if_neg]
  rintro ⟨_, h⟩
  rw [decide_eq_true_eq] at h
  omega
theorem cdLoop_ok (l : List Wd) (lim : Int) (outs : List Wd) (x : CdI) : Sound coE (.loop cdLoop) (mkSt (cdLF.live.h.zip (cdArgs (cdA l x))) (cObs l lim (stM' l x.ks (cdA l x)) outs)) ((cdOut l lim outs x).map (OutC.st cdLF.live)) := by
  have cLok : coE.Lok (loopsOf cdLoop) := by
    rw [show loopsOf cdLoop = [ccLoop] from by kernel_rfl]
    have r : firstRid ccLoop = 22 := by kernel_rfl
    refine fnE_Lok (all_cons (all_cons (fun h => ?_) all_nil) (all_cons (all_cons (fun h => ?_) all_nil) (all_cons (all_cons (fun h => ?_) all_nil) (all_cons (all_cons (fun h => ?_) all_nil) all_nil))))
    · rw [r] at h; exact absurd h (by decide)
    · rw [r] at h; exact absurd h (by decide)
    · rw [r] at h; exact absurd h (by decide)
    · intro svs obl args obs out h
      unfold ccLF at h
      simp only at h
      split at h
      · split at h
        · simp only [Option.some.injEq, Prod.mk.injEq] at h
          obtain ⟨rfl, rfl, rfl⟩ := h
          apply ccLoop_ok
        · cases h
      · cases h
  refine loop_fn mixed coKs_ok cLok cdLF.live (fun x => cdArgs (cdA l x)) (fun x => cObs l lim (stM' l x.ks (cdA l x)) outs) (cdOut l lim outs) (fun x => l.length + 1 - cdA l x) (Q := fun x Rn Re => cdQ l lim (cdA l x) (stM' l x.ks (cdA l x)).to (stM' l x.ks (cdA l x)).mp outs Rn Re) ?_ (fun ⟨ks, j⟩ Rn Re => by kernel_rfl) x
  rintro ⟨ks, j⟩ post hp
  obtain ⟨⟨hc, hj, hk⟩, hp⟩ := hp
  have hj : j ≤ ks.length := hj
  have hk : KI l ks (cdA l ⟨ks, j⟩) := hk
  have hp' : post (.exit 4, cX, cObs l lim (stM' l (runS l ks (cdA l ⟨ks, j⟩)) (rawTo l (runS l ks (cdA l ⟨ks, j⟩))).length) outs) := hp
  have hle := rawTo_le hk
  have hkle := hk.le
  obtain ⟨l1, l2, l3⟩ := checkB_lims hc
  have hlen : (stM' l ks (cdA l ⟨ks, j⟩)).to.length = (rawTo l ks).length := cook_length _ _ _
  have eA : cdA l ⟨ks, j⟩ = (rawTo l (ks.take j)).length := rfl
  have emp : (stM' l ks (cdA l ⟨ks, j⟩)).mp = mpF l ks 0 := rfl
  simp only
  unfold cdQ
  simp only [rdF_wF, decide_eq_true_eq, decide_eq_false_iff_not, emp, rdKs_mpF, Int.ofNat_lt]
  refine ⟨fun h => ?_, fun h => ?_⟩
  · rw [hlen] at h
    have hjl : j < ks.length := by
      apply Nat.lt_of_le_of_ne hj
      rintro rfl
      rw [eA, List.take_length] at h
      omega
    have he : ks = ks.take j ++ ks.getD j 0 :: ks.drop (j + 1) := by
      rw [List.getD_eq_getElem?_getD, List.getElem?_eq_getElem hjl]
      simp
    have hks : spP l (ks.getD j 0) := hk.sp _ (by
      rw [List.getD_eq_getElem?_getD, List.getElem?_eq_getElem hjl]
      exact List.getElem_mem _)
    obtain ⟨q1, q2, q3⟩ := cook_sp hk he
    rw [← eA] at q1 q2 q3
    obtain ⟨s1, s2, s3, s4, s5, s6⟩ := sp_sz hks
    have hka : ∀ x ∈ ks.take j, spP l x := fun x hx => hk.sp x (List.mem_of_mem_take hx)
    have hal : cdA l ⟨ks, j⟩ + sz l (ks.getD j 0) ≤ (rawTo l ks).length := by
      conv => rhs; rw [he]
      rw [rawTo_app, rawTo_cons, List.length_append, List.length_append, blkAt_length hks, eA]; omega
    have hpl : ∀ t, t < sz l (ks.getD j 0) → valAt l ks (cdA l ⟨ks, j⟩ + t) = decide (fr l (ks.getD j 0) ≤ t) := fun t ht => by
      have := (at_blk (ks := ks.take j) (ks' := ks.drop (j + 1)) hka hks ht).2
      rwa [← he] at this
    obtain ⟨u1, u2, u3⟩ := skip_ki hc (fr l (ks.getD j 0)) hk (by omega) (fun q a1 a2 => by
      have := hpl (q - cdA l ⟨ks, j⟩) (by omega)
      rw [show cdA l ⟨ks, j⟩ + (q - cdA l ⟨ks, j⟩) = q by omega] at this
      rw [this]; exact decide_eq_false (by omega))
    have hvals : valsP l ks (cdA l ⟨ks, j⟩ + fr l (ks.getD j 0)) (cdA l ⟨ks, j⟩ + sz l (ks.getD j 0)) := ⟨hal, fun q a1 a2 => by
      have := hpl (q - cdA l ⟨ks, j⟩) (by omega)
      rw [show cdA l ⟨ks, j⟩ + (q - cdA l ⟨ks, j⟩) = q by omega] at this
      rw [this]; exact decide_eq_true (by omega)⟩
    obtain ⟨w1, ⟨y, w2⟩, w3⟩ := up_ki hc (sz l (ks.getD j 0) - fr l (ks.getD j 0)) u1 (by omega) (fun q a1 a2 => hvals.2 q a1 (by omega))
    have eE : cdA l ⟨ks, j⟩ + fr l (ks.getD j 0) + (sz l (ks.getD j 0) - fr l (ks.getD j 0)) = cdA l ⟨ks, j⟩ + sz l (ks.getD j 0) := by omega
    rw [eE] at w1 w3
    have e1 : spSize (stM' l ks (cdA l ⟨ks, j⟩)).to (cdA l ⟨ks, j⟩) = ((sz l (ks.getD j 0) : Nat) : Int) := by rw [s5]; exact q2
    have e2 : spFrom (stM' l ks (cdA l ⟨ks, j⟩)).to (cdA l ⟨ks, j⟩) = ((fr l (ks.getD j 0) : Nat) : Int) := by rw [s6]; exact q3
    have e3 : ((cdA l ⟨ks, j⟩ : Int) + ((fr l (ks.getD j 0) : Nat) : Int)).toNat = cdA l ⟨ks, j⟩ + fr l (ks.getD j 0) := by omega
    have eA' : cdA l ⟨upK l (sz l (ks.getD j 0) - fr l (ks.getD j 0)) ks (cdA l ⟨ks, j⟩ + fr l (ks.getD j 0)), j + 1⟩ = cdA l ⟨ks, j⟩ + sz l (ks.getD j 0) := by
      unfold cdA
      simp only
      have : (upK l (sz l (ks.getD j 0) - fr l (ks.getD j 0)) ks (cdA l ⟨ks, j⟩ + fr l (ks.getD j 0))).take (j + 1) = ks.take j ++ [ks.getD j 0] := by
        rw [w2, List.take_append_of_le_length (by omega), List.take_add_one]
        congr 1
        rw [List.getD_eq_getElem?_getD, List.getElem?_eq_getElem hjl]
        rfl
      show (rawTo l ((upK l (sz l (ks.getD j 0) - fr l (ks.getD j 0)) ks (cdA l ⟨ks, j⟩ + fr l (ks.getD j 0))).take (j + 1))).length = _
      rw [this, rawTo_app, rawTo_one, List.length_append, blkAt_length hks]
    simp only [e1, e2, e3, Int.toNat_natCast, leL_self, leObL_self, leS_self, true_and, and_true]
    have hst : stM' l ks (cdA l ⟨ks, j⟩ + fr l (ks.getD j 0)) = stM' l ks (cdA l ⟨ks, j⟩) := by unfold stM'; rw [u2]
    refine ⟨⟨by omega, by rw [hlen]; omega, by show ((stM' l ks _).to.length : Int) ≤ _; rw [hlen]; omega⟩, ⟨by show (-9223372036854775808 : Int) ≤ _; omega, by show _ ≤ (9223372036854775807 : Int); omega⟩, ?_, ?_, ⟨hc, u1, by show cdA l ⟨ks, j⟩ + fr l (ks.getD j 0) ≤ cdA l ⟨ks, j⟩ + sz l (ks.getD j 0); omega, hvals⟩, ⟨by show (-9223372036854775808 : Int) ≤ _; omega, by show _ ≤ (9223372036854775807 : Int); omega⟩, ⟨upK l (sz l (ks.getD j 0) - fr l (ks.getD j 0)) ks (cdA l ⟨ks, j⟩ + fr l (ks.getD j 0)), j + 1⟩, ?_, ?_, ?_, ⟨hc, ?_, ?_⟩, ?_⟩
    · rw [leS_int]; omega
    · have : leOO (cObs l lim (stM' l ks (cdA l ⟨ks, j⟩)) outs) (cObs l lim (stM' l ks (cdA l ⟨ks, j⟩ + fr l (ks.getD j 0))) outs) := by rw [hst]; exact leOO_refl _
      exact this
    · rw [eA']; omega
    · rw [eA']
      simp only [cdArgs, leL_cons, leS_self, leL_nil, and_true, true_and, leS_int]; omega
    · have e5 : cdA l ⟨ks, j⟩ + sz l (ks.getD j 0) - (cdA l ⟨ks, j⟩ + fr l (ks.getD j 0)) = sz l (ks.getD j 0) - fr l (ks.getD j 0) := by omega
      rw [eA', ← e5]
      exact leOO_refl (cObs l lim (stM' l (upK l (cdA l ⟨ks, j⟩ + sz l (ks.getD j 0) - (cdA l ⟨ks, j⟩ + fr l (ks.getD j 0))) ks (cdA l ⟨ks, j⟩ + fr l (ks.getD j 0))) (cdA l ⟨ks, j⟩ + sz l (ks.getD j 0))) outs)
    · show j + 1 ≤ (upK l (sz l (ks.getD j 0) - fr l (ks.getD j 0)) ks (cdA l ⟨ks, j⟩ + fr l (ks.getD j 0))).length
      rw [w2, List.length_append]; omega
    · rw [eA']; exact w1
    · rw [eA', ← w3, ← u3]
      exact hp
  · rw [hlen] at h
    rw [runS_end h] at hp'
    have : cdA l ⟨ks, j⟩ = (rawTo l ks).length := by omega
    rw [← this] at hp'
    exact Outs.mk hp' (leL_refl _) (leOO_refl _)
end Go.Proofs.Ytfpnadmpmfcaaaa

open Rx Go
namespace Go.Proofs.Ytfpnadmpmfcaaaa

theorem coLok : coE.Lok (loopsOf (bodyOf Try.f16)) := by
  rw [show loopsOf (bodyOf Try.f16) = [caLoop, cbLoop, cdLoop] from by kernel_rfl]
  have r1 : firstRid caLoop = 6 := by kernel_rfl
  have r2 : firstRid cbLoop = 14 := by kernel_rfl
  have r3 : firstRid cdLoop = 19 := by kernel_rfl
  refine fnE_Lok (all_cons ?_ (all_cons ?_ (all_cons ?_ (all_cons ?_ all_nil))))
  · refine all_cons (fun _ => ?_) (all_cons (fun h => ?_) (all_cons (fun h => ?_) all_nil))
    · intro svs obl args obs out h
      unfold caLF at h
      simp only at h
      repeat' split at h
      all_goals first
        | (simp only [Option.some.injEq, Prod.mk.injEq] at h; obtain ⟨rfl, rfl, rfl⟩ := h; exact caLoop_ok ⟨_, _, _, _, 0⟩)
        | cases h
    · rw [r2] at h; exact absurd h (by decide)
    · rw [r3] at h; exact absurd h (by decide)
  · refine all_cons (fun h => ?_) (all_cons (fun _ => ?_) (all_cons (fun h => ?_) all_nil))
    · rw [r1] at h; exact absurd h (by decide)
    · intro svs obl args obs out h
      unfold cbLF at h
      simp only at h
      repeat' split at h
      all_goals first
        | (simp only [Option.some.injEq, Prod.mk.injEq] at h; obtain ⟨rfl, rfl, rfl⟩ := h; exact cbLoop_ok _ _ _ 0)
        | cases h
    · rw [r3] at h; exact absurd h (by decide)
  · refine all_cons (fun h => ?_) (all_cons (fun h => ?_) (all_cons (fun _ => ?_) all_nil))
    · rw [r1] at h; exact absurd h (by decide)
    · rw [r2] at h; exact absurd h (by decide)
    · intro svs obl args obs out h
      unfold cdLF at h
      simp only at h
      repeat' split at h
      all_goals first
        | (simp only [Option.some.injEq, Prod.mk.injEq] at h; obtain ⟨rfl, rfl, rfl⟩ := h; exact cdLoop_ok _ _ _ ⟨_, 0⟩)
        | cases h
  · refine all_cons (fun h => ?_) (all_cons (fun h => ?_) (all_cons (fun h => ?_) all_nil))
    · rw [r1] at h; exact absurd h (by decide)
    · rw [r2] at h; exact absurd h (by decide)
    · rw [r3] at h; exact absurd h (by decide)

theorem colR_eq {l rs : List Wd} {lim : Int} (hc : checkB l lim = true) (hv : rs.all (valOk l) = true) : rs.map (imgW l (rootK l rs)) = colR l rs := by
  obtain ⟨k1, k2, _⟩ := root_ki hc rs [] (ki_0 l) hv
  obtain ⟨_, x, hx⟩ := k1.last hc (l.length + 1) (by omega)
  have hx : kept l rs = rootK l rs ++ x := hx
  unfold colR
  rw [hx]
  apply List.map_congr_left
  intro r hr
  exact (imgW_ext k1.sp (k2 r hr)).symm
theorem good_fin {post : Out → Prop} {l rs : List Wd} {lim : Int} (hp : post (.tup [hS (colW l rs) lim, wD (colR l rs), .ki .i64 0], [])) {s : SV} (h : s = .tup [hS (colW l rs) lim, wD (colR l rs), vI .i64 0]) : Gives post s [] := by
  subst h
  refine gives1 hp ?_
  simp only [leS_tup, leL_cons, leS_self, leL_nil, leS_dki, and_true]
theorem bad_fin {post : Out → Prop} {e : Int} (hp : post (.tup [noH, nilS, vI .i64 e], [])) : Gives post (.tup [.agg [.dt (.cell (.slice none 0 0)), .ki .i64 0], .dt (.cell (.slice none 0 0)), vI .i64 e]) [] := by
  refine gives1 hp ?_
  simp only [leS_tup, leL_cons, leS_self, leL_nil, noH, nilS, leS_agg, leS_ki, and_true, true_and]
theorem col_ctr (l : List Wd) (lim : Int) (rs : List Wd) : Ctr Try.prog 16 [hS l lim, wD rs] [] (colO l lim rs) := by
  refine ctr_fn mixed (N := 132) (fn := Try.f16) (c := bodyOf Try.f16) (ks := coKs) (ls := [caLF, cbLF, cdLF, ccLF]) (by kernel_rfl) (by kernel_rfl) (by kernel_rfl) coKs_ok finF coLok (by kernel_rfl) (Q := colQ l lim rs) (fun post hp => ?_) (fun R => by kernel_rfl)
  obtain ⟨hlen, hp1, hp2⟩ := hp
  have hlen : rs.length ≤ 1000000 := hlen
  have hp1 : colGood l lim rs = true → post (.tup [hS (colW l rs) lim, wD (colR l rs), .ki .i64 0], []) := hp1
  have hp2 : colGood l lim rs = false → post (.tup [noH, nilS, vI .i64 (if checkB l lim = true then 3 else 9)], []) := hp2
  have n9 : ((9 : Int) != 0) = true := rfl
  unfold colQ
  simp only [rdF_wF, rdKs_mpF, stM_toNat, n9, leL_self, leObL_self, leS_self, leOO_self, true_and, and_true, bne_self_eq_false, Bool.false_eq_true, false_implies, true_implies, reduceCtorEq]
  refine ⟨fun hc => ⟨checkB_fits hc, fun hs => ?_, fun hs => absurd (checkB_starts hc) (by rw [hs]; decide)⟩, fun hc => ?_⟩
  · have hall : (List.drop 0 rs).all (wordOk l ((startsS l).getD [])) = rs.all (valOk l) := rfl
    rw [hall]
    refine ⟨?_, ?_, hlen, fun hv => ⟨?_, ?_, ⟨hc, hv, hlen⟩, ?_, ⟨hc, Nat.zero_le _, ?_⟩, ?_⟩, fun hv => ?_⟩
    · rw [leS_int]; rfl
    · simp only [leOO_cons, leOb_cells, leOb_self, leL_cons, wD_self, leS_self, leS_junk, leL_nil, leOO_nil, and_true, true_and]
    · rw [leS_int]; rfl
    · have h0 : leOb (.row 30 3 0 fun _ _ => undefCell) (.row 30 3 noW.length (wF noW)) := ⟨rfl, rfl, rfl, fun k hk => by omega⟩
      simp only [leOO_cons, leOb_cells, leOb_self, leL_cons, wD_self, leS_self, leS_junk, leL_nil, leOO_nil, and_true, true_and]
      exact ⟨h0, h0⟩
    · rw [leS_int]; rfl
    · exact (root_ki hc rs [] (ki_0 l) hv).1
    · have hp := hp1 (by simp [colGood, hc, hv])
      refine good_fin hp ?_
      rw [← colR_eq hc hv]
      rfl
    · have hp := hp2 (by simp [colGood, hc, hv])
      rw [if_pos hc] at hp
      exact bad_fin hp
  · have hp := hp2 (by simp [colGood, hc])
    rw [if_neg (by rw [hc]; decide)] at hp
    exact bad_fin hp
end Go.Proofs.Ytfpnadmpmfcaaaa

open Rx Go
namespace Go.Proofs.Ytfpnadmpmfcaaaa

def colF : FC := ⟨16, false, false, fun al ol => match al, ol with
  | [h, .dt (.cell (.slice none 0 0))], [] => match rdHp h with
    | some (l, lim) => some ([hS l lim, wD noW], [], colO l lim noW)
    | none => none
  | [h, s], [] => match rdHp h, rdL s with
    | some (l, lim), some rs => some ([hS l lim, wD rs], [], colO l lim rs)
    | _, _ => none
  | _, _ => none⟩
theorem colF_ok : colF.Ok Try.prog := by
  intro al ol args obs out h
  unfold colF at h
  simp only at h
  repeat' split at h
  all_goals first
    | (simp only [Option.some.injEq, Prod.mk.injEq] at h; obtain ⟨rfl, rfl, rfl⟩ := h; apply col_ctr)
    | cases h
theorem wEq (x y : Wd) : (x.k == y.k && (x.n == y.n && (x.s == y.s && true))) = decide (x = y) := by
  cases x with
  | mk k n s =>
    cases y with
    | mk k' n' s' =>
      simp only [Wd.mk.injEq, Bool.and_true]
      have hs : (s == s') = decide (s = s') := by
        by_cases h : s = s'
        · subst h; rw [str_self]; simp
        · have : ¬ (s == s') = true := fun h' => h ((MapKept.bytes_beq s s').1 h')
          simp [h, this]
      rw [hs]
      by_cases h1 : k = k' <;> by_cases h2 : n = n' <;> by_cases h3 : s = s' <;> simp [h1, h2, h3]
theorem mvGet_ge (l : List Wd) : ∀ (ks : List Nat) (o : Nat) (n v : Int), mvGet (mpF l ks o) n = some v → (o : Int) ≤ v
  | [], o, n, v, h => by cases h
  | k :: ks, o, n, v, h => by
    rw [mpF, mvGet_cons] at h
    by_cases hn : n = (k : Int)
    · rw [if_pos hn] at h; injection h with h; omega
    · rw [if_neg hn] at h
      have := mvGet_ge l ks _ n v h
      omega
theorem mvGet_inj {l : List Wd} : ∀ (ks : List Nat) (o : Nat) (n n' v : Int), (∀ k ∈ ks, spP l k) → mvGet (mpF l ks o) n = some v → mvGet (mpF l ks o) n' = some v → n = n'
  | [], o, n, n', v, _, h, _ => by cases h
  | k :: ks, o, n, n', v, hk, h, h' => by
    rw [mpF, mvGet_cons] at h h'
    have hs := (sp_sz (hk k (by simp))).1
    by_cases hn : n = (k : Int) <;> by_cases hn' : n' = (k : Int)
    · omega
    · rw [if_pos hn] at h
      rw [if_neg hn'] at h'
      injection h with h
      have := mvGet_ge l ks _ n' v h'
      omega
    · rw [if_neg hn] at h
      rw [if_pos hn'] at h'
      injection h' with h'
      have := mvGet_ge l ks _ n v h
      omega
    · rw [if_neg hn] at h
      rw [if_neg hn'] at h'
      exact mvGet_inj ks _ n n' v (fun x hx => hk x (by simp [hx])) h h'
/-- what all that is kept knows of the roots -/
theorem kept_ki {l rs : List Wd} {lim : Int} (hc : checkB l lim = true) (hv : rs.all (valOk l) = true) : KI l (kept l rs) (rawTo l (kept l rs)).length ∧ ∀ r ∈ rs, known l (kept l rs) r := by
  obtain ⟨k1, k2, _⟩ := root_ki hc rs [] (ki_0 l) hv
  obtain ⟨g, x, hx⟩ := k1.last hc (l.length + 1) (by omega)
  have hx : kept l rs = rootK l rs ++ x := hx
  refine ⟨g, fun r hr => ?_⟩
  rw [hx]
  exact known_ext _ (k2 r hr)
theorem img_inj {d : Bd} (hb : BI d) {ks : List Nat} (hk : ∀ k ∈ ks, spP d.ws k) {a b : Wd} (ha : vOk d.bs a) (hb' : vOk d.bs b) (ka : known d.ws ks a) (kb : known d.ws ks b) : imgW d.ws ks a = imgW d.ws ks b ↔ a = b := by
  constructor
  · intro h
    unfold imgW at h
    unfold known at ka kb
    rw [bi_find hb ha, bi_find hb hb'] at h
    rw [bi_find hb ha] at ka
    rw [bi_find hb hb'] at kb
    by_cases h5 : a.k = 5 <;> by_cases h5' : b.k = 5
    · rw [if_pos h5, if_pos h5'] at h
      obtain ⟨x, hx⟩ := Option.isSome_iff_exists.1 ((mvGet_mem d.ws ks 0 a.n).2 (ka h5))
      obtain ⟨y, hy⟩ := Option.isSome_iff_exists.1 ((mvGet_mem d.ws ks 0 b.n).2 (kb h5'))
      rw [hx, hy] at h
      simp only [Option.getD_some, Wd.mk.injEq] at h
      have e : x = y := h.2.1
      subst e
      have hn := mvGet_inj ks 0 a.n b.n x hk hx hy
      cases a; cases b
      simp only at h hn ⊢
      rw [hn, h.1, h.2.2]
    · rw [if_pos h5, if_neg h5'] at h
      rw [← h] at h5'
      exact absurd h5 h5'
    · rw [if_neg h5, if_pos h5'] at h
      rw [h] at h5
      exact absurd h5' h5
    · rw [if_neg h5, if_neg h5'] at h
      exact h
  · rintro rfl; rfl
theorem ms_all {d : Bd} (h : BI d) {rs : List Wd} (hr : ∀ r ∈ rs, r ∈ d.ms) : rs.all (valOk d.ws) = true := by
  rw [List.all_eq_true]
  exact fun r hx => bi_val h (hr r hx)
end Go.Proofs.Ytfpnadmpmfcaaaa
