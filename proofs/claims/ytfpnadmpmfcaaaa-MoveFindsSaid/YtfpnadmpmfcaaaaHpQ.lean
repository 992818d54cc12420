/- Equal, alike; CollectKeeps. -/
import Derived.Test.YtfpnadmpmfcaaaaHpR
import Derived.Test.YtfpnadmpmfcaaaaHpPb
open Rx Go
namespace Go.Proofs.Ytfpnadmpmfcaaaa

/-! ## Equal -/
def eqO (l m : List Wd) : T Out := .need (fitsW l) (.ret (vB (decide (l = m)), []))
def eqArgs (l m : List Wd) (i : Nat) : List SV := [wD l, wD m, vI .i64 l.length, vI .i64 i]
def eqOut (l m : List Wd) (i : Nat) : T OutC := .need (fitsW l ∧ l.length = m.length) (.ite (decide (l.drop i = m.drop i)) (.ret (.exit 0, [], [])) (.ret (.ret, [vB false], [])))
def eqLF : LF := ⟨4, ⟨[0, 1, 12, 13], [], [4]⟩, fun svs _ => match svs with
  | s :: t :: _ => match rdL s, rdL t with
    | some l, some m => some (eqArgs l m 0, [], eqOut l m 0)
    | _, _ => none
  | _ => none⟩
noncomputable def eqE : Env := fnE Try.prog 26 0 [] [eqLF]
noncomputable def eqLoop : Code := (loopIn 4 (bodyOf Try.f19)).getD .skip
def eqF : FC := ⟨19, false, false, fun al ol => match al, ol with
  | [s, t], [] => match rdL s, rdL t with
    | some l, some m => some ([wD l, wD m], [], eqO l m)
    | _, _ => none
  | _, _ => none⟩

/-! ## alike: where it says yes -/
def cntP (l : List Wd) (f : Wd) : Int := spSize l f.n - spFrom l f.n
def alB (l : List Wd) (lim : Int) (l' : List Wd) (lim' : Int) (a b : Wd) : Prop :=
  cvErr l lim a = 0 ∧ cvErr l' lim' b = 0 ∧ (findS l a).k = (findS l' b).k ∧ ((findS l a).k ≠ 5 → findS l a = findS l' b) ∧ ((findS l a).k = 5 → at' l (findS l a).n = at' l' (findS l' b).n)
def AL (l : List Wd) (lim : Int) (l' : List Wd) (lim' : Int) : Nat → Wd → Wd → Prop
  | 0, a, b => alB l lim l' lim' a b
  | n + 1, a, b => alB l lim l' lim' a b ∧ ((findS l a).k = 5 → cntP l (findS l a) = cntP l' (findS l' b) ∧ ∀ i : Nat, (i : Int) < cntP l (findS l a) → AL l lim l' lim' n (at' l (partP l (findS l a) i)) (at' l' (partP l' (findS l' b) i)))
def alO (N : Nat) (l : List Wd) (lim : Int) (l' : List Wd) (lim' : Int) (a b : Wd) (n : Int) : T Out := .need ((0 ≤ n ∧ n ≤ 1000) ∧ n.toNat < N ∧ AL l lim l' lim' n.toNat a b) (.ret (.kb true, []))
def alF (N : Nat) : FC := ⟨20, false, false, fun al ol => match al, ol with
  | [h, a, g, b, n], [] => match rdHp h, rdW a, rdHp g, rdW b, rdI n with
    | some (l, lim), some a, some (l', lim'), some b, some n => some ([hS l lim, wS a, hS l' lim', wS b, vI .i64 n], [], alO N l lim l' lim' a b n)
    | _, _, _, _, _ => none
  | _, _ => none⟩
def alKs (N : Nat) : List (Nat × Nat × FC) := [(1, 2, findBF), (2, 2, findBF), (12, 3, partF), (13, 3, partF), (17, 6, alF N)]
def alArgs (n : Int) (i : Nat) : List SV := [vI .i64 n, .ptr 0 0, .ptr 1 0, .ptr 2 0, .ptr 3 0, vI .i64 i]
def wO (w : Wd) : Ob := .cells 30 [vI .i64 w.k, vI .i64 w.n, vS w.s]
def alObs (l : List Wd) (lim : Int) (l' : List Wd) (lim' : Int) (x y : Wd) : List (Option Ob) := [some (.cells 25 [wD l, vI .i64 lim]), some (.cells 25 [wD l', vI .i64 lim']), some (wO x), some (wO y)]
/-- the loop, at i -/
def alP (N : Nat) (l : List Wd) (lim : Int) (l' : List Wd) (lim' : Int) (x y : Wd) (n : Int) (i : Nat) : Prop :=
  (0 ≤ n ∧ n ≤ 1000) ∧ n.toNat < N + 1 ∧ cvErr l lim x = 0 ∧ cvErr l' lim' y = 0 ∧ findS l x = x ∧ findS l' y = y ∧ x.k = 5 ∧ y.k = 5 ∧ i ≤ 60000 ∧ (0 < n → cntP l x = cntP l' y ∧ (i : Int) ≤ cntP l x ∧ ∀ j : Nat, (j : Int) < cntP l x → AL l lim l' lim' (n.toNat - 1) (at' l (partP l x j)) (at' l' (partP l' y j)))
def alOut (N : Nat) (l : List Wd) (lim : Int) (l' : List Wd) (lim' : Int) (x y : Wd) (n : Int) (i : Nat) : T OutC := .need (alP N l lim l' lim' x y n i) (.ret (.exit 0, [], []))
def alLF (N : Nat) : LF := ⟨10, ⟨[4, 5, 7, 11, 13, 15], [], [10]⟩, fun svs ol => match svs, ol with
  | n :: _, [h, g, x, y] => match rdI n, rdH h, rdH g, rdO x, rdO y with
    | some n, some (l, lim), some (l', lim'), some x, some y => some (alArgs n 0, alObs l lim l' lim' x y, alOut N l lim l' lim' x y n 0)
    | _, _, _, _, _ => none
  | _, _ => none⟩
noncomputable def alE (N : Nat) : Env := fnE Try.prog 95 0 (alKs N) [alLF N]
noncomputable def alLoop : Code := (loopIn 10 (bodyOf Try.f20)).getD .skip

/-! ## CollectKeeps -/
def nD (l : List Int) : SV := .dt (.arr 1 l.length fun i _ => .cell (.int .i64 (l.getD i 0)))
def rdNs (n : Nat) (f : Nat → Nat → Dt) : List Int := (List.range n).map fun i => dI (f i 0)
def ckRs (ms : List Wd) (ns : List Int) (i : Nat) : List Wd := (ns.take i).map (pickW ms)
def kaArgs (ns : List Int) (ms : List Wd) (i : Nat) : List SV := [nD ns, .ptr 0 0, wD ms, .nm 1, vI .i64 i]
def kaObs (ws ms : List Wd) (ns : List Int) (i : Nat) : List (Option Ob) := [some (.cells 25 [wD ws, vI .i64 600]), some (wR (ckRs ms ns i))]
def kaOut (ws ms : List Wd) (ns : List Int) (i : Nat) : T OutC := .need ((∀ n ∈ ns, isInt n) ∧ 0 < ms.length ∧ ms.length ≤ 100 ∧ i ≤ 4) (.ret (.exit 0, [.ptr 0 0, .nm 1], kaObs ws ms ns 4))
def kbArgs (rs out : List Wd) (i : Nat) : List SV := [.ptr 0 0, wD rs, .ptr 1 0, wD out, vI .i64 rs.length, vI .i64 i]
def kbObs (l l' : List Wd) : List (Option Ob) := [some (.cells 25 [wD l, vI .i64 600]), some (.cells 25 [wD l', vI .i64 600])]
def kbOut (l l' : List Wd) (rs out : List Wd) (_ : Nat) : T OutC := .need (rs.length = out.length ∧ rs.length ≤ 100 ∧ ∀ j, j < rs.length → AL l 600 l' 600 6 (rs.getD j default) (out.getD j default)) (.ret (.exit 2, [], []))
structure KeV where
  ws : List Wd
  ms : List Wd
  rs : List Wd
  g : List Wd
  out : List Wd
def colC (l : List Wd) (lim : Int) (rs L R : List Wd) : T Out := .need (rs.length ≤ 1000000 ∧ colGood l lim rs = true ∧ L = colW l rs ∧ R = colR l rs) (.ret (.tup [hS L lim, wD R, .ki .i64 0], []))
def checkC (l : List Wd) (lim : Int) : T Out := .need (checkB l lim = true) (.ret (.ki .i64 0, []))
def eqC (l m : List Wd) : T Out := .need (fitsW l ∧ l = m) (.ret (.kb true, []))
def keKs (l : List Rw) (V : KeV) : List (Nat × Nat × FC) := [(1, 1, cF 12 false [rD l, vI .i64 30] [] (builtC l 30 V.ws V.ms)), (2, 0, noF), (6, 8, pickedF), (7, 2, cF 16 false [hS V.ws 600, wD V.rs] [] (colC V.ws 600 V.rs V.g V.out)),
  (8, 2, cF 16 false [hS V.g 600, wD V.out] [] (colC V.g 600 V.out V.g V.out)), (9, 15, cF 14 false [hS V.g 600] [] (checkC V.g 600)), (9, 32, cF 19 false [wD V.g, wD V.g] [] (eqC V.g V.g)), (9, 38, cF 19 false [wD V.out, wD V.out] [] (eqC V.out V.out)), (14, 10, alF 7)]
def kaLF (ns : List Int) (V : KeV) : LF := ⟨4, ⟨[1, 5, 6, 7, 8], [5, 7], []⟩, fun _ _ => some (kaArgs ns V.ms 0, kaObs V.ws V.ms ns 0, kaOut V.ws V.ms ns 0)⟩
def kbLF (V : KeV) : LF := ⟨12, ⟨[5, 7, 9, 10, 100, 101], [], [4]⟩, fun _ _ => some (kbArgs V.rs V.out 0, kbObs V.ws V.g, kbOut V.ws V.g V.rs V.out 0)⟩
noncomputable def keE (l : List Rw) (ns : List Int) (V : KeV) : Env := fnE Try.prog 117 0 (keKs l V) [kaLF ns V, kbLF V]
noncomputable def kaLoop : Code := (loopIn 4 (bodyOf Try.f8)).getD .skip
noncomputable def kbLoop : Code := (loopIn 12 (bodyOf Try.f8)).getD .skip

def eqLQ (l m : List Wd) (i : Nat) (Rn : List SV → List (Option Ob) → Prop) (Re : Ex → List SV → List (Option Ob) → Prop) : Prop :=
(((Decidable.decide ((↑i : Int) < (↑l.length : Int)) = Bool.true) →
 ((((0 : Int) ≤ (↑i : Int)) ∧
   ((↑i : Int) < (↑l.length : Int))) ∧
  ((((0 : Int) ≤ (↑i : Int)) ∧
    ((↑i : Int) < (↑m.length : Int))) ∧
   ((((!((l.getD (↑i : Int).toNat Inhabited.default).k == (m.getD (↑i : Int).toNat Inhabited.default).k && ((l.getD (↑i : Int).toNat Inhabited.default).n == (m.getD (↑i : Int).toNat Inhabited.default).n && ((l.getD (↑i : Int).toNat Inhabited.default).s == (m.getD (↑i : Int).toNat Inhabited.default).s && Bool.true)))) = Bool.true) →
     Re (Rx.Ex.ret) ([SV.dt (Dt.cell (Go.Value.bool Bool.false))]) ([])) ∧
    (((!((l.getD (↑i : Int).toNat Inhabited.default).k == (m.getD (↑i : Int).toNat Inhabited.default).k && ((l.getD (↑i : Int).toNat Inhabited.default).n == (m.getD (↑i : Int).toNat Inhabited.default).n && ((l.getD (↑i : Int).toNat Inhabited.default).s == (m.getD (↑i : Int).toNat Inhabited.default).s && Bool.true)))) = Bool.false) →
     (((Rx.lo Go.IntKind.i64 ≤ (↑i : Int) + (1 : Int)) ∧
       ((↑i : Int) + (1 : Int) ≤ Rx.hi Go.IntKind.i64)) ∧
      Rn ([SV.dt (Dt.arr ((3 : Nat)) (l.length) (Go.Proofs.Ytfpnadmpmfcaaaa.wF l)), SV.dt (Dt.arr ((3 : Nat)) (m.length) (Go.Proofs.Ytfpnadmpmfcaaaa.wF m)), SV.dt (Dt.cell (Go.Value.int Go.IntKind.i64 (↑l.length : Int))), SV.dt (Dt.cell (Go.Value.int Go.IntKind.i64 ((↑i : Int) + (1 : Int))))]) ([]))))))) ∧
((Decidable.decide ((↑i : Int) < (↑l.length : Int)) = Bool.false) →
 Re (Rx.Ex.exit (0 : Nat)) ([]) ([])))
def eqQ (l m : List Wd) (R : SV → List (Option Ob) → Prop) : Prop :=
(((((↑l.length : Int) != (↑m.length : Int)) = Bool.true) →
 (True ∧
  R (SV.dt (Dt.cell (Go.Value.bool Bool.false))) ([]))) ∧
((((↑l.length : Int) != (↑m.length : Int)) = Bool.false) →
 (((Rx.leS (SV.dt (Dt.arr ((3 : Nat)) (l.length) (Go.Proofs.Ytfpnadmpmfcaaaa.wF l))) (SV.dt (Dt.arr ((3 : Nat)) ((Go.Proofs.Ytfpnadmpmfcaaaa.rdF l.length (Go.Proofs.Ytfpnadmpmfcaaaa.wF l)).length) (Go.Proofs.Ytfpnadmpmfcaaaa.wF (Go.Proofs.Ytfpnadmpmfcaaaa.rdF l.length (Go.Proofs.Ytfpnadmpmfcaaaa.wF l)))))) ∧
   ((Rx.leS (SV.dt (Dt.arr ((3 : Nat)) (m.length) (Go.Proofs.Ytfpnadmpmfcaaaa.wF m))) (SV.dt (Dt.arr ((3 : Nat)) ((Go.Proofs.Ytfpnadmpmfcaaaa.rdF m.length (Go.Proofs.Ytfpnadmpmfcaaaa.wF m)).length) (Go.Proofs.Ytfpnadmpmfcaaaa.wF (Go.Proofs.Ytfpnadmpmfcaaaa.rdF m.length (Go.Proofs.Ytfpnadmpmfcaaaa.wF m)))))) ∧
    ((Rx.leS (SV.dt (Dt.cell (Go.Value.int Go.IntKind.i64 (↑l.length : Int)))) (SV.dt (Dt.cell (Go.Value.int Go.IntKind.i64 (↑(Go.Proofs.Ytfpnadmpmfcaaaa.rdF l.length (Go.Proofs.Ytfpnadmpmfcaaaa.wF l)).length : Int))))) ∧
     ((Rx.leS (SV.dt (Dt.cell (Go.Value.int Go.IntKind.i64 (0 : Int)))) (SV.dt (Dt.cell (Go.Value.int Go.IntKind.i64 (↑(0 : Nat) : Int))))) ∧
      True)))) ∧
  ((Rx.leOO ([]) ([])) ∧
   (((Go.Proofs.Ytfpnadmpmfcaaaa.fitsW (Go.Proofs.Ytfpnadmpmfcaaaa.rdF l.length (Go.Proofs.Ytfpnadmpmfcaaaa.wF l))) ∧
     ((Go.Proofs.Ytfpnadmpmfcaaaa.rdF l.length (Go.Proofs.Ytfpnadmpmfcaaaa.wF l)).length = (Go.Proofs.Ytfpnadmpmfcaaaa.rdF m.length (Go.Proofs.Ytfpnadmpmfcaaaa.wF m)).length)) ∧
    (((Decidable.decide (List.drop (0 : Nat) (Go.Proofs.Ytfpnadmpmfcaaaa.rdF l.length (Go.Proofs.Ytfpnadmpmfcaaaa.wF l)) = List.drop (0 : Nat) (Go.Proofs.Ytfpnadmpmfcaaaa.rdF m.length (Go.Proofs.Ytfpnadmpmfcaaaa.wF m))) = Bool.true) →
      (True ∧
       R (SV.dt (Dt.cell (Go.Value.bool Bool.true))) ([]))) ∧
     ((Decidable.decide (List.drop (0 : Nat) (Go.Proofs.Ytfpnadmpmfcaaaa.rdF l.length (Go.Proofs.Ytfpnadmpmfcaaaa.wF l)) = List.drop (0 : Nat) (Go.Proofs.Ytfpnadmpmfcaaaa.rdF m.length (Go.Proofs.Ytfpnadmpmfcaaaa.wF m))) = Bool.false) →
      (True ∧
       R (SV.dt (Dt.cell (Go.Value.bool Bool.false))) ([])))))))))
def alLQ (N : Nat) (l : List Wd) (lim : Int) (l' : List Wd) (lim' : Int) (x y : Wd) (n : Int) (i : Nat) (Rn : List SV → List (Option Ob) → Prop) (Re : Ex → List SV → List (Option Ob) → Prop) : Prop :=
(((Decidable.decide (n > (0 : Int)) = Bool.true) →
 ((Rx.leL ([SV.agg [SV.dt (Dt.arr ((3 : Nat)) (l.length) (Go.Proofs.Ytfpnadmpmfcaaaa.wF l)), SV.dt (Dt.cell (Go.Value.int Go.IntKind.i64 lim))], SV.agg [SV.dt (Dt.cell (Go.Value.int Go.IntKind.i64 x.k)), SV.dt (Dt.cell (Go.Value.int Go.IntKind.i64 x.n)), SV.dt (Dt.cell (Go.Value.string x.s))], SV.dt (Dt.cell (Go.Value.int Go.IntKind.i64 (↑i : Int)))]) ([SV.agg [SV.dt (Dt.arr ((3 : Nat)) ((Go.Proofs.Ytfpnadmpmfcaaaa.rdF l.length (Go.Proofs.Ytfpnadmpmfcaaaa.wF l)).length) (Go.Proofs.Ytfpnadmpmfcaaaa.wF (Go.Proofs.Ytfpnadmpmfcaaaa.rdF l.length (Go.Proofs.Ytfpnadmpmfcaaaa.wF l)))), SV.dt (Dt.cell (Go.Value.int Go.IntKind.i64 lim))], SV.agg [SV.dt (Dt.cell (Go.Value.int Go.IntKind.i64 x.k)), SV.dt (Dt.cell (Go.Value.int Go.IntKind.i64 x.n)), SV.dt (Dt.cell (Go.Value.string x.s))], SV.dt (Dt.cell (Go.Value.int Go.IntKind.i64 (↑i : Int)))])) ∧
  ((Rx.leObL ([]) ([])) ∧
   ((Go.Proofs.Ytfpnadmpmfcaaaa.isInt (↑i : Int)) ∧
    ((Rx.leL ([SV.agg [SV.dt (Dt.arr ((3 : Nat)) (l'.length) (Go.Proofs.Ytfpnadmpmfcaaaa.wF l')), SV.dt (Dt.cell (Go.Value.int Go.IntKind.i64 lim'))], SV.agg [SV.dt (Dt.cell (Go.Value.int Go.IntKind.i64 y.k)), SV.dt (Dt.cell (Go.Value.int Go.IntKind.i64 y.n)), SV.dt (Dt.cell (Go.Value.string y.s))], SV.dt (Dt.cell (Go.Value.int Go.IntKind.i64 (↑i : Int)))]) ([SV.agg [SV.dt (Dt.arr ((3 : Nat)) ((Go.Proofs.Ytfpnadmpmfcaaaa.rdF l'.length (Go.Proofs.Ytfpnadmpmfcaaaa.wF l')).length) (Go.Proofs.Ytfpnadmpmfcaaaa.wF (Go.Proofs.Ytfpnadmpmfcaaaa.rdF l'.length (Go.Proofs.Ytfpnadmpmfcaaaa.wF l')))), SV.dt (Dt.cell (Go.Value.int Go.IntKind.i64 lim'))], SV.agg [SV.dt (Dt.cell (Go.Value.int Go.IntKind.i64 y.k)), SV.dt (Dt.cell (Go.Value.int Go.IntKind.i64 y.n)), SV.dt (Dt.cell (Go.Value.string y.s))], SV.dt (Dt.cell (Go.Value.int Go.IntKind.i64 (↑i : Int)))])) ∧
     ((Rx.leObL ([]) ([])) ∧
      ((Go.Proofs.Ytfpnadmpmfcaaaa.isInt (↑i : Int)) ∧
       ((((Go.Proofs.Ytfpnadmpmfcaaaa.partE (Go.Proofs.Ytfpnadmpmfcaaaa.rdF l.length (Go.Proofs.Ytfpnadmpmfcaaaa.wF l)) lim (Go.Proofs.Ytfpnadmpmfcaaaa.Wd.mk x.k x.n x.s) (↑i : Int) != Go.Proofs.Ytfpnadmpmfcaaaa.partE (Go.Proofs.Ytfpnadmpmfcaaaa.rdF l'.length (Go.Proofs.Ytfpnadmpmfcaaaa.wF l')) lim' (Go.Proofs.Ytfpnadmpmfcaaaa.Wd.mk y.k y.n y.s) (↑i : Int)) = Bool.true) →
         Re (Rx.Ex.ret) ([SV.dt (Dt.cell (Go.Value.bool Bool.false))]) ([])) ∧
        (((Go.Proofs.Ytfpnadmpmfcaaaa.partE (Go.Proofs.Ytfpnadmpmfcaaaa.rdF l.length (Go.Proofs.Ytfpnadmpmfcaaaa.wF l)) lim (Go.Proofs.Ytfpnadmpmfcaaaa.Wd.mk x.k x.n x.s) (↑i : Int) != Go.Proofs.Ytfpnadmpmfcaaaa.partE (Go.Proofs.Ytfpnadmpmfcaaaa.rdF l'.length (Go.Proofs.Ytfpnadmpmfcaaaa.wF l')) lim' (Go.Proofs.Ytfpnadmpmfcaaaa.Wd.mk y.k y.n y.s) (↑i : Int)) = Bool.false) →
         ((((Go.Proofs.Ytfpnadmpmfcaaaa.partE (Go.Proofs.Ytfpnadmpmfcaaaa.rdF l.length (Go.Proofs.Ytfpnadmpmfcaaaa.wF l)) lim (Go.Proofs.Ytfpnadmpmfcaaaa.Wd.mk x.k x.n x.s) (↑i : Int) != (0 : Int)) = Bool.true) →
           Re (Rx.Ex.exit (0 : Nat)) ([]) ([])) ∧
          (((Go.Proofs.Ytfpnadmpmfcaaaa.partE (Go.Proofs.Ytfpnadmpmfcaaaa.rdF l.length (Go.Proofs.Ytfpnadmpmfcaaaa.wF l)) lim (Go.Proofs.Ytfpnadmpmfcaaaa.Wd.mk x.k x.n x.s) (↑i : Int) != (0 : Int)) = Bool.false) →
           (((Rx.lo Go.IntKind.i64 ≤ n - (1 : Int)) ∧
             (n - (1 : Int) ≤ Rx.hi Go.IntKind.i64)) ∧
            ((Rx.leL ([SV.agg [SV.dt (Dt.arr ((3 : Nat)) (l.length) (Go.Proofs.Ytfpnadmpmfcaaaa.wF l)), SV.dt (Dt.cell (Go.Value.int Go.IntKind.i64 lim))], SV.agg [SV.dt (Dt.cell (Go.Value.int Go.IntKind.i64 (Go.Proofs.Ytfpnadmpmfcaaaa.partW (Go.Proofs.Ytfpnadmpmfcaaaa.rdF l.length (Go.Proofs.Ytfpnadmpmfcaaaa.wF l)) lim (Go.Proofs.Ytfpnadmpmfcaaaa.Wd.mk x.k x.n x.s) (↑i : Int)).k)), SV.dt (Dt.cell (Go.Value.int Go.IntKind.i64 (Go.Proofs.Ytfpnadmpmfcaaaa.partW (Go.Proofs.Ytfpnadmpmfcaaaa.rdF l.length (Go.Proofs.Ytfpnadmpmfcaaaa.wF l)) lim (Go.Proofs.Ytfpnadmpmfcaaaa.Wd.mk x.k x.n x.s) (↑i : Int)).n)), SV.dt (Dt.cell (Go.Value.string (Go.Proofs.Ytfpnadmpmfcaaaa.partW (Go.Proofs.Ytfpnadmpmfcaaaa.rdF l.length (Go.Proofs.Ytfpnadmpmfcaaaa.wF l)) lim (Go.Proofs.Ytfpnadmpmfcaaaa.Wd.mk x.k x.n x.s) (↑i : Int)).s))], SV.agg [SV.dt (Dt.arr ((3 : Nat)) (l'.length) (Go.Proofs.Ytfpnadmpmfcaaaa.wF l')), SV.dt (Dt.cell (Go.Value.int Go.IntKind.i64 lim'))], SV.agg [SV.dt (Dt.cell (Go.Value.int Go.IntKind.i64 (Go.Proofs.Ytfpnadmpmfcaaaa.partW (Go.Proofs.Ytfpnadmpmfcaaaa.rdF l'.length (Go.Proofs.Ytfpnadmpmfcaaaa.wF l')) lim' (Go.Proofs.Ytfpnadmpmfcaaaa.Wd.mk y.k y.n y.s) (↑i : Int)).k)), SV.dt (Dt.cell (Go.Value.int Go.IntKind.i64 (Go.Proofs.Ytfpnadmpmfcaaaa.partW (Go.Proofs.Ytfpnadmpmfcaaaa.rdF l'.length (Go.Proofs.Ytfpnadmpmfcaaaa.wF l')) lim' (Go.Proofs.Ytfpnadmpmfcaaaa.Wd.mk y.k y.n y.s) (↑i : Int)).n)), SV.dt (Dt.cell (Go.Value.string (Go.Proofs.Ytfpnadmpmfcaaaa.partW (Go.Proofs.Ytfpnadmpmfcaaaa.rdF l'.length (Go.Proofs.Ytfpnadmpmfcaaaa.wF l')) lim' (Go.Proofs.Ytfpnadmpmfcaaaa.Wd.mk y.k y.n y.s) (↑i : Int)).s))], SV.dt (Dt.cell (Go.Value.int Go.IntKind.i64 (n - (1 : Int))))]) ([SV.agg [SV.dt (Dt.arr ((3 : Nat)) ((Go.Proofs.Ytfpnadmpmfcaaaa.rdF l.length (Go.Proofs.Ytfpnadmpmfcaaaa.wF l)).length) (Go.Proofs.Ytfpnadmpmfcaaaa.wF (Go.Proofs.Ytfpnadmpmfcaaaa.rdF l.length (Go.Proofs.Ytfpnadmpmfcaaaa.wF l)))), SV.dt (Dt.cell (Go.Value.int Go.IntKind.i64 lim))], SV.agg [SV.dt (Dt.cell (Go.Value.int Go.IntKind.i64 (Go.Proofs.Ytfpnadmpmfcaaaa.partW (Go.Proofs.Ytfpnadmpmfcaaaa.rdF l.length (Go.Proofs.Ytfpnadmpmfcaaaa.wF l)) lim (Go.Proofs.Ytfpnadmpmfcaaaa.Wd.mk x.k x.n x.s) (↑i : Int)).k)), SV.dt (Dt.cell (Go.Value.int Go.IntKind.i64 (Go.Proofs.Ytfpnadmpmfcaaaa.partW (Go.Proofs.Ytfpnadmpmfcaaaa.rdF l.length (Go.Proofs.Ytfpnadmpmfcaaaa.wF l)) lim (Go.Proofs.Ytfpnadmpmfcaaaa.Wd.mk x.k x.n x.s) (↑i : Int)).n)), SV.dt (Dt.cell (Go.Value.string (Go.Proofs.Ytfpnadmpmfcaaaa.partW (Go.Proofs.Ytfpnadmpmfcaaaa.rdF l.length (Go.Proofs.Ytfpnadmpmfcaaaa.wF l)) lim (Go.Proofs.Ytfpnadmpmfcaaaa.Wd.mk x.k x.n x.s) (↑i : Int)).s))], SV.agg [SV.dt (Dt.arr ((3 : Nat)) ((Go.Proofs.Ytfpnadmpmfcaaaa.rdF l'.length (Go.Proofs.Ytfpnadmpmfcaaaa.wF l')).length) (Go.Proofs.Ytfpnadmpmfcaaaa.wF (Go.Proofs.Ytfpnadmpmfcaaaa.rdF l'.length (Go.Proofs.Ytfpnadmpmfcaaaa.wF l')))), SV.dt (Dt.cell (Go.Value.int Go.IntKind.i64 lim'))], SV.agg [SV.dt (Dt.cell (Go.Value.int Go.IntKind.i64 (Go.Proofs.Ytfpnadmpmfcaaaa.partW (Go.Proofs.Ytfpnadmpmfcaaaa.rdF l'.length (Go.Proofs.Ytfpnadmpmfcaaaa.wF l')) lim' (Go.Proofs.Ytfpnadmpmfcaaaa.Wd.mk y.k y.n y.s) (↑i : Int)).k)), SV.dt (Dt.cell (Go.Value.int Go.IntKind.i64 (Go.Proofs.Ytfpnadmpmfcaaaa.partW (Go.Proofs.Ytfpnadmpmfcaaaa.rdF l'.length (Go.Proofs.Ytfpnadmpmfcaaaa.wF l')) lim' (Go.Proofs.Ytfpnadmpmfcaaaa.Wd.mk y.k y.n y.s) (↑i : Int)).n)), SV.dt (Dt.cell (Go.Value.string (Go.Proofs.Ytfpnadmpmfcaaaa.partW (Go.Proofs.Ytfpnadmpmfcaaaa.rdF l'.length (Go.Proofs.Ytfpnadmpmfcaaaa.wF l')) lim' (Go.Proofs.Ytfpnadmpmfcaaaa.Wd.mk y.k y.n y.s) (↑i : Int)).s))], SV.dt (Dt.cell (Go.Value.int Go.IntKind.i64 (n - (1 : Int))))])) ∧
             ((Rx.leObL ([]) ([])) ∧
              (((((0 : Int) ≤ n - (1 : Int)) ∧
                 (n - (1 : Int) ≤ (1000 : Int))) ∧
                (((n - (1 : Int)).toNat < N) ∧
                 (Go.Proofs.Ytfpnadmpmfcaaaa.AL (Go.Proofs.Ytfpnadmpmfcaaaa.rdF l.length (Go.Proofs.Ytfpnadmpmfcaaaa.wF l)) lim (Go.Proofs.Ytfpnadmpmfcaaaa.rdF l'.length (Go.Proofs.Ytfpnadmpmfcaaaa.wF l')) lim' (n - (1 : Int)).toNat (Go.Proofs.Ytfpnadmpmfcaaaa.Wd.mk (Go.Proofs.Ytfpnadmpmfcaaaa.partW (Go.Proofs.Ytfpnadmpmfcaaaa.rdF l.length (Go.Proofs.Ytfpnadmpmfcaaaa.wF l)) lim (Go.Proofs.Ytfpnadmpmfcaaaa.Wd.mk x.k x.n x.s) (↑i : Int)).k (Go.Proofs.Ytfpnadmpmfcaaaa.partW (Go.Proofs.Ytfpnadmpmfcaaaa.rdF l.length (Go.Proofs.Ytfpnadmpmfcaaaa.wF l)) lim (Go.Proofs.Ytfpnadmpmfcaaaa.Wd.mk x.k x.n x.s) (↑i : Int)).n (Go.Proofs.Ytfpnadmpmfcaaaa.partW (Go.Proofs.Ytfpnadmpmfcaaaa.rdF l.length (Go.Proofs.Ytfpnadmpmfcaaaa.wF l)) lim (Go.Proofs.Ytfpnadmpmfcaaaa.Wd.mk x.k x.n x.s) (↑i : Int)).s) (Go.Proofs.Ytfpnadmpmfcaaaa.Wd.mk (Go.Proofs.Ytfpnadmpmfcaaaa.partW (Go.Proofs.Ytfpnadmpmfcaaaa.rdF l'.length (Go.Proofs.Ytfpnadmpmfcaaaa.wF l')) lim' (Go.Proofs.Ytfpnadmpmfcaaaa.Wd.mk y.k y.n y.s) (↑i : Int)).k (Go.Proofs.Ytfpnadmpmfcaaaa.partW (Go.Proofs.Ytfpnadmpmfcaaaa.rdF l'.length (Go.Proofs.Ytfpnadmpmfcaaaa.wF l')) lim' (Go.Proofs.Ytfpnadmpmfcaaaa.Wd.mk y.k y.n y.s) (↑i : Int)).n (Go.Proofs.Ytfpnadmpmfcaaaa.partW (Go.Proofs.Ytfpnadmpmfcaaaa.rdF l'.length (Go.Proofs.Ytfpnadmpmfcaaaa.wF l')) lim' (Go.Proofs.Ytfpnadmpmfcaaaa.Wd.mk y.k y.n y.s) (↑i : Int)).s)))) ∧
               (((Rx.lo Go.IntKind.i64 ≤ (↑i : Int) + (1 : Int)) ∧
                 ((↑i : Int) + (1 : Int) ≤ Rx.hi Go.IntKind.i64)) ∧
                Rn ([SV.dt (Dt.cell (Go.Value.int Go.IntKind.i64 n)), SV.ptr 0 0, SV.ptr 1 0, SV.ptr 2 0, SV.ptr 3 0, SV.dt (Dt.cell (Go.Value.int Go.IntKind.i64 ((↑i : Int) + (1 : Int))))]) ([some (Ob.cells 25 [SV.dt (Dt.arr ((3 : Nat)) (l.length) (Go.Proofs.Ytfpnadmpmfcaaaa.wF l)), SV.dt (Dt.cell (Go.Value.int Go.IntKind.i64 lim))]), some (Ob.cells 25 [SV.dt (Dt.arr ((3 : Nat)) (l'.length) (Go.Proofs.Ytfpnadmpmfcaaaa.wF l')), SV.dt (Dt.cell (Go.Value.int Go.IntKind.i64 lim'))]), some (Ob.cells 30 [SV.dt (Dt.cell (Go.Value.int Go.IntKind.i64 x.k)), SV.dt (Dt.cell (Go.Value.int Go.IntKind.i64 x.n)), SV.dt (Dt.cell (Go.Value.string x.s))]), some (Ob.cells 30 [SV.dt (Dt.cell (Go.Value.int Go.IntKind.i64 y.k)), SV.dt (Dt.cell (Go.Value.int Go.IntKind.i64 y.n)), SV.dt (Dt.cell (Go.Value.string y.s))])]))))))))))))))))) ∧
((Decidable.decide (n > (0 : Int)) = Bool.false) →
 Re (Rx.Ex.exit (0 : Nat)) ([]) ([])))
def alQ (N : Nat) (l : List Wd) (lim : Int) (l' : List Wd) (lim' : Int) (a b : Wd) (n : Int) (R : SV → List (Option Ob) → Prop) : Prop :=
((Rx.leL ([SV.agg [SV.dt (Dt.arr ((3 : Nat)) (l.length) (Go.Proofs.Ytfpnadmpmfcaaaa.wF l)), SV.dt (Dt.cell (Go.Value.int Go.IntKind.i64 lim))], SV.agg [SV.dt (Dt.cell (Go.Value.int Go.IntKind.i64 a.k)), SV.dt (Dt.cell (Go.Value.int Go.IntKind.i64 a.n)), SV.dt (Dt.cell (Go.Value.string a.s))]]) ([SV.agg [SV.dt (Dt.arr ((3 : Nat)) ((Go.Proofs.Ytfpnadmpmfcaaaa.rdF l.length (Go.Proofs.Ytfpnadmpmfcaaaa.wF l)).length) (Go.Proofs.Ytfpnadmpmfcaaaa.wF (Go.Proofs.Ytfpnadmpmfcaaaa.rdF l.length (Go.Proofs.Ytfpnadmpmfcaaaa.wF l)))), SV.dt (Dt.cell (Go.Value.int Go.IntKind.i64 lim))], SV.agg [SV.dt (Dt.cell (Go.Value.int Go.IntKind.i64 a.k)), SV.dt (Dt.cell (Go.Value.int Go.IntKind.i64 a.n)), SV.dt (Dt.cell (Go.Value.string a.s))]])) ∧
((Rx.leObL ([]) ([])) ∧
 ((Rx.leL ([SV.agg [SV.dt (Dt.arr ((3 : Nat)) (l'.length) (Go.Proofs.Ytfpnadmpmfcaaaa.wF l')), SV.dt (Dt.cell (Go.Value.int Go.IntKind.i64 lim'))], SV.agg [SV.dt (Dt.cell (Go.Value.int Go.IntKind.i64 b.k)), SV.dt (Dt.cell (Go.Value.int Go.IntKind.i64 b.n)), SV.dt (Dt.cell (Go.Value.string b.s))]]) ([SV.agg [SV.dt (Dt.arr ((3 : Nat)) ((Go.Proofs.Ytfpnadmpmfcaaaa.rdF l'.length (Go.Proofs.Ytfpnadmpmfcaaaa.wF l')).length) (Go.Proofs.Ytfpnadmpmfcaaaa.wF (Go.Proofs.Ytfpnadmpmfcaaaa.rdF l'.length (Go.Proofs.Ytfpnadmpmfcaaaa.wF l')))), SV.dt (Dt.cell (Go.Value.int Go.IntKind.i64 lim'))], SV.agg [SV.dt (Dt.cell (Go.Value.int Go.IntKind.i64 b.k)), SV.dt (Dt.cell (Go.Value.int Go.IntKind.i64 b.n)), SV.dt (Dt.cell (Go.Value.string b.s))]])) ∧
  ((Rx.leObL ([]) ([])) ∧
   ((((Go.Proofs.Ytfpnadmpmfcaaaa.cvErr (Go.Proofs.Ytfpnadmpmfcaaaa.rdF l.length (Go.Proofs.Ytfpnadmpmfcaaaa.wF l)) lim (Go.Proofs.Ytfpnadmpmfcaaaa.Wd.mk a.k a.n a.s) != (0 : Int)) = Bool.true) →
     (True ∧
      R (SV.dt (Dt.cell (Go.Value.bool Bool.false))) ([]))) ∧
    (((Go.Proofs.Ytfpnadmpmfcaaaa.cvErr (Go.Proofs.Ytfpnadmpmfcaaaa.rdF l.length (Go.Proofs.Ytfpnadmpmfcaaaa.wF l)) lim (Go.Proofs.Ytfpnadmpmfcaaaa.Wd.mk a.k a.n a.s) != (0 : Int)) = Bool.false) →
     ((((Go.Proofs.Ytfpnadmpmfcaaaa.cvErr (Go.Proofs.Ytfpnadmpmfcaaaa.rdF l'.length (Go.Proofs.Ytfpnadmpmfcaaaa.wF l')) lim' (Go.Proofs.Ytfpnadmpmfcaaaa.Wd.mk b.k b.n b.s) != (0 : Int)) = Bool.true) →
       (True ∧
        R (SV.dt (Dt.cell (Go.Value.bool Bool.false))) ([]))) ∧
      (((Go.Proofs.Ytfpnadmpmfcaaaa.cvErr (Go.Proofs.Ytfpnadmpmfcaaaa.rdF l'.length (Go.Proofs.Ytfpnadmpmfcaaaa.wF l')) lim' (Go.Proofs.Ytfpnadmpmfcaaaa.Wd.mk b.k b.n b.s) != (0 : Int)) = Bool.false) →
       (((((Go.Proofs.Ytfpnadmpmfcaaaa.findR (Go.Proofs.Ytfpnadmpmfcaaaa.rdF l.length (Go.Proofs.Ytfpnadmpmfcaaaa.wF l)) lim (Go.Proofs.Ytfpnadmpmfcaaaa.Wd.mk a.k a.n a.s)).k != (Go.Proofs.Ytfpnadmpmfcaaaa.findR (Go.Proofs.Ytfpnadmpmfcaaaa.rdF l'.length (Go.Proofs.Ytfpnadmpmfcaaaa.wF l')) lim' (Go.Proofs.Ytfpnadmpmfcaaaa.Wd.mk b.k b.n b.s)).k) = Bool.true) →
         (True ∧
          R (SV.dt (Dt.cell (Go.Value.bool Bool.false))) ([]))) ∧
        ((((Go.Proofs.Ytfpnadmpmfcaaaa.findR (Go.Proofs.Ytfpnadmpmfcaaaa.rdF l.length (Go.Proofs.Ytfpnadmpmfcaaaa.wF l)) lim (Go.Proofs.Ytfpnadmpmfcaaaa.Wd.mk a.k a.n a.s)).k != (Go.Proofs.Ytfpnadmpmfcaaaa.findR (Go.Proofs.Ytfpnadmpmfcaaaa.rdF l'.length (Go.Proofs.Ytfpnadmpmfcaaaa.wF l')) lim' (Go.Proofs.Ytfpnadmpmfcaaaa.Wd.mk b.k b.n b.s)).k) = Bool.false) →
         (((((Go.Proofs.Ytfpnadmpmfcaaaa.findR (Go.Proofs.Ytfpnadmpmfcaaaa.rdF l.length (Go.Proofs.Ytfpnadmpmfcaaaa.wF l)) lim (Go.Proofs.Ytfpnadmpmfcaaaa.Wd.mk a.k a.n a.s)).k != (5 : Int)) = Bool.true) →
           (True ∧
            R (SV.dt (Dt.cell (Go.Value.bool ((Go.Proofs.Ytfpnadmpmfcaaaa.findR (Go.Proofs.Ytfpnadmpmfcaaaa.rdF l.length (Go.Proofs.Ytfpnadmpmfcaaaa.wF l)) lim (Go.Proofs.Ytfpnadmpmfcaaaa.Wd.mk a.k a.n a.s)).k == (Go.Proofs.Ytfpnadmpmfcaaaa.findR (Go.Proofs.Ytfpnadmpmfcaaaa.rdF l'.length (Go.Proofs.Ytfpnadmpmfcaaaa.wF l')) lim' (Go.Proofs.Ytfpnadmpmfcaaaa.Wd.mk b.k b.n b.s)).k && ((Go.Proofs.Ytfpnadmpmfcaaaa.findR (Go.Proofs.Ytfpnadmpmfcaaaa.rdF l.length (Go.Proofs.Ytfpnadmpmfcaaaa.wF l)) lim (Go.Proofs.Ytfpnadmpmfcaaaa.Wd.mk a.k a.n a.s)).n == (Go.Proofs.Ytfpnadmpmfcaaaa.findR (Go.Proofs.Ytfpnadmpmfcaaaa.rdF l'.length (Go.Proofs.Ytfpnadmpmfcaaaa.wF l')) lim' (Go.Proofs.Ytfpnadmpmfcaaaa.Wd.mk b.k b.n b.s)).n && ((Go.Proofs.Ytfpnadmpmfcaaaa.findR (Go.Proofs.Ytfpnadmpmfcaaaa.rdF l.length (Go.Proofs.Ytfpnadmpmfcaaaa.wF l)) lim (Go.Proofs.Ytfpnadmpmfcaaaa.Wd.mk a.k a.n a.s)).s == (Go.Proofs.Ytfpnadmpmfcaaaa.findR (Go.Proofs.Ytfpnadmpmfcaaaa.rdF l'.length (Go.Proofs.Ytfpnadmpmfcaaaa.wF l')) lim' (Go.Proofs.Ytfpnadmpmfcaaaa.Wd.mk b.k b.n b.s)).s && Bool.true)))))) ([]))) ∧
          ((((Go.Proofs.Ytfpnadmpmfcaaaa.findR (Go.Proofs.Ytfpnadmpmfcaaaa.rdF l.length (Go.Proofs.Ytfpnadmpmfcaaaa.wF l)) lim (Go.Proofs.Ytfpnadmpmfcaaaa.Wd.mk a.k a.n a.s)).k != (5 : Int)) = Bool.false) →
           ((((0 : Int) ≤ (Go.Proofs.Ytfpnadmpmfcaaaa.findR (Go.Proofs.Ytfpnadmpmfcaaaa.rdF l.length (Go.Proofs.Ytfpnadmpmfcaaaa.wF l)) lim (Go.Proofs.Ytfpnadmpmfcaaaa.Wd.mk a.k a.n a.s)).n) ∧
             ((Go.Proofs.Ytfpnadmpmfcaaaa.findR (Go.Proofs.Ytfpnadmpmfcaaaa.rdF l.length (Go.Proofs.Ytfpnadmpmfcaaaa.wF l)) lim (Go.Proofs.Ytfpnadmpmfcaaaa.Wd.mk a.k a.n a.s)).n < (↑l.length : Int))) ∧
            ((((0 : Int) ≤ (Go.Proofs.Ytfpnadmpmfcaaaa.findR (Go.Proofs.Ytfpnadmpmfcaaaa.rdF l'.length (Go.Proofs.Ytfpnadmpmfcaaaa.wF l')) lim' (Go.Proofs.Ytfpnadmpmfcaaaa.Wd.mk b.k b.n b.s)).n) ∧
              ((Go.Proofs.Ytfpnadmpmfcaaaa.findR (Go.Proofs.Ytfpnadmpmfcaaaa.rdF l'.length (Go.Proofs.Ytfpnadmpmfcaaaa.wF l')) lim' (Go.Proofs.Ytfpnadmpmfcaaaa.Wd.mk b.k b.n b.s)).n < (↑l'.length : Int))) ∧
             ((((!((l.getD (Go.Proofs.Ytfpnadmpmfcaaaa.findR (Go.Proofs.Ytfpnadmpmfcaaaa.rdF l.length (Go.Proofs.Ytfpnadmpmfcaaaa.wF l)) lim (Go.Proofs.Ytfpnadmpmfcaaaa.Wd.mk a.k a.n a.s)).n.toNat Inhabited.default).k == (l'.getD (Go.Proofs.Ytfpnadmpmfcaaaa.findR (Go.Proofs.Ytfpnadmpmfcaaaa.rdF l'.length (Go.Proofs.Ytfpnadmpmfcaaaa.wF l')) lim' (Go.Proofs.Ytfpnadmpmfcaaaa.Wd.mk b.k b.n b.s)).n.toNat Inhabited.default).k && ((l.getD (Go.Proofs.Ytfpnadmpmfcaaaa.findR (Go.Proofs.Ytfpnadmpmfcaaaa.rdF l.length (Go.Proofs.Ytfpnadmpmfcaaaa.wF l)) lim (Go.Proofs.Ytfpnadmpmfcaaaa.Wd.mk a.k a.n a.s)).n.toNat Inhabited.default).n == (l'.getD (Go.Proofs.Ytfpnadmpmfcaaaa.findR (Go.Proofs.Ytfpnadmpmfcaaaa.rdF l'.length (Go.Proofs.Ytfpnadmpmfcaaaa.wF l')) lim' (Go.Proofs.Ytfpnadmpmfcaaaa.Wd.mk b.k b.n b.s)).n.toNat Inhabited.default).n && ((l.getD (Go.Proofs.Ytfpnadmpmfcaaaa.findR (Go.Proofs.Ytfpnadmpmfcaaaa.rdF l.length (Go.Proofs.Ytfpnadmpmfcaaaa.wF l)) lim (Go.Proofs.Ytfpnadmpmfcaaaa.Wd.mk a.k a.n a.s)).n.toNat Inhabited.default).s == (l'.getD (Go.Proofs.Ytfpnadmpmfcaaaa.findR (Go.Proofs.Ytfpnadmpmfcaaaa.rdF l'.length (Go.Proofs.Ytfpnadmpmfcaaaa.wF l')) lim' (Go.Proofs.Ytfpnadmpmfcaaaa.Wd.mk b.k b.n b.s)).n.toNat Inhabited.default).s && Bool.true)))) = Bool.true) →
               (True ∧
                R (SV.dt (Dt.cell (Go.Value.bool Bool.false))) ([]))) ∧
              (((!((l.getD (Go.Proofs.Ytfpnadmpmfcaaaa.findR (Go.Proofs.Ytfpnadmpmfcaaaa.rdF l.length (Go.Proofs.Ytfpnadmpmfcaaaa.wF l)) lim (Go.Proofs.Ytfpnadmpmfcaaaa.Wd.mk a.k a.n a.s)).n.toNat Inhabited.default).k == (l'.getD (Go.Proofs.Ytfpnadmpmfcaaaa.findR (Go.Proofs.Ytfpnadmpmfcaaaa.rdF l'.length (Go.Proofs.Ytfpnadmpmfcaaaa.wF l')) lim' (Go.Proofs.Ytfpnadmpmfcaaaa.Wd.mk b.k b.n b.s)).n.toNat Inhabited.default).k && ((l.getD (Go.Proofs.Ytfpnadmpmfcaaaa.findR (Go.Proofs.Ytfpnadmpmfcaaaa.rdF l.length (Go.Proofs.Ytfpnadmpmfcaaaa.wF l)) lim (Go.Proofs.Ytfpnadmpmfcaaaa.Wd.mk a.k a.n a.s)).n.toNat Inhabited.default).n == (l'.getD (Go.Proofs.Ytfpnadmpmfcaaaa.findR (Go.Proofs.Ytfpnadmpmfcaaaa.rdF l'.length (Go.Proofs.Ytfpnadmpmfcaaaa.wF l')) lim' (Go.Proofs.Ytfpnadmpmfcaaaa.Wd.mk b.k b.n b.s)).n.toNat Inhabited.default).n && ((l.getD (Go.Proofs.Ytfpnadmpmfcaaaa.findR (Go.Proofs.Ytfpnadmpmfcaaaa.rdF l.length (Go.Proofs.Ytfpnadmpmfcaaaa.wF l)) lim (Go.Proofs.Ytfpnadmpmfcaaaa.Wd.mk a.k a.n a.s)).n.toNat Inhabited.default).s == (l'.getD (Go.Proofs.Ytfpnadmpmfcaaaa.findR (Go.Proofs.Ytfpnadmpmfcaaaa.rdF l'.length (Go.Proofs.Ytfpnadmpmfcaaaa.wF l')) lim' (Go.Proofs.Ytfpnadmpmfcaaaa.Wd.mk b.k b.n b.s)).n.toNat Inhabited.default).s && Bool.true)))) = Bool.false) →
               (((Rx.leS (SV.dt (Dt.cell (Go.Value.int Go.IntKind.i64 n))) (SV.dt (Dt.cell (Go.Value.int Go.IntKind.i64 n)))) ∧
                 ((Rx.leS (SV.ptr 0 0) (SV.ptr 0 0)) ∧
                  ((Rx.leS (SV.ptr 1 0) (SV.ptr 1 0)) ∧
                   ((Rx.leS (SV.ptr 2 0) (SV.ptr 2 0)) ∧
                    ((Rx.leS (SV.ptr 3 0) (SV.ptr 3 0)) ∧
                     ((Rx.leS (SV.dt (Dt.cell (Go.Value.int Go.IntKind.i64 (0 : Int)))) (SV.dt (Dt.cell (Go.Value.int Go.IntKind.i64 (↑(0 : Nat) : Int))))) ∧
                      True)))))) ∧
                ((Rx.leOO ([some (Ob.cells 25 [SV.dt (Dt.arr ((3 : Nat)) (l.length) (Go.Proofs.Ytfpnadmpmfcaaaa.wF l)), SV.dt (Dt.cell (Go.Value.int Go.IntKind.i64 lim))]), some (Ob.cells 25 [SV.dt (Dt.arr ((3 : Nat)) (l'.length) (Go.Proofs.Ytfpnadmpmfcaaaa.wF l')), SV.dt (Dt.cell (Go.Value.int Go.IntKind.i64 lim'))]), some (Ob.cells 30 [SV.dt (Dt.cell (Go.Value.int Go.IntKind.i64 (Go.Proofs.Ytfpnadmpmfcaaaa.findR (Go.Proofs.Ytfpnadmpmfcaaaa.rdF l.length (Go.Proofs.Ytfpnadmpmfcaaaa.wF l)) lim (Go.Proofs.Ytfpnadmpmfcaaaa.Wd.mk a.k a.n a.s)).k)), SV.dt (Dt.cell (Go.Value.int Go.IntKind.i64 (Go.Proofs.Ytfpnadmpmfcaaaa.findR (Go.Proofs.Ytfpnadmpmfcaaaa.rdF l.length (Go.Proofs.Ytfpnadmpmfcaaaa.wF l)) lim (Go.Proofs.Ytfpnadmpmfcaaaa.Wd.mk a.k a.n a.s)).n)), SV.dt (Dt.cell (Go.Value.string (Go.Proofs.Ytfpnadmpmfcaaaa.findR (Go.Proofs.Ytfpnadmpmfcaaaa.rdF l.length (Go.Proofs.Ytfpnadmpmfcaaaa.wF l)) lim (Go.Proofs.Ytfpnadmpmfcaaaa.Wd.mk a.k a.n a.s)).s))]), some (Ob.cells 30 [SV.dt (Dt.cell (Go.Value.int Go.IntKind.i64 (Go.Proofs.Ytfpnadmpmfcaaaa.findR (Go.Proofs.Ytfpnadmpmfcaaaa.rdF l'.length (Go.Proofs.Ytfpnadmpmfcaaaa.wF l')) lim' (Go.Proofs.Ytfpnadmpmfcaaaa.Wd.mk b.k b.n b.s)).k)), SV.dt (Dt.cell (Go.Value.int Go.IntKind.i64 (Go.Proofs.Ytfpnadmpmfcaaaa.findR (Go.Proofs.Ytfpnadmpmfcaaaa.rdF l'.length (Go.Proofs.Ytfpnadmpmfcaaaa.wF l')) lim' (Go.Proofs.Ytfpnadmpmfcaaaa.Wd.mk b.k b.n b.s)).n)), SV.dt (Dt.cell (Go.Value.string (Go.Proofs.Ytfpnadmpmfcaaaa.findR (Go.Proofs.Ytfpnadmpmfcaaaa.rdF l'.length (Go.Proofs.Ytfpnadmpmfcaaaa.wF l')) lim' (Go.Proofs.Ytfpnadmpmfcaaaa.Wd.mk b.k b.n b.s)).s))])]) ([some (Ob.cells 25 [SV.dt (Dt.arr ((3 : Nat)) ((Go.Proofs.Ytfpnadmpmfcaaaa.rdF l.length (Go.Proofs.Ytfpnadmpmfcaaaa.wF l)).length) (Go.Proofs.Ytfpnadmpmfcaaaa.wF (Go.Proofs.Ytfpnadmpmfcaaaa.rdF l.length (Go.Proofs.Ytfpnadmpmfcaaaa.wF l)))), SV.dt (Dt.cell (Go.Value.int Go.IntKind.i64 lim))]), some (Ob.cells 25 [SV.dt (Dt.arr ((3 : Nat)) ((Go.Proofs.Ytfpnadmpmfcaaaa.rdF l'.length (Go.Proofs.Ytfpnadmpmfcaaaa.wF l')).length) (Go.Proofs.Ytfpnadmpmfcaaaa.wF (Go.Proofs.Ytfpnadmpmfcaaaa.rdF l'.length (Go.Proofs.Ytfpnadmpmfcaaaa.wF l')))), SV.dt (Dt.cell (Go.Value.int Go.IntKind.i64 lim'))]), some (Ob.cells 30 [SV.dt (Dt.cell (Go.Value.int Go.IntKind.i64 (Go.Proofs.Ytfpnadmpmfcaaaa.findR (Go.Proofs.Ytfpnadmpmfcaaaa.rdF l.length (Go.Proofs.Ytfpnadmpmfcaaaa.wF l)) lim (Go.Proofs.Ytfpnadmpmfcaaaa.Wd.mk a.k a.n a.s)).k)), SV.dt (Dt.cell (Go.Value.int Go.IntKind.i64 (Go.Proofs.Ytfpnadmpmfcaaaa.findR (Go.Proofs.Ytfpnadmpmfcaaaa.rdF l.length (Go.Proofs.Ytfpnadmpmfcaaaa.wF l)) lim (Go.Proofs.Ytfpnadmpmfcaaaa.Wd.mk a.k a.n a.s)).n)), SV.dt (Dt.cell (Go.Value.string (Go.Proofs.Ytfpnadmpmfcaaaa.findR (Go.Proofs.Ytfpnadmpmfcaaaa.rdF l.length (Go.Proofs.Ytfpnadmpmfcaaaa.wF l)) lim (Go.Proofs.Ytfpnadmpmfcaaaa.Wd.mk a.k a.n a.s)).s))]), some (Ob.cells 30 [SV.dt (Dt.cell (Go.Value.int Go.IntKind.i64 (Go.Proofs.Ytfpnadmpmfcaaaa.findR (Go.Proofs.Ytfpnadmpmfcaaaa.rdF l'.length (Go.Proofs.Ytfpnadmpmfcaaaa.wF l')) lim' (Go.Proofs.Ytfpnadmpmfcaaaa.Wd.mk b.k b.n b.s)).k)), SV.dt (Dt.cell (Go.Value.int Go.IntKind.i64 (Go.Proofs.Ytfpnadmpmfcaaaa.findR (Go.Proofs.Ytfpnadmpmfcaaaa.rdF l'.length (Go.Proofs.Ytfpnadmpmfcaaaa.wF l')) lim' (Go.Proofs.Ytfpnadmpmfcaaaa.Wd.mk b.k b.n b.s)).n)), SV.dt (Dt.cell (Go.Value.string (Go.Proofs.Ytfpnadmpmfcaaaa.findR (Go.Proofs.Ytfpnadmpmfcaaaa.rdF l'.length (Go.Proofs.Ytfpnadmpmfcaaaa.wF l')) lim' (Go.Proofs.Ytfpnadmpmfcaaaa.Wd.mk b.k b.n b.s)).s))])])) ∧
                 ((Go.Proofs.Ytfpnadmpmfcaaaa.alP N (Go.Proofs.Ytfpnadmpmfcaaaa.rdF l.length (Go.Proofs.Ytfpnadmpmfcaaaa.wF l)) lim (Go.Proofs.Ytfpnadmpmfcaaaa.rdF l'.length (Go.Proofs.Ytfpnadmpmfcaaaa.wF l')) lim' (Go.Proofs.Ytfpnadmpmfcaaaa.Wd.mk (Go.Proofs.Ytfpnadmpmfcaaaa.findR (Go.Proofs.Ytfpnadmpmfcaaaa.rdF l.length (Go.Proofs.Ytfpnadmpmfcaaaa.wF l)) lim (Go.Proofs.Ytfpnadmpmfcaaaa.Wd.mk a.k a.n a.s)).k (Go.Proofs.Ytfpnadmpmfcaaaa.findR (Go.Proofs.Ytfpnadmpmfcaaaa.rdF l.length (Go.Proofs.Ytfpnadmpmfcaaaa.wF l)) lim (Go.Proofs.Ytfpnadmpmfcaaaa.Wd.mk a.k a.n a.s)).n (Go.Proofs.Ytfpnadmpmfcaaaa.findR (Go.Proofs.Ytfpnadmpmfcaaaa.rdF l.length (Go.Proofs.Ytfpnadmpmfcaaaa.wF l)) lim (Go.Proofs.Ytfpnadmpmfcaaaa.Wd.mk a.k a.n a.s)).s) (Go.Proofs.Ytfpnadmpmfcaaaa.Wd.mk (Go.Proofs.Ytfpnadmpmfcaaaa.findR (Go.Proofs.Ytfpnadmpmfcaaaa.rdF l'.length (Go.Proofs.Ytfpnadmpmfcaaaa.wF l')) lim' (Go.Proofs.Ytfpnadmpmfcaaaa.Wd.mk b.k b.n b.s)).k (Go.Proofs.Ytfpnadmpmfcaaaa.findR (Go.Proofs.Ytfpnadmpmfcaaaa.rdF l'.length (Go.Proofs.Ytfpnadmpmfcaaaa.wF l')) lim' (Go.Proofs.Ytfpnadmpmfcaaaa.Wd.mk b.k b.n b.s)).n (Go.Proofs.Ytfpnadmpmfcaaaa.findR (Go.Proofs.Ytfpnadmpmfcaaaa.rdF l'.length (Go.Proofs.Ytfpnadmpmfcaaaa.wF l')) lim' (Go.Proofs.Ytfpnadmpmfcaaaa.Wd.mk b.k b.n b.s)).s) n (0 : Nat)) ∧
                  (True ∧
                   R (SV.dt (Dt.cell (Go.Value.bool Bool.true))) ([])))))))))))))))))))))
def kaQ (l : List Rw) (V : KeV) (ns : List Int) (ws ms rs : List Wd) (i : Nat) (Rn : List SV → List (Option Ob) → Prop) (Re : Ex → List SV → List (Option Ob) → Prop) : Prop :=
(((Decidable.decide ((↑i : Int) < (↑ns.length : Int)) = Bool.true) →
 (((Decidable.decide ((↑i : Int) < (4 : Int)) = Bool.true) →
   ((((0 : Int) ≤ (↑i : Int)) ∧
     ((↑i : Int) < (↑ns.length : Int))) ∧
    ((Rx.leL ([SV.dt (Dt.cell (Go.Value.int Go.IntKind.i64 (ns.getD (↑i : Int).toNat (0 : Int)))), SV.dt (Dt.cell (Go.Value.int Go.IntKind.i64 (↑ms.length : Int)))]) ([SV.dt (Dt.cell (Go.Value.int Go.IntKind.i64 (ns.getD (↑i : Int).toNat (0 : Int)))), SV.dt (Dt.cell (Go.Value.int Go.IntKind.i64 (↑ms.length : Int)))])) ∧
     ((Rx.leObL ([]) ([])) ∧
      (((Go.Proofs.Ytfpnadmpmfcaaaa.isInt (ns.getD (↑i : Int).toNat (0 : Int))) ∧
        ((↑ms.length : Int) ≠ (0 : Int))) ∧
       ((((0 : Int) ≤ Go.Proofs.Ytfpnadmpmfcaaaa.pickedS (ns.getD (↑i : Int).toNat (0 : Int)) (↑ms.length : Int)) ∧
         (Go.Proofs.Ytfpnadmpmfcaaaa.pickedS (ns.getD (↑i : Int).toNat (0 : Int)) (↑ms.length : Int) < (↑ms.length : Int))) ∧
        (((rs.length + (1 : Nat)) * (32 : Nat) ≤ (140737488355328 : Nat)) ∧
         (((Rx.lo Go.IntKind.i64 ≤ (↑i : Int) + (1 : Int)) ∧
           ((↑i : Int) + (1 : Int) ≤ Rx.hi Go.IntKind.i64)) ∧
          Rn ([SV.dt (Dt.arr ((1 : Nat)) (ns.length) (fun i x => Rx.Dt.cell (Go.Value.int Go.IntKind.i64 (ns.getD i (0 : Int))))), SV.ptr 0 0, SV.dt (Dt.arr ((3 : Nat)) (ms.length) (Go.Proofs.Ytfpnadmpmfcaaaa.wF ms)), SV.nm 1, SV.dt (Dt.cell (Go.Value.int Go.IntKind.i64 ((↑i : Int) + (1 : Int))))]) ([some (Ob.cells 25 [SV.dt (Dt.arr ((3 : Nat)) (ws.length) (Go.Proofs.Ytfpnadmpmfcaaaa.wF ws)), SV.dt (Dt.cell (Go.Value.int Go.IntKind.i64 (600 : Int)))]), some (Ob.row 30 3 (rs.length + (1 : Nat)) (Rx.catF rs.length (Go.Proofs.Ytfpnadmpmfcaaaa.wF rs) fun i_1 j => [Go.Proofs.Ytfpnadmpmfcaaaa.wF ms (Go.Proofs.Ytfpnadmpmfcaaaa.pickedS (ns.getD (↑i : Int).toNat (0 : Int)) (↑ms.length : Int)).toNat (nat_lit 0), Go.Proofs.Ytfpnadmpmfcaaaa.wF ms (Go.Proofs.Ytfpnadmpmfcaaaa.pickedS (ns.getD (↑i : Int).toNat (0 : Int)) (↑ms.length : Int)).toNat (nat_lit 1), Go.Proofs.Ytfpnadmpmfcaaaa.wF ms (Go.Proofs.Ytfpnadmpmfcaaaa.pickedS (ns.getD (↑i : Int).toNat (0 : Int)) (↑ms.length : Int)).toNat (nat_lit 2)].getD (i_1 * (3 : Nat) + j) Rx.undefCell))]))))))))) ∧
  ((Decidable.decide ((↑i : Int) < (4 : Int)) = Bool.false) →
   Re (Rx.Ex.exit (0 : Nat)) ([SV.ptr 0 0, SV.nm 1]) ([some (Ob.cells 25 [SV.dt (Dt.arr ((3 : Nat)) (ws.length) (Go.Proofs.Ytfpnadmpmfcaaaa.wF ws)), SV.dt (Dt.cell (Go.Value.int Go.IntKind.i64 (600 : Int)))]), some (Ob.row 30 3 (rs.length) (Go.Proofs.Ytfpnadmpmfcaaaa.wF rs))])))) ∧
((Decidable.decide ((↑i : Int) < (↑ns.length : Int)) = Bool.false) →
 Re (Rx.Ex.exit (0 : Nat)) ([SV.ptr 0 0, SV.nm 1]) ([some (Ob.cells 25 [SV.dt (Dt.arr ((3 : Nat)) (ws.length) (Go.Proofs.Ytfpnadmpmfcaaaa.wF ws)), SV.dt (Dt.cell (Go.Value.int Go.IntKind.i64 (600 : Int)))]), some (Ob.row 30 3 (rs.length) (Go.Proofs.Ytfpnadmpmfcaaaa.wF rs))])))
def kbQ (l : List Rw) (ns : List Int) (V : KeV) (i : Nat) (Rn : List SV → List (Option Ob) → Prop) (Re : Ex → List SV → List (Option Ob) → Prop) : Prop :=
(((Decidable.decide ((↑i : Int) < (↑V.rs.length : Int)) = Bool.true) →
 ((((0 : Int) ≤ (↑i : Int)) ∧
   ((↑i : Int) < (↑V.rs.length : Int))) ∧
  ((((0 : Int) ≤ (↑i : Int)) ∧
    ((↑i : Int) < (↑V.out.length : Int))) ∧
   ((Rx.leL ([SV.agg [SV.dt (Dt.arr ((3 : Nat)) (V.ws.length) (Go.Proofs.Ytfpnadmpmfcaaaa.wF V.ws)), SV.dt (Dt.cell (Go.Value.int Go.IntKind.i64 (600 : Int)))], SV.agg [SV.dt (Dt.cell (Go.Value.int Go.IntKind.i64 (V.rs.getD (↑i : Int).toNat Inhabited.default).k)), SV.dt (Dt.cell (Go.Value.int Go.IntKind.i64 (V.rs.getD (↑i : Int).toNat Inhabited.default).n)), SV.dt (Dt.cell (Go.Value.string (V.rs.getD (↑i : Int).toNat Inhabited.default).s))], SV.agg [SV.dt (Dt.arr ((3 : Nat)) (V.g.length) (Go.Proofs.Ytfpnadmpmfcaaaa.wF V.g)), SV.dt (Dt.cell (Go.Value.int Go.IntKind.i64 (600 : Int)))], SV.agg [SV.dt (Dt.cell (Go.Value.int Go.IntKind.i64 (V.out.getD (↑i : Int).toNat Inhabited.default).k)), SV.dt (Dt.cell (Go.Value.int Go.IntKind.i64 (V.out.getD (↑i : Int).toNat Inhabited.default).n)), SV.dt (Dt.cell (Go.Value.string (V.out.getD (↑i : Int).toNat Inhabited.default).s))], SV.dt (Dt.cell (Go.Value.int Go.IntKind.i64 (6 : Int)))]) ([SV.agg [SV.dt (Dt.arr ((3 : Nat)) ((Go.Proofs.Ytfpnadmpmfcaaaa.rdF V.ws.length (Go.Proofs.Ytfpnadmpmfcaaaa.wF V.ws)).length) (Go.Proofs.Ytfpnadmpmfcaaaa.wF (Go.Proofs.Ytfpnadmpmfcaaaa.rdF V.ws.length (Go.Proofs.Ytfpnadmpmfcaaaa.wF V.ws)))), SV.dt (Dt.cell (Go.Value.int Go.IntKind.i64 (600 : Int)))], SV.agg [SV.dt (Dt.cell (Go.Value.int Go.IntKind.i64 (V.rs.getD (↑i : Int).toNat Inhabited.default).k)), SV.dt (Dt.cell (Go.Value.int Go.IntKind.i64 (V.rs.getD (↑i : Int).toNat Inhabited.default).n)), SV.dt (Dt.cell (Go.Value.string (V.rs.getD (↑i : Int).toNat Inhabited.default).s))], SV.agg [SV.dt (Dt.arr ((3 : Nat)) ((Go.Proofs.Ytfpnadmpmfcaaaa.rdF V.g.length (Go.Proofs.Ytfpnadmpmfcaaaa.wF V.g)).length) (Go.Proofs.Ytfpnadmpmfcaaaa.wF (Go.Proofs.Ytfpnadmpmfcaaaa.rdF V.g.length (Go.Proofs.Ytfpnadmpmfcaaaa.wF V.g)))), SV.dt (Dt.cell (Go.Value.int Go.IntKind.i64 (600 : Int)))], SV.agg [SV.dt (Dt.cell (Go.Value.int Go.IntKind.i64 (V.out.getD (↑i : Int).toNat Inhabited.default).k)), SV.dt (Dt.cell (Go.Value.int Go.IntKind.i64 (V.out.getD (↑i : Int).toNat Inhabited.default).n)), SV.dt (Dt.cell (Go.Value.string (V.out.getD (↑i : Int).toNat Inhabited.default).s))], SV.dt (Dt.cell (Go.Value.int Go.IntKind.i64 (6 : Int)))])) ∧
    ((Rx.leObL ([]) ([])) ∧
     (((((0 : Int) ≤ (6 : Int)) ∧
        ((6 : Int) ≤ (1000 : Int))) ∧
       ((Int.toNat (6 : Int) < (7 : Nat)) ∧
        (Go.Proofs.Ytfpnadmpmfcaaaa.AL (Go.Proofs.Ytfpnadmpmfcaaaa.rdF V.ws.length (Go.Proofs.Ytfpnadmpmfcaaaa.wF V.ws)) (600 : Int) (Go.Proofs.Ytfpnadmpmfcaaaa.rdF V.g.length (Go.Proofs.Ytfpnadmpmfcaaaa.wF V.g)) (600 : Int) (Int.toNat (6 : Int)) (Go.Proofs.Ytfpnadmpmfcaaaa.Wd.mk (V.rs.getD (↑i : Int).toNat Inhabited.default).k (V.rs.getD (↑i : Int).toNat Inhabited.default).n (V.rs.getD (↑i : Int).toNat Inhabited.default).s) (Go.Proofs.Ytfpnadmpmfcaaaa.Wd.mk (V.out.getD (↑i : Int).toNat Inhabited.default).k (V.out.getD (↑i : Int).toNat Inhabited.default).n (V.out.getD (↑i : Int).toNat Inhabited.default).s)))) ∧
      (((Rx.lo Go.IntKind.i64 ≤ (↑i : Int) + (1 : Int)) ∧
        ((↑i : Int) + (1 : Int) ≤ Rx.hi Go.IntKind.i64)) ∧
       Rn ([SV.ptr 0 0, SV.dt (Dt.arr ((3 : Nat)) (V.rs.length) (Go.Proofs.Ytfpnadmpmfcaaaa.wF V.rs)), SV.ptr 1 0, SV.dt (Dt.arr ((3 : Nat)) (V.out.length) (Go.Proofs.Ytfpnadmpmfcaaaa.wF V.out)), SV.dt (Dt.cell (Go.Value.int Go.IntKind.i64 (↑V.rs.length : Int))), SV.dt (Dt.cell (Go.Value.int Go.IntKind.i64 ((↑i : Int) + (1 : Int))))]) ([some (Ob.cells 25 [SV.dt (Dt.arr ((3 : Nat)) (V.ws.length) (Go.Proofs.Ytfpnadmpmfcaaaa.wF V.ws)), SV.dt (Dt.cell (Go.Value.int Go.IntKind.i64 (600 : Int)))]), some (Ob.cells 25 [SV.dt (Dt.arr ((3 : Nat)) (V.g.length) (Go.Proofs.Ytfpnadmpmfcaaaa.wF V.g)), SV.dt (Dt.cell (Go.Value.int Go.IntKind.i64 (600 : Int)))])])))))))) ∧
((Decidable.decide ((↑i : Int) < (↑V.rs.length : Int)) = Bool.false) →
 Re (Rx.Ex.exit (2 : Nat)) ([]) ([])))
def keQ (l : List Rw) (ns : List Int) (V : KeV) (R : SV → List (Option Ob) → Prop) : Prop :=
((Rx.leL ([SV.dt (Dt.arr ((4 : Nat)) (l.length) (Go.Proofs.Ytfpnadmpmfcaaaa.rF l)), SV.dt (Dt.cell (Go.Value.int Go.IntKind.i64 (30 : Int)))]) ([SV.dt (Dt.arr ((4 : Nat)) (l.length) (Go.Proofs.Ytfpnadmpmfcaaaa.rF l)), SV.dt (Dt.cell (Go.Value.int Go.IntKind.i64 (30 : Int)))])) ∧
((Rx.leObL ([]) ([])) ∧
 (((Go.Proofs.Ytfpnadmpmfcaaaa.rawOk l) ∧
   (((0 : Int) ≤ (30 : Int)) ∧
    (((30 : Int) ≤ (30 : Int)) ∧
     ((V.ws = (Go.Proofs.Ytfpnadmpmfcaaaa.builtD l (30 : Int)).ws) ∧
      (V.ms = (Go.Proofs.Ytfpnadmpmfcaaaa.builtD l (30 : Int)).ms))))) ∧
  (((Rx.leS (SV.dt (Dt.arr ((1 : Nat)) (ns.length) (fun i x => Rx.Dt.cell (Go.Value.int Go.IntKind.i64 (ns.getD i (0 : Int)))))) (SV.dt (Dt.arr ((1 : Nat)) (ns.length) (fun i x => Rx.Dt.cell (Go.Value.int Go.IntKind.i64 (ns.getD i (0 : Int))))))) ∧
    ((Rx.leS (SV.ptr 0 0) (SV.ptr 0 0)) ∧
     ((Rx.leS (SV.dt (Dt.arr ((3 : Nat)) (V.ms.length) (Go.Proofs.Ytfpnadmpmfcaaaa.wF V.ms))) (SV.dt (Dt.arr ((3 : Nat)) (V.ms.length) (Go.Proofs.Ytfpnadmpmfcaaaa.wF V.ms)))) ∧
      ((Rx.leS (SV.nm 1) (SV.nm 1)) ∧
       ((Rx.leS (SV.dt (Dt.cell (Go.Value.int Go.IntKind.i64 (0 : Int)))) (SV.dt (Dt.cell (Go.Value.int Go.IntKind.i64 (↑(0 : Nat) : Int))))) ∧
        True))))) ∧
   ((Rx.leOO ([some (Ob.cells 25 [SV.dt (Dt.arr ((3 : Nat)) (V.ws.length) (Go.Proofs.Ytfpnadmpmfcaaaa.wF V.ws)), SV.dt (Dt.cell (Go.Value.int Go.IntKind.i64 (600 : Int)))]), some (Ob.row 30 3 ((0 : Nat)) (fun x x_1 => Rx.undefCell))]) ([some (Ob.cells 25 [SV.dt (Dt.arr ((3 : Nat)) (V.ws.length) (Go.Proofs.Ytfpnadmpmfcaaaa.wF V.ws)), SV.dt (Dt.cell (Go.Value.int Go.IntKind.i64 (600 : Int)))]), some (Ob.row 30 3 ((Go.Proofs.Ytfpnadmpmfcaaaa.ckRs V.ms ns (0 : Nat)).length) (Go.Proofs.Ytfpnadmpmfcaaaa.wF (Go.Proofs.Ytfpnadmpmfcaaaa.ckRs V.ms ns (0 : Nat))))])) ∧
    (((∀ (n : Int), ((n ∈ ns) →
        (Go.Proofs.Ytfpnadmpmfcaaaa.isInt n))) ∧
      (((0 : Nat) < V.ms.length) ∧
       ((V.ms.length ≤ (100 : Nat)) ∧
        ((0 : Nat) ≤ (4 : Nat))))) ∧
     ((Rx.leL ([SV.agg [SV.dt (Dt.arr ((3 : Nat)) (V.ws.length) (Go.Proofs.Ytfpnadmpmfcaaaa.wF V.ws)), SV.dt (Dt.cell (Go.Value.int Go.IntKind.i64 (600 : Int)))], SV.dt (Dt.arr ((3 : Nat)) ((Go.Proofs.Ytfpnadmpmfcaaaa.ckRs V.ms ns (4 : Nat)).length) (Go.Proofs.Ytfpnadmpmfcaaaa.wF (Go.Proofs.Ytfpnadmpmfcaaaa.ckRs V.ms ns (4 : Nat))))]) ([SV.agg [SV.dt (Dt.arr ((3 : Nat)) (V.ws.length) (Go.Proofs.Ytfpnadmpmfcaaaa.wF V.ws)), SV.dt (Dt.cell (Go.Value.int Go.IntKind.i64 (600 : Int)))], SV.dt (Dt.arr ((3 : Nat)) (V.rs.length) (Go.Proofs.Ytfpnadmpmfcaaaa.wF V.rs))])) ∧
      ((Rx.leObL ([]) ([])) ∧
       (((V.rs.length ≤ (1000000 : Nat)) ∧
         ((Go.Proofs.Ytfpnadmpmfcaaaa.colGood V.ws (600 : Int) V.rs = Bool.true) ∧
          ((V.g = Go.Proofs.Ytfpnadmpmfcaaaa.colW V.ws V.rs) ∧
           (V.out = Go.Proofs.Ytfpnadmpmfcaaaa.colR V.ws V.rs)))) ∧
        ((Rx.leL ([SV.agg [SV.dt (Dt.arr ((3 : Nat)) (V.g.length) (Go.Proofs.Ytfpnadmpmfcaaaa.wF V.g)), SV.dt (Dt.cell (Go.Value.int Go.IntKind.i64 (600 : Int)))], SV.dt (Dt.arr ((3 : Nat)) (V.out.length) (Go.Proofs.Ytfpnadmpmfcaaaa.wF V.out))]) ([SV.agg [SV.dt (Dt.arr ((3 : Nat)) (V.g.length) (Go.Proofs.Ytfpnadmpmfcaaaa.wF V.g)), SV.dt (Dt.cell (Go.Value.int Go.IntKind.i64 (600 : Int)))], SV.dt (Dt.arr ((3 : Nat)) (V.out.length) (Go.Proofs.Ytfpnadmpmfcaaaa.wF V.out))])) ∧
         ((Rx.leObL ([]) ([])) ∧
          (((V.out.length ≤ (1000000 : Nat)) ∧
            ((Go.Proofs.Ytfpnadmpmfcaaaa.colGood V.g (600 : Int) V.out = Bool.true) ∧
             ((V.g = Go.Proofs.Ytfpnadmpmfcaaaa.colW V.g V.out) ∧
              (V.out = Go.Proofs.Ytfpnadmpmfcaaaa.colR V.g V.out)))) ∧
           (((((↑V.out.length : Int) != (↑(Go.Proofs.Ytfpnadmpmfcaaaa.ckRs V.ms ns (4 : Nat)).length : Int)) = Bool.true) →
             (True ∧
              R (SV.dt (Dt.cell (Go.Value.bool Bool.false))) ([]))) ∧
            ((((↑V.out.length : Int) != (↑(Go.Proofs.Ytfpnadmpmfcaaaa.ckRs V.ms ns (4 : Nat)).length : Int)) = Bool.false) →
             ((Rx.leL ([SV.agg [SV.dt (Dt.arr ((3 : Nat)) (V.g.length) (Go.Proofs.Ytfpnadmpmfcaaaa.wF V.g)), SV.dt (Dt.cell (Go.Value.int Go.IntKind.i64 (600 : Int)))]]) ([SV.agg [SV.dt (Dt.arr ((3 : Nat)) (V.g.length) (Go.Proofs.Ytfpnadmpmfcaaaa.wF V.g)), SV.dt (Dt.cell (Go.Value.int Go.IntKind.i64 (600 : Int)))]])) ∧
              ((Rx.leObL ([]) ([])) ∧
               ((Go.Proofs.Ytfpnadmpmfcaaaa.checkB V.g (600 : Int) = Bool.true) ∧
                (((Decidable.decide ((↑V.g.length : Int) > (↑V.ws.length : Int)) = Bool.true) →
                  (True ∧
                   R (SV.dt (Dt.cell (Go.Value.bool Bool.false))) ([]))) ∧
                 ((Decidable.decide ((↑V.g.length : Int) > (↑V.ws.length : Int)) = Bool.false) →
                  ((Rx.leL ([SV.dt (Dt.arr ((3 : Nat)) (V.g.length) (Go.Proofs.Ytfpnadmpmfcaaaa.wF V.g)), SV.dt (Dt.arr ((3 : Nat)) (V.g.length) (Go.Proofs.Ytfpnadmpmfcaaaa.wF V.g))]) ([SV.dt (Dt.arr ((3 : Nat)) (V.g.length) (Go.Proofs.Ytfpnadmpmfcaaaa.wF V.g)), SV.dt (Dt.arr ((3 : Nat)) (V.g.length) (Go.Proofs.Ytfpnadmpmfcaaaa.wF V.g))])) ∧
                   ((Rx.leObL ([]) ([])) ∧
                    (((Go.Proofs.Ytfpnadmpmfcaaaa.fitsW V.g) ∧
                      (V.g = V.g)) ∧
                     ((Rx.leL ([SV.dt (Dt.arr ((3 : Nat)) (V.out.length) (Go.Proofs.Ytfpnadmpmfcaaaa.wF V.out)), SV.dt (Dt.arr ((3 : Nat)) (V.out.length) (Go.Proofs.Ytfpnadmpmfcaaaa.wF V.out))]) ([SV.dt (Dt.arr ((3 : Nat)) (V.out.length) (Go.Proofs.Ytfpnadmpmfcaaaa.wF V.out)), SV.dt (Dt.arr ((3 : Nat)) (V.out.length) (Go.Proofs.Ytfpnadmpmfcaaaa.wF V.out))])) ∧
                      ((Rx.leObL ([]) ([])) ∧
                       (((Go.Proofs.Ytfpnadmpmfcaaaa.fitsW V.out) ∧
                         (V.out = V.out)) ∧
                        (((Rx.leS (SV.ptr 0 0) (SV.ptr 0 0)) ∧
                          ((Rx.leS (SV.dt (Dt.arr ((3 : Nat)) ((Go.Proofs.Ytfpnadmpmfcaaaa.ckRs V.ms ns (4 : Nat)).length) (Go.Proofs.Ytfpnadmpmfcaaaa.wF (Go.Proofs.Ytfpnadmpmfcaaaa.ckRs V.ms ns (4 : Nat))))) (SV.dt (Dt.arr ((3 : Nat)) (V.rs.length) (Go.Proofs.Ytfpnadmpmfcaaaa.wF V.rs)))) ∧
                           ((Rx.leS (SV.ptr 1 0) (SV.ptr 1 0)) ∧
                            ((Rx.leS (SV.dt (Dt.arr ((3 : Nat)) (V.out.length) (Go.Proofs.Ytfpnadmpmfcaaaa.wF V.out))) (SV.dt (Dt.arr ((3 : Nat)) (V.out.length) (Go.Proofs.Ytfpnadmpmfcaaaa.wF V.out)))) ∧
                             ((Rx.leS (SV.dt (Dt.cell (Go.Value.int Go.IntKind.i64 (↑(Go.Proofs.Ytfpnadmpmfcaaaa.ckRs V.ms ns (4 : Nat)).length : Int)))) (SV.dt (Dt.cell (Go.Value.int Go.IntKind.i64 (↑V.rs.length : Int))))) ∧
                              ((Rx.leS (SV.dt (Dt.cell (Go.Value.int Go.IntKind.i64 (0 : Int)))) (SV.dt (Dt.cell (Go.Value.int Go.IntKind.i64 (↑(0 : Nat) : Int))))) ∧
                               True)))))) ∧
                         ((Rx.leOO ([some (Ob.cells 25 [SV.dt (Dt.arr ((3 : Nat)) (V.ws.length) (Go.Proofs.Ytfpnadmpmfcaaaa.wF V.ws)), SV.dt (Dt.cell (Go.Value.int Go.IntKind.i64 (600 : Int)))]), some (Ob.cells 25 [SV.dt (Dt.arr ((3 : Nat)) (V.g.length) (Go.Proofs.Ytfpnadmpmfcaaaa.wF V.g)), SV.dt (Dt.cell (Go.Value.int Go.IntKind.i64 (600 : Int)))])]) ([some (Ob.cells 25 [SV.dt (Dt.arr ((3 : Nat)) (V.ws.length) (Go.Proofs.Ytfpnadmpmfcaaaa.wF V.ws)), SV.dt (Dt.cell (Go.Value.int Go.IntKind.i64 (600 : Int)))]), some (Ob.cells 25 [SV.dt (Dt.arr ((3 : Nat)) (V.g.length) (Go.Proofs.Ytfpnadmpmfcaaaa.wF V.g)), SV.dt (Dt.cell (Go.Value.int Go.IntKind.i64 (600 : Int)))])])) ∧
                          (((V.rs.length = V.out.length) ∧
                            ((V.rs.length ≤ (100 : Nat)) ∧
                             (∀ (j : Nat), ((j < V.rs.length) →
                               (Go.Proofs.Ytfpnadmpmfcaaaa.AL V.ws (600 : Int) V.g (600 : Int) (6 : Nat) (V.rs.getD j Inhabited.default) (V.out.getD j Inhabited.default)))))) ∧
                           (True ∧
                            R (SV.dt (Dt.cell (Go.Value.bool Bool.true))) ([]))))))))))))))))))))))))))))))
theorem drop_get {l : List Wd} {i : Nat} (h : i < l.length) : l.drop i = l.getD i default :: l.drop (i + 1) := by
  rw [List.drop_eq_getElem_cons h, List.getD_eq_getElem?_getD, List.getElem?_eq_getElem h]
  rfl
theorem eqLoop_ok (l m : List Wd) (i : Nat) : Sound eqE (.loop eqLoop) (mkSt (eqLF.live.h.zip (eqArgs l m i)) []) ((eqOut l m i).map (OutC.st eqLF.live)) := by
  refine loop_fn mixed all_nil (fun c hc => by rw [show loopsOf eqLoop = [] from by kernel_rfl] at hc; cases hc) eqLF.live (eqArgs l m) (fun _ => []) (eqOut l m) (fun i => l.length - i) (Q := fun i Rn Re => eqLQ l m i Rn Re) ?_ (fun i Rn Re => by kernel_rfl) i
  intro i post hp
  obtain ⟨⟨hf, hlen⟩, hp1, hp2⟩ := hp
  have hp1 : decide (l.drop i = m.drop i) = true → post (.exit 0, [], []) := hp1
  have hp2 : decide (l.drop i = m.drop i) = false → post (.ret, [vB false], []) := hp2
  have hf' : (l.length : Int) ≤ 4398046511104 := hf
  have e : ∀ l : List Wd, l.getD (i : Int).toNat default = l.getD i default := fun _ => rfl
  unfold eqLQ
  simp only [e, wEq, decide_eq_true_eq, decide_eq_false_iff_not, Bool.not_eq_true', Bool.not_eq_false', lo, hi, Int.ofNat_lt]
  refine ⟨fun h => ⟨⟨by omega, h⟩, ⟨by omega, by omega⟩, fun hn => ?_, fun hn => ⟨⟨by omega, by omega⟩, i + 1, by omega, ?_, leOO_refl _, ⟨hf, hlen⟩, fun h' => ?_, fun h' => ?_⟩⟩, fun h => ?_⟩
  · refine Outs.mk (hp2 ?_) (leL_refl _) (leOO_refl _)
    rw [drop_get h, drop_get (by omega : i < m.length), decide_eq_false_iff_not]
    intro he
    injection he with h1 h2
    exact hn h1
  · simp only [eqArgs, leL_cons, wD_self, leS_self, leL_nil, and_true, true_and, leS_int]; omega
  · refine hp1 ?_
    rw [decide_eq_true_eq] at h' ⊢
    rw [drop_get h, drop_get (by omega : i < m.length), hn, h']
  · refine hp2 ?_
    rw [decide_eq_false_iff_not] at h' ⊢
    rw [drop_get h, drop_get (by omega : i < m.length), hn]
    intro he
    injection he with _ h2
    exact h' h2
  · refine Outs.mk (hp1 ?_) (leL_refl _) (leOO_refl _)
    rw [List.drop_of_length_le (by omega), List.drop_of_length_le (by omega)]
    rfl
theorem eqLok : eqE.Lok (loopsOf (bodyOf Try.f19)) := by
  rw [show loopsOf (bodyOf Try.f19) = [eqLoop] from by kernel_rfl]
  refine fnE_Lok (all_cons (all_cons (fun _ => ?_) all_nil) all_nil)
  intro svs obl args obs out h
  unfold eqLF at h
  simp only at h
  repeat' split at h
  all_goals first
    | (simp only [Option.some.injEq, Prod.mk.injEq] at h; obtain ⟨rfl, rfl, rfl⟩ := h; exact eqLoop_ok _ _ 0)
    | cases h
theorem eq_ctr (l m : List Wd) : Ctr Try.prog 19 [wD l, wD m] [] (eqO l m) := by
  refine ctr_fn mixed (N := 26) (fn := Try.f19) (c := bodyOf Try.f19) (ks := []) (ls := [eqLF]) (by kernel_rfl) (by kernel_rfl) (by kernel_rfl) all_nil fin0 eqLok (by kernel_rfl) (Q := eqQ l m) (fun post hp => ?_) (fun R => by kernel_rfl)
  obtain ⟨hf, hp⟩ := hp
  have hp : post (vB (decide (l = m)), []) := hp
  unfold eqQ
  simp only [rdF_wF, leS_self, leOO_self, true_and, and_true, bne_iff_ne, bne_eq_false_iff_eq, List.drop_zero, ne_eq]
  refine ⟨fun h => gives1 hp ?_, fun h => ⟨?_, ⟨hf, by omega⟩, fun h' => gives1 hp ?_, fun h' => gives1 hp ?_⟩⟩
  · rw [leS_bool, decide_eq_false_iff_not]
    rintro rfl
    exact h rfl
  · rw [leS_int]; rfl
  · rw [leS_bool]; exact h'
  · rw [leS_bool]; exact h'
theorem eqC_ctr (l m : List Wd) : Ctr Try.prog 19 [wD l, wD m] [] (eqC l m) := by
  refine ctr_weak (eq_ctr l m) fun post hp => ?_
  obtain ⟨⟨h1, h2⟩, hp⟩ := hp
  refine ⟨h1, gives1 hp ?_⟩
  rw [leS_dk, decide_eq_true h2]
theorem checkC_ctr (l : List Wd) (lim : Int) : Ctr Try.prog 14 [hS l lim] [] (checkC l lim) := by
  refine ctr_weak (check_ctr l lim) fun post hp => ?_
  obtain ⟨h1, hp⟩ := hp
  exact ⟨fun _ => gives1 hp (by rw [leS_dki]), fun h => by rw [h1] at h; cases h⟩
theorem colC_ctr (l : List Wd) (lim : Int) (rs L R : List Wd) : Ctr Try.prog 16 [hS l lim, wD rs] [] (colC l lim rs L R) := by
  refine ctr_weak (col_ctr l lim rs) fun post hp => ?_
  obtain ⟨⟨h1, h2, rfl, rfl⟩, hp⟩ := hp
  exact ⟨h1, fun _ => gives1 hp (leS_refl _), fun h => by rw [h2] at h; cases h⟩

/-! ## alike -/
theorem find_idem {l : List Wd} {lim : Int} {w : Wd} (h : cvErr l lim w = 0) : cvErr l lim (findS l w) = 0 ∧ findS l (findS l w) = findS l w := by
  obtain ⟨hc, hv⟩ := cv_zero h
  obtain ⟨f1, f2, f3, f4⟩ := find_ok hc hv
  by_cases h5 : w.k = 5
  · obtain ⟨g1, g2, g3⟩ := f4 h5
    have e : (((findS l w).n.toNat : Nat) : Int) = (findS l w).n := Int.toNat_of_nonneg g2
    have hlt := (checkB_okAt hc _ g1).2
    have hs : (findS l w).s.size = 0 := by
      rw [f2]
      unfold valOk wordOk at hv
      simp only [Bool.and_eq_true] at hv
      have := of_decide_eq_true hv.1
      unfold valueP at this
      omega
    have hvv : valOk l (findS l w) = true := by
      unfold valOk wordOk
      simp only [Bool.and_eq_true, Bool.or_eq_true]
      refine ⟨decide_eq_true ?_, .inr ((inS_iff _ _).2 ⟨_, g1, e⟩)⟩
      unfold valueP
      exact .inr (.inr (.inr (.inr ⟨by rw [f1]; exact h5, g2, by omega, hs⟩)))
    refine ⟨by rw [cvErr, if_pos hc, if_pos hvv], ?_⟩
    show findF l (l.length + 1) (findS l w) = findS l w
    rw [findF, if_neg]
    rintro ⟨_, h10⟩
    exact sp_kind g3 h10
  · rw [f3 h5]
    exact ⟨h, f3 h5⟩
theorem part_at {l : List Wd} {lim : Int} {x : Wd} (h0 : cvErr l lim x = 0) (hx : findS l x = x) (h5 : x.k = 5) (i : Nat) : (partE l lim x i = if (i : Int) < cntP l x then 0 else 2) := by
  unfold partE cntP
  rw [if_pos h0, hx, if_pos h5]
  by_cases hi : (i : Int) < spSize l x.n - spFrom l x.n
  · rw [if_pos hi, if_neg (by omega)]
  · rw [if_neg hi, if_pos (by omega)]
theorem cnt_small {l : List Wd} {lim : Int} {x : Wd} (h0 : cvErr l lim x = 0) : cntP l x ≤ 60000 := by
  obtain ⟨hc, _⟩ := cv_zero h0
  unfold cntP spSize spFrom
  split
  · have := cnt_bounds l (x.n + 1)
    have := cnt_bounds l (x.n + 2)
    repeat' split
    all_goals omega
  · omega
theorem alKs_ok {N : Nat} (h : (alF N).Ok Try.prog) : ∀ k ∈ alKs N, k.2.2.Ok Try.prog := all_cons findBF_ok (all_cons findBF_ok (all_cons partF_ok (all_cons partF_ok (all_cons h all_nil))))
theorem alLoop_ok {N : Nat} (hN : (alF N).Ok Try.prog) (l : List Wd) (lim : Int) (l' : List Wd) (lim' : Int) (x y : Wd) (n : Int) (i : Nat) : Sound (alE N) (.loop alLoop) (mkSt ((alLF N).live.h.zip (alArgs n i)) (alObs l lim l' lim' x y)) ((alOut N l lim l' lim' x y n i).map (OutC.st (alLF N).live)) := by
  refine loop_fn mixed (alKs_ok hN) (fun c hc => by rw [show loopsOf alLoop = [] from by kernel_rfl] at hc; cases hc) (alLF N).live (alArgs n) (fun _ => alObs l lim l' lim' x y) (alOut N l lim l' lim' x y n) (fun i => 60000 + 1 - i) (Q := fun i Rn Re => alLQ N l lim l' lim' x y n i Rn Re) ?_ (fun i Rn Re => by kernel_rfl) i
  intro i post hp
  obtain ⟨⟨n0, nN, hx, hy, fx, fy, x5, y5, hi6, hal⟩, hp⟩ := hp
  have hp : post (.exit 0, [], []) := hp
  have hx1 := part_at hx fx x5 i
  have hy1 := part_at hy fy y5 i
  have hcs := cnt_small hx
  have ii : isInt (i : Int) := ⟨by omega, by omega⟩
  unfold alLQ
  simp only [rdF_wF, wd_eta, leL_self, leObL_self, true_and, decide_eq_true_eq, decide_eq_false_iff_not, bne_iff_ne, bne_eq_false_iff_eq, lo, hi]
  refine ⟨fun h => ⟨ii, ii, fun hne => ?_, fun heq => ⟨fun h1 => Outs.mk hp (leL_refl _) (leOO_refl _), fun h1 => ?_⟩⟩, fun h => Outs.mk hp (leL_refl _) (leOO_refl _)⟩
  · obtain ⟨c1, _⟩ := hal h
    rw [hx1, hy1, c1] at hne
    exact absurd rfl hne
  · obtain ⟨c1, c2, c3⟩ := hal h
    rw [hx1] at h1
    have hlt : (i : Int) < cntP l x := by
      by_cases hq : (i : Int) < cntP l x
      · exact hq
      · rw [if_neg hq] at h1; omega
    rw [if_pos hlt] at hx1
    rw [if_pos (by omega)] at hy1
    have ex : partW l lim x i = at' l (partP l x i) := by rw [partW, if_pos hx1]
    have ey : partW l' lim' y i = at' l' (partP l' y i) := by rw [partW, if_pos hy1]
    refine ⟨⟨by omega, by omega⟩, ⟨⟨by omega, by omega⟩, by omega, ?_⟩, ⟨by omega, by omega⟩, i + 1, by omega, ?_, leOO_refl _, ⟨n0, nN, hx, hy, fx, fy, x5, y5, by omega, fun _ => ⟨c1, by omega, c3⟩⟩, hp⟩
    · rw [ex, ey, show (n - 1).toNat = n.toNat - 1 by omega]
      exact c3 i hlt
    · simp only [alArgs, leL_cons, leS_self, leL_nil, and_true, true_and, leS_int]; omega
theorem al_step {N : Nat} (hN : (alF N).Ok Try.prog) (l : List Wd) (lim : Int) (l' : List Wd) (lim' : Int) (a b : Wd) (n : Int) : Ctr Try.prog 20 [hS l lim, wS a, hS l' lim', wS b, vI .i64 n] [] (alO (N + 1) l lim l' lim' a b n) := by
  have hlok : (alE N).Lok (loopsOf (bodyOf Try.f20)) := by
    rw [show loopsOf (bodyOf Try.f20) = [alLoop] from by kernel_rfl]
    refine fnE_Lok (all_cons (all_cons (fun _ => ?_) all_nil) all_nil)
    intro svs obl args obs out h
    unfold alLF at h
    simp only at h
    repeat' split at h
    all_goals first
      | (simp only [Option.some.injEq, Prod.mk.injEq] at h; obtain ⟨rfl, rfl, rfl⟩ := h; exact alLoop_ok hN _ _ _ _ _ _ _ 0)
      | cases h
  refine ctr_fn mixed (N := 95) (fn := Try.f20) (c := bodyOf Try.f20) (ks := alKs N) (ls := [alLF N]) (by kernel_rfl) (by kernel_rfl) (by kernel_rfl) (alKs_ok hN) fin0 hlok (by kernel_rfl) (Q := alQ N l lim l' lim' a b n) (fun post hp => ?_) (fun R => by kernel_rfl)
  obtain ⟨⟨n0, nN, hal⟩, hp⟩ := hp
  have hp : post (.kb true, []) := hp
  have leafT : Gives post (vB true) [] := gives1 hp (by rw [leS_dk])
  have hB : alB l lim l' lim' a b := by
    cases hn : n.toNat with
    | zero => rw [hn] at hal; exact hal
    | succ m => rw [hn] at hal; exact hal.1
  obtain ⟨b1, b2, b3, b4, b5⟩ := hB
  have fa : findR l lim a = findS l a := by rw [findR, if_pos b1]
  have fb : findR l' lim' b = findS l' b := by rw [findR, if_pos b2]
  obtain ⟨i1, i2⟩ := find_idem b1
  obtain ⟨i3, i4⟩ := find_idem b2
  obtain ⟨ca, va⟩ := cv_zero b1
  obtain ⟨cb, vb⟩ := cv_zero b2
  obtain ⟨f1, f2, f3, f4⟩ := find_ok ca va
  obtain ⟨g1, g2, g3, g4⟩ := find_ok cb vb
  have e : ∀ (l : List Wd) (n : Int), l.getD n.toNat default = at' l n := fun _ _ => rfl
  unfold alQ
  simp only [rdF_wF, wd_eta, fa, fb, b1, b2, e, wEq, leL_self, leObL_self, leS_self, leOO_self, true_and, and_true, ne_eq, decide_eq_true_eq, decide_eq_false_iff_not, bne_iff_ne, bne_eq_false_iff_eq, Bool.not_eq_true', Bool.not_eq_false', not_true_eq_false, false_implies, true_implies]
  refine ⟨fun h => absurd b3 h, fun _ => ⟨fun h5 => ?_, fun h5 => ?_⟩⟩
  · rw [b4 h5, decide_eq_true rfl]; exact leafT
  · obtain ⟨p1, p2, p3⟩ := f4 (by rw [← f1]; exact h5)
    obtain ⟨q1, q2, q3⟩ := g4 (by rw [← g1, ← b3]; exact h5)
    obtain ⟨_, _, s1, _⟩ := spSize_bounds l _ p3
    obtain ⟨_, s2, s3, _⟩ := spSize_bounds l' _ q3
    have r1 := spSize_bounds l _ p3
    have r2 := spSize_bounds l' _ q3
    refine ⟨⟨p2, by omega⟩, ⟨q2, by omega⟩, fun hne => absurd (b5 h5) hne, fun _ => ⟨?_, ?_, leafT⟩⟩
    · rw [leS_int]; rfl
    · refine ⟨n0, nN, i1, i3, i2, i4, h5, by rw [← b3]; exact h5, Nat.zero_le _, fun hn => ?_⟩
      have hn1 : n.toNat = (n.toNat - 1) + 1 := by omega
      rw [hn1] at hal
      obtain ⟨c1, c2⟩ := hal.2 h5
      refine ⟨c1, ?_, c2⟩
      unfold cntP
      show ((0 : Nat) : Int) ≤ _
      omega
theorem alF_ok : ∀ N, (alF N).Ok Try.prog
  | 0 => by
    intro al ol args obs out h
    unfold alF at h
    simp only at h
    repeat' split at h
    all_goals first
      | (simp only [Option.some.injEq, Prod.mk.injEq] at h; obtain ⟨rfl, rfl, rfl⟩ := h; intro C w vs post _ _ _ _ ho; obtain ⟨⟨_, h, _⟩, _⟩ := ho; omega)
      | cases h
  | N + 1 => by
    intro al ol args obs out h
    unfold alF at h
    simp only at h
    repeat' split at h
    all_goals first
      | (simp only [Option.some.injEq, Prod.mk.injEq] at h; obtain ⟨rfl, rfl, rfl⟩ := h; exact al_step (alF_ok N) _ _ _ _ _ _ _)
      | cases h
end Go.Proofs.Ytfpnadmpmfcaaaa

open Rx Go
namespace Go.Proofs.Ytfpnadmpmfcaaaa

theorem cv_vok {d : Bd} (hb : BI d) (hlen : d.ws.length ≤ 150) {w : Wd} (hv : vOk d.bs w) : cvErr d.ws 600 w = 0 := by
  have : valOk d.ws w = true := by
    unfold valOk Bd.ws
    rw [starts_blocks hb.blk]
    exact vOk_word hb.blk hv
  unfold cvErr
  rw [if_pos (bi_check hb (by omega) (by omega) (by omega)), if_pos this]
theorem col_alike {d : Bd} {rs : List Wd} (h : Col d rs) : ∀ (n : Nat) (w : Wd), vOk d.bs w → known d.ws (Kk d rs) w → AL d.ws 600 (gB d rs).ws 600 n w (imgW d.ws (Kk d rs) w) := by
  have base : ∀ w, vOk d.bs w → known d.ws (Kk d rs) w → alB d.ws 600 (gB d rs).ws 600 w (imgW d.ws (Kk d rs) w) := by
    intro w hv hk
    have hi := h.img hv hk
    refine ⟨cv_vok h.bi h.len hv, cv_vok h.gbi (by have := h.glen; have := h.len; omega) hi, ?_, fun h5 => ?_, fun h5 => ?_⟩
    · rw [bi_find h.bi hv, bi_find h.gbi hi]
      by_cases h5 : w.k = 5
      · rw [(h.img_ref hv hk h5).1, h5]
      · rw [h.img_other hv h5]
    · rw [bi_find h.bi hv] at h5 ⊢
      rw [bi_find h.gbi hi, h.img_other hv h5]
    · rw [bi_find h.bi hv] at h5 ⊢
      rw [bi_find h.gbi hi]
      obtain ⟨e, k1, k2⟩ := h.img_ref hv hk h5
      obtain ⟨q1, q2, q3, q4⟩ := h.sp' k1
      obtain ⟨s1, s2, s3, s4, s5, s6⟩ := sp_sz (h.sp _ k1)
      have := q4 0 (by omega)
      rw [newB_get _ _ (by omega), if_neg (by omega)] at this
      rw [e]
      unfold at'
      simp only [Int.toNat_natCast]
      simpa using this.symm
  intro n
  induction n with
  | zero => exact base
  | succ n ih =>
    intro w hv hk
    refine ⟨base w hv hk, fun h5 => ?_⟩
    have hi := h.img hv hk
    rw [bi_find h.bi hv] at h5 ⊢
    rw [bi_find h.gbi hi]
    obtain ⟨e, k1, k2⟩ := h.img_ref hv hk h5
    obtain ⟨q1, q2, q3, q4⟩ := h.sp' k1
    obtain ⟨s1, s2, s3, s4, s5, s6⟩ := sp_sz (h.sp _ k1)
    obtain ⟨t1, t2, t3, t4, t5, t6⟩ := sp_sz q1
    have en : ((w.n.toNat : Nat) : Int) = w.n := Int.toNat_of_nonneg k2
    rw [en] at s5 s6
    have c1 : cntP d.ws w = ((sz d.ws w.n.toNat : Nat) : Int) - (fr d.ws w.n.toNat : Nat) := by unfold cntP; omega
    have c2 : cntP (gB d rs).ws (imgW d.ws (Kk d rs) w) = ((sz d.ws w.n.toNat : Nat) : Int) - (fr d.ws w.n.toNat : Nat) := by
      rw [e]
      unfold cntP
      show spSize (gB d rs).ws (phi d rs w.n.toNat) - spFrom (gB d rs).ws (phi d rs w.n.toNat) = _
      rw [q2] at t5
      rw [q3] at t6
      omega
    refine ⟨by rw [c1, c2], fun i hi' => ?_⟩
    rw [c1] at hi'
    have hlt : fr d.ws w.n.toNat + i < sz d.ws w.n.toNat := by omega
    obtain ⟨w1, w2⟩ := h.word k1 (t := fr d.ws w.n.toNat + i) (by omega) hlt
    have e1 : at' d.ws (partP d.ws w i) = d.ws.getD (w.n.toNat + (fr d.ws w.n.toNat + i)) default := by
      unfold at' partP
      rw [bi_find h.bi hv]
      congr 1
      omega
    have e2 : at' (gB d rs).ws (partP (gB d rs).ws (imgW d.ws (Kk d rs) w) i) = imgW d.ws (Kk d rs) (d.ws.getD (w.n.toNat + (fr d.ws w.n.toNat + i)) default) := by
      have := q4 (fr d.ws w.n.toNat + i) hlt
      rw [newB_get _ _ hlt, if_pos (by omega)] at this
      rw [← this]
      unfold at' partP
      rw [bi_find h.gbi hi, e]
      congr 1
      show ((phi d rs w.n.toNat : Int) + spFrom (gB d rs).ws (phi d rs w.n.toNat) + i).toNat = _
      rw [q3] at t6
      omega
    rw [e1, e2]
    exact ih _ w1 w2

theorem ckRs_succ {ms : List Wd} {ns : List Int} {i : Nat} (h : i < ns.length) : ckRs ms ns (i + 1) = ckRs ms ns i ++ [pickW ms (ns.getD i 0)] := by
  unfold ckRs
  rw [List.take_add_one, List.map_append]
  simp [h]
theorem ckRs_end {ms : List Wd} {ns : List Int} {i : Nat} (h : ¬ (i < ns.length ∧ i < 4)) (hi : i ≤ 4) : ckRs ms ns 4 = ckRs ms ns i := by
  unfold ckRs
  by_cases h1 : i < ns.length
  · rw [show i = 4 by omega]
  · rw [List.take_of_length_le (by omega), List.take_of_length_le (by omega)]
theorem keKs_ok (l : List Rw) (V : KeV) : ∀ k ∈ keKs l V, k.2.2.Ok Try.prog := by
  have n : noF.Ok Try.prog := fun al ol args obs out h => by cases h
  exact all_cons (cF_ok (builtC_ctr _ _ _ _)) (all_cons n (all_cons pickedF_ok (all_cons (cF_ok (colC_ctr _ _ _ _ _)) (all_cons (cF_ok (colC_ctr _ _ _ _ _)) (all_cons (cF_ok (checkC_ctr _ _)) (all_cons (cF_ok (eqC_ctr _ _)) (all_cons (cF_ok (eqC_ctr _ _)) (all_cons (alF_ok 7) all_nil))))))))
theorem kaLoop_ok (l : List Rw) (ns : List Int) (V : KeV) (i : Nat) : Sound (keE l ns V) (.loop kaLoop) (mkSt ((kaLF ns V).live.h.zip (kaArgs ns V.ms i)) (kaObs V.ws V.ms ns i)) ((kaOut V.ws V.ms ns i).map (OutC.st (kaLF ns V).live)) := by
  refine loop_fn mixed (keKs_ok l V) (fun c hc => by rw [show loopsOf kaLoop = [] from by kernel_rfl] at hc; cases hc) (kaLF ns V).live (kaArgs ns V.ms) (kaObs V.ws V.ms ns) (kaOut V.ws V.ms ns) (fun i => ns.length - i) (Q := fun i Rn Re => kaQ l V ns V.ws V.ms (ckRs V.ms ns i) i Rn Re) ?_ (fun i Rn Re => by kernel_rfl) i
  intro i post hp
  obtain ⟨⟨hn, h0, h1, h4⟩, hp⟩ := hp
  have hp : post (.exit 0, [.ptr 0 0, .nm 1], kaObs V.ws V.ms ns 4) := hp
  have hend : ¬ (i < ns.length ∧ i < 4) → Outs post (.exit 0) [.ptr 0 0, .nm 1] (kaObs V.ws V.ms ns i) := by
    intro h
    unfold kaObs at hp
    rw [ckRs_end h h4] at hp
    exact Outs.mk hp (leL_refl _) (leOO_refl _)
  have hlen : (ckRs V.ms ns i).length ≤ i := by unfold ckRs; rw [List.length_map, List.length_take]; omega
  unfold kaQ
  simp only [decide_eq_true_eq, decide_eq_false_iff_not, lo, hi, Int.ofNat_lt, leL_self, leObL_self, true_and]
  refine ⟨fun h => ⟨fun h' => ?_, fun h' => hend (fun hh => h' (by omega))⟩, fun h => hend (fun hh => h hh.1)⟩
  have hin : isInt (ns.getD i 0) := hn _ (by rw [List.getD_eq_getElem?_getD, List.getElem?_eq_getElem h]; exact List.getElem_mem _)
  obtain ⟨p1, p2⟩ := picked_lt hin h0
  refine ⟨⟨by omega, h⟩, ⟨hin, by omega⟩, ⟨p1, p2⟩, by omega, ⟨by omega, by omega⟩, i + 1, by omega, ?_, ?_, ⟨hn, h0, h1, by omega⟩, hp⟩
  · show leL _ (kaArgs ns V.ms (i + 1))
    refine ⟨leS_refl _, leS_refl _, leS_refl _, leS_refl _, ?_, trivial⟩
    rw [leS_int]; omega
  · show leOO _ (kaObs V.ws V.ms ns (i + 1))
    unfold kaObs
    rw [ckRs_succ h]
    exact ⟨leOb_refl _, row_app (ckRs V.ms ns i) (pickW V.ms (ns.getD i 0)), trivial⟩
theorem kbLoop_ok (l : List Rw) (ns : List Int) (V : KeV) (i : Nat) : Sound (keE l ns V) (.loop kbLoop) (mkSt ((kbLF V).live.h.zip (kbArgs V.rs V.out i)) (kbObs V.ws V.g)) ((kbOut V.ws V.g V.rs V.out i).map (OutC.st (kbLF V).live)) := by
  refine loop_fn mixed (keKs_ok l V) (fun c hc => by rw [show loopsOf kbLoop = [] from by kernel_rfl] at hc; cases hc) (kbLF V).live (kbArgs V.rs V.out) (fun _ => kbObs V.ws V.g) (kbOut V.ws V.g V.rs V.out) (fun i => V.rs.length - i) (Q := fun i Rn Re => kbQ l ns V i Rn Re) ?_ (fun i Rn Re => by kernel_rfl) i
  intro i post hp
  obtain ⟨⟨hlen, h1, hal⟩, hp⟩ := hp
  have hp : post (.exit 2, [], []) := hp
  unfold kbQ
  simp only [rdF_wF, wd_eta, decide_eq_true_eq, decide_eq_false_iff_not, lo, hi, Int.ofNat_lt, leL_self, leObL_self, true_and]
  refine ⟨fun h => ⟨⟨by omega, h⟩, ⟨by omega, by omega⟩, ⟨⟨by decide, by decide⟩, by decide, hal i h⟩, ⟨by omega, by omega⟩, i + 1, by omega, ?_, leOO_refl _, ⟨hlen, h1, hal⟩, hp⟩, fun h => Outs.mk hp (leL_refl _) (leOO_refl _)⟩
  show leL _ (kbArgs V.rs V.out (i + 1))
  refine ⟨leS_refl _, leS_refl _, leS_refl _, leS_refl _, leS_refl _, ?_, trivial⟩
  rw [leS_int]; omega
theorem ke_ctr (l : List Rw) (ns : List Int) : Ctr Try.prog 8 [rD l, nD ns] [] (.need (rawOk l ∧ ∀ n ∈ ns, isInt n) (.ret (vB true, []))) := by
  obtain ⟨V, hV⟩ : ∃ V : KeV, V = ⟨(builtD l 30).ws, (builtD l 30).ms, ckRs (builtD l 30).ms ns 4, colW (builtD l 30).ws (ckRs (builtD l 30).ms ns 4), colR (builtD l 30).ws (ckRs (builtD l 30).ms ns 4)⟩ := ⟨_, rfl⟩
  have hlok : (keE l ns V).Lok (loopsOf (bodyOf Try.f8)) := by
    rw [show loopsOf (bodyOf Try.f8) = [kaLoop, kbLoop] from by kernel_rfl]
    have r1 : firstRid kaLoop = 4 := by kernel_rfl
    have r2 : firstRid kbLoop = 12 := by kernel_rfl
    refine fnE_Lok (all_cons (all_cons (fun _ => ?_) (all_cons (fun h => ?_) all_nil)) (all_cons (all_cons (fun h => ?_) (all_cons (fun _ => ?_) all_nil)) all_nil))
    · intro svs obl args obs out h
      simp only [kaLF, Option.some.injEq, Prod.mk.injEq] at h
      obtain ⟨rfl, rfl, rfl⟩ := h
      exact kaLoop_ok l ns V 0
    · rw [r2] at h; exact absurd h (by decide : ¬ (4 = 12))
    · rw [r1] at h; exact absurd h (by decide : ¬ (12 = 4))
    · intro svs obl args obs out h
      simp only [kbLF, Option.some.injEq, Prod.mk.injEq] at h
      obtain ⟨rfl, rfl, rfl⟩ := h
      exact kbLoop_ok l ns V 0
  refine ctr_fn mixed (N := 117) (fn := Try.f8) (c := bodyOf Try.f8) (ks := keKs l V) (ls := [kaLF ns V, kbLF V]) (by kernel_rfl) (by kernel_rfl) (by kernel_rfl) (keKs_ok l V) fin0 hlok (by kernel_rfl) (Q := keQ l ns V) (fun post hp => ?_) (fun R => by kernel_rfl)
  obtain ⟨⟨hr, hn⟩, hp⟩ := hp
  have hp : post (vB true, []) := hp
  obtain ⟨hbi, hw5, hm2⟩ := built_ok hr (most := 30) (by omega) (by omega)
  unfold keQ
  subst hV
  simp only
  generalize builtD l 30 = d at *
  have hcol : Col d (ckRs d.ms ns 4) := ⟨hbi, hw5, fun r hr => by
    obtain ⟨n, hm, rfl⟩ := List.mem_map.1 hr
    exact pickW_mem (hn n (List.mem_of_mem_take hm)) hbi.pos⟩
  have hlen : (ckRs d.ms ns 4).length ≤ 4 := by unfold ckRs; rw [List.length_map, List.length_take]; omega
  have hal : ∀ j, j < (ckRs d.ms ns 4).length → AL d.ws 600 (colW d.ws (ckRs d.ms ns 4)) 600 6 ((ckRs d.ms ns 4).getD j default) ((colR d.ws (ckRs d.ms ns 4)).getD j default) := fun j hj => by
    have hm : (ckRs d.ms ns 4).getD j default ∈ ckRs d.ms ns 4 := by
      rw [List.getD_eq_getElem?_getD, List.getElem?_eq_getElem hj]; exact List.getElem_mem _
    have e : (colR d.ws (ckRs d.ms ns 4)).getD j default = imgW d.ws (Kk d (ckRs d.ms ns 4)) ((ckRs d.ms ns 4).getD j default) := by
      unfold colR
      simp only [List.getD_eq_getElem?_getD, List.getElem?_map, List.getElem?_eq_getElem hj]
      rfl
    rw [e, hcol.g]
    exact col_alike hcol 6 _ (hbi.mv _ (hcol.rt _ hm)) (hcol.known _ hm)
  generalize ckRs d.ms ns 4 = rs at *
  obtain ⟨e1, e2⟩ := hcol.same
  have hg1 : colGood d.ws 600 rs = true := by simp only [colGood, hcol.check, hcol.all, Bool.and_self]
  have hg2 : colGood (gB d rs).ws 600 (colR d.ws rs) = true := by simp only [colGood, hcol.again.check, hcol.again.all, Bool.and_self]
  have hgl := hcol.glen
  have hcr : (colR d.ws rs).length = rs.length := by simp [colR]
  rw [← hcol.g] at e1 e2 hg2 hgl
  have hck : checkB (colW d.ws rs) 600 = true := by rw [hcol.g]; exact hcol.again.check
  generalize colW d.ws rs = g at *
  generalize colR d.ws rs = out at *
  have hgo : (g.length : Int) > d.ws.length → False := by omega
  simp only [leL_self, leObL_self, leS_self, leOO_self, true_and, and_true, bne_iff_ne, bne_eq_false_iff_eq, decide_eq_true_eq, decide_eq_false_iff_not]
  refine ⟨⟨hr, by omega, by omega⟩, by rw [leS_int]; rfl, ⟨leOb_refl _, ⟨rfl, rfl, rfl, fun k hk => by omega⟩, trivial⟩, ⟨hn, hbi.pos, by omega, by omega⟩, ⟨by omega, hg1⟩, ⟨by omega, hg2, e1.symm, e2.symm⟩, fun h => absurd (by omega) h, fun _ => ⟨hck, fun h => (hgo h).elim, fun _ => ⟨checkB_fits hck, ?_, by rw [leS_int]; rfl, ⟨hcr.symm, by omega, hal⟩, gives1 hp (leS_refl _)⟩⟩⟩
  show ((out.length : Nat) : Int) ≤ _
  omega
end Go.Proofs.Ytfpnadmpmfcaaaa
