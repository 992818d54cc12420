/- PartsBack: the contract. -/
import Derived.Test.YtfpnadmpmfcaaaaHpP
open Rx Go
namespace Go.Proofs.Ytfpnadmpmfcaaaa

/-! ## calls that are told at their places -/
def builtC (l : List Rw) (most : Int) (ws ms : List Wd) : T Out := .need (rawOk l ∧ 0 ≤ most ∧ most ≤ 30 ∧ ws = (builtD l most).ws ∧ ms = (builtD l most).ms) (.ret (.tup [hS ws 600, wD ms], []))
theorem builtC_ctr (l : List Rw) (most : Int) (ws ms : List Wd) : Ctr Try.prog 12 [rD l, vI .i64 most] [] (builtC l most ws ms) := by
  refine ctr_weak (built_ctr l most) fun post hp => ?_
  obtain ⟨⟨h1, h2, h3, rfl, rfl⟩, hp⟩ := hp
  exact ⟨⟨h1, h2, h3⟩, gives1 hp (leS_refl _)⟩
def pickC (n m p : Int) : T Out := .need (isInt n ∧ m ≠ 0 ∧ p = pickedS n m) (.ret (vI .i64 p, []))
theorem pickC_ctr (n m p : Int) : Ctr Try.prog 10 [vI .i64 n, vI .i64 m] [] (pickC n m p) := by
  refine ctr_weak (picked_ctr n m) fun post hp => ?_
  obtain ⟨⟨h1, h2, rfl⟩, hp⟩ := hp
  exact ⟨⟨h1, h2⟩, gives1 hp (leS_refl _)⟩
def putC (l : List Wd) (lim : Int) (m L : List Wd) (a : Int) : T Out := .need (fitsW m ∧ putGood l lim m = true ∧ L = l ++ m ∧ a = l.length) (.ret (.tup [hS L lim, vI .i64 a, .ki .i64 0], []))
theorem putC_ctr (l : List Wd) (lim : Int) (m L : List Wd) (a : Int) : Ctr Try.prog 11 [hS l lim, wD m] [] (putC l lim m L a) := by
  refine ctr_weak (putG_ctr l lim m) fun post hp => ?_
  obtain ⟨⟨h1, h2, rfl, rfl⟩, hp⟩ := hp
  exact ⟨⟨h1, h2⟩, gives1 hp (leS_refl _)⟩
def partC (l : List Wd) (lim : Int) (w : Wd) (i : Int) (x : Wd) : T Out := .need (isInt i ∧ partE l lim w i = 0 ∧ x = at' l (partP l w i)) (.ret (.tup [wS x, .ki .i64 0], []))
theorem partC_ctr (l : List Wd) (lim : Int) (w : Wd) (i : Int) (x : Wd) : Ctr Try.prog 17 [hS l lim, wS w, vI .i64 i] [] (partC l lim w i x) := by
  refine ctr_weak (partG_ctr l lim w i) fun post hp => ?_
  obtain ⟨⟨h1, h2, rfl⟩, hp⟩ := hp
  exact ⟨⟨h1, h2⟩, gives1 hp (leS_refl _)⟩
def chC (l : List Wd) (lim : Int) (w : Wd) (i : Int) (v : Wd) (L : List Wd) : T Out := .need (isInt i ∧ chE l lim w i v = 0 ∧ L = chW l w i v) (.ret (.tup [hS L lim, .ki .i64 0], []))
theorem chC_ctr (l : List Wd) (lim : Int) (w : Wd) (i : Int) (v : Wd) (L : List Wd) : Ctr Try.prog 18 [hS l lim, wS w, vI .i64 i, wS v] [] (chC l lim w i v L) := by
  refine ctr_weak (chG_ctr l lim w i v) fun post hp => ?_
  obtain ⟨⟨h1, h2, rfl⟩, hp⟩ := hp
  exact ⟨⟨h1, h2⟩, gives1 hp (leS_refl _)⟩

structure PbV where
  ws : List Wd
  ms : List Wd
  pi : Int
  pj : Int
  pk : Int
  M : List Wd
  L : List Wd
  N : List Wd
  a : Int
  w : Wd
  x : Wd
  y : Wd
  c : Wd
  z : Wd
  v : Wd
def pbKs (l : List Rw) (i j k : Int) (V : PbV) : List (Nat × Nat × FC) := [(1, 1, cF 12 false [rD l, vI .i64 25] [] (builtC l 25 V.ws V.ms)),
  (2, 4, cF 10 false [vI .i64 i, vI .i64 V.ms.length] [] (pickC i V.ms.length V.pi)), (3, 4, cF 10 false [vI .i64 j, vI .i64 V.ms.length] [] (pickC j V.ms.length V.pj)),
  (4, 5, cF 11 false [hS V.ws 600, wD V.M] [] (putC V.ws 600 V.M V.L V.a)), (6, 2, cF 17 false [hS V.L 600, wS V.w, vI .i64 0] [] (partC V.L 600 V.w 0 V.x)), (7, 2, cF 17 false [hS V.L 600, wS V.w, vI .i64 1] [] (partC V.L 600 V.w 1 V.y)),
  (8, 4, cF 10 false [vI .i64 k, vI .i64 V.ms.length] [] (pickC k V.ms.length V.pk)), (9, 3, cF 18 false [hS V.L 600, wS V.w, vI .i64 0, wS V.c] [] (chC V.L 600 V.w 0 V.c V.N)),
  (10, 2, cF 17 false [hS V.N 600, wS V.w, vI .i64 0] [] (partC V.N 600 V.w 0 V.z)), (11, 2, cF 17 false [hS V.N 600, wS V.w, vI .i64 1] [] (partC V.N 600 V.w 1 V.v)), (12, 2, cF 17 false [hS V.L 600, wS V.w, vI .i64 2] [] (partNO V.L 600 V.w 2))]
noncomputable def pbE (l : List Rw) (i j k : Int) (V : PbV) : Env := fnE Try.prog 150 0 (pbKs l i j k V) []

def pbQ (l : List Rw) (i j k : Int) (V : PbV) (R : SV → List (Option Ob) → Prop) : Prop :=
((Rx.leL ([SV.dt (Dt.arr ((4 : Nat)) (l.length) (Go.Proofs.Ytfpnadmpmfcaaaa.rF l)), SV.dt (Dt.cell (Go.Value.int Go.IntKind.i64 (25 : Int)))]) ([SV.dt (Dt.arr ((4 : Nat)) (l.length) (Go.Proofs.Ytfpnadmpmfcaaaa.rF l)), SV.dt (Dt.cell (Go.Value.int Go.IntKind.i64 (25 : Int)))])) ∧
((Rx.leObL ([]) ([])) ∧
 (((Go.Proofs.Ytfpnadmpmfcaaaa.rawOk l) ∧
   (((0 : Int) ≤ (25 : Int)) ∧
    (((25 : Int) ≤ (30 : Int)) ∧
     ((V.ws = (Go.Proofs.Ytfpnadmpmfcaaaa.builtD l (25 : Int)).ws) ∧
      (V.ms = (Go.Proofs.Ytfpnadmpmfcaaaa.builtD l (25 : Int)).ms))))) ∧
  ((Rx.leL ([SV.dt (Dt.cell (Go.Value.int Go.IntKind.i64 i)), SV.dt (Dt.cell (Go.Value.int Go.IntKind.i64 (↑V.ms.length : Int)))]) ([SV.dt (Dt.cell (Go.Value.int Go.IntKind.i64 i)), SV.dt (Dt.cell (Go.Value.int Go.IntKind.i64 (↑V.ms.length : Int)))])) ∧
   ((Rx.leObL ([]) ([])) ∧
    (((Go.Proofs.Ytfpnadmpmfcaaaa.isInt i) ∧
      (((↑V.ms.length : Int) ≠ (0 : Int)) ∧
       (V.pi = Go.Proofs.Ytfpnadmpmfcaaaa.pickedS i (↑V.ms.length : Int)))) ∧
     ((((0 : Int) ≤ V.pi) ∧
       (V.pi < (↑V.ms.length : Int))) ∧
      ((Rx.leL ([SV.dt (Dt.cell (Go.Value.int Go.IntKind.i64 j)), SV.dt (Dt.cell (Go.Value.int Go.IntKind.i64 (↑V.ms.length : Int)))]) ([SV.dt (Dt.cell (Go.Value.int Go.IntKind.i64 j)), SV.dt (Dt.cell (Go.Value.int Go.IntKind.i64 (↑V.ms.length : Int)))])) ∧
       ((Rx.leObL ([]) ([])) ∧
        (((Go.Proofs.Ytfpnadmpmfcaaaa.isInt j) ∧
          (((↑V.ms.length : Int) ≠ (0 : Int)) ∧
           (V.pj = Go.Proofs.Ytfpnadmpmfcaaaa.pickedS j (↑V.ms.length : Int)))) ∧
         ((((0 : Int) ≤ V.pj) ∧
           (V.pj < (↑V.ms.length : Int))) ∧
          ((Rx.leL ([SV.agg [SV.dt (Dt.arr ((3 : Nat)) (V.ws.length) (Go.Proofs.Ytfpnadmpmfcaaaa.wF V.ws)), SV.dt (Dt.cell (Go.Value.int Go.IntKind.i64 (600 : Int)))], SV.dt (Dt.arr ((3 : Nat)) ((3 : Nat)) (fun i j => [Rx.Dt.cell (Go.Value.int Go.IntKind.i64 (6 : Int)), Rx.Dt.cell (Go.Value.int Go.IntKind.i64 (0 : Int)), Rx.Dt.cell (Go.Value.string (ByteArray.mk #[])), Go.Proofs.Ytfpnadmpmfcaaaa.wF V.ms V.pi.toNat (nat_lit 0), Go.Proofs.Ytfpnadmpmfcaaaa.wF V.ms V.pi.toNat (nat_lit 1), Go.Proofs.Ytfpnadmpmfcaaaa.wF V.ms V.pi.toNat (nat_lit 2), Go.Proofs.Ytfpnadmpmfcaaaa.wF V.ms V.pj.toNat (nat_lit 0), Go.Proofs.Ytfpnadmpmfcaaaa.wF V.ms V.pj.toNat (nat_lit 1), Go.Proofs.Ytfpnadmpmfcaaaa.wF V.ms V.pj.toNat (nat_lit 2)].getD (i * (3 : Nat) + j) Rx.undefCell))]) ([SV.agg [SV.dt (Dt.arr ((3 : Nat)) (V.ws.length) (Go.Proofs.Ytfpnadmpmfcaaaa.wF V.ws)), SV.dt (Dt.cell (Go.Value.int Go.IntKind.i64 (600 : Int)))], SV.dt (Dt.arr ((3 : Nat)) (V.M.length) (Go.Proofs.Ytfpnadmpmfcaaaa.wF V.M))])) ∧
           ((Rx.leObL ([]) ([])) ∧
            (((Go.Proofs.Ytfpnadmpmfcaaaa.fitsW V.M) ∧
              ((Go.Proofs.Ytfpnadmpmfcaaaa.putGood V.ws (600 : Int) V.M = Bool.true) ∧
               ((V.L = V.ws ++ V.M) ∧
                (V.a = (↑V.ws.length : Int))))) ∧
             ((Rx.leL ([SV.agg [SV.dt (Dt.arr ((3 : Nat)) (V.L.length) (Go.Proofs.Ytfpnadmpmfcaaaa.wF V.L)), SV.dt (Dt.cell (Go.Value.int Go.IntKind.i64 (600 : Int)))], SV.agg [SV.dt (Dt.cell (Go.Value.int Go.IntKind.i64 (5 : Int))), SV.dt (Dt.cell (Go.Value.int Go.IntKind.i64 V.a)), SV.dt (Dt.cell (Go.Value.string (ByteArray.mk #[])))], SV.dt (Dt.cell (Go.Value.int Go.IntKind.i64 (0 : Int)))]) ([SV.agg [SV.dt (Dt.arr ((3 : Nat)) (V.L.length) (Go.Proofs.Ytfpnadmpmfcaaaa.wF V.L)), SV.dt (Dt.cell (Go.Value.int Go.IntKind.i64 (600 : Int)))], SV.agg [SV.dt (Dt.cell (Go.Value.int Go.IntKind.i64 V.w.k)), SV.dt (Dt.cell (Go.Value.int Go.IntKind.i64 V.w.n)), SV.dt (Dt.cell (Go.Value.string V.w.s))], SV.dt (Dt.cell (Go.Value.int Go.IntKind.i64 (0 : Int)))])) ∧
              ((Rx.leObL ([]) ([])) ∧
               (((Go.Proofs.Ytfpnadmpmfcaaaa.isInt (0 : Int)) ∧
                 ((Go.Proofs.Ytfpnadmpmfcaaaa.partE V.L (600 : Int) V.w (0 : Int) = (0 : Int)) ∧
                  (V.x = Go.Proofs.Ytfpnadmpmfcaaaa.at' V.L (Go.Proofs.Ytfpnadmpmfcaaaa.partP V.L V.w (0 : Int))))) ∧
                ((Rx.leL ([SV.agg [SV.dt (Dt.arr ((3 : Nat)) (V.L.length) (Go.Proofs.Ytfpnadmpmfcaaaa.wF V.L)), SV.dt (Dt.cell (Go.Value.int Go.IntKind.i64 (600 : Int)))], SV.agg [SV.dt (Dt.cell (Go.Value.int Go.IntKind.i64 (5 : Int))), SV.dt (Dt.cell (Go.Value.int Go.IntKind.i64 V.a)), SV.dt (Dt.cell (Go.Value.string (ByteArray.mk #[])))], SV.dt (Dt.cell (Go.Value.int Go.IntKind.i64 (1 : Int)))]) ([SV.agg [SV.dt (Dt.arr ((3 : Nat)) (V.L.length) (Go.Proofs.Ytfpnadmpmfcaaaa.wF V.L)), SV.dt (Dt.cell (Go.Value.int Go.IntKind.i64 (600 : Int)))], SV.agg [SV.dt (Dt.cell (Go.Value.int Go.IntKind.i64 V.w.k)), SV.dt (Dt.cell (Go.Value.int Go.IntKind.i64 V.w.n)), SV.dt (Dt.cell (Go.Value.string V.w.s))], SV.dt (Dt.cell (Go.Value.int Go.IntKind.i64 (1 : Int)))])) ∧
                 ((Rx.leObL ([]) ([])) ∧
                  (((Go.Proofs.Ytfpnadmpmfcaaaa.isInt (1 : Int)) ∧
                    ((Go.Proofs.Ytfpnadmpmfcaaaa.partE V.L (600 : Int) V.w (1 : Int) = (0 : Int)) ∧
                     (V.y = Go.Proofs.Ytfpnadmpmfcaaaa.at' V.L (Go.Proofs.Ytfpnadmpmfcaaaa.partP V.L V.w (1 : Int))))) ∧
                   ((Rx.leL ([SV.dt (Dt.cell (Go.Value.int Go.IntKind.i64 k)), SV.dt (Dt.cell (Go.Value.int Go.IntKind.i64 (↑V.ms.length : Int)))]) ([SV.dt (Dt.cell (Go.Value.int Go.IntKind.i64 k)), SV.dt (Dt.cell (Go.Value.int Go.IntKind.i64 (↑V.ms.length : Int)))])) ∧
                    ((Rx.leObL ([]) ([])) ∧
                     (((Go.Proofs.Ytfpnadmpmfcaaaa.isInt k) ∧
                       (((↑V.ms.length : Int) ≠ (0 : Int)) ∧
                        (V.pk = Go.Proofs.Ytfpnadmpmfcaaaa.pickedS k (↑V.ms.length : Int)))) ∧
                      ((((0 : Int) ≤ V.pk) ∧
                        (V.pk < (↑V.ms.length : Int))) ∧
                       ((Rx.leL ([SV.agg [SV.dt (Dt.arr ((3 : Nat)) (V.L.length) (Go.Proofs.Ytfpnadmpmfcaaaa.wF V.L)), SV.dt (Dt.cell (Go.Value.int Go.IntKind.i64 (600 : Int)))], SV.agg [SV.dt (Dt.cell (Go.Value.int Go.IntKind.i64 (5 : Int))), SV.dt (Dt.cell (Go.Value.int Go.IntKind.i64 V.a)), SV.dt (Dt.cell (Go.Value.string (ByteArray.mk #[])))], SV.dt (Dt.cell (Go.Value.int Go.IntKind.i64 (0 : Int))), SV.agg [SV.dt (Dt.cell (Go.Value.int Go.IntKind.i64 (V.ms.getD V.pk.toNat Inhabited.default).k)), SV.dt (Dt.cell (Go.Value.int Go.IntKind.i64 (V.ms.getD V.pk.toNat Inhabited.default).n)), SV.dt (Dt.cell (Go.Value.string (V.ms.getD V.pk.toNat Inhabited.default).s))]]) ([SV.agg [SV.dt (Dt.arr ((3 : Nat)) (V.L.length) (Go.Proofs.Ytfpnadmpmfcaaaa.wF V.L)), SV.dt (Dt.cell (Go.Value.int Go.IntKind.i64 (600 : Int)))], SV.agg [SV.dt (Dt.cell (Go.Value.int Go.IntKind.i64 V.w.k)), SV.dt (Dt.cell (Go.Value.int Go.IntKind.i64 V.w.n)), SV.dt (Dt.cell (Go.Value.string V.w.s))], SV.dt (Dt.cell (Go.Value.int Go.IntKind.i64 (0 : Int))), SV.agg [SV.dt (Dt.cell (Go.Value.int Go.IntKind.i64 V.c.k)), SV.dt (Dt.cell (Go.Value.int Go.IntKind.i64 V.c.n)), SV.dt (Dt.cell (Go.Value.string V.c.s))]])) ∧
                        ((Rx.leObL ([]) ([])) ∧
                         (((Go.Proofs.Ytfpnadmpmfcaaaa.isInt (0 : Int)) ∧
                           ((Go.Proofs.Ytfpnadmpmfcaaaa.chE V.L (600 : Int) V.w (0 : Int) V.c = (0 : Int)) ∧
                            (V.N = Go.Proofs.Ytfpnadmpmfcaaaa.chW V.L V.w (0 : Int) V.c))) ∧
                          ((Rx.leL ([SV.agg [SV.dt (Dt.arr ((3 : Nat)) (V.N.length) (Go.Proofs.Ytfpnadmpmfcaaaa.wF V.N)), SV.dt (Dt.cell (Go.Value.int Go.IntKind.i64 (600 : Int)))], SV.agg [SV.dt (Dt.cell (Go.Value.int Go.IntKind.i64 (5 : Int))), SV.dt (Dt.cell (Go.Value.int Go.IntKind.i64 V.a)), SV.dt (Dt.cell (Go.Value.string (ByteArray.mk #[])))], SV.dt (Dt.cell (Go.Value.int Go.IntKind.i64 (0 : Int)))]) ([SV.agg [SV.dt (Dt.arr ((3 : Nat)) (V.N.length) (Go.Proofs.Ytfpnadmpmfcaaaa.wF V.N)), SV.dt (Dt.cell (Go.Value.int Go.IntKind.i64 (600 : Int)))], SV.agg [SV.dt (Dt.cell (Go.Value.int Go.IntKind.i64 V.w.k)), SV.dt (Dt.cell (Go.Value.int Go.IntKind.i64 V.w.n)), SV.dt (Dt.cell (Go.Value.string V.w.s))], SV.dt (Dt.cell (Go.Value.int Go.IntKind.i64 (0 : Int)))])) ∧
                           ((Rx.leObL ([]) ([])) ∧
                            (((Go.Proofs.Ytfpnadmpmfcaaaa.isInt (0 : Int)) ∧
                              ((Go.Proofs.Ytfpnadmpmfcaaaa.partE V.N (600 : Int) V.w (0 : Int) = (0 : Int)) ∧
                               (V.z = Go.Proofs.Ytfpnadmpmfcaaaa.at' V.N (Go.Proofs.Ytfpnadmpmfcaaaa.partP V.N V.w (0 : Int))))) ∧
                             ((Rx.leL ([SV.agg [SV.dt (Dt.arr ((3 : Nat)) (V.N.length) (Go.Proofs.Ytfpnadmpmfcaaaa.wF V.N)), SV.dt (Dt.cell (Go.Value.int Go.IntKind.i64 (600 : Int)))], SV.agg [SV.dt (Dt.cell (Go.Value.int Go.IntKind.i64 (5 : Int))), SV.dt (Dt.cell (Go.Value.int Go.IntKind.i64 V.a)), SV.dt (Dt.cell (Go.Value.string (ByteArray.mk #[])))], SV.dt (Dt.cell (Go.Value.int Go.IntKind.i64 (1 : Int)))]) ([SV.agg [SV.dt (Dt.arr ((3 : Nat)) (V.N.length) (Go.Proofs.Ytfpnadmpmfcaaaa.wF V.N)), SV.dt (Dt.cell (Go.Value.int Go.IntKind.i64 (600 : Int)))], SV.agg [SV.dt (Dt.cell (Go.Value.int Go.IntKind.i64 V.w.k)), SV.dt (Dt.cell (Go.Value.int Go.IntKind.i64 V.w.n)), SV.dt (Dt.cell (Go.Value.string V.w.s))], SV.dt (Dt.cell (Go.Value.int Go.IntKind.i64 (1 : Int)))])) ∧
                              ((Rx.leObL ([]) ([])) ∧
                               (((Go.Proofs.Ytfpnadmpmfcaaaa.isInt (1 : Int)) ∧
                                 ((Go.Proofs.Ytfpnadmpmfcaaaa.partE V.N (600 : Int) V.w (1 : Int) = (0 : Int)) ∧
                                  (V.v = Go.Proofs.Ytfpnadmpmfcaaaa.at' V.N (Go.Proofs.Ytfpnadmpmfcaaaa.partP V.N V.w (1 : Int))))) ∧
                                ((Rx.leL ([SV.agg [SV.dt (Dt.arr ((3 : Nat)) (V.L.length) (Go.Proofs.Ytfpnadmpmfcaaaa.wF V.L)), SV.dt (Dt.cell (Go.Value.int Go.IntKind.i64 (600 : Int)))], SV.agg [SV.dt (Dt.cell (Go.Value.int Go.IntKind.i64 (5 : Int))), SV.dt (Dt.cell (Go.Value.int Go.IntKind.i64 V.a)), SV.dt (Dt.cell (Go.Value.string (ByteArray.mk #[])))], SV.dt (Dt.cell (Go.Value.int Go.IntKind.i64 (2 : Int)))]) ([SV.agg [SV.dt (Dt.arr ((3 : Nat)) (V.L.length) (Go.Proofs.Ytfpnadmpmfcaaaa.wF V.L)), SV.dt (Dt.cell (Go.Value.int Go.IntKind.i64 (600 : Int)))], SV.agg [SV.dt (Dt.cell (Go.Value.int Go.IntKind.i64 V.w.k)), SV.dt (Dt.cell (Go.Value.int Go.IntKind.i64 V.w.n)), SV.dt (Dt.cell (Go.Value.string V.w.s))], SV.dt (Dt.cell (Go.Value.int Go.IntKind.i64 (2 : Int)))])) ∧
                                 ((Rx.leObL ([]) ([])) ∧
                                  (((Go.Proofs.Ytfpnadmpmfcaaaa.isInt (2 : Int)) ∧
                                    (Go.Proofs.Ytfpnadmpmfcaaaa.partE V.L (600 : Int) V.w (2 : Int) = (2 : Int))) ∧
                                   ((((V.x.k == (V.ms.getD V.pi.toNat Inhabited.default).k && (V.x.n == (V.ms.getD V.pi.toNat Inhabited.default).n && (V.x.s == (V.ms.getD V.pi.toNat Inhabited.default).s && Bool.true))) = Bool.true) →
                                     ((((V.y.k == (V.ms.getD V.pj.toNat Inhabited.default).k && (V.y.n == (V.ms.getD V.pj.toNat Inhabited.default).n && (V.y.s == (V.ms.getD V.pj.toNat Inhabited.default).s && Bool.true))) = Bool.true) →
                                       ((((V.z.k == (V.ms.getD V.pk.toNat Inhabited.default).k && (V.z.n == (V.ms.getD V.pk.toNat Inhabited.default).n && (V.z.s == (V.ms.getD V.pk.toNat Inhabited.default).s && Bool.true))) = Bool.true) →
                                         (True ∧
                                          R (SV.dt (Dt.cell (Go.Value.bool (V.v.k == (V.ms.getD V.pj.toNat Inhabited.default).k && (V.v.n == (V.ms.getD V.pj.toNat Inhabited.default).n && (V.v.s == (V.ms.getD V.pj.toNat Inhabited.default).s && Bool.true)))))) ([]))) ∧
                                        (((V.z.k == (V.ms.getD V.pk.toNat Inhabited.default).k && (V.z.n == (V.ms.getD V.pk.toNat Inhabited.default).n && (V.z.s == (V.ms.getD V.pk.toNat Inhabited.default).s && Bool.true))) = Bool.false) →
                                         (True ∧
                                          R (SV.dt (Dt.cell (Go.Value.bool Bool.false))) ([]))))) ∧
                                      (((V.y.k == (V.ms.getD V.pj.toNat Inhabited.default).k && (V.y.n == (V.ms.getD V.pj.toNat Inhabited.default).n && (V.y.s == (V.ms.getD V.pj.toNat Inhabited.default).s && Bool.true))) = Bool.false) →
                                       (True ∧
                                        R (SV.dt (Dt.cell (Go.Value.bool Bool.false))) ([]))))) ∧
                                    (((V.x.k == (V.ms.getD V.pi.toNat Inhabited.default).k && (V.x.n == (V.ms.getD V.pi.toNat Inhabited.default).n && (V.x.s == (V.ms.getD V.pi.toNat Inhabited.default).s && Bool.true))) = Bool.false) →
                                     (True ∧
                                      R (SV.dt (Dt.cell (Go.Value.bool Bool.false))) ([]))))))))))))))))))))))))))))))))))))))))
theorem pr_set (ws : List Wd) (a b c : Wd) : (ws ++ pr a b).set (ws.length + 1) c = ws ++ pr c b := by
  rw [List.set_append_right _ _ (by omega)]
  simp [pr]
theorem pb_ctr (l : List Rw) (i j k : Int) : Ctr Try.prog 7 [rD l, vI .i64 i, vI .i64 j, vI .i64 k] [] (.need (rawOk l ∧ isInt i ∧ isInt j ∧ isInt k) (.ret (vB true, []))) := by
  obtain ⟨V, hV⟩ : ∃ V : PbV, V = ⟨(dAt l 25).ws, (dAt l 25).ms, pickedS i (dAt l 25).ms.length, pickedS j (dAt l 25).ms.length, pickedS k (dAt l 25).ms.length, pr (pickW (dAt l 25).ms i) (pickW (dAt l 25).ms j), (dAt l 25).ws ++ pr (pickW (dAt l 25).ms i) (pickW (dAt l 25).ms j),
    (dAt l 25).ws ++ pr (pickW (dAt l 25).ms k) (pickW (dAt l 25).ms j), (dAt l 25).ws.length, ⟨5, (dAt l 25).ws.length, noS⟩, pickW (dAt l 25).ms i, pickW (dAt l 25).ms j, pickW (dAt l 25).ms k, pickW (dAt l 25).ms k, pickW (dAt l 25).ms j⟩ := ⟨_, rfl⟩
  refine ctr_fn mixed (N := 150) (fn := Try.f7) (c := bodyOf Try.f7) (ks := pbKs l i j k V) (ls := []) (by kernel_rfl) (by kernel_rfl) (by kernel_rfl) ?_ fin0 (fun c hc => by rw [show loopsOf (bodyOf Try.f7) = [] from by kernel_rfl] at hc; cases hc) (by kernel_rfl) (Q := pbQ l i j k V) (fun post hp => ?_) (fun R => by kernel_rfl)
  · exact all_cons (cF_ok (builtC_ctr _ _ _ _)) (all_cons (cF_ok (pickC_ctr _ _ _)) (all_cons (cF_ok (pickC_ctr _ _ _)) (all_cons (cF_ok (putC_ctr _ _ _ _ _)) (all_cons (cF_ok (partC_ctr _ _ _ _ _)) (all_cons (cF_ok (partC_ctr _ _ _ _ _)) (all_cons (cF_ok (pickC_ctr _ _ _)) (all_cons (cF_ok (chC_ctr _ _ _ _ _ _)) (all_cons (cF_ok (partC_ctr _ _ _ _ _)) (all_cons (cF_ok (partC_ctr _ _ _ _ _)) (all_cons (cF_ok (partN_ctr _ _ _ _)) all_nil))))))))))
  obtain ⟨⟨hr, hin, hjn, hkn⟩, hp⟩ := hp
  have hp : post (vB true, []) := hp
  obtain ⟨hbi, hw5, hm2⟩ := dAt_bi hr 25
  have hd : builtD l 25 = dAt l 25 := rfl
  have hma := pickW_mem hin hbi.pos
  have hmb := pickW_mem hjn hbi.pos
  have hmc := pickW_mem hkn hbi.pos
  obtain ⟨p1, p2⟩ := picked_lt hin hbi.pos
  obtain ⟨p3, p4⟩ := picked_lt hjn hbi.pos
  obtain ⟨p5, p6⟩ := picked_lt hkn hbi.pos
  unfold pbQ
  subst hV
  have eW : ∀ n, (dAt l 25).ms.getD (pickedS n (dAt l 25).ms.length).toNat default = pickW (dAt l 25).ms n := fun _ => rfl
  simp only [hd, eW, wEq, decide_true, Bool.true_eq_false, Bool.false_eq_true, false_implies, true_implies, and_true, true_and, leL_self, leObL_self]
  generalize dAt l 25 = d at *
  have hlit : leS (.dt (.arr 3 3 (litF (cells3 (pr (pickW d.ms i) (pickW d.ms j)))))) (wD (pr (pickW d.ms i) (pickW d.ms j))) := lit_le (m := pr (pickW d.ms i) (pickW d.ms j)) rfl
  obtain ⟨q1, q2, q3, q4, q5, q6, q7⟩ := pair_part hbi hma hmb (lim := 600) (by omega) (by omega) (by omega)
  obtain ⟨s1, s2, s3, s4, s5, s6, s7⟩ := pair_part hbi hmc hmb (lim := 600) (by omega) (by omega) (by omega)
  obtain ⟨b1, b2⟩ := pr_blk (pickW d.ms i) (pickW d.ms j)
  have hg := put_good hbi b1 (by rw [b2]; intro w hw; simp at hw; rcases hw with rfl | rfl <;> assumption) (lim := 600) (by omega) (by omega) (by show (d.ws.length : Int) + 3 ≤ 600; omega)
  have hN : d.ws ++ pr (pickW d.ms k) (pickW d.ms j) = chW (d.ws ++ pr (pickW d.ms i) (pickW d.ms j)) ⟨5, d.ws.length, noS⟩ 0 (pickW d.ms k) := by
    rw [chW, q4, show ((d.ws.length : Int) + 1).toNat = d.ws.length + 1 by omega, pr_set]
  have e0 : pickW d.ms i = at' (d.ws ++ pr (pickW d.ms i) (pickW d.ms j)) (partP (d.ws ++ pr (pickW d.ms i) (pickW d.ms j)) ⟨5, d.ws.length, noS⟩ 0) := by
    rw [partW, if_pos q1] at q5; exact q5.symm
  have e1 : pickW d.ms j = at' (d.ws ++ pr (pickW d.ms i) (pickW d.ms j)) (partP (d.ws ++ pr (pickW d.ms i) (pickW d.ms j)) ⟨5, d.ws.length, noS⟩ 1) := by
    rw [partW, if_pos q2] at q6; exact q6.symm
  have e2 : pickW d.ms k = at' (d.ws ++ pr (pickW d.ms k) (pickW d.ms j)) (partP (d.ws ++ pr (pickW d.ms k) (pickW d.ms j)) ⟨5, d.ws.length, noS⟩ 0) := by
    rw [partW, if_pos s1] at s5; exact s5.symm
  have e3 : pickW d.ms j = at' (d.ws ++ pr (pickW d.ms k) (pickW d.ms j)) (partP (d.ws ++ pr (pickW d.ms k) (pickW d.ms j)) ⟨5, d.ws.length, noS⟩ 1) := by
    rw [partW, if_pos s2] at s6; exact s6.symm
  have hc0 : chE (d.ws ++ pr (pickW d.ms i) (pickW d.ms j)) 600 ⟨5, d.ws.length, noS⟩ 0 (pickW d.ms k) = 0 := by rw [chE, if_pos q1]; exact q7 _ hmc
  have i0 : isInt 0 := ⟨by decide, by decide⟩
  have i1 : isInt 1 := ⟨by decide, by decide⟩
  have i2 : isInt 2 := ⟨by decide, by decide⟩
  have hm0 : (d.ms.length : Int) ≠ 0 := by omega
  have hf : fitsW (pr (pickW d.ms i) (pickW d.ms j)) := by show ((3 : Nat) : Int) ≤ _; omega
  have hlast : Gives post (.dt (.cell (.bool true))) [] := gives1 hp (leS_refl _)
  have hlit' : leL [.agg [.dt (.arr 3 d.ws.length (wF d.ws)), vI .i64 600], .dt (.arr 3 3 (litF (cells3 (pr (pickW d.ms i) (pickW d.ms j)))))] [hS d.ws 600, wD (pr (pickW d.ms i) (pickW d.ms j))] := ⟨leS_refl _, hlit, trivial⟩
  refine ⟨⟨hr, by decide, by decide⟩, ⟨hin, hm0⟩, ⟨p1, p2⟩, ⟨hjn, hm0⟩, ⟨p3, p4⟩, hlit', ⟨hf, hg⟩, leL_refl _, ⟨i0, q1, e0⟩, leL_refl _, ⟨i1, q2, e1⟩, ⟨hkn, hm0⟩, ⟨p5, p6⟩, leL_refl _, ⟨i0, hc0, hN⟩, leL_refl _, ⟨i0, s1, e2⟩, leL_refl _, ⟨i1, s2, e3⟩, leL_refl _, ⟨i2, q3⟩, hlast⟩
end Go.Proofs.Ytfpnadmpmfcaaaa
