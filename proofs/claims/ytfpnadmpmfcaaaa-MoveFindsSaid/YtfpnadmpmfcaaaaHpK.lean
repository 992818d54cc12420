/- move: what is copied, once. -/
import Derived.Test.YtfpnadmpmfcaaaaHpJ
open Rx Go
namespace Go.Proofs.Ytfpnadmpmfcaaaa

/-- what was copied, and where it is -/
structure Mv where
  to : List Wd
  mp : List (Int × Int)
def mvGet (mp : List (Int × Int)) (n : Int) : Option Int := mget (.int .i64) mp n
def isNew (l : List Wd) (m : Mv) (w : Wd) : Bool := (findS l w).k == 5 && (mvGet m.mp (findS l w).n).isNone
def mvW (l : List Wd) (m : Mv) (w : Wd) : Wd := if (findS l w).k = 5 then ⟨(findS l w).k, (mvGet m.mp (findS l w).n).getD m.to.length, (findS l w).s⟩ else findS l w
def cutW (l : List Wd) (n sz : Int) : List Wd := (l.drop n.toNat).take sz.toNat
def mvNew (l : List Wd) (m : Mv) (w : Wd) : Mv := ⟨m.to ++ cutW l (findS l w).n (spSize l (findS l w).n), mset (.int .i64) m.mp (findS l w).n m.to.length⟩
def mvM (l : List Wd) (m : Mv) (w : Wd) : Mv := if isNew l m w = true then mvNew l m w else m
def mvPre (l : List Wd) (m : Mv) (w : Wd) : Prop := chainP l (l.length + 1) w ∧ fitsW l ∧ ((findS l w).k = 5 → 0 ≤ (findS l w).n ∧ spP l (findS l w).n) ∧ m.to.length ≤ 100000
def mpO (mp : List (Int × Int)) : Ob := .mp (.int .i64) (.int .i64) mp
def mvObs (l : List Wd) (m : Mv) : List Ob := [.cells 67 [wD l, .nm 1, .nm 2], wR m.to, mpO m.mp]
def mvO (l : List Wd) (m : Mv) (w : Wd) : T Out := .need (mvPre l m w) (.ite (isNew l m w)
  (.ret (wS (mvW l m w), [some (.cells 67 [wD l, .nm 3, .nm 2]), none, some (mpO (mvNew l m w).mp), some (wR (mvNew l m w).to)]))
  (.ret (wS (mvW l m w), [some (.cells 67 [wD l, .nm 1, .nm 2]), some (wR m.to), some (mpO m.mp)])))
/-- a heap's words are read out of what is built -/
def findF2 : FC := ⟨25, false, false, fun al ol => match al, ol with
  | [.agg [s, _], w], [] => match rdL s, rdW w with
    | some l, some w => some ([hS l 0, wS w], [], findO l w)
    | _, _ => none
  | _, _ => none⟩
def mvKs : List (Nat × Nat × FC) := [(1, 6, findF2), (6, 6, spanF)]
noncomputable def mvE : Env := fnE Try.prog 78 3 mvKs []

def mvQ (l to : List Wd) (mp : List (Int × Int)) (w : Wd) (R : SV → List (Option Ob) → Prop) : Prop :=
((Rx.leL ([SV.agg [SV.dt (Dt.arr ((3 : Nat)) (l.length) (Go.Proofs.Ytfpnadmpmfcaaaa.wF l)), SV.ki Go.IntKind.i64 ((0 : Int))], SV.agg [SV.dt (Dt.cell (Go.Value.int Go.IntKind.i64 w.k)), SV.dt (Dt.cell (Go.Value.int Go.IntKind.i64 w.n)), SV.dt (Dt.cell (Go.Value.string w.s))]]) ([SV.agg [SV.dt (Dt.arr ((3 : Nat)) ((Go.Proofs.Ytfpnadmpmfcaaaa.rdF l.length (Go.Proofs.Ytfpnadmpmfcaaaa.wF l)).length) (Go.Proofs.Ytfpnadmpmfcaaaa.wF (Go.Proofs.Ytfpnadmpmfcaaaa.rdF l.length (Go.Proofs.Ytfpnadmpmfcaaaa.wF l)))), SV.dt (Dt.cell (Go.Value.int Go.IntKind.i64 (0 : Int)))], SV.agg [SV.dt (Dt.cell (Go.Value.int Go.IntKind.i64 w.k)), SV.dt (Dt.cell (Go.Value.int Go.IntKind.i64 w.n)), SV.dt (Dt.cell (Go.Value.string w.s))]])) ∧
((Rx.leObL ([]) ([])) ∧
 ((Go.Proofs.Ytfpnadmpmfcaaaa.chainP (Go.Proofs.Ytfpnadmpmfcaaaa.rdF l.length (Go.Proofs.Ytfpnadmpmfcaaaa.wF l)) ((Go.Proofs.Ytfpnadmpmfcaaaa.rdF l.length (Go.Proofs.Ytfpnadmpmfcaaaa.wF l)).length + (1 : Nat)) (Go.Proofs.Ytfpnadmpmfcaaaa.Wd.mk w.k w.n w.s)) ∧
  (((((Go.Proofs.Ytfpnadmpmfcaaaa.findS (Go.Proofs.Ytfpnadmpmfcaaaa.rdF l.length (Go.Proofs.Ytfpnadmpmfcaaaa.wF l)) (Go.Proofs.Ytfpnadmpmfcaaaa.Wd.mk w.k w.n w.s)).k != (5 : Int)) = Bool.true) →
    (True ∧
     R (SV.agg [SV.dt (Dt.cell (Go.Value.int Go.IntKind.i64 (Go.Proofs.Ytfpnadmpmfcaaaa.findS (Go.Proofs.Ytfpnadmpmfcaaaa.rdF l.length (Go.Proofs.Ytfpnadmpmfcaaaa.wF l)) (Go.Proofs.Ytfpnadmpmfcaaaa.Wd.mk w.k w.n w.s)).k)), SV.dt (Dt.cell (Go.Value.int Go.IntKind.i64 (Go.Proofs.Ytfpnadmpmfcaaaa.findS (Go.Proofs.Ytfpnadmpmfcaaaa.rdF l.length (Go.Proofs.Ytfpnadmpmfcaaaa.wF l)) (Go.Proofs.Ytfpnadmpmfcaaaa.Wd.mk w.k w.n w.s)).n)), SV.dt (Dt.cell (Go.Value.string (Go.Proofs.Ytfpnadmpmfcaaaa.findS (Go.Proofs.Ytfpnadmpmfcaaaa.rdF l.length (Go.Proofs.Ytfpnadmpmfcaaaa.wF l)) (Go.Proofs.Ytfpnadmpmfcaaaa.Wd.mk w.k w.n w.s)).s))]) ([some (Ob.cells 67 [SV.dt (Dt.arr ((3 : Nat)) (l.length) (Go.Proofs.Ytfpnadmpmfcaaaa.wF l)), SV.nm 1, SV.nm 2]), some (Ob.row 30 3 (to.length) (Go.Proofs.Ytfpnadmpmfcaaaa.wF to)), some (Ob.mp (Rx.Ty.int Go.IntKind.i64) (Rx.Ty.int Go.IntKind.i64) (mp))]))) ∧
   ((((Go.Proofs.Ytfpnadmpmfcaaaa.findS (Go.Proofs.Ytfpnadmpmfcaaaa.rdF l.length (Go.Proofs.Ytfpnadmpmfcaaaa.wF l)) (Go.Proofs.Ytfpnadmpmfcaaaa.Wd.mk w.k w.n w.s)).k != (5 : Int)) = Bool.false) →
    ((((!(Rx.mget (Rx.Ty.int Go.IntKind.i64) mp (Go.Proofs.Ytfpnadmpmfcaaaa.findS (Go.Proofs.Ytfpnadmpmfcaaaa.rdF l.length (Go.Proofs.Ytfpnadmpmfcaaaa.wF l)) (Go.Proofs.Ytfpnadmpmfcaaaa.Wd.mk w.k w.n w.s)).n).isSome) = Bool.true) →
      ((Rx.leL ([SV.dt (Dt.arr ((3 : Nat)) (l.length) (Go.Proofs.Ytfpnadmpmfcaaaa.wF l)), SV.dt (Dt.cell (Go.Value.int Go.IntKind.i64 (Go.Proofs.Ytfpnadmpmfcaaaa.findS (Go.Proofs.Ytfpnadmpmfcaaaa.rdF l.length (Go.Proofs.Ytfpnadmpmfcaaaa.wF l)) (Go.Proofs.Ytfpnadmpmfcaaaa.Wd.mk w.k w.n w.s)).n))]) ([SV.dt (Dt.arr ((3 : Nat)) ((Go.Proofs.Ytfpnadmpmfcaaaa.rdF l.length (Go.Proofs.Ytfpnadmpmfcaaaa.wF l)).length) (Go.Proofs.Ytfpnadmpmfcaaaa.wF (Go.Proofs.Ytfpnadmpmfcaaaa.rdF l.length (Go.Proofs.Ytfpnadmpmfcaaaa.wF l)))), SV.dt (Dt.cell (Go.Value.int Go.IntKind.i64 (Go.Proofs.Ytfpnadmpmfcaaaa.findS (Go.Proofs.Ytfpnadmpmfcaaaa.rdF l.length (Go.Proofs.Ytfpnadmpmfcaaaa.wF l)) (Go.Proofs.Ytfpnadmpmfcaaaa.Wd.mk w.k w.n w.s)).n))])) ∧
       ((Rx.leObL ([]) ([])) ∧
        ((((0 : Int) ≤ (Go.Proofs.Ytfpnadmpmfcaaaa.findS (Go.Proofs.Ytfpnadmpmfcaaaa.rdF l.length (Go.Proofs.Ytfpnadmpmfcaaaa.wF l)) (Go.Proofs.Ytfpnadmpmfcaaaa.Wd.mk w.k w.n w.s)).n) ∧
          (((Go.Proofs.Ytfpnadmpmfcaaaa.findS (Go.Proofs.Ytfpnadmpmfcaaaa.rdF l.length (Go.Proofs.Ytfpnadmpmfcaaaa.wF l)) (Go.Proofs.Ytfpnadmpmfcaaaa.Wd.mk w.k w.n w.s)).n < (↑(Go.Proofs.Ytfpnadmpmfcaaaa.rdF l.length (Go.Proofs.Ytfpnadmpmfcaaaa.wF l)).length : Int)) ∧
           (Go.Proofs.Ytfpnadmpmfcaaaa.fitsW (Go.Proofs.Ytfpnadmpmfcaaaa.rdF l.length (Go.Proofs.Ytfpnadmpmfcaaaa.wF l))))) ∧
         (((Rx.lo Go.IntKind.i64 ≤ (Go.Proofs.Ytfpnadmpmfcaaaa.findS (Go.Proofs.Ytfpnadmpmfcaaaa.rdF l.length (Go.Proofs.Ytfpnadmpmfcaaaa.wF l)) (Go.Proofs.Ytfpnadmpmfcaaaa.Wd.mk w.k w.n w.s)).n + Go.Proofs.Ytfpnadmpmfcaaaa.spSize (Go.Proofs.Ytfpnadmpmfcaaaa.rdF l.length (Go.Proofs.Ytfpnadmpmfcaaaa.wF l)) (Go.Proofs.Ytfpnadmpmfcaaaa.findS (Go.Proofs.Ytfpnadmpmfcaaaa.rdF l.length (Go.Proofs.Ytfpnadmpmfcaaaa.wF l)) (Go.Proofs.Ytfpnadmpmfcaaaa.Wd.mk w.k w.n w.s)).n) ∧
           ((Go.Proofs.Ytfpnadmpmfcaaaa.findS (Go.Proofs.Ytfpnadmpmfcaaaa.rdF l.length (Go.Proofs.Ytfpnadmpmfcaaaa.wF l)) (Go.Proofs.Ytfpnadmpmfcaaaa.Wd.mk w.k w.n w.s)).n + Go.Proofs.Ytfpnadmpmfcaaaa.spSize (Go.Proofs.Ytfpnadmpmfcaaaa.rdF l.length (Go.Proofs.Ytfpnadmpmfcaaaa.wF l)) (Go.Proofs.Ytfpnadmpmfcaaaa.findS (Go.Proofs.Ytfpnadmpmfcaaaa.rdF l.length (Go.Proofs.Ytfpnadmpmfcaaaa.wF l)) (Go.Proofs.Ytfpnadmpmfcaaaa.Wd.mk w.k w.n w.s)).n ≤ Rx.hi Go.IntKind.i64)) ∧
          ((((0 : Int) ≤ (Go.Proofs.Ytfpnadmpmfcaaaa.findS (Go.Proofs.Ytfpnadmpmfcaaaa.rdF l.length (Go.Proofs.Ytfpnadmpmfcaaaa.wF l)) (Go.Proofs.Ytfpnadmpmfcaaaa.Wd.mk w.k w.n w.s)).n) ∧
            (((Go.Proofs.Ytfpnadmpmfcaaaa.findS (Go.Proofs.Ytfpnadmpmfcaaaa.rdF l.length (Go.Proofs.Ytfpnadmpmfcaaaa.wF l)) (Go.Proofs.Ytfpnadmpmfcaaaa.Wd.mk w.k w.n w.s)).n ≤ (Go.Proofs.Ytfpnadmpmfcaaaa.findS (Go.Proofs.Ytfpnadmpmfcaaaa.rdF l.length (Go.Proofs.Ytfpnadmpmfcaaaa.wF l)) (Go.Proofs.Ytfpnadmpmfcaaaa.Wd.mk w.k w.n w.s)).n + Go.Proofs.Ytfpnadmpmfcaaaa.spSize (Go.Proofs.Ytfpnadmpmfcaaaa.rdF l.length (Go.Proofs.Ytfpnadmpmfcaaaa.wF l)) (Go.Proofs.Ytfpnadmpmfcaaaa.findS (Go.Proofs.Ytfpnadmpmfcaaaa.rdF l.length (Go.Proofs.Ytfpnadmpmfcaaaa.wF l)) (Go.Proofs.Ytfpnadmpmfcaaaa.Wd.mk w.k w.n w.s)).n) ∧
             ((Go.Proofs.Ytfpnadmpmfcaaaa.findS (Go.Proofs.Ytfpnadmpmfcaaaa.rdF l.length (Go.Proofs.Ytfpnadmpmfcaaaa.wF l)) (Go.Proofs.Ytfpnadmpmfcaaaa.Wd.mk w.k w.n w.s)).n + Go.Proofs.Ytfpnadmpmfcaaaa.spSize (Go.Proofs.Ytfpnadmpmfcaaaa.rdF l.length (Go.Proofs.Ytfpnadmpmfcaaaa.wF l)) (Go.Proofs.Ytfpnadmpmfcaaaa.findS (Go.Proofs.Ytfpnadmpmfcaaaa.rdF l.length (Go.Proofs.Ytfpnadmpmfcaaaa.wF l)) (Go.Proofs.Ytfpnadmpmfcaaaa.Wd.mk w.k w.n w.s)).n ≤ (↑l.length : Int)))) ∧
           (((to.length + (((Go.Proofs.Ytfpnadmpmfcaaaa.findS (Go.Proofs.Ytfpnadmpmfcaaaa.rdF l.length (Go.Proofs.Ytfpnadmpmfcaaaa.wF l)) (Go.Proofs.Ytfpnadmpmfcaaaa.Wd.mk w.k w.n w.s)).n + Go.Proofs.Ytfpnadmpmfcaaaa.spSize (Go.Proofs.Ytfpnadmpmfcaaaa.rdF l.length (Go.Proofs.Ytfpnadmpmfcaaaa.wF l)) (Go.Proofs.Ytfpnadmpmfcaaaa.findS (Go.Proofs.Ytfpnadmpmfcaaaa.rdF l.length (Go.Proofs.Ytfpnadmpmfcaaaa.wF l)) (Go.Proofs.Ytfpnadmpmfcaaaa.Wd.mk w.k w.n w.s)).n).toNat - (Go.Proofs.Ytfpnadmpmfcaaaa.findS (Go.Proofs.Ytfpnadmpmfcaaaa.rdF l.length (Go.Proofs.Ytfpnadmpmfcaaaa.wF l)) (Go.Proofs.Ytfpnadmpmfcaaaa.Wd.mk w.k w.n w.s)).n.toNat)) * (32 : Nat) ≤ (140737488355328 : Nat)) ∧
            (True ∧
             R (SV.agg [SV.dt (Dt.cell (Go.Value.int Go.IntKind.i64 (Go.Proofs.Ytfpnadmpmfcaaaa.findS (Go.Proofs.Ytfpnadmpmfcaaaa.rdF l.length (Go.Proofs.Ytfpnadmpmfcaaaa.wF l)) (Go.Proofs.Ytfpnadmpmfcaaaa.Wd.mk w.k w.n w.s)).k)), SV.dt (Dt.cell (Go.Value.int Go.IntKind.i64 (↑to.length : Int))), SV.dt (Dt.cell (Go.Value.string (Go.Proofs.Ytfpnadmpmfcaaaa.findS (Go.Proofs.Ytfpnadmpmfcaaaa.rdF l.length (Go.Proofs.Ytfpnadmpmfcaaaa.wF l)) (Go.Proofs.Ytfpnadmpmfcaaaa.Wd.mk w.k w.n w.s)).s))]) ([some (Ob.cells 67 [SV.dt (Dt.arr ((3 : Nat)) (l.length) (Go.Proofs.Ytfpnadmpmfcaaaa.wF l)), SV.nm 3, SV.nm 2]), none, some (Ob.mp (Rx.Ty.int Go.IntKind.i64) (Rx.Ty.int Go.IntKind.i64) (Rx.mset (Rx.Ty.int Go.IntKind.i64) mp (Go.Proofs.Ytfpnadmpmfcaaaa.findS (Go.Proofs.Ytfpnadmpmfcaaaa.rdF l.length (Go.Proofs.Ytfpnadmpmfcaaaa.wF l)) (Go.Proofs.Ytfpnadmpmfcaaaa.Wd.mk w.k w.n w.s)).n (↑to.length : Int))), some (Ob.row 30 3 (to.length + (((Go.Proofs.Ytfpnadmpmfcaaaa.findS (Go.Proofs.Ytfpnadmpmfcaaaa.rdF l.length (Go.Proofs.Ytfpnadmpmfcaaaa.wF l)) (Go.Proofs.Ytfpnadmpmfcaaaa.Wd.mk w.k w.n w.s)).n + Go.Proofs.Ytfpnadmpmfcaaaa.spSize (Go.Proofs.Ytfpnadmpmfcaaaa.rdF l.length (Go.Proofs.Ytfpnadmpmfcaaaa.wF l)) (Go.Proofs.Ytfpnadmpmfcaaaa.findS (Go.Proofs.Ytfpnadmpmfcaaaa.rdF l.length (Go.Proofs.Ytfpnadmpmfcaaaa.wF l)) (Go.Proofs.Ytfpnadmpmfcaaaa.Wd.mk w.k w.n w.s)).n).toNat - (Go.Proofs.Ytfpnadmpmfcaaaa.findS (Go.Proofs.Ytfpnadmpmfcaaaa.rdF l.length (Go.Proofs.Ytfpnadmpmfcaaaa.wF l)) (Go.Proofs.Ytfpnadmpmfcaaaa.Wd.mk w.k w.n w.s)).n.toNat)) (Rx.catF to.length (Go.Proofs.Ytfpnadmpmfcaaaa.wF to) fun i j => Go.Proofs.Ytfpnadmpmfcaaaa.wF l (i + (Go.Proofs.Ytfpnadmpmfcaaaa.findS (Go.Proofs.Ytfpnadmpmfcaaaa.rdF l.length (Go.Proofs.Ytfpnadmpmfcaaaa.wF l)) (Go.Proofs.Ytfpnadmpmfcaaaa.Wd.mk w.k w.n w.s)).n.toNat) j))]))))))))) ∧
     (((!(Rx.mget (Rx.Ty.int Go.IntKind.i64) mp (Go.Proofs.Ytfpnadmpmfcaaaa.findS (Go.Proofs.Ytfpnadmpmfcaaaa.rdF l.length (Go.Proofs.Ytfpnadmpmfcaaaa.wF l)) (Go.Proofs.Ytfpnadmpmfcaaaa.Wd.mk w.k w.n w.s)).n).isSome) = Bool.false) →
      (True ∧
       R (SV.agg [SV.dt (Dt.cell (Go.Value.int Go.IntKind.i64 (Go.Proofs.Ytfpnadmpmfcaaaa.findS (Go.Proofs.Ytfpnadmpmfcaaaa.rdF l.length (Go.Proofs.Ytfpnadmpmfcaaaa.wF l)) (Go.Proofs.Ytfpnadmpmfcaaaa.Wd.mk w.k w.n w.s)).k)), SV.dt (Dt.cell (Go.Value.int Go.IntKind.i64 (Rx.toI (k := Go.IntKind.i64) ((Rx.mget (Rx.Ty.int Go.IntKind.i64) mp (Go.Proofs.Ytfpnadmpmfcaaaa.findS (Go.Proofs.Ytfpnadmpmfcaaaa.rdF l.length (Go.Proofs.Ytfpnadmpmfcaaaa.wF l)) (Go.Proofs.Ytfpnadmpmfcaaaa.Wd.mk w.k w.n w.s)).n).getD (Rx.Ty.int Go.IntKind.i64).dflt)))), SV.dt (Dt.cell (Go.Value.string (Go.Proofs.Ytfpnadmpmfcaaaa.findS (Go.Proofs.Ytfpnadmpmfcaaaa.rdF l.length (Go.Proofs.Ytfpnadmpmfcaaaa.wF l)) (Go.Proofs.Ytfpnadmpmfcaaaa.Wd.mk w.k w.n w.s)).s))]) ([some (Ob.cells 67 [SV.dt (Dt.arr ((3 : Nat)) (l.length) (Go.Proofs.Ytfpnadmpmfcaaaa.wF l)), SV.nm 1, SV.nm 2]), some (Ob.row 30 3 (to.length) (Go.Proofs.Ytfpnadmpmfcaaaa.wF to)), some (Ob.mp (Rx.Ty.int Go.IntKind.i64) (Rx.Ty.int Go.IntKind.i64) (mp))])))))))))
theorem wD_self (l : List Wd) : leS (.dt (.arr 3 l.length (wF l))) (wD l) ↔ True := iff_true_intro (leS_refl _)
theorem nil_heap0 (l : List Wd) : leS (.agg [.dt (.arr 3 l.length (wF l)), .ki .i64 0]) (.agg [.dt (.arr 3 l.length (wF l)), vI .i64 0]) := by
  simp only [leS_agg, leL_cons, leS_self, leS_ki, leL_nil, and_true]
theorem findF2_ok : findF2.Ok Try.prog := by
  intro al ol args obs out h
  unfold findF2 at h
  simp only at h
  repeat' split at h
  all_goals first
    | (simp only [Option.some.injEq, Prod.mk.injEq] at h; obtain ⟨rfl, rfl, rfl⟩ := h; apply find_ctr)
    | cases h
theorem mvKs_ok : ∀ k ∈ mvKs, k.2.2.Ok Try.prog := all_cons findF2_ok (all_cons spanF_ok all_nil)
theorem cutW_length {l : List Wd} {n sz : Int} (h0 : 0 ≤ n) (h1 : 0 ≤ sz) (h : n + sz ≤ l.length) : (cutW l n sz).length = sz.toNat := by
  unfold cutW
  rw [List.length_take, List.length_drop]
  omega
theorem catF_cut (to l : List Wd) (n sz : Int) (h0 : 0 ≤ n) (h1 : 0 ≤ sz) (h : n + sz ≤ l.length) (k j : Nat) (hk : k < to.length + sz.toNat) :
    catF to.length (wF to) (fun i j => wF l (i + n.toNat) j) k j = wF (to ++ cutW l n sz) k j := by
  unfold catF
  cases hb : Nat.blt k to.length with
  | true =>
    rw [Nat.blt_eq] at hb
    simp [wF, List.getElem?_append, hb]
  | false =>
    have h' : ¬ k < to.length := fun h' => by rw [← Nat.blt_eq] at h'; rw [h'] at hb; cases hb
    show wF l (k - to.length + n.toNat) j = _
    unfold wF cutW
    congr 1
    simp only [List.getD_eq_getElem?_getD, List.getElem?_append, h', if_false, List.getElem?_take, List.getElem?_drop]
    rw [if_pos (by omega), Nat.add_comm]
theorem mv_ctr (l : List Wd) (m : Mv) (w : Wd) : Ctr Try.prog 28 [.ptr 0 0, wS w] (mvObs l m) (mvO l m w) := by
  obtain ⟨to, mp⟩ := m
  refine ctr_fn mixed (N := 78) (fn := Try.f28) (c := bodyOf Try.f28) (ks := mvKs) (ls := []) (by kernel_rfl) (by kernel_rfl) (by kernel_rfl) mvKs_ok fin0 (fun c hc => by rw [show loopsOf (bodyOf Try.f28) = [] from by kernel_rfl] at hc; cases hc) (by kernel_rfl) (Q := mvQ l to mp w) (fun post hp => ?_) (fun R => by kernel_rfl)
  obtain ⟨⟨hc, hfit, hsp, hto⟩, hp1, hp2⟩ := hp
  have hp1 : isNew l ⟨to, mp⟩ w = true → post (wS (mvW l ⟨to, mp⟩ w), [some (.cells 67 [wD l, .nm 3, .nm 2]), none, some (mpO (mvNew l ⟨to, mp⟩ w).mp), some (wR (mvNew l ⟨to, mp⟩ w).to)]) := hp1
  have hp2 : isNew l ⟨to, mp⟩ w = false → post (wS (mvW l ⟨to, mp⟩ w), [some (.cells 67 [wD l, .nm 1, .nm 2]), some (wR to), some (mpO mp)]) := hp2
  have hfit' : (l.length : Int) ≤ 4398046511104 := hfit
  have hto : to.length ≤ 100000 := hto
  unfold isNew mvW mvNew at hp1
  unfold isNew mvW at hp2
  unfold mvQ
  simp only [rdF_wF, wd_eta, leL_self, leObL_self, leS_self, true_and]
  generalize findS l w = f at *
  simp only [bne_iff_ne, bne_eq_false_iff_eq, Bool.not_eq_true', Bool.not_eq_false', lo, hi]
  refine ⟨?_, hc, fun h5 => ?_, fun h5 => ⟨fun hn => ?_, fun hn => ?_⟩⟩
  · rw [leL_cons, leL_cons]
    exact ⟨nil_heap0 l, leS_refl _, leL_nil.2 trivial⟩
  · have hp := hp2 (by simp [h5])
    rw [if_neg h5] at hp
    exact gives1 hp (leS_refl _)
  · obtain ⟨n0, hs⟩ := hsp h5
    obtain ⟨b1, b2, b3, b4, b5, b6⟩ := spSize_bounds l f.n hs
    have hn' : mvGet mp f.n = none := by
      show mget (.int .i64) mp f.n = none
      cases hq : mget (.int .i64) mp f.n with
      | none => rfl
      | some x => rw [hq] at hn; cases hn
    have hp := hp1 (by simp [h5, hn'])
    rw [if_pos h5] at hp
    simp only [hn', Option.getD_none] at hp
    refine ⟨⟨n0, by omega, hfit⟩, ⟨by omega, by omega⟩, ⟨n0, by omega, by omega⟩, by omega, gives2 hp (leS_refl _) ?_⟩
    simp only [leOO_cons, leOb_cells, leL_cons, wD_self, leS_self, leL_nil, leOO_none, leOO_nil, and_true, true_and, mpO, leOb_self, wR, leOb_row]
    have e1 : (f.n + spSize l f.n).toNat - f.n.toNat = (spSize l f.n).toNat := by omega
    rw [e1]
    refine ⟨?_, fun k hk j hj => ?_⟩
    · rw [List.length_append, cutW_length n0 (by omega) b3]
    · rw [catF_cut to l f.n (spSize l f.n) n0 (by omega) b3 k j hk]
      exact leDt_refl _
  · obtain ⟨x, hx⟩ := Option.isSome_iff_exists.1 hn
    have hx' : mvGet mp f.n = some x := hx
    have hp := hp2 (by simp [hx'])
    rw [if_pos h5] at hp
    simp only [hx', Option.getD_some] at hp
    refine gives1 hp ?_
    rw [hx]
    exact leS_refl _
def mvF : FC := ⟨28, true, false, fun al ol => match al, ol with
  | [_, w], [.cells _ [s, _, _], .row _ _ n f, .mp (.int .i64) (.int .i64) mp] => match rdL s, rdW w with
    | some l, some w => some ([.ptr 0 0, wS w], mvObs l ⟨rdF n f, mp⟩, mvO l ⟨rdF n f, mp⟩ w)
    | _, _ => none
  | _, _ => none⟩
theorem mvF_ok : mvF.Ok Try.prog := by
  intro al ol args obs out h
  unfold mvF at h
  simp only at h
  repeat' split at h
  all_goals first
    | (simp only [Option.some.injEq, Prod.mk.injEq] at h; obtain ⟨rfl, rfl, rfl⟩ := h; apply mv_ctr)
    | cases h
end Go.Proofs.Ytfpnadmpmfcaaaa
