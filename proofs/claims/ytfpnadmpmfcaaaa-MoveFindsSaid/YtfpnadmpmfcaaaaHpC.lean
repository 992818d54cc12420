/- starts: where what is on a heap begins. -/
import Derived.Test.YtfpnadmpmfcaaaaRxU
import Derived.Test.YtfpnadmpmfcaaaaHpB
open Rx Go
namespace Go.Proofs.Ytfpnadmpmfcaaaa

/-- a record that was moved begins here, and it is whole -/
def movP (l : List Wd) (a : Int) : Prop :=
  a + 2 < l.length ∧ (at' l a).s.size = 0 ∧ ((at' l (a + 1)).k = 1 ∧ (at' l (a + 1)).n = 0 ∧ (at' l (a + 1)).s.size = 0) ∧ (at' l (a + 2)).k = 1 ∧ (at' l (a + 2)).s.size = 0 ∧ 0 ≤ (at' l (a + 2)).n ∧ (at' l (a + 2)).n ≤ 6
instance (l : List Wd) (a : Int) : Decidable (movP l a) := by unfold movP; infer_instance

/-- how far it is to what begins next -/
def stepS (l : List Wd) (a : Nat) : Option Nat :=
  if (at' l a).k = 10 then if movP l a then some (3 + (at' l (a + 2)).n).toNat else none
  else if spP l a then some (spSize l a).toNat else none

def startsF (l : List Wd) : Nat → Nat → Option (List Nat)
  | 0, _ => some []
  | f + 1, a => if a < l.length then match stepS l a with
      | none => none
      | some d => (startsF l f (a + d)).map (a :: ·)
    else some []
def startsS (l : List Wd) : Option (List Nat) := startsF l (l.length + 1) 0

def stM (acc : List Nat) : List (Int × Bool) := acc.map fun (a : Nat) => ((a : Int), true)
def mapT (acc : List Nat) : Ob := .mp (.int .i64) .bool (stM acc)
def nilM : SV := .dt (.cell (.map none))

def startsO (l : List Wd) : T Out := .need (fitsW l) (.ite (startsS l).isSome (.ret (.tup [.nm 0, .kb true], [some (mapT ((startsS l).getD []))])) (.ret (.tup [nilM, .kb false], [])))

/-- the loop, at a, acc behind it -/
def stArgs (l : List Wd) (x : Nat × List Nat) : List SV := [wD l, nilM, vB false, .nm 0, vI .i64 x.1]
def stObs (x : Nat × List Nat) : List (Option Ob) := [some (mapT x.2)]
def stOut (l : List Wd) (x : Nat × List Nat) : T OutC :=
  .need (fitsW l ∧ ∀ b ∈ x.2, b < x.1) (.ite (startsF l (l.length + 1 - x.1) x.1).isSome
    (.ret (.exit 0, [.nm 0], [some (mapT (x.2 ++ (startsF l (l.length + 1 - x.1) x.1).getD []))]))
    (.ret (.ret, [nilM, vB false], [])))

def spanF : FC := ⟨24, false, false, fun al ol => match al, ol with
  | [s, a], [] => match rdL s, rdI a with
    | some l, some a => some ([wD l, vI .i64 a], [], spanO l a)
    | _, _ => none
  | _, _ => none⟩

def stLF : LF := ⟨3, ⟨[0, 2, 3, 4, 5], [4], [2, 3]⟩, fun svs _ => match svs with
  | s :: _ => match rdL s with
    | some l => some (stArgs l (0, []), stObs (0, []), stOut l (0, []))
    | none => none
  | _ => none⟩
def stKs : List (Nat × Nat × FC) := [(9, 2, spanF)]
noncomputable def stE : Env := fnE Try.prog 102 0 stKs [stLF]
noncomputable def stLoop : Code := (loopIn 3 (bodyOf Try.f26)).getD .skip

def stLoopQ (l : List Wd) (a : Nat) (acc : List Nat) (Rn : List SV → List (Option Ob) → Prop) (Re : Ex → List SV → List (Option Ob) → Prop) : Prop :=
(((Decidable.decide ((↑a : Int) < (↑l.length : Int)) = Bool.true) →
 ((((0 : Int) ≤ (↑a : Int)) ∧
   ((↑a : Int) < (↑l.length : Int))) ∧
  (((((l.getD (↑a : Int).toNat Inhabited.default).k == (10 : Int)) = Bool.true) →
    (((Rx.lo Go.IntKind.i64 ≤ (↑a : Int) + (2 : Int)) ∧
      ((↑a : Int) + (2 : Int) ≤ Rx.hi Go.IntKind.i64)) ∧
     (((Decidable.decide ((↑a : Int) + (2 : Int) ≥ (↑l.length : Int)) = Bool.true) →
       Re (Rx.Ex.ret) ([SV.dt (Dt.cell (Go.Value.map Option.none)), SV.dt (Dt.cell (Go.Value.bool Bool.false))]) ([])) ∧
      ((Decidable.decide ((↑a : Int) + (2 : Int) ≥ (↑l.length : Int)) = Bool.false) →
       ((((0 : Int) ≤ (↑a : Int)) ∧
         ((↑a : Int) < (↑l.length : Int))) ∧
        ((((!(l.getD (↑a : Int).toNat Inhabited.default).s.data.toList == []) = Bool.true) →
          Re (Rx.Ex.ret) ([SV.dt (Dt.cell (Go.Value.map Option.none)), SV.dt (Dt.cell (Go.Value.bool Bool.false))]) ([])) ∧
         (((!(l.getD (↑a : Int).toNat Inhabited.default).s.data.toList == []) = Bool.false) →
          (((Rx.lo Go.IntKind.i64 ≤ (↑a : Int) + (1 : Int)) ∧
            ((↑a : Int) + (1 : Int) ≤ Rx.hi Go.IntKind.i64)) ∧
           ((((0 : Int) ≤ (↑a : Int) + (1 : Int)) ∧
             ((↑a : Int) + (1 : Int) < (↑l.length : Int))) ∧
            ((((!((l.getD ((↑a : Int) + (1 : Int)).toNat Inhabited.default).k == (1 : Int) && ((l.getD ((↑a : Int) + (1 : Int)).toNat Inhabited.default).n == (0 : Int) && ((l.getD ((↑a : Int) + (1 : Int)).toNat Inhabited.default).s == ByteArray.mk #[] && Bool.true)))) = Bool.true) →
              Re (Rx.Ex.ret) ([SV.dt (Dt.cell (Go.Value.map Option.none)), SV.dt (Dt.cell (Go.Value.bool Bool.false))]) ([])) ∧
             (((!((l.getD ((↑a : Int) + (1 : Int)).toNat Inhabited.default).k == (1 : Int) && ((l.getD ((↑a : Int) + (1 : Int)).toNat Inhabited.default).n == (0 : Int) && ((l.getD ((↑a : Int) + (1 : Int)).toNat Inhabited.default).s == ByteArray.mk #[] && Bool.true)))) = Bool.false) →
              (((Rx.lo Go.IntKind.i64 ≤ (↑a : Int) + (2 : Int)) ∧
                ((↑a : Int) + (2 : Int) ≤ Rx.hi Go.IntKind.i64)) ∧
               ((((0 : Int) ≤ (↑a : Int) + (2 : Int)) ∧
                 ((↑a : Int) + (2 : Int) < (↑l.length : Int))) ∧
                (((((l.getD ((↑a : Int) + (2 : Int)).toNat Inhabited.default).k != (1 : Int)) = Bool.true) →
                  Re (Rx.Ex.ret) ([SV.dt (Dt.cell (Go.Value.map Option.none)), SV.dt (Dt.cell (Go.Value.bool Bool.false))]) ([])) ∧
                 ((((l.getD ((↑a : Int) + (2 : Int)).toNat Inhabited.default).k != (1 : Int)) = Bool.false) →
                  (((Rx.lo Go.IntKind.i64 ≤ (↑a : Int) + (2 : Int)) ∧
                    ((↑a : Int) + (2 : Int) ≤ Rx.hi Go.IntKind.i64)) ∧
                   ((((0 : Int) ≤ (↑a : Int) + (2 : Int)) ∧
                     ((↑a : Int) + (2 : Int) < (↑l.length : Int))) ∧
                    ((((!(l.getD ((↑a : Int) + (2 : Int)).toNat Inhabited.default).s.data.toList == []) = Bool.true) →
                      Re (Rx.Ex.ret) ([SV.dt (Dt.cell (Go.Value.map Option.none)), SV.dt (Dt.cell (Go.Value.bool Bool.false))]) ([])) ∧
                     (((!(l.getD ((↑a : Int) + (2 : Int)).toNat Inhabited.default).s.data.toList == []) = Bool.false) →
                      (((Rx.lo Go.IntKind.i64 ≤ (↑a : Int) + (2 : Int)) ∧
                        ((↑a : Int) + (2 : Int) ≤ Rx.hi Go.IntKind.i64)) ∧
                       ((((0 : Int) ≤ (↑a : Int) + (2 : Int)) ∧
                         ((↑a : Int) + (2 : Int) < (↑l.length : Int))) ∧
                        (((Decidable.decide ((l.getD ((↑a : Int) + (2 : Int)).toNat Inhabited.default).n < (0 : Int)) = Bool.true) →
                          Re (Rx.Ex.ret) ([SV.dt (Dt.cell (Go.Value.map Option.none)), SV.dt (Dt.cell (Go.Value.bool Bool.false))]) ([])) ∧
                         ((Decidable.decide ((l.getD ((↑a : Int) + (2 : Int)).toNat Inhabited.default).n < (0 : Int)) = Bool.false) →
                          (((Rx.lo Go.IntKind.i64 ≤ (↑a : Int) + (2 : Int)) ∧
                            ((↑a : Int) + (2 : Int) ≤ Rx.hi Go.IntKind.i64)) ∧
                           ((((0 : Int) ≤ (↑a : Int) + (2 : Int)) ∧
                             ((↑a : Int) + (2 : Int) < (↑l.length : Int))) ∧
                            (((Decidable.decide ((l.getD ((↑a : Int) + (2 : Int)).toNat Inhabited.default).n > (6 : Int)) = Bool.true) →
                              Re (Rx.Ex.ret) ([SV.dt (Dt.cell (Go.Value.map Option.none)), SV.dt (Dt.cell (Go.Value.bool Bool.false))]) ([])) ∧
                             ((Decidable.decide ((l.getD ((↑a : Int) + (2 : Int)).toNat Inhabited.default).n > (6 : Int)) = Bool.false) →
                              (((Rx.lo Go.IntKind.i64 ≤ (↑a : Int) + (2 : Int)) ∧
                                ((↑a : Int) + (2 : Int) ≤ Rx.hi Go.IntKind.i64)) ∧
                               ((((0 : Int) ≤ (↑a : Int) + (2 : Int)) ∧
                                 ((↑a : Int) + (2 : Int) < (↑l.length : Int))) ∧
                                (((Rx.lo Go.IntKind.i64 ≤ (3 : Int) + (l.getD ((↑a : Int) + (2 : Int)).toNat Inhabited.default).n) ∧
                                  ((3 : Int) + (l.getD ((↑a : Int) + (2 : Int)).toNat Inhabited.default).n ≤ Rx.hi Go.IntKind.i64)) ∧
                                 (((Rx.lo Go.IntKind.i64 ≤ (↑a : Int) + ((3 : Int) + (l.getD ((↑a : Int) + (2 : Int)).toNat Inhabited.default).n)) ∧
                                   ((↑a : Int) + ((3 : Int) + (l.getD ((↑a : Int) + (2 : Int)).toNat Inhabited.default).n) ≤ Rx.hi Go.IntKind.i64)) ∧
                                  Rn ([SV.dt (Dt.arr ((3 : Nat)) (l.length) (Go.Proofs.Ytfpnadmpmfcaaaa.wF l)), SV.dt (Dt.cell (Go.Value.map Option.none)), SV.dt (Dt.cell (Go.Value.bool Bool.false)), SV.nm 0, SV.dt (Dt.cell (Go.Value.int Go.IntKind.i64 ((↑a : Int) + ((3 : Int) + (l.getD ((↑a : Int) + (2 : Int)).toNat Inhabited.default).n))))]) ([some (Ob.mp (Rx.Ty.int Go.IntKind.i64) (Rx.Ty.bool) (Rx.mset (Rx.Ty.int Go.IntKind.i64) (Go.Proofs.Ytfpnadmpmfcaaaa.stM acc) (↑a : Int) Bool.true))])))))))))))))))))))))))))))))))) ∧
   ((((l.getD (↑a : Int).toNat Inhabited.default).k == (10 : Int)) = Bool.false) →
    ((Rx.leL ([SV.dt (Dt.arr ((3 : Nat)) (l.length) (Go.Proofs.Ytfpnadmpmfcaaaa.wF l)), SV.dt (Dt.cell (Go.Value.int Go.IntKind.i64 (↑a : Int)))]) ([SV.dt (Dt.arr ((3 : Nat)) ((Go.Proofs.Ytfpnadmpmfcaaaa.rdF l.length (Go.Proofs.Ytfpnadmpmfcaaaa.wF l)).length) (Go.Proofs.Ytfpnadmpmfcaaaa.wF (Go.Proofs.Ytfpnadmpmfcaaaa.rdF l.length (Go.Proofs.Ytfpnadmpmfcaaaa.wF l)))), SV.dt (Dt.cell (Go.Value.int Go.IntKind.i64 (↑a : Int)))])) ∧
     ((Rx.leObL ([]) ([])) ∧
      ((((0 : Int) ≤ (↑a : Int)) ∧
        (((↑a : Int) < (↑(Go.Proofs.Ytfpnadmpmfcaaaa.rdF l.length (Go.Proofs.Ytfpnadmpmfcaaaa.wF l)).length : Int)) ∧
         (Go.Proofs.Ytfpnadmpmfcaaaa.fitsW (Go.Proofs.Ytfpnadmpmfcaaaa.rdF l.length (Go.Proofs.Ytfpnadmpmfcaaaa.wF l))))) ∧
       ((((!Go.Proofs.Ytfpnadmpmfcaaaa.spOk (Go.Proofs.Ytfpnadmpmfcaaaa.rdF l.length (Go.Proofs.Ytfpnadmpmfcaaaa.wF l)) (↑a : Int)) = Bool.true) →
         Re (Rx.Ex.ret) ([SV.dt (Dt.cell (Go.Value.map Option.none)), SV.dt (Dt.cell (Go.Value.bool Bool.false))]) ([])) ∧
        (((!Go.Proofs.Ytfpnadmpmfcaaaa.spOk (Go.Proofs.Ytfpnadmpmfcaaaa.rdF l.length (Go.Proofs.Ytfpnadmpmfcaaaa.wF l)) (↑a : Int)) = Bool.false) →
         (((Rx.lo Go.IntKind.i64 ≤ (↑a : Int) + Go.Proofs.Ytfpnadmpmfcaaaa.spSize (Go.Proofs.Ytfpnadmpmfcaaaa.rdF l.length (Go.Proofs.Ytfpnadmpmfcaaaa.wF l)) (↑a : Int)) ∧
           ((↑a : Int) + Go.Proofs.Ytfpnadmpmfcaaaa.spSize (Go.Proofs.Ytfpnadmpmfcaaaa.rdF l.length (Go.Proofs.Ytfpnadmpmfcaaaa.wF l)) (↑a : Int) ≤ Rx.hi Go.IntKind.i64)) ∧
          Rn ([SV.dt (Dt.arr ((3 : Nat)) (l.length) (Go.Proofs.Ytfpnadmpmfcaaaa.wF l)), SV.dt (Dt.cell (Go.Value.map Option.none)), SV.dt (Dt.cell (Go.Value.bool Bool.false)), SV.nm 0, SV.dt (Dt.cell (Go.Value.int Go.IntKind.i64 ((↑a : Int) + Go.Proofs.Ytfpnadmpmfcaaaa.spSize (Go.Proofs.Ytfpnadmpmfcaaaa.rdF l.length (Go.Proofs.Ytfpnadmpmfcaaaa.wF l)) (↑a : Int))))]) ([some (Ob.mp (Rx.Ty.int Go.IntKind.i64) (Rx.Ty.bool) (Rx.mset (Rx.Ty.int Go.IntKind.i64) (Go.Proofs.Ytfpnadmpmfcaaaa.stM acc) (↑a : Int) Bool.true))]))))))))))) ∧
((Decidable.decide ((↑a : Int) < (↑l.length : Int)) = Bool.false) →
 Re (Rx.Ex.exit (0 : Nat)) ([SV.nm 0]) ([some (Ob.mp (Rx.Ty.int Go.IntKind.i64) (Rx.Ty.bool) (Go.Proofs.Ytfpnadmpmfcaaaa.stM acc))])))
def startsQ (l : List Wd) (R : SV → List (Option Ob) → Prop) : Prop :=
(((Rx.leS (SV.dt (Dt.arr ((3 : Nat)) (l.length) (Go.Proofs.Ytfpnadmpmfcaaaa.wF l))) (SV.dt (Dt.arr ((3 : Nat)) ((Go.Proofs.Ytfpnadmpmfcaaaa.rdF l.length (Go.Proofs.Ytfpnadmpmfcaaaa.wF l)).length) (Go.Proofs.Ytfpnadmpmfcaaaa.wF (Go.Proofs.Ytfpnadmpmfcaaaa.rdF l.length (Go.Proofs.Ytfpnadmpmfcaaaa.wF l)))))) ∧
 ((Rx.leS (SV.dt (Dt.cell (Go.Value.map Option.none))) (SV.dt (Dt.cell (Go.Value.map Option.none)))) ∧
  ((Rx.leS (SV.dt (Dt.cell (Go.Value.bool Bool.false))) (SV.dt (Dt.cell (Go.Value.bool Bool.false)))) ∧
   ((Rx.leS (SV.nm 0) (SV.nm 0)) ∧
    ((Rx.leS (SV.dt (Dt.cell (Go.Value.int Go.IntKind.i64 (0 : Int)))) (SV.dt (Dt.cell (Go.Value.int Go.IntKind.i64 (↑(0 : Nat) : Int))))) ∧
     True))))) ∧
((Rx.leOO ([some (Ob.mp (Rx.Ty.int Go.IntKind.i64) (Rx.Ty.bool) ([]))]) ([some (Ob.mp (Rx.Ty.int Go.IntKind.i64) (Rx.Ty.bool) (Go.Proofs.Ytfpnadmpmfcaaaa.stM []))])) ∧
 (((Go.Proofs.Ytfpnadmpmfcaaaa.fitsW (Go.Proofs.Ytfpnadmpmfcaaaa.rdF l.length (Go.Proofs.Ytfpnadmpmfcaaaa.wF l))) ∧
   (∀ (b : Nat), ((b ∈ []) →
     (b < (0 : Nat))))) ∧
  ((((Go.Proofs.Ytfpnadmpmfcaaaa.startsF (Go.Proofs.Ytfpnadmpmfcaaaa.rdF l.length (Go.Proofs.Ytfpnadmpmfcaaaa.wF l)) ((Go.Proofs.Ytfpnadmpmfcaaaa.rdF l.length (Go.Proofs.Ytfpnadmpmfcaaaa.wF l)).length + (1 : Nat) - (0 : Nat)) (0 : Nat)).isSome = Bool.true) →
    (True ∧
     R (SV.tup [SV.nm 0, SV.dt (Dt.cell (Go.Value.bool Bool.true))]) ([some (Ob.mp (Rx.Ty.int Go.IntKind.i64) (Rx.Ty.bool) (Go.Proofs.Ytfpnadmpmfcaaaa.stM ([] ++ (Go.Proofs.Ytfpnadmpmfcaaaa.startsF (Go.Proofs.Ytfpnadmpmfcaaaa.rdF l.length (Go.Proofs.Ytfpnadmpmfcaaaa.wF l)) ((Go.Proofs.Ytfpnadmpmfcaaaa.rdF l.length (Go.Proofs.Ytfpnadmpmfcaaaa.wF l)).length + (1 : Nat) - (0 : Nat)) (0 : Nat)).getD [])))]))) ∧
   (((Go.Proofs.Ytfpnadmpmfcaaaa.startsF (Go.Proofs.Ytfpnadmpmfcaaaa.rdF l.length (Go.Proofs.Ytfpnadmpmfcaaaa.wF l)) ((Go.Proofs.Ytfpnadmpmfcaaaa.rdF l.length (Go.Proofs.Ytfpnadmpmfcaaaa.wF l)).length + (1 : Nat) - (0 : Nat)) (0 : Nat)).isSome = Bool.false) →
    (True ∧
     R (SV.tup [SV.dt (Dt.cell (Go.Value.map Option.none)), SV.dt (Dt.cell (Go.Value.bool Bool.false))]) ([])))))))
theorem spanF_ok : spanF.Ok Try.prog := by
  intro al ol args obs out h
  unfold spanF at h
  simp only at h
  split at h
  · split at h
    · simp only [Option.some.injEq, Prod.mk.injEq] at h
      obtain ⟨rfl, rfl, rfl⟩ := h
      exact span_ctr _ _
    · cases h
  · cases h

theorem stKs_ok : ∀ x ∈ stKs, x.2.2.Ok Try.prog := all_cons spanF_ok all_nil

theorem stM_mset {a : Nat} : ∀ {acc : List Nat}, (∀ b ∈ acc, b < a) → mset (.int .i64) (stM acc) (a : Int) true = stM (acc ++ [a])
  | [], _ => rfl
  | b :: acc, h => by
    have hb := h b (by simp)
    have hne : (Ty.int .i64).eqb (a : Int) (b : Int) = false := by
      cases hq : (Ty.int .i64).eqb (a : Int) (b : Int) with
      | false => rfl
      | true =>
        have : (a : Int) = (b : Int) := (eqb_iff (.int .i64) _ _).1 hq
        omega
    have ih := stM_mset (acc := acc) fun c hc => h c (by simp [hc])
    simp only [stM, List.map_cons, List.cons_append] at ih ⊢
    simp only [mset]
    rw [hne, cond_false, ih]

theorem startsF_fuel (l : List Wd) : ∀ (f f' a : Nat), l.length < f + a → l.length < f' + a → (∀ b d, stepS l b = some d → 1 ≤ d) → startsF l f a = startsF l f' a
  | 0, 0, _, _, _, _ => rfl
  | 0, f' + 1, a, h, _, _ => by
    have : ¬ a < l.length := by omega
    simp [startsF, this]
  | f + 1, 0, a, _, h, _ => by
    have : ¬ a < l.length := by omega
    simp [startsF, this]
  | f + 1, f' + 1, a, h, h', hd => by
    simp only [startsF]
    split
    · split
      · rfl
      · rename_i d hs
        have := hd _ _ hs
        rw [startsF_fuel l f f' (a + d) (by omega) (by omega) hd]
    · rfl

theorem spSize_bounds (l : List Wd) (a : Int) : spP l a → 2 ≤ spSize l a ∧ spSize l a ≤ 43 ∧ a + spSize l a ≤ l.length ∧ 1 ≤ spFrom l a ∧ spFrom l a ≤ 3 ∧ spFrom l a ≤ spSize l a := by
  intro h
  obtain ⟨b1, b2, b3⟩ := cnt_bounds l (a + 1)
  obtain ⟨b4, b5, b6⟩ := cnt_bounds l (a + 2)
  unfold spSize spFrom
  rw [if_pos h, if_pos h]
  unfold spP at h
  repeat' split
  all_goals omega

theorem stepS_pos {l : List Wd} {a d : Nat} (h : stepS l a = some d) : 2 ≤ d ∧ d ≤ 43 := by
  unfold stepS at h
  split at h
  · split at h
    · rename_i hm
      injection h with h
      unfold movP at hm
      omega
    · cases h
  · split at h
    · rename_i hm
      injection h with h
      have := spSize_bounds l a hm
      omega
    · cases h

theorem startsF_step {l : List Wd} {a : Nat} (h : a < l.length) : startsF l (l.length + 1 - a) a = match stepS l a with
    | none => none
    | some d => (startsF l (l.length + 1 - (a + d)) (a + d)).map (a :: ·) := by
  have e : l.length + 1 - a = (l.length - a) + 1 := by omega
  rw [e]
  simp only [startsF, h, if_true]
  split
  · rfl
  · rename_i d hs
    have := stepS_pos hs
    rw [startsF_fuel l (l.length - a) (l.length + 1 - (a + d)) (a + d) (by omega) (by omega) fun b d hb => by have := stepS_pos hb; omega]

theorem stLoop_ok (l : List Wd) (x : Nat × List Nat) : Sound stE (.loop stLoop) (mkSt (stLF.live.h.zip (stArgs l x)) (stObs x)) ((stOut l x).map (OutC.st stLF.live)) := by
  refine loop_fn mixed stKs_ok (fun c hc => by rw [show loopsOf stLoop = [] from by kernel_rfl] at hc; cases hc) stLF.live (stArgs l) stObs (stOut l) (fun x => l.length - x.1) (Q := fun x Rn Re => stLoopQ l x.1 x.2 Rn Re) ?_ (fun ⟨a, acc⟩ Rn Re => by kernel_rfl) x
  rintro ⟨a, acc⟩ post hp
  obtain ⟨⟨hfit, hlt⟩, hp1, hp2⟩ := hp
  have hfit' : (l.length : Int) ≤ 4398046511104 := hfit
  have hlt : ∀ b ∈ acc, b < a := hlt
  have hp1 : (startsF l (l.length + 1 - a) a).isSome = true → post (.exit 0, [.nm 0], [some (mapT (acc ++ (startsF l (l.length + 1 - a) a).getD []))]) := hp1
  have hp2 : (startsF l (l.length + 1 - a) a).isSome = false → post (.ret, [nilM, vB false], []) := hp2
  have leafF : a < l.length → stepS l a = none → Outs post .ret [nilM, vB false] [] := by
    intro h1 h2
    refine Outs.mk (hp2 ?_) (leL_refl _) (leOO_refl _)
    rw [startsF_step h1, h2]; rfl
  have leafN : a < l.length → ∀ (d : Nat) (n : Int), stepS l a = some d → n = a + d → ∀ (m : List (Int × Bool)), m = mset (.int .i64) (stM acc) (a : Int) true → ∃ x' : Nat × List Nat, l.length - x'.1 < l.length - a ∧ leL [wD l, nilM, vB false, .nm 0, vI .i64 n] (stArgs l x') ∧ leOO [some (.mp (.int .i64) .bool m)] (stObs x') ∧ (stOut l x').holds post := by
    rintro h1 d n h2 rfl m rfl
    have := stepS_pos h2
    have hst := startsF_step h1
    rw [h2] at hst
    simp only at hst
    refine ⟨(a + d, acc ++ [a]), ?_, ?_, ?_, ⟨hfit, fun b hb => ?_⟩, fun hs => ?_, fun hs => ?_⟩
    · simp only; omega
    · simp only [stArgs, leL_cons, leS_self, leL_nil, leS_int, and_true, true_and]
      omega
    · simp only [stObs, mapT, leOO_cons, leOO_nil, and_true]
      rw [stM_mset hlt]; exact leOb_refl _
    · rcases List.mem_append.1 hb with hb | hb
      · have := hlt b hb; simp only; omega
      · simp at hb; subst hb; simp only; omega
    · have h3 := hp1 (by rw [hst, Option.isSome_map]; exact hs)
      obtain ⟨r, hr⟩ := Option.isSome_iff_exists.1 hs
      have hr : startsF l (l.length + 1 - (a + d)) (a + d) = some r := hr
      rw [hst, hr] at h3
      show post (_, _, [some (mapT (acc ++ [a] ++ (startsF l (l.length + 1 - (a + d)) (a + d)).getD []))])
      rw [hr]
      simpa using h3
    · exact hp2 (by rw [hst, Option.isSome_map]; exact hs)
  have leafE : ¬ a < l.length → Outs post (.exit 0) [.nm 0] [some (mapT acc)] := by
    intro h
    have hs : startsF l (l.length + 1 - a) a = some [] := by
      cases hf : l.length + 1 - a with
      | zero => rfl
      | succ f => simp [startsF, h]
    have := hp1 (by rw [hs]; rfl)
    rw [hs] at this
    refine Outs.mk this ?_ ?_
    · simp only [leL_cons, leS_junk, leS_self, leL_nil, and_self, true_and]
    · simp [leOO_self]
  have e : ∀ i : Int, l.getD i.toNat default = at' l i := fun _ => rfl
  have leafF1 : a < l.length → (at' l a).k = 10 → ¬ movP l a → Outs post .ret [nilM, vB false] [] := fun h h1 h2 =>
    leafF h (by simp [stepS, h1, h2])
  have leafF2 : a < l.length → (at' l a).k ≠ 10 → spOk l a = false → Outs post .ret [nilM, vB false] [] := fun h h1 h2 =>
    leafF h (by simp only [spOk, decide_eq_false_iff_not] at h2; simp [stepS, h1, h2])
  have leafN1 := fun (n : Int) (h : a < l.length) (h1 : (at' l a).k = 10) (h2 : movP l a) (h3 : n = a + (3 + (at' l (a + 2)).n)) =>
    leafN h (3 + (at' l (a + 2)).n).toNat n (by simp [stepS, h1, h2]) (by unfold movP at h2; omega) _ rfl
  have leafN2 := fun (n : Int) (h : a < l.length) (h1 : (at' l a).k ≠ 10) (h2 : spOk l a = true) (h3 : n = a + spSize l a) =>
    leafN h (spSize l a).toNat n (by simp only [spOk, decide_eq_true_eq] at h2; simp [stepS, h1, h2]) (by simp only [spOk, decide_eq_true_eq] at h2; have := spSize_bounds l a h2; omega) _ rfl
  have hsz : spOk l a = true → 2 ≤ spSize l a ∧ spSize l a ≤ 43 := fun h => by simp only [spOk, decide_eq_true_eq] at h; have := spSize_bounds l a h; omega
  simp only
  unfold stLoopQ
  simp only [rdF_wF, leL_self, leObL_self, str_eq_nil, str_eq_nil', str_beq_nil, e, true_and, beq_iff_eq, beq_eq_false_iff_ne, bne_iff_ne, bne_eq_false_iff_eq, decide_eq_true_eq, decide_eq_false_iff_not, Bool.not_eq_true', Bool.not_eq_false', Bool.and_eq_true, Bool.and_eq_false_imp, Bool.and_true, ne_eq, lo, hi]
  unfold movP at leafF1 leafN1
  clear leafF leafN hp1 hp2 hlt
  repeat' (first | (refine And.intro ?_ ?_) | intro _)
  all_goals first
    | omega
    | exact hfit
    | exact leafF1 (by omega) (by omega) (by omega)
    | exact leafN1 _ (by omega) (by omega) (by omega) (by omega)
    | exact leafF2 (by omega) (by omega) (by assumption)
    | exact leafN2 _ (by omega) (by omega) (by assumption) rfl
    | exact leafE (by omega)
    | (have := hsz (by assumption); omega)

theorem stLF_ok : LFok stE stLF stLoop := by
  intro svs obl args obs out h
  unfold stLF at h
  simp only at h
  split at h
  · split at h
    · simp only [Option.some.injEq, Prod.mk.injEq] at h
      obtain ⟨rfl, rfl, rfl⟩ := h
      exact stLoop_ok _ _
    · cases h
  · cases h

theorem stLok : stE.Lok (loopsOf (bodyOf Try.f26)) := by
  rw [show loopsOf (bodyOf Try.f26) = [stLoop] from by kernel_rfl]
  exact fnE_Lok (all_cons (all_cons (fun _ => stLF_ok) all_nil) all_nil)

theorem starts_ctr (l : List Wd) : Ctr Try.prog 26 [wD l] [] (startsO l) := by
  refine ctr_fn mixed (N := 102) (fn := Try.f26) (c := bodyOf Try.f26) (ks := stKs) (ls := [stLF]) (by kernel_rfl) (by kernel_rfl) (by kernel_rfl) stKs_ok fin0 stLok (by kernel_rfl) (Q := startsQ l) (fun post hp => ?_) (fun R => by kernel_rfl)
  obtain ⟨hfit, hp1, hp2⟩ := hp
  have hp1 : (startsF l (l.length + 1) 0).isSome = true → post (.tup [.nm 0, .kb true], [some (mapT ((startsF l (l.length + 1) 0).getD []))]) := hp1
  have hp2 : (startsF l (l.length + 1) 0).isSome = false → post (.tup [nilM, .kb false], []) := hp2
  unfold startsQ
  simp only [rdF_wF, leL_self, leObL_self, leOO_self, leS_self, true_and, and_true, leS_kd, leS_int, stM, List.map_nil, List.nil_append, Nat.sub_zero]
  refine ⟨rfl, ⟨hfit, fun b hb => by cases hb⟩, fun h => ?_, fun h => ?_⟩
  · exact gives2 (hp1 h) (by simp only [leS_tup, leL_cons, leL_nil, leS_dk, leS_self, and_self]) (leOO_refl _)
  · exact gives2 (hp2 h) (by simp only [leS_tup, leL_cons, leL_nil, leS_dk, leS_self, nilM, and_self]) (leOO_refl _)
end Go.Proofs.Ytfpnadmpmfcaaaa
