/- HeapFull: a heap takes as many as it has room for. -/
import Derived.Test.YtfpnadmpmfcaaaaHpF
import Derived.Test.YtfpnadmpmfcaaaaHpT
open Rx Go
namespace Go.Proofs.Ytfpnadmpmfcaaaa

def pickedF : FC := ⟨10, false, false, fun al ol => match al, ol with
  | [n, m], [] => match rdI n, rdI m with
    | some n, some m => some ([vI .i64 n, vI .i64 m], [], pickedO n m)
    | _, _ => none
  | _, _ => none⟩
def putF : FC := ⟨11, false, false, fun al ol => match al, ol with
  | [h, s], [] => match rdHp h, rdL s with
    | some (l, lim), some m => some ([hS l lim, wD m], [], putO l lim m)
    | _, _ => none
  | _, _ => none⟩
theorem pickedF_ok : pickedF.Ok Try.prog := by
  intro al ol args obs out h
  unfold pickedF at h
  simp only at h
  split at h
  · split at h
    · simp only [Option.some.injEq, Prod.mk.injEq] at h
      obtain ⟨rfl, rfl, rfl⟩ := h
      exact picked_ctr _ _
    · cases h
  · cases h
theorem putF_ok : putF.Ok Try.prog := by
  intro al ol args obs out h
  unfold putF at h
  simp only at h
  split at h
  · split at h
    · simp only [Option.some.injEq, Prod.mk.injEq] at h
      obtain ⟨rfl, rfl, rfl⟩ := h
      exact put_ctr _ _ _
    · cases h
  · cases h

def w6 : Wd := ⟨6, 0, ⟨#[]⟩⟩
def w3 : Wd := ⟨3, 0, ⟨#[]⟩⟩
def m3 : List Wd := [w6, w3, w3]
def blk (c : Nat) : List Wd := (List.replicate c m3).flatten

def hfKs : List (Nat × Nat × FC) := [(1, 1, pickedF), (3, 5, putF), (5, 3, putF)]
def hfObs (lim : Int) (c : Nat) : List (Option Ob) := [some (.cells 25 [wD (blk c), vI .i64 lim])]
def hfArgs (_ : Int) (c : Nat) : List SV := [vB false, .ptr 0 0, vI .i64 c]
def hfOut (lim : Int) (c : Nat) : T OutC := .need (50 ≤ lim ∧ lim ≤ 60000 ∧ 3 * (c : Int) ≤ lim) (.ret (.ret, [vB true], []))
def hfLF : LF := ⟨3, ⟨[2, 3, 4], [], [2]⟩, fun _ ol => match ol with
  | [some (.cells _ [_, n])] => match rdI n with
    | some lim => some (hfArgs lim 0, hfObs lim 0, hfOut lim 0)
    | none => none
  | _ => none⟩
noncomputable def hfE : Env := fnE Try.prog 59 0 hfKs [hfLF]
noncomputable def hfLoop : Code := (loopIn 3 (bodyOf Try.f3)).getD .skip

def hfLoopQ (lim : Int) (c : Nat) (Rn : List SV → List (Option Ob) → Prop) (Re : Ex → List SV → List (Option Ob) → Prop) : Prop :=
((Rx.leL ([SV.agg [SV.dt (Dt.arr ((3 : Nat)) ((Go.Proofs.Ytfpnadmpmfcaaaa.blk c).length) (Go.Proofs.Ytfpnadmpmfcaaaa.wF (Go.Proofs.Ytfpnadmpmfcaaaa.blk c))), SV.dt (Dt.cell (Go.Value.int Go.IntKind.i64 lim))], SV.dt (Dt.arr ((3 : Nat)) ((3 : Nat)) (fun i j => [Rx.Dt.cell (Go.Value.int Go.IntKind.i64 (6 : Int)), Rx.Dt.cell (Go.Value.int Go.IntKind.i64 (0 : Int)), Rx.Dt.cell (Go.Value.string (ByteArray.mk #[])), Rx.Dt.cell (Go.Value.int Go.IntKind.i64 (3 : Int)), Rx.Dt.cell (Go.Value.int Go.IntKind.i64 (0 : Int)), Rx.Dt.cell (Go.Value.string (ByteArray.mk #[])), Rx.Dt.cell (Go.Value.int Go.IntKind.i64 (3 : Int)), Rx.Dt.cell (Go.Value.int Go.IntKind.i64 (0 : Int)), Rx.Dt.cell (Go.Value.string (ByteArray.mk #[]))].getD (i * (3 : Nat) + j) Rx.undefCell))]) ([SV.agg [SV.dt (Dt.arr ((3 : Nat)) ((Go.Proofs.Ytfpnadmpmfcaaaa.rdF (Go.Proofs.Ytfpnadmpmfcaaaa.blk c).length (Go.Proofs.Ytfpnadmpmfcaaaa.wF (Go.Proofs.Ytfpnadmpmfcaaaa.blk c))).length) (Go.Proofs.Ytfpnadmpmfcaaaa.wF (Go.Proofs.Ytfpnadmpmfcaaaa.rdF (Go.Proofs.Ytfpnadmpmfcaaaa.blk c).length (Go.Proofs.Ytfpnadmpmfcaaaa.wF (Go.Proofs.Ytfpnadmpmfcaaaa.blk c))))), SV.dt (Dt.cell (Go.Value.int Go.IntKind.i64 lim))], SV.dt (Dt.arr ((3 : Nat)) ((Go.Proofs.Ytfpnadmpmfcaaaa.rdF (3 : Nat) fun i j => [Rx.Dt.cell (Go.Value.int Go.IntKind.i64 (6 : Int)), Rx.Dt.cell (Go.Value.int Go.IntKind.i64 (0 : Int)), Rx.Dt.cell (Go.Value.string (ByteArray.mk #[])), Rx.Dt.cell (Go.Value.int Go.IntKind.i64 (3 : Int)), Rx.Dt.cell (Go.Value.int Go.IntKind.i64 (0 : Int)), Rx.Dt.cell (Go.Value.string (ByteArray.mk #[])), Rx.Dt.cell (Go.Value.int Go.IntKind.i64 (3 : Int)), Rx.Dt.cell (Go.Value.int Go.IntKind.i64 (0 : Int)), Rx.Dt.cell (Go.Value.string (ByteArray.mk #[]))].getD (i * (3 : Nat) + j) Rx.undefCell).length) (Go.Proofs.Ytfpnadmpmfcaaaa.wF (Go.Proofs.Ytfpnadmpmfcaaaa.rdF (3 : Nat) fun i j => [Rx.Dt.cell (Go.Value.int Go.IntKind.i64 (6 : Int)), Rx.Dt.cell (Go.Value.int Go.IntKind.i64 (0 : Int)), Rx.Dt.cell (Go.Value.string (ByteArray.mk #[])), Rx.Dt.cell (Go.Value.int Go.IntKind.i64 (3 : Int)), Rx.Dt.cell (Go.Value.int Go.IntKind.i64 (0 : Int)), Rx.Dt.cell (Go.Value.string (ByteArray.mk #[])), Rx.Dt.cell (Go.Value.int Go.IntKind.i64 (3 : Int)), Rx.Dt.cell (Go.Value.int Go.IntKind.i64 (0 : Int)), Rx.Dt.cell (Go.Value.string (ByteArray.mk #[]))].getD (i * (3 : Nat) + j) Rx.undefCell)))])) ∧
((Rx.leObL ([]) ([])) ∧
 ((Go.Proofs.Ytfpnadmpmfcaaaa.fitsW (Go.Proofs.Ytfpnadmpmfcaaaa.rdF (3 : Nat) fun i j => [Rx.Dt.cell (Go.Value.int Go.IntKind.i64 (6 : Int)), Rx.Dt.cell (Go.Value.int Go.IntKind.i64 (0 : Int)), Rx.Dt.cell (Go.Value.string (ByteArray.mk #[])), Rx.Dt.cell (Go.Value.int Go.IntKind.i64 (3 : Int)), Rx.Dt.cell (Go.Value.int Go.IntKind.i64 (0 : Int)), Rx.Dt.cell (Go.Value.string (ByteArray.mk #[])), Rx.Dt.cell (Go.Value.int Go.IntKind.i64 (3 : Int)), Rx.Dt.cell (Go.Value.int Go.IntKind.i64 (0 : Int)), Rx.Dt.cell (Go.Value.string (ByteArray.mk #[]))].getD (i * (3 : Nat) + j) Rx.undefCell)) ∧
  (((Go.Proofs.Ytfpnadmpmfcaaaa.putGood (Go.Proofs.Ytfpnadmpmfcaaaa.rdF (Go.Proofs.Ytfpnadmpmfcaaaa.blk c).length (Go.Proofs.Ytfpnadmpmfcaaaa.wF (Go.Proofs.Ytfpnadmpmfcaaaa.blk c))) lim (Go.Proofs.Ytfpnadmpmfcaaaa.rdF (3 : Nat) fun i j => [Rx.Dt.cell (Go.Value.int Go.IntKind.i64 (6 : Int)), Rx.Dt.cell (Go.Value.int Go.IntKind.i64 (0 : Int)), Rx.Dt.cell (Go.Value.string (ByteArray.mk #[])), Rx.Dt.cell (Go.Value.int Go.IntKind.i64 (3 : Int)), Rx.Dt.cell (Go.Value.int Go.IntKind.i64 (0 : Int)), Rx.Dt.cell (Go.Value.string (ByteArray.mk #[])), Rx.Dt.cell (Go.Value.int Go.IntKind.i64 (3 : Int)), Rx.Dt.cell (Go.Value.int Go.IntKind.i64 (0 : Int)), Rx.Dt.cell (Go.Value.string (ByteArray.mk #[]))].getD (i * (3 : Nat) + j) Rx.undefCell) = Bool.true) →
    (((Rx.lo Go.IntKind.i64 ≤ (3 : Int) * (↑c : Int)) ∧
      ((3 : Int) * (↑c : Int) ≤ Rx.hi Go.IntKind.i64)) ∧
     (((((↑(Go.Proofs.Ytfpnadmpmfcaaaa.rdF (Go.Proofs.Ytfpnadmpmfcaaaa.blk c).length (Go.Proofs.Ytfpnadmpmfcaaaa.wF (Go.Proofs.Ytfpnadmpmfcaaaa.blk c))).length : Int) != (3 : Int) * (↑c : Int)) = Bool.true) →
       Re (Rx.Ex.ret) ([SV.dt (Dt.cell (Go.Value.bool Bool.false))]) ([])) ∧
      ((((↑(Go.Proofs.Ytfpnadmpmfcaaaa.rdF (Go.Proofs.Ytfpnadmpmfcaaaa.blk c).length (Go.Proofs.Ytfpnadmpmfcaaaa.wF (Go.Proofs.Ytfpnadmpmfcaaaa.blk c))).length : Int) != (3 : Int) * (↑c : Int)) = Bool.false) →
       (((Rx.lo Go.IntKind.i64 ≤ (↑c : Int) + (1 : Int)) ∧
         ((↑c : Int) + (1 : Int) ≤ Rx.hi Go.IntKind.i64)) ∧
        Rn ([SV.dt (Dt.cell (Go.Value.bool Bool.false)), SV.ptr 0 0, SV.dt (Dt.cell (Go.Value.int Go.IntKind.i64 ((↑c : Int) + (1 : Int))))]) ([some (Ob.cells 25 [SV.dt (Dt.arr ((3 : Nat)) ((Go.Proofs.Ytfpnadmpmfcaaaa.rdF (Go.Proofs.Ytfpnadmpmfcaaaa.blk c).length (Go.Proofs.Ytfpnadmpmfcaaaa.wF (Go.Proofs.Ytfpnadmpmfcaaaa.blk c)) ++ Go.Proofs.Ytfpnadmpmfcaaaa.rdF (3 : Nat) fun i j => [Rx.Dt.cell (Go.Value.int Go.IntKind.i64 (6 : Int)), Rx.Dt.cell (Go.Value.int Go.IntKind.i64 (0 : Int)), Rx.Dt.cell (Go.Value.string (ByteArray.mk #[])), Rx.Dt.cell (Go.Value.int Go.IntKind.i64 (3 : Int)), Rx.Dt.cell (Go.Value.int Go.IntKind.i64 (0 : Int)), Rx.Dt.cell (Go.Value.string (ByteArray.mk #[])), Rx.Dt.cell (Go.Value.int Go.IntKind.i64 (3 : Int)), Rx.Dt.cell (Go.Value.int Go.IntKind.i64 (0 : Int)), Rx.Dt.cell (Go.Value.string (ByteArray.mk #[]))].getD (i * (3 : Nat) + j) Rx.undefCell).length) (Go.Proofs.Ytfpnadmpmfcaaaa.wF (Go.Proofs.Ytfpnadmpmfcaaaa.rdF (Go.Proofs.Ytfpnadmpmfcaaaa.blk c).length (Go.Proofs.Ytfpnadmpmfcaaaa.wF (Go.Proofs.Ytfpnadmpmfcaaaa.blk c)) ++ Go.Proofs.Ytfpnadmpmfcaaaa.rdF (3 : Nat) fun i j => [Rx.Dt.cell (Go.Value.int Go.IntKind.i64 (6 : Int)), Rx.Dt.cell (Go.Value.int Go.IntKind.i64 (0 : Int)), Rx.Dt.cell (Go.Value.string (ByteArray.mk #[])), Rx.Dt.cell (Go.Value.int Go.IntKind.i64 (3 : Int)), Rx.Dt.cell (Go.Value.int Go.IntKind.i64 (0 : Int)), Rx.Dt.cell (Go.Value.string (ByteArray.mk #[])), Rx.Dt.cell (Go.Value.int Go.IntKind.i64 (3 : Int)), Rx.Dt.cell (Go.Value.int Go.IntKind.i64 (0 : Int)), Rx.Dt.cell (Go.Value.string (ByteArray.mk #[]))].getD (i * (3 : Nat) + j) Rx.undefCell))), SV.dt (Dt.cell (Go.Value.int Go.IntKind.i64 lim))])])))))) ∧
   ((Go.Proofs.Ytfpnadmpmfcaaaa.putGood (Go.Proofs.Ytfpnadmpmfcaaaa.rdF (Go.Proofs.Ytfpnadmpmfcaaaa.blk c).length (Go.Proofs.Ytfpnadmpmfcaaaa.wF (Go.Proofs.Ytfpnadmpmfcaaaa.blk c))) lim (Go.Proofs.Ytfpnadmpmfcaaaa.rdF (3 : Nat) fun i j => [Rx.Dt.cell (Go.Value.int Go.IntKind.i64 (6 : Int)), Rx.Dt.cell (Go.Value.int Go.IntKind.i64 (0 : Int)), Rx.Dt.cell (Go.Value.string (ByteArray.mk #[])), Rx.Dt.cell (Go.Value.int Go.IntKind.i64 (3 : Int)), Rx.Dt.cell (Go.Value.int Go.IntKind.i64 (0 : Int)), Rx.Dt.cell (Go.Value.string (ByteArray.mk #[])), Rx.Dt.cell (Go.Value.int Go.IntKind.i64 (3 : Int)), Rx.Dt.cell (Go.Value.int Go.IntKind.i64 (0 : Int)), Rx.Dt.cell (Go.Value.string (ByteArray.mk #[]))].getD (i * (3 : Nat) + j) Rx.undefCell) = Bool.false) →
    ((((Go.Proofs.Ytfpnadmpmfcaaaa.putErr (Go.Proofs.Ytfpnadmpmfcaaaa.rdF (Go.Proofs.Ytfpnadmpmfcaaaa.blk c).length (Go.Proofs.Ytfpnadmpmfcaaaa.wF (Go.Proofs.Ytfpnadmpmfcaaaa.blk c))) lim (Go.Proofs.Ytfpnadmpmfcaaaa.rdF (3 : Nat) fun i j => [Rx.Dt.cell (Go.Value.int Go.IntKind.i64 (6 : Int)), Rx.Dt.cell (Go.Value.int Go.IntKind.i64 (0 : Int)), Rx.Dt.cell (Go.Value.string (ByteArray.mk #[])), Rx.Dt.cell (Go.Value.int Go.IntKind.i64 (3 : Int)), Rx.Dt.cell (Go.Value.int Go.IntKind.i64 (0 : Int)), Rx.Dt.cell (Go.Value.string (ByteArray.mk #[])), Rx.Dt.cell (Go.Value.int Go.IntKind.i64 (3 : Int)), Rx.Dt.cell (Go.Value.int Go.IntKind.i64 (0 : Int)), Rx.Dt.cell (Go.Value.string (ByteArray.mk #[]))].getD (i * (3 : Nat) + j) Rx.undefCell) != (0 : Int)) = Bool.true) →
      ((Rx.leL ([SV.agg [SV.dt (Dt.arr ((3 : Nat)) ((Go.Proofs.Ytfpnadmpmfcaaaa.blk c).length) (Go.Proofs.Ytfpnadmpmfcaaaa.wF (Go.Proofs.Ytfpnadmpmfcaaaa.blk c))), SV.dt (Dt.cell (Go.Value.int Go.IntKind.i64 lim))], SV.dt (Dt.arr ((3 : Nat)) ((1 : Nat)) (fun i j => [Rx.Dt.cell (Go.Value.int Go.IntKind.i64 (3 : Int)), Rx.Dt.cell (Go.Value.int Go.IntKind.i64 (0 : Int)), Rx.Dt.cell (Go.Value.string (ByteArray.mk #[]))].getD (i * (3 : Nat) + j) Rx.undefCell))]) ([SV.agg [SV.dt (Dt.arr ((3 : Nat)) ((Go.Proofs.Ytfpnadmpmfcaaaa.rdF (Go.Proofs.Ytfpnadmpmfcaaaa.blk c).length (Go.Proofs.Ytfpnadmpmfcaaaa.wF (Go.Proofs.Ytfpnadmpmfcaaaa.blk c))).length) (Go.Proofs.Ytfpnadmpmfcaaaa.wF (Go.Proofs.Ytfpnadmpmfcaaaa.rdF (Go.Proofs.Ytfpnadmpmfcaaaa.blk c).length (Go.Proofs.Ytfpnadmpmfcaaaa.wF (Go.Proofs.Ytfpnadmpmfcaaaa.blk c))))), SV.dt (Dt.cell (Go.Value.int Go.IntKind.i64 lim))], SV.dt (Dt.arr ((3 : Nat)) ((Go.Proofs.Ytfpnadmpmfcaaaa.rdF (1 : Nat) fun i j => [Rx.Dt.cell (Go.Value.int Go.IntKind.i64 (3 : Int)), Rx.Dt.cell (Go.Value.int Go.IntKind.i64 (0 : Int)), Rx.Dt.cell (Go.Value.string (ByteArray.mk #[]))].getD (i * (3 : Nat) + j) Rx.undefCell).length) (Go.Proofs.Ytfpnadmpmfcaaaa.wF (Go.Proofs.Ytfpnadmpmfcaaaa.rdF (1 : Nat) fun i j => [Rx.Dt.cell (Go.Value.int Go.IntKind.i64 (3 : Int)), Rx.Dt.cell (Go.Value.int Go.IntKind.i64 (0 : Int)), Rx.Dt.cell (Go.Value.string (ByteArray.mk #[]))].getD (i * (3 : Nat) + j) Rx.undefCell)))])) ∧
       ((Rx.leObL ([]) ([])) ∧
        ((Go.Proofs.Ytfpnadmpmfcaaaa.fitsW (Go.Proofs.Ytfpnadmpmfcaaaa.rdF (1 : Nat) fun i j => [Rx.Dt.cell (Go.Value.int Go.IntKind.i64 (3 : Int)), Rx.Dt.cell (Go.Value.int Go.IntKind.i64 (0 : Int)), Rx.Dt.cell (Go.Value.string (ByteArray.mk #[]))].getD (i * (3 : Nat) + j) Rx.undefCell)) ∧
         (((Go.Proofs.Ytfpnadmpmfcaaaa.putGood (Go.Proofs.Ytfpnadmpmfcaaaa.rdF (Go.Proofs.Ytfpnadmpmfcaaaa.blk c).length (Go.Proofs.Ytfpnadmpmfcaaaa.wF (Go.Proofs.Ytfpnadmpmfcaaaa.blk c))) lim (Go.Proofs.Ytfpnadmpmfcaaaa.rdF (1 : Nat) fun i j => [Rx.Dt.cell (Go.Value.int Go.IntKind.i64 (3 : Int)), Rx.Dt.cell (Go.Value.int Go.IntKind.i64 (0 : Int)), Rx.Dt.cell (Go.Value.string (ByteArray.mk #[]))].getD (i * (3 : Nat) + j) Rx.undefCell) = Bool.true) →
           ((((Go.Proofs.Ytfpnadmpmfcaaaa.putErr (Go.Proofs.Ytfpnadmpmfcaaaa.rdF (Go.Proofs.Ytfpnadmpmfcaaaa.blk c).length (Go.Proofs.Ytfpnadmpmfcaaaa.wF (Go.Proofs.Ytfpnadmpmfcaaaa.blk c))) lim (Go.Proofs.Ytfpnadmpmfcaaaa.rdF (3 : Nat) fun i j => [Rx.Dt.cell (Go.Value.int Go.IntKind.i64 (6 : Int)), Rx.Dt.cell (Go.Value.int Go.IntKind.i64 (0 : Int)), Rx.Dt.cell (Go.Value.string (ByteArray.mk #[])), Rx.Dt.cell (Go.Value.int Go.IntKind.i64 (3 : Int)), Rx.Dt.cell (Go.Value.int Go.IntKind.i64 (0 : Int)), Rx.Dt.cell (Go.Value.string (ByteArray.mk #[])), Rx.Dt.cell (Go.Value.int Go.IntKind.i64 (3 : Int)), Rx.Dt.cell (Go.Value.int Go.IntKind.i64 (0 : Int)), Rx.Dt.cell (Go.Value.string (ByteArray.mk #[]))].getD (i * (3 : Nat) + j) Rx.undefCell) == (12 : Int)) = Bool.true) →
             ((((3 : Int) ≠ (0 : Int)) ∧
               ((Rx.lo Go.IntKind.i64 ≤ lim.tdiv (3 : Int)) ∧
                (lim.tdiv (3 : Int) ≤ Rx.hi Go.IntKind.i64))) ∧
              (((((↑c : Int) == lim.tdiv (3 : Int)) = Bool.true) →
                Re (Rx.Ex.ret) ([SV.dt (Dt.cell (Go.Value.bool (Decidable.decide ((0 : Int) = (12 : Int)))))]) ([])) ∧
               ((((↑c : Int) == lim.tdiv (3 : Int)) = Bool.false) →
                Re (Rx.Ex.ret) ([SV.dt (Dt.cell (Go.Value.bool Bool.false))]) ([]))))) ∧
            (((Go.Proofs.Ytfpnadmpmfcaaaa.putErr (Go.Proofs.Ytfpnadmpmfcaaaa.rdF (Go.Proofs.Ytfpnadmpmfcaaaa.blk c).length (Go.Proofs.Ytfpnadmpmfcaaaa.wF (Go.Proofs.Ytfpnadmpmfcaaaa.blk c))) lim (Go.Proofs.Ytfpnadmpmfcaaaa.rdF (3 : Nat) fun i j => [Rx.Dt.cell (Go.Value.int Go.IntKind.i64 (6 : Int)), Rx.Dt.cell (Go.Value.int Go.IntKind.i64 (0 : Int)), Rx.Dt.cell (Go.Value.string (ByteArray.mk #[])), Rx.Dt.cell (Go.Value.int Go.IntKind.i64 (3 : Int)), Rx.Dt.cell (Go.Value.int Go.IntKind.i64 (0 : Int)), Rx.Dt.cell (Go.Value.string (ByteArray.mk #[])), Rx.Dt.cell (Go.Value.int Go.IntKind.i64 (3 : Int)), Rx.Dt.cell (Go.Value.int Go.IntKind.i64 (0 : Int)), Rx.Dt.cell (Go.Value.string (ByteArray.mk #[]))].getD (i * (3 : Nat) + j) Rx.undefCell) == (12 : Int)) = Bool.false) →
             Re (Rx.Ex.ret) ([SV.dt (Dt.cell (Go.Value.bool Bool.false))]) ([])))) ∧
          ((Go.Proofs.Ytfpnadmpmfcaaaa.putGood (Go.Proofs.Ytfpnadmpmfcaaaa.rdF (Go.Proofs.Ytfpnadmpmfcaaaa.blk c).length (Go.Proofs.Ytfpnadmpmfcaaaa.wF (Go.Proofs.Ytfpnadmpmfcaaaa.blk c))) lim (Go.Proofs.Ytfpnadmpmfcaaaa.rdF (1 : Nat) fun i j => [Rx.Dt.cell (Go.Value.int Go.IntKind.i64 (3 : Int)), Rx.Dt.cell (Go.Value.int Go.IntKind.i64 (0 : Int)), Rx.Dt.cell (Go.Value.string (ByteArray.mk #[]))].getD (i * (3 : Nat) + j) Rx.undefCell) = Bool.false) →
           ((((Go.Proofs.Ytfpnadmpmfcaaaa.putErr (Go.Proofs.Ytfpnadmpmfcaaaa.rdF (Go.Proofs.Ytfpnadmpmfcaaaa.blk c).length (Go.Proofs.Ytfpnadmpmfcaaaa.wF (Go.Proofs.Ytfpnadmpmfcaaaa.blk c))) lim (Go.Proofs.Ytfpnadmpmfcaaaa.rdF (3 : Nat) fun i j => [Rx.Dt.cell (Go.Value.int Go.IntKind.i64 (6 : Int)), Rx.Dt.cell (Go.Value.int Go.IntKind.i64 (0 : Int)), Rx.Dt.cell (Go.Value.string (ByteArray.mk #[])), Rx.Dt.cell (Go.Value.int Go.IntKind.i64 (3 : Int)), Rx.Dt.cell (Go.Value.int Go.IntKind.i64 (0 : Int)), Rx.Dt.cell (Go.Value.string (ByteArray.mk #[])), Rx.Dt.cell (Go.Value.int Go.IntKind.i64 (3 : Int)), Rx.Dt.cell (Go.Value.int Go.IntKind.i64 (0 : Int)), Rx.Dt.cell (Go.Value.string (ByteArray.mk #[]))].getD (i * (3 : Nat) + j) Rx.undefCell) == (12 : Int)) = Bool.true) →
             ((((3 : Int) ≠ (0 : Int)) ∧
               ((Rx.lo Go.IntKind.i64 ≤ lim.tdiv (3 : Int)) ∧
                (lim.tdiv (3 : Int) ≤ Rx.hi Go.IntKind.i64))) ∧
              (((((↑c : Int) == lim.tdiv (3 : Int)) = Bool.true) →
                ((((Go.Proofs.Ytfpnadmpmfcaaaa.putErr (Go.Proofs.Ytfpnadmpmfcaaaa.rdF (Go.Proofs.Ytfpnadmpmfcaaaa.blk c).length (Go.Proofs.Ytfpnadmpmfcaaaa.wF (Go.Proofs.Ytfpnadmpmfcaaaa.blk c))) lim (Go.Proofs.Ytfpnadmpmfcaaaa.rdF (1 : Nat) fun i j => [Rx.Dt.cell (Go.Value.int Go.IntKind.i64 (3 : Int)), Rx.Dt.cell (Go.Value.int Go.IntKind.i64 (0 : Int)), Rx.Dt.cell (Go.Value.string (ByteArray.mk #[]))].getD (i * (3 : Nat) + j) Rx.undefCell) == (4 : Int)) = Bool.true) →
                  Re (Rx.Ex.ret) ([SV.dt (Dt.cell (Go.Value.bool Bool.true))]) ([])) ∧
                 (((Go.Proofs.Ytfpnadmpmfcaaaa.putErr (Go.Proofs.Ytfpnadmpmfcaaaa.rdF (Go.Proofs.Ytfpnadmpmfcaaaa.blk c).length (Go.Proofs.Ytfpnadmpmfcaaaa.wF (Go.Proofs.Ytfpnadmpmfcaaaa.blk c))) lim (Go.Proofs.Ytfpnadmpmfcaaaa.rdF (1 : Nat) fun i j => [Rx.Dt.cell (Go.Value.int Go.IntKind.i64 (3 : Int)), Rx.Dt.cell (Go.Value.int Go.IntKind.i64 (0 : Int)), Rx.Dt.cell (Go.Value.string (ByteArray.mk #[]))].getD (i * (3 : Nat) + j) Rx.undefCell) == (4 : Int)) = Bool.false) →
                  Re (Rx.Ex.ret) ([SV.dt (Dt.cell (Go.Value.bool (Go.Proofs.Ytfpnadmpmfcaaaa.putErr (Go.Proofs.Ytfpnadmpmfcaaaa.rdF (Go.Proofs.Ytfpnadmpmfcaaaa.blk c).length (Go.Proofs.Ytfpnadmpmfcaaaa.wF (Go.Proofs.Ytfpnadmpmfcaaaa.blk c))) lim (Go.Proofs.Ytfpnadmpmfcaaaa.rdF (1 : Nat) fun i j => [Rx.Dt.cell (Go.Value.int Go.IntKind.i64 (3 : Int)), Rx.Dt.cell (Go.Value.int Go.IntKind.i64 (0 : Int)), Rx.Dt.cell (Go.Value.string (ByteArray.mk #[]))].getD (i * (3 : Nat) + j) Rx.undefCell) == (12 : Int))))]) ([])))) ∧
               ((((↑c : Int) == lim.tdiv (3 : Int)) = Bool.false) →
                Re (Rx.Ex.ret) ([SV.dt (Dt.cell (Go.Value.bool Bool.false))]) ([]))))) ∧
            (((Go.Proofs.Ytfpnadmpmfcaaaa.putErr (Go.Proofs.Ytfpnadmpmfcaaaa.rdF (Go.Proofs.Ytfpnadmpmfcaaaa.blk c).length (Go.Proofs.Ytfpnadmpmfcaaaa.wF (Go.Proofs.Ytfpnadmpmfcaaaa.blk c))) lim (Go.Proofs.Ytfpnadmpmfcaaaa.rdF (3 : Nat) fun i j => [Rx.Dt.cell (Go.Value.int Go.IntKind.i64 (6 : Int)), Rx.Dt.cell (Go.Value.int Go.IntKind.i64 (0 : Int)), Rx.Dt.cell (Go.Value.string (ByteArray.mk #[])), Rx.Dt.cell (Go.Value.int Go.IntKind.i64 (3 : Int)), Rx.Dt.cell (Go.Value.int Go.IntKind.i64 (0 : Int)), Rx.Dt.cell (Go.Value.string (ByteArray.mk #[])), Rx.Dt.cell (Go.Value.int Go.IntKind.i64 (3 : Int)), Rx.Dt.cell (Go.Value.int Go.IntKind.i64 (0 : Int)), Rx.Dt.cell (Go.Value.string (ByteArray.mk #[]))].getD (i * (3 : Nat) + j) Rx.undefCell) == (12 : Int)) = Bool.false) →
             Re (Rx.Ex.ret) ([SV.dt (Dt.cell (Go.Value.bool Bool.false))]) ([]))))))))) ∧
     (((Go.Proofs.Ytfpnadmpmfcaaaa.putErr (Go.Proofs.Ytfpnadmpmfcaaaa.rdF (Go.Proofs.Ytfpnadmpmfcaaaa.blk c).length (Go.Proofs.Ytfpnadmpmfcaaaa.wF (Go.Proofs.Ytfpnadmpmfcaaaa.blk c))) lim (Go.Proofs.Ytfpnadmpmfcaaaa.rdF (3 : Nat) fun i j => [Rx.Dt.cell (Go.Value.int Go.IntKind.i64 (6 : Int)), Rx.Dt.cell (Go.Value.int Go.IntKind.i64 (0 : Int)), Rx.Dt.cell (Go.Value.string (ByteArray.mk #[])), Rx.Dt.cell (Go.Value.int Go.IntKind.i64 (3 : Int)), Rx.Dt.cell (Go.Value.int Go.IntKind.i64 (0 : Int)), Rx.Dt.cell (Go.Value.string (ByteArray.mk #[])), Rx.Dt.cell (Go.Value.int Go.IntKind.i64 (3 : Int)), Rx.Dt.cell (Go.Value.int Go.IntKind.i64 (0 : Int)), Rx.Dt.cell (Go.Value.string (ByteArray.mk #[]))].getD (i * (3 : Nat) + j) Rx.undefCell) != (0 : Int)) = Bool.false) →
      (((Rx.lo Go.IntKind.i64 ≤ (3 : Int) * (↑c : Int)) ∧
        ((3 : Int) * (↑c : Int) ≤ Rx.hi Go.IntKind.i64)) ∧
       (((((0 : Int) != (3 : Int) * (↑c : Int)) = Bool.true) →
         Re (Rx.Ex.ret) ([SV.dt (Dt.cell (Go.Value.bool Bool.false))]) ([])) ∧
        ((((0 : Int) != (3 : Int) * (↑c : Int)) = Bool.false) →
         (((Rx.lo Go.IntKind.i64 ≤ (↑c : Int) + (1 : Int)) ∧
           ((↑c : Int) + (1 : Int) ≤ Rx.hi Go.IntKind.i64)) ∧
          Rn ([SV.dt (Dt.cell (Go.Value.bool Bool.false)), SV.ptr 0 0, SV.dt (Dt.cell (Go.Value.int Go.IntKind.i64 ((↑c : Int) + (1 : Int))))]) ([some (Ob.cells 25 [SV.dt (Dt.cell (Go.Value.slice Option.none (0 : Nat) (0 : Nat))), SV.dt (Dt.cell (Go.Value.int Go.IntKind.i64 (0 : Int)))])]))))))))))))
def hfQ (n : Int) (R : SV → List (Option Ob) → Prop) : Prop :=
((Rx.leL ([SV.dt (Dt.cell (Go.Value.int Go.IntKind.i64 n)), SV.dt (Dt.cell (Go.Value.int Go.IntKind.i64 (40 : Int)))]) ([SV.dt (Dt.cell (Go.Value.int Go.IntKind.i64 n)), SV.dt (Dt.cell (Go.Value.int Go.IntKind.i64 (40 : Int)))])) ∧
((Rx.leObL ([]) ([])) ∧
 (((Go.Proofs.Ytfpnadmpmfcaaaa.isInt n) ∧
   ((40 : Int) ≠ (0 : Int))) ∧
  (((Rx.lo Go.IntKind.i64 ≤ (50 : Int) + Go.Proofs.Ytfpnadmpmfcaaaa.pickedS n (40 : Int)) ∧
    ((50 : Int) + Go.Proofs.Ytfpnadmpmfcaaaa.pickedS n (40 : Int) ≤ Rx.hi Go.IntKind.i64)) ∧
   (((Rx.leS (SV.dt (Dt.cell (Go.Value.bool Bool.false))) (SV.dt (Dt.cell (Go.Value.bool Bool.false)))) ∧
     ((Rx.leS (SV.ptr 0 0) (SV.ptr 0 0)) ∧
      ((Rx.leS (SV.dt (Dt.cell (Go.Value.int Go.IntKind.i64 (0 : Int)))) (SV.dt (Dt.cell (Go.Value.int Go.IntKind.i64 (↑(0 : Nat) : Int))))) ∧
       True))) ∧
    ((Rx.leOO ([some (Ob.cells 25 [SV.dt (Dt.cell (Go.Value.slice Option.none (0 : Nat) (0 : Nat))), SV.dt (Dt.cell (Go.Value.int Go.IntKind.i64 ((50 : Int) + Go.Proofs.Ytfpnadmpmfcaaaa.pickedS n (40 : Int))))])]) ([some (Ob.cells 25 [SV.dt (Dt.arr ((3 : Nat)) ((Go.Proofs.Ytfpnadmpmfcaaaa.blk (0 : Nat)).length) (Go.Proofs.Ytfpnadmpmfcaaaa.wF (Go.Proofs.Ytfpnadmpmfcaaaa.blk (0 : Nat)))), SV.dt (Dt.cell (Go.Value.int Go.IntKind.i64 ((50 : Int) + Go.Proofs.Ytfpnadmpmfcaaaa.pickedS n (40 : Int))))])])) ∧
     ((((50 : Int) ≤ (50 : Int) + Go.Proofs.Ytfpnadmpmfcaaaa.pickedS n (40 : Int)) ∧
       (((50 : Int) + Go.Proofs.Ytfpnadmpmfcaaaa.pickedS n (40 : Int) ≤ (60000 : Int)) ∧
        ((3 : Int) * (↑(0 : Nat) : Int) ≤ (50 : Int) + Go.Proofs.Ytfpnadmpmfcaaaa.pickedS n (40 : Int)))) ∧
      (True ∧
       R (SV.dt (Dt.cell (Go.Value.bool Bool.true))) ([])))))))))
theorem m3_blk : isBlk m3 := ⟨by decide +kernel, by decide +kernel⟩
theorem blk_len3 (c : Nat) : (blk c).length = 3 * c := by
  induction c with
  | zero => rfl
  | succ c ih => simp only [blk, List.replicate_succ, List.flatten_cons, List.length_append] at ih ⊢; rw [ih]; simp only [m3, List.length_cons, List.length_nil]; omega
theorem blk_succ (c : Nat) : blk c ++ m3 = blk (c + 1) := by
  simp only [blk, List.replicate_succ', List.flatten_append, List.flatten_cons, List.flatten_nil, List.append_nil]
theorem w3_ok (l : List Wd) (acc : List Nat) : wordOk l acc w3 = true := by
  have : valueS w3 l.length = true := by
    simp only [valueS, decide_eq_true_eq]
    exact .inr (.inr (.inl ⟨rfl, rfl, rfl⟩))
  rw [wordOk, this]
  rfl
theorem blk_ok {lim : Int} {c : Nat} (h1 : 50 ≤ lim) (h2 : lim ≤ 60000) (h3 : 3 * (c : Int) ≤ lim) : checkB (blk c) lim = true := by
  have ha : allOk (blk c) = true := by
    rw [blk, allOk_blocks (fun b hb => by rw [(List.mem_replicate.1 hb).2]; exact m3_blk)]
    rw [List.all_eq_true]
    intro b hb
    rw [(List.mem_replicate.1 hb).2]
    have : wordsOf m3 = [w3, w3] := by decide +kernel
    rw [this]
    simp [w3_ok]
  have hl := blk_len3 c
  simp only [checkB, ha, Bool.and_true, Bool.and_eq_true, decide_eq_true_eq]
  omega
theorem good3 {lim : Int} {c : Nat} (h1 : 50 ≤ lim) (h2 : lim ≤ 60000) (h3 : 3 * (c : Int) ≤ lim) : putGood (blk c) lim m3 = decide (3 * (c : Int) + 3 ≤ lim) := by
  have e3 : m3.length = 3 := rfl
  have hl := blk_len3 c
  unfold putGood
  rw [blk_ok h1 h2 h3, e3, hl]
  have e : (((3 * c : Nat) : Int) + (3 : Nat) ≤ lim) = (3 * (c : Int) + 3 ≤ lim) := by apply propext; omega
  simp only [e]
  by_cases h : 3 * (c : Int) + 3 ≤ lim
  · have hp : putOk (blk c) lim m3 = true := by
      unfold putOk
      rw [blk_succ, blk_ok h1 h2 (by omega)]
      decide +kernel
    rw [hp, decide_eq_true h]; rfl
  · rw [decide_eq_false h]; simp
theorem good1 {l : List Wd} {lim : Int} : putGood l lim [w3] = false := by
  have : spOk [w3] 0 = false := by decide +kernel
  simp [putGood, putOk, this]

theorem hfKs_ok : ∀ k ∈ hfKs, k.2.2.Ok Try.prog := all_cons pickedF_ok (all_cons putF_ok (all_cons putF_ok all_nil))
theorem hfLoop_ok (lim : Int) (c : Nat) : Sound hfE (.loop hfLoop) (mkSt (hfLF.live.h.zip (hfArgs lim c)) (hfObs lim c)) ((hfOut lim c).map (OutC.st hfLF.live)) := by
  refine loop_fn mixed hfKs_ok (fun c hc => by rw [show loopsOf hfLoop = [] from by kernel_rfl] at hc; cases hc) hfLF.live (hfArgs lim) (hfObs lim) (hfOut lim) (fun i => (lim - 3 * i).toNat) (Q := fun i Rn Re => hfLoopQ lim i Rn Re) ?_ (fun i Rn Re => by kernel_rfl) c
  intro c post hp
  obtain ⟨⟨h1, h2, h3⟩, hp⟩ := hp
  have hp : post (.ret, [vB true], []) := hp
  have e3 : (rdF (3 : Nat) fun i j => [Dt.cell (.int .i64 (6 : Int)), Dt.cell (.int .i64 0), Dt.cell (.string (ByteArray.mk #[])), Dt.cell (.int .i64 (3 : Int)), Dt.cell (.int .i64 0), Dt.cell (.string (ByteArray.mk #[])), Dt.cell (.int .i64 (3 : Int)), Dt.cell (.int .i64 0), Dt.cell (.string (ByteArray.mk #[]))].getD (i * (3 : Nat) + j) undefCell) = m3 := lit_read (m := m3) rfl
  have e1 : (rdF (1 : Nat) fun i j => [Dt.cell (.int .i64 (3 : Int)), Dt.cell (.int .i64 0), Dt.cell (.string (ByteArray.mk #[]))].getD (i * (3 : Nat) + j) undefCell) = [w3] := lit_read (m := [w3]) rfl
  have hl := blk_len3 c
  have hok := blk_ok h1 h2 h3
  unfold hfLoopQ
  simp only [rdF_wF, e3, e1, leObL_self, good1, good3 h1 h2 h3, true_and, blk_succ, decide_eq_true_eq, decide_eq_false_iff_not, Bool.false_eq_true, false_implies, true_implies, leL_cons, leS_self, and_true]
  have f3 : fitsW m3 := by show ((3 : Nat) : Int) ≤ _; omega
  have f1 : fitsW [w3] := by show ((1 : Nat) : Int) ≤ _; omega
  refine ⟨⟨lit_le (m := m3) rfl, trivial⟩, f3, fun h => ?_, fun h => ?_⟩
  · refine ⟨⟨by show (-9223372036854775808 : Int) ≤ _; omega, by show _ ≤ (9223372036854775807 : Int); omega⟩, fun h' => ?_, fun _ => ⟨⟨by show (-9223372036854775808 : Int) ≤ _; omega, by show _ ≤ (9223372036854775807 : Int); omega⟩, c + 1, by omega, ?_, ?_, ⟨h1, h2, by omega⟩, hp⟩⟩
    · rw [hl, bne_iff_ne] at h'; omega
    · simp only [hfArgs, leL_cons, leS_int]
      exact ⟨leS_refl _, leS_refl _, by omega, trivial⟩
    · exact leOO_refl _
  · have p3 : putErr (blk c) lim m3 = 12 := by
      rw [putErr, if_pos hok, if_neg (by decide), if_pos (by rw [hl]; show lim < ((3 * c : Nat) : Int) + (3 : Nat); omega)]
    have hd : (c : Int) = lim.tdiv 3 := by rw [Int.tdiv_eq_ediv_of_nonneg (by omega)]; omega
    have hT : Outs post .ret [.dt (.cell (.bool true))] [] := Outs.mk hp (leL_refl _) (leOO_refl _)
    simp only [p3, ← hd]
    refine ⟨fun _ => ⟨⟨lit_le (m := [w3]) rfl, trivial⟩, f1, fun _ => ⟨⟨by decide, by show (-9223372036854775808 : Int) ≤ _; omega, by show _ ≤ (9223372036854775807 : Int); omega⟩, fun _ => ⟨fun _ => hT, fun h4 => ?_⟩, fun h4 => by simp at h4⟩, fun h4 => absurd h4 (by decide)⟩, fun h4 => absurd h4 (by decide)⟩
    have p1 : putErr (blk c) lim [w3] = 4 ∨ putErr (blk c) lim [w3] = 12 := by
      rw [putErr, if_pos hok, if_neg (by decide)]
      by_cases h5 : lim < ((blk c).length : Int) + ([w3].length : Nat)
      · rw [if_pos h5]; exact .inr rfl
      · rw [if_neg h5]; exact .inl rfl
    rcases p1 with p1 | p1
    · rw [p1] at h4; exact absurd h4 (by decide)
    · rw [p1]; exact hT
theorem hfLok : hfE.Lok (loopsOf (bodyOf Try.f3)) := by
  rw [show loopsOf (bodyOf Try.f3) = [hfLoop] from by kernel_rfl]
  refine fnE_Lok (all_cons (all_cons (fun _ => ?_) all_nil) all_nil)
  intro svs obl args obs out h
  unfold hfLF at h
  simp only at h
  split at h
  · split at h
    · simp only [Option.some.injEq, Prod.mk.injEq] at h
      obtain ⟨rfl, rfl, rfl⟩ := h
      exact hfLoop_ok _ _
    · cases h
  · cases h
theorem picked_le {n : Int} (h : isInt n) : 0 ≤ pickedS n 40 ∧ pickedS n 40 < 40 := by
  unfold pickedS
  have h : -9223372036854775808 ≤ n ∧ n ≤ 9223372036854775807 := h
  split
  · rw [Int.tmod_eq_emod_of_nonneg (by omega)]; omega
  · rw [Int.tmod_eq_emod_of_nonneg (by omega)]; omega
theorem heapFull_ctr (n : Int) : Ctr Try.prog 3 [vI .i64 n] [] (.need (isInt n) (.ret (vB true, []))) := by
  refine ctr_fn mixed (N := 59) (fn := Try.f3) (c := bodyOf Try.f3) (ks := hfKs) (ls := [hfLF]) (by kernel_rfl) (by kernel_rfl) (by kernel_rfl) hfKs_ok fin0 hfLok (by kernel_rfl) (Q := hfQ n) (fun post hp => ?_) (fun R => by kernel_rfl)
  obtain ⟨hi, hp⟩ := hp
  have hp : post (vB true, []) := hp
  obtain ⟨h1, h2⟩ := picked_le hi
  unfold hfQ
  refine ⟨leL_refl _, leObL_refl _, ⟨hi, by decide⟩, ⟨by show (-9223372036854775808 : Int) ≤ _; omega, by show _ ≤ (9223372036854775807 : Int); omega⟩, ⟨leS_refl _, leS_refl _, leS_refl _, trivial⟩, ?_, ⟨by omega, by omega, by omega⟩, trivial, gives1 hp (leS_refl _)⟩
  simp only [leOO_cons, leOb_cells, leL_cons, leS_self, leOO_nil, and_true, true_and]
  exact ⟨nil_le, trivial⟩
end Go.Proofs.Ytfpnadmpmfcaaaa
