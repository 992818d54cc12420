/- slices.Grow, Concat, Clone of words. -/
import Derived.Test.YtfpnadmpmfcaaaaHpD
open Rx Go
namespace Go.Proofs.Ytfpnadmpmfcaaaa

def nilS : SV := .dt (.cell (.slice none 0 0))
def noW : List Wd := []
def wR (l : List Wd) : Ob := .row 30 3 l.length (wF l)
def growO (n : Int) : T Out := .need (0 ≤ n ∧ n ≤ 4398046511104) (.ret (.nm 0, [some (wR noW)]))
def finW : Fin := ⟨false, some (30, 3)⟩
def growF : FC := ⟨30, true, false, fun al ol => match al, ol with
  | [_, n], [] => match rdI n with
    | some n => some ([nilS, vI .i64 n], [], growO n)
    | none => none
  | _, _ => none⟩

/-- lists of lists -/
def llF (ls : List (List Wd)) (i : Nat) (_ : Nat) : Dt := .arr 3 (ls.getD i []).length (wF (ls.getD i []))
def llD (ls : List (List Wd)) : SV := .dt (.arr 1 ls.length (llF ls))
def rdLL (n : Nat) (f : Nat → Nat → Dt) : List (List Wd) := (List.range n).map fun i => match f i 0 with
  | .arr _ m g => rdF m g
  | _ => []
def sumL (ls : List (List Wd)) (i : Nat) : Nat := (ls.take i).flatten.length
def fitsLL (ls : List (List Wd)) : Prop := ((ls.flatten.length : Nat) : Int) ≤ 4398046511104 ∧ (ls.length : Int) ≤ 1000000

def concatO (ls : List (List Wd)) : T Out := .need (fitsLL ls) (.ret (.nm 0, [some (wR ls.flatten)]))

def c1Args (ls : List (List Wd)) (i : Nat) : List SV := [llD ls, vI .i64 (sumL ls i), llD ls, vI .i64 ls.length, vI .i64 i]
def c1Out (ls : List (List Wd)) (_ : Nat) : T OutC := .need (fitsLL ls) (.ret (.exit 0, [llD ls, vI .i64 ls.flatten.length], []))
def c1LF : LF := ⟨3, ⟨[0, 3, 9, 10, 11], [0, 3], []⟩, fun svs _ => match svs with
  | .dt (.arr 1 n f) :: _ => some (c1Args (rdLL n f) 0, [], c1Out (rdLL n f) 0)
  | _ => none⟩

def c2Args (ls : List (List Wd)) (i : Nat) : List SV := [.nm 0, llD ls, vI .i64 ls.length, vI .i64 i]
def c2Obs (ls : List (List Wd)) (i : Nat) : List (Option Ob) := [some (wR (ls.take i).flatten)]
def c2Out (ls : List (List Wd)) (_ : Nat) : T OutC := .need (fitsLL ls) (.ret (.exit 2, [.nm 0], [some (wR ls.flatten)]))
def c2LF : LF := ⟨11, ⟨[6, 25, 26, 27], [6], []⟩, fun svs _ => match svs with
  | [_, .dt (.arr 1 n f), _, _] => some (c2Args (rdLL n f) 0, c2Obs (rdLL n f) 0, c2Out (rdLL n f) 0)
  | _ => none⟩
def ccKs : List (Nat × Nat × FC) := [(9, 1, growF)]
noncomputable def ccE : Env := fnE Try.prog 36 0 ccKs [c1LF, c2LF]
noncomputable def c1Loop : Code := (loopIn 3 (bodyOf Try.f23)).getD .skip
noncomputable def c2Loop : Code := (loopIn 11 (bodyOf Try.f23)).getD .skip

def growQ (n : Int) (R : SV → List (Option Ob) → Prop) : Prop :=
(((Decidable.decide (n < (0 : Int)) = Bool.true) →
 False) ∧
((Decidable.decide (n < (0 : Int)) = Bool.false) →
 (((Rx.lo Go.IntKind.i64 ≤ (↑(0 : Nat) : Int) - (↑(0 : Nat) : Int)) ∧
   ((↑(0 : Nat) : Int) - (↑(0 : Nat) : Int) ≤ Rx.hi Go.IntKind.i64)) ∧
  (((Rx.lo Go.IntKind.i64 ≤ n - ((↑(0 : Nat) : Int) - (↑(0 : Nat) : Int))) ∧
    (n - ((↑(0 : Nat) : Int) - (↑(0 : Nat) : Int)) ≤ Rx.hi Go.IntKind.i64)) ∧
   (((Decidable.decide (n - ((↑(0 : Nat) : Int) - (↑(0 : Nat) : Int)) > (0 : Int)) = Bool.true) →
     (((↑(0 : Nat) : Int) = (0 : Int)) ∧
      ((((0 : Int) ≤ n - ((↑(0 : Nat) : Int) - (↑(0 : Nat) : Int))) ∧
        ((n - ((↑(0 : Nat) : Int) - (↑(0 : Nat) : Int))).toNat * (32 : Nat) ≤ (140737488355328 : Nat))) ∧
       ((((0 : Int) ≤ (↑(0 : Nat) : Int)) ∧
         ((↑(0 : Nat) : Int) ≤ (↑(n - ((↑(0 : Nat) : Int) - (↑(0 : Nat) : Int))).toNat : Int))) ∧
        (True ∧
         R (SV.nm 0) ([some (Ob.row 30 3 ((↑(0 : Nat) : Int).toNat) (fun x j => Rx.Dt.cell ([Go.Value.int Go.IntKind.i64 (0 : Int), Go.Value.int Go.IntKind.i64 (0 : Int), Go.Value.string (ByteArray.mk #[])].getD j Go.undef)))])))))) ∧
    ((Decidable.decide (n - ((↑(0 : Nat) : Int) - (↑(0 : Nat) : Int)) > (0 : Int)) = Bool.false) →
     (True ∧
      R (SV.nm 0) ([some (Ob.row 30 3 ((0 : Nat)) (fun x x_1 => Rx.undefCell))]))))))))
def c1Q (ls : List (List Wd)) (i : Nat) (Rn : List SV → List (Option Ob) → Prop) (Re : Ex → List SV → List (Option Ob) → Prop) : Prop :=
(((Decidable.decide ((↑i : Int) < (↑ls.length : Int)) = Bool.true) →
 ((((0 : Int) ≤ (↑i : Int)) ∧
   ((↑i : Int) < (↑ls.length : Int))) ∧
  (((Rx.lo Go.IntKind.i64 ≤ (↑(Go.Proofs.Ytfpnadmpmfcaaaa.sumL ls i) : Int) + (↑(ls.getD (↑i : Int).toNat []).length : Int)) ∧
    ((↑(Go.Proofs.Ytfpnadmpmfcaaaa.sumL ls i) : Int) + (↑(ls.getD (↑i : Int).toNat []).length : Int) ≤ Rx.hi Go.IntKind.i64)) ∧
   (((Decidable.decide ((↑(Go.Proofs.Ytfpnadmpmfcaaaa.sumL ls i) : Int) + (↑(ls.getD (↑i : Int).toNat []).length : Int) < (0 : Int)) = Bool.true) →
     False) ∧
    ((Decidable.decide ((↑(Go.Proofs.Ytfpnadmpmfcaaaa.sumL ls i) : Int) + (↑(ls.getD (↑i : Int).toNat []).length : Int) < (0 : Int)) = Bool.false) →
     (((Rx.lo Go.IntKind.i64 ≤ (↑i : Int) + (1 : Int)) ∧
       ((↑i : Int) + (1 : Int) ≤ Rx.hi Go.IntKind.i64)) ∧
      Rn ([SV.dt (Dt.arr ((1 : Nat)) (ls.length) (Go.Proofs.Ytfpnadmpmfcaaaa.llF ls)), SV.dt (Dt.cell (Go.Value.int Go.IntKind.i64 ((↑(Go.Proofs.Ytfpnadmpmfcaaaa.sumL ls i) : Int) + (↑(ls.getD (↑i : Int).toNat []).length : Int)))), SV.dt (Dt.arr ((1 : Nat)) (ls.length) (Go.Proofs.Ytfpnadmpmfcaaaa.llF ls)), SV.dt (Dt.cell (Go.Value.int Go.IntKind.i64 (↑ls.length : Int))), SV.dt (Dt.cell (Go.Value.int Go.IntKind.i64 ((↑i : Int) + (1 : Int))))]) ([]))))))) ∧
((Decidable.decide ((↑i : Int) < (↑ls.length : Int)) = Bool.false) →
 Re (Rx.Ex.exit (0 : Nat)) ([SV.dt (Dt.arr ((1 : Nat)) (ls.length) (Go.Proofs.Ytfpnadmpmfcaaaa.llF ls)), SV.dt (Dt.cell (Go.Value.int Go.IntKind.i64 (↑(Go.Proofs.Ytfpnadmpmfcaaaa.sumL ls i) : Int)))]) ([])))
def c2Q (ls : List (List Wd)) (i : Nat) (Rn : List SV → List (Option Ob) → Prop) (Re : Ex → List SV → List (Option Ob) → Prop) : Prop :=
(((Decidable.decide ((↑i : Int) < (↑ls.length : Int)) = Bool.true) →
 ((((0 : Int) ≤ (↑i : Int)) ∧
   ((↑i : Int) < (↑ls.length : Int))) ∧
  ((((List.take i ls).flatten.length + (ls.getD (↑i : Int).toNat []).length) * (32 : Nat) ≤ (140737488355328 : Nat)) ∧
   (((Rx.lo Go.IntKind.i64 ≤ (↑i : Int) + (1 : Int)) ∧
     ((↑i : Int) + (1 : Int) ≤ Rx.hi Go.IntKind.i64)) ∧
    Rn ([SV.nm 0, SV.dt (Dt.arr ((1 : Nat)) (ls.length) (Go.Proofs.Ytfpnadmpmfcaaaa.llF ls)), SV.dt (Dt.cell (Go.Value.int Go.IntKind.i64 (↑ls.length : Int))), SV.dt (Dt.cell (Go.Value.int Go.IntKind.i64 ((↑i : Int) + (1 : Int))))]) ([some (Ob.row 30 3 ((List.take i ls).flatten.length + (ls.getD (↑i : Int).toNat []).length) (Rx.catF (List.take i ls).flatten.length (Go.Proofs.Ytfpnadmpmfcaaaa.wF (List.take i ls).flatten) (Go.Proofs.Ytfpnadmpmfcaaaa.wF (ls.getD (↑i : Int).toNat []))))]))))) ∧
((Decidable.decide ((↑i : Int) < (↑ls.length : Int)) = Bool.false) →
 Re (Rx.Ex.exit (2 : Nat)) ([SV.nm 0]) ([some (Ob.row 30 3 ((List.take i ls).flatten.length) (Go.Proofs.Ytfpnadmpmfcaaaa.wF (List.take i ls).flatten))])))
def concatQ (ls : List (List Wd)) (R : SV → List (Option Ob) → Prop) : Prop :=
(((Rx.leS (SV.dt (Dt.arr ((1 : Nat)) (ls.length) (Go.Proofs.Ytfpnadmpmfcaaaa.llF ls))) (SV.dt (Dt.arr ((1 : Nat)) ((Go.Proofs.Ytfpnadmpmfcaaaa.rdLL ls.length (Go.Proofs.Ytfpnadmpmfcaaaa.llF ls)).length) (Go.Proofs.Ytfpnadmpmfcaaaa.llF (Go.Proofs.Ytfpnadmpmfcaaaa.rdLL ls.length (Go.Proofs.Ytfpnadmpmfcaaaa.llF ls)))))) ∧
 ((Rx.leS (SV.dt (Dt.cell (Go.Value.int Go.IntKind.i64 (0 : Int)))) (SV.dt (Dt.cell (Go.Value.int Go.IntKind.i64 (↑(Go.Proofs.Ytfpnadmpmfcaaaa.sumL (Go.Proofs.Ytfpnadmpmfcaaaa.rdLL ls.length (Go.Proofs.Ytfpnadmpmfcaaaa.llF ls)) (0 : Nat)) : Int))))) ∧
  ((Rx.leS (SV.dt (Dt.arr ((1 : Nat)) (ls.length) (Go.Proofs.Ytfpnadmpmfcaaaa.llF ls))) (SV.dt (Dt.arr ((1 : Nat)) ((Go.Proofs.Ytfpnadmpmfcaaaa.rdLL ls.length (Go.Proofs.Ytfpnadmpmfcaaaa.llF ls)).length) (Go.Proofs.Ytfpnadmpmfcaaaa.llF (Go.Proofs.Ytfpnadmpmfcaaaa.rdLL ls.length (Go.Proofs.Ytfpnadmpmfcaaaa.llF ls)))))) ∧
   ((Rx.leS (SV.dt (Dt.cell (Go.Value.int Go.IntKind.i64 (↑ls.length : Int)))) (SV.dt (Dt.cell (Go.Value.int Go.IntKind.i64 (↑(Go.Proofs.Ytfpnadmpmfcaaaa.rdLL ls.length (Go.Proofs.Ytfpnadmpmfcaaaa.llF ls)).length : Int))))) ∧
    ((Rx.leS (SV.dt (Dt.cell (Go.Value.int Go.IntKind.i64 (0 : Int)))) (SV.dt (Dt.cell (Go.Value.int Go.IntKind.i64 (↑(0 : Nat) : Int))))) ∧
     True))))) ∧
((Rx.leOO ([]) ([])) ∧
 ((Go.Proofs.Ytfpnadmpmfcaaaa.fitsLL (Go.Proofs.Ytfpnadmpmfcaaaa.rdLL ls.length (Go.Proofs.Ytfpnadmpmfcaaaa.llF ls))) ∧
  ((Rx.leL ([SV.dt (Dt.cell (Go.Value.slice Option.none (0 : Nat) (0 : Nat))), SV.dt (Dt.cell (Go.Value.int Go.IntKind.i64 (↑(Go.Proofs.Ytfpnadmpmfcaaaa.rdLL ls.length (Go.Proofs.Ytfpnadmpmfcaaaa.llF ls)).flatten.length : Int)))]) ([SV.dt (Dt.cell (Go.Value.slice Option.none (0 : Nat) (0 : Nat))), SV.dt (Dt.cell (Go.Value.int Go.IntKind.i64 (↑(Go.Proofs.Ytfpnadmpmfcaaaa.rdLL ls.length (Go.Proofs.Ytfpnadmpmfcaaaa.llF ls)).flatten.length : Int)))])) ∧
   ((Rx.leObL ([]) ([])) ∧
    ((((0 : Int) ≤ (↑(Go.Proofs.Ytfpnadmpmfcaaaa.rdLL ls.length (Go.Proofs.Ytfpnadmpmfcaaaa.llF ls)).flatten.length : Int)) ∧
      ((↑(Go.Proofs.Ytfpnadmpmfcaaaa.rdLL ls.length (Go.Proofs.Ytfpnadmpmfcaaaa.llF ls)).flatten.length : Int) ≤ (4398046511104 : Int))) ∧
     (((Rx.leS (SV.nm 0) (SV.nm 0)) ∧
       ((Rx.leS (SV.dt (Dt.arr ((1 : Nat)) ((Go.Proofs.Ytfpnadmpmfcaaaa.rdLL ls.length (Go.Proofs.Ytfpnadmpmfcaaaa.llF ls)).length) (Go.Proofs.Ytfpnadmpmfcaaaa.llF (Go.Proofs.Ytfpnadmpmfcaaaa.rdLL ls.length (Go.Proofs.Ytfpnadmpmfcaaaa.llF ls))))) (SV.dt (Dt.arr ((1 : Nat)) ((Go.Proofs.Ytfpnadmpmfcaaaa.rdLL (Go.Proofs.Ytfpnadmpmfcaaaa.rdLL ls.length (Go.Proofs.Ytfpnadmpmfcaaaa.llF ls)).length (Go.Proofs.Ytfpnadmpmfcaaaa.llF (Go.Proofs.Ytfpnadmpmfcaaaa.rdLL ls.length (Go.Proofs.Ytfpnadmpmfcaaaa.llF ls)))).length) (Go.Proofs.Ytfpnadmpmfcaaaa.llF (Go.Proofs.Ytfpnadmpmfcaaaa.rdLL (Go.Proofs.Ytfpnadmpmfcaaaa.rdLL ls.length (Go.Proofs.Ytfpnadmpmfcaaaa.llF ls)).length (Go.Proofs.Ytfpnadmpmfcaaaa.llF (Go.Proofs.Ytfpnadmpmfcaaaa.rdLL ls.length (Go.Proofs.Ytfpnadmpmfcaaaa.llF ls)))))))) ∧
        ((Rx.leS (SV.dt (Dt.cell (Go.Value.int Go.IntKind.i64 (↑(Go.Proofs.Ytfpnadmpmfcaaaa.rdLL ls.length (Go.Proofs.Ytfpnadmpmfcaaaa.llF ls)).length : Int)))) (SV.dt (Dt.cell (Go.Value.int Go.IntKind.i64 (↑(Go.Proofs.Ytfpnadmpmfcaaaa.rdLL (Go.Proofs.Ytfpnadmpmfcaaaa.rdLL ls.length (Go.Proofs.Ytfpnadmpmfcaaaa.llF ls)).length (Go.Proofs.Ytfpnadmpmfcaaaa.llF (Go.Proofs.Ytfpnadmpmfcaaaa.rdLL ls.length (Go.Proofs.Ytfpnadmpmfcaaaa.llF ls)))).length : Int))))) ∧
         ((Rx.leS (SV.dt (Dt.cell (Go.Value.int Go.IntKind.i64 (0 : Int)))) (SV.dt (Dt.cell (Go.Value.int Go.IntKind.i64 (↑(0 : Nat) : Int))))) ∧
          True)))) ∧
      ((Rx.leOO ([some (Ob.row 30 3 (Go.Proofs.Ytfpnadmpmfcaaaa.noW.length) (Go.Proofs.Ytfpnadmpmfcaaaa.wF Go.Proofs.Ytfpnadmpmfcaaaa.noW))]) ([some (Ob.row 30 3 ((List.take (0 : Nat) (Go.Proofs.Ytfpnadmpmfcaaaa.rdLL (Go.Proofs.Ytfpnadmpmfcaaaa.rdLL ls.length (Go.Proofs.Ytfpnadmpmfcaaaa.llF ls)).length (Go.Proofs.Ytfpnadmpmfcaaaa.llF (Go.Proofs.Ytfpnadmpmfcaaaa.rdLL ls.length (Go.Proofs.Ytfpnadmpmfcaaaa.llF ls))))).flatten.length) (Go.Proofs.Ytfpnadmpmfcaaaa.wF (List.take (0 : Nat) (Go.Proofs.Ytfpnadmpmfcaaaa.rdLL (Go.Proofs.Ytfpnadmpmfcaaaa.rdLL ls.length (Go.Proofs.Ytfpnadmpmfcaaaa.llF ls)).length (Go.Proofs.Ytfpnadmpmfcaaaa.llF (Go.Proofs.Ytfpnadmpmfcaaaa.rdLL ls.length (Go.Proofs.Ytfpnadmpmfcaaaa.llF ls))))).flatten))])) ∧
       ((Go.Proofs.Ytfpnadmpmfcaaaa.fitsLL (Go.Proofs.Ytfpnadmpmfcaaaa.rdLL (Go.Proofs.Ytfpnadmpmfcaaaa.rdLL ls.length (Go.Proofs.Ytfpnadmpmfcaaaa.llF ls)).length (Go.Proofs.Ytfpnadmpmfcaaaa.llF (Go.Proofs.Ytfpnadmpmfcaaaa.rdLL ls.length (Go.Proofs.Ytfpnadmpmfcaaaa.llF ls))))) ∧
        (True ∧
         R (SV.nm 0) ([some (Ob.row 30 3 ((Go.Proofs.Ytfpnadmpmfcaaaa.rdLL (Go.Proofs.Ytfpnadmpmfcaaaa.rdLL ls.length (Go.Proofs.Ytfpnadmpmfcaaaa.llF ls)).length (Go.Proofs.Ytfpnadmpmfcaaaa.llF (Go.Proofs.Ytfpnadmpmfcaaaa.rdLL ls.length (Go.Proofs.Ytfpnadmpmfcaaaa.llF ls)))).flatten.length) (Go.Proofs.Ytfpnadmpmfcaaaa.wF (Go.Proofs.Ytfpnadmpmfcaaaa.rdLL (Go.Proofs.Ytfpnadmpmfcaaaa.rdLL ls.length (Go.Proofs.Ytfpnadmpmfcaaaa.llF ls)).length (Go.Proofs.Ytfpnadmpmfcaaaa.llF (Go.Proofs.Ytfpnadmpmfcaaaa.rdLL ls.length (Go.Proofs.Ytfpnadmpmfcaaaa.llF ls)))).flatten))])))))))))))
def cloneQ (l : List Wd) (R : SV → List (Option Ob) → Prop) : Prop :=
(((l.length.beq (0 : Nat) = Bool.true) →
 ((True ∧
   R (SV.nm 0) ([some (Ob.row 30 3 ((0 : Nat)) (fun x x_1 => Rx.undefCell))])) ∧
  ((((0 : Nat) + l.length) * (32 : Nat) ≤ (140737488355328 : Nat)) ∧
   (True ∧
    R (SV.nm 0) ([some (Ob.row 30 3 ((0 : Nat) + l.length) (Rx.catF (0 : Nat) (fun x x_1 => Rx.undefCell) (Go.Proofs.Ytfpnadmpmfcaaaa.wF l)))]))))) ∧
((l.length.beq (0 : Nat) = Bool.false) →
 ((((0 : Nat) + l.length) * (32 : Nat) ≤ (140737488355328 : Nat)) ∧
  (True ∧
   R (SV.nm 0) ([some (Ob.row 30 3 ((0 : Nat) + l.length) (Rx.catF (0 : Nat) (fun x x_1 => Rx.undefCell) (Go.Proofs.Ytfpnadmpmfcaaaa.wF l)))])))))
theorem rdLL_llF (ls : List (List Wd)) : rdLL ls.length (llF ls) = ls := by
  apply List.ext_getElem
  · simp [rdLL]
  · intro i h1 h2
    simp only [rdLL, List.getElem_map, List.getElem_range, llF]
    rw [rdF_wF]
    simp [h2]

theorem grow_ctr (n : Int) : Ctr Try.prog 30 [nilS, vI .i64 n] [] (growO n) := by
  refine ctr_fn mixed (N := 27) (fn := Try.f30) (c := bodyOf Try.f30) (ks := []) (ls := []) (by kernel_rfl) (by kernel_rfl) (by kernel_rfl) all_nil finW (fun c hc => by rw [show loopsOf (bodyOf Try.f30) = [] from by kernel_rfl] at hc; cases hc) (by kernel_rfl) (Q := growQ n) (fun post hp => ?_) (fun R => by kernel_rfl)
  obtain ⟨⟨h0, h1⟩, hp⟩ := hp
  have hp : post (.nm 0, [some (wR noW)]) := hp
  have leaf : ∀ f, Gives post (.nm 0) [some (.row 30 3 0 f)] := fun f => gives2 hp (leS_refl _) (by
    simp only [wR, noW, leOO_cons, leOb_row, leOO_nil, List.length_nil, and_true, true_and]
    intro k hk; omega)
  unfold growQ
  simp only [decide_eq_true_eq, decide_eq_false_iff_not, lo, hi, true_and]
  refine ⟨fun h => by omega, fun _ => ⟨⟨by omega, by omega⟩, ⟨by omega, by omega⟩, fun h => ⟨by omega, ⟨by omega, by omega⟩, ⟨by omega, by omega⟩, leaf _⟩, fun h => leaf _⟩⟩

theorem growF_ok : growF.Ok Try.prog := by
  intro al ol args obs out h
  unfold growF at h
  simp only at h
  split at h
  · split at h
    · simp only [Option.some.injEq, Prod.mk.injEq] at h
      obtain ⟨rfl, rfl, rfl⟩ := h
      exact grow_ctr _
    · cases h
  · cases h
theorem ccKs_ok : ∀ x ∈ ccKs, x.2.2.Ok Try.prog := all_cons growF_ok all_nil

theorem sumL_succ {ls : List (List Wd)} {i : Nat} (h : i < ls.length) : sumL ls (i + 1) = sumL ls i + (ls.getD i []).length ∧ (ls.take (i + 1)).flatten = (ls.take i).flatten ++ ls.getD i [] := by
  have e : (ls.take (i + 1)).flatten = (ls.take i).flatten ++ ls.getD i [] := by
    rw [List.take_add_one, List.flatten_append]
    simp [h]
  exact ⟨by unfold sumL; rw [e, List.length_append], e⟩

theorem sumL_le (ls : List (List Wd)) (i : Nat) : sumL ls i ≤ ls.flatten.length := by
  unfold sumL
  conv => rhs; rw [← List.take_append_drop i ls, List.flatten_append, List.length_append]
  omega

theorem sumL_all {ls : List (List Wd)} {i : Nat} (h : ls.length ≤ i) : sumL ls i = ls.flatten.length ∧ (ls.take i).flatten = ls.flatten := by
  unfold sumL
  rw [List.take_of_length_le h]
  exact ⟨rfl, rfl⟩

theorem wF_append (l m : List Wd) (k j : Nat) : catF l.length (wF l) (wF m) k j = wF (l ++ m) k j := by
  unfold catF
  cases h : Nat.blt k l.length with
  | true =>
    rw [Nat.blt_eq] at h
    simp [wF, List.getElem?_append, h]
  | false =>
    have : ¬ k < l.length := fun h' => by rw [← Nat.blt_eq] at h'; rw [h'] at h; cases h
    simp [wF, List.getElem?_append, this]

theorem c1Loop_ok (ls : List (List Wd)) (i : Nat) : Sound ccE (.loop c1Loop) (mkSt (c1LF.live.h.zip (c1Args ls i)) []) ((c1Out ls i).map (OutC.st c1LF.live)) := by
  refine loop_fn mixed ccKs_ok (fun c hc => by rw [show loopsOf c1Loop = [] from by kernel_rfl] at hc; cases hc) c1LF.live (c1Args ls) (fun _ => []) (c1Out ls) (fun i => ls.length - i) (Q := fun i Rn Re => c1Q ls i Rn Re) ?_ (fun i Rn Re => by kernel_rfl) i
  intro i post hp
  obtain ⟨hfit, hp⟩ := hp
  obtain ⟨f1, f2⟩ := hfit
  have hp : post (.exit 0, [llD ls, vI .i64 ls.flatten.length], []) := hp
  have h3 := sumL_le ls (i + 1)
  unfold c1Q
  simp only [decide_eq_true_eq, decide_eq_false_iff_not, lo, hi, Int.toNat_natCast, Int.ofNat_lt]
  refine ⟨fun h => ?_, fun h => Outs.mk hp ?_ (leOO_refl _)⟩
  · obtain ⟨s1, s2⟩ := sumL_succ h
    refine ⟨⟨by omega, h⟩, ⟨by omega, by omega⟩, fun h' => ?_, fun _ => ⟨⟨by omega, by omega⟩, i + 1, ?_, ?_, leOO_refl _, ⟨f1, f2⟩, hp⟩⟩
    · omega
    · omega
    simp only [c1Args, leL_cons, leS_int, leL_nil, and_true, true_and]
    exact ⟨leS_refl _, by rw [s1]; omega, leS_refl _, by omega⟩
  · simp only [leL_cons, leS_int, leL_nil, and_true]
    exact ⟨leS_refl _, by rw [(sumL_all (Nat.not_lt.1 h)).1]⟩

theorem c2Loop_ok (ls : List (List Wd)) (i : Nat) : Sound ccE (.loop c2Loop) (mkSt (c2LF.live.h.zip (c2Args ls i)) (c2Obs ls i)) ((c2Out ls i).map (OutC.st c2LF.live)) := by
  refine loop_fn mixed ccKs_ok (fun c hc => by rw [show loopsOf c2Loop = [] from by kernel_rfl] at hc; cases hc) c2LF.live (c2Args ls) (c2Obs ls) (c2Out ls) (fun i => ls.length - i) (Q := fun i Rn Re => c2Q ls i Rn Re) ?_ (fun i Rn Re => by kernel_rfl) i
  intro i post hp
  obtain ⟨hfit, hp⟩ := hp
  obtain ⟨f1, f2⟩ := hfit
  have hp : post (.exit 2, [.nm 0], [some (wR ls.flatten)]) := hp
  have h3 := sumL_le ls (i + 1)
  unfold c2Q
  simp only [decide_eq_true_eq, decide_eq_false_iff_not, lo, hi, Int.toNat_natCast, Int.ofNat_lt]
  refine ⟨fun h => ?_, fun h => ?_⟩
  · obtain ⟨s1, s2⟩ := sumL_succ h
    refine ⟨⟨by omega, h⟩, ?_, ⟨by omega, by omega⟩, i + 1, by omega, ?_, ?_, ⟨f1, f2⟩, hp⟩
    · have : sumL ls i = (ls.take i).flatten.length := rfl
      omega
    · simp only [c2Args, leL_cons, leS_int, leL_nil, and_true, true_and]
      exact ⟨leS_refl _, leS_refl _, by omega⟩
    · simp only [c2Obs, wR, leOO_cons, leOb_row, leOO_nil, and_true, true_and]
      rw [s2]
      refine ⟨by rw [List.length_append], fun k _ j _ => ?_⟩
      rw [wF_append]; exact leDt_refl _
  · refine Outs.mk hp (leL_refl _) ?_
    rw [← (sumL_all (Nat.not_lt.1 h)).2]
    exact leOO_refl _

theorem ccLok : ccE.Lok (loopsOf (bodyOf Try.f23)) := by
  rw [show loopsOf (bodyOf Try.f23) = [c1Loop, c2Loop] from by kernel_rfl]
  have r1 : firstRid c1Loop = 3 := by kernel_rfl
  have r2 : firstRid c2Loop = 11 := by kernel_rfl
  refine fnE_Lok (all_cons (all_cons (fun _ => ?_) (all_cons (fun h => ?_) all_nil)) (all_cons (all_cons (fun h => ?_) (all_cons (fun _ => ?_) all_nil)) all_nil))
  · intro svs obl args obs out h
    unfold c1LF at h
    simp only at h
    split at h
    · simp only [Option.some.injEq, Prod.mk.injEq] at h
      obtain ⟨rfl, rfl, rfl⟩ := h
      exact c1Loop_ok _ _
    · cases h
  · rw [r2] at h; exact absurd h (by decide)
  · rw [r1] at h; exact absurd h (by decide)
  · intro svs obl args obs out h
    unfold c2LF at h
    simp only at h
    split at h
    · simp only [Option.some.injEq, Prod.mk.injEq] at h
      obtain ⟨rfl, rfl, rfl⟩ := h
      exact c2Loop_ok _ _
    · cases h

theorem concat_ctr (ls : List (List Wd)) : Ctr Try.prog 23 [llD ls] [] (concatO ls) := by
  refine ctr_fn mixed (N := 36) (fn := Try.f23) (c := bodyOf Try.f23) (ks := ccKs) (ls := [c1LF, c2LF]) (by kernel_rfl) (by kernel_rfl) (by kernel_rfl) ccKs_ok fin0 ccLok (by kernel_rfl) (Q := concatQ ls) (fun post hp => ?_) (fun R => by kernel_rfl)
  obtain ⟨hfit, hp⟩ := hp
  have hp : post (.nm 0, [some (wR ls.flatten)]) := hp
  have f1 := hfit.1
  unfold concatQ
  simp only [rdLL_llF, leL_self, leObL_self, leS_self, leOO_self, true_and, and_true]
  refine ⟨?_, hfit, ⟨by omega, f1⟩, ?_, leOO_refl [some (wR noW)], hfit, gives2 hp (leS_refl _) (leOO_refl _)⟩
  · rw [leS_int, leS_int]; exact ⟨by simp [sumL], rfl⟩
  · rw [leS_int]; rfl

theorem clone_ctr (l : List Wd) : Ctr Try.prog 29 [wD l] [] (.need (fitsW l) (.ret (.nm 0, [some (wR l)]))) := by
  refine ctr_fn mixed (N := 8) (fn := Try.f29) (c := bodyOf Try.f29) (ks := []) (ls := []) (by kernel_rfl) (by kernel_rfl) (by kernel_rfl) all_nil finW (fun c hc => by rw [show loopsOf (bodyOf Try.f29) = [] from by kernel_rfl] at hc; cases hc) (by kernel_rfl) (Q := cloneQ l) (fun post hp => ?_) (fun R => by kernel_rfl)
  obtain ⟨hfit, hp⟩ := hp
  have hfit : (l.length : Int) ≤ 4398046511104 := hfit
  have hp : post (.nm 0, [some (wR l)]) := hp
  unfold cloneQ
  have leaf : ∀ f n, n = l.length → (∀ k, k < l.length → ∀ j, j < 3 → leDt (f k j) (wF l k j)) → Gives post (.nm 0) [some (.row 30 3 n f)] := by
    rintro f n rfl hf
    refine gives2 hp (leS_refl _) ?_
    simp only [wR, leOO_cons, leOb_row, leOO_nil, and_true, true_and]
    exact hf
  have hc : ∀ k, k < l.length → ∀ j, j < 3 → leDt (catF 0 (fun _ _ => undefCell) (wF l) k j) (wF l k j) := fun k _ j _ => by
    have : catF 0 (fun _ _ => undefCell) (wF l) k j = wF l k j := by
      unfold catF
      have : Nat.blt k 0 = false := by cases h : Nat.blt k 0 with
        | false => rfl
        | true => rw [Nat.blt_eq] at h; omega
      rw [this]; rfl
    rw [this]; exact leDt_refl _
  refine ⟨fun h => ⟨⟨trivial, leaf _ _ (Nat.eq_of_beq_eq_true h).symm fun k hk => ?_⟩, by omega, trivial, leaf _ _ (by omega) hc⟩, fun _ => ⟨by omega, trivial, leaf _ _ (by omega) hc⟩⟩
  have := Nat.eq_of_beq_eq_true h
  omega

def cloneF : FC := ⟨29, true, false, fun al ol => match al, ol with
  | [s], [] => match rdL s with
    | some l => some ([wD l], [], .need (fitsW l) (.ret (.nm 0, [some (wR l)])))
    | none => none
  | _, _ => none⟩
def concatF : FC := ⟨23, true, false, fun al ol => match al, ol with
  | [.dt (.arr 1 n f)], [] => some ([llD (rdLL n f)], [], concatO (rdLL n f))
  | _, _ => none⟩
theorem cloneF_ok : cloneF.Ok Try.prog := by
  intro al ol args obs out h
  unfold cloneF at h
  simp only at h
  split at h
  · split at h
    · simp only [Option.some.injEq, Prod.mk.injEq] at h
      obtain ⟨rfl, rfl, rfl⟩ := h
      exact clone_ctr _
    · cases h
  · cases h
theorem concatF_ok : concatF.Ok Try.prog := by
  intro al ol args obs out h
  unfold concatF at h
  simp only at h
  split at h
  · simp only [Option.some.injEq, Prod.mk.injEq] at h
    obtain ⟨rfl, rfl, rfl⟩ := h
    exact concat_ctr _
  · cases h
end Go.Proofs.Ytfpnadmpmfcaaaa
