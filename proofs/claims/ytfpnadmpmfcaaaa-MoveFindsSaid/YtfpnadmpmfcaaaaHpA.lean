/- Heap words as data; the smallest functions. -/
import Derived.Test.YtfpnadmpmfcaaaaRxT
import Derived.Test.YtfpnadmpmfcaaaaRows
import Derived.KernelRfl
open Rx Go
namespace Go.Proofs.Ytfpnadmpmfcaaaa

noncomputable def mkE (N nb : Nat) (K : Nat → Nat → Option Summ) (L : Code → St → Option LI) : Env := ⟨Try.prog, N, nb, K, L, false⟩
def noK : Nat → Nat → Option Summ := fun _ _ => none
def noL : Code → St → Option LI := fun _ _ => none
noncomputable def bodyOf (f : Func) : Code := f.body.getD .skip
theorem mixed : Try.prog.follows .mixedOrders = true := by kernel_rfl

/-! ## words -/
structure Wd where
  k : Int
  n : Int
  s : ByteArray
  deriving Inhabited

instance : DecidableEq Wd := fun a b =>
  if h : a.k = b.k ∧ a.n = b.n ∧ a.s = b.s then isTrue (by cases a; cases b; simp at h; simp [h]) else isFalse (by rintro rfl; simp at h)

def wC (w : Wd) (j : Nat) : Dt :=
  match j with
  | 0 => .cell (.int .i64 w.k)
  | 1 => .cell (.int .i64 w.n)
  | _ => .cell (.string w.s)
def wS (w : Wd) : SV := .agg [vI .i64 w.k, vI .i64 w.n, vS w.s]
def wF (l : List Wd) (i j : Nat) : Dt := wC (l.getD i default) j
def wD (l : List Wd) : SV := .dt (.arr 3 l.length (wF l))
def at' (l : List Wd) (i : Int) : Wd := l.getD i.toNat default

/-- readers of symbolic values -/
def rdI : SV → Option Int
  | .dt (.cell (.int .i64 n)) => some n
  | _ => none
def rdW : SV → Option Wd
  | .agg [.dt (.cell (.int .i64 k)), .dt (.cell (.int .i64 n)), .dt (.cell (.string s))] => some ⟨k, n, s⟩
  | _ => none
def rdC (f : Nat → Dt) : Wd :=
  ⟨match f 0 with
    | .cell (.int _ k) => k
    | _ => 0, match f 1 with
    | .cell (.int _ k) => k
    | _ => 0, match f 2 with
    | .cell (.string s) => s
    | _ => default⟩
def rdF (n : Nat) (f : Nat → Nat → Dt) : List Wd := (List.range n).map fun i => rdC (f i)
def rdL : SV → Option (List Wd)
  | .dt (.arr 3 n f) => some (rdF n f)
  | .dt (.cell (.slice none 0 _)) => some []
  | _ => none

theorem rdC_wC (w : Wd) : rdC (wC w) = w := rfl
theorem rdF_wF (l : List Wd) : rdF l.length (wF l) = l := by
  apply List.ext_getElem
  · simp [rdF]
  · intro i h1 h2
    simp only [rdF, List.getElem_map, List.getElem_range]
    have : wF l i = wC (l.getD i default) := rfl
    rw [this, rdC_wC]
    simp [h2]

/-! ## a function without calls or loops -/
theorem ctr0 {N f : Nat} {fn : Func} {c : Code} (hf : Try.prog.funcs[f]? = some fn) (hb : fn.body = some c) (hN : fn.ntmps = N) (hL : loopsOf c = [])
    {args : List SV} {obs : List Ob} {out : T Out} (fi : Fin)
    (hchk : (Nat.ble args.length N && capOk args.length && capOk obs.length) = true)
    {Q : (SV → List (Option Ob) → Prop) → Prop} (hQ : ∀ post, out.holds post → Q (Gives post)) (he : ∀ R, Q R = (sxCode (mkE N obs.length noK noL) c (entry args obs)).holds (doneP (mkE N obs.length noK noL) fn fi R)) : Ctr Try.prog f args obs out :=
  ctr_by (E := mkE N obs.length noK noL) (fun _ _ _ h => by cases h) mixed fn c hf hb hN (fun c hc => by rw [hL] at hc; cases hc) fi rfl hchk hQ he

/-! ## picked -/
def pickedS (n m : Int) : Int := (if n < 0 then 0 - (n + 1) else n).tmod m

def pickedQ (n m : Int) (R : SV → List (Option Ob) → Prop) : Prop :=
(((Decidable.decide (n < (0 : Int)) = Bool.true) →
 (((Rx.lo Go.IntKind.i64 ≤ n + (1 : Int)) ∧
   (n + (1 : Int) ≤ Rx.hi Go.IntKind.i64)) ∧
  (((Rx.lo Go.IntKind.i64 ≤ (0 : Int) - (n + (1 : Int))) ∧
    ((0 : Int) - (n + (1 : Int)) ≤ Rx.hi Go.IntKind.i64)) ∧
   ((m ≠ (0 : Int)) ∧
    (True ∧
     R (SV.dt (Dt.cell (Go.Value.int Go.IntKind.i64 (((0 : Int) - (n + (1 : Int))).tmod m)))) ([])))))) ∧
((Decidable.decide (n < (0 : Int)) = Bool.false) →
 ((m ≠ (0 : Int)) ∧
  (True ∧
   R (SV.dt (Dt.cell (Go.Value.int Go.IntKind.i64 (n.tmod m)))) ([])))))

def isInt (n : Int) : Prop := -9223372036854775808 ≤ n ∧ n ≤ 9223372036854775807

def pickedO (n m : Int) : T Out := .need (isInt n ∧ m ≠ 0) (.ret (vI .i64 (pickedS n m), []))

theorem picked_ctr (n m : Int) : Ctr Try.prog 10 [vI .i64 n, vI .i64 m] [] (pickedO n m) := by
  refine ctr0 (N := 13) (fn := Try.f10) (c := bodyOf Try.f10) (by kernel_rfl) (by kernel_rfl) (by kernel_rfl) (by kernel_rfl) fin0 (by kernel_rfl) (Q := pickedQ n m) (fun post hp => ?_) (fun R => by kernel_rfl)
  obtain ⟨⟨⟨h1, h2⟩, hm⟩, hp⟩ := hp
  unfold pickedQ
  simp only [lo, hi, decide_eq_true_eq, decide_eq_false_iff_not]
  refine ⟨fun h => ⟨⟨by omega, by omega⟩, ⟨by omega, by omega⟩, hm, trivial, ?_⟩, fun h => ⟨hm, trivial, ?_⟩⟩
  · exact ⟨_, hp, by rw [leS_cell, pickedS, if_pos h], leOO_refl _⟩
  · exact ⟨_, hp, by rw [leS_cell, pickedS, if_neg h], leOO_refl _⟩

end Go.Proofs.Ytfpnadmpmfcaaaa
