/- A datum is shown: check, write, Show. -/
import Derived.Test.YtnalaogenpicfaaDoorRdU
set_option linter.unusedSimpArgs false
set_option linter.unusedVariables false
open Rx Go
namespace Rd
--PROG prog

/-! ## what is written -/
def wrN : Nat → (Nat → List UInt8) → List UInt8
  | 0, _ => []
  | n + 1, g => wrN n g ++ ((if n = 0 then [] else [32]) ++ g n)
def wrI (k n : Int) (s : ByteArray) (sub : List UInt8) : List UInt8 :=
  if k = 1 then (itoaB n).data.toList else if k = 2 then (if n = 1 then [35, 116] else [35, 102]) else if k = 3 then s.data.toList else 40 :: (sub ++ [41])
def dtInt : Dt → Int
  | .cell (.int _ n) => n
  | _ => 0
def dtStr : Dt → ByteArray
  | .cell (.string s) => s
  | _ => noS
/-- the items of an array of data -/
def wrA : Dt → List UInt8
  | .arr sz n f => if sz = 4 then wrN n fun i => wrI (dtInt (f i 0)) (dtInt (f i 1)) (dtStr (f i 2)) (wrA (f i 3)) else []
  | .cell _ => []
  | .mp _ _ _ => []
  | .ifc => []
def wrX (k n : Int) (s : ByteArray) (m : Nat) (f : Nat → Nat → Dt) : List UInt8 := wrI k n s (wrA (.arr 4 m f))
def wrD (d : Dm) : List UInt8 := wrX d.k d.n d.s d.l.length (dmL d.l)

mutual
/-- may a datum be, at a level? -/
def gd : Dm → Int → Prop
  | .mk k n s l, lv => lv ≤ 40 ∧ ((k = 1 ∧ -1099511627776 ≤ n ∧ n ≤ 1099511627776 ∧ s = noS ∧ l = []) ∨ (k = 2 ∧ (n = 0 ∨ n = 1) ∧ s = noS ∧ l = []) ∨ (k = 3 ∧ n = 0 ∧ symB s = true ∧ l = []) ∨ (k = 4 ∧ n = 0 ∧ s = noS ∧ gdL l (lv + 1)))
def gdL : List Dm → Int → Prop
  | [], _ => True
  | d :: l, lv => gd d lv ∧ gdL l lv
end
theorem gdL_mem : ∀ {l : List Dm} {lv : Int} {d : Dm}, gdL l lv → d ∈ l → gd d lv
  | x :: l, lv, d, h, hd => by
    simp only [gdL] at h
    rcases List.mem_cons.1 hd with rfl | hd
    · exact h.1
    · exact gdL_mem h.2 hd

/-! ## check: a datum that may be, by its kind -/
def CkP (l : List Dm) (lv k n : Int) (s : ByteArray) (m : Nat) (f : Nat → Nat → Dt) : Prop := 0 ≤ lv ∧ ∃ d, d ∈ l ∧ leS (sdX k n s m f) (dmS d) ∧ gd d lv
def ckF (l : List Dm) (lv : Int) : FC := ⟨f_check, false, false, fun al ol => match al, ol with
  | [.agg [k, n, s, .dt (.arr 4 m f)], v], [] => match rdI k, rdI n, rdS s, rdI v with
    | some k, some n, some s, some v => some ([sdX k n s m f, vI .i64 v], [], .need (CkP l v k n s m f) (.ret (.ki .i64 0, [])))
    | _, _, _, _ => none
  | _, _ => none⟩
def ckArgs (l : List Dm) (lv : Int) (i : Nat) : List SV := [vI .i64 lv, dmB l, vI .i64 l.length, vI .i64 i]
def ckOut (l : List Dm) (lv : Int) (i : Nat) : T OutC := .need (i ≤ l.length ∧ 0 ≤ lv ∧ lv ≤ 40 ∧ gdL l (lv + 1)) (.ret (.exit 1, [], []))
def ckLF (l : List Dm) (lv : Int) : LF := ⟨13, ⟨[1, 90, 91, 92], [], [4]⟩, fun _ _ => some (ckArgs l lv 0, [], ckOut l lv 0)⟩
def ckKs (l : List Dm) (lv : Int) : List (Nat × Nat × FC) := [(8, 6, syF), (15, 3, ckF l (lv + 1))]
noncomputable def ckEnv (l : List Dm) (lv : Int) : Env := fnE prog 104 0 (ckKs l lv) [ckLF l lv]
noncomputable def ckLoop : Code := (loopIn 13 (bodyOf c_check)).getD .skip
def kX (k : Int) (n : SV) (s : ByteArray) (x : SV) : SV := .agg [.ki .i64 k, n, vS s, x]
def nilS' : SV := .dt (.cell (.slice none 0 0))
def ckLoopQ (l : List Dm) (lv : Int) (i : Nat) (Rn : List SV → List (Option Ob) → Prop) (Re : Ex → List SV → List (Option Ob) → Prop) : Prop :=
(((Decidable.decide ((↑i : Int) < (↑l.length : Int)) = Bool.true) →
 ((((0 : Int) ≤ (↑i : Int)) ∧
   ((↑i : Int) < (↑l.length : Int))) ∧
  (((Rx.lo Go.IntKind.i64 ≤ lv + (1 : Int)) ∧
    (lv + (1 : Int) ≤ Rx.hi Go.IntKind.i64)) ∧
   ((Rx.leL ([SV.agg [SV.dt (Dt.cell (Go.Value.int Go.IntKind.i64 (l.getD (↑i : Int).toNat Rd.d0).k)), SV.dt (Dt.cell (Go.Value.int Go.IntKind.i64 (l.getD (↑i : Int).toNat Rd.d0).n)), SV.dt (Dt.cell (Go.Value.string (l.getD (↑i : Int).toNat Rd.d0).s)), SV.dt (Dt.arr ((4 : Nat)) ((l.getD (↑i : Int).toNat Rd.d0).l.length) (Rd.dmL (l.getD (↑i : Int).toNat Rd.d0).l))], SV.dt (Dt.cell (Go.Value.int Go.IntKind.i64 (lv + (1 : Int))))]) ([SV.agg [SV.dt (Dt.cell (Go.Value.int Go.IntKind.i64 (l.getD (↑i : Int).toNat Rd.d0).k)), SV.dt (Dt.cell (Go.Value.int Go.IntKind.i64 (l.getD (↑i : Int).toNat Rd.d0).n)), SV.dt (Dt.cell (Go.Value.string (l.getD (↑i : Int).toNat Rd.d0).s)), SV.dt (Dt.arr ((4 : Nat)) ((l.getD (↑i : Int).toNat Rd.d0).l.length) (Rd.dmL (l.getD (↑i : Int).toNat Rd.d0).l))], SV.dt (Dt.cell (Go.Value.int Go.IntKind.i64 (lv + (1 : Int))))])) ∧
    ((Rx.leObL ([]) ([])) ∧
     ((Rd.CkP l (lv + (1 : Int)) (l.getD (↑i : Int).toNat Rd.d0).k (l.getD (↑i : Int).toNat Rd.d0).n (l.getD (↑i : Int).toNat Rd.d0).s (l.getD (↑i : Int).toNat Rd.d0).l.length (Rd.dmL (l.getD (↑i : Int).toNat Rd.d0).l)) ∧
      (((Rx.lo Go.IntKind.i64 ≤ (↑i : Int) + (1 : Int)) ∧
        ((↑i : Int) + (1 : Int) ≤ Rx.hi Go.IntKind.i64)) ∧
       Rn ([SV.dt (Dt.cell (Go.Value.int Go.IntKind.i64 lv)), SV.dt (Dt.arr ((4 : Nat)) (l.length) (Rd.dmC l)), SV.dt (Dt.cell (Go.Value.int Go.IntKind.i64 (↑l.length : Int))), SV.dt (Dt.cell (Go.Value.int Go.IntKind.i64 ((↑i : Int) + (1 : Int))))]) ([])))))))) ∧
((Decidable.decide ((↑i : Int) < (↑l.length : Int)) = Bool.false) →
 Re (Rx.Ex.exit (1 : Nat)) ([]) ([])))
def ckQ1 (n : Int) (l : List Dm) (lv : Int) (R : SV → List (Option Ob) → Prop) : Prop :=
(((Decidable.decide (lv > (40 : Int)) = Bool.true) →
 (True ∧
  R (SV.dt (Dt.cell (Go.Value.int Go.IntKind.i64 (8 : Int)))) ([]))) ∧
((Decidable.decide (lv > (40 : Int)) = Bool.false) →
 (((Decidable.decide (n < (-1099511627776 : Int)) = Bool.true) →
   (True ∧
    R (SV.dt (Dt.cell (Go.Value.int Go.IntKind.i64 (2 : Int)))) ([]))) ∧
  ((Decidable.decide (n < (-1099511627776 : Int)) = Bool.false) →
   (((Decidable.decide (n > (1099511627776 : Int)) = Bool.true) →
     (((Decidable.decide (n > (1099511627776 : Int)) = Bool.true) →
       (True ∧
        R (SV.dt (Dt.cell (Go.Value.int Go.IntKind.i64 (2 : Int)))) ([]))) ∧
      ((Decidable.decide (n > (1099511627776 : Int)) = Bool.false) →
       ((((!(([] : List UInt8) == [])) = Bool.true) →
         (True ∧
          R (SV.dt (Dt.cell (Go.Value.int Go.IntKind.i64 (4 : Int)))) ([]))) ∧
        (((!(([] : List UInt8) == [])) = Bool.false) →
         (((Decidable.decide ((↑l.length : Int) > (0 : Int)) = Bool.true) →
           (True ∧
            R (SV.dt (Dt.cell (Go.Value.int Go.IntKind.i64 (4 : Int)))) ([]))) ∧
          ((Decidable.decide ((↑l.length : Int) > (0 : Int)) = Bool.false) →
           (((Rx.leS (SV.dt (Dt.cell (Go.Value.int Go.IntKind.i64 lv))) (SV.dt (Dt.cell (Go.Value.int Go.IntKind.i64 lv)))) ∧
             ((Rx.leS (SV.dt (Dt.arr ((4 : Nat)) (l.length) (Rd.dmC l))) (SV.dt (Dt.arr ((4 : Nat)) (l.length) (Rd.dmC l)))) ∧
              ((Rx.leS (SV.dt (Dt.cell (Go.Value.int Go.IntKind.i64 (↑l.length : Int)))) (SV.dt (Dt.cell (Go.Value.int Go.IntKind.i64 (↑l.length : Int))))) ∧
               ((Rx.leS (SV.dt (Dt.cell (Go.Value.int Go.IntKind.i64 (0 : Int)))) (SV.dt (Dt.cell (Go.Value.int Go.IntKind.i64 (↑(0 : Nat) : Int))))) ∧
                True)))) ∧
            ((Rx.leOO ([]) ([])) ∧
             ((((0 : Nat) ≤ l.length) ∧
               (((0 : Int) ≤ lv) ∧
                ((lv ≤ (40 : Int)) ∧
                 (Rd.gdL l (lv + (1 : Int)))))) ∧
              (True ∧
               R (SV.dt (Dt.cell (Go.Value.int Go.IntKind.i64 (0 : Int)))) ([])))))))))))) ∧
    ((Decidable.decide (n > (1099511627776 : Int)) = Bool.false) →
     ((((!(([] : List UInt8) == [])) = Bool.true) →
       (True ∧
        R (SV.dt (Dt.cell (Go.Value.int Go.IntKind.i64 (4 : Int)))) ([]))) ∧
      (((!(([] : List UInt8) == [])) = Bool.false) →
       (((Decidable.decide ((↑l.length : Int) > (0 : Int)) = Bool.true) →
         (True ∧
          R (SV.dt (Dt.cell (Go.Value.int Go.IntKind.i64 (4 : Int)))) ([]))) ∧
        ((Decidable.decide ((↑l.length : Int) > (0 : Int)) = Bool.false) →
         (((Rx.leS (SV.dt (Dt.cell (Go.Value.int Go.IntKind.i64 lv))) (SV.dt (Dt.cell (Go.Value.int Go.IntKind.i64 lv)))) ∧
           ((Rx.leS (SV.dt (Dt.arr ((4 : Nat)) (l.length) (Rd.dmC l))) (SV.dt (Dt.arr ((4 : Nat)) (l.length) (Rd.dmC l)))) ∧
            ((Rx.leS (SV.dt (Dt.cell (Go.Value.int Go.IntKind.i64 (↑l.length : Int)))) (SV.dt (Dt.cell (Go.Value.int Go.IntKind.i64 (↑l.length : Int))))) ∧
             ((Rx.leS (SV.dt (Dt.cell (Go.Value.int Go.IntKind.i64 (0 : Int)))) (SV.dt (Dt.cell (Go.Value.int Go.IntKind.i64 (↑(0 : Nat) : Int))))) ∧
              True)))) ∧
          ((Rx.leOO ([]) ([])) ∧
           ((((0 : Nat) ≤ l.length) ∧
             (((0 : Int) ≤ lv) ∧
              ((lv ≤ (40 : Int)) ∧
               (Rd.gdL l (lv + (1 : Int)))))) ∧
            (True ∧
             R (SV.dt (Dt.cell (Go.Value.int Go.IntKind.i64 (0 : Int)))) ([])))))))))))))))
def ckQ2 (n : Int) (l : List Dm) (lv : Int) (R : SV → List (Option Ob) → Prop) : Prop :=
(((Decidable.decide (lv > (40 : Int)) = Bool.true) →
 (True ∧
  R (SV.dt (Dt.cell (Go.Value.int Go.IntKind.i64 (8 : Int)))) ([]))) ∧
((Decidable.decide (lv > (40 : Int)) = Bool.false) →
 (((Decidable.decide (n < (0 : Int)) = Bool.true) →
   (True ∧
    R (SV.dt (Dt.cell (Go.Value.int Go.IntKind.i64 (2 : Int)))) ([]))) ∧
  ((Decidable.decide (n < (0 : Int)) = Bool.false) →
   (((Decidable.decide (n > (1 : Int)) = Bool.true) →
     (True ∧
      R (SV.dt (Dt.cell (Go.Value.int Go.IntKind.i64 (2 : Int)))) ([]))) ∧
    ((Decidable.decide (n > (1 : Int)) = Bool.false) →
     ((((!(([] : List UInt8) == [])) = Bool.true) →
       (True ∧
        R (SV.dt (Dt.cell (Go.Value.int Go.IntKind.i64 (4 : Int)))) ([]))) ∧
      (((!(([] : List UInt8) == [])) = Bool.false) →
       (((Decidable.decide ((↑l.length : Int) > (0 : Int)) = Bool.true) →
         (True ∧
          R (SV.dt (Dt.cell (Go.Value.int Go.IntKind.i64 (4 : Int)))) ([]))) ∧
        ((Decidable.decide ((↑l.length : Int) > (0 : Int)) = Bool.false) →
         (((Rx.leS (SV.dt (Dt.cell (Go.Value.int Go.IntKind.i64 lv))) (SV.dt (Dt.cell (Go.Value.int Go.IntKind.i64 lv)))) ∧
           ((Rx.leS (SV.dt (Dt.arr ((4 : Nat)) (l.length) (Rd.dmC l))) (SV.dt (Dt.arr ((4 : Nat)) (l.length) (Rd.dmC l)))) ∧
            ((Rx.leS (SV.dt (Dt.cell (Go.Value.int Go.IntKind.i64 (↑l.length : Int)))) (SV.dt (Dt.cell (Go.Value.int Go.IntKind.i64 (↑l.length : Int))))) ∧
             ((Rx.leS (SV.dt (Dt.cell (Go.Value.int Go.IntKind.i64 (0 : Int)))) (SV.dt (Dt.cell (Go.Value.int Go.IntKind.i64 (↑(0 : Nat) : Int))))) ∧
              True)))) ∧
          ((Rx.leOO ([]) ([])) ∧
           ((((0 : Nat) ≤ l.length) ∧
             (((0 : Int) ≤ lv) ∧
              ((lv ≤ (40 : Int)) ∧
               (Rd.gdL l (lv + (1 : Int)))))) ∧
            (True ∧
             R (SV.dt (Dt.cell (Go.Value.int Go.IntKind.i64 (0 : Int)))) ([])))))))))))))))
def ckQ3 (s : ByteArray) (l : List Dm) (lv : Int) (R : SV → List (Option Ob) → Prop) : Prop :=
(((Decidable.decide (lv > (40 : Int)) = Bool.true) →
 (True ∧
  R (SV.dt (Dt.cell (Go.Value.int Go.IntKind.i64 (8 : Int)))) ([]))) ∧
((Decidable.decide (lv > (40 : Int)) = Bool.false) →
 ((Rx.leL ([SV.dt (Dt.cell (Go.Value.string s))]) ([SV.dt (Dt.cell (Go.Value.string s))])) ∧
  ((Rx.leObL ([]) ([])) ∧
   ((((!Rd.symB s) = Bool.true) →
     (True ∧
      R (SV.dt (Dt.cell (Go.Value.int Go.IntKind.i64 (4 : Int)))) ([]))) ∧
    (((!Rd.symB s) = Bool.false) →
     (((Decidable.decide ((↑l.length : Int) > (0 : Int)) = Bool.true) →
       (True ∧
        R (SV.dt (Dt.cell (Go.Value.int Go.IntKind.i64 (4 : Int)))) ([]))) ∧
      ((Decidable.decide ((↑l.length : Int) > (0 : Int)) = Bool.false) →
       (((Rx.leS (SV.dt (Dt.cell (Go.Value.int Go.IntKind.i64 lv))) (SV.dt (Dt.cell (Go.Value.int Go.IntKind.i64 lv)))) ∧
         ((Rx.leS (SV.dt (Dt.arr ((4 : Nat)) (l.length) (Rd.dmC l))) (SV.dt (Dt.arr ((4 : Nat)) (l.length) (Rd.dmC l)))) ∧
          ((Rx.leS (SV.dt (Dt.cell (Go.Value.int Go.IntKind.i64 (↑l.length : Int)))) (SV.dt (Dt.cell (Go.Value.int Go.IntKind.i64 (↑l.length : Int))))) ∧
           ((Rx.leS (SV.dt (Dt.cell (Go.Value.int Go.IntKind.i64 (0 : Int)))) (SV.dt (Dt.cell (Go.Value.int Go.IntKind.i64 (↑(0 : Nat) : Int))))) ∧
            True)))) ∧
        ((Rx.leOO ([]) ([])) ∧
         ((((0 : Nat) ≤ l.length) ∧
           (((0 : Int) ≤ lv) ∧
            ((lv ≤ (40 : Int)) ∧
             (Rd.gdL l (lv + (1 : Int)))))) ∧
          (True ∧
           R (SV.dt (Dt.cell (Go.Value.int Go.IntKind.i64 (0 : Int)))) ([])))))))))))))
def ckQ4 (l : List Dm) (lv : Int) (R : SV → List (Option Ob) → Prop) : Prop :=
(((Decidable.decide (lv > (40 : Int)) = Bool.true) →
 (True ∧
  R (SV.dt (Dt.cell (Go.Value.int Go.IntKind.i64 (8 : Int)))) ([]))) ∧
((Decidable.decide (lv > (40 : Int)) = Bool.false) →
 ((((!(([] : List UInt8) == [])) = Bool.true) →
   (True ∧
    R (SV.dt (Dt.cell (Go.Value.int Go.IntKind.i64 (4 : Int)))) ([]))) ∧
  (((!(([] : List UInt8) == [])) = Bool.false) →
   (((Rx.leS (SV.dt (Dt.cell (Go.Value.int Go.IntKind.i64 lv))) (SV.dt (Dt.cell (Go.Value.int Go.IntKind.i64 lv)))) ∧
     ((Rx.leS (SV.dt (Dt.arr ((4 : Nat)) (l.length) (Rd.dmC l))) (SV.dt (Dt.arr ((4 : Nat)) (l.length) (Rd.dmC l)))) ∧
      ((Rx.leS (SV.dt (Dt.cell (Go.Value.int Go.IntKind.i64 (↑l.length : Int)))) (SV.dt (Dt.cell (Go.Value.int Go.IntKind.i64 (↑l.length : Int))))) ∧
       ((Rx.leS (SV.dt (Dt.cell (Go.Value.int Go.IntKind.i64 (0 : Int)))) (SV.dt (Dt.cell (Go.Value.int Go.IntKind.i64 (↑(0 : Nat) : Int))))) ∧
        True)))) ∧
    ((Rx.leOO ([]) ([])) ∧
     ((((0 : Nat) ≤ l.length) ∧
       (((0 : Int) ≤ lv) ∧
        ((lv ≤ (40 : Int)) ∧
         (Rd.gdL l (lv + (1 : Int)))))) ∧
      (True ∧
       R (SV.dt (Dt.cell (Go.Value.int Go.IntKind.i64 (0 : Int)))) ([])))))))))

/-! ## write -/
def wrOut (c : Nat) (f : Nat → Nat → Dt) (t : List UInt8) : List (Option Ob) := [some (.cells tBuilder [.ptr 0 0, .nm 2]), none, some (.row tU8 1 (c + t.length) (catF c f (lstF t)))]
def wrO (c : Nat) (f : Nat → Nat → Dt) (t : List UInt8) : T Out := .need (c + t.length ≤ 100000) (.ret (.tup [], wrOut c f t))
def WrP (l : List Dm) (k n : Int) (s : ByteArray) (m : Nat) (f : Nat → Nat → Dt) : Prop := ∃ d, d ∈ l ∧ leS (sdX k n s m f) (dmS d)
def wrF (l : List Dm) : FC := ⟨f_write, true, false, fun al ol => match al, ol with
  | [.ptr 0 0, .agg [k, n, s, .dt (.arr 4 m h)]], [.cells _ [A, .nm 1], .row _ 1 c f] => match rdI k, rdI n, rdS s, selA A with
    | some k, some n, some s, some A => some ([.ptr 0 0, sdX k n s m h], buO A c f, .need (WrP l k n s m h) (wrO c f (wrX k n s m h)))
    | _, _, _, _ => none
  | _, _ => none⟩
def itemT (l : List Dm) (i : Nat) : List UInt8 := wrD (l.getD i d0)
def wlText (l : List Dm) (i : Nat) : List UInt8 := 40 :: wrN i (itemT l)
def wlArgs (l : List Dm) (i : Nat) : List SV := [.ptr 0 0, dmB l, vI .i64 l.length, vI .i64 i]
def wlObs (l : List Dm) (c : Nat) (f : Nat → Nat → Dt) (i : Nat) : List (Option Ob) := wrOut c f (wlText l i)
def wlOut (l : List Dm) (c : Nat) (f : Nat → Nat → Dt) (i : Nat) : T OutC := .need (i ≤ l.length ∧ c + (wlText l l.length).length ≤ 100000) (.ret (.exit 1, [.ptr 0 0], wlObs l c f l.length))
def wlLF (l : List Dm) (c : Nat) (f : Nat → Nat → Dt) : LF := ⟨4, ⟨[0, 11, 12, 13], [0], []⟩, fun _ _ => some (wlArgs l 0, wlObs l c f 0, wlOut l c f 0)⟩
def wrKs (l : List Dm) : List (Nat × Nat × FC) := [(12, 3, itF), (12, 4, wsF), (14, 5, wsF), (16, 3, wsF), (2, 1, wbF), (7, 1, wbF), (8, 2, wrF l), (10, 1, wbF)]
noncomputable def wrEnv (l : List Dm) (c : Nat) (f : Nat → Nat → Dt) : Env := fnE prog 49 2 (wrKs l) [wlLF l c f]
noncomputable def wrLoop : Code := (loopIn 4 (bodyOf c_write)).getD .skip
def wrLoopQ (l : List Dm) (c : Nat) (f : Nat → Nat → Dt) (i : Nat) (Rn : List SV → List (Option Ob) → Prop) (Re : Ex → List SV → List (Option Ob) → Prop) : Prop :=
(((Decidable.decide ((↑i : Int) < (↑l.length : Int)) = Bool.true) →
 ((((0 : Int) ≤ (↑i : Int)) ∧
   ((↑i : Int) < (↑l.length : Int))) ∧
  (((Decidable.decide ((↑i : Int) > (0 : Int)) = Bool.true) →
    ((Rx.leL ([SV.ptr 0 0, SV.dt (Dt.cell (Go.Value.int Go.IntKind.u8 (32 : Int)))]) ([SV.ptr 0 0, SV.dt (Dt.cell (Go.Value.int Go.IntKind.u8 (32 : Int)))])) ∧
     ((Rx.leObL ([Ob.cells 55 [SV.ptr 0 0, SV.nm 1], Ob.row 5 1 (c + (Rd.wlText l i).length) (Rx.catF c f (Rd.lstF (Rd.wlText l i)))]) ([Ob.cells 55 [SV.ptr 0 0, SV.nm 1], Ob.row 5 1 (c + (Rd.wlText l i).length) (Rx.catF c f (Rd.lstF (Rd.wlText l i)))])) ∧
      ((c + (Rd.wlText l i).length ≤ (100000 : Nat)) ∧
       ((Rx.leL ([SV.ptr 0 0, SV.agg [SV.dt (Dt.cell (Go.Value.int Go.IntKind.i64 (l.getD (↑i : Int).toNat Rd.d0).k)), SV.dt (Dt.cell (Go.Value.int Go.IntKind.i64 (l.getD (↑i : Int).toNat Rd.d0).n)), SV.dt (Dt.cell (Go.Value.string (l.getD (↑i : Int).toNat Rd.d0).s)), SV.dt (Dt.arr ((4 : Nat)) ((l.getD (↑i : Int).toNat Rd.d0).l.length) (Rd.dmL (l.getD (↑i : Int).toNat Rd.d0).l))]]) ([SV.ptr 0 0, SV.agg [SV.dt (Dt.cell (Go.Value.int Go.IntKind.i64 (l.getD (↑i : Int).toNat Rd.d0).k)), SV.dt (Dt.cell (Go.Value.int Go.IntKind.i64 (l.getD (↑i : Int).toNat Rd.d0).n)), SV.dt (Dt.cell (Go.Value.string (l.getD (↑i : Int).toNat Rd.d0).s)), SV.dt (Dt.arr ((4 : Nat)) ((l.getD (↑i : Int).toNat Rd.d0).l.length) (Rd.dmL (l.getD (↑i : Int).toNat Rd.d0).l))]])) ∧
        ((Rx.leObL ([Ob.cells 55 [SV.ptr 0 0, SV.nm 1], Ob.row 5 1 (c + (Rd.wlText l i).length + (1 : Nat)) (Rx.catF (c + (Rd.wlText l i).length) (Rx.catF c f (Rd.lstF (Rd.wlText l i))) (Rx.litF (1 : Nat) [Rx.Dt.cell (Go.Value.int Go.IntKind.u8 (32 : Int))]))]) ([Ob.cells 55 [SV.ptr 0 0, SV.nm 1], Ob.row 5 1 (c + (Rd.wlText l i).length + (1 : Nat)) (Rx.catF (c + (Rd.wlText l i).length) (Rx.catF c f (Rd.lstF (Rd.wlText l i))) (Rx.litF (1 : Nat) [Rx.Dt.cell (Go.Value.int Go.IntKind.u8 (32 : Int))]))])) ∧
         ((Rd.WrP l (l.getD (↑i : Int).toNat Rd.d0).k (l.getD (↑i : Int).toNat Rd.d0).n (l.getD (↑i : Int).toNat Rd.d0).s (l.getD (↑i : Int).toNat Rd.d0).l.length (Rd.dmL (l.getD (↑i : Int).toNat Rd.d0).l)) ∧
          ((c + (Rd.wlText l i).length + (1 : Nat) + (Rd.wrX (l.getD (↑i : Int).toNat Rd.d0).k (l.getD (↑i : Int).toNat Rd.d0).n (l.getD (↑i : Int).toNat Rd.d0).s (l.getD (↑i : Int).toNat Rd.d0).l.length (Rd.dmL (l.getD (↑i : Int).toNat Rd.d0).l)).length ≤ (100000 : Nat)) ∧
           (((Rx.lo Go.IntKind.i64 ≤ (↑i : Int) + (1 : Int)) ∧
             ((↑i : Int) + (1 : Int) ≤ Rx.hi Go.IntKind.i64)) ∧
            Rn ([SV.ptr 0 0, SV.dt (Dt.arr ((4 : Nat)) (l.length) (Rd.dmC l)), SV.dt (Dt.cell (Go.Value.int Go.IntKind.i64 (↑l.length : Int))), SV.dt (Dt.cell (Go.Value.int Go.IntKind.i64 ((↑i : Int) + (1 : Int))))]) ([some (Ob.cells 55 [SV.ptr 0 0, SV.nm 2]), none, some (Ob.row 5 1 (c + (Rd.wlText l i).length + (1 : Nat) + (Rd.wrX (l.getD (↑i : Int).toNat Rd.d0).k (l.getD (↑i : Int).toNat Rd.d0).n (l.getD (↑i : Int).toNat Rd.d0).s (l.getD (↑i : Int).toNat Rd.d0).l.length (Rd.dmL (l.getD (↑i : Int).toNat Rd.d0).l)).length) (Rx.catF (c + (Rd.wlText l i).length + (1 : Nat)) (Rx.catF (c + (Rd.wlText l i).length) (Rx.catF c f (Rd.lstF (Rd.wlText l i))) (Rx.litF (1 : Nat) [Rx.Dt.cell (Go.Value.int Go.IntKind.u8 (32 : Int))])) (Rd.lstF (Rd.wrX (l.getD (↑i : Int).toNat Rd.d0).k (l.getD (↑i : Int).toNat Rd.d0).n (l.getD (↑i : Int).toNat Rd.d0).s (l.getD (↑i : Int).toNat Rd.d0).l.length (Rd.dmL (l.getD (↑i : Int).toNat Rd.d0).l)))))])))))))))) ∧
   ((Decidable.decide ((↑i : Int) > (0 : Int)) = Bool.false) →
    ((Rx.leL ([SV.ptr 0 0, SV.agg [SV.dt (Dt.cell (Go.Value.int Go.IntKind.i64 (l.getD (↑i : Int).toNat Rd.d0).k)), SV.dt (Dt.cell (Go.Value.int Go.IntKind.i64 (l.getD (↑i : Int).toNat Rd.d0).n)), SV.dt (Dt.cell (Go.Value.string (l.getD (↑i : Int).toNat Rd.d0).s)), SV.dt (Dt.arr ((4 : Nat)) ((l.getD (↑i : Int).toNat Rd.d0).l.length) (Rd.dmL (l.getD (↑i : Int).toNat Rd.d0).l))]]) ([SV.ptr 0 0, SV.agg [SV.dt (Dt.cell (Go.Value.int Go.IntKind.i64 (l.getD (↑i : Int).toNat Rd.d0).k)), SV.dt (Dt.cell (Go.Value.int Go.IntKind.i64 (l.getD (↑i : Int).toNat Rd.d0).n)), SV.dt (Dt.cell (Go.Value.string (l.getD (↑i : Int).toNat Rd.d0).s)), SV.dt (Dt.arr ((4 : Nat)) ((l.getD (↑i : Int).toNat Rd.d0).l.length) (Rd.dmL (l.getD (↑i : Int).toNat Rd.d0).l))]])) ∧
     ((Rx.leObL ([Ob.cells 55 [SV.ptr 0 0, SV.nm 1], Ob.row 5 1 (c + (Rd.wlText l i).length) (Rx.catF c f (Rd.lstF (Rd.wlText l i)))]) ([Ob.cells 55 [SV.ptr 0 0, SV.nm 1], Ob.row 5 1 (c + (Rd.wlText l i).length) (Rx.catF c f (Rd.lstF (Rd.wlText l i)))])) ∧
      ((Rd.WrP l (l.getD (↑i : Int).toNat Rd.d0).k (l.getD (↑i : Int).toNat Rd.d0).n (l.getD (↑i : Int).toNat Rd.d0).s (l.getD (↑i : Int).toNat Rd.d0).l.length (Rd.dmL (l.getD (↑i : Int).toNat Rd.d0).l)) ∧
       ((c + (Rd.wlText l i).length + (Rd.wrX (l.getD (↑i : Int).toNat Rd.d0).k (l.getD (↑i : Int).toNat Rd.d0).n (l.getD (↑i : Int).toNat Rd.d0).s (l.getD (↑i : Int).toNat Rd.d0).l.length (Rd.dmL (l.getD (↑i : Int).toNat Rd.d0).l)).length ≤ (100000 : Nat)) ∧
        (((Rx.lo Go.IntKind.i64 ≤ (↑i : Int) + (1 : Int)) ∧
          ((↑i : Int) + (1 : Int) ≤ Rx.hi Go.IntKind.i64)) ∧
         Rn ([SV.ptr 0 0, SV.dt (Dt.arr ((4 : Nat)) (l.length) (Rd.dmC l)), SV.dt (Dt.cell (Go.Value.int Go.IntKind.i64 (↑l.length : Int))), SV.dt (Dt.cell (Go.Value.int Go.IntKind.i64 ((↑i : Int) + (1 : Int))))]) ([some (Ob.cells 55 [SV.ptr 0 0, SV.nm 2]), none, some (Ob.row 5 1 (c + (Rd.wlText l i).length + (Rd.wrX (l.getD (↑i : Int).toNat Rd.d0).k (l.getD (↑i : Int).toNat Rd.d0).n (l.getD (↑i : Int).toNat Rd.d0).s (l.getD (↑i : Int).toNat Rd.d0).l.length (Rd.dmL (l.getD (↑i : Int).toNat Rd.d0).l)).length) (Rx.catF (c + (Rd.wlText l i).length) (Rx.catF c f (Rd.lstF (Rd.wlText l i))) (Rd.lstF (Rd.wrX (l.getD (↑i : Int).toNat Rd.d0).k (l.getD (↑i : Int).toNat Rd.d0).n (l.getD (↑i : Int).toNat Rd.d0).s (l.getD (↑i : Int).toNat Rd.d0).l.length (Rd.dmL (l.getD (↑i : Int).toNat Rd.d0).l)))))])))))))))) ∧
((Decidable.decide ((↑i : Int) < (↑l.length : Int)) = Bool.false) →
 Re (Rx.Ex.exit (1 : Nat)) ([SV.ptr 0 0]) ([some (Ob.cells 55 [SV.ptr 0 0, SV.nm 2]), none, some (Ob.row 5 1 (c + (Rd.wlText l i).length) (Rx.catF c f (Rd.lstF (Rd.wlText l i))))])))
def wrQ1a (n : Int) (l : List Dm) (c : Nat) (f : Nat → Nat → Dt) (R : SV → List (Option Ob) → Prop) : Prop :=
((Rx.leL ([SV.dt (Dt.cell (Go.Value.int Go.IntKind.i64 n))]) ([SV.dt (Dt.cell (Go.Value.int Go.IntKind.i64 n))])) ∧
((Rx.leObL ([]) ([])) ∧
 ((Rd.inI n) ∧
  ((Rx.leL ([SV.ptr 0 0, SV.dt (Dt.cell (Go.Value.string (Rd.itoaB n)))]) ([SV.ptr 0 0, SV.dt (Dt.cell (Go.Value.string (Rd.itoaB n)))])) ∧
   ((Rx.leObL ([Ob.cells 55 [SV.ptr 0 0, SV.nm 1], Ob.row 5 1 (c) (f)]) ([Ob.cells 55 [SV.ptr 0 0, SV.nm 1], Ob.row 5 1 (c) (f)])) ∧
    ((c + (Rd.itoaB n).size ≤ (100000 : Nat)) ∧
     (True ∧
      R (SV.tup []) ([some (Ob.cells 55 [SV.ptr 0 0, SV.nm 2]), none, some (Ob.row 5 1 (c + (Rd.itoaB n).size) (Rx.catF c f (Rx.bytF (Rd.itoaB n))))]))))))))
def wrQ2a (n : Int) (l : List Dm) (c : Nat) (f : Nat → Nat → Dt) (R : SV → List (Option Ob) → Prop) : Prop :=
((((0 : Int) ≤ n) ∧
 (n < (↑(2 : Nat) : Int))) ∧
((Rx.leL ([SV.ptr 0 0, SV.dt (Dt.cell (Go.Value.string ([ByteArray.mk #[(35 : UInt8), (102 : UInt8)], ByteArray.mk #[(35 : UInt8), (116 : UInt8)]].getD n.toNat (ByteArray.mk #[]))))]) ([SV.ptr 0 0, SV.dt (Dt.cell (Go.Value.string ([ByteArray.mk #[(35 : UInt8), (102 : UInt8)], ByteArray.mk #[(35 : UInt8), (116 : UInt8)]].getD n.toNat (ByteArray.mk #[]))))])) ∧
 ((Rx.leObL ([Ob.cells 55 [SV.ptr 0 0, SV.nm 1], Ob.row 5 1 (c) (f)]) ([Ob.cells 55 [SV.ptr 0 0, SV.nm 1], Ob.row 5 1 (c) (f)])) ∧
  ((c + ([ByteArray.mk #[(35 : UInt8), (102 : UInt8)], ByteArray.mk #[(35 : UInt8), (116 : UInt8)]].getD n.toNat (ByteArray.mk #[])).size ≤ (100000 : Nat)) ∧
   (True ∧
    R (SV.tup []) ([some (Ob.cells 55 [SV.ptr 0 0, SV.nm 2]), none, some (Ob.row 5 1 (c + ([ByteArray.mk #[(35 : UInt8), (102 : UInt8)], ByteArray.mk #[(35 : UInt8), (116 : UInt8)]].getD n.toNat (ByteArray.mk #[])).size) (Rx.catF c f (Rx.bytF ([ByteArray.mk #[(35 : UInt8), (102 : UInt8)], ByteArray.mk #[(35 : UInt8), (116 : UInt8)]].getD n.toNat (ByteArray.mk #[])))))]))))))
def wrQ3a (s : ByteArray) (l : List Dm) (c : Nat) (f : Nat → Nat → Dt) (R : SV → List (Option Ob) → Prop) : Prop :=
((Rx.leL ([SV.ptr 0 0, SV.dt (Dt.cell (Go.Value.string s))]) ([SV.ptr 0 0, SV.dt (Dt.cell (Go.Value.string s))])) ∧
((Rx.leObL ([Ob.cells 55 [SV.ptr 0 0, SV.nm 1], Ob.row 5 1 (c) (f)]) ([Ob.cells 55 [SV.ptr 0 0, SV.nm 1], Ob.row 5 1 (c) (f)])) ∧
 ((c + s.size ≤ (100000 : Nat)) ∧
  (True ∧
   R (SV.tup []) ([some (Ob.cells 55 [SV.ptr 0 0, SV.nm 2]), none, some (Ob.row 5 1 (c + s.size) (Rx.catF c f (Rx.bytF s)))])))))
def wrQ4a (l : List Dm) (c : Nat) (f : Nat → Nat → Dt) (R : SV → List (Option Ob) → Prop) : Prop :=
((Rx.leL ([SV.ptr 0 0, SV.dt (Dt.cell (Go.Value.int Go.IntKind.u8 (40 : Int)))]) ([SV.ptr 0 0, SV.dt (Dt.cell (Go.Value.int Go.IntKind.u8 (40 : Int)))])) ∧
((Rx.leObL ([Ob.cells 55 [SV.ptr 0 0, SV.nm 1], Ob.row 5 1 (c) (f)]) ([Ob.cells 55 [SV.ptr 0 0, SV.nm 1], Ob.row 5 1 (c) (f)])) ∧
 ((c ≤ (100000 : Nat)) ∧
  (((Rx.leS (SV.ptr 0 0) (SV.ptr 0 0)) ∧
    ((Rx.leS (SV.dt (Dt.arr ((4 : Nat)) (l.length) (Rd.dmC l))) (SV.dt (Dt.arr ((4 : Nat)) (l.length) (Rd.dmC l)))) ∧
     ((Rx.leS (SV.dt (Dt.cell (Go.Value.int Go.IntKind.i64 (↑l.length : Int)))) (SV.dt (Dt.cell (Go.Value.int Go.IntKind.i64 (↑l.length : Int))))) ∧
      ((Rx.leS (SV.dt (Dt.cell (Go.Value.int Go.IntKind.i64 (0 : Int)))) (SV.dt (Dt.cell (Go.Value.int Go.IntKind.i64 (↑(0 : Nat) : Int))))) ∧
       True)))) ∧
   ((Rx.leOO ([some (Ob.cells 55 [SV.ptr 0 0, SV.nm 2]), none, some (Ob.row 5 1 (c + (1 : Nat)) (Rx.catF c f (Rx.litF (1 : Nat) [Rx.Dt.cell (Go.Value.int Go.IntKind.u8 (40 : Int))])))]) ([some (Ob.cells 55 [SV.ptr 0 0, SV.nm 2]), none, some (Ob.row 5 1 (c + (Rd.wlText l (0 : Nat)).length) (Rx.catF c f (Rd.lstF (Rd.wlText l (0 : Nat)))))])) ∧
    ((((0 : Nat) ≤ l.length) ∧
      (c + (Rd.wlText l l.length).length ≤ (100000 : Nat))) ∧
     ((Rx.leL ([SV.ptr 0 0, SV.dt (Dt.cell (Go.Value.int Go.IntKind.u8 (41 : Int)))]) ([SV.ptr 0 0, SV.dt (Dt.cell (Go.Value.int Go.IntKind.u8 (41 : Int)))])) ∧
      ((Rx.leObL ([Ob.cells 55 [SV.ptr 0 0, SV.nm 1], Ob.row 5 1 (c + (Rd.wlText l l.length).length) (Rx.catF c f (Rd.lstF (Rd.wlText l l.length)))]) ([Ob.cells 55 [SV.ptr 0 0, SV.nm 1], Ob.row 5 1 (c + (Rd.wlText l l.length).length) (Rx.catF c f (Rd.lstF (Rd.wlText l l.length)))])) ∧
       ((c + (Rd.wlText l l.length).length ≤ (100000 : Nat)) ∧
        (True ∧
         R (SV.tup []) ([some (Ob.cells 55 [SV.ptr 0 0, SV.nm 2]), none, some (Ob.row 5 1 (c + (Rd.wlText l l.length).length + (1 : Nat)) (Rx.catF (c + (Rd.wlText l l.length).length) (Rx.catF c f (Rd.lstF (Rd.wlText l l.length))) (Rx.litF (1 : Nat) [Rx.Dt.cell (Go.Value.int Go.IntKind.u8 (41 : Int))])))])))))))))))
def wrQ1b (n : Int) (l : List Dm) (c : Nat) (f : Nat → Nat → Dt) (R : SV → List (Option Ob) → Prop) : Prop :=
((Rx.leL ([SV.dt (Dt.cell (Go.Value.int Go.IntKind.i64 n))]) ([SV.dt (Dt.cell (Go.Value.int Go.IntKind.i64 n))])) ∧
((Rx.leObL ([]) ([])) ∧
 ((Rd.inI n) ∧
  ((Rx.leL ([SV.ptr 0 0, SV.dt (Dt.cell (Go.Value.string (Rd.itoaB n)))]) ([SV.ptr 0 0, SV.dt (Dt.cell (Go.Value.string (Rd.itoaB n)))])) ∧
   ((Rx.leObL ([Ob.cells 55 [SV.dt (Dt.cell (Go.Value.pointer Option.none)), SV.nm 1], Ob.row 5 1 (c) (f)]) ([Ob.cells 55 [SV.dt (Dt.cell (Go.Value.pointer Option.none)), SV.nm 1], Ob.row 5 1 (c) (f)])) ∧
    ((c + (Rd.itoaB n).size ≤ (100000 : Nat)) ∧
     (True ∧
      R (SV.tup []) ([some (Ob.cells 55 [SV.ptr 0 0, SV.nm 2]), none, some (Ob.row 5 1 (c + (Rd.itoaB n).size) (Rx.catF c f (Rx.bytF (Rd.itoaB n))))]))))))))
def wrQ2b (n : Int) (l : List Dm) (c : Nat) (f : Nat → Nat → Dt) (R : SV → List (Option Ob) → Prop) : Prop :=
((((0 : Int) ≤ n) ∧
 (n < (↑(2 : Nat) : Int))) ∧
((Rx.leL ([SV.ptr 0 0, SV.dt (Dt.cell (Go.Value.string ([ByteArray.mk #[(35 : UInt8), (102 : UInt8)], ByteArray.mk #[(35 : UInt8), (116 : UInt8)]].getD n.toNat (ByteArray.mk #[]))))]) ([SV.ptr 0 0, SV.dt (Dt.cell (Go.Value.string ([ByteArray.mk #[(35 : UInt8), (102 : UInt8)], ByteArray.mk #[(35 : UInt8), (116 : UInt8)]].getD n.toNat (ByteArray.mk #[]))))])) ∧
 ((Rx.leObL ([Ob.cells 55 [SV.dt (Dt.cell (Go.Value.pointer Option.none)), SV.nm 1], Ob.row 5 1 (c) (f)]) ([Ob.cells 55 [SV.dt (Dt.cell (Go.Value.pointer Option.none)), SV.nm 1], Ob.row 5 1 (c) (f)])) ∧
  ((c + ([ByteArray.mk #[(35 : UInt8), (102 : UInt8)], ByteArray.mk #[(35 : UInt8), (116 : UInt8)]].getD n.toNat (ByteArray.mk #[])).size ≤ (100000 : Nat)) ∧
   (True ∧
    R (SV.tup []) ([some (Ob.cells 55 [SV.ptr 0 0, SV.nm 2]), none, some (Ob.row 5 1 (c + ([ByteArray.mk #[(35 : UInt8), (102 : UInt8)], ByteArray.mk #[(35 : UInt8), (116 : UInt8)]].getD n.toNat (ByteArray.mk #[])).size) (Rx.catF c f (Rx.bytF ([ByteArray.mk #[(35 : UInt8), (102 : UInt8)], ByteArray.mk #[(35 : UInt8), (116 : UInt8)]].getD n.toNat (ByteArray.mk #[])))))]))))))
def wrQ3b (s : ByteArray) (l : List Dm) (c : Nat) (f : Nat → Nat → Dt) (R : SV → List (Option Ob) → Prop) : Prop :=
((Rx.leL ([SV.ptr 0 0, SV.dt (Dt.cell (Go.Value.string s))]) ([SV.ptr 0 0, SV.dt (Dt.cell (Go.Value.string s))])) ∧
((Rx.leObL ([Ob.cells 55 [SV.dt (Dt.cell (Go.Value.pointer Option.none)), SV.nm 1], Ob.row 5 1 (c) (f)]) ([Ob.cells 55 [SV.dt (Dt.cell (Go.Value.pointer Option.none)), SV.nm 1], Ob.row 5 1 (c) (f)])) ∧
 ((c + s.size ≤ (100000 : Nat)) ∧
  (True ∧
   R (SV.tup []) ([some (Ob.cells 55 [SV.ptr 0 0, SV.nm 2]), none, some (Ob.row 5 1 (c + s.size) (Rx.catF c f (Rx.bytF s)))])))))
def wrQ4b (l : List Dm) (c : Nat) (f : Nat → Nat → Dt) (R : SV → List (Option Ob) → Prop) : Prop :=
((Rx.leL ([SV.ptr 0 0, SV.dt (Dt.cell (Go.Value.int Go.IntKind.u8 (40 : Int)))]) ([SV.ptr 0 0, SV.dt (Dt.cell (Go.Value.int Go.IntKind.u8 (40 : Int)))])) ∧
((Rx.leObL ([Ob.cells 55 [SV.dt (Dt.cell (Go.Value.pointer Option.none)), SV.nm 1], Ob.row 5 1 (c) (f)]) ([Ob.cells 55 [SV.dt (Dt.cell (Go.Value.pointer Option.none)), SV.nm 1], Ob.row 5 1 (c) (f)])) ∧
 ((c ≤ (100000 : Nat)) ∧
  (((Rx.leS (SV.ptr 0 0) (SV.ptr 0 0)) ∧
    ((Rx.leS (SV.dt (Dt.arr ((4 : Nat)) (l.length) (Rd.dmC l))) (SV.dt (Dt.arr ((4 : Nat)) (l.length) (Rd.dmC l)))) ∧
     ((Rx.leS (SV.dt (Dt.cell (Go.Value.int Go.IntKind.i64 (↑l.length : Int)))) (SV.dt (Dt.cell (Go.Value.int Go.IntKind.i64 (↑l.length : Int))))) ∧
      ((Rx.leS (SV.dt (Dt.cell (Go.Value.int Go.IntKind.i64 (0 : Int)))) (SV.dt (Dt.cell (Go.Value.int Go.IntKind.i64 (↑(0 : Nat) : Int))))) ∧
       True)))) ∧
   ((Rx.leOO ([some (Ob.cells 55 [SV.ptr 0 0, SV.nm 2]), none, some (Ob.row 5 1 (c + (1 : Nat)) (Rx.catF c f (Rx.litF (1 : Nat) [Rx.Dt.cell (Go.Value.int Go.IntKind.u8 (40 : Int))])))]) ([some (Ob.cells 55 [SV.ptr 0 0, SV.nm 2]), none, some (Ob.row 5 1 (c + (Rd.wlText l (0 : Nat)).length) (Rx.catF c f (Rd.lstF (Rd.wlText l (0 : Nat)))))])) ∧
    ((((0 : Nat) ≤ l.length) ∧
      (c + (Rd.wlText l l.length).length ≤ (100000 : Nat))) ∧
     ((Rx.leL ([SV.ptr 0 0, SV.dt (Dt.cell (Go.Value.int Go.IntKind.u8 (41 : Int)))]) ([SV.ptr 0 0, SV.dt (Dt.cell (Go.Value.int Go.IntKind.u8 (41 : Int)))])) ∧
      ((Rx.leObL ([Ob.cells 55 [SV.ptr 0 0, SV.nm 1], Ob.row 5 1 (c + (Rd.wlText l l.length).length) (Rx.catF c f (Rd.lstF (Rd.wlText l l.length)))]) ([Ob.cells 55 [SV.ptr 0 0, SV.nm 1], Ob.row 5 1 (c + (Rd.wlText l l.length).length) (Rx.catF c f (Rd.lstF (Rd.wlText l l.length)))])) ∧
       ((c + (Rd.wlText l l.length).length ≤ (100000 : Nat)) ∧
        (True ∧
         R (SV.tup []) ([some (Ob.cells 55 [SV.ptr 0 0, SV.nm 2]), none, some (Ob.row 5 1 (c + (Rd.wlText l l.length).length + (1 : Nat)) (Rx.catF (c + (Rd.wlText l l.length).length) (Rx.catF c f (Rd.lstF (Rd.wlText l l.length))) (Rx.litF (1 : Nat) [Rx.Dt.cell (Go.Value.int Go.IntKind.u8 (41 : Int))])))])))))))))))
theorem ctr_le {f : FuncId} {args args' : List SV} {obs : List Ob} {out : T Out} (h : Ctr prog f args obs out) (hl : leL args' args) : Ctr prog f args' obs out :=
  fun C w vs post hw ho hn hr hp => h C w vs post hw ho hn (leL_rel _ _ _ hl hr) hp
def ckO : T Out := .ret (.ki .i64 0, [])
def CkAll (l : List Dm) : Prop := ∀ d ∈ l, ∀ v : Int, 0 ≤ v → gd d v → Ctr prog f_check [dmS d, vI .i64 v] [] ckO
theorem ckF_ok {l : List Dm} {lv : Int} (hl : CkAll l) : (ckF l lv).Ok prog := by
  have key : ∀ v k n s m f, Ctr prog f_check [sdX k n s m f, vI .i64 v] [] (.need (CkP l v k n s m f) ckO) := fun v k n s m f => ctr_need fun ⟨hv, d, hd, hle, hg⟩ =>
    ctr_le (hl d hd v hv hg) ⟨hle, leS_refl _, trivial⟩
  intro al ol args obs out h
  unfold ckF at h
  simp only at h
  repeat' split at h
  all_goals first
    | (simp only [Option.some.injEq, Prod.mk.injEq] at h; obtain ⟨rfl, rfl, rfl⟩ := h; apply key)
    | cases h
theorem ckKs_ok {l : List Dm} {lv : Int} (hl : CkAll l) : ∀ x ∈ ckKs l lv, x.2.2.Ok prog := all_cons syF_ok (all_cons (ckF_ok (lv := lv + 1) hl) all_nil)
theorem getD_mem' {l : List Dm} {i : Nat} (h : i < l.length) : l.getD i d0 ∈ l := by
  rw [List.getD_eq_getElem?_getD, List.getElem?_eq_getElem h]
  exact List.getElem_mem h
theorem ckLoop_sound {l : List Dm} {lv : Int} (hb : l.length ≤ 1000000) (hl : CkAll l) (i : Nat) : Sound (ckEnv l lv) (.loop ckLoop) (mkSt ((ckLF l lv).live.h.zip (ckArgs l lv i)) []) ((ckOut l lv i).map (OutC.st (ckLF l lv).live)) := by
  refine loop_fn mixed (ks := ckKs l lv) (ls := [ckLF l lv]) (c := ckLoop) (nb := 0) (N := 104) (ckKs_ok hl) (no_loops (by kernel_rfl)) (ckLF l lv).live (fun i : Nat => ckArgs l lv i) (fun _ => []) (fun i => ckOut l lv i) (fun i => l.length - i)
    (Q := fun i => ckLoopQ l lv i) (fun i post hp => ?_) (fun a Rn Re => by kernel_rfl) i
  obtain ⟨⟨hin, h0, h40, hg⟩, hp⟩ := hp
  have hp : post (.exit 1, [], []) := hp
  have nx : i < l.length → ∃ x', l.length - x' < l.length - i ∧ leL [vI .i64 lv, dmB l, vI .i64 l.length, vI .i64 ((i : Int) + 1)] (ckArgs l lv x') ∧ leOO [] [] ∧ (ckOut l lv x').holds post := fun h =>
    ⟨i + 1, by omega, ⟨leS_refl _, leS_refl _, leS_refl _, (leS_int _ _ _).2 (by omega), trivial⟩, trivial, ⟨h, h0, h40, hg⟩, hp⟩
  have ei : ((i : Nat) : Int).toNat = i := Int.toNat_natCast i
  unfold ckLoopQ
  simp only [ei, lo, hi]
  refine ⟨fun h => ?_, fun _ => Outs.mk hp (leL_refl _) (leOO_refl _)⟩
  have h : i < l.length := by have := of_decide_eq_true h; omega
  exact ⟨⟨by omega, by omega⟩, ⟨by omega, by omega⟩, leL_refl _, trivial, ⟨by omega, _, getD_mem' h, leS_refl (dmS _), gdL_mem hg (getD_mem' h)⟩, ⟨by omega, by omega⟩, nx h⟩
theorem ckLF_ok {l : List Dm} {lv : Int} (hb : l.length ≤ 1000000) (hl : CkAll l) : LFok (ckEnv l lv) (ckLF l lv) ckLoop := by
  intro svs obl args obs out h
  unfold ckLF at h
  simp only at h
  repeat' split at h
  all_goals first
    | (simp only [Option.some.injEq, Prod.mk.injEq] at h; obtain ⟨rfl, rfl, rfl⟩ := h; apply ckLoop_sound hb hl)
    | cases h
theorem ckEnv_Lok {l : List Dm} {lv : Int} (hb : l.length ≤ 1000000) (hl : CkAll l) : (ckEnv l lv).Lok (loopsOf (bodyOf c_check)) := by
  have hl' : loopsOf (bodyOf c_check) = [ckLoop] := by kernel_rfl
  rw [hl']
  refine fnE_Lok fun f h c hc hr => ?_
  rw [List.mem_singleton] at hc h
  subst hc; subst h
  exact ckLF_ok hb hl
theorem no_all : CkAll [] := fun d hd => by cases hd
theorem ck1 {n lv : Int} (h0 : 0 ≤ lv) (h40 : lv ≤ 40) (h1 : -1099511627776 ≤ n) (h2 : n ≤ 1099511627776) : Ctr prog f_check [kX 1 (vI .i64 n) noS (dmB []), vI .i64 lv] [] ckO := by
  refine ctr_fn mixed (N := 104) (fn := c_check) (c := bodyOf c_check) (ks := ckKs [] lv) (ls := [ckLF [] lv]) (by kernel_rfl) (by kernel_rfl) (by kernel_rfl) (ckKs_ok no_all) fin0 (ckEnv_Lok (by decide) no_all) (by kernel_rfl) (Q := ckQ1 n [] lv) (fun post hp => ?_) (fun R => by kernel_rfl)
  have hp : post (.ki .i64 0, []) := hp
  unfold ckQ1
  simp only [decide_eq_true_eq, decide_eq_false_iff_not]
  repeat' (first | exact leS_refl _ | exact leL_refl _ | exact leObL_refl _ | (refine And.intro ?_ ?_) | intro _)
  all_goals first
    | omega
    | trivial
    | exact leS_refl _
    | exact gives1 hp ((leS_dki _ _ _).2 rfl)
    | (exfalso; simp_all; done)
theorem ck2 {n lv : Int} (h0 : 0 ≤ lv) (h40 : lv ≤ 40) (h1 : n = 0 ∨ n = 1) : Ctr prog f_check [kX 2 (vI .i64 n) noS (dmB []), vI .i64 lv] [] ckO := by
  refine ctr_fn mixed (N := 104) (fn := c_check) (c := bodyOf c_check) (ks := ckKs [] lv) (ls := [ckLF [] lv]) (by kernel_rfl) (by kernel_rfl) (by kernel_rfl) (ckKs_ok no_all) fin0 (ckEnv_Lok (by decide) no_all) (by kernel_rfl) (Q := ckQ2 n [] lv) (fun post hp => ?_) (fun R => by kernel_rfl)
  have hp : post (.ki .i64 0, []) := hp
  unfold ckQ2
  simp only [decide_eq_true_eq, decide_eq_false_iff_not]
  repeat' (first | exact leS_refl _ | exact leL_refl _ | exact leObL_refl _ | (refine And.intro ?_ ?_) | intro _)
  all_goals first
    | omega
    | trivial
    | exact leS_refl _
    | exact gives1 hp ((leS_dki _ _ _).2 rfl)
    | (exfalso; simp_all; done)
theorem ck3 {s : ByteArray} {lv : Int} (h0 : 0 ≤ lv) (h40 : lv ≤ 40) (h1 : symB s = true) : Ctr prog f_check [kX 3 (.ki .i64 0) s (dmB []), vI .i64 lv] [] ckO := by
  refine ctr_fn mixed (N := 104) (fn := c_check) (c := bodyOf c_check) (ks := ckKs [] lv) (ls := [ckLF [] lv]) (by kernel_rfl) (by kernel_rfl) (by kernel_rfl) (ckKs_ok no_all) fin0 (ckEnv_Lok (by decide) no_all) (by kernel_rfl) (Q := ckQ3 s [] lv) (fun post hp => ?_) (fun R => by kernel_rfl)
  have hp : post (.ki .i64 0, []) := hp
  unfold ckQ3
  rw [h1]
  simp only [decide_eq_true_eq, decide_eq_false_iff_not]
  repeat' (first | exact leS_refl _ | exact leL_refl _ | exact leObL_refl _ | (refine And.intro ?_ ?_) | intro _)
  all_goals first
    | omega
    | trivial
    | exact leS_refl _
    | exact leL_refl _
    | exact gives1 hp ((leS_dki _ _ _).2 rfl)
    | (exfalso; simp_all; done)
theorem ck4 {l : List Dm} {lv : Int} (hb : l.length ≤ 1000000) (hl : CkAll l) (h0 : 0 ≤ lv) (h40 : lv ≤ 40) (hg : gdL l (lv + 1)) : Ctr prog f_check [kX 4 (.ki .i64 0) noS (dmB l), vI .i64 lv] [] ckO := by
  refine ctr_fn mixed (N := 104) (fn := c_check) (c := bodyOf c_check) (ks := ckKs l lv) (ls := [ckLF l lv]) (by kernel_rfl) (by kernel_rfl) (by kernel_rfl) (ckKs_ok hl) fin0 (ckEnv_Lok hb hl) (by kernel_rfl) (Q := ckQ4 l lv) (fun post hp => ?_) (fun R => by kernel_rfl)
  have hp : post (.ki .i64 0, []) := hp
  unfold ckQ4
  simp only [decide_eq_true_eq, decide_eq_false_iff_not]
  repeat' (first | exact leS_refl _ | exact leL_refl _ | exact leObL_refl _ | (refine And.intro ?_ ?_) | intro _)
  all_goals first
    | omega
    | trivial
    | exact leS_refl _
    | exact hg
    | exact gives1 hp ((leS_dki _ _ _).2 rfl)
    | (exfalso; simp_all; done)
theorem check_ctr (d : Dm) (hd : dmN d ≤ 1000000) : ∀ v : Int, 0 ≤ v → gd d v → Ctr prog f_check [dmS d, vI .i64 v] [] ckO := by
  have key : ∀ (n : Nat) (d : Dm), dmN d < n → n ≤ 1000001 → ∀ v : Int, 0 ≤ v → gd d v → Ctr prog f_check [dmS d, vI .i64 v] [] ckO := by
    intro n
    induction n with
    | zero => intro d h; omega
    | succ n ih =>
      intro d h hn v hv hg
      have hle : ∀ (k : Int) (x : SV) (s : ByteArray) (l : List Dm), leS (vI .i64 d.n) x → d.k = k → d.s = s → d.l = l → leL [dmS d, vI .i64 v] [kX k x s (dmB l), vI .i64 v] := fun k x s l hx e1 e2 e3 => by
        subst e1; subst e2; subst e3
        exact ⟨⟨(leS_dki _ _ _).2 rfl, hx, leS_refl _, dmAB _, trivial⟩, leS_refl _, trivial⟩
      cases d with
      | mk k n' s l =>
        simp only [gd] at hg
        obtain ⟨h40, hg⟩ := hg
        rcases hg with ⟨rfl, g1, g2, rfl, rfl⟩ | ⟨rfl, g1, rfl, rfl⟩ | ⟨rfl, rfl, g1, rfl⟩ | ⟨rfl, rfl, rfl, g1⟩
        · exact ctr_le (ck1 hv h40 g1 g2) (hle 1 _ _ _ (leS_refl _) rfl rfl rfl)
        · exact ctr_le (ck2 hv h40 g1) (hle 2 _ _ _ (leS_refl _) rfl rfl rfl)
        · exact ctr_le (ck3 hv h40 g1) (hle 3 _ _ _ ((leS_dki _ _ _).2 rfl) rfl rfl rfl)
        · have h2 : dmNL l < dmN (.mk 4 0 noS l) := by simp only [dmN]; omega
          have h3 := dmNL_len l
          exact ctr_le (ck4 (by omega) (fun x hx v hv hg => ih x (by have := dmN_mem hx; omega) (by omega) v hv hg) hv h40 g1) (hle 4 _ _ _ ((leS_dki _ _ _).2 rfl) rfl rfl rfl)
  exact key _ d (Nat.lt_succ_self _) (by omega)

/-! ## write -/
theorem lstF_get {l : List UInt8} {k j : Nat} : lstF l k j = .cell (.int .u8 ((l.getD k 0).toNat)) := rfl
theorem blt_t {a b : Nat} (h : a < b) : Nat.blt a b = true := by rw [Nat.blt_eq]; exact h
theorem blt_f {a b : Nat} (h : ¬ a < b) : Nat.blt a b = false := by
  cases hq : Nat.blt a b with
  | false => rfl
  | true => rw [Nat.blt_eq] at hq; exact absurd hq h
/-- bytes behind bytes -/
theorem cat_app {c : Nat} {f h : Nat → Nat → Dt} {a b : List UInt8} (hh : ∀ k j, k < b.length → j < 1 → h k j = lstF b k j) {k j : Nat} (hk : k < c + (a ++ b).length) (hj : j < 1) :
    catF (c + a.length) (catF c f (lstF a)) h k j = catF c f (lstF (a ++ b)) k j := by
  rw [List.length_append] at hk
  unfold catF
  by_cases h1 : k < c
  · rw [blt_t h1, blt_t (by omega : k < c + a.length)]
    rfl
  · rw [blt_f h1]
    by_cases h2 : k < c + a.length
    · rw [blt_t h2]
      simp only [cond_true, cond_false, lstF]
      rw [List.getD_eq_getElem?_getD, List.getD_eq_getElem?_getD, List.getElem?_append_left (by omega)]
    · rw [blt_f h2]
      simp only [cond_false]
      rw [hh (k - (c + a.length)) j (by omega) hj]
      simp only [lstF, List.getD_eq_getElem?_getD]
      rw [List.getElem?_append_right (by omega)]
      have : k - c - a.length = k - (c + a.length) := by omega
      rw [this]
theorem cat_eq {n : Nat} {f f' h h' : Nat → Nat → Dt} {k j : Nat} (hf : k < n → f k j = f' k j) (hh : n ≤ k → h (k - n) j = h' (k - n) j) : catF n f h k j = catF n f' h' k j := by
  unfold catF
  by_cases h1 : k < n
  · rw [blt_t h1]; exact hf h1
  · rw [blt_f h1]; exact hh (by omega)
theorem one_lst {c : Int} {b : UInt8} (hc : c = (b.toNat : Int)) : ∀ k j, k < 1 → j < 1 → litF 1 [.cell (.int .u8 c)] k j = lstF [b] k j := fun k j hk hj => by
  have : k = 0 := by omega
  subst this
  have : j = 0 := by omega
  subst this
  subst hc
  rfl
theorem row_le {n n' : Nat} {F F' : Nat → Nat → Dt} (hn : n' = n) (h : ∀ k j, k < n → j < 1 → F k j = F' k j) : leOb (.row tU8 1 n F) (.row tU8 1 n' F') :=
  ⟨rfl, rfl, hn, fun k hk j hj => by rw [h k j hk hj]; exact leDt_refl _⟩
theorem dtInt_le {a b : Dt} (h : leDt a b) : dtInt a = dtInt b := by
  cases a <;> cases b <;> simp only [leDt] at h
  · subst h; rfl
  · rename_i v _ _ _
    obtain ⟨h, _⟩ := h
    unfold isNil at h
    split at h
    · rfl
    · cases h
  all_goals first | rfl | (cases h; done) | (rw [← h])
theorem dtStr_le {a b : Dt} (h : leDt a b) : dtStr a = dtStr b := by
  cases a <;> cases b <;> simp only [leDt] at h
  · subst h; rfl
  · rename_i v _ _ _
    obtain ⟨h, _⟩ := h
    unfold isNil at h
    split at h
    · rfl
    · cases h
  all_goals first | rfl | (cases h; done) | (rw [← h])
theorem wrN_congr : ∀ {n : Nat} {g h : Nat → List UInt8}, (∀ i, i < n → g i = h i) → wrN n g = wrN n h
  | 0, _, _, _ => rfl
  | n + 1, g, h, e => by rw [wrN, wrN, wrN_congr fun i hi => e i (by omega), e n (by omega)]
theorem wrA_le : ∀ (a b : Dt), leDt a b → wrA a = wrA b
  | .cell v, .cell v', _ => by simp only [wrA]
  | .cell v, .arr sz n f, h => by
    simp only [leDt] at h
    obtain ⟨_, rfl⟩ := h
    simp only [wrA, wrN, ite_self]
  | .arr sz n f, .arr sz' n' f', h => by
    simp only [leDt] at h
    obtain ⟨rfl, h⟩ := h
    simp only [wrA]
    rcases h with rfl | ⟨rfl, h⟩
    · simp only [wrN, ite_self]
    · by_cases hs : sz' = 4
      · subst hs
        rw [if_pos rfl, if_pos rfl]
        refine wrN_congr fun i hi => ?_
        rw [dtInt_le (h i hi 0 (by decide)), dtInt_le (h i hi 1 (by decide)), dtStr_le (h i hi 2 (by decide)), wrA_le (f i 3) (f' i 3) (h i hi 3 (by decide))]
      · rw [if_neg hs, if_neg hs]
  | .arr _ _ _, .cell _, h => by simp only [leDt] at h
  | .mp _ _ _, b, h => by simp only [leDt] at h; subst h; rfl
  | .cell _, .mp _ _ _, h => by simp only [leDt] at h
  | .arr _ _ _, .mp _ _ _, h => by simp only [leDt] at h
  | .ifc, b, h => by simp only [leDt] at h; subst h; rfl
  | .cell _, .ifc, h => by simp only [leDt] at h
  | .arr _ _ _, .ifc, h => by simp only [leDt] at h
theorem wrX_le {k n : Int} {s : ByteArray} {m : Nat} {f : Nat → Nat → Dt} {d : Dm} (h : leS (sdX k n s m f) (dmS d)) : wrX k n s m f = wrD d := by
  obtain ⟨h1, h2, h3, h4, _⟩ := h
  have e1 := (leS_int _ _ _).1 h1
  have e2 := (leS_int _ _ _).1 h2
  have e3 := (leS_str _ _).1 h3
  have e4 := wrA_le _ _ h4
  unfold wrD wrX
  rw [e1, e2, e3, e4]

theorem wrN_mono {g : Nat → List UInt8} {i n : Nat} (h : i ≤ n) : (wrN i g).length ≤ (wrN n g).length := by
  induction h with
  | refl => exact Nat.le_refl _
  | step _ ih => rw [wrN, List.length_append]; omega
def WrAll (l : List Dm) : Prop := ∀ d ∈ l, ∀ (A : SV) (c : Nat) (f : Nat → Nat → Dt), isA A → Ctr prog f_write [.ptr 0 0, dmS d] (buO A c f) (wrO c f (wrD d))
theorem wrF_ok {l : List Dm} (hl : WrAll l) : (wrF l).Ok prog := by
  have key : ∀ (A : SV) k n s m h c f, isA A → Ctr prog f_write [.ptr 0 0, sdX k n s m h] (buO A c f) (.need (WrP l k n s m h) (wrO c f (wrX k n s m h))) := fun A k n s m h c f hA => ctr_need fun ⟨d, hd, hle⟩ => by
    rw [wrX_le hle]
    exact ctr_le (hl d hd A c f hA) ⟨leS_refl _, hle, trivial⟩
  intro al ol args obs out h
  unfold wrF at h
  simp only at h
  repeat' split at h
  all_goals first
    | (rename_i hA; simp only [Option.some.injEq, Prod.mk.injEq] at h; obtain ⟨rfl, rfl, rfl⟩ := h; exact key _ _ _ _ _ _ _ _ (selA_is hA))
    | cases h
theorem wrKs_ok {l : List Dm} (hl : WrAll l) : ∀ x ∈ wrKs l, x.2.2.Ok prog :=
  all_cons itF_ok (all_cons wsF_ok (all_cons wsF_ok (all_cons wsF_ok (all_cons wbF_ok (all_cons wbF_ok (all_cons (wrF_ok hl) (all_cons wbF_ok all_nil)))))))
theorem wl_succ (l : List Dm) (i : Nat) : wlText l (i + 1) = (if i = 0 then wlText l i else wlText l i ++ [32]) ++ itemT l i := by
  unfold wlText
  rw [wrN]
  split <;> simp
theorem wrLoop_sound {l : List Dm} {c : Nat} {f : Nat → Nat → Dt} (hb : l.length ≤ 1000000) (hl : WrAll l) (i : Nat) : Sound (wrEnv l c f) (.loop wrLoop) (mkSt ((wlLF l c f).live.h.zip (wlArgs l i)) (wlObs l c f i)) ((wlOut l c f i).map (OutC.st (wlLF l c f).live)) := by
  refine loop_fn mixed (ks := wrKs l) (ls := [wlLF l c f]) (c := wrLoop) (nb := 2) (N := 49) (wrKs_ok hl) (no_loops (by kernel_rfl)) (wlLF l c f).live (fun i : Nat => wlArgs l i) (fun i => wlObs l c f i) (fun i => wlOut l c f i) (fun i => l.length - i)
    (Q := fun i => wrLoopQ l c f i) (fun i post hp => ?_) (fun a Rn Re => by kernel_rfl) i
  obtain ⟨⟨hin, hsz⟩, hp⟩ := hp
  have hp : post (.exit 1, [.ptr 0 0], wlObs l c f l.length) := hp
  have ei : ((i : Nat) : Int).toNat = i := Int.toNat_natCast i
  have eX : wrX (l.getD i d0).k (l.getD i d0).n (l.getD i d0).s (l.getD i d0).l.length (dmL (l.getD i d0).l) = itemT l i := rfl
  have mono : ∀ {j : Nat}, j ≤ l.length → c + (wlText l j).length ≤ 100000 := fun {j} hj => by
    have := wrN_mono (g := itemT l) hj
    unfold wlText at hsz ⊢
    simp only [List.length_cons] at hsz ⊢; omega
  unfold wrLoopQ
  simp only [ei, eX, lo, hi]
  refine ⟨fun h => ?_, fun h => ?_⟩
  · have h : i < l.length := by have := of_decide_eq_true h; omega
    have hm := mono (j := i + 1) h
    rw [wl_succ] at hm
    have item : WrP l (l.getD i d0).k (l.getD i d0).n (l.getD i d0).s (l.getD i d0).l.length (dmL (l.getD i d0).l) := ⟨_, getD_mem' h, leS_refl (dmS _)⟩
    have nx : ∀ {n : Nat} {F : Nat → Nat → Dt}, leOb (.row tU8 1 n F) (.row tU8 1 (c + (wlText l (i + 1)).length) (catF c f (lstF (wlText l (i + 1))))) → ∃ x', l.length - x' < l.length - i ∧ leL [.ptr 0 0, dmB l, vI .i64 l.length, vI .i64 ((i : Int) + 1)] (wlArgs l x') ∧
        leOO [some (.cells tBuilder [.ptr 0 0, .nm 2]), none, some (.row tU8 1 n F)] (wlObs l c f x') ∧ (wlOut l c f x').holds post := fun hr =>
      ⟨i + 1, by omega, ⟨leS_refl _, leS_refl _, leS_refl _, (leS_int _ _ _).2 (by omega), trivial⟩, ⟨leOb_refl _, trivial, hr, trivial⟩, ⟨h, hsz⟩, hp⟩
    refine ⟨⟨by omega, by omega⟩, fun h0 => ?_, fun h0 => ?_⟩
    · have h0 : ¬ i = 0 := by have := of_decide_eq_true h0; omega
      rw [if_neg h0, List.length_append, List.length_append] at hm
      simp only [List.length_cons, List.length_nil] at hm
      refine ⟨leL_refl _, leObL_refl _, by omega, leL_refl _, leObL_refl _, item, by omega, ⟨by omega, by omega⟩, nx ?_⟩
      rw [wl_succ, if_neg h0]
      refine row_le (by simp only [List.length_append, List.length_cons, List.length_nil]; omega) fun k j hk hj => ?_
      rw [← cat_app (a := wlText l i ++ [32]) (fun _ _ _ _ => rfl) (by simp only [List.length_append, List.length_cons, List.length_nil]; omega) hj]
      have e : c + (wlText l i ++ [32]).length = c + (wlText l i).length + 1 := by simp only [List.length_append, List.length_cons, List.length_nil]; omega
      rw [e]
      refine cat_eq (fun hk' => ?_) fun _ => rfl
      exact cat_app (b := [32]) (one_lst (b := 32) rfl) (by simp only [List.length_append, List.length_cons, List.length_nil]; omega) hj
    · have h0 : i = 0 := by have := of_decide_eq_false h0; omega
      rw [if_pos h0, List.length_append] at hm
      refine ⟨leL_refl _, leObL_refl _, item, by omega, ⟨by omega, by omega⟩, nx ?_⟩
      rw [wl_succ, if_pos h0]
      refine row_le (by simp only [List.length_append]; omega) fun k j hk hj => ?_
      exact cat_app (fun _ _ _ _ => rfl) (by simp only [List.length_append]; omega) hj
  · have h : l.length = i := by have := of_decide_eq_false h; omega
    rw [h] at hp
    exact Outs.mk hp (leL_refl _) (leOO_refl _)
theorem wlLF_ok {l : List Dm} {c : Nat} {f : Nat → Nat → Dt} (hb : l.length ≤ 1000000) (hl : WrAll l) : LFok (wrEnv l c f) (wlLF l c f) wrLoop := by
  intro svs obl args obs out h
  unfold wlLF at h
  simp only at h
  repeat' split at h
  all_goals first
    | (simp only [Option.some.injEq, Prod.mk.injEq] at h; obtain ⟨rfl, rfl, rfl⟩ := h; apply wrLoop_sound hb hl)
    | cases h
theorem wrEnv_Lok {l : List Dm} {c : Nat} {f : Nat → Nat → Dt} (hb : l.length ≤ 1000000) (hl : WrAll l) : (wrEnv l c f).Lok (loopsOf (bodyOf c_write)) := by
  have hl' : loopsOf (bodyOf c_write) = [wrLoop] := by kernel_rfl
  rw [hl']
  refine fnE_Lok fun g h c hc hr => ?_
  rw [List.mem_singleton] at hc h
  subst hc; subst h
  exact wlLF_ok hb hl
theorem wr_nil : WrAll [] := fun d hd => by cases hd

theorem wr1a {n : Int} (hn : inI n) (c : Nat) (f : Nat → Nat → Dt) : Ctr prog f_write [.ptr 0 0, kX 1 (vI .i64 n) noS (dmB [])] (buO (.ptr 0 0) c f) (wrO c f (itoaB n).data.toList) := by
  refine ctr_fn mixed (N := 49) (fn := c_write) (c := bodyOf c_write) (ks := wrKs []) (ls := [wlLF [] c f]) (by kernel_rfl) (by kernel_rfl) (by kernel_rfl) (wrKs_ok wr_nil) fin0 (wrEnv_Lok (by decide) wr_nil) (by kernel_rfl) (Q := wrQ1a n [] c f) (fun post hp => ?_) (fun R => by kernel_rfl)
  obtain ⟨h, hp⟩ := hp
  unfold wrQ1a
  exact ⟨leL_refl _, trivial, hn, leL_refl _, leObL_refl _, h, trivial, gives2 hp (leS_refl _) (leOO_refl _)⟩
theorem wr2a {n : Int} (hn : n = 0 ∨ n = 1) (c : Nat) (f : Nat → Nat → Dt) : Ctr prog f_write [.ptr 0 0, kX 2 (vI .i64 n) noS (dmB [])] (buO (.ptr 0 0) c f) (wrO c f (if n = 1 then [35, 116] else [35, 102])) := by
  refine ctr_fn mixed (N := 49) (fn := c_write) (c := bodyOf c_write) (ks := wrKs []) (ls := [wlLF [] c f]) (by kernel_rfl) (by kernel_rfl) (by kernel_rfl) (wrKs_ok wr_nil) fin0 (wrEnv_Lok (by decide) wr_nil) (by kernel_rfl) (Q := wrQ2a n [] c f) (fun post hp => ?_) (fun R => by kernel_rfl)
  rcases hn with rfl | rfl
  · obtain ⟨h, hp⟩ := hp
    exact ⟨⟨by decide, by decide⟩, leL_refl _, leObL_refl _, h, trivial, gives2 hp (leS_refl _) (leOO_refl _)⟩
  · obtain ⟨h, hp⟩ := hp
    exact ⟨⟨by decide, by decide⟩, leL_refl _, leObL_refl _, h, trivial, gives2 hp (leS_refl _) (leOO_refl _)⟩
theorem wr3a (s : ByteArray) (c : Nat) (f : Nat → Nat → Dt) : Ctr prog f_write [.ptr 0 0, kX 3 (.ki .i64 0) s (dmB [])] (buO (.ptr 0 0) c f) (wrO c f s.data.toList) := by
  refine ctr_fn mixed (N := 49) (fn := c_write) (c := bodyOf c_write) (ks := wrKs []) (ls := [wlLF [] c f]) (by kernel_rfl) (by kernel_rfl) (by kernel_rfl) (wrKs_ok wr_nil) fin0 (wrEnv_Lok (by decide) wr_nil) (by kernel_rfl) (Q := wrQ3a s [] c f) (fun post hp => ?_) (fun R => by kernel_rfl)
  obtain ⟨h, hp⟩ := hp
  unfold wrQ3a
  exact ⟨leL_refl _, leObL_refl _, h, trivial, gives2 hp (leS_refl _) (leOO_refl _)⟩
theorem wr4a {l : List Dm} (hb : l.length ≤ 1000000) (hl : WrAll l) (c : Nat) (f : Nat → Nat → Dt) : Ctr prog f_write [.ptr 0 0, kX 4 (.ki .i64 0) noS (dmB l)] (buO (.ptr 0 0) c f) (wrO c f (wlText l l.length ++ [41])) := by
  refine ctr_fn mixed (N := 49) (fn := c_write) (c := bodyOf c_write) (ks := wrKs l) (ls := [wlLF l c f]) (by kernel_rfl) (by kernel_rfl) (by kernel_rfl) (wrKs_ok hl) fin0 (wrEnv_Lok hb hl) (by kernel_rfl) (Q := wrQ4a l c f) (fun post hp => ?_) (fun R => by kernel_rfl)
  obtain ⟨h, hp⟩ := hp
  rw [List.length_append] at h
  simp only [List.length_cons, List.length_nil] at h
  unfold wrQ4a
  refine ⟨leL_refl _, leObL_refl _, by omega, ⟨leS_refl _, leS_refl _, leS_refl _, leS_refl _, trivial⟩, ⟨leOb_refl _, trivial, row_le rfl fun k j hk hj => cat_eq (fun _ => rfl) fun hk' => one_lst (b := 40) rfl _ _ (by omega) hj, trivial⟩, ⟨Nat.zero_le _, by omega⟩, leL_refl _, leObL_refl _, by omega, trivial, gives2 hp (leS_refl _) ⟨leOb_refl _, trivial, row_le (by simp only [List.length_append, List.length_cons, List.length_nil]; omega) fun k j hk hj => cat_app (b := [41]) (one_lst (b := 41) rfl) (by simp only [List.length_append, List.length_cons, List.length_nil]; omega) hj, trivial⟩⟩

theorem wr1b {n : Int} (hn : inI n) (c : Nat) (f : Nat → Nat → Dt) : Ctr prog f_write [.ptr 0 0, kX 1 (vI .i64 n) noS (dmB [])] (buO nilP' c f) (wrO c f (itoaB n).data.toList) := by
  refine ctr_fn mixed (N := 49) (fn := c_write) (c := bodyOf c_write) (ks := wrKs []) (ls := [wlLF [] c f]) (by kernel_rfl) (by kernel_rfl) (by kernel_rfl) (wrKs_ok wr_nil) fin0 (wrEnv_Lok (by decide) wr_nil) (by kernel_rfl) (Q := wrQ1b n [] c f) (fun post hp => ?_) (fun R => by kernel_rfl)
  obtain ⟨h, hp⟩ := hp
  unfold wrQ1b
  exact ⟨leL_refl _, trivial, hn, leL_refl _, leObL_refl _, h, trivial, gives2 hp (leS_refl _) (leOO_refl _)⟩
theorem wr2b {n : Int} (hn : n = 0 ∨ n = 1) (c : Nat) (f : Nat → Nat → Dt) : Ctr prog f_write [.ptr 0 0, kX 2 (vI .i64 n) noS (dmB [])] (buO nilP' c f) (wrO c f (if n = 1 then [35, 116] else [35, 102])) := by
  refine ctr_fn mixed (N := 49) (fn := c_write) (c := bodyOf c_write) (ks := wrKs []) (ls := [wlLF [] c f]) (by kernel_rfl) (by kernel_rfl) (by kernel_rfl) (wrKs_ok wr_nil) fin0 (wrEnv_Lok (by decide) wr_nil) (by kernel_rfl) (Q := wrQ2b n [] c f) (fun post hp => ?_) (fun R => by kernel_rfl)
  rcases hn with rfl | rfl
  · obtain ⟨h, hp⟩ := hp
    exact ⟨⟨by decide, by decide⟩, leL_refl _, leObL_refl _, h, trivial, gives2 hp (leS_refl _) (leOO_refl _)⟩
  · obtain ⟨h, hp⟩ := hp
    exact ⟨⟨by decide, by decide⟩, leL_refl _, leObL_refl _, h, trivial, gives2 hp (leS_refl _) (leOO_refl _)⟩
theorem wr3b (s : ByteArray) (c : Nat) (f : Nat → Nat → Dt) : Ctr prog f_write [.ptr 0 0, kX 3 (.ki .i64 0) s (dmB [])] (buO nilP' c f) (wrO c f s.data.toList) := by
  refine ctr_fn mixed (N := 49) (fn := c_write) (c := bodyOf c_write) (ks := wrKs []) (ls := [wlLF [] c f]) (by kernel_rfl) (by kernel_rfl) (by kernel_rfl) (wrKs_ok wr_nil) fin0 (wrEnv_Lok (by decide) wr_nil) (by kernel_rfl) (Q := wrQ3b s [] c f) (fun post hp => ?_) (fun R => by kernel_rfl)
  obtain ⟨h, hp⟩ := hp
  unfold wrQ3b
  exact ⟨leL_refl _, leObL_refl _, h, trivial, gives2 hp (leS_refl _) (leOO_refl _)⟩
theorem wr4b {l : List Dm} (hb : l.length ≤ 1000000) (hl : WrAll l) (c : Nat) (f : Nat → Nat → Dt) : Ctr prog f_write [.ptr 0 0, kX 4 (.ki .i64 0) noS (dmB l)] (buO nilP' c f) (wrO c f (wlText l l.length ++ [41])) := by
  refine ctr_fn mixed (N := 49) (fn := c_write) (c := bodyOf c_write) (ks := wrKs l) (ls := [wlLF l c f]) (by kernel_rfl) (by kernel_rfl) (by kernel_rfl) (wrKs_ok hl) fin0 (wrEnv_Lok hb hl) (by kernel_rfl) (Q := wrQ4b l c f) (fun post hp => ?_) (fun R => by kernel_rfl)
  obtain ⟨h, hp⟩ := hp
  rw [List.length_append] at h
  simp only [List.length_cons, List.length_nil] at h
  unfold wrQ4b
  refine ⟨leL_refl _, leObL_refl _, by omega, ⟨leS_refl _, leS_refl _, leS_refl _, leS_refl _, trivial⟩, ⟨leOb_refl _, trivial, row_le rfl fun k j hk hj => cat_eq (fun _ => rfl) fun hk' => one_lst (b := 40) rfl _ _ (by omega) hj, trivial⟩, ⟨Nat.zero_le _, by omega⟩, leL_refl _, leObL_refl _, by omega, trivial, gives2 hp (leS_refl _) ⟨leOb_refl _, trivial, row_le (by simp only [List.length_append, List.length_cons, List.length_nil]; omega) fun k j hk hj => cat_app (b := [41]) (one_lst (b := 41) rfl) (by simp only [List.length_append, List.length_cons, List.length_nil]; omega) hj, trivial⟩⟩


theorem wrD_mk (k n : Int) (s : ByteArray) (l : List Dm) : wrD (.mk k n s l) = wrI k n s (wrN l.length (itemT l)) := by
  unfold wrD wrX
  simp only [Dm.k, Dm.n, Dm.s, Dm.l, wrA, if_true]
  congr 1
  refine wrN_congr fun i hi => ?_
  rw [dmC_eq hi (by decide), dmC_eq hi (by decide), dmC_eq hi (by decide), dmC_eq hi (by decide)]
  rfl
theorem write_ctr (d : Dm) (hd : dmN d ≤ 1000000) (lv : Int) (hg : gd d lv) : ∀ (A : SV) (c : Nat) (f : Nat → Nat → Dt), isA A → Ctr prog f_write [.ptr 0 0, dmS d] (buO A c f) (wrO c f (wrD d)) := by
  have key : ∀ (n : Nat) (d : Dm), dmN d < n → n ≤ 1000001 → ∀ lv, gd d lv → ∀ (A : SV) (c : Nat) (f : Nat → Nat → Dt), isA A → Ctr prog f_write [.ptr 0 0, dmS d] (buO A c f) (wrO c f (wrD d)) := by
    intro n
    induction n with
    | zero => intro d h; omega
    | succ n ih =>
      intro d h hn lv hg A c f hA
      have hle : ∀ (k : Int) (x : SV) (s : ByteArray) (l : List Dm), leS (vI .i64 d.n) x → d.k = k → d.s = s → d.l = l → leL [.ptr 0 0, dmS d] [.ptr 0 0, kX k x s (dmB l)] := fun k x s l hx e1 e2 e3 => by
        subst e1; subst e2; subst e3
        exact ⟨leS_refl _, ⟨(leS_dki _ _ _).2 rfl, hx, leS_refl _, dmAB _, trivial⟩, trivial⟩
      cases d with
      | mk k n' s l =>
        rw [wrD_mk]
        simp only [gd] at hg
        obtain ⟨h40, hg⟩ := hg
        rcases hg with ⟨rfl, g1, g2, rfl, rfl⟩ | ⟨rfl, g1, rfl, rfl⟩ | ⟨rfl, rfl, g1, rfl⟩ | ⟨rfl, rfl, rfl, g1⟩
        · have hi' : inI n' := ⟨by omega, by omega⟩
          rcases hA with rfl | rfl
          · exact ctr_le (wr1a hi' c f) (hle 1 _ _ _ (leS_refl _) rfl rfl rfl)
          · exact ctr_le (wr1b hi' c f) (hle 1 _ _ _ (leS_refl _) rfl rfl rfl)
        · rcases hA with rfl | rfl
          · exact ctr_le (wr2a g1 c f) (hle 2 _ _ _ (leS_refl _) rfl rfl rfl)
          · exact ctr_le (wr2b g1 c f) (hle 2 _ _ _ (leS_refl _) rfl rfl rfl)
        · rcases hA with rfl | rfl
          · exact ctr_le (wr3a s c f) (hle 3 _ _ _ ((leS_dki _ _ _).2 rfl) rfl rfl rfl)
          · exact ctr_le (wr3b s c f) (hle 3 _ _ _ ((leS_dki _ _ _).2 rfl) rfl rfl rfl)
        · have h2 : dmNL l < dmN (.mk 4 0 noS l) := by simp only [dmN]; omega
          have h3 := dmNL_len l
          have hl : WrAll l := fun x hx A c f hA => ih x (by have := dmN_mem hx; omega) (by omega) (lv + 1) (gdL_mem g1 hx) A c f hA
          rcases hA with rfl | rfl
          · exact ctr_le (wr4a (by omega) hl c f) (hle 4 _ _ _ ((leS_dki _ _ _).2 rfl) rfl rfl rfl)
          · exact ctr_le (wr4b (by omega) hl c f) (hle 4 _ _ _ ((leS_dki _ _ _).2 rfl) rfl rfl rfl)
  exact key _ d (Nat.lt_succ_self _) (by omega) lv hg
end Rd
