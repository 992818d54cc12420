/- The reader's small functions. -/
import Derived.Test.YtnalaogenpicfaaDoorRdL
set_option linter.unusedSimpArgs false
set_option linter.unusedVariables false
open Rx Go
namespace Rd
--PROG prog
noncomputable def bodyOf (f : Func) : Code := f.body.getD .skip
theorem mixed : prog.follows .mixedOrders = true := by kernel_rfl

def isInt (n : Int) : Prop := -9223372036854775808 ≤ n ∧ n ≤ 9223372036854775807
/-! ## readers of symbolic values -/
def rdI : SV → Option Int
  | .dt (.cell (.int .i64 n)) => some n
  | .ki .i64 n => some n
  | _ => none
def rdS : SV → Option ByteArray
  | .dt (.cell (.string s)) => some s
  | _ => none

/-! ## picked -/
def pickedS (n m : Int) : Int := (if n < 0 then 0 - (n + 1) else n).tmod m
def pickedO (n m : Int) : T Out := .need (isInt n ∧ m ≠ 0) (.ret (vI .i64 (pickedS n m), []))
def pickedF : FC := ⟨f_picked, false, false, fun al ol => match al, ol with
  | [n, m], [] => match rdI n, rdI m with
    | some n, some m => some ([vI .i64 n, vI .i64 m], [], pickedO n m)
    | _, _ => none
  | _, _ => none⟩

/-! ## data -/
inductive Dm where
  | mk (k n : Int) (s : ByteArray) (l : List Dm)
def Dm.k : Dm → Int | mk k _ _ _ => k
def Dm.n : Dm → Int | mk _ n _ _ => n
def Dm.s : Dm → ByteArray | mk _ _ s _ => s
def Dm.l : Dm → List Dm | mk _ _ _ l => l
def noS : ByteArray := ⟨#[]⟩
def d0 : Dm := .mk 0 0 noS []
instance : Inhabited Dm := ⟨d0⟩
mutual
def dmT : Dm → Nat → Dt
  | .mk k n s l, j => match j with
    | 0 => .cell (.int .i64 k)
    | 1 => .cell (.int .i64 n)
    | 2 => .cell (.string s)
    | _ => .arr 4 l.length (dmL l)
def dmL : List Dm → Nat → Nat → Dt
  | [], _, _ => undefCell
  | d :: l, i, j => match i with
    | 0 => dmT d j
    | i + 1 => dmL l i j
end
/-- data of a slice, in an array -/
def dmA (l : List Dm) : SV := .dt (.arr 4 l.length (dmL l))
def dmS (d : Dm) : SV := .agg [vI .i64 d.k, vI .i64 d.n, vS d.s, dmA d.l]
/-- the datum at a place -/
def dmE (l : List Dm) (i : Nat) : SV := .agg [.dt (dmL l i 0), .dt (dmL l i 1), .dt (dmL l i 2), .dt (dmL l i 3)]

/-! ## the parser -/
def pOb (s : ByteArray) (a c e : Int) : Ob := .cells tParser [vS s, vI .i64 a, vI .i64 c, vI .i64 e]
def okS (s : ByteArray) (a : Int) : Prop := s.size ≤ 3000 ∧ 0 ≤ a ∧ a ≤ s.size

/-- the end of a comment -/
def cmt (s : ByteArray) (a : Int) : Int := if a < s.size ∧ byteAt s a ≠ 10 then cmt s (a + 1) else a
termination_by ((s.size : Int) - a).toNat
decreasing_by omega
theorem cmt_ge (s : ByteArray) (a : Int) : a ≤ cmt s a := by
  fun_induction cmt s a <;> omega
theorem cmt_le (s : ByteArray) (a : Int) (h : a ≤ s.size) : cmt s a ≤ s.size := by
  fun_induction cmt s a <;> omega
/-- blanks and comments are passed -/
def blk (s : ByteArray) (a : Int) : Int :=
  if a < s.size then if byteAt s a = 32 ∨ byteAt s a = 10 ∨ byteAt s a = 9 then blk s (a + 1) else if byteAt s a = 59 then blk s (cmt s (a + 1)) else a else a
termination_by ((s.size : Int) - a).toNat
decreasing_by
  · omega
  · have := cmt_ge s (a + 1); omega
theorem blk_ge (s : ByteArray) (a : Int) : a ≤ blk s a := by
  fun_induction blk s a
  · omega
  · rename_i x _ _ _ _; have := cmt_ge s (x + 1); omega
  · omega
  · omega
theorem blk_le (s : ByteArray) (a : Int) (h : a ≤ s.size) : blk s a ≤ s.size := by
  fun_induction blk s a
  · omega
  · rename_i ih; exact ih (cmt_le _ _ (by omega))
  · omega
  · omega

def cmArgs : List SV := [.ptr 0 0]
def cmOut (s : ByteArray) (c e : Int) (a : Int) : T OutC := .need (okS s a) (.ret (.exit 3, [.ptr 0 0], [some (pOb s (cmt s a) c e)]))
def blOut (s : ByteArray) (c e : Int) (a : Int) : T OutC := .need (okS s a) (.ite (decide (blk s a < s.size)) (.ret (.ret, [], [some (pOb s (blk s a) c e)])) (.ret (.exit 0, [], [some (pOb s (blk s a) c e)])))
def cmLF : LF := ⟨5, ⟨[0], [0], []⟩, fun svs obl => match svs, obl with
  | [.ptr 0 0], [some (.cells _ [s, a, c, e])] => match rdS s, rdI a, rdI c, rdI e with
    | some s, some a, some c, some e => some (cmArgs, [some (pOb s a c e)], cmOut s c e a)
    | _, _, _, _ => none
  | _, _ => none⟩
def blLF : LF := ⟨1, ⟨[0], [], []⟩, fun svs obl => match svs, obl with
  | [.ptr 0 0], [some (.cells _ [s, a, c, e])] => match rdS s, rdI a, rdI c, rdI e with
    | some s, some a, some c, some e => some (cmArgs, [some (pOb s a c e)], blOut s c e a)
    | _, _, _, _ => none
  | _, _ => none⟩
noncomputable def blE : Env := fnE prog 72 1 [] [cmLF, blLF]
noncomputable def cmLoop : Code := (loopIn 5 (bodyOf c_blanks)).getD .skip
noncomputable def blLoop : Code := (loopIn 1 (bodyOf c_blanks)).getD .skip
def blanksO (s : ByteArray) (a c e : Int) : T Out := .need (okS s a) (.ret (.tup [], [some (pOb s (blk s a) c e)]))

/-! ## what stops -/
def stopO (s : ByteArray) (c : Int) (x y : Int) : T Out := .ret (dmS d0, [some (pOb s x c y)])

/-! ## names -/
def signs : ByteArray := ⟨#[43, 45, 42, 47, 60, 62, 61, 63, 33, 95]⟩
def okc (c : Int) : Bool := decide (97 ≤ c ∧ c ≤ 122 ∨ 48 ≤ c ∧ c ≤ 57 ∨ 0 ≤ ixB signs c)
def allc (s : ByteArray) (i : Int) : Bool := if i < s.size then okc (byteAt s i) && allc s (i + 1) else true
termination_by ((s.size : Int) - i).toNat
decreasing_by omega
def symB (s : ByteArray) : Bool :=
  decide (1 ≤ s.size ∧ s.size ≤ 16 ∧ ¬ (48 ≤ byteAt s 0 ∧ byteAt s 0 ≤ 57) ∧ (s.size = 1 ∨ byteAt s 0 ≠ 45 ∨ byteAt s 1 < 48 ∨ 57 < byteAt s 1)) && allc s 0
def syArgs (s : ByteArray) (i : Int) : List SV := [vS s, vI .i64 i, vI .i64 s.size]
def syOut (s : ByteArray) (i : Int) : T OutC := .need (0 ≤ i ∧ s.size ≤ 16) (.ite (allc s i) (.ret (.exit 0, [vS s], [])) (.ret (.ret, [vB false], [])))
def ixF : FC := ⟨f_IndexByte, false, false, fun al ol => match al, ol with
  | [.dt (.cell (.string s)), .dt (.cell (.int .u8 c))], [] => some ([vS s, vI .u8 c], [], .ret (vI .i64 (ixB s c), []))
  | _, _ => none⟩
def syLF : LF := ⟨4, ⟨[0, 24, 23], [0], [2]⟩, fun svs _ => match svs with
  | s :: i :: _ => match rdS s, rdI i with
    | some s, some i => some (syArgs s i, [], syOut s i)
    | _, _ => none
  | _ => none⟩
def syKs : List (Nat × Nat × FC) := [(7, 16, ixF)]
noncomputable def syE : Env := fnE prog 68 0 syKs [syLF]
noncomputable def syLoop : Code := (loopIn 4 (bodyOf c_symbol)).getD .skip
def symO (s : ByteArray) : T Out := .ret (vB (symB s), [])

/-! ## a slice is clipped -/
def clipO (n : Nat) (f : Nat → Nat → Dt) : T Out := .ret (.dt (.arr 4 n f), [])
def clF : FC := ⟨f_Clip, false, false, fun al ol => match al, ol with
  | [.dt (.arr 4 n f)], [] => some ([.dt (.arr 4 n f)], [], clipO n f)
  | _, _ => none⟩

def pickedQ (n m : Int) (R : SV → List (Option Ob) → Prop) : Prop :=
(((Decidable.decide (n < (0 : Int)) = Bool.true) →
 (((Rx.lo Go.IntKind.i64 ≤ n + (1 : Int)) ∧
   (n + (1 : Int) ≤ Rx.hi Go.IntKind.i64)) ∧
  (((Rx.lo Go.IntKind.i64 ≤ (0 : Int) - (n + (1 : Int))) ∧
    ((0 : Int) - (n + (1 : Int)) ≤ Rx.hi Go.IntKind.i64)) ∧
   ((m ≠ (0 : Int)) ∧
    (True ∧
     R (SV.dt (Dt.cell (Go.Value.int Go.IntKind.i64 (((0 : Int) - (n + (1 : Int))).tmod m)))) ([])))))) ∧
((Decidable.decide (n < (0 : Int)) = Bool.false) →
 ((m ≠ (0 : Int)) ∧
  (True ∧
   R (SV.dt (Dt.cell (Go.Value.int Go.IntKind.i64 (n.tmod m)))) ([])))))
def stopQ (s : ByteArray) (a c x y : Int) (R : SV → List (Option Ob) → Prop) : Prop :=
(((((0 : Int) == (0 : Int)) = Bool.true) →
 (True ∧
  R (SV.agg [SV.ki Go.IntKind.i64 ((0 : Int)), SV.ki Go.IntKind.i64 ((0 : Int)), SV.dt (Dt.cell (Go.Value.string (ByteArray.mk #[]))), SV.dt (Dt.cell (Go.Value.slice Option.none (0 : Nat) (0 : Nat)))]) ([some (Ob.cells 49 [SV.dt (Dt.cell (Go.Value.string s)), SV.dt (Dt.cell (Go.Value.int Go.IntKind.i64 x)), SV.dt (Dt.cell (Go.Value.int Go.IntKind.i64 c)), SV.dt (Dt.cell (Go.Value.int Go.IntKind.i64 y))])]))) ∧
((((0 : Int) == (0 : Int)) = Bool.false) →
 (True ∧
  R (SV.agg [SV.ki Go.IntKind.i64 ((0 : Int)), SV.ki Go.IntKind.i64 ((0 : Int)), SV.dt (Dt.cell (Go.Value.string (ByteArray.mk #[]))), SV.dt (Dt.cell (Go.Value.slice Option.none (0 : Nat) (0 : Nat)))]) ([some (Ob.cells 49 [SV.dt (Dt.cell (Go.Value.string s)), SV.dt (Dt.cell (Go.Value.int Go.IntKind.i64 a)), SV.dt (Dt.cell (Go.Value.int Go.IntKind.i64 c)), SV.dt (Dt.cell (Go.Value.int Go.IntKind.i64 (0 : Int)))])]))))
def cmLoopQ (s : ByteArray) (c e a : Int) (Rn : List SV → List (Option Ob) → Prop) (Re : Ex → List SV → List (Option Ob) → Prop) : Prop :=
(((Decidable.decide (a < (↑s.size : Int)) = Bool.true) →
 ((((0 : Int) ≤ a) ∧
   (a < (↑s.size : Int))) ∧
  ((((Rx.byteAt s a != (10 : Int)) = Bool.true) →
    (((Rx.lo Go.IntKind.i64 ≤ a + (1 : Int)) ∧
      (a + (1 : Int) ≤ Rx.hi Go.IntKind.i64)) ∧
     Rn ([SV.ptr 0 0]) ([some (Ob.cells 49 [SV.dt (Dt.cell (Go.Value.string s)), SV.dt (Dt.cell (Go.Value.int Go.IntKind.i64 (a + (1 : Int)))), SV.dt (Dt.cell (Go.Value.int Go.IntKind.i64 c)), SV.dt (Dt.cell (Go.Value.int Go.IntKind.i64 e))])]))) ∧
   (((Rx.byteAt s a != (10 : Int)) = Bool.false) →
    Re (Rx.Ex.exit (3 : Nat)) ([SV.ptr 0 0]) ([some (Ob.cells 49 [SV.dt (Dt.cell (Go.Value.string s)), SV.dt (Dt.cell (Go.Value.int Go.IntKind.i64 a)), SV.dt (Dt.cell (Go.Value.int Go.IntKind.i64 c)), SV.dt (Dt.cell (Go.Value.int Go.IntKind.i64 e))])]))))) ∧
((Decidable.decide (a < (↑s.size : Int)) = Bool.false) →
 Re (Rx.Ex.exit (3 : Nat)) ([SV.ptr 0 0]) ([some (Ob.cells 49 [SV.dt (Dt.cell (Go.Value.string s)), SV.dt (Dt.cell (Go.Value.int Go.IntKind.i64 a)), SV.dt (Dt.cell (Go.Value.int Go.IntKind.i64 c)), SV.dt (Dt.cell (Go.Value.int Go.IntKind.i64 e))])])))
def blLoopQ (s : ByteArray) (c e a : Int) (Rn : List SV → List (Option Ob) → Prop) (Re : Ex → List SV → List (Option Ob) → Prop) : Prop :=
(((Decidable.decide (a < (↑s.size : Int)) = Bool.true) →
 ((((0 : Int) ≤ a) ∧
   (a < (↑s.size : Int))) ∧
  ((((Rx.byteAt s a == (32 : Int)) = Bool.true) →
    (((Rx.lo Go.IntKind.i64 ≤ a + (1 : Int)) ∧
      (a + (1 : Int) ≤ Rx.hi Go.IntKind.i64)) ∧
     Rn ([SV.ptr 0 0]) ([some (Ob.cells 49 [SV.dt (Dt.cell (Go.Value.string s)), SV.dt (Dt.cell (Go.Value.int Go.IntKind.i64 (a + (1 : Int)))), SV.dt (Dt.cell (Go.Value.int Go.IntKind.i64 c)), SV.dt (Dt.cell (Go.Value.int Go.IntKind.i64 e))])]))) ∧
   (((Rx.byteAt s a == (32 : Int)) = Bool.false) →
    ((((Rx.byteAt s a == (10 : Int)) = Bool.true) →
      (((Rx.lo Go.IntKind.i64 ≤ a + (1 : Int)) ∧
        (a + (1 : Int) ≤ Rx.hi Go.IntKind.i64)) ∧
       Rn ([SV.ptr 0 0]) ([some (Ob.cells 49 [SV.dt (Dt.cell (Go.Value.string s)), SV.dt (Dt.cell (Go.Value.int Go.IntKind.i64 (a + (1 : Int)))), SV.dt (Dt.cell (Go.Value.int Go.IntKind.i64 c)), SV.dt (Dt.cell (Go.Value.int Go.IntKind.i64 e))])]))) ∧
     (((Rx.byteAt s a == (10 : Int)) = Bool.false) →
      ((((Rx.byteAt s a == (9 : Int)) = Bool.true) →
        (((Rx.lo Go.IntKind.i64 ≤ a + (1 : Int)) ∧
          (a + (1 : Int) ≤ Rx.hi Go.IntKind.i64)) ∧
         Rn ([SV.ptr 0 0]) ([some (Ob.cells 49 [SV.dt (Dt.cell (Go.Value.string s)), SV.dt (Dt.cell (Go.Value.int Go.IntKind.i64 (a + (1 : Int)))), SV.dt (Dt.cell (Go.Value.int Go.IntKind.i64 c)), SV.dt (Dt.cell (Go.Value.int Go.IntKind.i64 e))])]))) ∧
       (((Rx.byteAt s a == (9 : Int)) = Bool.false) →
        ((((Rx.byteAt s a == (59 : Int)) = Bool.true) →
          (((Rx.leS (SV.ptr 0 0) (SV.ptr 0 0)) ∧
            True) ∧
           ((Rx.leOO ([some (Ob.cells 49 [SV.dt (Dt.cell (Go.Value.string s)), SV.dt (Dt.cell (Go.Value.int Go.IntKind.i64 a)), SV.dt (Dt.cell (Go.Value.int Go.IntKind.i64 c)), SV.dt (Dt.cell (Go.Value.int Go.IntKind.i64 e))])]) ([some (Ob.cells 49 [SV.dt (Dt.cell (Go.Value.string s)), SV.dt (Dt.cell (Go.Value.int Go.IntKind.i64 a)), SV.dt (Dt.cell (Go.Value.int Go.IntKind.i64 c)), SV.dt (Dt.cell (Go.Value.int Go.IntKind.i64 e))])])) ∧
            ((Rd.okS s a) ∧
             Rn ([SV.ptr 0 0]) ([some (Ob.cells 49 [SV.dt (Dt.cell (Go.Value.string s)), SV.dt (Dt.cell (Go.Value.int Go.IntKind.i64 (Rd.cmt s a))), SV.dt (Dt.cell (Go.Value.int Go.IntKind.i64 c)), SV.dt (Dt.cell (Go.Value.int Go.IntKind.i64 e))])]))))) ∧
         (((Rx.byteAt s a == (59 : Int)) = Bool.false) →
          Re (Rx.Ex.ret) ([]) ([some (Ob.cells 49 [SV.dt (Dt.cell (Go.Value.string s)), SV.dt (Dt.cell (Go.Value.int Go.IntKind.i64 a)), SV.dt (Dt.cell (Go.Value.int Go.IntKind.i64 c)), SV.dt (Dt.cell (Go.Value.int Go.IntKind.i64 e))])]))))))))))) ∧
((Decidable.decide (a < (↑s.size : Int)) = Bool.false) →
 Re (Rx.Ex.exit (0 : Nat)) ([]) ([some (Ob.cells 49 [SV.dt (Dt.cell (Go.Value.string s)), SV.dt (Dt.cell (Go.Value.int Go.IntKind.i64 a)), SV.dt (Dt.cell (Go.Value.int Go.IntKind.i64 c)), SV.dt (Dt.cell (Go.Value.int Go.IntKind.i64 e))])])))
def blanksQ (s : ByteArray) (a c e : Int) (R : SV → List (Option Ob) → Prop) : Prop :=
(((Rx.leS (SV.ptr 0 0) (SV.ptr 0 0)) ∧
 True) ∧
((Rx.leOO ([some (Ob.cells 49 [SV.dt (Dt.cell (Go.Value.string s)), SV.dt (Dt.cell (Go.Value.int Go.IntKind.i64 a)), SV.dt (Dt.cell (Go.Value.int Go.IntKind.i64 c)), SV.dt (Dt.cell (Go.Value.int Go.IntKind.i64 e))])]) ([some (Ob.cells 49 [SV.dt (Dt.cell (Go.Value.string s)), SV.dt (Dt.cell (Go.Value.int Go.IntKind.i64 a)), SV.dt (Dt.cell (Go.Value.int Go.IntKind.i64 c)), SV.dt (Dt.cell (Go.Value.int Go.IntKind.i64 e))])])) ∧
 ((Rd.okS s a) ∧
  (((Decidable.decide (Rd.blk s a < (↑s.size : Int)) = Bool.true) →
    (True ∧
     R (SV.tup []) ([some (Ob.cells 49 [SV.dt (Dt.cell (Go.Value.string s)), SV.dt (Dt.cell (Go.Value.int Go.IntKind.i64 (Rd.blk s a))), SV.dt (Dt.cell (Go.Value.int Go.IntKind.i64 c)), SV.dt (Dt.cell (Go.Value.int Go.IntKind.i64 e))])]))) ∧
   ((Decidable.decide (Rd.blk s a < (↑s.size : Int)) = Bool.false) →
    (True ∧
     R (SV.tup []) ([some (Ob.cells 49 [SV.dt (Dt.cell (Go.Value.string s)), SV.dt (Dt.cell (Go.Value.int Go.IntKind.i64 (Rd.blk s a))), SV.dt (Dt.cell (Go.Value.int Go.IntKind.i64 c)), SV.dt (Dt.cell (Go.Value.int Go.IntKind.i64 e))])])))))))
def syLoopQ (s : ByteArray) (i : Int) (Rn : List SV → List (Option Ob) → Prop) (Re : Ex → List SV → List (Option Ob) → Prop) : Prop :=
(((Decidable.decide (i < (↑s.size : Int)) = Bool.true) →
 ((((0 : Int) ≤ i) ∧
   (i < (↑s.size : Int))) ∧
  (((Decidable.decide (Rx.byteAt s i < (97 : Int)) = Bool.true) →
    (((Decidable.decide (Rx.byteAt s i < (48 : Int)) = Bool.true) →
      ((Rx.leL ([SV.dt (Dt.cell (Go.Value.string (ByteArray.mk #[(43 : UInt8), (45 : UInt8), (42 : UInt8), (47 : UInt8), (60 : UInt8), (62 : UInt8), (61 : UInt8), (63 : UInt8), (33 : UInt8), (95 : UInt8)]))), SV.dt (Dt.cell (Go.Value.int Go.IntKind.u8 (Rx.byteAt s i)))]) ([SV.dt (Dt.cell (Go.Value.string (ByteArray.mk #[(43 : UInt8), (45 : UInt8), (42 : UInt8), (47 : UInt8), (60 : UInt8), (62 : UInt8), (61 : UInt8), (63 : UInt8), (33 : UInt8), (95 : UInt8)]))), SV.dt (Dt.cell (Go.Value.int Go.IntKind.u8 (Rx.byteAt s i)))])) ∧
       ((Rx.leObL ([]) ([])) ∧
        (((Decidable.decide (Rd.ixB (ByteArray.mk #[(43 : UInt8), (45 : UInt8), (42 : UInt8), (47 : UInt8), (60 : UInt8), (62 : UInt8), (61 : UInt8), (63 : UInt8), (33 : UInt8), (95 : UInt8)]) (Rx.byteAt s i) < (0 : Int)) = Bool.true) →
          Re (Rx.Ex.ret) ([SV.dt (Dt.cell (Go.Value.bool Bool.false))]) ([])) ∧
         ((Decidable.decide (Rd.ixB (ByteArray.mk #[(43 : UInt8), (45 : UInt8), (42 : UInt8), (47 : UInt8), (60 : UInt8), (62 : UInt8), (61 : UInt8), (63 : UInt8), (33 : UInt8), (95 : UInt8)]) (Rx.byteAt s i) < (0 : Int)) = Bool.false) →
          (((Rx.lo Go.IntKind.i64 ≤ i + (1 : Int)) ∧
            (i + (1 : Int) ≤ Rx.hi Go.IntKind.i64)) ∧
           Rn ([SV.dt (Dt.cell (Go.Value.string s)), SV.dt (Dt.cell (Go.Value.int Go.IntKind.i64 (i + (1 : Int)))), SV.dt (Dt.cell (Go.Value.int Go.IntKind.i64 (↑s.size : Int)))]) ([]))))))) ∧
     ((Decidable.decide (Rx.byteAt s i < (48 : Int)) = Bool.false) →
      (((Decidable.decide (Rx.byteAt s i > (57 : Int)) = Bool.true) →
        ((Rx.leL ([SV.dt (Dt.cell (Go.Value.string (ByteArray.mk #[(43 : UInt8), (45 : UInt8), (42 : UInt8), (47 : UInt8), (60 : UInt8), (62 : UInt8), (61 : UInt8), (63 : UInt8), (33 : UInt8), (95 : UInt8)]))), SV.dt (Dt.cell (Go.Value.int Go.IntKind.u8 (Rx.byteAt s i)))]) ([SV.dt (Dt.cell (Go.Value.string (ByteArray.mk #[(43 : UInt8), (45 : UInt8), (42 : UInt8), (47 : UInt8), (60 : UInt8), (62 : UInt8), (61 : UInt8), (63 : UInt8), (33 : UInt8), (95 : UInt8)]))), SV.dt (Dt.cell (Go.Value.int Go.IntKind.u8 (Rx.byteAt s i)))])) ∧
         ((Rx.leObL ([]) ([])) ∧
          (((Decidable.decide (Rd.ixB (ByteArray.mk #[(43 : UInt8), (45 : UInt8), (42 : UInt8), (47 : UInt8), (60 : UInt8), (62 : UInt8), (61 : UInt8), (63 : UInt8), (33 : UInt8), (95 : UInt8)]) (Rx.byteAt s i) < (0 : Int)) = Bool.true) →
            Re (Rx.Ex.ret) ([SV.dt (Dt.cell (Go.Value.bool Bool.false))]) ([])) ∧
           ((Decidable.decide (Rd.ixB (ByteArray.mk #[(43 : UInt8), (45 : UInt8), (42 : UInt8), (47 : UInt8), (60 : UInt8), (62 : UInt8), (61 : UInt8), (63 : UInt8), (33 : UInt8), (95 : UInt8)]) (Rx.byteAt s i) < (0 : Int)) = Bool.false) →
            (((Rx.lo Go.IntKind.i64 ≤ i + (1 : Int)) ∧
              (i + (1 : Int) ≤ Rx.hi Go.IntKind.i64)) ∧
             Rn ([SV.dt (Dt.cell (Go.Value.string s)), SV.dt (Dt.cell (Go.Value.int Go.IntKind.i64 (i + (1 : Int)))), SV.dt (Dt.cell (Go.Value.int Go.IntKind.i64 (↑s.size : Int)))]) ([]))))))) ∧
       ((Decidable.decide (Rx.byteAt s i > (57 : Int)) = Bool.false) →
        (((Rx.lo Go.IntKind.i64 ≤ i + (1 : Int)) ∧
          (i + (1 : Int) ≤ Rx.hi Go.IntKind.i64)) ∧
         Rn ([SV.dt (Dt.cell (Go.Value.string s)), SV.dt (Dt.cell (Go.Value.int Go.IntKind.i64 (i + (1 : Int)))), SV.dt (Dt.cell (Go.Value.int Go.IntKind.i64 (↑s.size : Int)))]) ([]))))))) ∧
   ((Decidable.decide (Rx.byteAt s i < (97 : Int)) = Bool.false) →
    (((Decidable.decide (Rx.byteAt s i > (122 : Int)) = Bool.true) →
      (((Decidable.decide (Rx.byteAt s i < (48 : Int)) = Bool.true) →
        ((Rx.leL ([SV.dt (Dt.cell (Go.Value.string (ByteArray.mk #[(43 : UInt8), (45 : UInt8), (42 : UInt8), (47 : UInt8), (60 : UInt8), (62 : UInt8), (61 : UInt8), (63 : UInt8), (33 : UInt8), (95 : UInt8)]))), SV.dt (Dt.cell (Go.Value.int Go.IntKind.u8 (Rx.byteAt s i)))]) ([SV.dt (Dt.cell (Go.Value.string (ByteArray.mk #[(43 : UInt8), (45 : UInt8), (42 : UInt8), (47 : UInt8), (60 : UInt8), (62 : UInt8), (61 : UInt8), (63 : UInt8), (33 : UInt8), (95 : UInt8)]))), SV.dt (Dt.cell (Go.Value.int Go.IntKind.u8 (Rx.byteAt s i)))])) ∧
         ((Rx.leObL ([]) ([])) ∧
          (((Decidable.decide (Rd.ixB (ByteArray.mk #[(43 : UInt8), (45 : UInt8), (42 : UInt8), (47 : UInt8), (60 : UInt8), (62 : UInt8), (61 : UInt8), (63 : UInt8), (33 : UInt8), (95 : UInt8)]) (Rx.byteAt s i) < (0 : Int)) = Bool.true) →
            Re (Rx.Ex.ret) ([SV.dt (Dt.cell (Go.Value.bool Bool.false))]) ([])) ∧
           ((Decidable.decide (Rd.ixB (ByteArray.mk #[(43 : UInt8), (45 : UInt8), (42 : UInt8), (47 : UInt8), (60 : UInt8), (62 : UInt8), (61 : UInt8), (63 : UInt8), (33 : UInt8), (95 : UInt8)]) (Rx.byteAt s i) < (0 : Int)) = Bool.false) →
            (((Rx.lo Go.IntKind.i64 ≤ i + (1 : Int)) ∧
              (i + (1 : Int) ≤ Rx.hi Go.IntKind.i64)) ∧
             Rn ([SV.dt (Dt.cell (Go.Value.string s)), SV.dt (Dt.cell (Go.Value.int Go.IntKind.i64 (i + (1 : Int)))), SV.dt (Dt.cell (Go.Value.int Go.IntKind.i64 (↑s.size : Int)))]) ([]))))))) ∧
       ((Decidable.decide (Rx.byteAt s i < (48 : Int)) = Bool.false) →
        (((Decidable.decide (Rx.byteAt s i > (57 : Int)) = Bool.true) →
          ((Rx.leL ([SV.dt (Dt.cell (Go.Value.string (ByteArray.mk #[(43 : UInt8), (45 : UInt8), (42 : UInt8), (47 : UInt8), (60 : UInt8), (62 : UInt8), (61 : UInt8), (63 : UInt8), (33 : UInt8), (95 : UInt8)]))), SV.dt (Dt.cell (Go.Value.int Go.IntKind.u8 (Rx.byteAt s i)))]) ([SV.dt (Dt.cell (Go.Value.string (ByteArray.mk #[(43 : UInt8), (45 : UInt8), (42 : UInt8), (47 : UInt8), (60 : UInt8), (62 : UInt8), (61 : UInt8), (63 : UInt8), (33 : UInt8), (95 : UInt8)]))), SV.dt (Dt.cell (Go.Value.int Go.IntKind.u8 (Rx.byteAt s i)))])) ∧
           ((Rx.leObL ([]) ([])) ∧
            (((Decidable.decide (Rd.ixB (ByteArray.mk #[(43 : UInt8), (45 : UInt8), (42 : UInt8), (47 : UInt8), (60 : UInt8), (62 : UInt8), (61 : UInt8), (63 : UInt8), (33 : UInt8), (95 : UInt8)]) (Rx.byteAt s i) < (0 : Int)) = Bool.true) →
              Re (Rx.Ex.ret) ([SV.dt (Dt.cell (Go.Value.bool Bool.false))]) ([])) ∧
             ((Decidable.decide (Rd.ixB (ByteArray.mk #[(43 : UInt8), (45 : UInt8), (42 : UInt8), (47 : UInt8), (60 : UInt8), (62 : UInt8), (61 : UInt8), (63 : UInt8), (33 : UInt8), (95 : UInt8)]) (Rx.byteAt s i) < (0 : Int)) = Bool.false) →
              (((Rx.lo Go.IntKind.i64 ≤ i + (1 : Int)) ∧
                (i + (1 : Int) ≤ Rx.hi Go.IntKind.i64)) ∧
               Rn ([SV.dt (Dt.cell (Go.Value.string s)), SV.dt (Dt.cell (Go.Value.int Go.IntKind.i64 (i + (1 : Int)))), SV.dt (Dt.cell (Go.Value.int Go.IntKind.i64 (↑s.size : Int)))]) ([]))))))) ∧
         ((Decidable.decide (Rx.byteAt s i > (57 : Int)) = Bool.false) →
          (((Rx.lo Go.IntKind.i64 ≤ i + (1 : Int)) ∧
            (i + (1 : Int) ≤ Rx.hi Go.IntKind.i64)) ∧
           Rn ([SV.dt (Dt.cell (Go.Value.string s)), SV.dt (Dt.cell (Go.Value.int Go.IntKind.i64 (i + (1 : Int)))), SV.dt (Dt.cell (Go.Value.int Go.IntKind.i64 (↑s.size : Int)))]) ([]))))))) ∧
     ((Decidable.decide (Rx.byteAt s i > (122 : Int)) = Bool.false) →
      (((Rx.lo Go.IntKind.i64 ≤ i + (1 : Int)) ∧
        (i + (1 : Int) ≤ Rx.hi Go.IntKind.i64)) ∧
       Rn ([SV.dt (Dt.cell (Go.Value.string s)), SV.dt (Dt.cell (Go.Value.int Go.IntKind.i64 (i + (1 : Int)))), SV.dt (Dt.cell (Go.Value.int Go.IntKind.i64 (↑s.size : Int)))]) ([])))))))) ∧
((Decidable.decide (i < (↑s.size : Int)) = Bool.false) →
 Re (Rx.Ex.exit (0 : Nat)) ([SV.dt (Dt.cell (Go.Value.string s))]) ([])))
def symbolQ (s : ByteArray) (R : SV → List (Option Ob) → Prop) : Prop :=
((((s.data.toList == []) = Bool.true) →
 (True ∧
  R (SV.dt (Dt.cell (Go.Value.bool Bool.false))) ([]))) ∧
(((s.data.toList == []) = Bool.false) →
 (((Decidable.decide ((↑s.size : Int) > (16 : Int)) = Bool.true) →
   (True ∧
    R (SV.dt (Dt.cell (Go.Value.bool Bool.false))) ([]))) ∧
  ((Decidable.decide ((↑s.size : Int) > (16 : Int)) = Bool.false) →
   ((((0 : Int) ≤ (0 : Int)) ∧
     ((0 : Int) < (↑s.size : Int))) ∧
    (((Decidable.decide (Rx.byteAt s (0 : Int) ≥ (48 : Int)) = Bool.true) →
      ((((0 : Int) ≤ (0 : Int)) ∧
        ((0 : Int) < (↑s.size : Int))) ∧
       (((Decidable.decide (Rx.byteAt s (0 : Int) ≤ (57 : Int)) = Bool.true) →
         (True ∧
          R (SV.dt (Dt.cell (Go.Value.bool Bool.false))) ([]))) ∧
        ((Decidable.decide (Rx.byteAt s (0 : Int) ≤ (57 : Int)) = Bool.false) →
         (((Rx.leS (SV.dt (Dt.cell (Go.Value.string s))) (SV.dt (Dt.cell (Go.Value.string s)))) ∧
           ((Rx.leS (SV.dt (Dt.cell (Go.Value.int Go.IntKind.i64 (0 : Int)))) (SV.dt (Dt.cell (Go.Value.int Go.IntKind.i64 (0 : Int))))) ∧
            ((Rx.leS (SV.dt (Dt.cell (Go.Value.int Go.IntKind.i64 (↑s.size : Int)))) (SV.dt (Dt.cell (Go.Value.int Go.IntKind.i64 (↑s.size : Int))))) ∧
             True))) ∧
          ((Rx.leOO ([]) ([])) ∧
           ((((0 : Int) ≤ (0 : Int)) ∧
             (s.size ≤ (16 : Nat))) ∧
            (((Rd.allc s (0 : Int) = Bool.true) →
              (((((↑s.size : Int) == (1 : Int)) = Bool.true) →
                (True ∧
                 R (SV.dt (Dt.cell (Go.Value.bool Bool.true))) ([]))) ∧
               ((((↑s.size : Int) == (1 : Int)) = Bool.false) →
                ((((0 : Int) ≤ (0 : Int)) ∧
                  ((0 : Int) < (↑s.size : Int))) ∧
                 ((((Rx.byteAt s (0 : Int) != (45 : Int)) = Bool.true) →
                   (True ∧
                    R (SV.dt (Dt.cell (Go.Value.bool Bool.true))) ([]))) ∧
                  (((Rx.byteAt s (0 : Int) != (45 : Int)) = Bool.false) →
                   ((((0 : Int) ≤ (1 : Int)) ∧
                     ((1 : Int) < (↑s.size : Int))) ∧
                    (((Decidable.decide (Rx.byteAt s (1 : Int) < (48 : Int)) = Bool.true) →
                      (True ∧
                       R (SV.dt (Dt.cell (Go.Value.bool Bool.true))) ([]))) ∧
                     ((Decidable.decide (Rx.byteAt s (1 : Int) < (48 : Int)) = Bool.false) →
                      ((((0 : Int) ≤ (1 : Int)) ∧
                        ((1 : Int) < (↑s.size : Int))) ∧
                       (True ∧
                        R (SV.dt (Dt.cell (Go.Value.bool (Decidable.decide (Rx.byteAt s (1 : Int) > (57 : Int)))))) ([])))))))))))) ∧
             ((Rd.allc s (0 : Int) = Bool.false) →
              (True ∧
               R (SV.dt (Dt.cell (Go.Value.bool Bool.false))) ([]))))))))))) ∧
     ((Decidable.decide (Rx.byteAt s (0 : Int) ≥ (48 : Int)) = Bool.false) →
      (((Rx.leS (SV.dt (Dt.cell (Go.Value.string s))) (SV.dt (Dt.cell (Go.Value.string s)))) ∧
        ((Rx.leS (SV.dt (Dt.cell (Go.Value.int Go.IntKind.i64 (0 : Int)))) (SV.dt (Dt.cell (Go.Value.int Go.IntKind.i64 (0 : Int))))) ∧
         ((Rx.leS (SV.dt (Dt.cell (Go.Value.int Go.IntKind.i64 (↑s.size : Int)))) (SV.dt (Dt.cell (Go.Value.int Go.IntKind.i64 (↑s.size : Int))))) ∧
          True))) ∧
       ((Rx.leOO ([]) ([])) ∧
        ((((0 : Int) ≤ (0 : Int)) ∧
          (s.size ≤ (16 : Nat))) ∧
         (((Rd.allc s (0 : Int) = Bool.true) →
           (((((↑s.size : Int) == (1 : Int)) = Bool.true) →
             (True ∧
              R (SV.dt (Dt.cell (Go.Value.bool Bool.true))) ([]))) ∧
            ((((↑s.size : Int) == (1 : Int)) = Bool.false) →
             ((((0 : Int) ≤ (0 : Int)) ∧
               ((0 : Int) < (↑s.size : Int))) ∧
              ((((Rx.byteAt s (0 : Int) != (45 : Int)) = Bool.true) →
                (True ∧
                 R (SV.dt (Dt.cell (Go.Value.bool Bool.true))) ([]))) ∧
               (((Rx.byteAt s (0 : Int) != (45 : Int)) = Bool.false) →
                ((((0 : Int) ≤ (1 : Int)) ∧
                  ((1 : Int) < (↑s.size : Int))) ∧
                 (((Decidable.decide (Rx.byteAt s (1 : Int) < (48 : Int)) = Bool.true) →
                   (True ∧
                    R (SV.dt (Dt.cell (Go.Value.bool Bool.true))) ([]))) ∧
                  ((Decidable.decide (Rx.byteAt s (1 : Int) < (48 : Int)) = Bool.false) →
                   ((((0 : Int) ≤ (1 : Int)) ∧
                     ((1 : Int) < (↑s.size : Int))) ∧
                    (True ∧
                     R (SV.dt (Dt.cell (Go.Value.bool (Decidable.decide (Rx.byteAt s (1 : Int) > (57 : Int)))))) ([])))))))))))) ∧
          ((Rd.allc s (0 : Int) = Bool.false) →
           (True ∧
            R (SV.dt (Dt.cell (Go.Value.bool Bool.false))) ([]))))))))))))))
def clipQ (n : Nat) (f : Nat → Nat → Dt) (R : SV → List (Option Ob) → Prop) : Prop :=
((((0 : Int) ≤ (↑n : Int)) ∧
 (((↑n : Int) ≤ (↑n : Int)) ∧
  ((↑n : Int) ≤ (↑n : Int)))) ∧
(True ∧
 R (SV.dt (Dt.arr ((4 : Nat)) ((↑n : Int).toNat) (f))) ([])))
theorem dmS0 : leS (.agg [.ki .i64 0, .ki .i64 0, .dt (.cell (.string ⟨#[]⟩)), .dt (.cell (.slice none 0 0))]) (dmS d0) := by
  simp only [dmS, dmA, leS_agg, leL_cons, leL_nil, and_true]
  refine ⟨(leS_ki _ _ _).2 rfl, (leS_ki _ _ _).2 rfl, (leS_str _ _).2 rfl, ?_⟩
  rw [leS_dt]
  simp only [leDt]
  exact ⟨rfl, rfl⟩

theorem no_loops {E : Env} {l : List Code} (h : l = []) : E.Lok l := by
  subst h
  intro c hc; cases hc

theorem picked_ctr (n m : Int) : Ctr prog f_picked [vI .i64 n, vI .i64 m] [] (pickedO n m) := by
  refine ctr_fn mixed (N := 13) (fn := c_picked) (c := bodyOf c_picked) (ks := []) (ls := []) (by kernel_rfl) (by kernel_rfl) (by kernel_rfl) all_nil fin0 (fnE_Lok (fun f h => by cases h)) (by kernel_rfl) (Q := pickedQ n m) (fun post hp => ?_) (fun R => by kernel_rfl)
  obtain ⟨⟨⟨h1, h2⟩, hm⟩, hp⟩ := hp
  unfold pickedQ
  simp only [lo, hi, decide_eq_true_eq, decide_eq_false_iff_not]
  refine ⟨fun h => ⟨⟨by omega, by omega⟩, ⟨by omega, by omega⟩, hm, trivial, ?_⟩, fun h => ⟨hm, trivial, ?_⟩⟩
  · exact ⟨_, hp, by rw [leS_cell, pickedS, if_pos h], leOO_refl _⟩
  · exact ⟨_, hp, by rw [leS_cell, pickedS, if_neg h], leOO_refl _⟩

theorem stop_ctr (s : ByteArray) (a c x y : Int) : Ctr prog f_stop [.ptr 0 0, vI .i64 x, vI .i64 y] [pOb s a c 0] (stopO s c x y) := by
  refine ctr_fn mixed (N := 21) (fn := c_stop) (c := bodyOf c_stop) (ks := []) (ls := []) (by kernel_rfl) (by kernel_rfl) (by kernel_rfl) all_nil fin0 (fnE_Lok (fun f h => by cases h)) (by kernel_rfl) (Q := stopQ s a c x y) (fun post hp => ?_) (fun R => by kernel_rfl)
  have hp : post (dmS d0, [some (pOb s x c y)]) := hp
  unfold stopQ
  refine ⟨fun _ => ⟨trivial, gives2 hp dmS0 (leOO_refl _)⟩, fun h => by cases h⟩

theorem cmLoop_sound (s : ByteArray) (c e a : Int) : Sound blE (.loop cmLoop) (mkSt (cmLF.live.h.zip cmArgs) [some (pOb s a c e)]) ((cmOut s c e a).map (OutC.st cmLF.live)) := by
  refine loop_fn mixed (ks := []) (ls := [cmLF, blLF]) (c := cmLoop) (nb := 1) (N := 72) all_nil (no_loops (by kernel_rfl)) cmLF.live (fun _ : Int => cmArgs) (fun a => [some (pOb s a c e)]) (fun a => cmOut s c e a) (fun a => ((s.size : Int) - a).toNat)
    (Q := fun a => cmLoopQ s c e a) (fun a post hp => ?_) (fun a Rn Re => by kernel_rfl) a
  obtain ⟨⟨h1, h2, h3⟩, hp⟩ := hp
  have hp : post (.exit 3, [.ptr 0 0], [some (pOb s (cmt s a) c e)]) := hp
  unfold cmLoopQ
  simp only [lo, hi, decide_eq_true_eq, decide_eq_false_iff_not, bne_iff_ne, bne_eq_false_iff_eq]
  have done : cmt s a = a → Outs post (.exit 3) [.ptr 0 0] [some (pOb s a c e)] := fun h => by
    rw [h] at hp; exact Outs.mk hp (leL_refl _) (leOO_refl _)
  refine ⟨fun h => ⟨⟨h2, h⟩, fun hb => ⟨⟨by omega, by omega⟩, a + 1, by omega, leL_refl _, leOO_refl _, ⟨h1, by omega, by omega⟩, ?_⟩, fun hb => done ?_⟩, fun h => done ?_⟩
  · have : cmt s a = cmt s (a + 1) := by rw [cmt, if_pos ⟨h, hb⟩]
    rw [this] at hp; exact hp
  · rw [cmt, if_neg]; rintro ⟨_, h⟩; exact h hb
  · rw [cmt, if_neg]; rintro ⟨h', _⟩; exact h h'
theorem cmLF_ok : LFok blE cmLF cmLoop := by
  intro svs obl args obs out h
  unfold cmLF at h
  simp only at h
  repeat' split at h
  all_goals first
    | (simp only [Option.some.injEq, Prod.mk.injEq] at h; obtain ⟨rfl, rfl, rfl⟩ := h; apply cmLoop_sound)
    | cases h

theorem blLoop_sound (s : ByteArray) (c e a : Int) : Sound blE (.loop blLoop) (mkSt (blLF.live.h.zip cmArgs) [some (pOb s a c e)]) ((blOut s c e a).map (OutC.st blLF.live)) := by
  refine loop_fn mixed (ks := []) (ls := [cmLF, blLF]) (c := blLoop) (nb := 1) (N := 72) all_nil (fnE_Lok fun f h c hc hr => ?_) blLF.live (fun _ : Int => cmArgs) (fun a => [some (pOb s a c e)]) (fun a => blOut s c e a) (fun a => ((s.size : Int) - a).toNat)
    (Q := fun a => blLoopQ s c e a) (fun a post hp => ?_) (fun a Rn Re => by kernel_rfl) a
  · have hl : loopsOf blLoop = [cmLoop] := by kernel_rfl
    rw [hl, List.mem_singleton] at hc
    subst hc
    rcases List.mem_cons.1 h with rfl | h
    · exact cmLF_ok
    · rw [List.mem_singleton] at h
      subst h
      have : firstRid cmLoop = 5 := by kernel_rfl
      rw [this] at hr
      cases hr
  obtain ⟨⟨h1, h2, h3⟩, hp⟩ := hp
  unfold blLoopQ
  have nx : ∀ b, a < b → b ≤ s.size → blk s b = blk s a → ∃ x', ((s.size : Int) - x').toNat < ((s.size : Int) - a).toNat ∧ leL [SV.ptr 0 0] cmArgs ∧ leOO [some (pOb s b c e)] [some (pOb s x' c e)] ∧ (blOut s c e x').holds post := fun b hb hb' he => by
    refine ⟨b, by omega, leL_refl _, leOO_refl _, ⟨h1, by omega, hb'⟩, ?_⟩
    rw [he]; exact hp
  have lr : blk s a = a → a < s.size → Outs post .ret [] [some (pOb s a c e)] := fun h h' => Outs.mk (hp.1 (by rw [h]; simpa using h')) (leL_refl _) (by rw [h]; exact leOO_refl _)
  have le : blk s a = a → ¬ a < s.size → Outs post (.exit 0) [] [some (pOb s a c e)] := fun h h' => Outs.mk (hp.2 (by rw [h]; simpa using h')) (leL_refl _) (by rw [h]; exact leOO_refl _)
  simp only [lo, hi, decide_eq_true_eq, decide_eq_false_iff_not, bne_iff_ne, bne_eq_false_iff_eq, beq_iff_eq, beq_eq_false_iff_ne]
  have e1 : ∀ b : Int, a < s.size → (byteAt s a = 32 ∨ byteAt s a = 10 ∨ byteAt s a = 9) → blk s (a + 1) = blk s a := fun b h hb => by
    rw [blk.eq_1 s a, if_pos h, if_pos hb]
  refine ⟨fun h => ⟨⟨h2, h⟩, fun g1 => ⟨⟨by omega, by omega⟩, nx _ (by omega) (by omega) (e1 a h (.inl g1))⟩, fun g1 => ⟨fun g2 => ⟨⟨by omega, by omega⟩, nx _ (by omega) (by omega) (e1 a h (.inr (.inl g2)))⟩, fun g2 =>
    ⟨fun g3 => ⟨⟨by omega, by omega⟩, nx _ (by omega) (by omega) (e1 a h (.inr (.inr g3)))⟩, fun g3 => ⟨fun g4 => ⟨⟨(leS_self _).2 trivial, trivial⟩, leOO_refl _, ⟨h1, h2, h3⟩, ?_⟩, fun g4 => lr ?_ h⟩⟩⟩⟩, fun h => le ?_ h⟩
  · have c1 : cmt s a = cmt s (a + 1) := by rw [cmt.eq_1 s a, if_pos ⟨h, by omega⟩]
    have := cmt_ge s (a + 1)
    refine nx _ (by omega) (cmt_le _ _ h3) ?_
    rw [c1]
    conv => rhs; rw [blk, if_pos h, if_neg (by omega), if_pos g4]
  · rw [blk, if_pos h, if_neg (by omega), if_neg g4]
  · rw [blk, if_neg h]
theorem blLF_ok : LFok blE blLF blLoop := by
  intro svs obl args obs out h
  unfold blLF at h
  simp only at h
  repeat' split at h
  all_goals first
    | (simp only [Option.some.injEq, Prod.mk.injEq] at h; obtain ⟨rfl, rfl, rfl⟩ := h; apply blLoop_sound)
    | cases h

theorem blE_Lok : blE.Lok (loopsOf (bodyOf c_blanks)) := by
  have hl : loopsOf (bodyOf c_blanks) = [blLoop] := by kernel_rfl
  rw [hl]
  refine fnE_Lok fun f h c hc hr => ?_
  rw [List.mem_singleton] at hc
  subst hc
  have h1 : firstRid blLoop = 1 := by kernel_rfl
  rw [h1] at hr
  rcases List.mem_cons.1 h with rfl | h
  · cases hr
  · rw [List.mem_singleton] at h
    subst h
    exact blLF_ok

theorem blanks_ctr (s : ByteArray) (a c e : Int) : Ctr prog f_blanks [.ptr 0 0] [pOb s a c e] (blanksO s a c e) := by
  refine ctr_fn mixed (N := 72) (fn := c_blanks) (c := bodyOf c_blanks) (ks := []) (ls := [cmLF, blLF]) (by kernel_rfl) (by kernel_rfl) (by kernel_rfl) all_nil fin0 blE_Lok (by kernel_rfl) (Q := blanksQ s a c e) (fun post hp => ?_) (fun R => by kernel_rfl)
  obtain ⟨h, hp⟩ := hp
  have hp : post (.tup [], [some (pOb s (blk s a) c e)]) := hp
  unfold blanksQ
  exact ⟨⟨(leS_self _).2 trivial, trivial⟩, leOO_refl _, h, fun _ => ⟨trivial, gives2 hp (leS_refl _) (leOO_refl _)⟩, fun _ => ⟨trivial, gives2 hp (leS_refl _) (leOO_refl _)⟩⟩

theorem clip_ctr (n : Nat) (f : Nat → Nat → Dt) : Ctr prog f_Clip [.dt (.arr 4 n f)] [] (clipO n f) := by
  refine ctr_fn mixed (N := 9) (fn := c_Clip) (c := bodyOf c_Clip) (ks := []) (ls := []) (by kernel_rfl) (by kernel_rfl) (by kernel_rfl) all_nil fin0 (no_loops (by kernel_rfl)) (by kernel_rfl) (Q := clipQ n f) (fun post hp => ?_) (fun R => by kernel_rfl)
  have hp : post (.dt (.arr 4 n f), []) := hp
  unfold clipQ
  exact ⟨⟨by omega, by omega, by omega⟩, trivial, gives1 hp (leS_refl _)⟩

theorem ixF_ok : ixF.Ok prog := by
  intro al ol args obs out h
  unfold ixF at h
  simp only at h
  split at h
  · simp only [Option.some.injEq, Prod.mk.injEq] at h
    obtain ⟨rfl, rfl, rfl⟩ := h
    exact indexByte_ctr _ _
  · cases h

theorem allc_lt {s : ByteArray} {i : Int} (h : i < s.size) : allc s i = (okc (byteAt s i) && allc s (i + 1)) := by rw [allc, if_pos h]
theorem allc_ge {s : ByteArray} {i : Int} (h : ¬ i < s.size) : allc s i = true := by rw [allc, if_neg h]

theorem syLoop_sound (s : ByteArray) (i : Int) : Sound syE (.loop syLoop) (mkSt (syLF.live.h.zip (syArgs s i)) []) ((syOut s i).map (OutC.st syLF.live)) := by
  refine loop_fn mixed (ks := syKs) (ls := [syLF]) (c := syLoop) (nb := 0) (N := 68) (all_cons ixF_ok all_nil) (no_loops (by kernel_rfl)) syLF.live (fun i : Int => syArgs s i) (fun _ => []) (fun i => syOut s i) (fun i => ((s.size : Int) - i).toNat)
    (Q := fun i => syLoopQ s i) (fun i post hp => ?_) (fun a Rn Re => by kernel_rfl) i
  obtain ⟨⟨h1, h2⟩, hp⟩ := hp
  have nx : i < s.size → okc (byteAt s i) = true → ∃ x', ((s.size : Int) - x').toNat < ((s.size : Int) - i).toNat ∧ leL (syArgs s (i + 1)) (syArgs s x') ∧ leOO [] [] ∧ (syOut s x').holds post := fun h ho => by
    refine ⟨i + 1, by omega, leL_refl _, leOO_refl _, ⟨by omega, h2⟩, ?_⟩
    rw [allc_lt h, ho, Bool.true_and] at hp; exact hp
  have lf : i < s.size → okc (byteAt s i) = false → Outs post .ret [vB false] [] := fun h ho => Outs.mk (hp.2 (by rw [allc_lt h, ho]; rfl)) (leL_refl _) (leOO_refl _)
  unfold syLoopQ
  simp only [lo, hi, decide_eq_true_eq, decide_eq_false_iff_not]
  have hsg : ixB ⟨#[43, 45, 42, 47, 60, 62, 61, 63, 33, 95]⟩ (byteAt s i) = ixB signs (byteAt s i) := rfl
  have T : ∀ {p : Prop}, (97 ≤ byteAt s i ∧ byteAt s i ≤ 122 ∨ 48 ≤ byteAt s i ∧ byteAt s i ≤ 57 ∨ 0 ≤ ixB signs (byteAt s i)) → (okc (byteAt s i) = true → p) → p := fun h k => k (by simpa [okc] using h)
  have F : ∀ {p : Prop}, ¬ (97 ≤ byteAt s i ∧ byteAt s i ≤ 122 ∨ 48 ≤ byteAt s i ∧ byteAt s i ≤ 57 ∨ 0 ≤ ixB signs (byteAt s i)) → (okc (byteAt s i) = false → p) → p := fun h k => k (by simpa [okc] using h)
  simp only [hsg]
  refine ⟨fun h => ⟨⟨h1, h⟩, ?_⟩, fun h => Outs.mk (hp.1 (allc_ge h)) (leL_refl _) (leOO_refl _)⟩
  repeat' (first | (refine And.intro ?_ ?_) | intro _)
  all_goals first
    | exact leS_refl _
    | trivial
    | omega
    | exact T (by omega) (nx h)
    | exact F (by omega) (lf h)
theorem syLF_ok : LFok syE syLF syLoop := by
  intro svs obl args obs out h
  unfold syLF at h
  simp only at h
  repeat' split at h
  all_goals first
    | (simp only [Option.some.injEq, Prod.mk.injEq] at h; obtain ⟨rfl, rfl, rfl⟩ := h; apply syLoop_sound)
    | cases h

theorem syE_Lok : syE.Lok (loopsOf (bodyOf c_symbol)) := by
  have hl : loopsOf (bodyOf c_symbol) = [syLoop] := by kernel_rfl
  rw [hl]
  refine fnE_Lok fun f h c hc hr => ?_
  rw [List.mem_singleton] at hc h
  subst hc; subst h
  exact syLF_ok

theorem symbol_ctr (s : ByteArray) : Ctr prog f_symbol [vS s] [] (symO s) := by
  refine ctr_fn mixed (N := 68) (fn := c_symbol) (c := bodyOf c_symbol) (ks := syKs) (ls := [syLF]) (by kernel_rfl) (by kernel_rfl) (by kernel_rfl) (all_cons ixF_ok all_nil) fin0 syE_Lok (by kernel_rfl) (Q := symbolQ s) (fun post hp => ?_) (fun R => by kernel_rfl)
  have hp : post (vB (symB s), []) := hp
  have leafT : symB s = true → Gives post (.dt (.cell (.bool true))) [] := fun h => gives1 hp (by rw [leS_cell, h])
  have leafF : symB s = false → Gives post (.dt (.cell (.bool false))) [] := fun h => gives1 hp (by rw [leS_cell, h])
  have leafD : ∀ q : Bool, symB s = q → Gives post (.dt (.cell (.bool q))) [] := fun q h => gives1 hp (by rw [leS_cell, h])
  unfold symbolQ
  simp only [str_eq_nil', decide_eq_true_eq, decide_eq_false_iff_not, beq_iff_eq, beq_eq_false_iff_ne, bne_iff_ne, bne_eq_false_iff_eq, true_and]
  unfold symB at leafT leafF leafD
  repeat' (first | (refine And.intro ?_ ?_) | intro _)
  all_goals first
    | exact (leS_self _).2 trivial
    | exact leOO_refl _
    | trivial
    | omega
    | exact leafT (by simp only [Bool.and_eq_true, decide_eq_true_eq]; exact ⟨by omega, by assumption⟩)
    | exact leafF (by simp only [Bool.and_eq_false_iff, decide_eq_false_iff_not]; first | (left; omega) | (right; assumption))
    | (refine leafD _ ?_; rw [Bool.eq_iff_iff]; simp only [Bool.and_eq_true, decide_eq_true_eq]; rw [and_iff_left (by assumption)]; constructor <;> omega)
theorem pickedF_ok : pickedF.Ok prog := by
  intro al ol args obs out h
  unfold pickedF at h
  simp only at h
  repeat' split at h
  all_goals first
    | (simp only [Option.some.injEq, Prod.mk.injEq] at h; obtain ⟨rfl, rfl, rfl⟩ := h; apply picked_ctr)
    | cases h
theorem clF_ok : clF.Ok prog := by
  intro al ol args obs out h
  unfold clF at h
  simp only at h
  repeat' split at h
  all_goals first
    | (simp only [Option.some.injEq, Prod.mk.injEq] at h; obtain ⟨rfl, rfl, rfl⟩ := h; apply clip_ctr)
    | cases h
end Rd
