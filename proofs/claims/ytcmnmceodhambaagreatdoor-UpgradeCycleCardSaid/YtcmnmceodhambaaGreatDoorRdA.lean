/- The reader's small functions. -/
import Derived.Test.YtcmnmceodhambaaGreatDoorRdL
set_option linter.unusedSimpArgs false
set_option linter.unusedVariables false
open Rx Go
namespace Rd
noncomputable def bP (f : Func) : Code := f.body.getD .skip
theorem mixed : prog.follows .mixedOrders = true := by kernel_rfl
def isInt (n : Int) : Prop := -9223372036854775808 <= n /\ n <= 9223372036854775807
def rdI : SV -> Option Int
 | .dt (.cell (.int .i64 n)) => some n
 | .ki .i64 n => some n
 | _ => none
def rdS : SV -> Option ByteArray
 | .dt (.cell (.string s)) => some s
 | _ => none
def gy (n m : Int) : Int := (if n < 0 then 0 - (n + 1) else n).tmod m
def Lg (n m : Int) : T Out := .need (isInt n /\ m ≠ 0) (.ret (vI .i64 (gy n m), []))
def KG : FC := ⟨uF, false, false, fun al ol => match al, ol with
 | [n, m], [] => match rdI n, rdI m with
   | some n, some m => some ([vI .i64 n, vI .i64 m], [], Lg n m)
   | _, _ => none
 | _, _ => none⟩
inductive Dm where
 | mk (k n : Int) (s : ByteArray) (l : List Dm)
def Dm.k : Dm -> Int | mk k _ _ _ => k
def Dm.n : Dm -> Int | mk _ n _ _ => n
def Dm.s : Dm -> ByteArray | mk _ _ s _ => s
def Dm.l : Dm -> List Dm | mk _ _ _ l => l
def noS : ByteArray := ⟨#[]⟩
def d0 : Dm := .mk 0 0 noS []
instance : Inhabited Dm := ⟨d0⟩
mutual
def dmT : Dm -> Nat -> Dt
 | .mk k n s l, j => match j with
   | 0 => .cell (.int .i64 k)
   | 1 => .cell (.int .i64 n)
   | 2 => .cell (.string s)
   | _ => .arr 4 l.length (dmL l)
def dmL : List Dm -> Nat -> Nat -> Dt
 | [], _, _ => aX
 | d :: l, i, j => match i with
   | 0 => dmT d j
   | i + 1 => dmL l i j
end
def dmA (l : List Dm) : SV := .dt (.arr 4 l.length (dmL l))
def dmS (d : Dm) : SV := .agg [vI .i64 d.k, vI .i64 d.n, vS d.s, dmA d.l]
def dmE (l : List Dm) (i : Nat) : SV := .agg [.dt (dmL l i 0), .dt (dmL l i 1), .dt (dmL l i 2), .dt (dmL l i 3)]
def pOb (s : ByteArray) (a c e : Int) : Ob := .cells QY [vS s, vI .i64 a, vI .i64 c, vI .i64 e]
def okS (s : ByteArray) (a : Int) : Prop := s.size <= 3000 /\ 0 <= a /\ a <= s.size
def cmt (s : ByteArray) (a : Int) : Int := if a < s.size /\ ay s a ≠ 10 then cmt s (a + 1) else a
termination_by ((s.size : Int) - a).toNat
decreasing_by omega
theorem JA (s : ByteArray) (a : Int) : a <= cmt s a := by
 fun_induction cmt s a <;> omega
theorem Og (s : ByteArray) (a : Int) (h : a <= s.size) : cmt s a <= s.size := by
 fun_induction cmt s a <;> omega
def blk (s : ByteArray) (a : Int) : Int :=
 if a < s.size then if ay s a = 32 ∨ ay s a = 10 ∨ ay s a = 9 then blk s (a + 1) else if ay s a = 59 then blk s (cmt s (a + 1)) else a else a
termination_by ((s.size : Int) - a).toNat
decreasing_by
 · omega
 · have := JA s (a + 1); omega
theorem vH (s : ByteArray) (a : Int) : a <= blk s a := by
 fun_induction blk s a
 · omega
 · rename_i x _ _ _ _; have := JA s (x + 1); omega
 · omega
 · omega
theorem vO (s : ByteArray) (a : Int) (h : a <= s.size) : blk s a <= s.size := by
 fun_induction blk s a
 · omega
 · rename_i ih; exact ih (Og _ _ (by omega))
 · omega
 · omega
def sG : List SV := [.ptr 0 0]
def PL (s : ByteArray) (c e : Int) (a : Int) : T OutC := .need (okS s a) (.ret (.exit 3, [.ptr 0 0], [some (pOb s (cmt s a) c e)]))
def Kl (s : ByteArray) (c e : Int) (a : Int) : T OutC := .need (okS s a) (.ite (decide (blk s a < s.size)) (.ret (.ret, [], [some (pOb s (blk s a) c e)])) (.ret (.exit 0, [], [some (pOb s (blk s a) c e)])))
def Er : LF := ⟨5, ⟨[0], [0], []⟩, fun svs obl => match svs, obl with
 | [.ptr 0 0], [some (.cells _ [s, a, c, e])] => match rdS s, rdI a, rdI c, rdI e with
   | some s, some a, some c, some e => some (sG, [some (pOb s a c e)], PL s c e a)
   | _, _, _, _ => none
 | _, _ => none⟩
def EJ : LF := ⟨1, ⟨[0], [], []⟩, fun svs obl => match svs, obl with
 | [.ptr 0 0], [some (.cells _ [s, a, c, e])] => match rdS s, rdI a, rdI c, rdI e with
   | some s, some a, some c, some e => some (sG, [some (pOb s a c e)], Kl s c e a)
   | _, _, _, _ => none
 | _, _ => none⟩
noncomputable def blE : Env := fnE prog 72 1 [] [Er, EJ]
noncomputable def Aa : Code := (jq 5 (bP mg)).getD .skip
noncomputable def vv : Code := (jq 1 (bP mg)).getD .skip
def Lu (s : ByteArray) (a c e : Int) : T Out := .need (okS s a) (.ret (.tup [], [some (pOb s (blk s a) c e)]))
def Ta (s : ByteArray) (c : Int) (x y : Int) : T Out := .ret (dmS d0, [some (pOb s x c y)])
def signs : ByteArray := ⟨#[43, 45, 42, 47, 60, 62, 61, 63, 33, 95]⟩
def okc (c : Int) : Bool := decide (97 <= c /\ c <= 122 ∨ 48 <= c /\ c <= 57 ∨ 0 <= ixB signs c)
def rH (s : ByteArray) (i : Int) : Bool := if i < s.size then okc (ay s i) && rH s (i + 1) else true
termination_by ((s.size : Int) - i).toNat
decreasing_by omega
def nP (s : ByteArray) : Bool :=
 decide (1 <= s.size /\ s.size <= 16 /\ ¬ (48 <= ay s 0 /\ ay s 0 <= 57) /\ (s.size = 1 ∨ ay s 0 ≠ 45 ∨ ay s 1 < 48 ∨ 57 < ay s 1)) && rH s 0
def zl (s : ByteArray) (i : Int) : List SV := [vS s, vI .i64 i, vI .i64 s.size]
def Lf (s : ByteArray) (i : Int) : T OutC := .need (0 <= i /\ s.size <= 16) (.ite (rH s i) (.ret (.exit 0, [vS s], [])) (.ret (.ret, [vB false], [])))
def ixF : FC := ⟨xq, false, false, fun al ol => match al, ol with
 | [.dt (.cell (.string s)), .dt (.cell (.int .u8 c))], [] => some ([vS s, vI .u8 c], [], .ret (vI .i64 (ixB s c), []))
 | _, _ => none⟩
def Io : LF := ⟨4, ⟨[0, 24, 23], [0], [2]⟩, fun svs _ => match svs with
 | s :: i :: _ => match rdS s, rdI i with
   | some s, some i => some (zl s i, [], Lf s i)
   | _, _ => none
 | _ => none⟩
def UG : List (Nat × Nat × FC) := [(7, 16, ixF)]
noncomputable def syE : Env := fnE prog 68 0 UG [Io]
noncomputable def F7 : Code := (jq 4 (bP pI)).getD .skip
def VY (s : ByteArray) : T Out := .ret (vB (nP s), [])
def SQ (n : Nat) (f : Nat -> Nat -> Dt) : T Out := .ret (.dt (.arr 4 n f), [])
def clF : FC := ⟨NS, false, false, fun al ol => match al, ol with
 | [.dt (.arr 4 n f)], [] => some ([.dt (.arr 4 n f)], [], SQ n f)
 | _, _ => none⟩
def LG (n m : Int) (R : SV -> List (Option Ob) -> Prop) : Prop :=
(((decide (n < (0 : Int)) = true) ->
 (((Rx.lo .i64 <= n + (1 : Int)) /\
   (n + (1 : Int) <= Rx.hi .i64)) /\
  (((Rx.lo .i64 <= (0 : Int) - (n + (1 : Int))) /\
    ((0 : Int) - (n + (1 : Int)) <= Rx.hi .i64)) /\
   ((m ≠ (0 : Int)) /\
    (True /\
     R (SV.dt (Dt.cell (.int .i64 (((0 : Int) - (n + (1 : Int))).tmod m)))) ([])))))) /\
((decide (n < (0 : Int)) = false) ->
 ((m ≠ (0 : Int)) /\
  (True /\
   R (SV.dt (Dt.cell (.int .i64 (n.tmod m)))) ([])))))
def TG (s : ByteArray) (a c x y : Int) (R : SV -> List (Option Ob) -> Prop) : Prop :=
(((((0 : Int) == (0 : Int)) = true) ->
 (True /\
  R (SV.agg [SV.ki .i64 ((0 : Int)), SV.ki .i64 ((0 : Int)), SV.dt (Dt.cell (.string (ByteArray.mk #[]))), SV.dt (Dt.cell (.slice Option.none (0 : Nat) (0 : Nat)))]) ([some (Ob.cells 101 [SV.dt (Dt.cell (.string s)), SV.dt (Dt.cell (.int .i64 x)), SV.dt (Dt.cell (.int .i64 c)), SV.dt (Dt.cell (.int .i64 y))])]))) /\
((((0 : Int) == (0 : Int)) = false) ->
 (True /\
  R (SV.agg [SV.ki .i64 ((0 : Int)), SV.ki .i64 ((0 : Int)), SV.dt (Dt.cell (.string (ByteArray.mk #[]))), SV.dt (Dt.cell (.slice Option.none (0 : Nat) (0 : Nat)))]) ([some (Ob.cells 101 [SV.dt (Dt.cell (.string s)), SV.dt (Dt.cell (.int .i64 a)), SV.dt (Dt.cell (.int .i64 c)), SV.dt (Dt.cell (.int .i64 (0 : Int)))])]))))
def K7 (s : ByteArray) (c e a : Int) (Rn : List SV -> List (Option Ob) -> Prop) (Re : Ex -> List SV -> List (Option Ob) -> Prop) : Prop :=
(((decide (a < (↑s.size : Int)) = true) ->
 ((((0 : Int) <= a) /\
   (a < (↑s.size : Int))) /\
  ((((ay s a != (10 : Int)) = true) ->
    (((Rx.lo .i64 <= a + (1 : Int)) /\
      (a + (1 : Int) <= Rx.hi .i64)) /\
     Rn ([SV.ptr 0 0]) ([some (Ob.cells 101 [SV.dt (Dt.cell (.string s)), SV.dt (Dt.cell (.int .i64 (a + (1 : Int)))), SV.dt (Dt.cell (.int .i64 c)), SV.dt (Dt.cell (.int .i64 e))])]))) /\
   (((ay s a != (10 : Int)) = false) ->
    Re (Rx.Ex.exit (3 : Nat)) ([SV.ptr 0 0]) ([some (Ob.cells 101 [SV.dt (Dt.cell (.string s)), SV.dt (Dt.cell (.int .i64 a)), SV.dt (Dt.cell (.int .i64 c)), SV.dt (Dt.cell (.int .i64 e))])]))))) /\
((decide (a < (↑s.size : Int)) = false) ->
 Re (Rx.Ex.exit (3 : Nat)) ([SV.ptr 0 0]) ([some (Ob.cells 101 [SV.dt (Dt.cell (.string s)), SV.dt (Dt.cell (.int .i64 a)), SV.dt (Dt.cell (.int .i64 c)), SV.dt (Dt.cell (.int .i64 e))])])))
def Kv (s : ByteArray) (c e a : Int) (Rn : List SV -> List (Option Ob) -> Prop) (Re : Ex -> List SV -> List (Option Ob) -> Prop) : Prop :=
(((decide (a < (↑s.size : Int)) = true) ->
 ((((0 : Int) <= a) /\
   (a < (↑s.size : Int))) /\
  ((((ay s a == (32 : Int)) = true) ->
    (((Rx.lo .i64 <= a + (1 : Int)) /\
      (a + (1 : Int) <= Rx.hi .i64)) /\
     Rn ([SV.ptr 0 0]) ([some (Ob.cells 101 [SV.dt (Dt.cell (.string s)), SV.dt (Dt.cell (.int .i64 (a + (1 : Int)))), SV.dt (Dt.cell (.int .i64 c)), SV.dt (Dt.cell (.int .i64 e))])]))) /\
   (((ay s a == (32 : Int)) = false) ->
    ((((ay s a == (10 : Int)) = true) ->
      (((Rx.lo .i64 <= a + (1 : Int)) /\
        (a + (1 : Int) <= Rx.hi .i64)) /\
       Rn ([SV.ptr 0 0]) ([some (Ob.cells 101 [SV.dt (Dt.cell (.string s)), SV.dt (Dt.cell (.int .i64 (a + (1 : Int)))), SV.dt (Dt.cell (.int .i64 c)), SV.dt (Dt.cell (.int .i64 e))])]))) /\
     (((ay s a == (10 : Int)) = false) ->
      ((((ay s a == (9 : Int)) = true) ->
        (((Rx.lo .i64 <= a + (1 : Int)) /\
          (a + (1 : Int) <= Rx.hi .i64)) /\
         Rn ([SV.ptr 0 0]) ([some (Ob.cells 101 [SV.dt (Dt.cell (.string s)), SV.dt (Dt.cell (.int .i64 (a + (1 : Int)))), SV.dt (Dt.cell (.int .i64 c)), SV.dt (Dt.cell (.int .i64 e))])]))) /\
       (((ay s a == (9 : Int)) = false) ->
        ((((ay s a == (59 : Int)) = true) ->
          (((Rx.leS (SV.ptr 0 0) (SV.ptr 0 0)) /\
            True) /\
           ((Rx.leOO ([some (Ob.cells 101 [SV.dt (Dt.cell (.string s)), SV.dt (Dt.cell (.int .i64 a)), SV.dt (Dt.cell (.int .i64 c)), SV.dt (Dt.cell (.int .i64 e))])]) ([some (Ob.cells 101 [SV.dt (Dt.cell (.string s)), SV.dt (Dt.cell (.int .i64 a)), SV.dt (Dt.cell (.int .i64 c)), SV.dt (Dt.cell (.int .i64 e))])])) /\
            ((Rd.okS s a) /\
             Rn ([SV.ptr 0 0]) ([some (Ob.cells 101 [SV.dt (Dt.cell (.string s)), SV.dt (Dt.cell (.int .i64 (Rd.cmt s a))), SV.dt (Dt.cell (.int .i64 c)), SV.dt (Dt.cell (.int .i64 e))])]))))) /\
         (((ay s a == (59 : Int)) = false) ->
          Re (Rx.Ex.ret) ([]) ([some (Ob.cells 101 [SV.dt (Dt.cell (.string s)), SV.dt (Dt.cell (.int .i64 a)), SV.dt (Dt.cell (.int .i64 c)), SV.dt (Dt.cell (.int .i64 e))])]))))))))))) /\
((decide (a < (↑s.size : Int)) = false) ->
 Re (Rx.Ex.exit (0 : Nat)) ([]) ([some (Ob.cells 101 [SV.dt (Dt.cell (.string s)), SV.dt (Dt.cell (.int .i64 a)), SV.dt (Dt.cell (.int .i64 c)), SV.dt (Dt.cell (.int .i64 e))])])))
def Kz (s : ByteArray) (a c e : Int) (R : SV -> List (Option Ob) -> Prop) : Prop :=
(((Rx.leS (SV.ptr 0 0) (SV.ptr 0 0)) /\
 True) /\
((Rx.leOO ([some (Ob.cells 101 [SV.dt (Dt.cell (.string s)), SV.dt (Dt.cell (.int .i64 a)), SV.dt (Dt.cell (.int .i64 c)), SV.dt (Dt.cell (.int .i64 e))])]) ([some (Ob.cells 101 [SV.dt (Dt.cell (.string s)), SV.dt (Dt.cell (.int .i64 a)), SV.dt (Dt.cell (.int .i64 c)), SV.dt (Dt.cell (.int .i64 e))])])) /\
 ((Rd.okS s a) /\
  (((decide (Rd.blk s a < (↑s.size : Int)) = true) ->
    (True /\
     R (SV.tup []) ([some (Ob.cells 101 [SV.dt (Dt.cell (.string s)), SV.dt (Dt.cell (.int .i64 (Rd.blk s a))), SV.dt (Dt.cell (.int .i64 c)), SV.dt (Dt.cell (.int .i64 e))])]))) /\
   ((decide (Rd.blk s a < (↑s.size : Int)) = false) ->
    (True /\
     R (SV.tup []) ([some (Ob.cells 101 [SV.dt (Dt.cell (.string s)), SV.dt (Dt.cell (.int .i64 (Rd.blk s a))), SV.dt (Dt.cell (.int .i64 c)), SV.dt (Dt.cell (.int .i64 e))])])))))))
def Lp (s : ByteArray) (i : Int) (Rn : List SV -> List (Option Ob) -> Prop) (Re : Ex -> List SV -> List (Option Ob) -> Prop) : Prop :=
(((decide (i < (↑s.size : Int)) = true) ->
 ((((0 : Int) <= i) /\
   (i < (↑s.size : Int))) /\
  (((decide (ay s i < (97 : Int)) = true) ->
    (((decide (ay s i < (48 : Int)) = true) ->
      ((Rx.leL ([SV.dt (Dt.cell (.string (ByteArray.mk #[(43 : UInt8), (45 : UInt8), (42 : UInt8), (47 : UInt8), (60 : UInt8), (62 : UInt8), (61 : UInt8), (63 : UInt8), (33 : UInt8), (95 : UInt8)]))), SV.dt (Dt.cell (.int Go.IntKind.u8 (ay s i)))]) ([SV.dt (Dt.cell (.string (ByteArray.mk #[(43 : UInt8), (45 : UInt8), (42 : UInt8), (47 : UInt8), (60 : UInt8), (62 : UInt8), (61 : UInt8), (63 : UInt8), (33 : UInt8), (95 : UInt8)]))), SV.dt (Dt.cell (.int Go.IntKind.u8 (ay s i)))])) /\
       ((Rx.bn ([]) ([])) /\
        (((decide (Rd.ixB (ByteArray.mk #[(43 : UInt8), (45 : UInt8), (42 : UInt8), (47 : UInt8), (60 : UInt8), (62 : UInt8), (61 : UInt8), (63 : UInt8), (33 : UInt8), (95 : UInt8)]) (ay s i) < (0 : Int)) = true) ->
          Re (Rx.Ex.ret) ([SV.dt (Dt.cell (.bool false))]) ([])) /\
         ((decide (Rd.ixB (ByteArray.mk #[(43 : UInt8), (45 : UInt8), (42 : UInt8), (47 : UInt8), (60 : UInt8), (62 : UInt8), (61 : UInt8), (63 : UInt8), (33 : UInt8), (95 : UInt8)]) (ay s i) < (0 : Int)) = false) ->
          (((Rx.lo .i64 <= i + (1 : Int)) /\
            (i + (1 : Int) <= Rx.hi .i64)) /\
           Rn ([SV.dt (Dt.cell (.string s)), SV.dt (Dt.cell (.int .i64 (i + (1 : Int)))), SV.dt (Dt.cell (.int .i64 (↑s.size : Int)))]) ([]))))))) /\
     ((decide (ay s i < (48 : Int)) = false) ->
      (((decide (ay s i > (57 : Int)) = true) ->
        ((Rx.leL ([SV.dt (Dt.cell (.string (ByteArray.mk #[(43 : UInt8), (45 : UInt8), (42 : UInt8), (47 : UInt8), (60 : UInt8), (62 : UInt8), (61 : UInt8), (63 : UInt8), (33 : UInt8), (95 : UInt8)]))), SV.dt (Dt.cell (.int Go.IntKind.u8 (ay s i)))]) ([SV.dt (Dt.cell (.string (ByteArray.mk #[(43 : UInt8), (45 : UInt8), (42 : UInt8), (47 : UInt8), (60 : UInt8), (62 : UInt8), (61 : UInt8), (63 : UInt8), (33 : UInt8), (95 : UInt8)]))), SV.dt (Dt.cell (.int Go.IntKind.u8 (ay s i)))])) /\
         ((Rx.bn ([]) ([])) /\
          (((decide (Rd.ixB (ByteArray.mk #[(43 : UInt8), (45 : UInt8), (42 : UInt8), (47 : UInt8), (60 : UInt8), (62 : UInt8), (61 : UInt8), (63 : UInt8), (33 : UInt8), (95 : UInt8)]) (ay s i) < (0 : Int)) = true) ->
            Re (Rx.Ex.ret) ([SV.dt (Dt.cell (.bool false))]) ([])) /\
           ((decide (Rd.ixB (ByteArray.mk #[(43 : UInt8), (45 : UInt8), (42 : UInt8), (47 : UInt8), (60 : UInt8), (62 : UInt8), (61 : UInt8), (63 : UInt8), (33 : UInt8), (95 : UInt8)]) (ay s i) < (0 : Int)) = false) ->
            (((Rx.lo .i64 <= i + (1 : Int)) /\
              (i + (1 : Int) <= Rx.hi .i64)) /\
             Rn ([SV.dt (Dt.cell (.string s)), SV.dt (Dt.cell (.int .i64 (i + (1 : Int)))), SV.dt (Dt.cell (.int .i64 (↑s.size : Int)))]) ([]))))))) /\
       ((decide (ay s i > (57 : Int)) = false) ->
        (((Rx.lo .i64 <= i + (1 : Int)) /\
          (i + (1 : Int) <= Rx.hi .i64)) /\
         Rn ([SV.dt (Dt.cell (.string s)), SV.dt (Dt.cell (.int .i64 (i + (1 : Int)))), SV.dt (Dt.cell (.int .i64 (↑s.size : Int)))]) ([]))))))) /\
   ((decide (ay s i < (97 : Int)) = false) ->
    (((decide (ay s i > (122 : Int)) = true) ->
      (((decide (ay s i < (48 : Int)) = true) ->
        ((Rx.leL ([SV.dt (Dt.cell (.string (ByteArray.mk #[(43 : UInt8), (45 : UInt8), (42 : UInt8), (47 : UInt8), (60 : UInt8), (62 : UInt8), (61 : UInt8), (63 : UInt8), (33 : UInt8), (95 : UInt8)]))), SV.dt (Dt.cell (.int Go.IntKind.u8 (ay s i)))]) ([SV.dt (Dt.cell (.string (ByteArray.mk #[(43 : UInt8), (45 : UInt8), (42 : UInt8), (47 : UInt8), (60 : UInt8), (62 : UInt8), (61 : UInt8), (63 : UInt8), (33 : UInt8), (95 : UInt8)]))), SV.dt (Dt.cell (.int Go.IntKind.u8 (ay s i)))])) /\
         ((Rx.bn ([]) ([])) /\
          (((decide (Rd.ixB (ByteArray.mk #[(43 : UInt8), (45 : UInt8), (42 : UInt8), (47 : UInt8), (60 : UInt8), (62 : UInt8), (61 : UInt8), (63 : UInt8), (33 : UInt8), (95 : UInt8)]) (ay s i) < (0 : Int)) = true) ->
            Re (Rx.Ex.ret) ([SV.dt (Dt.cell (.bool false))]) ([])) /\
           ((decide (Rd.ixB (ByteArray.mk #[(43 : UInt8), (45 : UInt8), (42 : UInt8), (47 : UInt8), (60 : UInt8), (62 : UInt8), (61 : UInt8), (63 : UInt8), (33 : UInt8), (95 : UInt8)]) (ay s i) < (0 : Int)) = false) ->
            (((Rx.lo .i64 <= i + (1 : Int)) /\
              (i + (1 : Int) <= Rx.hi .i64)) /\
             Rn ([SV.dt (Dt.cell (.string s)), SV.dt (Dt.cell (.int .i64 (i + (1 : Int)))), SV.dt (Dt.cell (.int .i64 (↑s.size : Int)))]) ([]))))))) /\
       ((decide (ay s i < (48 : Int)) = false) ->
        (((decide (ay s i > (57 : Int)) = true) ->
          ((Rx.leL ([SV.dt (Dt.cell (.string (ByteArray.mk #[(43 : UInt8), (45 : UInt8), (42 : UInt8), (47 : UInt8), (60 : UInt8), (62 : UInt8), (61 : UInt8), (63 : UInt8), (33 : UInt8), (95 : UInt8)]))), SV.dt (Dt.cell (.int Go.IntKind.u8 (ay s i)))]) ([SV.dt (Dt.cell (.string (ByteArray.mk #[(43 : UInt8), (45 : UInt8), (42 : UInt8), (47 : UInt8), (60 : UInt8), (62 : UInt8), (61 : UInt8), (63 : UInt8), (33 : UInt8), (95 : UInt8)]))), SV.dt (Dt.cell (.int Go.IntKind.u8 (ay s i)))])) /\
           ((Rx.bn ([]) ([])) /\
            (((decide (Rd.ixB (ByteArray.mk #[(43 : UInt8), (45 : UInt8), (42 : UInt8), (47 : UInt8), (60 : UInt8), (62 : UInt8), (61 : UInt8), (63 : UInt8), (33 : UInt8), (95 : UInt8)]) (ay s i) < (0 : Int)) = true) ->
              Re (Rx.Ex.ret) ([SV.dt (Dt.cell (.bool false))]) ([])) /\
             ((decide (Rd.ixB (ByteArray.mk #[(43 : UInt8), (45 : UInt8), (42 : UInt8), (47 : UInt8), (60 : UInt8), (62 : UInt8), (61 : UInt8), (63 : UInt8), (33 : UInt8), (95 : UInt8)]) (ay s i) < (0 : Int)) = false) ->
              (((Rx.lo .i64 <= i + (1 : Int)) /\
                (i + (1 : Int) <= Rx.hi .i64)) /\
               Rn ([SV.dt (Dt.cell (.string s)), SV.dt (Dt.cell (.int .i64 (i + (1 : Int)))), SV.dt (Dt.cell (.int .i64 (↑s.size : Int)))]) ([]))))))) /\
         ((decide (ay s i > (57 : Int)) = false) ->
          (((Rx.lo .i64 <= i + (1 : Int)) /\
            (i + (1 : Int) <= Rx.hi .i64)) /\
           Rn ([SV.dt (Dt.cell (.string s)), SV.dt (Dt.cell (.int .i64 (i + (1 : Int)))), SV.dt (Dt.cell (.int .i64 (↑s.size : Int)))]) ([]))))))) /\
     ((decide (ay s i > (122 : Int)) = false) ->
      (((Rx.lo .i64 <= i + (1 : Int)) /\
        (i + (1 : Int) <= Rx.hi .i64)) /\
       Rn ([SV.dt (Dt.cell (.string s)), SV.dt (Dt.cell (.int .i64 (i + (1 : Int)))), SV.dt (Dt.cell (.int .i64 (↑s.size : Int)))]) ([])))))))) /\
((decide (i < (↑s.size : Int)) = false) ->
 Re (Rx.Ex.exit (0 : Nat)) ([SV.dt (Dt.cell (.string s))]) ([])))
def Kk (s : ByteArray) (R : SV -> List (Option Ob) -> Prop) : Prop :=
((((s.data.toList == []) = true) ->
 (True /\
  R (SV.dt (Dt.cell (.bool false))) ([]))) /\
(((s.data.toList == []) = false) ->
 (((decide ((↑s.size : Int) > (16 : Int)) = true) ->
   (True /\
    R (SV.dt (Dt.cell (.bool false))) ([]))) /\
  ((decide ((↑s.size : Int) > (16 : Int)) = false) ->
   ((((0 : Int) <= (0 : Int)) /\
     ((0 : Int) < (↑s.size : Int))) /\
    (((decide (ay s (0 : Int) ≥ (48 : Int)) = true) ->
      ((((0 : Int) <= (0 : Int)) /\
        ((0 : Int) < (↑s.size : Int))) /\
       (((decide (ay s (0 : Int) <= (57 : Int)) = true) ->
         (True /\
          R (SV.dt (Dt.cell (.bool false))) ([]))) /\
        ((decide (ay s (0 : Int) <= (57 : Int)) = false) ->
         (((Rx.leS (SV.dt (Dt.cell (.string s))) (SV.dt (Dt.cell (.string s)))) /\
           ((Rx.leS (SV.dt (Dt.cell (.int .i64 (0 : Int)))) (SV.dt (Dt.cell (.int .i64 (0 : Int))))) /\
            ((Rx.leS (SV.dt (Dt.cell (.int .i64 (↑s.size : Int)))) (SV.dt (Dt.cell (.int .i64 (↑s.size : Int))))) /\
             True))) /\
          ((Rx.leOO ([]) ([])) /\
           ((((0 : Int) <= (0 : Int)) /\
             (s.size <= (16 : Nat))) /\
            (((Rd.rH s (0 : Int) = true) ->
              (((((↑s.size : Int) == (1 : Int)) = true) ->
                (True /\
                 R (SV.dt (Dt.cell (.bool true))) ([]))) /\
               ((((↑s.size : Int) == (1 : Int)) = false) ->
                ((((0 : Int) <= (0 : Int)) /\
                  ((0 : Int) < (↑s.size : Int))) /\
                 ((((ay s (0 : Int) != (45 : Int)) = true) ->
                   (True /\
                    R (SV.dt (Dt.cell (.bool true))) ([]))) /\
                  (((ay s (0 : Int) != (45 : Int)) = false) ->
                   ((((0 : Int) <= (1 : Int)) /\
                     ((1 : Int) < (↑s.size : Int))) /\
                    (((decide (ay s (1 : Int) < (48 : Int)) = true) ->
                      (True /\
                       R (SV.dt (Dt.cell (.bool true))) ([]))) /\
                     ((decide (ay s (1 : Int) < (48 : Int)) = false) ->
                      ((((0 : Int) <= (1 : Int)) /\
                        ((1 : Int) < (↑s.size : Int))) /\
                       (True /\
                        R (SV.dt (Dt.cell (.bool (decide (ay s (1 : Int) > (57 : Int)))))) ([])))))))))))) /\
             ((Rd.rH s (0 : Int) = false) ->
              (True /\
               R (SV.dt (Dt.cell (.bool false))) ([]))))))))))) /\
     ((decide (ay s (0 : Int) ≥ (48 : Int)) = false) ->
      (((Rx.leS (SV.dt (Dt.cell (.string s))) (SV.dt (Dt.cell (.string s)))) /\
        ((Rx.leS (SV.dt (Dt.cell (.int .i64 (0 : Int)))) (SV.dt (Dt.cell (.int .i64 (0 : Int))))) /\
         ((Rx.leS (SV.dt (Dt.cell (.int .i64 (↑s.size : Int)))) (SV.dt (Dt.cell (.int .i64 (↑s.size : Int))))) /\
          True))) /\
       ((Rx.leOO ([]) ([])) /\
        ((((0 : Int) <= (0 : Int)) /\
          (s.size <= (16 : Nat))) /\
         (((Rd.rH s (0 : Int) = true) ->
           (((((↑s.size : Int) == (1 : Int)) = true) ->
             (True /\
              R (SV.dt (Dt.cell (.bool true))) ([]))) /\
            ((((↑s.size : Int) == (1 : Int)) = false) ->
             ((((0 : Int) <= (0 : Int)) /\
               ((0 : Int) < (↑s.size : Int))) /\
              ((((ay s (0 : Int) != (45 : Int)) = true) ->
                (True /\
                 R (SV.dt (Dt.cell (.bool true))) ([]))) /\
               (((ay s (0 : Int) != (45 : Int)) = false) ->
                ((((0 : Int) <= (1 : Int)) /\
                  ((1 : Int) < (↑s.size : Int))) /\
                 (((decide (ay s (1 : Int) < (48 : Int)) = true) ->
                   (True /\
                    R (SV.dt (Dt.cell (.bool true))) ([]))) /\
                  ((decide (ay s (1 : Int) < (48 : Int)) = false) ->
                   ((((0 : Int) <= (1 : Int)) /\
                     ((1 : Int) < (↑s.size : Int))) /\
                    (True /\
                     R (SV.dt (Dt.cell (.bool (decide (ay s (1 : Int) > (57 : Int)))))) ([])))))))))))) /\
          ((Rd.rH s (0 : Int) = false) ->
           (True /\
            R (SV.dt (Dt.cell (.bool false))) ([]))))))))))))))
def TA (n : Nat) (f : Nat -> Nat -> Dt) (R : SV -> List (Option Ob) -> Prop) : Prop :=
((((0 : Int) <= (↑n : Int)) /\
 (((↑n : Int) <= (↑n : Int)) /\
  ((↑n : Int) <= (↑n : Int)))) /\
(True /\
 R (SV.dt (Dt.arr ((4 : Nat)) ((↑n : Int).toNat) (f))) ([])))
theorem X6 : leS (.agg [.ki .i64 0, .ki .i64 0, .dt (.cell (.string ⟨#[]⟩)), .dt (.cell (.slice none 0 0))]) (dmS d0) := by
 simp only [dmS, dmA, Ep, uK, yF, and_true]
 refine ⟨(mX _ _ _).2 rfl, (mX _ _ _).2 rfl, (Rl _ _).2 rfl, ?_⟩
 rw [EF]
 simp only [bX]
 exact ⟨rfl, rfl⟩
theorem fU {E : Env} {l : List Code} (h : l = []) : E.Lok l := by
 subst h
 intro c hc; cases hc
theorem yM (n m : Int) : Ctr prog uF [vI .i64 n, vI .i64 m] [] (Lg n m) := by
 refine ji mixed (N := 13) (fn := Ir) (c := bP Ir) (ks := []) (ls := []) (by kernel_rfl) (by kernel_rfl) (by kernel_rfl) all_nil AJ (lC (fun f h => by cases h)) (by kernel_rfl) (Q := LG n m) (fun post hp => ?_) (fun R => by kernel_rfl)
 obtain ⟨⟨⟨h1, h2⟩, hm⟩, hp⟩ := hp
 unfold LG
 simp only [lo, hi, decide_eq_true_eq, decide_eq_false_iff_not]
 refine ⟨fun h => ⟨⟨by omega, by omega⟩, ⟨by omega, by omega⟩, hm, trivial, ?_⟩, fun h => ⟨hm, trivial, ?_⟩⟩
 · exact ⟨_, hp, by rw [je, gy, if_pos h], aO _⟩
 · exact ⟨_, hp, by rw [je, gy, if_neg h], aO _⟩
theorem PE (s : ByteArray) (a c x y : Int) : Ctr prog Od [.ptr 0 0, vI .i64 x, vI .i64 y] [pOb s a c 0] (Ta s c x y) := by
 refine ji mixed (N := 21) (fn := NG) (c := bP NG) (ks := []) (ls := []) (by kernel_rfl) (by kernel_rfl) (by kernel_rfl) all_nil AJ (lC (fun f h => by cases h)) (by kernel_rfl) (Q := TG s a c x y) (fun post hp => ?_) (fun R => by kernel_rfl)
 have hp : post (dmS d0, [some (pOb s x c y)]) := hp
 unfold TG
 refine ⟨fun _ => ⟨trivial, lM hp X6 (aO _)⟩, fun h => by cases h⟩
theorem Ez (s : ByteArray) (c e a : Int) : Sound blE (.loop Aa) (jM (Er.live.h.zip sG) [some (pOb s a c e)]) ((PL s c e a).map (OutC.st Er.live)) := by
 refine qy mixed (ks := []) (ls := [Er, EJ]) (c := Aa) (nb := 1) (N := 72) all_nil (fU (by kernel_rfl)) Er.live (fun _ : Int => sG) (fun a => [some (pOb s a c e)]) (fun a => PL s c e a) (fun a => ((s.size : Int) - a).toNat)
  (Q := fun a => K7 s c e a) (fun a post hp => ?_) (fun a Rn Re => by kernel_rfl) a
 obtain ⟨⟨h1, h2, h3⟩, hp⟩ := hp
 have hp : post (.exit 3, [.ptr 0 0], [some (pOb s (cmt s a) c e)]) := hp
 unfold K7
 simp only [lo, hi, decide_eq_true_eq, decide_eq_false_iff_not, bne_iff_ne, bne_eq_false_iff_eq]
 have done : cmt s a = a -> mh post (.exit 3) [.ptr 0 0] [some (pOb s a c e)] := fun h => by
  rw [h] at hp; exact mh.mk hp (aK _) (aO _)
 refine ⟨fun h => ⟨⟨h2, h⟩, fun hb => ⟨⟨by omega, by omega⟩, a + 1, by omega, aK _, aO _, ⟨h1, by omega, by omega⟩, ?_⟩, fun hb => done ?_⟩, fun h => done ?_⟩
 · have : cmt s a = cmt s (a + 1) := by rw [cmt, if_pos ⟨h, hb⟩]
   rw [this] at hp; exact hp
 · rw [cmt, if_neg]; rintro ⟨_, h⟩; exact h hb
 · rw [cmt, if_neg]; rintro ⟨h', _⟩; exact h h'
theorem QI : JC blE Er Aa := by
 intro svs obl args obs out h
 unfold Er at h
 simp only at h
 repeat' split at h
 all_goals first
  | (simp only [Option.some.injEq, Prod.mk.injEq] at h; obtain ⟨rfl, rfl, rfl⟩ := h; apply Ez)
  | cases h
theorem Ee (s : ByteArray) (c e a : Int) : Sound blE (.loop vv) (jM (EJ.live.h.zip sG) [some (pOb s a c e)]) ((Kl s c e a).map (OutC.st EJ.live)) := by
 refine qy mixed (ks := []) (ls := [Er, EJ]) (c := vv) (nb := 1) (N := 72) all_nil (lC fun f h c hc hr => ?_) EJ.live (fun _ : Int => sG) (fun a => [some (pOb s a c e)]) (fun a => Kl s c e a) (fun a => ((s.size : Int) - a).toNat)
  (Q := fun a => Kv s c e a) (fun a post hp => ?_) (fun a Rn Re => by kernel_rfl) a
 · have hl : bM vv = [Aa] := by kernel_rfl
   rw [hl, List.mem_singleton] at hc
   subst hc
   rcases List.mem_cons.1 h with rfl | h
   · exact QI
   · rw [List.mem_singleton] at h
     subst h
     have : dG Aa = 5 := by kernel_rfl
     rw [this] at hr
     cases hr
 obtain ⟨⟨h1, h2, h3⟩, hp⟩ := hp
 unfold Kv
 have nx : ∀ b, a < b -> b <= s.size -> blk s b = blk s a -> ∃ x', ((s.size : Int) - x').toNat < ((s.size : Int) - a).toNat /\ leL [SV.ptr 0 0] sG /\ leOO [some (pOb s b c e)] [some (pOb s x' c e)] /\ (Kl s c e x').holds post := fun b hb hb' he => by
  refine ⟨b, by omega, aK _, aO _, ⟨h1, by omega, hb'⟩, ?_⟩
  rw [he]; exact hp
 have lr : blk s a = a -> a < s.size -> mh post .ret [] [some (pOb s a c e)] := fun h h' => mh.mk (hp.1 (by rw [h]; simpa using h')) (aK _) (by rw [h]; exact aO _)
 have le : blk s a = a -> ¬ a < s.size -> mh post (.exit 0) [] [some (pOb s a c e)] := fun h h' => mh.mk (hp.2 (by rw [h]; simpa using h')) (aK _) (by rw [h]; exact aO _)
 simp only [lo, hi, decide_eq_true_eq, decide_eq_false_iff_not, bne_iff_ne, bne_eq_false_iff_eq, beq_iff_eq, beq_eq_false_iff_ne]
 have e1 : ∀ b : Int, a < s.size -> (ay s a = 32 ∨ ay s a = 10 ∨ ay s a = 9) -> blk s (a + 1) = blk s a := fun b h hb => by
  rw [blk.eq_1 s a, if_pos h, if_pos hb]
 refine ⟨fun h => ⟨⟨h2, h⟩, fun g1 => ⟨⟨by omega, by omega⟩, nx _ (by omega) (by omega) (e1 a h (.inl g1))⟩, fun g1 => ⟨fun g2 => ⟨⟨by omega, by omega⟩, nx _ (by omega) (by omega) (e1 a h (.inr (.inl g2)))⟩, fun g2 =>
  ⟨fun g3 => ⟨⟨by omega, by omega⟩, nx _ (by omega) (by omega) (e1 a h (.inr (.inr g3)))⟩, fun g3 => ⟨fun g4 => ⟨⟨(Bg _).2 trivial, trivial⟩, aO _, ⟨h1, h2, h3⟩, ?_⟩, fun g4 => lr ?_ h⟩⟩⟩⟩, fun h => le ?_ h⟩
 · have c1 : cmt s a = cmt s (a + 1) := by rw [cmt.eq_1 s a, if_pos ⟨h, by omega⟩]
   have := JA s (a + 1)
   refine nx _ (by omega) (Og _ _ h3) ?_
   rw [c1]
   conv => rhs; rw [blk, if_pos h, if_neg (by omega), if_pos g4]
 · rw [blk, if_pos h, if_neg (by omega), if_neg g4]
 · rw [blk, if_neg h]
theorem Sr : JC blE EJ vv := by
 intro svs obl args obs out h
 unfold EJ at h
 simp only at h
 repeat' split at h
 all_goals first
  | (simp only [Option.some.injEq, Prod.mk.injEq] at h; obtain ⟨rfl, rfl, rfl⟩ := h; apply Ee)
  | cases h
theorem Qw : blE.Lok (bM (bP mg)) := by
 have hl : bM (bP mg) = [vv] := by kernel_rfl
 rw [hl]
 refine lC fun f h c hc hr => ?_
 rw [List.mem_singleton] at hc
 subst hc
 have h1 : dG vv = 1 := by kernel_rfl
 rw [h1] at hr
 rcases List.mem_cons.1 h with rfl | h
 · cases hr
 · rw [List.mem_singleton] at h
   subst h
   exact Sr
theorem Jt (s : ByteArray) (a c e : Int) : Ctr prog Gs [.ptr 0 0] [pOb s a c e] (Lu s a c e) := by
 refine ji mixed (N := 72) (fn := mg) (c := bP mg) (ks := []) (ls := [Er, EJ]) (by kernel_rfl) (by kernel_rfl) (by kernel_rfl) all_nil AJ Qw (by kernel_rfl) (Q := Kz s a c e) (fun post hp => ?_) (fun R => by kernel_rfl)
 obtain ⟨h, hp⟩ := hp
 have hp : post (.tup [], [some (pOb s (blk s a) c e)]) := hp
 unfold Kz
 exact ⟨⟨(Bg _).2 trivial, trivial⟩, aO _, h, fun _ => ⟨trivial, lM hp (aN _) (aO _)⟩, fun _ => ⟨trivial, lM hp (aN _) (aO _)⟩⟩
theorem Px (n : Nat) (f : Nat -> Nat -> Dt) : Ctr prog NS [.dt (.arr 4 n f)] [] (SQ n f) := by
 refine ji mixed (N := 9) (fn := Qb) (c := bP Qb) (ks := []) (ls := []) (by kernel_rfl) (by kernel_rfl) (by kernel_rfl) all_nil AJ (fU (by kernel_rfl)) (by kernel_rfl) (Q := TA n f) (fun post hp => ?_) (fun R => by kernel_rfl)
 have hp : post (.dt (.arr 4 n f), []) := hp
 unfold TA
 exact ⟨⟨by omega, by omega, by omega⟩, trivial, vY hp (aN _)⟩
theorem I9 : ixF.Ok prog := by
 intro al ol args obs out h
 unfold ixF at h
 simp only at h
 split at h
 · simp only [Option.some.injEq, Prod.mk.injEq] at h
   obtain ⟨rfl, rfl, rfl⟩ := h
   exact BJ _ _
 · cases h
theorem Lb {s : ByteArray} {i : Int} (h : i < s.size) : rH s i = (okc (ay s i) && rH s (i + 1)) := by rw [rH, if_pos h]
theorem Sy {s : ByteArray} {i : Int} (h : ¬ i < s.size) : rH s i = true := by rw [rH, if_neg h]
theorem Ef (s : ByteArray) (i : Int) : Sound syE (.loop F7) (jM (Io.live.h.zip (zl s i)) []) ((Lf s i).map (OutC.st Io.live)) := by
 refine qy mixed (ks := UG) (ls := [Io]) (c := F7) (nb := 0) (N := 68) (all_cons I9 all_nil) (fU (by kernel_rfl)) Io.live (fun i : Int => zl s i) (fun _ => []) (fun i => Lf s i) (fun i => ((s.size : Int) - i).toNat)
  (Q := fun i => Lp s i) (fun i post hp => ?_) (fun a Rn Re => by kernel_rfl) i
 obtain ⟨⟨h1, h2⟩, hp⟩ := hp
 have nx : i < s.size -> okc (ay s i) = true -> ∃ x', ((s.size : Int) - x').toNat < ((s.size : Int) - i).toNat /\ leL (zl s (i + 1)) (zl s x') /\ leOO [] [] /\ (Lf s x').holds post := fun h ho => by
  refine ⟨i + 1, by omega, aK _, aO _, ⟨by omega, h2⟩, ?_⟩
  rw [Lb h, ho, Bool.true_and] at hp; exact hp
 have lf : i < s.size -> okc (ay s i) = false -> mh post .ret [vB false] [] := fun h ho => mh.mk (hp.2 (by rw [Lb h, ho]; rfl)) (aK _) (aO _)
 unfold Lp
 simp only [lo, hi, decide_eq_true_eq, decide_eq_false_iff_not]
 have hsg : ixB ⟨#[43, 45, 42, 47, 60, 62, 61, 63, 33, 95]⟩ (ay s i) = ixB signs (ay s i) := rfl
 have T : ∀ {p : Prop}, (97 <= ay s i /\ ay s i <= 122 ∨ 48 <= ay s i /\ ay s i <= 57 ∨ 0 <= ixB signs (ay s i)) -> (okc (ay s i) = true -> p) -> p := fun h k => k (by simpa [okc] using h)
 have F : ∀ {p : Prop}, ¬ (97 <= ay s i /\ ay s i <= 122 ∨ 48 <= ay s i /\ ay s i <= 57 ∨ 0 <= ixB signs (ay s i)) -> (okc (ay s i) = false -> p) -> p := fun h k => k (by simpa [okc] using h)
 simp only [hsg]
 refine ⟨fun h => ⟨⟨h1, h⟩, ?_⟩, fun h => mh.mk (hp.1 (Sy h)) (aK _) (aO _)⟩
 repeat' (first | (refine And.intro ?_ ?_) | intro _)
 all_goals first
  | exact aN _
  | trivial
  | omega
  | exact T (by omega) (nx h)
  | exact F (by omega) (lf h)
theorem Sq : JC syE Io F7 := by
 intro svs obl args obs out h
 unfold Io at h
 simp only at h
 repeat' split at h
 all_goals first
  | (simp only [Option.some.injEq, Prod.mk.injEq] at h; obtain ⟨rfl, rfl, rfl⟩ := h; apply Ef)
  | cases h
theorem Rk : syE.Lok (bM (bP pI)) := by
 have hl : bM (bP pI) = [F7] := by kernel_rfl
 rw [hl]
 refine lC fun f h c hc hr => ?_
 rw [List.mem_singleton] at hc h
 subst hc; subst h
 exact Sq
theorem AZ (s : ByteArray) : Ctr prog uD [vS s] [] (VY s) := by
 refine ji mixed (N := 68) (fn := pI) (c := bP pI) (ks := UG) (ls := [Io]) (by kernel_rfl) (by kernel_rfl) (by kernel_rfl) (all_cons I9 all_nil) AJ Rk (by kernel_rfl) (Q := Kk s) (fun post hp => ?_) (fun R => by kernel_rfl)
 have hp : post (vB (nP s), []) := hp
 have leafT : nP s = true -> Gives post (.dt (.cell (.bool true))) [] := fun h => vY hp (by rw [je, h])
 have leafF : nP s = false -> Gives post (.dt (.cell (.bool false))) [] := fun h => vY hp (by rw [je, h])
 have leafD : ∀ q : Bool, nP s = q -> Gives post (.dt (.cell (.bool q))) [] := fun q h => vY hp (by rw [je, h])
 unfold Kk
 simp only [Hl, decide_eq_true_eq, decide_eq_false_iff_not, beq_iff_eq, beq_eq_false_iff_ne, bne_iff_ne, bne_eq_false_iff_eq, true_and]
 unfold nP at leafT leafF leafD
 repeat' (first | (refine And.intro ?_ ?_) | intro _)
 all_goals first
  | exact (Bg _).2 trivial
  | exact aO _
  | trivial
  | omega
  | exact leafT (by simp only [Bool.and_eq_true, decide_eq_true_eq]; exact ⟨by omega, by assumption⟩)
  | exact leafF (by simp only [Bool.and_eq_false_iff, decide_eq_false_iff_not]; first | (left; omega) | (right; assumption))
  | (refine leafD _ ?_; rw [Bool.eq_iff_iff]; simp only [Bool.and_eq_true, decide_eq_true_eq]; rw [and_iff_left (by assumption)]; constructor <;> omega)
theorem Uu : KG.Ok prog := by
 intro al ol args obs out h
 unfold KG at h
 simp only at h
 repeat' split at h
 all_goals first
  | (simp only [Option.some.injEq, Prod.mk.injEq] at h; obtain ⟨rfl, rfl, rfl⟩ := h; apply yM)
  | cases h
theorem TN : clF.Ok prog := by
 intro al ol args obs out h
 unfold clF at h
 simp only at h
 repeat' split at h
 all_goals first
  | (simp only [Option.some.injEq, Prod.mk.injEq] at h; obtain ⟨rfl, rfl, rfl⟩ := h; apply Px)
  | cases h
end Rd
