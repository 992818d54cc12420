/- The reader's small functions. -/
import Derived.Test.YtcmnmceodhambaaGreatDoorRdL
set_option linter.unusedSimpArgs false
set_option linter.unusedVariables false
open Rx Go
namespace Rd
noncomputable def bO (f : Func) : Code := f.body.getD .skip
theorem mixed : prog.follows .mixedOrders = true := by kernel_rfl
def isInt (n : Int) : Prop := -9223372036854775808 <= n /\ n <= 9223372036854775807
def rdI : SV -> Option Int
 | .dt (.cell (.int .i64 n)) => some n
 | .ki .i64 n => some n
 | _ => none
def rdS : SV -> Option ByteArray
 | .dt (.cell (.string s)) => some s
 | _ => none
def aH (n m : Int) : Int := (if n < 0 then 0 - (n + 1) else n).tmod m
def Mq (n m : Int) : T Out := .need (isInt n /\ m ≠ 0) (.ret (vI .i64 (aH n m), []))
def MJ : FC := ⟨wT, false, false, fun al ol => match al, ol with
 | [n, m], [] => match rdI n, rdI m with
   | some n, some m => some ([vI .i64 n, vI .i64 m], [], Mq n m)
   | _, _ => none
 | _, _ => none⟩
inductive Dm where
 | mk (k n : Int) (s : ByteArray) (l : List Dm)
def Dm.k : Dm -> Int | mk k _ _ _ => k
def Dm.n : Dm -> Int | mk _ n _ _ => n
def Dm.s : Dm -> ByteArray | mk _ _ s _ => s
def Dm.l : Dm -> List Dm | mk _ _ _ l => l
def noS : ByteArray := ⟨#[]⟩
def d0 : Dm := .mk 0 0 noS []
instance : Inhabited Dm := ⟨d0⟩
mutual
def dmT : Dm -> Nat -> Dt
 | .mk k n s l, j => match j with
   | 0 => .cell (.int .i64 k)
   | 1 => .cell (.int .i64 n)
   | 2 => .cell (.string s)
   | _ => .arr 4 l.length (dmL l)
def dmL : List Dm -> Nat -> Nat -> Dt
 | [], _, _ => aW
 | d :: l, i, j => match i with
   | 0 => dmT d j
   | i + 1 => dmL l i j
end
def dmA (l : List Dm) : SV := .dt (.arr 4 l.length (dmL l))
def dmS (d : Dm) : SV := .agg [vI .i64 d.k, vI .i64 d.n, vS d.s, dmA d.l]
def dmE (l : List Dm) (i : Nat) : SV := .agg [.dt (dmL l i 0), .dt (dmL l i 1), .dt (dmL l i 2), .dt (dmL l i 3)]
def pOb (s : ByteArray) (a c e : Int) : Ob := .cells Uu [vS s, vI .i64 a, vI .i64 c, vI .i64 e]
def okS (s : ByteArray) (a : Int) : Prop := s.size <= 3000 /\ 0 <= a /\ a <= s.size
def cmt (s : ByteArray) (a : Int) : Int := if a < s.size /\ av s a ≠ 10 then cmt s (a + 1) else a
termination_by ((s.size : Int) - a).toNat
decreasing_by omega
theorem KY (s : ByteArray) (a : Int) : a <= cmt s a := by
 fun_induction cmt s a <;> omega
theorem QF (s : ByteArray) (a : Int) (h : a <= s.size) : cmt s a <= s.size := by
 fun_induction cmt s a <;> omega
def blk (s : ByteArray) (a : Int) : Int :=
 if a < s.size then if av s a = 32 ∨ av s a = 10 ∨ av s a = 9 then blk s (a + 1) else if av s a = 59 then blk s (cmt s (a + 1)) else a else a
termination_by ((s.size : Int) - a).toNat
decreasing_by
 · omega
 · have := KY s (a + 1); omega
theorem xR (s : ByteArray) (a : Int) : a <= blk s a := by
 fun_induction blk s a
 · omega
 · rename_i x _ _ _ _; have := KY s (x + 1); omega
 · omega
 · omega
theorem wZ (s : ByteArray) (a : Int) (h : a <= s.size) : blk s a <= s.size := by
 fun_induction blk s a
 · omega
 · rename_i ih; exact ih (QF _ _ (by omega))
 · omega
 · omega
def uD : List SV := [.ptr 0 0]
def QN (s : ByteArray) (c e : Int) (a : Int) : T OutC := .need (okS s a) (.ret (.exit 3, [.ptr 0 0], [some (pOb s (cmt s a) c e)]))
def Na (s : ByteArray) (c e : Int) (a : Int) : T OutC := .need (okS s a) (.ite (decide (blk s a < s.size)) (.ret (.ret, [], [some (pOb s (blk s a) c e)])) (.ret (.exit 0, [], [some (pOb s (blk s a) c e)])))
def FL : LF := ⟨5, ⟨[0], [0], []⟩, fun svs obl => match svs, obl with
 | [.ptr 0 0], [some (.cells _ [s, a, c, e])] => match rdS s, rdI a, rdI c, rdI e with
   | some s, some a, some c, some e => some (uD, [some (pOb s a c e)], QN s c e a)
   | _, _, _, _ => none
 | _, _ => none⟩
def GA : LF := ⟨1, ⟨[0], [], []⟩, fun svs obl => match svs, obl with
 | [.ptr 0 0], [some (.cells _ [s, a, c, e])] => match rdS s, rdI a, rdI c, rdI e with
   | some s, some a, some c, some e => some (uD, [some (pOb s a c e)], Na s c e a)
   | _, _, _, _ => none
 | _, _ => none⟩
noncomputable def blE : Env := fnE prog 72 1 [] [FL, GA]
noncomputable def Az : Code := (jr 5 (bO ni)).getD .skip
noncomputable def xB : Code := (jr 1 (bO ni)).getD .skip
def Ml (s : ByteArray) (a c e : Int) : T Out := .need (okS s a) (.ret (.tup [], [some (pOb s (blk s a) c e)]))
def UO (s : ByteArray) (c : Int) (x y : Int) : T Out := .ret (dmS d0, [some (pOb s x c y)])
def signs : ByteArray := ⟨#[43, 45, 42, 47, 60, 62, 61, 63, 33, 95]⟩
def okc (c : Int) : Bool := decide (97 <= c /\ c <= 122 ∨ 48 <= c /\ c <= 57 ∨ 0 <= ixB signs c)
def uS (s : ByteArray) (i : Int) : Bool := if i < s.size then okc (av s i) && uS s (i + 1) else true
termination_by ((s.size : Int) - i).toNat
decreasing_by omega
def pO (s : ByteArray) : Bool :=
 decide (1 <= s.size /\ s.size <= 16 /\ ¬ (48 <= av s 0 /\ av s 0 <= 57) /\ (s.size = 1 ∨ av s 0 ≠ 45 ∨ av s 1 < 48 ∨ 57 < av s 1)) && uS s 0
def AZ (s : ByteArray) (i : Int) : List SV := [vS s, vI .i64 i, vI .i64 s.size]
def MF (s : ByteArray) (i : Int) : T OutC := .need (0 <= i /\ s.size <= 16) (.ite (uS s i) (.ret (.exit 0, [vS s], [])) (.ret (.ret, [vB false], [])))
def ixF : FC := ⟨yG, false, false, fun al ol => match al, ol with
 | [.dt (.cell (.string s)), .dt (.cell (.int .u8 c))], [] => some ([vS s, vI .u8 c], [], .ret (vI .i64 (ixB s c), []))
 | _, _ => none⟩
def JY : LF := ⟨4, ⟨[0, 24, 23], [0], [2]⟩, fun svs _ => match svs with
 | s :: i :: _ => match rdS s, rdI i with
   | some s, some i => some (AZ s i, [], MF s i)
   | _, _ => none
 | _ => none⟩
def VZ : List (Nat × Nat × FC) := [(7, 16, ixF)]
noncomputable def syE : Env := fnE prog 68 0 VZ [JY]
noncomputable def Fu : Code := (jr 4 (bO qP)).getD .skip
def Xr (s : ByteArray) : T Out := .ret (vB (pO s), [])
def U1 (n : Nat) (f : Nat -> Nat -> Dt) : T Out := .ret (.dt (.arr 4 n f), [])
def clF : FC := ⟨Pz, false, false, fun al ol => match al, ol with
 | [.dt (.arr 4 n f)], [] => some ([.dt (.arr 4 n f)], [], U1 n f)
 | _, _ => none⟩
def M4 (n m : Int) (R : SV -> List (Option Ob) -> Prop) : Prop :=
(((decide (n < (0 : Int)) = true) ->
 (((Rx.lo .i64 <= n + (1 : Int)) /\
   (n + (1 : Int) <= Rx.hi .i64)) /\
  (((Rx.lo .i64 <= (0 : Int) - (n + (1 : Int))) /\
    ((0 : Int) - (n + (1 : Int)) <= Rx.hi .i64)) /\
   ((m ≠ (0 : Int)) /\
    (True /\
     R (SV.dt (Dt.cell (.int .i64 (((0 : Int) - (n + (1 : Int))).tmod m)))) ([])))))) /\
((decide (n < (0 : Int)) = false) ->
 ((m ≠ (0 : Int)) /\
  (True /\
   R (SV.dt (Dt.cell (.int .i64 (n.tmod m)))) ([])))))
def Ve (s : ByteArray) (a c x y : Int) (R : SV -> List (Option Ob) -> Prop) : Prop :=
(((((0 : Int) == (0 : Int)) = true) ->
 (True /\
  R (SV.agg [SV.ki .i64 ((0 : Int)), SV.ki .i64 ((0 : Int)), SV.dt (Dt.cell (.string (ByteArray.mk #[]))), SV.dt (Dt.cell (.slice Option.none (0 : Nat) (0 : Nat)))]) ([some (Ob.cells 101 [SV.dt (Dt.cell (.string s)), SV.dt (Dt.cell (.int .i64 x)), SV.dt (Dt.cell (.int .i64 c)), SV.dt (Dt.cell (.int .i64 y))])]))) /\
((((0 : Int) == (0 : Int)) = false) ->
 (True /\
  R (SV.agg [SV.ki .i64 ((0 : Int)), SV.ki .i64 ((0 : Int)), SV.dt (Dt.cell (.string (ByteArray.mk #[]))), SV.dt (Dt.cell (.slice Option.none (0 : Nat) (0 : Nat)))]) ([some (Ob.cells 101 [SV.dt (Dt.cell (.string s)), SV.dt (Dt.cell (.int .i64 a)), SV.dt (Dt.cell (.int .i64 c)), SV.dt (Dt.cell (.int .i64 (0 : Int)))])]))))
def M6 (s : ByteArray) (c e a : Int) (Rn : List SV -> List (Option Ob) -> Prop) (Re : Ex -> List SV -> List (Option Ob) -> Prop) : Prop :=
(((decide (a < (↑s.size : Int)) = true) ->
 ((((0 : Int) <= a) /\
   (a < (↑s.size : Int))) /\
  ((((av s a != (10 : Int)) = true) ->
    (((Rx.lo .i64 <= a + (1 : Int)) /\
      (a + (1 : Int) <= Rx.hi .i64)) /\
     Rn ([SV.ptr 0 0]) ([some (Ob.cells 101 [SV.dt (Dt.cell (.string s)), SV.dt (Dt.cell (.int .i64 (a + (1 : Int)))), SV.dt (Dt.cell (.int .i64 c)), SV.dt (Dt.cell (.int .i64 e))])]))) /\
   (((av s a != (10 : Int)) = false) ->
    Re (Rx.Ex.exit (3 : Nat)) ([SV.ptr 0 0]) ([some (Ob.cells 101 [SV.dt (Dt.cell (.string s)), SV.dt (Dt.cell (.int .i64 a)), SV.dt (Dt.cell (.int .i64 c)), SV.dt (Dt.cell (.int .i64 e))])]))))) /\
((decide (a < (↑s.size : Int)) = false) ->
 Re (Rx.Ex.exit (3 : Nat)) ([SV.ptr 0 0]) ([some (Ob.cells 101 [SV.dt (Dt.cell (.string s)), SV.dt (Dt.cell (.int .i64 a)), SV.dt (Dt.cell (.int .i64 c)), SV.dt (Dt.cell (.int .i64 e))])])))
def Nb (s : ByteArray) (c e a : Int) (Rn : List SV -> List (Option Ob) -> Prop) (Re : Ex -> List SV -> List (Option Ob) -> Prop) : Prop :=
(((decide (a < (↑s.size : Int)) = true) ->
 ((((0 : Int) <= a) /\
   (a < (↑s.size : Int))) /\
  ((((av s a == (32 : Int)) = true) ->
    (((Rx.lo .i64 <= a + (1 : Int)) /\
      (a + (1 : Int) <= Rx.hi .i64)) /\
     Rn ([SV.ptr 0 0]) ([some (Ob.cells 101 [SV.dt (Dt.cell (.string s)), SV.dt (Dt.cell (.int .i64 (a + (1 : Int)))), SV.dt (Dt.cell (.int .i64 c)), SV.dt (Dt.cell (.int .i64 e))])]))) /\
   (((av s a == (32 : Int)) = false) ->
    ((((av s a == (10 : Int)) = true) ->
      (((Rx.lo .i64 <= a + (1 : Int)) /\
        (a + (1 : Int) <= Rx.hi .i64)) /\
       Rn ([SV.ptr 0 0]) ([some (Ob.cells 101 [SV.dt (Dt.cell (.string s)), SV.dt (Dt.cell (.int .i64 (a + (1 : Int)))), SV.dt (Dt.cell (.int .i64 c)), SV.dt (Dt.cell (.int .i64 e))])]))) /\
     (((av s a == (10 : Int)) = false) ->
      ((((av s a == (9 : Int)) = true) ->
        (((Rx.lo .i64 <= a + (1 : Int)) /\
          (a + (1 : Int) <= Rx.hi .i64)) /\
         Rn ([SV.ptr 0 0]) ([some (Ob.cells 101 [SV.dt (Dt.cell (.string s)), SV.dt (Dt.cell (.int .i64 (a + (1 : Int)))), SV.dt (Dt.cell (.int .i64 c)), SV.dt (Dt.cell (.int .i64 e))])]))) /\
       (((av s a == (9 : Int)) = false) ->
        ((((av s a == (59 : Int)) = true) ->
          (((Rx.leS (SV.ptr 0 0) (SV.ptr 0 0)) /\
            True) /\
           ((Rx.leOO ([some (Ob.cells 101 [SV.dt (Dt.cell (.string s)), SV.dt (Dt.cell (.int .i64 a)), SV.dt (Dt.cell (.int .i64 c)), SV.dt (Dt.cell (.int .i64 e))])]) ([some (Ob.cells 101 [SV.dt (Dt.cell (.string s)), SV.dt (Dt.cell (.int .i64 a)), SV.dt (Dt.cell (.int .i64 c)), SV.dt (Dt.cell (.int .i64 e))])])) /\
            ((Rd.okS s a) /\
             Rn ([SV.ptr 0 0]) ([some (Ob.cells 101 [SV.dt (Dt.cell (.string s)), SV.dt (Dt.cell (.int .i64 (Rd.cmt s a))), SV.dt (Dt.cell (.int .i64 c)), SV.dt (Dt.cell (.int .i64 e))])]))))) /\
         (((av s a == (59 : Int)) = false) ->
          Re (Rx.Ex.ret) ([]) ([some (Ob.cells 101 [SV.dt (Dt.cell (.string s)), SV.dt (Dt.cell (.int .i64 a)), SV.dt (Dt.cell (.int .i64 c)), SV.dt (Dt.cell (.int .i64 e))])]))))))))))) /\
((decide (a < (↑s.size : Int)) = false) ->
 Re (Rx.Ex.exit (0 : Nat)) ([]) ([some (Ob.cells 101 [SV.dt (Dt.cell (.string s)), SV.dt (Dt.cell (.int .i64 a)), SV.dt (Dt.cell (.int .i64 c)), SV.dt (Dt.cell (.int .i64 e))])])))
def MU (s : ByteArray) (a c e : Int) (R : SV -> List (Option Ob) -> Prop) : Prop :=
(((Rx.leS (SV.ptr 0 0) (SV.ptr 0 0)) /\
 True) /\
((Rx.leOO ([some (Ob.cells 101 [SV.dt (Dt.cell (.string s)), SV.dt (Dt.cell (.int .i64 a)), SV.dt (Dt.cell (.int .i64 c)), SV.dt (Dt.cell (.int .i64 e))])]) ([some (Ob.cells 101 [SV.dt (Dt.cell (.string s)), SV.dt (Dt.cell (.int .i64 a)), SV.dt (Dt.cell (.int .i64 c)), SV.dt (Dt.cell (.int .i64 e))])])) /\
 ((Rd.okS s a) /\
  (((decide (Rd.blk s a < (↑s.size : Int)) = true) ->
    (True /\
     R (SV.tup []) ([some (Ob.cells 101 [SV.dt (Dt.cell (.string s)), SV.dt (Dt.cell (.int .i64 (Rd.blk s a))), SV.dt (Dt.cell (.int .i64 c)), SV.dt (Dt.cell (.int .i64 e))])]))) /\
   ((decide (Rd.blk s a < (↑s.size : Int)) = false) ->
    (True /\
     R (SV.tup []) ([some (Ob.cells 101 [SV.dt (Dt.cell (.string s)), SV.dt (Dt.cell (.int .i64 (Rd.blk s a))), SV.dt (Dt.cell (.int .i64 c)), SV.dt (Dt.cell (.int .i64 e))])])))))))
def Mh (s : ByteArray) (i : Int) (Rn : List SV -> List (Option Ob) -> Prop) (Re : Ex -> List SV -> List (Option Ob) -> Prop) : Prop :=
(((decide (i < (↑s.size : Int)) = true) ->
 ((((0 : Int) <= i) /\
   (i < (↑s.size : Int))) /\
  (((decide (av s i < (97 : Int)) = true) ->
    (((decide (av s i < (48 : Int)) = true) ->
      ((Rx.leL ([SV.dt (Dt.cell (.string (ByteArray.mk #[(43 : UInt8), (45 : UInt8), (42 : UInt8), (47 : UInt8), (60 : UInt8), (62 : UInt8), (61 : UInt8), (63 : UInt8), (33 : UInt8), (95 : UInt8)]))), SV.dt (Dt.cell (.int Go.IntKind.u8 (av s i)))]) ([SV.dt (Dt.cell (.string (ByteArray.mk #[(43 : UInt8), (45 : UInt8), (42 : UInt8), (47 : UInt8), (60 : UInt8), (62 : UInt8), (61 : UInt8), (63 : UInt8), (33 : UInt8), (95 : UInt8)]))), SV.dt (Dt.cell (.int Go.IntKind.u8 (av s i)))])) /\
       ((Rx.bn ([]) ([])) /\
        (((decide (Rd.ixB (ByteArray.mk #[(43 : UInt8), (45 : UInt8), (42 : UInt8), (47 : UInt8), (60 : UInt8), (62 : UInt8), (61 : UInt8), (63 : UInt8), (33 : UInt8), (95 : UInt8)]) (av s i) < (0 : Int)) = true) ->
          Re (Rx.Ex.ret) ([SV.dt (Dt.cell (.bool false))]) ([])) /\
         ((decide (Rd.ixB (ByteArray.mk #[(43 : UInt8), (45 : UInt8), (42 : UInt8), (47 : UInt8), (60 : UInt8), (62 : UInt8), (61 : UInt8), (63 : UInt8), (33 : UInt8), (95 : UInt8)]) (av s i) < (0 : Int)) = false) ->
          (((Rx.lo .i64 <= i + (1 : Int)) /\
            (i + (1 : Int) <= Rx.hi .i64)) /\
           Rn ([SV.dt (Dt.cell (.string s)), SV.dt (Dt.cell (.int .i64 (i + (1 : Int)))), SV.dt (Dt.cell (.int .i64 (↑s.size : Int)))]) ([]))))))) /\
     ((decide (av s i < (48 : Int)) = false) ->
      (((decide (av s i > (57 : Int)) = true) ->
        ((Rx.leL ([SV.dt (Dt.cell (.string (ByteArray.mk #[(43 : UInt8), (45 : UInt8), (42 : UInt8), (47 : UInt8), (60 : UInt8), (62 : UInt8), (61 : UInt8), (63 : UInt8), (33 : UInt8), (95 : UInt8)]))), SV.dt (Dt.cell (.int Go.IntKind.u8 (av s i)))]) ([SV.dt (Dt.cell (.string (ByteArray.mk #[(43 : UInt8), (45 : UInt8), (42 : UInt8), (47 : UInt8), (60 : UInt8), (62 : UInt8), (61 : UInt8), (63 : UInt8), (33 : UInt8), (95 : UInt8)]))), SV.dt (Dt.cell (.int Go.IntKind.u8 (av s i)))])) /\
         ((Rx.bn ([]) ([])) /\
          (((decide (Rd.ixB (ByteArray.mk #[(43 : UInt8), (45 : UInt8), (42 : UInt8), (47 : UInt8), (60 : UInt8), (62 : UInt8), (61 : UInt8), (63 : UInt8), (33 : UInt8), (95 : UInt8)]) (av s i) < (0 : Int)) = true) ->
            Re (Rx.Ex.ret) ([SV.dt (Dt.cell (.bool false))]) ([])) /\
           ((decide (Rd.ixB (ByteArray.mk #[(43 : UInt8), (45 : UInt8), (42 : UInt8), (47 : UInt8), (60 : UInt8), (62 : UInt8), (61 : UInt8), (63 : UInt8), (33 : UInt8), (95 : UInt8)]) (av s i) < (0 : Int)) = false) ->
            (((Rx.lo .i64 <= i + (1 : Int)) /\
              (i + (1 : Int) <= Rx.hi .i64)) /\
             Rn ([SV.dt (Dt.cell (.string s)), SV.dt (Dt.cell (.int .i64 (i + (1 : Int)))), SV.dt (Dt.cell (.int .i64 (↑s.size : Int)))]) ([]))))))) /\
       ((decide (av s i > (57 : Int)) = false) ->
        (((Rx.lo .i64 <= i + (1 : Int)) /\
          (i + (1 : Int) <= Rx.hi .i64)) /\
         Rn ([SV.dt (Dt.cell (.string s)), SV.dt (Dt.cell (.int .i64 (i + (1 : Int)))), SV.dt (Dt.cell (.int .i64 (↑s.size : Int)))]) ([]))))))) /\
   ((decide (av s i < (97 : Int)) = false) ->
    (((decide (av s i > (122 : Int)) = true) ->
      (((decide (av s i < (48 : Int)) = true) ->
        ((Rx.leL ([SV.dt (Dt.cell (.string (ByteArray.mk #[(43 : UInt8), (45 : UInt8), (42 : UInt8), (47 : UInt8), (60 : UInt8), (62 : UInt8), (61 : UInt8), (63 : UInt8), (33 : UInt8), (95 : UInt8)]))), SV.dt (Dt.cell (.int Go.IntKind.u8 (av s i)))]) ([SV.dt (Dt.cell (.string (ByteArray.mk #[(43 : UInt8), (45 : UInt8), (42 : UInt8), (47 : UInt8), (60 : UInt8), (62 : UInt8), (61 : UInt8), (63 : UInt8), (33 : UInt8), (95 : UInt8)]))), SV.dt (Dt.cell (.int Go.IntKind.u8 (av s i)))])) /\
         ((Rx.bn ([]) ([])) /\
          (((decide (Rd.ixB (ByteArray.mk #[(43 : UInt8), (45 : UInt8), (42 : UInt8), (47 : UInt8), (60 : UInt8), (62 : UInt8), (61 : UInt8), (63 : UInt8), (33 : UInt8), (95 : UInt8)]) (av s i) < (0 : Int)) = true) ->
            Re (Rx.Ex.ret) ([SV.dt (Dt.cell (.bool false))]) ([])) /\
           ((decide (Rd.ixB (ByteArray.mk #[(43 : UInt8), (45 : UInt8), (42 : UInt8), (47 : UInt8), (60 : UInt8), (62 : UInt8), (61 : UInt8), (63 : UInt8), (33 : UInt8), (95 : UInt8)]) (av s i) < (0 : Int)) = false) ->
            (((Rx.lo .i64 <= i + (1 : Int)) /\
              (i + (1 : Int) <= Rx.hi .i64)) /\
             Rn ([SV.dt (Dt.cell (.string s)), SV.dt (Dt.cell (.int .i64 (i + (1 : Int)))), SV.dt (Dt.cell (.int .i64 (↑s.size : Int)))]) ([]))))))) /\
       ((decide (av s i < (48 : Int)) = false) ->
        (((decide (av s i > (57 : Int)) = true) ->
          ((Rx.leL ([SV.dt (Dt.cell (.string (ByteArray.mk #[(43 : UInt8), (45 : UInt8), (42 : UInt8), (47 : UInt8), (60 : UInt8), (62 : UInt8), (61 : UInt8), (63 : UInt8), (33 : UInt8), (95 : UInt8)]))), SV.dt (Dt.cell (.int Go.IntKind.u8 (av s i)))]) ([SV.dt (Dt.cell (.string (ByteArray.mk #[(43 : UInt8), (45 : UInt8), (42 : UInt8), (47 : UInt8), (60 : UInt8), (62 : UInt8), (61 : UInt8), (63 : UInt8), (33 : UInt8), (95 : UInt8)]))), SV.dt (Dt.cell (.int Go.IntKind.u8 (av s i)))])) /\
           ((Rx.bn ([]) ([])) /\
            (((decide (Rd.ixB (ByteArray.mk #[(43 : UInt8), (45 : UInt8), (42 : UInt8), (47 : UInt8), (60 : UInt8), (62 : UInt8), (61 : UInt8), (63 : UInt8), (33 : UInt8), (95 : UInt8)]) (av s i) < (0 : Int)) = true) ->
              Re (Rx.Ex.ret) ([SV.dt (Dt.cell (.bool false))]) ([])) /\
             ((decide (Rd.ixB (ByteArray.mk #[(43 : UInt8), (45 : UInt8), (42 : UInt8), (47 : UInt8), (60 : UInt8), (62 : UInt8), (61 : UInt8), (63 : UInt8), (33 : UInt8), (95 : UInt8)]) (av s i) < (0 : Int)) = false) ->
              (((Rx.lo .i64 <= i + (1 : Int)) /\
                (i + (1 : Int) <= Rx.hi .i64)) /\
               Rn ([SV.dt (Dt.cell (.string s)), SV.dt (Dt.cell (.int .i64 (i + (1 : Int)))), SV.dt (Dt.cell (.int .i64 (↑s.size : Int)))]) ([]))))))) /\
         ((decide (av s i > (57 : Int)) = false) ->
          (((Rx.lo .i64 <= i + (1 : Int)) /\
            (i + (1 : Int) <= Rx.hi .i64)) /\
           Rn ([SV.dt (Dt.cell (.string s)), SV.dt (Dt.cell (.int .i64 (i + (1 : Int)))), SV.dt (Dt.cell (.int .i64 (↑s.size : Int)))]) ([]))))))) /\
     ((decide (av s i > (122 : Int)) = false) ->
      (((Rx.lo .i64 <= i + (1 : Int)) /\
        (i + (1 : Int) <= Rx.hi .i64)) /\
       Rn ([SV.dt (Dt.cell (.string s)), SV.dt (Dt.cell (.int .i64 (i + (1 : Int)))), SV.dt (Dt.cell (.int .i64 (↑s.size : Int)))]) ([])))))))) /\
((decide (i < (↑s.size : Int)) = false) ->
 Re (Rx.Ex.exit (0 : Nat)) ([SV.dt (Dt.cell (.string s))]) ([])))
def M5 (s : ByteArray) (R : SV -> List (Option Ob) -> Prop) : Prop :=
((((s.data.toList == []) = true) ->
 (True /\
  R (SV.dt (Dt.cell (.bool false))) ([]))) /\
(((s.data.toList == []) = false) ->
 (((decide ((↑s.size : Int) > (16 : Int)) = true) ->
   (True /\
    R (SV.dt (Dt.cell (.bool false))) ([]))) /\
  ((decide ((↑s.size : Int) > (16 : Int)) = false) ->
   ((((0 : Int) <= (0 : Int)) /\
     ((0 : Int) < (↑s.size : Int))) /\
    (((decide (av s (0 : Int) ≥ (48 : Int)) = true) ->
      ((((0 : Int) <= (0 : Int)) /\
        ((0 : Int) < (↑s.size : Int))) /\
       (((decide (av s (0 : Int) <= (57 : Int)) = true) ->
         (True /\
          R (SV.dt (Dt.cell (.bool false))) ([]))) /\
        ((decide (av s (0 : Int) <= (57 : Int)) = false) ->
         (((Rx.leS (SV.dt (Dt.cell (.string s))) (SV.dt (Dt.cell (.string s)))) /\
           ((Rx.leS (SV.dt (Dt.cell (.int .i64 (0 : Int)))) (SV.dt (Dt.cell (.int .i64 (0 : Int))))) /\
            ((Rx.leS (SV.dt (Dt.cell (.int .i64 (↑s.size : Int)))) (SV.dt (Dt.cell (.int .i64 (↑s.size : Int))))) /\
             True))) /\
          ((Rx.leOO ([]) ([])) /\
           ((((0 : Int) <= (0 : Int)) /\
             (s.size <= (16 : Nat))) /\
            (((Rd.uS s (0 : Int) = true) ->
              (((((↑s.size : Int) == (1 : Int)) = true) ->
                (True /\
                 R (SV.dt (Dt.cell (.bool true))) ([]))) /\
               ((((↑s.size : Int) == (1 : Int)) = false) ->
                ((((0 : Int) <= (0 : Int)) /\
                  ((0 : Int) < (↑s.size : Int))) /\
                 ((((av s (0 : Int) != (45 : Int)) = true) ->
                   (True /\
                    R (SV.dt (Dt.cell (.bool true))) ([]))) /\
                  (((av s (0 : Int) != (45 : Int)) = false) ->
                   ((((0 : Int) <= (1 : Int)) /\
                     ((1 : Int) < (↑s.size : Int))) /\
                    (((decide (av s (1 : Int) < (48 : Int)) = true) ->
                      (True /\
                       R (SV.dt (Dt.cell (.bool true))) ([]))) /\
                     ((decide (av s (1 : Int) < (48 : Int)) = false) ->
                      ((((0 : Int) <= (1 : Int)) /\
                        ((1 : Int) < (↑s.size : Int))) /\
                       (True /\
                        R (SV.dt (Dt.cell (.bool (decide (av s (1 : Int) > (57 : Int)))))) ([])))))))))))) /\
             ((Rd.uS s (0 : Int) = false) ->
              (True /\
               R (SV.dt (Dt.cell (.bool false))) ([]))))))))))) /\
     ((decide (av s (0 : Int) ≥ (48 : Int)) = false) ->
      (((Rx.leS (SV.dt (Dt.cell (.string s))) (SV.dt (Dt.cell (.string s)))) /\
        ((Rx.leS (SV.dt (Dt.cell (.int .i64 (0 : Int)))) (SV.dt (Dt.cell (.int .i64 (0 : Int))))) /\
         ((Rx.leS (SV.dt (Dt.cell (.int .i64 (↑s.size : Int)))) (SV.dt (Dt.cell (.int .i64 (↑s.size : Int))))) /\
          True))) /\
       ((Rx.leOO ([]) ([])) /\
        ((((0 : Int) <= (0 : Int)) /\
          (s.size <= (16 : Nat))) /\
         (((Rd.uS s (0 : Int) = true) ->
           (((((↑s.size : Int) == (1 : Int)) = true) ->
             (True /\
              R (SV.dt (Dt.cell (.bool true))) ([]))) /\
            ((((↑s.size : Int) == (1 : Int)) = false) ->
             ((((0 : Int) <= (0 : Int)) /\
               ((0 : Int) < (↑s.size : Int))) /\
              ((((av s (0 : Int) != (45 : Int)) = true) ->
                (True /\
                 R (SV.dt (Dt.cell (.bool true))) ([]))) /\
               (((av s (0 : Int) != (45 : Int)) = false) ->
                ((((0 : Int) <= (1 : Int)) /\
                  ((1 : Int) < (↑s.size : Int))) /\
                 (((decide (av s (1 : Int) < (48 : Int)) = true) ->
                   (True /\
                    R (SV.dt (Dt.cell (.bool true))) ([]))) /\
                  ((decide (av s (1 : Int) < (48 : Int)) = false) ->
                   ((((0 : Int) <= (1 : Int)) /\
                     ((1 : Int) < (↑s.size : Int))) /\
                    (True /\
                     R (SV.dt (Dt.cell (.bool (decide (av s (1 : Int) > (57 : Int)))))) ([])))))))))))) /\
          ((Rd.uS s (0 : Int) = false) ->
           (True /\
            R (SV.dt (Dt.cell (.bool false))) ([]))))))))))))))
def UG (n : Nat) (f : Nat -> Nat -> Dt) (R : SV -> List (Option Ob) -> Prop) : Prop :=
((((0 : Int) <= (↑n : Int)) /\
 (((↑n : Int) <= (↑n : Int)) /\
  ((↑n : Int) <= (↑n : Int)))) /\
(True /\
 R (SV.dt (Dt.arr ((4 : Nat)) ((↑n : Int).toNat) (f))) ([])))
theorem Zg : leS (.agg [.ki .i64 0, .ki .i64 0, .dt (.cell (.string ⟨#[]⟩)), .dt (.cell (.slice none 0 0))]) (dmS d0) := by
 simp only [dmS, dmA, Gr, wS, zJ, and_true]
 refine ⟨(oz _ _ _).2 rfl, (oz _ _ _).2 rfl, (Ue _ _).2 rfl, ?_⟩
 rw [G6]
 simp only [bY]
 exact ⟨rfl, rfl⟩
theorem gD {E : Env} {l : List Code} (h : l = []) : E.Lok l := by
 subst h
 intro c hc; cases hc
theorem uP (n m : Int) : Ctr prog wT [vI .i64 n, vI .i64 m] [] (Mq n m) := by
 refine jS mixed (N := 13) (fn := JJ) (c := bO JJ) (ks := []) (ls := []) (by kernel_rfl) (by kernel_rfl) (by kernel_rfl) all_nil AX (l8 (fun f h => by cases h)) (by kernel_rfl) (Q := M4 n m) (fun post hp => ?_) (fun R => by kernel_rfl)
 obtain ⟨⟨⟨h1, h2⟩, hm⟩, hp⟩ := hp
 unfold M4
 simp only [lo, hi, decide_eq_true_eq, decide_eq_false_iff_not]
 refine ⟨fun h => ⟨⟨by omega, by omega⟩, ⟨by omega, by omega⟩, hm, trivial, ?_⟩, fun h => ⟨hm, trivial, ?_⟩⟩
 · exact ⟨_, hp, by rw [jd, aH, if_pos h], aN _⟩
 · exact ⟨_, hp, by rw [jd, aH, if_neg h], aN _⟩
theorem RQ (s : ByteArray) (a c x y : Int) : Ctr prog Q9 [.ptr 0 0, vI .i64 x, vI .i64 y] [pOb s a c 0] (UO s c x y) := by
 refine jS mixed (N := 21) (fn := Sc) (c := bO Sc) (ks := []) (ls := []) (by kernel_rfl) (by kernel_rfl) (by kernel_rfl) all_nil AX (l8 (fun f h => by cases h)) (by kernel_rfl) (Q := Ve s a c x y) (fun post hp => ?_) (fun R => by kernel_rfl)
 have hp : post (dmS d0, [some (pOb s x c y)]) := hp
 unfold Ve
 refine ⟨fun _ => ⟨trivial, mO hp Zg (aN _)⟩, fun h => by cases h⟩
theorem Gx (s : ByteArray) (c e a : Int) : Sound blE (.loop Az) (jW (FL.live.h.zip uD) [some (pOb s a c e)]) ((QN s c e a).map (OutC.st FL.live)) := by
 refine sS mixed (ks := []) (ls := [FL, GA]) (c := Az) (nb := 1) (N := 72) all_nil (gD (by kernel_rfl)) FL.live (fun _ : Int => uD) (fun a => [some (pOb s a c e)]) (fun a => QN s c e a) (fun a => ((s.size : Int) - a).toNat)
  (Q := fun a => M6 s c e a) (fun a post hp => ?_) (fun a Rn Re => by kernel_rfl) a
 obtain ⟨⟨h1, h2, h3⟩, hp⟩ := hp
 have hp : post (.exit 3, [.ptr 0 0], [some (pOb s (cmt s a) c e)]) := hp
 unfold M6
 simp only [lo, hi, decide_eq_true_eq, decide_eq_false_iff_not, bne_iff_ne, bne_eq_false_iff_eq]
 have done : cmt s a = a -> nI post (.exit 3) [.ptr 0 0] [some (pOb s a c e)] := fun h => by
  rw [h] at hp; exact nI.mk hp (aG _) (aN _)
 refine ⟨fun h => ⟨⟨h2, h⟩, fun hb => ⟨⟨by omega, by omega⟩, a + 1, by omega, aG _, aN _, ⟨h1, by omega, by omega⟩, ?_⟩, fun hb => done ?_⟩, fun h => done ?_⟩
 · have : cmt s a = cmt s (a + 1) := by rw [cmt, if_pos ⟨h, hb⟩]
   rw [this] at hp; exact hp
 · rw [cmt, if_neg]; rintro ⟨_, h⟩; exact h hb
 · rw [cmt, if_neg]; rintro ⟨h', _⟩; exact h h'
theorem UA : KF blE FL Az := by
 intro svs obl args obs out h
 unfold FL at h
 simp only at h
 repeat' split at h
 all_goals first
  | (simp only [Option.some.injEq, Prod.mk.injEq] at h; obtain ⟨rfl, rfl, rfl⟩ := h; apply Gx)
  | cases h
theorem Hy (s : ByteArray) (c e a : Int) : Sound blE (.loop xB) (jW (GA.live.h.zip uD) [some (pOb s a c e)]) ((Na s c e a).map (OutC.st GA.live)) := by
 refine sS mixed (ks := []) (ls := [FL, GA]) (c := xB) (nb := 1) (N := 72) all_nil (l8 fun f h c hc hr => ?_) GA.live (fun _ : Int => uD) (fun a => [some (pOb s a c e)]) (fun a => Na s c e a) (fun a => ((s.size : Int) - a).toNat)
  (Q := fun a => Nb s c e a) (fun a post hp => ?_) (fun a Rn Re => by kernel_rfl) a
 · have hl : bM xB = [Az] := by kernel_rfl
   rw [hl, List.mem_singleton] at hc
   subst hc
   rcases List.mem_cons.1 h with rfl | h
   · exact UA
   · rw [List.mem_singleton] at h
     subst h
     have : dK Az = 5 := by kernel_rfl
     rw [this] at hr
     cases hr
 obtain ⟨⟨h1, h2, h3⟩, hp⟩ := hp
 unfold Nb
 have nx : ∀ b, a < b -> b <= s.size -> blk s b = blk s a -> ∃ x', ((s.size : Int) - x').toNat < ((s.size : Int) - a).toNat /\ leL [SV.ptr 0 0] uD /\ leOO [some (pOb s b c e)] [some (pOb s x' c e)] /\ (Na s c e x').holds post := fun b hb hb' he => by
  refine ⟨b, by omega, aG _, aN _, ⟨h1, by omega, hb'⟩, ?_⟩
  rw [he]; exact hp
 have lr : blk s a = a -> a < s.size -> nI post .ret [] [some (pOb s a c e)] := fun h h' => nI.mk (hp.1 (by rw [h]; simpa using h')) (aG _) (by rw [h]; exact aN _)
 have le : blk s a = a -> ¬ a < s.size -> nI post (.exit 0) [] [some (pOb s a c e)] := fun h h' => nI.mk (hp.2 (by rw [h]; simpa using h')) (aG _) (by rw [h]; exact aN _)
 simp only [lo, hi, decide_eq_true_eq, decide_eq_false_iff_not, bne_iff_ne, bne_eq_false_iff_eq, beq_iff_eq, beq_eq_false_iff_ne]
 have e1 : ∀ b : Int, a < s.size -> (av s a = 32 ∨ av s a = 10 ∨ av s a = 9) -> blk s (a + 1) = blk s a := fun b h hb => by
  rw [blk.eq_1 s a, if_pos h, if_pos hb]
 refine ⟨fun h => ⟨⟨h2, h⟩, fun g1 => ⟨⟨by omega, by omega⟩, nx _ (by omega) (by omega) (e1 a h (.inl g1))⟩, fun g1 => ⟨fun g2 => ⟨⟨by omega, by omega⟩, nx _ (by omega) (by omega) (e1 a h (.inr (.inl g2)))⟩, fun g2 =>
  ⟨fun g3 => ⟨⟨by omega, by omega⟩, nx _ (by omega) (by omega) (e1 a h (.inr (.inr g3)))⟩, fun g3 => ⟨fun g4 => ⟨⟨(BM _).2 trivial, trivial⟩, aN _, ⟨h1, h2, h3⟩, ?_⟩, fun g4 => lr ?_ h⟩⟩⟩⟩, fun h => le ?_ h⟩
 · have c1 : cmt s a = cmt s (a + 1) := by rw [cmt.eq_1 s a, if_pos ⟨h, by omega⟩]
   have := KY s (a + 1)
   refine nx _ (by omega) (QF _ _ h3) ?_
   rw [c1]
   conv => rhs; rw [blk, if_pos h, if_neg (by omega), if_pos g4]
 · rw [blk, if_pos h, if_neg (by omega), if_neg g4]
 · rw [blk, if_neg h]
theorem TN : KF blE GA xB := by
 intro svs obl args obs out h
 unfold GA at h
 simp only at h
 repeat' split at h
 all_goals first
  | (simp only [Option.some.injEq, Prod.mk.injEq] at h; obtain ⟨rfl, rfl, rfl⟩ := h; apply Hy)
  | cases h
theorem Tc : blE.Lok (bM (bO ni)) := by
 have hl : bM (bO ni) = [xB] := by kernel_rfl
 rw [hl]
 refine l8 fun f h c hc hr => ?_
 rw [List.mem_singleton] at hc
 subst hc
 have h1 : dK xB = 1 := by kernel_rfl
 rw [h1] at hr
 rcases List.mem_cons.1 h with rfl | h
 · cases hr
 · rw [List.mem_singleton] at h
   subst h
   exact TN
theorem Kt (s : ByteArray) (a c e : Int) : Ctr prog J6 [.ptr 0 0] [pOb s a c e] (Ml s a c e) := by
 refine jS mixed (N := 72) (fn := ni) (c := bO ni) (ks := []) (ls := [FL, GA]) (by kernel_rfl) (by kernel_rfl) (by kernel_rfl) all_nil AX Tc (by kernel_rfl) (Q := MU s a c e) (fun post hp => ?_) (fun R => by kernel_rfl)
 obtain ⟨h, hp⟩ := hp
 have hp : post (.tup [], [some (pOb s (blk s a) c e)]) := hp
 unfold MU
 exact ⟨⟨(BM _).2 trivial, trivial⟩, aN _, h, fun _ => ⟨trivial, mO hp (aL _) (aN _)⟩, fun _ => ⟨trivial, mO hp (aL _) (aN _)⟩⟩
theorem QL (n : Nat) (f : Nat -> Nat -> Dt) : Ctr prog Pz [.dt (.arr 4 n f)] [] (U1 n f) := by
 refine jS mixed (N := 9) (fn := P9) (c := bO P9) (ks := []) (ls := []) (by kernel_rfl) (by kernel_rfl) (by kernel_rfl) all_nil AX (gD (by kernel_rfl)) (by kernel_rfl) (Q := UG n f) (fun post hp => ?_) (fun R => by kernel_rfl)
 have hp : post (.dt (.arr 4 n f), []) := hp
 unfold UG
 exact ⟨⟨by omega, by omega, by omega⟩, trivial, xZ hp (aL _)⟩
theorem Lh : ixF.Ok prog := by
 intro al ol args obs out h
 unfold ixF at h
 simp only at h
 split at h
 · simp only [Option.some.injEq, Prod.mk.injEq] at h
   obtain ⟨rfl, rfl, rfl⟩ := h
   exact DR _ _
 · cases h
theorem Ni {s : ByteArray} {i : Int} (h : i < s.size) : uS s i = (okc (av s i) && uS s (i + 1)) := by rw [uS, if_pos h]
theorem TM {s : ByteArray} {i : Int} (h : ¬ i < s.size) : uS s i = true := by rw [uS, if_neg h]
theorem Gm (s : ByteArray) (i : Int) : Sound syE (.loop Fu) (jW (JY.live.h.zip (AZ s i)) []) ((MF s i).map (OutC.st JY.live)) := by
 refine sS mixed (ks := VZ) (ls := [JY]) (c := Fu) (nb := 0) (N := 68) (all_cons Lh all_nil) (gD (by kernel_rfl)) JY.live (fun i : Int => AZ s i) (fun _ => []) (fun i => MF s i) (fun i => ((s.size : Int) - i).toNat)
  (Q := fun i => Mh s i) (fun i post hp => ?_) (fun a Rn Re => by kernel_rfl) i
 obtain ⟨⟨h1, h2⟩, hp⟩ := hp
 have nx : i < s.size -> okc (av s i) = true -> ∃ x', ((s.size : Int) - x').toNat < ((s.size : Int) - i).toNat /\ leL (AZ s (i + 1)) (AZ s x') /\ leOO [] [] /\ (MF s x').holds post := fun h ho => by
  refine ⟨i + 1, by omega, aG _, aN _, ⟨by omega, h2⟩, ?_⟩
  rw [Ni h, ho, Bool.true_and] at hp; exact hp
 have lf : i < s.size -> okc (av s i) = false -> nI post .ret [vB false] [] := fun h ho => nI.mk (hp.2 (by rw [Ni h, ho]; rfl)) (aG _) (aN _)
 unfold Mh
 simp only [lo, hi, decide_eq_true_eq, decide_eq_false_iff_not]
 have hsg : ixB ⟨#[43, 45, 42, 47, 60, 62, 61, 63, 33, 95]⟩ (av s i) = ixB signs (av s i) := rfl
 have T : ∀ {p : Prop}, (97 <= av s i /\ av s i <= 122 ∨ 48 <= av s i /\ av s i <= 57 ∨ 0 <= ixB signs (av s i)) -> (okc (av s i) = true -> p) -> p := fun h k => k (by simpa [okc] using h)
 have F : ∀ {p : Prop}, ¬ (97 <= av s i /\ av s i <= 122 ∨ 48 <= av s i /\ av s i <= 57 ∨ 0 <= ixB signs (av s i)) -> (okc (av s i) = false -> p) -> p := fun h k => k (by simpa [okc] using h)
 simp only [hsg]
 refine ⟨fun h => ⟨⟨h1, h⟩, ?_⟩, fun h => nI.mk (hp.1 (TM h)) (aG _) (aN _)⟩
 repeat' (first | (refine And.intro ?_ ?_) | intro _)
 all_goals first
  | exact aL _
  | trivial
  | omega
  | exact T (by omega) (nx h)
  | exact F (by omega) (lf h)
theorem SI : KF syE JY Fu := by
 intro svs obl args obs out h
 unfold JY at h
 simp only at h
 repeat' split at h
 all_goals first
  | (simp only [Option.some.injEq, Prod.mk.injEq] at h; obtain ⟨rfl, rfl, rfl⟩ := h; apply Gm)
  | cases h
theorem Uz : syE.Lok (bM (bO qP)) := by
 have hl : bM (bO qP) = [Fu] := by kernel_rfl
 rw [hl]
 refine l8 fun f h c hc hr => ?_
 rw [List.mem_singleton] at hc h
 subst hc; subst h
 exact SI
theorem Au (s : ByteArray) : Ctr prog vH [vS s] [] (Xr s) := by
 refine jS mixed (N := 68) (fn := qP) (c := bO qP) (ks := VZ) (ls := [JY]) (by kernel_rfl) (by kernel_rfl) (by kernel_rfl) (all_cons Lh all_nil) AX Uz (by kernel_rfl) (Q := M5 s) (fun post hp => ?_) (fun R => by kernel_rfl)
 have hp : post (vB (pO s), []) := hp
 have leafT : pO s = true -> Gives post (.dt (.cell (.bool true))) [] := fun h => xZ hp (by rw [jd, h])
 have leafF : pO s = false -> Gives post (.dt (.cell (.bool false))) [] := fun h => xZ hp (by rw [jd, h])
 have leafD : ∀ q : Bool, pO s = q -> Gives post (.dt (.cell (.bool q))) [] := fun q h => xZ hp (by rw [jd, h])
 unfold M5
 simp only [JW, decide_eq_true_eq, decide_eq_false_iff_not, beq_iff_eq, beq_eq_false_iff_ne, bne_iff_ne, bne_eq_false_iff_eq, true_and]
 unfold pO at leafT leafF leafD
 repeat' (first | (refine And.intro ?_ ?_) | intro _)
 all_goals first
  | exact (BM _).2 trivial
  | exact aN _
  | trivial
  | omega
  | exact leafT (by simp only [Bool.and_eq_true, decide_eq_true_eq]; exact ⟨by omega, by assumption⟩)
  | exact leafF (by simp only [Bool.and_eq_false_iff, decide_eq_false_iff_not]; first | (left; omega) | (right; assumption))
  | (refine leafD _ ?_; rw [Bool.eq_iff_iff]; simp only [Bool.and_eq_true, decide_eq_true_eq]; rw [and_iff_left (by assumption)]; constructor <;> omega)
theorem WL : MJ.Ok prog := by
 intro al ol args obs out h
 unfold MJ at h
 simp only at h
 repeat' split at h
 all_goals first
  | (simp only [Option.some.injEq, Prod.mk.injEq] at h; obtain ⟨rfl, rfl, rfl⟩ := h; apply uP)
  | cases h
theorem Wv : clF.Ok prog := by
 intro al ol args obs out h
 unfold clF at h
 simp only at h
 repeat' split at h
 all_goals first
  | (simp only [Option.some.injEq, Prod.mk.injEq] at h; obtain ⟨rfl, rfl, rfl⟩ := h; apply QL)
  | cases h
end Rd
