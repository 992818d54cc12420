/- The reader's small functions. -/
import Derived.Test.YtildnaomamnkgaaGreatDoorRdL
set_option linter.unusedSimpArgs false
set_option linter.unusedVariables false
open Rx Go
namespace Rd
noncomputable def bI (f : Func) : Code := f.body.getD .skip
theorem mixed : prog.follows .mixedOrders = true := by kernel_rfl
def isInt (n : Int) : Prop := -9223372036854775808 <= n /\ n <= 9223372036854775807
def rdI : SV -> Option Int
 | .dt (.cell (.int .i64 n)) => some n
 | .ki .i64 n => some n
 | _ => none
def rdS : SV -> Option ByteArray
 | .dt (.cell (.string s)) => some s
 | _ => none
def dK (n m : Int) : Int := (if n < 0 then 0 - (n + 1) else n).tmod m
def Ls (n m : Int) : T Out := .need (isInt n /\ m ≠ 0) (.ret (vI .i64 (dK n m), []))
def LW : FC := ⟨uj, false, false, fun al ol => match al, ol with
 | [n, m], [] => match rdI n, rdI m with
   | some n, some m => some ([vI .i64 n, vI .i64 m], [], Ls n m)
   | _, _ => none
 | _, _ => none⟩
inductive Dm where
 | mk (k n : Int) (s : ByteArray) (l : List Dm)
def Dm.k : Dm -> Int | mk k _ _ _ => k
def Dm.n : Dm -> Int | mk _ n _ _ => n
def Dm.s : Dm -> ByteArray | mk _ _ s _ => s
def Dm.l : Dm -> List Dm | mk _ _ _ l => l
def noS : ByteArray := ⟨#[]⟩
def d0 : Dm := .mk 0 0 noS []
instance : Inhabited Dm := ⟨d0⟩
mutual
def dmT : Dm -> Nat -> Dt
 | .mk k n s l, j => match j with
   | 0 => .cell (.int .i64 k)
   | 1 => .cell (.int .i64 n)
   | 2 => .cell (.string s)
   | _ => .arr 4 l.length (dmL l)
def dmL : List Dm -> Nat -> Nat -> Dt
 | [], _, _ => aQ
 | d :: l, i, j => match i with
   | 0 => dmT d j
   | i + 1 => dmL l i j
end
def dmA (l : List Dm) : SV := .dt (.arr 4 l.length (dmL l))
def dmS (d : Dm) : SV := .agg [vI .i64 d.k, vI .i64 d.n, vS d.s, dmA d.l]
def dmE (l : List Dm) (i : Nat) : SV := .agg [.dt (dmL l i 0), .dt (dmL l i 1), .dt (dmL l i 2), .dt (dmL l i 3)]
def pOb (s : ByteArray) (a c e : Int) : Ob := .cells Tf [vS s, vI .i64 a, vI .i64 c, vI .i64 e]
def okS (s : ByteArray) (a : Int) : Prop := s.size <= 3000 /\ 0 <= a /\ a <= s.size
def cmt (s : ByteArray) (a : Int) : Int := if a < s.size /\ ak s a ≠ 10 then cmt s (a + 1) else a
termination_by ((s.size : Int) - a).toNat
decreasing_by omega
theorem JX (s : ByteArray) (a : Int) : a <= cmt s a := by
 fun_induction cmt s a <;> omega
theorem Q9 (s : ByteArray) (a : Int) (h : a <= s.size) : cmt s a <= s.size := by
 fun_induction cmt s a <;> omega
def blk (s : ByteArray) (a : Int) : Int :=
 if a < s.size then if ak s a = 32 ∨ ak s a = 10 ∨ ak s a = 9 then blk s (a + 1) else if ak s a = 59 then blk s (cmt s (a + 1)) else a else a
termination_by ((s.size : Int) - a).toNat
decreasing_by
 · omega
 · have := JX s (a + 1); omega
theorem vM (s : ByteArray) (a : Int) : a <= blk s a := by
 fun_induction blk s a
 · omega
 · rename_i x _ _ _ _; have := JX s (x + 1); omega
 · omega
 · omega
theorem vD (s : ByteArray) (a : Int) (h : a <= s.size) : blk s a <= s.size := by
 fun_induction blk s a
 · omega
 · rename_i ih; exact ih (Q9 _ _ (by omega))
 · omega
 · omega
def sD : List SV := [.ptr 0 0]
def Py (s : ByteArray) (c e : Int) (a : Int) : T OutC := .need (okS s a) (.ret (.exit 3, [.ptr 0 0], [some (pOb s (cmt s a) c e)]))
def MF (s : ByteArray) (c e : Int) (a : Int) : T OutC := .need (okS s a) (.ite (decide (blk s a < s.size)) (.ret (.ret, [], [some (pOb s (blk s a) c e)])) (.ret (.exit 0, [], [some (pOb s (blk s a) c e)])))
def Gd : LF := ⟨5, ⟨[0], [0], []⟩, fun svs obl => match svs, obl with
 | [.ptr 0 0], [some (.cells _ [s, a, c, e])] => match rdS s, rdI a, rdI c, rdI e with
   | some s, some a, some c, some e => some (sD, [some (pOb s a c e)], Py s c e a)
   | _, _, _, _ => none
 | _, _ => none⟩
def EA : LF := ⟨1, ⟨[0], [], []⟩, fun svs obl => match svs, obl with
 | [.ptr 0 0], [some (.cells _ [s, a, c, e])] => match rdS s, rdI a, rdI c, rdI e with
   | some s, some a, some c, some e => some (sD, [some (pOb s a c e)], MF s c e a)
   | _, _, _, _ => none
 | _, _ => none⟩
noncomputable def blE : Env := fnE prog 72 1 [] [Gd, EA]
noncomputable def A9 : Code := (jo 5 (bI l5)).getD .skip
noncomputable def wm : Code := (jo 1 (bI l5)).getD .skip
def Mv (s : ByteArray) (a c e : Int) : T Out := .need (okS s a) (.ret (.tup [], [some (pOb s (blk s a) c e)]))
def Ut (s : ByteArray) (c : Int) (x y : Int) : T Out := .ret (dmS d0, [some (pOb s x c y)])
def signs : ByteArray := ⟨#[43, 45, 42, 47, 60, 62, 61, 63, 33, 95]⟩
def okc (c : Int) : Bool := decide (97 <= c /\ c <= 122 ∨ 48 <= c /\ c <= 57 ∨ 0 <= ixB signs c)
def rT (s : ByteArray) (i : Int) : Bool := if i < s.size then okc (ak s i) && rT s (i + 1) else true
termination_by ((s.size : Int) - i).toNat
decreasing_by omega
def og (s : ByteArray) : Bool :=
 decide (1 <= s.size /\ s.size <= 16 /\ ¬ (48 <= ak s 0 /\ ak s 0 <= 57) /\ (s.size = 1 ∨ ak s 0 ≠ 45 ∨ ak s 1 < 48 ∨ 57 < ak s 1)) && rT s 0
def Bc (s : ByteArray) (i : Int) : List SV := [vS s, vI .i64 i, vI .i64 s.size]
def MH (s : ByteArray) (i : Int) : T OutC := .need (0 <= i /\ s.size <= 16) (.ite (rT s i) (.ret (.exit 0, [vS s], [])) (.ret (.ret, [vB false], [])))
def ixF : FC := ⟨xI, false, false, fun al ol => match al, ol with
 | [.dt (.cell (.string s)), .dt (.cell (.int .u8 c))], [] => some ([vS s, vI .u8 c], [], .ret (vI .i64 (ixB s c), []))
 | _, _ => none⟩
def H8 : LF := ⟨4, ⟨[0, 24, 23], [0], [2]⟩, fun svs _ => match svs with
 | s :: i :: _ => match rdS s, rdI i with
   | some s, some i => some (Bc s i, [], MH s i)
   | _, _ => none
 | _ => none⟩
def UR : List (Nat × Nat × FC) := [(7, 16, ixF)]
noncomputable def syE : Env := fnE prog 68 0 UR [H8]
noncomputable def EJ : Code := (jo 4 (bI qE)).getD .skip
def Xn (s : ByteArray) : T Out := .ret (vB (og s), [])
def UA (n : Nat) (f : Nat -> Nat -> Dt) : T Out := .ret (.dt (.arr 4 n f), [])
def clF : FC := ⟨Pj, false, false, fun al ol => match al, ol with
 | [.dt (.arr 4 n f)], [] => some ([.dt (.arr 4 n f)], [], UA n f)
 | _, _ => none⟩
def K4 (n m : Int) (R : SV -> List (Option Ob) -> Prop) : Prop :=
(((decide (n < (0 : Int)) = true) ->
 (((Rx.lo .i64 <= n + (1 : Int)) /\
   (n + (1 : Int) <= Rx.hi .i64)) /\
  (((Rx.lo .i64 <= (0 : Int) - (n + (1 : Int))) /\
    ((0 : Int) - (n + (1 : Int)) <= Rx.hi .i64)) /\
   ((m ≠ (0 : Int)) /\
    (True /\
     R (SV.dt (Dt.cell (.int .i64 (((0 : Int) - (n + (1 : Int))).tmod m)))) ([])))))) /\
((decide (n < (0 : Int)) = false) ->
 ((m ≠ (0 : Int)) /\
  (True /\
   R (SV.dt (Dt.cell (.int .i64 (n.tmod m)))) ([])))))
def Uw (s : ByteArray) (a c x y : Int) (R : SV -> List (Option Ob) -> Prop) : Prop :=
(((((0 : Int) == (0 : Int)) = true) ->
 (True /\
  R (SV.agg [SV.ki .i64 ((0 : Int)), SV.ki .i64 ((0 : Int)), SV.dt (Dt.cell (.string (ByteArray.mk #[]))), SV.dt (Dt.cell (.slice Option.none (0 : Nat) (0 : Nat)))]) ([some (Ob.cells 113 [SV.dt (Dt.cell (.string s)), SV.dt (Dt.cell (.int .i64 x)), SV.dt (Dt.cell (.int .i64 c)), SV.dt (Dt.cell (.int .i64 y))])]))) /\
((((0 : Int) == (0 : Int)) = false) ->
 (True /\
  R (SV.agg [SV.ki .i64 ((0 : Int)), SV.ki .i64 ((0 : Int)), SV.dt (Dt.cell (.string (ByteArray.mk #[]))), SV.dt (Dt.cell (.slice Option.none (0 : Nat) (0 : Nat)))]) ([some (Ob.cells 113 [SV.dt (Dt.cell (.string s)), SV.dt (Dt.cell (.int .i64 a)), SV.dt (Dt.cell (.int .i64 c)), SV.dt (Dt.cell (.int .i64 (0 : Int)))])]))))
def LG (s : ByteArray) (c e a : Int) (Rn : List SV -> List (Option Ob) -> Prop) (Re : Ex -> List SV -> List (Option Ob) -> Prop) : Prop :=
(((decide (a < (↑s.size : Int)) = true) ->
 ((((0 : Int) <= a) /\
   (a < (↑s.size : Int))) /\
  ((((ak s a != (10 : Int)) = true) ->
    (((Rx.lo .i64 <= a + (1 : Int)) /\
      (a + (1 : Int) <= Rx.hi .i64)) /\
     Rn ([SV.ptr 0 0]) ([some (Ob.cells 113 [SV.dt (Dt.cell (.string s)), SV.dt (Dt.cell (.int .i64 (a + (1 : Int)))), SV.dt (Dt.cell (.int .i64 c)), SV.dt (Dt.cell (.int .i64 e))])]))) /\
   (((ak s a != (10 : Int)) = false) ->
    Re (Rx.Ex.exit (3 : Nat)) ([SV.ptr 0 0]) ([some (Ob.cells 113 [SV.dt (Dt.cell (.string s)), SV.dt (Dt.cell (.int .i64 a)), SV.dt (Dt.cell (.int .i64 c)), SV.dt (Dt.cell (.int .i64 e))])]))))) /\
((decide (a < (↑s.size : Int)) = false) ->
 Re (Rx.Ex.exit (3 : Nat)) ([SV.ptr 0 0]) ([some (Ob.cells 113 [SV.dt (Dt.cell (.string s)), SV.dt (Dt.cell (.int .i64 a)), SV.dt (Dt.cell (.int .i64 c)), SV.dt (Dt.cell (.int .i64 e))])])))
def Mw (s : ByteArray) (c e a : Int) (Rn : List SV -> List (Option Ob) -> Prop) (Re : Ex -> List SV -> List (Option Ob) -> Prop) : Prop :=
(((decide (a < (↑s.size : Int)) = true) ->
 ((((0 : Int) <= a) /\
   (a < (↑s.size : Int))) /\
  ((((ak s a == (32 : Int)) = true) ->
    (((Rx.lo .i64 <= a + (1 : Int)) /\
      (a + (1 : Int) <= Rx.hi .i64)) /\
     Rn ([SV.ptr 0 0]) ([some (Ob.cells 113 [SV.dt (Dt.cell (.string s)), SV.dt (Dt.cell (.int .i64 (a + (1 : Int)))), SV.dt (Dt.cell (.int .i64 c)), SV.dt (Dt.cell (.int .i64 e))])]))) /\
   (((ak s a == (32 : Int)) = false) ->
    ((((ak s a == (10 : Int)) = true) ->
      (((Rx.lo .i64 <= a + (1 : Int)) /\
        (a + (1 : Int) <= Rx.hi .i64)) /\
       Rn ([SV.ptr 0 0]) ([some (Ob.cells 113 [SV.dt (Dt.cell (.string s)), SV.dt (Dt.cell (.int .i64 (a + (1 : Int)))), SV.dt (Dt.cell (.int .i64 c)), SV.dt (Dt.cell (.int .i64 e))])]))) /\
     (((ak s a == (10 : Int)) = false) ->
      ((((ak s a == (9 : Int)) = true) ->
        (((Rx.lo .i64 <= a + (1 : Int)) /\
          (a + (1 : Int) <= Rx.hi .i64)) /\
         Rn ([SV.ptr 0 0]) ([some (Ob.cells 113 [SV.dt (Dt.cell (.string s)), SV.dt (Dt.cell (.int .i64 (a + (1 : Int)))), SV.dt (Dt.cell (.int .i64 c)), SV.dt (Dt.cell (.int .i64 e))])]))) /\
       (((ak s a == (9 : Int)) = false) ->
        ((((ak s a == (59 : Int)) = true) ->
          (((Rx.leS (SV.ptr 0 0) (SV.ptr 0 0)) /\
            True) /\
           ((Rx.leOO ([some (Ob.cells 113 [SV.dt (Dt.cell (.string s)), SV.dt (Dt.cell (.int .i64 a)), SV.dt (Dt.cell (.int .i64 c)), SV.dt (Dt.cell (.int .i64 e))])]) ([some (Ob.cells 113 [SV.dt (Dt.cell (.string s)), SV.dt (Dt.cell (.int .i64 a)), SV.dt (Dt.cell (.int .i64 c)), SV.dt (Dt.cell (.int .i64 e))])])) /\
            ((Rd.okS s a) /\
             Rn ([SV.ptr 0 0]) ([some (Ob.cells 113 [SV.dt (Dt.cell (.string s)), SV.dt (Dt.cell (.int .i64 (Rd.cmt s a))), SV.dt (Dt.cell (.int .i64 c)), SV.dt (Dt.cell (.int .i64 e))])]))))) /\
         (((ak s a == (59 : Int)) = false) ->
          Re (Rx.Ex.ret) ([]) ([some (Ob.cells 113 [SV.dt (Dt.cell (.string s)), SV.dt (Dt.cell (.int .i64 a)), SV.dt (Dt.cell (.int .i64 c)), SV.dt (Dt.cell (.int .i64 e))])]))))))))))) /\
((decide (a < (↑s.size : Int)) = false) ->
 Re (Rx.Ex.exit (0 : Nat)) ([]) ([some (Ob.cells 113 [SV.dt (Dt.cell (.string s)), SV.dt (Dt.cell (.int .i64 a)), SV.dt (Dt.cell (.int .i64 c)), SV.dt (Dt.cell (.int .i64 e))])])))
def LH (s : ByteArray) (a c e : Int) (R : SV -> List (Option Ob) -> Prop) : Prop :=
(((Rx.leS (SV.ptr 0 0) (SV.ptr 0 0)) /\
 True) /\
((Rx.leOO ([some (Ob.cells 113 [SV.dt (Dt.cell (.string s)), SV.dt (Dt.cell (.int .i64 a)), SV.dt (Dt.cell (.int .i64 c)), SV.dt (Dt.cell (.int .i64 e))])]) ([some (Ob.cells 113 [SV.dt (Dt.cell (.string s)), SV.dt (Dt.cell (.int .i64 a)), SV.dt (Dt.cell (.int .i64 c)), SV.dt (Dt.cell (.int .i64 e))])])) /\
 ((Rd.okS s a) /\
  (((decide (Rd.blk s a < (↑s.size : Int)) = true) ->
    (True /\
     R (SV.tup []) ([some (Ob.cells 113 [SV.dt (Dt.cell (.string s)), SV.dt (Dt.cell (.int .i64 (Rd.blk s a))), SV.dt (Dt.cell (.int .i64 c)), SV.dt (Dt.cell (.int .i64 e))])]))) /\
   ((decide (Rd.blk s a < (↑s.size : Int)) = false) ->
    (True /\
     R (SV.tup []) ([some (Ob.cells 113 [SV.dt (Dt.cell (.string s)), SV.dt (Dt.cell (.int .i64 (Rd.blk s a))), SV.dt (Dt.cell (.int .i64 c)), SV.dt (Dt.cell (.int .i64 e))])])))))))
def K6 (s : ByteArray) (i : Int) (Rn : List SV -> List (Option Ob) -> Prop) (Re : Ex -> List SV -> List (Option Ob) -> Prop) : Prop :=
(((decide (i < (↑s.size : Int)) = true) ->
 ((((0 : Int) <= i) /\
   (i < (↑s.size : Int))) /\
  (((decide (ak s i < (97 : Int)) = true) ->
    (((decide (ak s i < (48 : Int)) = true) ->
      ((Rx.leL ([SV.dt (Dt.cell (.string (ByteArray.mk #[(43 : UInt8), (45 : UInt8), (42 : UInt8), (47 : UInt8), (60 : UInt8), (62 : UInt8), (61 : UInt8), (63 : UInt8), (33 : UInt8), (95 : UInt8)]))), SV.dt (Dt.cell (.int Go.IntKind.u8 (ak s i)))]) ([SV.dt (Dt.cell (.string (ByteArray.mk #[(43 : UInt8), (45 : UInt8), (42 : UInt8), (47 : UInt8), (60 : UInt8), (62 : UInt8), (61 : UInt8), (63 : UInt8), (33 : UInt8), (95 : UInt8)]))), SV.dt (Dt.cell (.int Go.IntKind.u8 (ak s i)))])) /\
       ((Rx.aX ([]) ([])) /\
        (((decide (Rd.ixB (ByteArray.mk #[(43 : UInt8), (45 : UInt8), (42 : UInt8), (47 : UInt8), (60 : UInt8), (62 : UInt8), (61 : UInt8), (63 : UInt8), (33 : UInt8), (95 : UInt8)]) (ak s i) < (0 : Int)) = true) ->
          Re (Rx.Ex.ret) ([SV.dt (Dt.cell (.bool false))]) ([])) /\
         ((decide (Rd.ixB (ByteArray.mk #[(43 : UInt8), (45 : UInt8), (42 : UInt8), (47 : UInt8), (60 : UInt8), (62 : UInt8), (61 : UInt8), (63 : UInt8), (33 : UInt8), (95 : UInt8)]) (ak s i) < (0 : Int)) = false) ->
          (((Rx.lo .i64 <= i + (1 : Int)) /\
            (i + (1 : Int) <= Rx.hi .i64)) /\
           Rn ([SV.dt (Dt.cell (.string s)), SV.dt (Dt.cell (.int .i64 (i + (1 : Int)))), SV.dt (Dt.cell (.int .i64 (↑s.size : Int)))]) ([]))))))) /\
     ((decide (ak s i < (48 : Int)) = false) ->
      (((decide (ak s i > (57 : Int)) = true) ->
        ((Rx.leL ([SV.dt (Dt.cell (.string (ByteArray.mk #[(43 : UInt8), (45 : UInt8), (42 : UInt8), (47 : UInt8), (60 : UInt8), (62 : UInt8), (61 : UInt8), (63 : UInt8), (33 : UInt8), (95 : UInt8)]))), SV.dt (Dt.cell (.int Go.IntKind.u8 (ak s i)))]) ([SV.dt (Dt.cell (.string (ByteArray.mk #[(43 : UInt8), (45 : UInt8), (42 : UInt8), (47 : UInt8), (60 : UInt8), (62 : UInt8), (61 : UInt8), (63 : UInt8), (33 : UInt8), (95 : UInt8)]))), SV.dt (Dt.cell (.int Go.IntKind.u8 (ak s i)))])) /\
         ((Rx.aX ([]) ([])) /\
          (((decide (Rd.ixB (ByteArray.mk #[(43 : UInt8), (45 : UInt8), (42 : UInt8), (47 : UInt8), (60 : UInt8), (62 : UInt8), (61 : UInt8), (63 : UInt8), (33 : UInt8), (95 : UInt8)]) (ak s i) < (0 : Int)) = true) ->
            Re (Rx.Ex.ret) ([SV.dt (Dt.cell (.bool false))]) ([])) /\
           ((decide (Rd.ixB (ByteArray.mk #[(43 : UInt8), (45 : UInt8), (42 : UInt8), (47 : UInt8), (60 : UInt8), (62 : UInt8), (61 : UInt8), (63 : UInt8), (33 : UInt8), (95 : UInt8)]) (ak s i) < (0 : Int)) = false) ->
            (((Rx.lo .i64 <= i + (1 : Int)) /\
              (i + (1 : Int) <= Rx.hi .i64)) /\
             Rn ([SV.dt (Dt.cell (.string s)), SV.dt (Dt.cell (.int .i64 (i + (1 : Int)))), SV.dt (Dt.cell (.int .i64 (↑s.size : Int)))]) ([]))))))) /\
       ((decide (ak s i > (57 : Int)) = false) ->
        (((Rx.lo .i64 <= i + (1 : Int)) /\
          (i + (1 : Int) <= Rx.hi .i64)) /\
         Rn ([SV.dt (Dt.cell (.string s)), SV.dt (Dt.cell (.int .i64 (i + (1 : Int)))), SV.dt (Dt.cell (.int .i64 (↑s.size : Int)))]) ([]))))))) /\
   ((decide (ak s i < (97 : Int)) = false) ->
    (((decide (ak s i > (122 : Int)) = true) ->
      (((decide (ak s i < (48 : Int)) = true) ->
        ((Rx.leL ([SV.dt (Dt.cell (.string (ByteArray.mk #[(43 : UInt8), (45 : UInt8), (42 : UInt8), (47 : UInt8), (60 : UInt8), (62 : UInt8), (61 : UInt8), (63 : UInt8), (33 : UInt8), (95 : UInt8)]))), SV.dt (Dt.cell (.int Go.IntKind.u8 (ak s i)))]) ([SV.dt (Dt.cell (.string (ByteArray.mk #[(43 : UInt8), (45 : UInt8), (42 : UInt8), (47 : UInt8), (60 : UInt8), (62 : UInt8), (61 : UInt8), (63 : UInt8), (33 : UInt8), (95 : UInt8)]))), SV.dt (Dt.cell (.int Go.IntKind.u8 (ak s i)))])) /\
         ((Rx.aX ([]) ([])) /\
          (((decide (Rd.ixB (ByteArray.mk #[(43 : UInt8), (45 : UInt8), (42 : UInt8), (47 : UInt8), (60 : UInt8), (62 : UInt8), (61 : UInt8), (63 : UInt8), (33 : UInt8), (95 : UInt8)]) (ak s i) < (0 : Int)) = true) ->
            Re (Rx.Ex.ret) ([SV.dt (Dt.cell (.bool false))]) ([])) /\
           ((decide (Rd.ixB (ByteArray.mk #[(43 : UInt8), (45 : UInt8), (42 : UInt8), (47 : UInt8), (60 : UInt8), (62 : UInt8), (61 : UInt8), (63 : UInt8), (33 : UInt8), (95 : UInt8)]) (ak s i) < (0 : Int)) = false) ->
            (((Rx.lo .i64 <= i + (1 : Int)) /\
              (i + (1 : Int) <= Rx.hi .i64)) /\
             Rn ([SV.dt (Dt.cell (.string s)), SV.dt (Dt.cell (.int .i64 (i + (1 : Int)))), SV.dt (Dt.cell (.int .i64 (↑s.size : Int)))]) ([]))))))) /\
       ((decide (ak s i < (48 : Int)) = false) ->
        (((decide (ak s i > (57 : Int)) = true) ->
          ((Rx.leL ([SV.dt (Dt.cell (.string (ByteArray.mk #[(43 : UInt8), (45 : UInt8), (42 : UInt8), (47 : UInt8), (60 : UInt8), (62 : UInt8), (61 : UInt8), (63 : UInt8), (33 : UInt8), (95 : UInt8)]))), SV.dt (Dt.cell (.int Go.IntKind.u8 (ak s i)))]) ([SV.dt (Dt.cell (.string (ByteArray.mk #[(43 : UInt8), (45 : UInt8), (42 : UInt8), (47 : UInt8), (60 : UInt8), (62 : UInt8), (61 : UInt8), (63 : UInt8), (33 : UInt8), (95 : UInt8)]))), SV.dt (Dt.cell (.int Go.IntKind.u8 (ak s i)))])) /\
           ((Rx.aX ([]) ([])) /\
            (((decide (Rd.ixB (ByteArray.mk #[(43 : UInt8), (45 : UInt8), (42 : UInt8), (47 : UInt8), (60 : UInt8), (62 : UInt8), (61 : UInt8), (63 : UInt8), (33 : UInt8), (95 : UInt8)]) (ak s i) < (0 : Int)) = true) ->
              Re (Rx.Ex.ret) ([SV.dt (Dt.cell (.bool false))]) ([])) /\
             ((decide (Rd.ixB (ByteArray.mk #[(43 : UInt8), (45 : UInt8), (42 : UInt8), (47 : UInt8), (60 : UInt8), (62 : UInt8), (61 : UInt8), (63 : UInt8), (33 : UInt8), (95 : UInt8)]) (ak s i) < (0 : Int)) = false) ->
              (((Rx.lo .i64 <= i + (1 : Int)) /\
                (i + (1 : Int) <= Rx.hi .i64)) /\
               Rn ([SV.dt (Dt.cell (.string s)), SV.dt (Dt.cell (.int .i64 (i + (1 : Int)))), SV.dt (Dt.cell (.int .i64 (↑s.size : Int)))]) ([]))))))) /\
         ((decide (ak s i > (57 : Int)) = false) ->
          (((Rx.lo .i64 <= i + (1 : Int)) /\
            (i + (1 : Int) <= Rx.hi .i64)) /\
           Rn ([SV.dt (Dt.cell (.string s)), SV.dt (Dt.cell (.int .i64 (i + (1 : Int)))), SV.dt (Dt.cell (.int .i64 (↑s.size : Int)))]) ([]))))))) /\
     ((decide (ak s i > (122 : Int)) = false) ->
      (((Rx.lo .i64 <= i + (1 : Int)) /\
        (i + (1 : Int) <= Rx.hi .i64)) /\
       Rn ([SV.dt (Dt.cell (.string s)), SV.dt (Dt.cell (.int .i64 (i + (1 : Int)))), SV.dt (Dt.cell (.int .i64 (↑s.size : Int)))]) ([])))))))) /\
((decide (i < (↑s.size : Int)) = false) ->
 Re (Rx.Ex.exit (0 : Nat)) ([SV.dt (Dt.cell (.string s))]) ([])))
def Mx (s : ByteArray) (R : SV -> List (Option Ob) -> Prop) : Prop :=
((((s.data.toList == []) = true) ->
 (True /\
  R (SV.dt (Dt.cell (.bool false))) ([]))) /\
(((s.data.toList == []) = false) ->
 (((decide ((↑s.size : Int) > (16 : Int)) = true) ->
   (True /\
    R (SV.dt (Dt.cell (.bool false))) ([]))) /\
  ((decide ((↑s.size : Int) > (16 : Int)) = false) ->
   ((((0 : Int) <= (0 : Int)) /\
     ((0 : Int) < (↑s.size : Int))) /\
    (((decide (ak s (0 : Int) ≥ (48 : Int)) = true) ->
      ((((0 : Int) <= (0 : Int)) /\
        ((0 : Int) < (↑s.size : Int))) /\
       (((decide (ak s (0 : Int) <= (57 : Int)) = true) ->
         (True /\
          R (SV.dt (Dt.cell (.bool false))) ([]))) /\
        ((decide (ak s (0 : Int) <= (57 : Int)) = false) ->
         (((Rx.leS (SV.dt (Dt.cell (.string s))) (SV.dt (Dt.cell (.string s)))) /\
           ((Rx.leS (SV.dt (Dt.cell (.int .i64 (0 : Int)))) (SV.dt (Dt.cell (.int .i64 (0 : Int))))) /\
            ((Rx.leS (SV.dt (Dt.cell (.int .i64 (↑s.size : Int)))) (SV.dt (Dt.cell (.int .i64 (↑s.size : Int))))) /\
             True))) /\
          ((Rx.leOO ([]) ([])) /\
           ((((0 : Int) <= (0 : Int)) /\
             (s.size <= (16 : Nat))) /\
            (((Rd.rT s (0 : Int) = true) ->
              (((((↑s.size : Int) == (1 : Int)) = true) ->
                (True /\
                 R (SV.dt (Dt.cell (.bool true))) ([]))) /\
               ((((↑s.size : Int) == (1 : Int)) = false) ->
                ((((0 : Int) <= (0 : Int)) /\
                  ((0 : Int) < (↑s.size : Int))) /\
                 ((((ak s (0 : Int) != (45 : Int)) = true) ->
                   (True /\
                    R (SV.dt (Dt.cell (.bool true))) ([]))) /\
                  (((ak s (0 : Int) != (45 : Int)) = false) ->
                   ((((0 : Int) <= (1 : Int)) /\
                     ((1 : Int) < (↑s.size : Int))) /\
                    (((decide (ak s (1 : Int) < (48 : Int)) = true) ->
                      (True /\
                       R (SV.dt (Dt.cell (.bool true))) ([]))) /\
                     ((decide (ak s (1 : Int) < (48 : Int)) = false) ->
                      ((((0 : Int) <= (1 : Int)) /\
                        ((1 : Int) < (↑s.size : Int))) /\
                       (True /\
                        R (SV.dt (Dt.cell (.bool (decide (ak s (1 : Int) > (57 : Int)))))) ([])))))))))))) /\
             ((Rd.rT s (0 : Int) = false) ->
              (True /\
               R (SV.dt (Dt.cell (.bool false))) ([]))))))))))) /\
     ((decide (ak s (0 : Int) ≥ (48 : Int)) = false) ->
      (((Rx.leS (SV.dt (Dt.cell (.string s))) (SV.dt (Dt.cell (.string s)))) /\
        ((Rx.leS (SV.dt (Dt.cell (.int .i64 (0 : Int)))) (SV.dt (Dt.cell (.int .i64 (0 : Int))))) /\
         ((Rx.leS (SV.dt (Dt.cell (.int .i64 (↑s.size : Int)))) (SV.dt (Dt.cell (.int .i64 (↑s.size : Int))))) /\
          True))) /\
       ((Rx.leOO ([]) ([])) /\
        ((((0 : Int) <= (0 : Int)) /\
          (s.size <= (16 : Nat))) /\
         (((Rd.rT s (0 : Int) = true) ->
           (((((↑s.size : Int) == (1 : Int)) = true) ->
             (True /\
              R (SV.dt (Dt.cell (.bool true))) ([]))) /\
            ((((↑s.size : Int) == (1 : Int)) = false) ->
             ((((0 : Int) <= (0 : Int)) /\
               ((0 : Int) < (↑s.size : Int))) /\
              ((((ak s (0 : Int) != (45 : Int)) = true) ->
                (True /\
                 R (SV.dt (Dt.cell (.bool true))) ([]))) /\
               (((ak s (0 : Int) != (45 : Int)) = false) ->
                ((((0 : Int) <= (1 : Int)) /\
                  ((1 : Int) < (↑s.size : Int))) /\
                 (((decide (ak s (1 : Int) < (48 : Int)) = true) ->
                   (True /\
                    R (SV.dt (Dt.cell (.bool true))) ([]))) /\
                  ((decide (ak s (1 : Int) < (48 : Int)) = false) ->
                   ((((0 : Int) <= (1 : Int)) /\
                     ((1 : Int) < (↑s.size : Int))) /\
                    (True /\
                     R (SV.dt (Dt.cell (.bool (decide (ak s (1 : Int) > (57 : Int)))))) ([])))))))))))) /\
          ((Rd.rT s (0 : Int) = false) ->
           (True /\
            R (SV.dt (Dt.cell (.bool false))) ([]))))))))))))))
def UD (n : Nat) (f : Nat -> Nat -> Dt) (R : SV -> List (Option Ob) -> Prop) : Prop :=
((((0 : Int) <= (↑n : Int)) /\
 (((↑n : Int) <= (↑n : Int)) /\
  ((↑n : Int) <= (↑n : Int)))) /\
(True /\
 R (SV.dt (Dt.arr ((4 : Nat)) ((↑n : Int).toNat) (f))) ([])))
theorem XU : leS (.agg [.ki .i64 0, .ki .i64 0, .dt (.cell (.string ⟨#[]⟩)), .dt (.cell (.slice none 0 0))]) (dmS d0) := by
 simp only [dmS, dmA, FQ, tF, yD, and_true]
 refine ⟨(mU _ _ _).2 rfl, (mU _ _ _).2 rfl, (RH _ _).2 rfl, ?_⟩
 rw [F8]
 simp only [bS]
 exact ⟨rfl, rfl⟩
theorem fV {E : Env} {l : List Code} (h : l = []) : E.Lok l := by
 subst h
 intro c hc; cases hc
theorem z8 (n m : Int) : Ctr prog uj [vI .i64 n, vI .i64 m] [] (Ls n m) := by
 refine jv mixed (N := 13) (fn := Jl) (c := bI Jl) (ks := []) (ls := []) (by kernel_rfl) (by kernel_rfl) (by kernel_rfl) all_nil AB (lG (fun f h => by cases h)) (by kernel_rfl) (Q := K4 n m) (fun post hp => ?_) (fun R => by kernel_rfl)
 obtain ⟨⟨⟨h1, h2⟩, hm⟩, hp⟩ := hp
 unfold K4
 simp only [lo, hi, decide_eq_true_eq, decide_eq_false_iff_not]
 refine ⟨fun h => ⟨⟨by omega, by omega⟩, ⟨by omega, by omega⟩, hm, trivial, ?_⟩, fun h => ⟨hm, trivial, ?_⟩⟩
 · exact ⟨_, hp, by rw [je, dK, if_pos h], aG _⟩
 · exact ⟨_, hp, by rw [je, dK, if_neg h], aG _⟩
theorem Pw (s : ByteArray) (a c x y : Int) : Ctr prog OT [.ptr 0 0, vI .i64 x, vI .i64 y] [pOb s a c 0] (Ut s c x y) := by
 refine jv mixed (N := 21) (fn := PY) (c := bI PY) (ks := []) (ls := []) (by kernel_rfl) (by kernel_rfl) (by kernel_rfl) all_nil AB (lG (fun f h => by cases h)) (by kernel_rfl) (Q := Uw s a c x y) (fun post hp => ?_) (fun R => by kernel_rfl)
 have hp : post (dmS d0, [some (pOb s x c y)]) := hp
 unfold Uw
 refine ⟨fun _ => ⟨trivial, lS hp XU (aG _)⟩, fun h => by cases h⟩
theorem Eu (s : ByteArray) (c e a : Int) : Sound blE (.loop A9) (jO (Gd.live.h.zip sD) [some (pOb s a c e)]) ((Py s c e a).map (OutC.st Gd.live)) := by
 refine rz mixed (ks := []) (ls := [Gd, EA]) (c := A9) (nb := 1) (N := 72) all_nil (fV (by kernel_rfl)) Gd.live (fun _ : Int => sD) (fun a => [some (pOb s a c e)]) (fun a => Py s c e a) (fun a => ((s.size : Int) - a).toNat)
  (Q := fun a => LG s c e a) (fun a post hp => ?_) (fun a Rn Re => by kernel_rfl) a
 obtain ⟨⟨h1, h2, h3⟩, hp⟩ := hp
 have hp : post (.exit 3, [.ptr 0 0], [some (pOb s (cmt s a) c e)]) := hp
 unfold LG
 simp only [lo, hi, decide_eq_true_eq, decide_eq_false_iff_not, bne_iff_ne, bne_eq_false_iff_eq]
 have done : cmt s a = a -> mF post (.exit 3) [.ptr 0 0] [some (pOb s a c e)] := fun h => by
  rw [h] at hp; exact mF.mk hp (aC _) (aG _)
 refine ⟨fun h => ⟨⟨h2, h⟩, fun hb => ⟨⟨by omega, by omega⟩, a + 1, by omega, aC _, aG _, ⟨h1, by omega, by omega⟩, ?_⟩, fun hb => done ?_⟩, fun h => done ?_⟩
 · have : cmt s a = cmt s (a + 1) := by rw [cmt, if_pos ⟨h, hb⟩]
   rw [this] at hp; exact hp
 · rw [cmt, if_neg]; rintro ⟨_, h⟩; exact h hb
 · rw [cmt, if_neg]; rintro ⟨h', _⟩; exact h h'
theorem Ti : Ky blE Gd A9 := by
 intro svs obl args obs out h
 unfold Gd at h
 simp only at h
 repeat' split at h
 all_goals first
  | (simp only [Option.some.injEq, Prod.mk.injEq] at h; obtain ⟨rfl, rfl, rfl⟩ := h; apply Eu)
  | cases h
theorem Gq (s : ByteArray) (c e a : Int) : Sound blE (.loop wm) (jO (EA.live.h.zip sD) [some (pOb s a c e)]) ((MF s c e a).map (OutC.st EA.live)) := by
 refine rz mixed (ks := []) (ls := [Gd, EA]) (c := wm) (nb := 1) (N := 72) all_nil (lG fun f h c hc hr => ?_) EA.live (fun _ : Int => sD) (fun a => [some (pOb s a c e)]) (fun a => MF s c e a) (fun a => ((s.size : Int) - a).toNat)
  (Q := fun a => Mw s c e a) (fun a post hp => ?_) (fun a Rn Re => by kernel_rfl) a
 · have hl : bH wm = [A9] := by kernel_rfl
   rw [hl, List.mem_singleton] at hc
   subst hc
   rcases List.mem_cons.1 h with rfl | h
   · exact Ti
   · rw [List.mem_singleton] at h
     subst h
     have : dw A9 = 5 := by kernel_rfl
     rw [this] at hr
     cases hr
 obtain ⟨⟨h1, h2, h3⟩, hp⟩ := hp
 unfold Mw
 have nx : ∀ b, a < b -> b <= s.size -> blk s b = blk s a -> ∃ x', ((s.size : Int) - x').toNat < ((s.size : Int) - a).toNat /\ leL [SV.ptr 0 0] sD /\ leOO [some (pOb s b c e)] [some (pOb s x' c e)] /\ (MF s c e x').holds post := fun b hb hb' he => by
  refine ⟨b, by omega, aC _, aG _, ⟨h1, by omega, hb'⟩, ?_⟩
  rw [he]; exact hp
 have lr : blk s a = a -> a < s.size -> mF post .ret [] [some (pOb s a c e)] := fun h h' => mF.mk (hp.1 (by rw [h]; simpa using h')) (aC _) (by rw [h]; exact aG _)
 have le : blk s a = a -> ¬ a < s.size -> mF post (.exit 0) [] [some (pOb s a c e)] := fun h h' => mF.mk (hp.2 (by rw [h]; simpa using h')) (aC _) (by rw [h]; exact aG _)
 simp only [lo, hi, decide_eq_true_eq, decide_eq_false_iff_not, bne_iff_ne, bne_eq_false_iff_eq, beq_iff_eq, beq_eq_false_iff_ne]
 have e1 : ∀ b : Int, a < s.size -> (ak s a = 32 ∨ ak s a = 10 ∨ ak s a = 9) -> blk s (a + 1) = blk s a := fun b h hb => by
  rw [blk.eq_1 s a, if_pos h, if_pos hb]
 refine ⟨fun h => ⟨⟨h2, h⟩, fun g1 => ⟨⟨by omega, by omega⟩, nx _ (by omega) (by omega) (e1 a h (.inl g1))⟩, fun g1 => ⟨fun g2 => ⟨⟨by omega, by omega⟩, nx _ (by omega) (by omega) (e1 a h (.inr (.inl g2)))⟩, fun g2 =>
  ⟨fun g3 => ⟨⟨by omega, by omega⟩, nx _ (by omega) (by omega) (e1 a h (.inr (.inr g3)))⟩, fun g3 => ⟨fun g4 => ⟨⟨(zP _).2 trivial, trivial⟩, aG _, ⟨h1, h2, h3⟩, ?_⟩, fun g4 => lr ?_ h⟩⟩⟩⟩, fun h => le ?_ h⟩
 · have c1 : cmt s a = cmt s (a + 1) := by rw [cmt.eq_1 s a, if_pos ⟨h, by omega⟩]
   have := JX s (a + 1)
   refine nx _ (by omega) (Q9 _ _ h3) ?_
   rw [c1]
   conv => rhs; rw [blk, if_pos h, if_neg (by omega), if_pos g4]
 · rw [blk, if_pos h, if_neg (by omega), if_neg g4]
 · rw [blk, if_neg h]
theorem Sc : Ky blE EA wm := by
 intro svs obl args obs out h
 unfold EA at h
 simp only at h
 repeat' split at h
 all_goals first
  | (simp only [Option.some.injEq, Prod.mk.injEq] at h; obtain ⟨rfl, rfl, rfl⟩ := h; apply Gq)
  | cases h
theorem SL : blE.Lok (bH (bI l5)) := by
 have hl : bH (bI l5) = [wm] := by kernel_rfl
 rw [hl]
 refine lG fun f h c hc hr => ?_
 rw [List.mem_singleton] at hc
 subst hc
 have h1 : dw wm = 1 := by kernel_rfl
 rw [h1] at hr
 rcases List.mem_cons.1 h with rfl | h
 · cases hr
 · rw [List.mem_singleton] at h
   subst h
   exact Sc
theorem Ki (s : ByteArray) (a c e : Int) : Ctr prog Ht [.ptr 0 0] [pOb s a c e] (Mv s a c e) := by
 refine jv mixed (N := 72) (fn := l5) (c := bI l5) (ks := []) (ls := [Gd, EA]) (by kernel_rfl) (by kernel_rfl) (by kernel_rfl) all_nil AB SL (by kernel_rfl) (Q := LH s a c e) (fun post hp => ?_) (fun R => by kernel_rfl)
 obtain ⟨h, hp⟩ := hp
 have hp : post (.tup [], [some (pOb s (blk s a) c e)]) := hp
 unfold LH
 exact ⟨⟨(zP _).2 trivial, trivial⟩, aG _, h, fun _ => ⟨trivial, lS hp (aF _) (aG _)⟩, fun _ => ⟨trivial, lS hp (aF _) (aG _)⟩⟩
theorem Qg (n : Nat) (f : Nat -> Nat -> Dt) : Ctr prog Pj [.dt (.arr 4 n f)] [] (UA n f) := by
 refine jv mixed (N := 9) (fn := PS) (c := bI PS) (ks := []) (ls := []) (by kernel_rfl) (by kernel_rfl) (by kernel_rfl) all_nil AB (fV (by kernel_rfl)) (by kernel_rfl) (Q := UD n f) (fun post hp => ?_) (fun R => by kernel_rfl)
 have hp : post (.dt (.arr 4 n f), []) := hp
 unfold UD
 exact ⟨⟨by omega, by omega, by omega⟩, trivial, wz hp (aF _)⟩
theorem JE : ixF.Ok prog := by
 intro al ol args obs out h
 unfold ixF at h
 simp only at h
 split at h
 · simp only [Option.some.injEq, Prod.mk.injEq] at h
   obtain ⟨rfl, rfl, rfl⟩ := h
   exact BU _ _
 · cases h
theorem Mt {s : ByteArray} {i : Int} (h : i < s.size) : rT s i = (okc (ak s i) && rT s (i + 1)) := by rw [rT, if_pos h]
theorem Tn {s : ByteArray} {i : Int} (h : ¬ i < s.size) : rT s i = true := by rw [rT, if_neg h]
theorem Gr (s : ByteArray) (i : Int) : Sound syE (.loop EJ) (jO (H8.live.h.zip (Bc s i)) []) ((MH s i).map (OutC.st H8.live)) := by
 refine rz mixed (ks := UR) (ls := [H8]) (c := EJ) (nb := 0) (N := 68) (all_cons JE all_nil) (fV (by kernel_rfl)) H8.live (fun i : Int => Bc s i) (fun _ => []) (fun i => MH s i) (fun i => ((s.size : Int) - i).toNat)
  (Q := fun i => K6 s i) (fun i post hp => ?_) (fun a Rn Re => by kernel_rfl) i
 obtain ⟨⟨h1, h2⟩, hp⟩ := hp
 have nx : i < s.size -> okc (ak s i) = true -> ∃ x', ((s.size : Int) - x').toNat < ((s.size : Int) - i).toNat /\ leL (Bc s (i + 1)) (Bc s x') /\ leOO [] [] /\ (MH s x').holds post := fun h ho => by
  refine ⟨i + 1, by omega, aC _, aG _, ⟨by omega, h2⟩, ?_⟩
  rw [Mt h, ho, Bool.true_and] at hp; exact hp
 have lf : i < s.size -> okc (ak s i) = false -> mF post .ret [vB false] [] := fun h ho => mF.mk (hp.2 (by rw [Mt h, ho]; rfl)) (aC _) (aG _)
 unfold K6
 simp only [lo, hi, decide_eq_true_eq, decide_eq_false_iff_not]
 have hsg : ixB ⟨#[43, 45, 42, 47, 60, 62, 61, 63, 33, 95]⟩ (ak s i) = ixB signs (ak s i) := rfl
 have T : ∀ {p : Prop}, (97 <= ak s i /\ ak s i <= 122 ∨ 48 <= ak s i /\ ak s i <= 57 ∨ 0 <= ixB signs (ak s i)) -> (okc (ak s i) = true -> p) -> p := fun h k => k (by simpa [okc] using h)
 have F : ∀ {p : Prop}, ¬ (97 <= ak s i /\ ak s i <= 122 ∨ 48 <= ak s i /\ ak s i <= 57 ∨ 0 <= ixB signs (ak s i)) -> (okc (ak s i) = false -> p) -> p := fun h k => k (by simpa [okc] using h)
 simp only [hsg]
 refine ⟨fun h => ⟨⟨h1, h⟩, ?_⟩, fun h => mF.mk (hp.1 (Tn h)) (aC _) (aG _)⟩
 repeat' (first | (refine And.intro ?_ ?_) | intro _)
 all_goals first
  | exact aF _
  | trivial
  | omega
  | exact T (by omega) (nx h)
  | exact F (by omega) (lf h)
theorem SN : Ky syE H8 EJ := by
 intro svs obl args obs out h
 unfold H8 at h
 simp only at h
 repeat' split at h
 all_goals first
  | (simp only [Option.some.injEq, Prod.mk.injEq] at h; obtain ⟨rfl, rfl, rfl⟩ := h; apply Gr)
  | cases h
theorem TM : syE.Lok (bH (bI qE)) := by
 have hl : bH (bI qE) = [EJ] := by kernel_rfl
 rw [hl]
 refine lG fun f h c hc hr => ?_
 rw [List.mem_singleton] at hc h
 subst hc; subst h
 exact SN
theorem Ba (s : ByteArray) : Ctr prog um [vS s] [] (Xn s) := by
 refine jv mixed (N := 68) (fn := qE) (c := bI qE) (ks := UR) (ls := [H8]) (by kernel_rfl) (by kernel_rfl) (by kernel_rfl) (all_cons JE all_nil) AB TM (by kernel_rfl) (Q := Mx s) (fun post hp => ?_) (fun R => by kernel_rfl)
 have hp : post (vB (og s), []) := hp
 have leafT : og s = true -> Gives post (.dt (.cell (.bool true))) [] := fun h => wz hp (by rw [je, h])
 have leafF : og s = false -> Gives post (.dt (.cell (.bool false))) [] := fun h => wz hp (by rw [je, h])
 have leafD : ∀ q : Bool, og s = q -> Gives post (.dt (.cell (.bool q))) [] := fun q h => wz hp (by rw [je, h])
 unfold Mx
 simp only [IL, decide_eq_true_eq, decide_eq_false_iff_not, beq_iff_eq, beq_eq_false_iff_ne, bne_iff_ne, bne_eq_false_iff_eq, true_and]
 unfold og at leafT leafF leafD
 repeat' (first | (refine And.intro ?_ ?_) | intro _)
 all_goals first
  | exact (zP _).2 trivial
  | exact aG _
  | trivial
  | omega
  | exact leafT (by simp only [Bool.and_eq_true, decide_eq_true_eq]; exact ⟨by omega, by assumption⟩)
  | exact leafF (by simp only [Bool.and_eq_false_iff, decide_eq_false_iff_not]; first | (left; omega) | (right; assumption))
  | (refine leafD _ ?_; rw [Bool.eq_iff_iff]; simp only [Bool.and_eq_true, decide_eq_true_eq]; rw [and_iff_left (by assumption)]; constructor <;> omega)
theorem Vv : LW.Ok prog := by
 intro al ol args obs out h
 unfold LW at h
 simp only at h
 repeat' split at h
 all_goals first
  | (simp only [Option.some.injEq, Prod.mk.injEq] at h; obtain ⟨rfl, rfl, rfl⟩ := h; apply z8)
  | cases h
theorem Vj : clF.Ok prog := by
 intro al ol args obs out h
 unfold clF at h
 simp only at h
 repeat' split at h
 all_goals first
  | (simp only [Option.some.injEq, Prod.mk.injEq] at h; obtain ⟨rfl, rfl, rfl⟩ := h; apply Qg)
  | cases h
end Rd
