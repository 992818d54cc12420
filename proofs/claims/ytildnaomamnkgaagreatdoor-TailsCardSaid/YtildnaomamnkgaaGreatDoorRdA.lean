/- The reader's small functions. -/
import Derived.Test.YtildnaomamnkgaaGreatDoorRdL
set_option linter.unusedSimpArgs false
set_option linter.unusedVariables false
open Rx Go
namespace Rd
noncomputable def bL (f : Func) : Code := f.body.getD .skip
theorem mixed : prog.follows .mixedOrders = true := by kernel_rfl
def isInt (n : Int) : Prop := -9223372036854775808 <= n /\ n <= 9223372036854775807
def rdI : SV -> Option Int
 | .dt (.cell (.int .i64 n)) => some n
 | .ki .i64 n => some n
 | _ => none
def rdS : SV -> Option ByteArray
 | .dt (.cell (.string s)) => some s
 | _ => none
def dJ (n m : Int) : Int := (if n < 0 then 0 - (n + 1) else n).tmod m
def LM (n m : Int) : T Out := .need (isInt n /\ m ≠ 0) (.ret (vI .i64 (dJ n m), []))
def Lp : FC := ⟨tX, false, false, fun al ol => match al, ol with
 | [n, m], [] => match rdI n, rdI m with
   | some n, some m => some ([vI .i64 n, vI .i64 m], [], LM n m)
   | _, _ => none
 | _, _ => none⟩
inductive Dm where
 | mk (k n : Int) (s : ByteArray) (l : List Dm)
def Dm.k : Dm -> Int | mk k _ _ _ => k
def Dm.n : Dm -> Int | mk _ n _ _ => n
def Dm.s : Dm -> ByteArray | mk _ _ s _ => s
def Dm.l : Dm -> List Dm | mk _ _ _ l => l
def noS : ByteArray := ⟨#[]⟩
def d0 : Dm := .mk 0 0 noS []
instance : Inhabited Dm := ⟨d0⟩
mutual
def dmT : Dm -> Nat -> Dt
 | .mk k n s l, j => match j with
   | 0 => .cell (.int .i64 k)
   | 1 => .cell (.int .i64 n)
   | 2 => .cell (.string s)
   | _ => .arr 4 l.length (dmL l)
def dmL : List Dm -> Nat -> Nat -> Dt
 | [], _, _ => aT
 | d :: l, i, j => match i with
   | 0 => dmT d j
   | i + 1 => dmL l i j
end
def dmA (l : List Dm) : SV := .dt (.arr 4 l.length (dmL l))
def dmS (d : Dm) : SV := .agg [vI .i64 d.k, vI .i64 d.n, vS d.s, dmA d.l]
def dmE (l : List Dm) (i : Nat) : SV := .agg [.dt (dmL l i 0), .dt (dmL l i 1), .dt (dmL l i 2), .dt (dmL l i 3)]
def pOb (s : ByteArray) (a c e : Int) : Ob := .cells Uj [vS s, vI .i64 a, vI .i64 c, vI .i64 e]
def okS (s : ByteArray) (a : Int) : Prop := s.size <= 3000 /\ 0 <= a /\ a <= s.size
def cmt (s : ByteArray) (a : Int) : Int := if a < s.size /\ ak s a ≠ 10 then cmt s (a + 1) else a
termination_by ((s.size : Int) - a).toNat
decreasing_by omega
theorem Lb (s : ByteArray) (a : Int) : a <= cmt s a := by
 fun_induction cmt s a <;> omega
theorem Rw (s : ByteArray) (a : Int) (h : a <= s.size) : cmt s a <= s.size := by
 fun_induction cmt s a <;> omega
def blk (s : ByteArray) (a : Int) : Int :=
 if a < s.size then if ak s a = 32 ∨ ak s a = 10 ∨ ak s a = 9 then blk s (a + 1) else if ak s a = 59 then blk s (cmt s (a + 1)) else a else a
termination_by ((s.size : Int) - a).toNat
decreasing_by
 · omega
 · have := Lb s (a + 1); omega
theorem wB (s : ByteArray) (a : Int) : a <= blk s a := by
 fun_induction blk s a
 · omega
 · rename_i x _ _ _ _; have := Lb s (x + 1); omega
 · omega
 · omega
theorem vR (s : ByteArray) (a : Int) (h : a <= s.size) : blk s a <= s.size := by
 fun_induction blk s a
 · omega
 · rename_i ih; exact ih (Rw _ _ (by omega))
 · omega
 · omega
def sJ : List SV := [.ptr 0 0]
def Qy (s : ByteArray) (c e : Int) (a : Int) : T OutC := .need (okS s a) (.ret (.exit 3, [.ptr 0 0], [some (pOb s (cmt s a) c e)]))
def Ng (s : ByteArray) (c e : Int) (a : Int) : T OutC := .need (okS s a) (.ite (decide (blk s a < s.size)) (.ret (.ret, [], [some (pOb s (blk s a) c e)])) (.ret (.exit 0, [], [some (pOb s (blk s a) c e)])))
def EN : LF := ⟨5, ⟨[0], [0], []⟩, fun svs obl => match svs, obl with
 | [.ptr 0 0], [some (.cells _ [s, a, c, e])] => match rdS s, rdI a, rdI c, rdI e with
   | some s, some a, some c, some e => some (sJ, [some (pOb s a c e)], Qy s c e a)
   | _, _, _, _ => none
 | _, _ => none⟩
def FY : LF := ⟨1, ⟨[0], [], []⟩, fun svs obl => match svs, obl with
 | [.ptr 0 0], [some (.cells _ [s, a, c, e])] => match rdS s, rdI a, rdI c, rdI e with
   | some s, some a, some c, some e => some (sJ, [some (pOb s a c e)], Ng s c e a)
   | _, _, _, _ => none
 | _, _ => none⟩
noncomputable def blE : Env := fnE prog 72 1 [] [EN, FY]
noncomputable def zo : Code := (jo 5 (bL mQ)).getD .skip
noncomputable def vw : Code := (jo 1 (bL mQ)).getD .skip
def Nb (s : ByteArray) (a c e : Int) : T Out := .need (okS s a) (.ret (.tup [], [some (pOb s (blk s a) c e)]))
def Ve (s : ByteArray) (c : Int) (x y : Int) : T Out := .ret (dmS d0, [some (pOb s x c y)])
def signs : ByteArray := ⟨#[43, 45, 42, 47, 60, 62, 61, 63, 33, 95]⟩
def okc (c : Int) : Bool := decide (97 <= c /\ c <= 122 ∨ 48 <= c /\ c <= 57 ∨ 0 <= ixB signs c)
def su (s : ByteArray) (i : Int) : Bool := if i < s.size then okc (ak s i) && su s (i + 1) else true
termination_by ((s.size : Int) - i).toNat
decreasing_by omega
def oD (s : ByteArray) : Bool :=
 decide (1 <= s.size /\ s.size <= 16 /\ ¬ (48 <= ak s 0 /\ ak s 0 <= 57) /\ (s.size = 1 ∨ ak s 0 ≠ 45 ∨ ak s 1 < 48 ∨ 57 < ak s 1)) && su s 0
def zH (s : ByteArray) (i : Int) : List SV := [vS s, vI .i64 i, vI .i64 s.size]
def Ms (s : ByteArray) (i : Int) : T OutC := .need (0 <= i /\ s.size <= 16) (.ite (su s i) (.ret (.exit 0, [vS s], [])) (.ret (.ret, [vB false], [])))
def ixF : FC := ⟨w9, false, false, fun al ol => match al, ol with
 | [.dt (.cell (.string s)), .dt (.cell (.int .u8 c))], [] => some ([vS s, vI .u8 c], [], .ret (vI .i64 (ixB s c), []))
 | _, _ => none⟩
def JF : LF := ⟨4, ⟨[0, 24, 23], [0], [2]⟩, fun svs _ => match svs with
 | s :: i :: _ => match rdS s, rdI i with
   | some s, some i => some (zH s i, [], Ms s i)
   | _, _ => none
 | _ => none⟩
def Wd : List (Nat × Nat × FC) := [(7, 16, ixF)]
noncomputable def syE : Env := fnE prog 68 0 Wd [JF]
noncomputable def GK : Code := (jo 4 (bL pJ)).getD .skip
def Y2 (s : ByteArray) : T Out := .ret (vB (oD s), [])
def UJ (n : Nat) (f : Nat -> Nat -> Dt) : T Out := .ret (.dt (.arr 4 n f), [])
def clF : FC := ⟨Pw, false, false, fun al ol => match al, ol with
 | [.dt (.arr 4 n f)], [] => some ([.dt (.arr 4 n f)], [], UJ n f)
 | _, _ => none⟩
def Lu (n m : Int) (R : SV -> List (Option Ob) -> Prop) : Prop :=
(((decide (n < (0 : Int)) = true) ->
 (((Rx.lo .i64 <= n + (1 : Int)) /\
   (n + (1 : Int) <= Rx.hi .i64)) /\
  (((Rx.lo .i64 <= (0 : Int) - (n + (1 : Int))) /\
    ((0 : Int) - (n + (1 : Int)) <= Rx.hi .i64)) /\
   ((m ≠ (0 : Int)) /\
    (True /\
     R (SV.dt (Dt.cell (.int .i64 (((0 : Int) - (n + (1 : Int))).tmod m)))) ([])))))) /\
((decide (n < (0 : Int)) = false) ->
 ((m ≠ (0 : Int)) /\
  (True /\
   R (SV.dt (Dt.cell (.int .i64 (n.tmod m)))) ([])))))
def Uw (s : ByteArray) (a c x y : Int) (R : SV -> List (Option Ob) -> Prop) : Prop :=
(((((0 : Int) == (0 : Int)) = true) ->
 (True /\
  R (SV.agg [SV.ki .i64 ((0 : Int)), SV.ki .i64 ((0 : Int)), SV.dt (Dt.cell (.string (ByteArray.mk #[]))), SV.dt (Dt.cell (.slice Option.none (0 : Nat) (0 : Nat)))]) ([some (Ob.cells 113 [SV.dt (Dt.cell (.string s)), SV.dt (Dt.cell (.int .i64 x)), SV.dt (Dt.cell (.int .i64 c)), SV.dt (Dt.cell (.int .i64 y))])]))) /\
((((0 : Int) == (0 : Int)) = false) ->
 (True /\
  R (SV.agg [SV.ki .i64 ((0 : Int)), SV.ki .i64 ((0 : Int)), SV.dt (Dt.cell (.string (ByteArray.mk #[]))), SV.dt (Dt.cell (.slice Option.none (0 : Nat) (0 : Nat)))]) ([some (Ob.cells 113 [SV.dt (Dt.cell (.string s)), SV.dt (Dt.cell (.int .i64 a)), SV.dt (Dt.cell (.int .i64 c)), SV.dt (Dt.cell (.int .i64 (0 : Int)))])]))))
def LK (s : ByteArray) (c e a : Int) (Rn : List SV -> List (Option Ob) -> Prop) (Re : Ex -> List SV -> List (Option Ob) -> Prop) : Prop :=
(((decide (a < (↑s.size : Int)) = true) ->
 ((((0 : Int) <= a) /\
   (a < (↑s.size : Int))) /\
  ((((ak s a != (10 : Int)) = true) ->
    (((Rx.lo .i64 <= a + (1 : Int)) /\
      (a + (1 : Int) <= Rx.hi .i64)) /\
     Rn ([SV.ptr 0 0]) ([some (Ob.cells 113 [SV.dt (Dt.cell (.string s)), SV.dt (Dt.cell (.int .i64 (a + (1 : Int)))), SV.dt (Dt.cell (.int .i64 c)), SV.dt (Dt.cell (.int .i64 e))])]))) /\
   (((ak s a != (10 : Int)) = false) ->
    Re (Rx.Ex.exit (3 : Nat)) ([SV.ptr 0 0]) ([some (Ob.cells 113 [SV.dt (Dt.cell (.string s)), SV.dt (Dt.cell (.int .i64 a)), SV.dt (Dt.cell (.int .i64 c)), SV.dt (Dt.cell (.int .i64 e))])]))))) /\
((decide (a < (↑s.size : Int)) = false) ->
 Re (Rx.Ex.exit (3 : Nat)) ([SV.ptr 0 0]) ([some (Ob.cells 113 [SV.dt (Dt.cell (.string s)), SV.dt (Dt.cell (.int .i64 a)), SV.dt (Dt.cell (.int .i64 c)), SV.dt (Dt.cell (.int .i64 e))])])))
def Lj (s : ByteArray) (c e a : Int) (Rn : List SV -> List (Option Ob) -> Prop) (Re : Ex -> List SV -> List (Option Ob) -> Prop) : Prop :=
(((decide (a < (↑s.size : Int)) = true) ->
 ((((0 : Int) <= a) /\
   (a < (↑s.size : Int))) /\
  ((((ak s a == (32 : Int)) = true) ->
    (((Rx.lo .i64 <= a + (1 : Int)) /\
      (a + (1 : Int) <= Rx.hi .i64)) /\
     Rn ([SV.ptr 0 0]) ([some (Ob.cells 113 [SV.dt (Dt.cell (.string s)), SV.dt (Dt.cell (.int .i64 (a + (1 : Int)))), SV.dt (Dt.cell (.int .i64 c)), SV.dt (Dt.cell (.int .i64 e))])]))) /\
   (((ak s a == (32 : Int)) = false) ->
    ((((ak s a == (10 : Int)) = true) ->
      (((Rx.lo .i64 <= a + (1 : Int)) /\
        (a + (1 : Int) <= Rx.hi .i64)) /\
       Rn ([SV.ptr 0 0]) ([some (Ob.cells 113 [SV.dt (Dt.cell (.string s)), SV.dt (Dt.cell (.int .i64 (a + (1 : Int)))), SV.dt (Dt.cell (.int .i64 c)), SV.dt (Dt.cell (.int .i64 e))])]))) /\
     (((ak s a == (10 : Int)) = false) ->
      ((((ak s a == (9 : Int)) = true) ->
        (((Rx.lo .i64 <= a + (1 : Int)) /\
          (a + (1 : Int) <= Rx.hi .i64)) /\
         Rn ([SV.ptr 0 0]) ([some (Ob.cells 113 [SV.dt (Dt.cell (.string s)), SV.dt (Dt.cell (.int .i64 (a + (1 : Int)))), SV.dt (Dt.cell (.int .i64 c)), SV.dt (Dt.cell (.int .i64 e))])]))) /\
       (((ak s a == (9 : Int)) = false) ->
        ((((ak s a == (59 : Int)) = true) ->
          (((Rx.leS (SV.ptr 0 0) (SV.ptr 0 0)) /\
            True) /\
           ((Rx.leOO ([some (Ob.cells 113 [SV.dt (Dt.cell (.string s)), SV.dt (Dt.cell (.int .i64 a)), SV.dt (Dt.cell (.int .i64 c)), SV.dt (Dt.cell (.int .i64 e))])]) ([some (Ob.cells 113 [SV.dt (Dt.cell (.string s)), SV.dt (Dt.cell (.int .i64 a)), SV.dt (Dt.cell (.int .i64 c)), SV.dt (Dt.cell (.int .i64 e))])])) /\
            ((Rd.okS s a) /\
             Rn ([SV.ptr 0 0]) ([some (Ob.cells 113 [SV.dt (Dt.cell (.string s)), SV.dt (Dt.cell (.int .i64 (Rd.cmt s a))), SV.dt (Dt.cell (.int .i64 c)), SV.dt (Dt.cell (.int .i64 e))])]))))) /\
         (((ak s a == (59 : Int)) = false) ->
          Re (Rx.Ex.ret) ([]) ([some (Ob.cells 113 [SV.dt (Dt.cell (.string s)), SV.dt (Dt.cell (.int .i64 a)), SV.dt (Dt.cell (.int .i64 c)), SV.dt (Dt.cell (.int .i64 e))])]))))))))))) /\
((decide (a < (↑s.size : Int)) = false) ->
 Re (Rx.Ex.exit (0 : Nat)) ([]) ([some (Ob.cells 113 [SV.dt (Dt.cell (.string s)), SV.dt (Dt.cell (.int .i64 a)), SV.dt (Dt.cell (.int .i64 c)), SV.dt (Dt.cell (.int .i64 e))])])))
def Mr (s : ByteArray) (a c e : Int) (R : SV -> List (Option Ob) -> Prop) : Prop :=
(((Rx.leS (SV.ptr 0 0) (SV.ptr 0 0)) /\
 True) /\
((Rx.leOO ([some (Ob.cells 113 [SV.dt (Dt.cell (.string s)), SV.dt (Dt.cell (.int .i64 a)), SV.dt (Dt.cell (.int .i64 c)), SV.dt (Dt.cell (.int .i64 e))])]) ([some (Ob.cells 113 [SV.dt (Dt.cell (.string s)), SV.dt (Dt.cell (.int .i64 a)), SV.dt (Dt.cell (.int .i64 c)), SV.dt (Dt.cell (.int .i64 e))])])) /\
 ((Rd.okS s a) /\
  (((decide (Rd.blk s a < (↑s.size : Int)) = true) ->
    (True /\
     R (SV.tup []) ([some (Ob.cells 113 [SV.dt (Dt.cell (.string s)), SV.dt (Dt.cell (.int .i64 (Rd.blk s a))), SV.dt (Dt.cell (.int .i64 c)), SV.dt (Dt.cell (.int .i64 e))])]))) /\
   ((decide (Rd.blk s a < (↑s.size : Int)) = false) ->
    (True /\
     R (SV.tup []) ([some (Ob.cells 113 [SV.dt (Dt.cell (.string s)), SV.dt (Dt.cell (.int .i64 (Rd.blk s a))), SV.dt (Dt.cell (.int .i64 c)), SV.dt (Dt.cell (.int .i64 e))])])))))))
def Mj (s : ByteArray) (i : Int) (Rn : List SV -> List (Option Ob) -> Prop) (Re : Ex -> List SV -> List (Option Ob) -> Prop) : Prop :=
(((decide (i < (↑s.size : Int)) = true) ->
 ((((0 : Int) <= i) /\
   (i < (↑s.size : Int))) /\
  (((decide (ak s i < (97 : Int)) = true) ->
    (((decide (ak s i < (48 : Int)) = true) ->
      ((Rx.leL ([SV.dt (Dt.cell (.string (ByteArray.mk #[(43 : UInt8), (45 : UInt8), (42 : UInt8), (47 : UInt8), (60 : UInt8), (62 : UInt8), (61 : UInt8), (63 : UInt8), (33 : UInt8), (95 : UInt8)]))), SV.dt (Dt.cell (.int Go.IntKind.u8 (ak s i)))]) ([SV.dt (Dt.cell (.string (ByteArray.mk #[(43 : UInt8), (45 : UInt8), (42 : UInt8), (47 : UInt8), (60 : UInt8), (62 : UInt8), (61 : UInt8), (63 : UInt8), (33 : UInt8), (95 : UInt8)]))), SV.dt (Dt.cell (.int Go.IntKind.u8 (ak s i)))])) /\
       ((Rx.aZ ([]) ([])) /\
        (((decide (Rd.ixB (ByteArray.mk #[(43 : UInt8), (45 : UInt8), (42 : UInt8), (47 : UInt8), (60 : UInt8), (62 : UInt8), (61 : UInt8), (63 : UInt8), (33 : UInt8), (95 : UInt8)]) (ak s i) < (0 : Int)) = true) ->
          Re (Rx.Ex.ret) ([SV.dt (Dt.cell (.bool false))]) ([])) /\
         ((decide (Rd.ixB (ByteArray.mk #[(43 : UInt8), (45 : UInt8), (42 : UInt8), (47 : UInt8), (60 : UInt8), (62 : UInt8), (61 : UInt8), (63 : UInt8), (33 : UInt8), (95 : UInt8)]) (ak s i) < (0 : Int)) = false) ->
          (((Rx.lo .i64 <= i + (1 : Int)) /\
            (i + (1 : Int) <= Rx.hi .i64)) /\
           Rn ([SV.dt (Dt.cell (.string s)), SV.dt (Dt.cell (.int .i64 (i + (1 : Int)))), SV.dt (Dt.cell (.int .i64 (↑s.size : Int)))]) ([]))))))) /\
     ((decide (ak s i < (48 : Int)) = false) ->
      (((decide (ak s i > (57 : Int)) = true) ->
        ((Rx.leL ([SV.dt (Dt.cell (.string (ByteArray.mk #[(43 : UInt8), (45 : UInt8), (42 : UInt8), (47 : UInt8), (60 : UInt8), (62 : UInt8), (61 : UInt8), (63 : UInt8), (33 : UInt8), (95 : UInt8)]))), SV.dt (Dt.cell (.int Go.IntKind.u8 (ak s i)))]) ([SV.dt (Dt.cell (.string (ByteArray.mk #[(43 : UInt8), (45 : UInt8), (42 : UInt8), (47 : UInt8), (60 : UInt8), (62 : UInt8), (61 : UInt8), (63 : UInt8), (33 : UInt8), (95 : UInt8)]))), SV.dt (Dt.cell (.int Go.IntKind.u8 (ak s i)))])) /\
         ((Rx.aZ ([]) ([])) /\
          (((decide (Rd.ixB (ByteArray.mk #[(43 : UInt8), (45 : UInt8), (42 : UInt8), (47 : UInt8), (60 : UInt8), (62 : UInt8), (61 : UInt8), (63 : UInt8), (33 : UInt8), (95 : UInt8)]) (ak s i) < (0 : Int)) = true) ->
            Re (Rx.Ex.ret) ([SV.dt (Dt.cell (.bool false))]) ([])) /\
           ((decide (Rd.ixB (ByteArray.mk #[(43 : UInt8), (45 : UInt8), (42 : UInt8), (47 : UInt8), (60 : UInt8), (62 : UInt8), (61 : UInt8), (63 : UInt8), (33 : UInt8), (95 : UInt8)]) (ak s i) < (0 : Int)) = false) ->
            (((Rx.lo .i64 <= i + (1 : Int)) /\
              (i + (1 : Int) <= Rx.hi .i64)) /\
             Rn ([SV.dt (Dt.cell (.string s)), SV.dt (Dt.cell (.int .i64 (i + (1 : Int)))), SV.dt (Dt.cell (.int .i64 (↑s.size : Int)))]) ([]))))))) /\
       ((decide (ak s i > (57 : Int)) = false) ->
        (((Rx.lo .i64 <= i + (1 : Int)) /\
          (i + (1 : Int) <= Rx.hi .i64)) /\
         Rn ([SV.dt (Dt.cell (.string s)), SV.dt (Dt.cell (.int .i64 (i + (1 : Int)))), SV.dt (Dt.cell (.int .i64 (↑s.size : Int)))]) ([]))))))) /\
   ((decide (ak s i < (97 : Int)) = false) ->
    (((decide (ak s i > (122 : Int)) = true) ->
      (((decide (ak s i < (48 : Int)) = true) ->
        ((Rx.leL ([SV.dt (Dt.cell (.string (ByteArray.mk #[(43 : UInt8), (45 : UInt8), (42 : UInt8), (47 : UInt8), (60 : UInt8), (62 : UInt8), (61 : UInt8), (63 : UInt8), (33 : UInt8), (95 : UInt8)]))), SV.dt (Dt.cell (.int Go.IntKind.u8 (ak s i)))]) ([SV.dt (Dt.cell (.string (ByteArray.mk #[(43 : UInt8), (45 : UInt8), (42 : UInt8), (47 : UInt8), (60 : UInt8), (62 : UInt8), (61 : UInt8), (63 : UInt8), (33 : UInt8), (95 : UInt8)]))), SV.dt (Dt.cell (.int Go.IntKind.u8 (ak s i)))])) /\
         ((Rx.aZ ([]) ([])) /\
          (((decide (Rd.ixB (ByteArray.mk #[(43 : UInt8), (45 : UInt8), (42 : UInt8), (47 : UInt8), (60 : UInt8), (62 : UInt8), (61 : UInt8), (63 : UInt8), (33 : UInt8), (95 : UInt8)]) (ak s i) < (0 : Int)) = true) ->
            Re (Rx.Ex.ret) ([SV.dt (Dt.cell (.bool false))]) ([])) /\
           ((decide (Rd.ixB (ByteArray.mk #[(43 : UInt8), (45 : UInt8), (42 : UInt8), (47 : UInt8), (60 : UInt8), (62 : UInt8), (61 : UInt8), (63 : UInt8), (33 : UInt8), (95 : UInt8)]) (ak s i) < (0 : Int)) = false) ->
            (((Rx.lo .i64 <= i + (1 : Int)) /\
              (i + (1 : Int) <= Rx.hi .i64)) /\
             Rn ([SV.dt (Dt.cell (.string s)), SV.dt (Dt.cell (.int .i64 (i + (1 : Int)))), SV.dt (Dt.cell (.int .i64 (↑s.size : Int)))]) ([]))))))) /\
       ((decide (ak s i < (48 : Int)) = false) ->
        (((decide (ak s i > (57 : Int)) = true) ->
          ((Rx.leL ([SV.dt (Dt.cell (.string (ByteArray.mk #[(43 : UInt8), (45 : UInt8), (42 : UInt8), (47 : UInt8), (60 : UInt8), (62 : UInt8), (61 : UInt8), (63 : UInt8), (33 : UInt8), (95 : UInt8)]))), SV.dt (Dt.cell (.int Go.IntKind.u8 (ak s i)))]) ([SV.dt (Dt.cell (.string (ByteArray.mk #[(43 : UInt8), (45 : UInt8), (42 : UInt8), (47 : UInt8), (60 : UInt8), (62 : UInt8), (61 : UInt8), (63 : UInt8), (33 : UInt8), (95 : UInt8)]))), SV.dt (Dt.cell (.int Go.IntKind.u8 (ak s i)))])) /\
           ((Rx.aZ ([]) ([])) /\
            (((decide (Rd.ixB (ByteArray.mk #[(43 : UInt8), (45 : UInt8), (42 : UInt8), (47 : UInt8), (60 : UInt8), (62 : UInt8), (61 : UInt8), (63 : UInt8), (33 : UInt8), (95 : UInt8)]) (ak s i) < (0 : Int)) = true) ->
              Re (Rx.Ex.ret) ([SV.dt (Dt.cell (.bool false))]) ([])) /\
             ((decide (Rd.ixB (ByteArray.mk #[(43 : UInt8), (45 : UInt8), (42 : UInt8), (47 : UInt8), (60 : UInt8), (62 : UInt8), (61 : UInt8), (63 : UInt8), (33 : UInt8), (95 : UInt8)]) (ak s i) < (0 : Int)) = false) ->
              (((Rx.lo .i64 <= i + (1 : Int)) /\
                (i + (1 : Int) <= Rx.hi .i64)) /\
               Rn ([SV.dt (Dt.cell (.string s)), SV.dt (Dt.cell (.int .i64 (i + (1 : Int)))), SV.dt (Dt.cell (.int .i64 (↑s.size : Int)))]) ([]))))))) /\
         ((decide (ak s i > (57 : Int)) = false) ->
          (((Rx.lo .i64 <= i + (1 : Int)) /\
            (i + (1 : Int) <= Rx.hi .i64)) /\
           Rn ([SV.dt (Dt.cell (.string s)), SV.dt (Dt.cell (.int .i64 (i + (1 : Int)))), SV.dt (Dt.cell (.int .i64 (↑s.size : Int)))]) ([]))))))) /\
     ((decide (ak s i > (122 : Int)) = false) ->
      (((Rx.lo .i64 <= i + (1 : Int)) /\
        (i + (1 : Int) <= Rx.hi .i64)) /\
       Rn ([SV.dt (Dt.cell (.string s)), SV.dt (Dt.cell (.int .i64 (i + (1 : Int)))), SV.dt (Dt.cell (.int .i64 (↑s.size : Int)))]) ([])))))))) /\
((decide (i < (↑s.size : Int)) = false) ->
 Re (Rx.Ex.exit (0 : Nat)) ([SV.dt (Dt.cell (.string s))]) ([])))
def Mt (s : ByteArray) (R : SV -> List (Option Ob) -> Prop) : Prop :=
((((s.data.toList == []) = true) ->
 (True /\
  R (SV.dt (Dt.cell (.bool false))) ([]))) /\
(((s.data.toList == []) = false) ->
 (((decide ((↑s.size : Int) > (16 : Int)) = true) ->
   (True /\
    R (SV.dt (Dt.cell (.bool false))) ([]))) /\
  ((decide ((↑s.size : Int) > (16 : Int)) = false) ->
   ((((0 : Int) <= (0 : Int)) /\
     ((0 : Int) < (↑s.size : Int))) /\
    (((decide (ak s (0 : Int) ≥ (48 : Int)) = true) ->
      ((((0 : Int) <= (0 : Int)) /\
        ((0 : Int) < (↑s.size : Int))) /\
       (((decide (ak s (0 : Int) <= (57 : Int)) = true) ->
         (True /\
          R (SV.dt (Dt.cell (.bool false))) ([]))) /\
        ((decide (ak s (0 : Int) <= (57 : Int)) = false) ->
         (((Rx.leS (SV.dt (Dt.cell (.string s))) (SV.dt (Dt.cell (.string s)))) /\
           ((Rx.leS (SV.dt (Dt.cell (.int .i64 (0 : Int)))) (SV.dt (Dt.cell (.int .i64 (0 : Int))))) /\
            ((Rx.leS (SV.dt (Dt.cell (.int .i64 (↑s.size : Int)))) (SV.dt (Dt.cell (.int .i64 (↑s.size : Int))))) /\
             True))) /\
          ((Rx.leOO ([]) ([])) /\
           ((((0 : Int) <= (0 : Int)) /\
             (s.size <= (16 : Nat))) /\
            (((Rd.su s (0 : Int) = true) ->
              (((((↑s.size : Int) == (1 : Int)) = true) ->
                (True /\
                 R (SV.dt (Dt.cell (.bool true))) ([]))) /\
               ((((↑s.size : Int) == (1 : Int)) = false) ->
                ((((0 : Int) <= (0 : Int)) /\
                  ((0 : Int) < (↑s.size : Int))) /\
                 ((((ak s (0 : Int) != (45 : Int)) = true) ->
                   (True /\
                    R (SV.dt (Dt.cell (.bool true))) ([]))) /\
                  (((ak s (0 : Int) != (45 : Int)) = false) ->
                   ((((0 : Int) <= (1 : Int)) /\
                     ((1 : Int) < (↑s.size : Int))) /\
                    (((decide (ak s (1 : Int) < (48 : Int)) = true) ->
                      (True /\
                       R (SV.dt (Dt.cell (.bool true))) ([]))) /\
                     ((decide (ak s (1 : Int) < (48 : Int)) = false) ->
                      ((((0 : Int) <= (1 : Int)) /\
                        ((1 : Int) < (↑s.size : Int))) /\
                       (True /\
                        R (SV.dt (Dt.cell (.bool (decide (ak s (1 : Int) > (57 : Int)))))) ([])))))))))))) /\
             ((Rd.su s (0 : Int) = false) ->
              (True /\
               R (SV.dt (Dt.cell (.bool false))) ([]))))))))))) /\
     ((decide (ak s (0 : Int) ≥ (48 : Int)) = false) ->
      (((Rx.leS (SV.dt (Dt.cell (.string s))) (SV.dt (Dt.cell (.string s)))) /\
        ((Rx.leS (SV.dt (Dt.cell (.int .i64 (0 : Int)))) (SV.dt (Dt.cell (.int .i64 (0 : Int))))) /\
         ((Rx.leS (SV.dt (Dt.cell (.int .i64 (↑s.size : Int)))) (SV.dt (Dt.cell (.int .i64 (↑s.size : Int))))) /\
          True))) /\
       ((Rx.leOO ([]) ([])) /\
        ((((0 : Int) <= (0 : Int)) /\
          (s.size <= (16 : Nat))) /\
         (((Rd.su s (0 : Int) = true) ->
           (((((↑s.size : Int) == (1 : Int)) = true) ->
             (True /\
              R (SV.dt (Dt.cell (.bool true))) ([]))) /\
            ((((↑s.size : Int) == (1 : Int)) = false) ->
             ((((0 : Int) <= (0 : Int)) /\
               ((0 : Int) < (↑s.size : Int))) /\
              ((((ak s (0 : Int) != (45 : Int)) = true) ->
                (True /\
                 R (SV.dt (Dt.cell (.bool true))) ([]))) /\
               (((ak s (0 : Int) != (45 : Int)) = false) ->
                ((((0 : Int) <= (1 : Int)) /\
                  ((1 : Int) < (↑s.size : Int))) /\
                 (((decide (ak s (1 : Int) < (48 : Int)) = true) ->
                   (True /\
                    R (SV.dt (Dt.cell (.bool true))) ([]))) /\
                  ((decide (ak s (1 : Int) < (48 : Int)) = false) ->
                   ((((0 : Int) <= (1 : Int)) /\
                     ((1 : Int) < (↑s.size : Int))) /\
                    (True /\
                     R (SV.dt (Dt.cell (.bool (decide (ak s (1 : Int) > (57 : Int)))))) ([])))))))))))) /\
          ((Rd.su s (0 : Int) = false) ->
           (True /\
            R (SV.dt (Dt.cell (.bool false))) ([]))))))))))))))
def UZ (n : Nat) (f : Nat -> Nat -> Dt) (R : SV -> List (Option Ob) -> Prop) : Prop :=
((((0 : Int) <= (↑n : Int)) /\
 (((↑n : Int) <= (↑n : Int)) /\
  ((↑n : Int) <= (↑n : Int)))) /\
(True /\
 R (SV.dt (Dt.arr ((4 : Nat)) ((↑n : Int).toNat) (f))) ([])))
theorem adh : leS (.agg [.ki .i64 0, .ki .i64 0, .dt (.cell (.string ⟨#[]⟩)), .dt (.cell (.slice none 0 0))]) (dmS d0) := by
 simp only [dmS, dmA, FD, uO, yA, and_true]
 refine ⟨(nG _ _ _).2 rfl, (nG _ _ _).2 rfl, (Tj _ _).2 rfl, ?_⟩
 rw [Er]
 simp only [bV]
 exact ⟨rfl, rfl⟩
theorem gu {E : Env} {l : List Code} (h : l = []) : E.Lok l := by
 subst h
 intro c hc; cases hc
theorem zG (n m : Int) : Ctr prog tX [vI .i64 n, vI .i64 m] [] (LM n m) := by
 refine jq mixed (N := 13) (fn := JJ) (c := bL JJ) (ks := []) (ls := []) (by kernel_rfl) (by kernel_rfl) (by kernel_rfl) all_nil Bg (lC (fun f h => by cases h)) (by kernel_rfl) (Q := Lu n m) (fun post hp => ?_) (fun R => by kernel_rfl)
 obtain ⟨⟨⟨h1, h2⟩, hm⟩, hp⟩ := hp
 unfold Lu
 simp only [lo, hi, decide_eq_true_eq, decide_eq_false_iff_not]
 refine ⟨fun h => ⟨⟨by omega, by omega⟩, ⟨by omega, by omega⟩, hm, trivial, ?_⟩, fun h => ⟨hm, trivial, ?_⟩⟩
 · exact ⟨_, hp, by rw [jd, dJ, if_pos h], aJ _⟩
 · exact ⟨_, hp, by rw [jd, dJ, if_neg h], aJ _⟩
theorem QN (s : ByteArray) (a c x y : Int) : Ctr prog OZ [.ptr 0 0, vI .i64 x, vI .i64 y] [pOb s a c 0] (Ve s c x y) := by
 refine jq mixed (N := 21) (fn := Qv) (c := bL Qv) (ks := []) (ls := []) (by kernel_rfl) (by kernel_rfl) (by kernel_rfl) all_nil Bg (lC (fun f h => by cases h)) (by kernel_rfl) (Q := Uw s a c x y) (fun post hp => ?_) (fun R => by kernel_rfl)
 have hp : post (dmS d0, [some (pOb s x c y)]) := hp
 unfold Uw
 refine ⟨fun _ => ⟨trivial, lY hp adh (aJ _)⟩, fun h => by cases h⟩
theorem E8 (s : ByteArray) (c e a : Int) : Sound blE (.loop zo) (jJ (EN.live.h.zip sJ) [some (pOb s a c e)]) ((Qy s c e a).map (OutC.st EN.live)) := by
 refine rD mixed (ks := []) (ls := [EN, FY]) (c := zo) (nb := 1) (N := 72) all_nil (gu (by kernel_rfl)) EN.live (fun _ : Int => sJ) (fun a => [some (pOb s a c e)]) (fun a => Qy s c e a) (fun a => ((s.size : Int) - a).toNat)
  (Q := fun a => LK s c e a) (fun a post hp => ?_) (fun a Rn Re => by kernel_rfl) a
 obtain ⟨⟨h1, h2, h3⟩, hp⟩ := hp
 have hp : post (.exit 3, [.ptr 0 0], [some (pOb s (cmt s a) c e)]) := hp
 unfold LK
 simp only [lo, hi, decide_eq_true_eq, decide_eq_false_iff_not, bne_iff_ne, bne_eq_false_iff_eq]
 have done : cmt s a = a -> mq post (.exit 3) [.ptr 0 0] [some (pOb s a c e)] := fun h => by
  rw [h] at hp; exact mq.mk hp (aF _) (aJ _)
 refine ⟨fun h => ⟨⟨h2, h⟩, fun hb => ⟨⟨by omega, by omega⟩, a + 1, by omega, aF _, aJ _, ⟨h1, by omega, by omega⟩, ?_⟩, fun hb => done ?_⟩, fun h => done ?_⟩
 · have : cmt s a = cmt s (a + 1) := by rw [cmt, if_pos ⟨h, hb⟩]
   rw [this] at hp; exact hp
 · rw [cmt, if_neg]; rintro ⟨_, h⟩; exact h hb
 · rw [cmt, if_neg]; rintro ⟨h', _⟩; exact h h'
theorem Uq : KG blE EN zo := by
 intro svs obl args obs out h
 unfold EN at h
 simp only at h
 repeat' split at h
 all_goals first
  | (simp only [Option.some.injEq, Prod.mk.injEq] at h; obtain ⟨rfl, rfl, rfl⟩ := h; apply E8)
  | cases h
theorem FZ (s : ByteArray) (c e a : Int) : Sound blE (.loop vw) (jJ (FY.live.h.zip sJ) [some (pOb s a c e)]) ((Ng s c e a).map (OutC.st FY.live)) := by
 refine rD mixed (ks := []) (ls := [EN, FY]) (c := vw) (nb := 1) (N := 72) all_nil (lC fun f h c hc hr => ?_) FY.live (fun _ : Int => sJ) (fun a => [some (pOb s a c e)]) (fun a => Ng s c e a) (fun a => ((s.size : Int) - a).toNat)
  (Q := fun a => Lj s c e a) (fun a post hp => ?_) (fun a Rn Re => by kernel_rfl) a
 · have hl : bK vw = [zo] := by kernel_rfl
   rw [hl, List.mem_singleton] at hc
   subst hc
   rcases List.mem_cons.1 h with rfl | h
   · exact Uq
   · rw [List.mem_singleton] at h
     subst h
     have : dI zo = 5 := by kernel_rfl
     rw [this] at hr
     cases hr
 obtain ⟨⟨h1, h2, h3⟩, hp⟩ := hp
 unfold Lj
 have nx : ∀ b, a < b -> b <= s.size -> blk s b = blk s a -> ∃ x', ((s.size : Int) - x').toNat < ((s.size : Int) - a).toNat /\ leL [SV.ptr 0 0] sJ /\ leOO [some (pOb s b c e)] [some (pOb s x' c e)] /\ (Ng s c e x').holds post := fun b hb hb' he => by
  refine ⟨b, by omega, aF _, aJ _, ⟨h1, by omega, hb'⟩, ?_⟩
  rw [he]; exact hp
 have lr : blk s a = a -> a < s.size -> mq post .ret [] [some (pOb s a c e)] := fun h h' => mq.mk (hp.1 (by rw [h]; simpa using h')) (aF _) (by rw [h]; exact aJ _)
 have le : blk s a = a -> ¬ a < s.size -> mq post (.exit 0) [] [some (pOb s a c e)] := fun h h' => mq.mk (hp.2 (by rw [h]; simpa using h')) (aF _) (by rw [h]; exact aJ _)
 simp only [lo, hi, decide_eq_true_eq, decide_eq_false_iff_not, bne_iff_ne, bne_eq_false_iff_eq, beq_iff_eq, beq_eq_false_iff_ne]
 have e1 : ∀ b : Int, a < s.size -> (ak s a = 32 ∨ ak s a = 10 ∨ ak s a = 9) -> blk s (a + 1) = blk s a := fun b h hb => by
  rw [blk.eq_1 s a, if_pos h, if_pos hb]
 refine ⟨fun h => ⟨⟨h2, h⟩, fun g1 => ⟨⟨by omega, by omega⟩, nx _ (by omega) (by omega) (e1 a h (.inl g1))⟩, fun g1 => ⟨fun g2 => ⟨⟨by omega, by omega⟩, nx _ (by omega) (by omega) (e1 a h (.inr (.inl g2)))⟩, fun g2 =>
  ⟨fun g3 => ⟨⟨by omega, by omega⟩, nx _ (by omega) (by omega) (e1 a h (.inr (.inr g3)))⟩, fun g3 => ⟨fun g4 => ⟨⟨(zW _).2 trivial, trivial⟩, aJ _, ⟨h1, h2, h3⟩, ?_⟩, fun g4 => lr ?_ h⟩⟩⟩⟩, fun h => le ?_ h⟩
 · have c1 : cmt s a = cmt s (a + 1) := by rw [cmt.eq_1 s a, if_pos ⟨h, by omega⟩]
   have := Lb s (a + 1)
   refine nx _ (by omega) (Rw _ _ h3) ?_
   rw [c1]
   conv => rhs; rw [blk, if_pos h, if_neg (by omega), if_pos g4]
 · rw [blk, if_pos h, if_neg (by omega), if_neg g4]
 · rw [blk, if_neg h]
theorem Sw : KG blE FY vw := by
 intro svs obl args obs out h
 unfold FY at h
 simp only at h
 repeat' split at h
 all_goals first
  | (simp only [Option.some.injEq, Prod.mk.injEq] at h; obtain ⟨rfl, rfl, rfl⟩ := h; apply FZ)
  | cases h
theorem Ti : blE.Lok (bK (bL mQ)) := by
 have hl : bK (bL mQ) = [vw] := by kernel_rfl
 rw [hl]
 refine lC fun f h c hc hr => ?_
 rw [List.mem_singleton] at hc
 subst hc
 have h1 : dI vw = 1 := by kernel_rfl
 rw [h1] at hr
 rcases List.mem_cons.1 h with rfl | h
 · cases hr
 · rw [List.mem_singleton] at h
   subst h
   exact Sw
theorem KX (s : ByteArray) (a c e : Int) : Ctr prog Ia [.ptr 0 0] [pOb s a c e] (Nb s a c e) := by
 refine jq mixed (N := 72) (fn := mQ) (c := bL mQ) (ks := []) (ls := [EN, FY]) (by kernel_rfl) (by kernel_rfl) (by kernel_rfl) all_nil Bg Ti (by kernel_rfl) (Q := Mr s a c e) (fun post hp => ?_) (fun R => by kernel_rfl)
 obtain ⟨h, hp⟩ := hp
 have hp : post (.tup [], [some (pOb s (blk s a) c e)]) := hp
 unfold Mr
 exact ⟨⟨(zW _).2 trivial, trivial⟩, aJ _, h, fun _ => ⟨trivial, lY hp (aH _) (aJ _)⟩, fun _ => ⟨trivial, lY hp (aH _) (aJ _)⟩⟩
theorem Qn (n : Nat) (f : Nat -> Nat -> Dt) : Ctr prog Pw [.dt (.arr 4 n f)] [] (UJ n f) := by
 refine jq mixed (N := 9) (fn := RP) (c := bL RP) (ks := []) (ls := []) (by kernel_rfl) (by kernel_rfl) (by kernel_rfl) all_nil Bg (gu (by kernel_rfl)) (by kernel_rfl) (Q := UZ n f) (fun post hp => ?_) (fun R => by kernel_rfl)
 have hp : post (.dt (.arr 4 n f), []) := hp
 unfold UZ
 exact ⟨⟨by omega, by omega, by omega⟩, trivial, wM hp (aH _)⟩
theorem KR : ixF.Ok prog := by
 intro al ol args obs out h
 unfold ixF at h
 simp only at h
 split at h
 · simp only [Option.some.injEq, Prod.mk.injEq] at h
   obtain ⟨rfl, rfl, rfl⟩ := h
   exact Cj _ _
 · cases h
theorem MO {s : ByteArray} {i : Int} (h : i < s.size) : su s i = (okc (ak s i) && su s (i + 1)) := by rw [su, if_pos h]
theorem TR {s : ByteArray} {i : Int} (h : ¬ i < s.size) : su s i = true := by rw [su, if_neg h]
theorem Fx (s : ByteArray) (i : Int) : Sound syE (.loop GK) (jJ (JF.live.h.zip (zH s i)) []) ((Ms s i).map (OutC.st JF.live)) := by
 refine rD mixed (ks := Wd) (ls := [JF]) (c := GK) (nb := 0) (N := 68) (all_cons KR all_nil) (gu (by kernel_rfl)) JF.live (fun i : Int => zH s i) (fun _ => []) (fun i => Ms s i) (fun i => ((s.size : Int) - i).toNat)
  (Q := fun i => Mj s i) (fun i post hp => ?_) (fun a Rn Re => by kernel_rfl) i
 obtain ⟨⟨h1, h2⟩, hp⟩ := hp
 have nx : i < s.size -> okc (ak s i) = true -> ∃ x', ((s.size : Int) - x').toNat < ((s.size : Int) - i).toNat /\ leL (zH s (i + 1)) (zH s x') /\ leOO [] [] /\ (Ms s x').holds post := fun h ho => by
  refine ⟨i + 1, by omega, aF _, aJ _, ⟨by omega, h2⟩, ?_⟩
  rw [MO h, ho, Bool.true_and] at hp; exact hp
 have lf : i < s.size -> okc (ak s i) = false -> mq post .ret [vB false] [] := fun h ho => mq.mk (hp.2 (by rw [MO h, ho]; rfl)) (aF _) (aJ _)
 unfold Mj
 simp only [lo, hi, decide_eq_true_eq, decide_eq_false_iff_not]
 have hsg : ixB ⟨#[43, 45, 42, 47, 60, 62, 61, 63, 33, 95]⟩ (ak s i) = ixB signs (ak s i) := rfl
 have T : ∀ {p : Prop}, (97 <= ak s i /\ ak s i <= 122 ∨ 48 <= ak s i /\ ak s i <= 57 ∨ 0 <= ixB signs (ak s i)) -> (okc (ak s i) = true -> p) -> p := fun h k => k (by simpa [okc] using h)
 have F : ∀ {p : Prop}, ¬ (97 <= ak s i /\ ak s i <= 122 ∨ 48 <= ak s i /\ ak s i <= 57 ∨ 0 <= ixB signs (ak s i)) -> (okc (ak s i) = false -> p) -> p := fun h k => k (by simpa [okc] using h)
 simp only [hsg]
 refine ⟨fun h => ⟨⟨h1, h⟩, ?_⟩, fun h => mq.mk (hp.1 (TR h)) (aF _) (aJ _)⟩
 repeat' (first | (refine And.intro ?_ ?_) | intro _)
 all_goals first
  | exact aH _
  | trivial
  | omega
  | exact T (by omega) (nx h)
  | exact F (by omega) (lf h)
theorem Uf : KG syE JF GK := by
 intro svs obl args obs out h
 unfold JF at h
 simp only at h
 repeat' split at h
 all_goals first
  | (simp only [Option.some.injEq, Prod.mk.injEq] at h; obtain ⟨rfl, rfl, rfl⟩ := h; apply Fx)
  | cases h
theorem Tv : syE.Lok (bK (bL pJ)) := by
 have hl : bK (bL pJ) = [GK] := by kernel_rfl
 rw [hl]
 refine lC fun f h c hc hr => ?_
 rw [List.mem_singleton] at hc h
 subst hc; subst h
 exact Uf
theorem Bb (s : ByteArray) : Ctr prog uw [vS s] [] (Y2 s) := by
 refine jq mixed (N := 68) (fn := pJ) (c := bL pJ) (ks := Wd) (ls := [JF]) (by kernel_rfl) (by kernel_rfl) (by kernel_rfl) (all_cons KR all_nil) Bg Tv (by kernel_rfl) (Q := Mt s) (fun post hp => ?_) (fun R => by kernel_rfl)
 have hp : post (vB (oD s), []) := hp
 have leafT : oD s = true -> Gives post (.dt (.cell (.bool true))) [] := fun h => wM hp (by rw [jd, h])
 have leafF : oD s = false -> Gives post (.dt (.cell (.bool false))) [] := fun h => wM hp (by rw [jd, h])
 have leafD : ∀ q : Bool, oD s = q -> Gives post (.dt (.cell (.bool q))) [] := fun q h => wM hp (by rw [jd, h])
 unfold Mt
 simp only [Jy, decide_eq_true_eq, decide_eq_false_iff_not, beq_iff_eq, beq_eq_false_iff_ne, bne_iff_ne, bne_eq_false_iff_eq, true_and]
 unfold oD at leafT leafF leafD
 repeat' (first | (refine And.intro ?_ ?_) | intro _)
 all_goals first
  | exact (zW _).2 trivial
  | exact aJ _
  | trivial
  | omega
  | exact leafT (by simp only [Bool.and_eq_true, decide_eq_true_eq]; exact ⟨by omega, by assumption⟩)
  | exact leafF (by simp only [Bool.and_eq_false_iff, decide_eq_false_iff_not]; first | (left; omega) | (right; assumption))
  | (refine leafD _ ?_; rw [Bool.eq_iff_iff]; simp only [Bool.and_eq_true, decide_eq_true_eq]; rw [and_iff_left (by assumption)]; constructor <;> omega)
theorem V3 : Lp.Ok prog := by
 intro al ol args obs out h
 unfold Lp at h
 simp only at h
 repeat' split at h
 all_goals first
  | (simp only [Option.some.injEq, Prod.mk.injEq] at h; obtain ⟨rfl, rfl, rfl⟩ := h; apply zG)
  | cases h
theorem VF : clF.Ok prog := by
 intro al ol args obs out h
 unfold clF at h
 simp only at h
 repeat' split at h
 all_goals first
  | (simp only [Option.some.injEq, Prod.mk.injEq] at h; obtain ⟨rfl, rfl, rfl⟩ := h; apply Qn)
  | cases h
end Rd
