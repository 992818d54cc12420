/- The reader's small functions. -/
import Derived.Test.YtkbdcpkbmfegdaaGreatDoorRdL
set_option linter.unusedSimpArgs false
set_option linter.unusedVariables false
open Rx Go
namespace Rd
noncomputable def bP (f : Func) : Code := f.body.getD .skip
theorem mixed : prog.follows .mixedOrders = true := by kernel_rfl
def isInt (n : Int) : Prop := -9223372036854775808 <= n /\ n <= 9223372036854775807
def rdI : SV -> Option Int
 | .dt (.cell (.int .i64 n)) => some n
 | .ki .i64 n => some n
 | _ => none
def rdS : SV -> Option ByteArray
 | .dt (.cell (.string s)) => some s
 | _ => none
def aR (n m : Int) : Int := (if n < 0 then 0 - (n + 1) else n).tmod m
def WY (n m : Int) : T Out := .need (isInt n /\ m ≠ 0) (.ret (vI .i64 (aR n m), []))
inductive Dm where
 | mk (k n : Int) (s : ByteArray) (l : List Dm)
def Dm.k : Dm -> Int | mk k _ _ _ => k
def Dm.n : Dm -> Int | mk _ n _ _ => n
def Dm.s : Dm -> ByteArray | mk _ _ s _ => s
def Dm.l : Dm -> List Dm | mk _ _ _ l => l
def noS : ByteArray := ⟨#[]⟩
def d0 : Dm := .mk 0 0 noS []
instance : Inhabited Dm := ⟨d0⟩
mutual
def dmT : Dm -> Nat -> Dt
 | .mk k n s l, j => match j with
   | 0 => .cell (.int .i64 k)
   | 1 => .cell (.int .i64 n)
   | 2 => .cell (.string s)
   | _ => .arr 4 l.length (dmL l)
def dmL : List Dm -> Nat -> Nat -> Dt
 | [], _, _ => aW
 | d :: l, i, j => match i with
   | 0 => dmT d j
   | i + 1 => dmL l i j
end
def dmA (l : List Dm) : SV := .dt (.arr 4 l.length (dmL l))
def dmS (d : Dm) : SV := .agg [vI .i64 d.k, vI .i64 d.n, vS d.s, dmA d.l]
def pOb (s : ByteArray) (a c e : Int) : Ob := .cells Xz [vS s, vI .i64 a, vI .i64 c, vI .i64 e]
def okS (s : ByteArray) (a : Int) : Prop := s.size <= 3000 /\ 0 <= a /\ a <= s.size
def cmt (s : ByteArray) (a : Int) : Int := if a < s.size /\ au s a ≠ 10 then cmt s (a + 1) else a
termination_by ((s.size : Int) - a).toNat
decreasing_by omega
theorem LQ (s : ByteArray) (a : Int) : a <= cmt s a := by
 fun_induction cmt s a <;> omega
theorem Sw (s : ByteArray) (a : Int) (h : a <= s.size) : cmt s a <= s.size := by
 fun_induction cmt s a <;> omega
def blk (s : ByteArray) (a : Int) : Int :=
 if a < s.size then if au s a = 32 ∨ au s a = 10 ∨ au s a = 9 then blk s (a + 1) else if au s a = 59 then blk s (cmt s (a + 1)) else a else a
termination_by ((s.size : Int) - a).toNat
decreasing_by
 · omega
 · have := LQ s (a + 1); omega
theorem xG (s : ByteArray) (a : Int) : a <= blk s a := by
 fun_induction blk s a
 · omega
 · rename_i x _ _ _ _; have := LQ s (x + 1); omega
 · omega
 · omega
theorem xH (s : ByteArray) (a : Int) (h : a <= s.size) : blk s a <= s.size := by
 fun_induction blk s a
 · omega
 · rename_i ih; exact ih (Sw _ _ (by omega))
 · omega
 · omega
def uM : List SV := [.ptr 0 0]
def Sr (s : ByteArray) (c e : Int) (a : Int) : T OutC := .need (okS s a) (.ret (.exit 3, [.ptr 0 0], [some (pOb s (cmt s a) c e)]))
def NQ (s : ByteArray) (c e : Int) (a : Int) : T OutC := .need (okS s a) (.ite (decide (blk s a < s.size)) (.ret (.ret, [], [some (pOb s (blk s a) c e)])) (.ret (.exit 0, [], [some (pOb s (blk s a) c e)])))
def GJ : LF := ⟨5, ⟨[0], [0], []⟩, fun svs obl => match svs, obl with
 | [.ptr 0 0], [some (.cells _ [s, a, c, e])] => match rdS s, rdI a, rdI c, rdI e with
   | some s, some a, some c, some e => some (uM, [some (pOb s a c e)], Sr s c e a)
   | _, _, _, _ => none
 | _, _ => none⟩
def Gz : LF := ⟨1, ⟨[0], [], []⟩, fun svs obl => match svs, obl with
 | [.ptr 0 0], [some (.cells _ [s, a, c, e])] => match rdS s, rdI a, rdI c, rdI e with
   | some s, some a, some c, some e => some (uM, [some (pOb s a c e)], NQ s c e a)
   | _, _, _, _ => none
 | _, _ => none⟩
noncomputable def blE : Env := fnE prog 72 1 [] [GJ, Gz]
noncomputable def A9 : Code := (jO 5 (bP mV)).getD .skip
noncomputable def xE : Code := (jO 1 (bP mV)).getD .skip
def NR (s : ByteArray) (a c e : Int) : T Out := .need (okS s a) (.ret (.tup [], [some (pOb s (blk s a) c e)]))
def ZF (s : ByteArray) (c : Int) (x y : Int) : T Out := .ret (dmS d0, [some (pOb s x c y)])
def signs : ByteArray := ⟨#[43, 45, 42, 47, 60, 62, 61, 63, 33, 95]⟩
def okc (c : Int) : Bool := decide (97 <= c /\ c <= 122 ∨ 48 <= c /\ c <= 57 ∨ 0 <= ixB signs c)
def uH (s : ByteArray) (i : Int) : Bool := if i < s.size then okc (au s i) && uH s (i + 1) else true
termination_by ((s.size : Int) - i).toNat
decreasing_by omega
def pI (s : ByteArray) : Bool :=
 decide (1 <= s.size /\ s.size <= 16 /\ ¬ (48 <= au s 0 /\ au s 0 <= 57) /\ (s.size = 1 ∨ au s 0 ≠ 45 ∨ au s 1 < 48 ∨ 57 < au s 1)) && uH s 0
def Dp (s : ByteArray) (i : Int) : List SV := [vS s, vI .i64 i, vI .i64 s.size]
def Pb (s : ByteArray) (i : Int) : T OutC := .need (0 <= i /\ s.size <= 16) (.ite (uH s i) (.ret (.exit 0, [vS s], [])) (.ret (.ret, [vB false], [])))
def ixF : FC := ⟨yO, false, false, fun al ol => match al, ol with
 | [.dt (.cell (.string s)), .dt (.cell (.int .u8 c))], [] => some ([vS s, vI .u8 c], [], .ret (vI .i64 (ixB s c), []))
 | _, _ => none⟩
def La : LF := ⟨4, ⟨[0, 24, 23], [0], [2]⟩, fun svs _ => match svs with
 | s :: i :: _ => match rdS s, rdI i with
   | some s, some i => some (Dp s i, [], Pb s i)
   | _, _ => none
 | _ => none⟩
def aa7 : List (Nat × Nat × FC) := [(7, 16, ixF)]
noncomputable def syE : Env := fnE prog 68 0 aa7 [La]
noncomputable def Jg : Code := (jO 4 (bP pV)).getD .skip
def adi (s : ByteArray) : T Out := .ret (vB (pI s), [])
def Zj (n : Nat) (f : Nat -> Nat -> Dt) : T Out := .ret (.dt (.arr 4 n f), [])
def clF : FC := ⟨Te, false, false, fun al ol => match al, ol with
 | [.dt (.arr 4 n f)], [] => some ([.dt (.arr 4 n f)], [], Zj n f)
 | _, _ => none⟩
def OO (n m : Int) (R : SV -> List (Option Ob) -> Prop) : Prop :=
(((decide (n < (0 : Int)) = true) ->
 (((Rx.lo .i64 <= n + (1 : Int)) /\
   (n + (1 : Int) <= Rx.hi .i64)) /\
  (((Rx.lo .i64 <= (0 : Int) - (n + (1 : Int))) /\
    ((0 : Int) - (n + (1 : Int)) <= Rx.hi .i64)) /\
   ((m ≠ (0 : Int)) /\
    (True /\
     R (SV.dt (Dt.cell (.int .i64 (((0 : Int) - (n + (1 : Int))).tmod m)))) ([])))))) /\
((decide (n < (0 : Int)) = false) ->
 ((m ≠ (0 : Int)) /\
  (True /\
   R (SV.dt (Dt.cell (.int .i64 (n.tmod m)))) ([])))))
def ZG (s : ByteArray) (a c x y : Int) (R : SV -> List (Option Ob) -> Prop) : Prop :=
(((((0 : Int) == (0 : Int)) = true) ->
 (True /\
  R (SV.agg [SV.ki .i64 ((0 : Int)), SV.ki .i64 ((0 : Int)), SV.dt (Dt.cell (.string (ByteArray.mk #[]))), SV.dt (Dt.cell (.slice Option.none (0 : Nat) (0 : Nat)))]) ([some (Ob.cells 133 [SV.dt (Dt.cell (.string s)), SV.dt (Dt.cell (.int .i64 x)), SV.dt (Dt.cell (.int .i64 c)), SV.dt (Dt.cell (.int .i64 y))])]))) /\
((((0 : Int) == (0 : Int)) = false) ->
 (True /\
  R (SV.agg [SV.ki .i64 ((0 : Int)), SV.ki .i64 ((0 : Int)), SV.dt (Dt.cell (.string (ByteArray.mk #[]))), SV.dt (Dt.cell (.slice Option.none (0 : Nat) (0 : Nat)))]) ([some (Ob.cells 133 [SV.dt (Dt.cell (.string s)), SV.dt (Dt.cell (.int .i64 a)), SV.dt (Dt.cell (.int .i64 c)), SV.dt (Dt.cell (.int .i64 (0 : Int)))])]))))
def NY (s : ByteArray) (c e a : Int) (Rn : List SV -> List (Option Ob) -> Prop) (Re : Ex -> List SV -> List (Option Ob) -> Prop) : Prop :=
(((decide (a < (↑s.size : Int)) = true) ->
 ((((0 : Int) <= a) /\
   (a < (↑s.size : Int))) /\
  ((((au s a != (10 : Int)) = true) ->
    (((Rx.lo .i64 <= a + (1 : Int)) /\
      (a + (1 : Int) <= Rx.hi .i64)) /\
     Rn ([SV.ptr 0 0]) ([some (Ob.cells 133 [SV.dt (Dt.cell (.string s)), SV.dt (Dt.cell (.int .i64 (a + (1 : Int)))), SV.dt (Dt.cell (.int .i64 c)), SV.dt (Dt.cell (.int .i64 e))])]))) /\
   (((au s a != (10 : Int)) = false) ->
    Re (Rx.Ex.exit (3 : Nat)) ([SV.ptr 0 0]) ([some (Ob.cells 133 [SV.dt (Dt.cell (.string s)), SV.dt (Dt.cell (.int .i64 a)), SV.dt (Dt.cell (.int .i64 c)), SV.dt (Dt.cell (.int .i64 e))])]))))) /\
((decide (a < (↑s.size : Int)) = false) ->
 Re (Rx.Ex.exit (3 : Nat)) ([SV.ptr 0 0]) ([some (Ob.cells 133 [SV.dt (Dt.cell (.string s)), SV.dt (Dt.cell (.int .i64 a)), SV.dt (Dt.cell (.int .i64 c)), SV.dt (Dt.cell (.int .i64 e))])])))
def NP (s : ByteArray) (c e a : Int) (Rn : List SV -> List (Option Ob) -> Prop) (Re : Ex -> List SV -> List (Option Ob) -> Prop) : Prop :=
(((decide (a < (↑s.size : Int)) = true) ->
 ((((0 : Int) <= a) /\
   (a < (↑s.size : Int))) /\
  ((((au s a == (32 : Int)) = true) ->
    (((Rx.lo .i64 <= a + (1 : Int)) /\
      (a + (1 : Int) <= Rx.hi .i64)) /\
     Rn ([SV.ptr 0 0]) ([some (Ob.cells 133 [SV.dt (Dt.cell (.string s)), SV.dt (Dt.cell (.int .i64 (a + (1 : Int)))), SV.dt (Dt.cell (.int .i64 c)), SV.dt (Dt.cell (.int .i64 e))])]))) /\
   (((au s a == (32 : Int)) = false) ->
    ((((au s a == (10 : Int)) = true) ->
      (((Rx.lo .i64 <= a + (1 : Int)) /\
        (a + (1 : Int) <= Rx.hi .i64)) /\
       Rn ([SV.ptr 0 0]) ([some (Ob.cells 133 [SV.dt (Dt.cell (.string s)), SV.dt (Dt.cell (.int .i64 (a + (1 : Int)))), SV.dt (Dt.cell (.int .i64 c)), SV.dt (Dt.cell (.int .i64 e))])]))) /\
     (((au s a == (10 : Int)) = false) ->
      ((((au s a == (9 : Int)) = true) ->
        (((Rx.lo .i64 <= a + (1 : Int)) /\
          (a + (1 : Int) <= Rx.hi .i64)) /\
         Rn ([SV.ptr 0 0]) ([some (Ob.cells 133 [SV.dt (Dt.cell (.string s)), SV.dt (Dt.cell (.int .i64 (a + (1 : Int)))), SV.dt (Dt.cell (.int .i64 c)), SV.dt (Dt.cell (.int .i64 e))])]))) /\
       (((au s a == (9 : Int)) = false) ->
        ((((au s a == (59 : Int)) = true) ->
          (((Rx.leS (SV.ptr 0 0) (SV.ptr 0 0)) /\
            True) /\
           ((Rx.leOO ([some (Ob.cells 133 [SV.dt (Dt.cell (.string s)), SV.dt (Dt.cell (.int .i64 a)), SV.dt (Dt.cell (.int .i64 c)), SV.dt (Dt.cell (.int .i64 e))])]) ([some (Ob.cells 133 [SV.dt (Dt.cell (.string s)), SV.dt (Dt.cell (.int .i64 a)), SV.dt (Dt.cell (.int .i64 c)), SV.dt (Dt.cell (.int .i64 e))])])) /\
            ((Rd.okS s a) /\
             Rn ([SV.ptr 0 0]) ([some (Ob.cells 133 [SV.dt (Dt.cell (.string s)), SV.dt (Dt.cell (.int .i64 (Rd.cmt s a))), SV.dt (Dt.cell (.int .i64 c)), SV.dt (Dt.cell (.int .i64 e))])]))))) /\
         (((au s a == (59 : Int)) = false) ->
          Re (Rx.Ex.ret) ([]) ([some (Ob.cells 133 [SV.dt (Dt.cell (.string s)), SV.dt (Dt.cell (.int .i64 a)), SV.dt (Dt.cell (.int .i64 c)), SV.dt (Dt.cell (.int .i64 e))])]))))))))))) /\
((decide (a < (↑s.size : Int)) = false) ->
 Re (Rx.Ex.exit (0 : Nat)) ([]) ([some (Ob.cells 133 [SV.dt (Dt.cell (.string s)), SV.dt (Dt.cell (.int .i64 a)), SV.dt (Dt.cell (.int .i64 c)), SV.dt (Dt.cell (.int .i64 e))])])))
def NS (s : ByteArray) (a c e : Int) (R : SV -> List (Option Ob) -> Prop) : Prop :=
(((Rx.leS (SV.ptr 0 0) (SV.ptr 0 0)) /\
 True) /\
((Rx.leOO ([some (Ob.cells 133 [SV.dt (Dt.cell (.string s)), SV.dt (Dt.cell (.int .i64 a)), SV.dt (Dt.cell (.int .i64 c)), SV.dt (Dt.cell (.int .i64 e))])]) ([some (Ob.cells 133 [SV.dt (Dt.cell (.string s)), SV.dt (Dt.cell (.int .i64 a)), SV.dt (Dt.cell (.int .i64 c)), SV.dt (Dt.cell (.int .i64 e))])])) /\
 ((Rd.okS s a) /\
  (((decide (Rd.blk s a < (↑s.size : Int)) = true) ->
    (True /\
     R (SV.tup []) ([some (Ob.cells 133 [SV.dt (Dt.cell (.string s)), SV.dt (Dt.cell (.int .i64 (Rd.blk s a))), SV.dt (Dt.cell (.int .i64 c)), SV.dt (Dt.cell (.int .i64 e))])]))) /\
   ((decide (Rd.blk s a < (↑s.size : Int)) = false) ->
    (True /\
     R (SV.tup []) ([some (Ob.cells 133 [SV.dt (Dt.cell (.string s)), SV.dt (Dt.cell (.int .i64 (Rd.blk s a))), SV.dt (Dt.cell (.int .i64 c)), SV.dt (Dt.cell (.int .i64 e))])])))))))
def O9 (s : ByteArray) (i : Int) (Rn : List SV -> List (Option Ob) -> Prop) (Re : Ex -> List SV -> List (Option Ob) -> Prop) : Prop :=
(((decide (i < (↑s.size : Int)) = true) ->
 ((((0 : Int) <= i) /\
   (i < (↑s.size : Int))) /\
  (((decide (au s i < (97 : Int)) = true) ->
    (((decide (au s i < (48 : Int)) = true) ->
      ((Rx.leL ([SV.dt (Dt.cell (.string (ByteArray.mk #[(43 : UInt8), (45 : UInt8), (42 : UInt8), (47 : UInt8), (60 : UInt8), (62 : UInt8), (61 : UInt8), (63 : UInt8), (33 : UInt8), (95 : UInt8)]))), SV.dt (Dt.cell (.int Go.IntKind.u8 (au s i)))]) ([SV.dt (Dt.cell (.string (ByteArray.mk #[(43 : UInt8), (45 : UInt8), (42 : UInt8), (47 : UInt8), (60 : UInt8), (62 : UInt8), (61 : UInt8), (63 : UInt8), (33 : UInt8), (95 : UInt8)]))), SV.dt (Dt.cell (.int Go.IntKind.u8 (au s i)))])) /\
       ((Rx.bI ([]) ([])) /\
        (((decide (Rd.ixB (ByteArray.mk #[(43 : UInt8), (45 : UInt8), (42 : UInt8), (47 : UInt8), (60 : UInt8), (62 : UInt8), (61 : UInt8), (63 : UInt8), (33 : UInt8), (95 : UInt8)]) (au s i) < (0 : Int)) = true) ->
          Re (Rx.Ex.ret) ([SV.dt (Dt.cell (.bool false))]) ([])) /\
         ((decide (Rd.ixB (ByteArray.mk #[(43 : UInt8), (45 : UInt8), (42 : UInt8), (47 : UInt8), (60 : UInt8), (62 : UInt8), (61 : UInt8), (63 : UInt8), (33 : UInt8), (95 : UInt8)]) (au s i) < (0 : Int)) = false) ->
          (((Rx.lo .i64 <= i + (1 : Int)) /\
            (i + (1 : Int) <= Rx.hi .i64)) /\
           Rn ([SV.dt (Dt.cell (.string s)), SV.dt (Dt.cell (.int .i64 (i + (1 : Int)))), SV.dt (Dt.cell (.int .i64 (↑s.size : Int)))]) ([]))))))) /\
     ((decide (au s i < (48 : Int)) = false) ->
      (((decide (au s i > (57 : Int)) = true) ->
        ((Rx.leL ([SV.dt (Dt.cell (.string (ByteArray.mk #[(43 : UInt8), (45 : UInt8), (42 : UInt8), (47 : UInt8), (60 : UInt8), (62 : UInt8), (61 : UInt8), (63 : UInt8), (33 : UInt8), (95 : UInt8)]))), SV.dt (Dt.cell (.int Go.IntKind.u8 (au s i)))]) ([SV.dt (Dt.cell (.string (ByteArray.mk #[(43 : UInt8), (45 : UInt8), (42 : UInt8), (47 : UInt8), (60 : UInt8), (62 : UInt8), (61 : UInt8), (63 : UInt8), (33 : UInt8), (95 : UInt8)]))), SV.dt (Dt.cell (.int Go.IntKind.u8 (au s i)))])) /\
         ((Rx.bI ([]) ([])) /\
          (((decide (Rd.ixB (ByteArray.mk #[(43 : UInt8), (45 : UInt8), (42 : UInt8), (47 : UInt8), (60 : UInt8), (62 : UInt8), (61 : UInt8), (63 : UInt8), (33 : UInt8), (95 : UInt8)]) (au s i) < (0 : Int)) = true) ->
            Re (Rx.Ex.ret) ([SV.dt (Dt.cell (.bool false))]) ([])) /\
           ((decide (Rd.ixB (ByteArray.mk #[(43 : UInt8), (45 : UInt8), (42 : UInt8), (47 : UInt8), (60 : UInt8), (62 : UInt8), (61 : UInt8), (63 : UInt8), (33 : UInt8), (95 : UInt8)]) (au s i) < (0 : Int)) = false) ->
            (((Rx.lo .i64 <= i + (1 : Int)) /\
              (i + (1 : Int) <= Rx.hi .i64)) /\
             Rn ([SV.dt (Dt.cell (.string s)), SV.dt (Dt.cell (.int .i64 (i + (1 : Int)))), SV.dt (Dt.cell (.int .i64 (↑s.size : Int)))]) ([]))))))) /\
       ((decide (au s i > (57 : Int)) = false) ->
        (((Rx.lo .i64 <= i + (1 : Int)) /\
          (i + (1 : Int) <= Rx.hi .i64)) /\
         Rn ([SV.dt (Dt.cell (.string s)), SV.dt (Dt.cell (.int .i64 (i + (1 : Int)))), SV.dt (Dt.cell (.int .i64 (↑s.size : Int)))]) ([]))))))) /\
   ((decide (au s i < (97 : Int)) = false) ->
    (((decide (au s i > (122 : Int)) = true) ->
      (((decide (au s i < (48 : Int)) = true) ->
        ((Rx.leL ([SV.dt (Dt.cell (.string (ByteArray.mk #[(43 : UInt8), (45 : UInt8), (42 : UInt8), (47 : UInt8), (60 : UInt8), (62 : UInt8), (61 : UInt8), (63 : UInt8), (33 : UInt8), (95 : UInt8)]))), SV.dt (Dt.cell (.int Go.IntKind.u8 (au s i)))]) ([SV.dt (Dt.cell (.string (ByteArray.mk #[(43 : UInt8), (45 : UInt8), (42 : UInt8), (47 : UInt8), (60 : UInt8), (62 : UInt8), (61 : UInt8), (63 : UInt8), (33 : UInt8), (95 : UInt8)]))), SV.dt (Dt.cell (.int Go.IntKind.u8 (au s i)))])) /\
         ((Rx.bI ([]) ([])) /\
          (((decide (Rd.ixB (ByteArray.mk #[(43 : UInt8), (45 : UInt8), (42 : UInt8), (47 : UInt8), (60 : UInt8), (62 : UInt8), (61 : UInt8), (63 : UInt8), (33 : UInt8), (95 : UInt8)]) (au s i) < (0 : Int)) = true) ->
            Re (Rx.Ex.ret) ([SV.dt (Dt.cell (.bool false))]) ([])) /\
           ((decide (Rd.ixB (ByteArray.mk #[(43 : UInt8), (45 : UInt8), (42 : UInt8), (47 : UInt8), (60 : UInt8), (62 : UInt8), (61 : UInt8), (63 : UInt8), (33 : UInt8), (95 : UInt8)]) (au s i) < (0 : Int)) = false) ->
            (((Rx.lo .i64 <= i + (1 : Int)) /\
              (i + (1 : Int) <= Rx.hi .i64)) /\
             Rn ([SV.dt (Dt.cell (.string s)), SV.dt (Dt.cell (.int .i64 (i + (1 : Int)))), SV.dt (Dt.cell (.int .i64 (↑s.size : Int)))]) ([]))))))) /\
       ((decide (au s i < (48 : Int)) = false) ->
        (((decide (au s i > (57 : Int)) = true) ->
          ((Rx.leL ([SV.dt (Dt.cell (.string (ByteArray.mk #[(43 : UInt8), (45 : UInt8), (42 : UInt8), (47 : UInt8), (60 : UInt8), (62 : UInt8), (61 : UInt8), (63 : UInt8), (33 : UInt8), (95 : UInt8)]))), SV.dt (Dt.cell (.int Go.IntKind.u8 (au s i)))]) ([SV.dt (Dt.cell (.string (ByteArray.mk #[(43 : UInt8), (45 : UInt8), (42 : UInt8), (47 : UInt8), (60 : UInt8), (62 : UInt8), (61 : UInt8), (63 : UInt8), (33 : UInt8), (95 : UInt8)]))), SV.dt (Dt.cell (.int Go.IntKind.u8 (au s i)))])) /\
           ((Rx.bI ([]) ([])) /\
            (((decide (Rd.ixB (ByteArray.mk #[(43 : UInt8), (45 : UInt8), (42 : UInt8), (47 : UInt8), (60 : UInt8), (62 : UInt8), (61 : UInt8), (63 : UInt8), (33 : UInt8), (95 : UInt8)]) (au s i) < (0 : Int)) = true) ->
              Re (Rx.Ex.ret) ([SV.dt (Dt.cell (.bool false))]) ([])) /\
             ((decide (Rd.ixB (ByteArray.mk #[(43 : UInt8), (45 : UInt8), (42 : UInt8), (47 : UInt8), (60 : UInt8), (62 : UInt8), (61 : UInt8), (63 : UInt8), (33 : UInt8), (95 : UInt8)]) (au s i) < (0 : Int)) = false) ->
              (((Rx.lo .i64 <= i + (1 : Int)) /\
                (i + (1 : Int) <= Rx.hi .i64)) /\
               Rn ([SV.dt (Dt.cell (.string s)), SV.dt (Dt.cell (.int .i64 (i + (1 : Int)))), SV.dt (Dt.cell (.int .i64 (↑s.size : Int)))]) ([]))))))) /\
         ((decide (au s i > (57 : Int)) = false) ->
          (((Rx.lo .i64 <= i + (1 : Int)) /\
            (i + (1 : Int) <= Rx.hi .i64)) /\
           Rn ([SV.dt (Dt.cell (.string s)), SV.dt (Dt.cell (.int .i64 (i + (1 : Int)))), SV.dt (Dt.cell (.int .i64 (↑s.size : Int)))]) ([]))))))) /\
     ((decide (au s i > (122 : Int)) = false) ->
      (((Rx.lo .i64 <= i + (1 : Int)) /\
        (i + (1 : Int) <= Rx.hi .i64)) /\
       Rn ([SV.dt (Dt.cell (.string s)), SV.dt (Dt.cell (.int .i64 (i + (1 : Int)))), SV.dt (Dt.cell (.int .i64 (↑s.size : Int)))]) ([])))))))) /\
((decide (i < (↑s.size : Int)) = false) ->
 Re (Rx.Ex.exit (0 : Nat)) ([SV.dt (Dt.cell (.string s))]) ([])))
def Pf (s : ByteArray) (R : SV -> List (Option Ob) -> Prop) : Prop :=
((((s.data.toList == []) = true) ->
 (True /\
  R (SV.dt (Dt.cell (.bool false))) ([]))) /\
(((s.data.toList == []) = false) ->
 (((decide ((↑s.size : Int) > (16 : Int)) = true) ->
   (True /\
    R (SV.dt (Dt.cell (.bool false))) ([]))) /\
  ((decide ((↑s.size : Int) > (16 : Int)) = false) ->
   ((((0 : Int) <= (0 : Int)) /\
     ((0 : Int) < (↑s.size : Int))) /\
    (((decide (au s (0 : Int) ≥ (48 : Int)) = true) ->
      ((((0 : Int) <= (0 : Int)) /\
        ((0 : Int) < (↑s.size : Int))) /\
       (((decide (au s (0 : Int) <= (57 : Int)) = true) ->
         (True /\
          R (SV.dt (Dt.cell (.bool false))) ([]))) /\
        ((decide (au s (0 : Int) <= (57 : Int)) = false) ->
         (((Rx.leS (SV.dt (Dt.cell (.string s))) (SV.dt (Dt.cell (.string s)))) /\
           ((Rx.leS (SV.dt (Dt.cell (.int .i64 (0 : Int)))) (SV.dt (Dt.cell (.int .i64 (0 : Int))))) /\
            ((Rx.leS (SV.dt (Dt.cell (.int .i64 (↑s.size : Int)))) (SV.dt (Dt.cell (.int .i64 (↑s.size : Int))))) /\
             True))) /\
          ((Rx.leOO ([]) ([])) /\
           ((((0 : Int) <= (0 : Int)) /\
             (s.size <= (16 : Nat))) /\
            (((Rd.uH s (0 : Int) = true) ->
              (((((↑s.size : Int) == (1 : Int)) = true) ->
                (True /\
                 R (SV.dt (Dt.cell (.bool true))) ([]))) /\
               ((((↑s.size : Int) == (1 : Int)) = false) ->
                ((((0 : Int) <= (0 : Int)) /\
                  ((0 : Int) < (↑s.size : Int))) /\
                 ((((au s (0 : Int) != (45 : Int)) = true) ->
                   (True /\
                    R (SV.dt (Dt.cell (.bool true))) ([]))) /\
                  (((au s (0 : Int) != (45 : Int)) = false) ->
                   ((((0 : Int) <= (1 : Int)) /\
                     ((1 : Int) < (↑s.size : Int))) /\
                    (((decide (au s (1 : Int) < (48 : Int)) = true) ->
                      (True /\
                       R (SV.dt (Dt.cell (.bool true))) ([]))) /\
                     ((decide (au s (1 : Int) < (48 : Int)) = false) ->
                      ((((0 : Int) <= (1 : Int)) /\
                        ((1 : Int) < (↑s.size : Int))) /\
                       (True /\
                        R (SV.dt (Dt.cell (.bool (decide (au s (1 : Int) > (57 : Int)))))) ([])))))))))))) /\
             ((Rd.uH s (0 : Int) = false) ->
              (True /\
               R (SV.dt (Dt.cell (.bool false))) ([]))))))))))) /\
     ((decide (au s (0 : Int) ≥ (48 : Int)) = false) ->
      (((Rx.leS (SV.dt (Dt.cell (.string s))) (SV.dt (Dt.cell (.string s)))) /\
        ((Rx.leS (SV.dt (Dt.cell (.int .i64 (0 : Int)))) (SV.dt (Dt.cell (.int .i64 (0 : Int))))) /\
         ((Rx.leS (SV.dt (Dt.cell (.int .i64 (↑s.size : Int)))) (SV.dt (Dt.cell (.int .i64 (↑s.size : Int))))) /\
          True))) /\
       ((Rx.leOO ([]) ([])) /\
        ((((0 : Int) <= (0 : Int)) /\
          (s.size <= (16 : Nat))) /\
         (((Rd.uH s (0 : Int) = true) ->
           (((((↑s.size : Int) == (1 : Int)) = true) ->
             (True /\
              R (SV.dt (Dt.cell (.bool true))) ([]))) /\
            ((((↑s.size : Int) == (1 : Int)) = false) ->
             ((((0 : Int) <= (0 : Int)) /\
               ((0 : Int) < (↑s.size : Int))) /\
              ((((au s (0 : Int) != (45 : Int)) = true) ->
                (True /\
                 R (SV.dt (Dt.cell (.bool true))) ([]))) /\
               (((au s (0 : Int) != (45 : Int)) = false) ->
                ((((0 : Int) <= (1 : Int)) /\
                  ((1 : Int) < (↑s.size : Int))) /\
                 (((decide (au s (1 : Int) < (48 : Int)) = true) ->
                   (True /\
                    R (SV.dt (Dt.cell (.bool true))) ([]))) /\
                  ((decide (au s (1 : Int) < (48 : Int)) = false) ->
                   ((((0 : Int) <= (1 : Int)) /\
                     ((1 : Int) < (↑s.size : Int))) /\
                    (True /\
                     R (SV.dt (Dt.cell (.bool (decide (au s (1 : Int) > (57 : Int)))))) ([])))))))))))) /\
          ((Rd.uH s (0 : Int) = false) ->
           (True /\
            R (SV.dt (Dt.cell (.bool false))) ([]))))))))))))))
def Zk (n : Nat) (f : Nat -> Nat -> Dt) (R : SV -> List (Option Ob) -> Prop) : Prop :=
((((0 : Int) <= (↑n : Int)) /\
 (((↑n : Int) <= (↑n : Int)) /\
  ((↑n : Int) <= (↑n : Int)))) /\
(True /\
 R (SV.dt (Dt.arr ((4 : Nat)) ((↑n : Int).toNat) (f))) ([])))
theorem adx : leS (.agg [.ki .i64 0, .ki .i64 0, .dt (.cell (.string ⟨#[]⟩)), .dt (.cell (.slice none 0 0))]) (dmS d0) := by
 simp only [dmS, dmA, H9, wB, Af, and_true]
 refine ⟨(ow _ _ _).2 rfl, (ow _ _ _).2 rfl, (Wy _ _).2 rfl, ?_⟩
 rw [Ia]
 simp only [dw]
 exact ⟨rfl, rfl⟩
theorem gT {E : Env} {l : List Code} (h : l = []) : E.Lok l := by
 subst h
 intro c hc; cases hc
theorem MS (n m : Int) : Ctr prog Bo [vI .i64 n, vI .i64 m] [] (WY n m) := by
 refine jL mixed (N := 13) (fn := JD) (c := bP JD) (ks := []) (ls := []) (by kernel_rfl) (by kernel_rfl) (by kernel_rfl) all_nil Bp (lW (fun f h => by cases h)) (by kernel_rfl) (Q := OO n m) (fun post hp => ?_) (fun R => by kernel_rfl)
 obtain ⟨⟨⟨h1, h2⟩, hm⟩, hp⟩ := hp
 unfold OO
 simp only [lo, hi, decide_eq_true_eq, decide_eq_false_iff_not]
 refine ⟨fun h => ⟨⟨by omega, by omega⟩, ⟨by omega, by omega⟩, hm, trivial, ?_⟩, fun h => ⟨hm, trivial, ?_⟩⟩
 · exact ⟨_, hp, by rw [mZ, aR, if_pos h], aM _⟩
 · exact ⟨_, hp, by rw [mZ, aR, if_neg h], aM _⟩
theorem U2 (s : ByteArray) (a c x y : Int) : Ctr prog Tg [.ptr 0 0, vI .i64 x, vI .i64 y] [pOb s a c 0] (ZF s c x y) := by
 refine jL mixed (N := 21) (fn := Sl) (c := bP Sl) (ks := []) (ls := []) (by kernel_rfl) (by kernel_rfl) (by kernel_rfl) all_nil Bp (lW (fun f h => by cases h)) (by kernel_rfl) (Q := ZG s a c x y) (fun post hp => ?_) (fun R => by kernel_rfl)
 have hp : post (dmS d0, [some (pOb s x c y)]) := hp
 unfold ZG
 refine ⟨fun _ => ⟨trivial, mI hp adx (aM _)⟩, fun h => by cases h⟩
theorem GK (s : ByteArray) (c e a : Int) : Sound blE (.loop A9) (jZ (GJ.live.h.zip uM) [some (pOb s a c e)]) ((Sr s c e a).map (OutC.st GJ.live)) := by
 refine r9 mixed (ks := []) (ls := [GJ, Gz]) (c := A9) (nb := 1) (N := 72) all_nil (gT (by kernel_rfl)) GJ.live (fun _ : Int => uM) (fun a => [some (pOb s a c e)]) (fun a => Sr s c e a) (fun a => ((s.size : Int) - a).toNat)
  (Q := fun a => NY s c e a) (fun a post hp => ?_) (fun a Rn Re => by kernel_rfl) a
 obtain ⟨⟨h1, h2, h3⟩, hp⟩ := hp
 have hp : post (.exit 3, [.ptr 0 0], [some (pOb s (cmt s a) c e)]) := hp
 unfold NY
 simp only [lo, hi, decide_eq_true_eq, decide_eq_false_iff_not, bne_iff_ne, bne_eq_false_iff_eq]
 have done : cmt s a = a -> mR post (.exit 3) [.ptr 0 0] [some (pOb s a c e)] := fun h => by
  rw [h] at hp; exact mR.mk hp (aH _) (aM _)
 refine ⟨fun h => ⟨⟨h2, h⟩, fun hb => ⟨⟨by omega, by omega⟩, a + 1, by omega, aH _, aM _, ⟨h1, by omega, by omega⟩, ?_⟩, fun hb => done ?_⟩, fun h => done ?_⟩
 · have : cmt s a = cmt s (a + 1) := by rw [cmt, if_pos ⟨h, hb⟩]
   rw [this] at hp; exact hp
 · rw [cmt, if_neg]; rintro ⟨_, h⟩; exact h hb
 · rw [cmt, if_neg]; rintro ⟨h', _⟩; exact h h'
theorem VP : Lp blE GJ A9 := by
 intro svs obl args obs out h
 unfold GJ at h
 simp only at h
 repeat' split at h
 all_goals first
  | (simp only [Option.some.injEq, Prod.mk.injEq] at h; obtain ⟨rfl, rfl, rfl⟩ := h; apply GK)
  | cases h
theorem GA (s : ByteArray) (c e a : Int) : Sound blE (.loop xE) (jZ (Gz.live.h.zip uM) [some (pOb s a c e)]) ((NQ s c e a).map (OutC.st Gz.live)) := by
 refine r9 mixed (ks := []) (ls := [GJ, Gz]) (c := xE) (nb := 1) (N := 72) all_nil (lW fun f h c hc hr => ?_) Gz.live (fun _ : Int => uM) (fun a => [some (pOb s a c e)]) (fun a => NQ s c e a) (fun a => ((s.size : Int) - a).toNat)
  (Q := fun a => NP s c e a) (fun a post hp => ?_) (fun a Rn Re => by kernel_rfl) a
 · have hl : bM xE = [A9] := by kernel_rfl
   rw [hl, List.mem_singleton] at hc
   subst hc
   rcases List.mem_cons.1 h with rfl | h
   · exact VP
   · rw [List.mem_singleton] at h
     subst h
     have : dM A9 = 5 := by kernel_rfl
     rw [this] at hr
     cases hr
 obtain ⟨⟨h1, h2, h3⟩, hp⟩ := hp
 unfold NP
 have nx : ∀ b, a < b -> b <= s.size -> blk s b = blk s a -> ∃ x', ((s.size : Int) - x').toNat < ((s.size : Int) - a).toNat /\ leL [SV.ptr 0 0] uM /\ leOO [some (pOb s b c e)] [some (pOb s x' c e)] /\ (NQ s c e x').holds post := fun b hb hb' he => by
  refine ⟨b, by omega, aH _, aM _, ⟨h1, by omega, hb'⟩, ?_⟩
  rw [he]; exact hp
 have lr : blk s a = a -> a < s.size -> mR post .ret [] [some (pOb s a c e)] := fun h h' => mR.mk (hp.1 (by rw [h]; simpa using h')) (aH _) (by rw [h]; exact aM _)
 have le : blk s a = a -> ¬ a < s.size -> mR post (.exit 0) [] [some (pOb s a c e)] := fun h h' => mR.mk (hp.2 (by rw [h]; simpa using h')) (aH _) (by rw [h]; exact aM _)
 simp only [lo, hi, decide_eq_true_eq, decide_eq_false_iff_not, bne_iff_ne, bne_eq_false_iff_eq, beq_iff_eq, beq_eq_false_iff_ne]
 have e1 : ∀ b : Int, a < s.size -> (au s a = 32 ∨ au s a = 10 ∨ au s a = 9) -> blk s (a + 1) = blk s a := fun b h hb => by
  rw [blk.eq_1 s a, if_pos h, if_pos hb]
 refine ⟨fun h => ⟨⟨h2, h⟩, fun g1 => ⟨⟨by omega, by omega⟩, nx _ (by omega) (by omega) (e1 a h (.inl g1))⟩, fun g1 => ⟨fun g2 => ⟨⟨by omega, by omega⟩, nx _ (by omega) (by omega) (e1 a h (.inr (.inl g2)))⟩, fun g2 =>
  ⟨fun g3 => ⟨⟨by omega, by omega⟩, nx _ (by omega) (by omega) (e1 a h (.inr (.inr g3)))⟩, fun g3 => ⟨fun g4 => ⟨⟨(BL _).2 trivial, trivial⟩, aM _, ⟨h1, h2, h3⟩, ?_⟩, fun g4 => lr ?_ h⟩⟩⟩⟩, fun h => le ?_ h⟩
 · have c1 : cmt s a = cmt s (a + 1) := by rw [cmt.eq_1 s a, if_pos ⟨h, by omega⟩]
   have := LQ s (a + 1)
   refine nx _ (by omega) (Sw _ _ h3) ?_
   rw [c1]
   conv => rhs; rw [blk, if_pos h, if_neg (by omega), if_pos g4]
 · rw [blk, if_pos h, if_neg (by omega), if_neg g4]
 · rw [blk, if_neg h]
theorem VH : Lp blE Gz xE := by
 intro svs obl args obs out h
 unfold Gz at h
 simp only at h
 repeat' split at h
 all_goals first
  | (simp only [Option.some.injEq, Prod.mk.injEq] at h; obtain ⟨rfl, rfl, rfl⟩ := h; apply GA)
  | cases h
theorem VG : blE.Lok (bM (bP mV)) := by
 have hl : bM (bP mV) = [xE] := by kernel_rfl
 rw [hl]
 refine lW fun f h c hc hr => ?_
 rw [List.mem_singleton] at hc
 subst hc
 have h1 : dM xE = 1 := by kernel_rfl
 rw [h1] at hr
 rcases List.mem_cons.1 h with rfl | h
 · cases hr
 · rw [List.mem_singleton] at h
   subst h
   exact VH
theorem LG (s : ByteArray) (a c e : Int) : Ctr prog JR [.ptr 0 0] [pOb s a c e] (NR s a c e) := by
 refine jL mixed (N := 72) (fn := mV) (c := bP mV) (ks := []) (ls := [GJ, Gz]) (by kernel_rfl) (by kernel_rfl) (by kernel_rfl) all_nil Bp VG (by kernel_rfl) (Q := NS s a c e) (fun post hp => ?_) (fun R => by kernel_rfl)
 obtain ⟨h, hp⟩ := hp
 have hp : post (.tup [], [some (pOb s (blk s a) c e)]) := hp
 unfold NS
 exact ⟨⟨(BL _).2 trivial, trivial⟩, aM _, h, fun _ => ⟨trivial, mI hp (aJ _) (aM _)⟩, fun _ => ⟨trivial, mI hp (aJ _) (aM _)⟩⟩
theorem Sq (n : Nat) (f : Nat -> Nat -> Dt) : Ctr prog Te [.dt (.arr 4 n f)] [] (Zj n f) := by
 refine jL mixed (N := 9) (fn := Sk) (c := bP Sk) (ks := []) (ls := []) (by kernel_rfl) (by kernel_rfl) (by kernel_rfl) all_nil Bp (gT (by kernel_rfl)) (by kernel_rfl) (Q := Zk n f) (fun post hp => ?_) (fun R => by kernel_rfl)
 have hp : post (.dt (.arr 4 n f), []) := hp
 unfold Zk
 exact ⟨⟨by omega, by omega, by omega⟩, trivial, xQ hp (aJ _)⟩
theorem Mj : ixF.Ok prog := by
 intro al ol args obs out h
 unfold ixF at h
 simp only at h
 split at h
 · simp only [Option.some.injEq, Prod.mk.injEq] at h
   obtain ⟨rfl, rfl, rfl⟩ := h
   exact D6 _ _
 · cases h
theorem NH {s : ByteArray} {i : Int} (h : i < s.size) : uH s i = (okc (au s i) && uH s (i + 1)) := by rw [uH, if_pos h]
theorem Vx {s : ByteArray} {i : Int} (h : ¬ i < s.size) : uH s i = true := by rw [uH, if_neg h]
theorem Jh (s : ByteArray) (i : Int) : Sound syE (.loop Jg) (jZ (La.live.h.zip (Dp s i)) []) ((Pb s i).map (OutC.st La.live)) := by
 refine r9 mixed (ks := aa7) (ls := [La]) (c := Jg) (nb := 0) (N := 68) (all_cons Mj all_nil) (gT (by kernel_rfl)) La.live (fun i : Int => Dp s i) (fun _ => []) (fun i => Pb s i) (fun i => ((s.size : Int) - i).toNat)
  (Q := fun i => O9 s i) (fun i post hp => ?_) (fun a Rn Re => by kernel_rfl) i
 obtain ⟨⟨h1, h2⟩, hp⟩ := hp
 have nx : i < s.size -> okc (au s i) = true -> ∃ x', ((s.size : Int) - x').toNat < ((s.size : Int) - i).toNat /\ leL (Dp s (i + 1)) (Dp s x') /\ leOO [] [] /\ (Pb s x').holds post := fun h ho => by
  refine ⟨i + 1, by omega, aH _, aM _, ⟨by omega, h2⟩, ?_⟩
  rw [NH h, ho, Bool.true_and] at hp; exact hp
 have lf : i < s.size -> okc (au s i) = false -> mR post .ret [vB false] [] := fun h ho => mR.mk (hp.2 (by rw [NH h, ho]; rfl)) (aH _) (aM _)
 unfold O9
 simp only [lo, hi, decide_eq_true_eq, decide_eq_false_iff_not]
 have hsg : ixB ⟨#[43, 45, 42, 47, 60, 62, 61, 63, 33, 95]⟩ (au s i) = ixB signs (au s i) := rfl
 have T : ∀ {p : Prop}, (97 <= au s i /\ au s i <= 122 ∨ 48 <= au s i /\ au s i <= 57 ∨ 0 <= ixB signs (au s i)) -> (okc (au s i) = true -> p) -> p := fun h k => k (by simpa [okc] using h)
 have F : ∀ {p : Prop}, ¬ (97 <= au s i /\ au s i <= 122 ∨ 48 <= au s i /\ au s i <= 57 ∨ 0 <= ixB signs (au s i)) -> (okc (au s i) = false -> p) -> p := fun h k => k (by simpa [okc] using h)
 simp only [hsg]
 refine ⟨fun h => ⟨⟨h1, h⟩, ?_⟩, fun h => mR.mk (hp.1 (Vx h)) (aH _) (aM _)⟩
 repeat' (first | (refine And.intro ?_ ?_) | intro _)
 all_goals first
  | exact aJ _
  | trivial
  | omega
  | exact T (by omega) (nx h)
  | exact F (by omega) (lf h)
theorem Xw : Lp syE La Jg := by
 intro svs obl args obs out h
 unfold La at h
 simp only at h
 repeat' split at h
 all_goals first
  | (simp only [Option.some.injEq, Prod.mk.injEq] at h; obtain ⟨rfl, rfl, rfl⟩ := h; apply Jh)
  | cases h
theorem Xu : syE.Lok (bM (bP pV)) := by
 have hl : bM (bP pV) = [Jg] := by kernel_rfl
 rw [hl]
 refine lW fun f h c hc hr => ?_
 rw [List.mem_singleton] at hc h
 subst hc; subst h
 exact Xw
theorem Dq (s : ByteArray) : Ctr prog vP [vS s] [] (adi s) := by
 refine jL mixed (N := 68) (fn := pV) (c := bP pV) (ks := aa7) (ls := [La]) (by kernel_rfl) (by kernel_rfl) (by kernel_rfl) (all_cons Mj all_nil) Bp Xu (by kernel_rfl) (Q := Pf s) (fun post hp => ?_) (fun R => by kernel_rfl)
 have hp : post (vB (pI s), []) := hp
 have leafT : pI s = true -> Gives post (.dt (.cell (.bool true))) [] := fun h => xQ hp (by rw [mZ, h])
 have leafF : pI s = false -> Gives post (.dt (.cell (.bool false))) [] := fun h => xQ hp (by rw [mZ, h])
 have leafD : ∀ q : Bool, pI s = q -> Gives post (.dt (.cell (.bool q))) [] := fun q h => xQ hp (by rw [mZ, h])
 unfold Pf
 simp only [K6, decide_eq_true_eq, decide_eq_false_iff_not, beq_iff_eq, beq_eq_false_iff_ne, bne_iff_ne, bne_eq_false_iff_eq, true_and]
 unfold pI at leafT leafF leafD
 repeat' (first | (refine And.intro ?_ ?_) | intro _)
 all_goals first
  | exact (BL _).2 trivial
  | exact aM _
  | trivial
  | omega
  | exact leafT (by simp only [Bool.and_eq_true, decide_eq_true_eq]; exact ⟨by omega, by assumption⟩)
  | exact leafF (by simp only [Bool.and_eq_false_iff, decide_eq_false_iff_not]; first | (left; omega) | (right; assumption))
  | (refine leafD _ ?_; rw [Bool.eq_iff_iff]; simp only [Bool.and_eq_true, decide_eq_true_eq]; rw [and_iff_left (by assumption)]; constructor <;> omega)
theorem aac : clF.Ok prog := by
 intro al ol args obs out h
 unfold clF at h
 simp only at h
 repeat' split at h
 all_goals first
  | (simp only [Option.some.injEq, Prod.mk.injEq] at h; obtain ⟨rfl, rfl, rfl⟩ := h; apply Sq)
  | cases h
end Rd
