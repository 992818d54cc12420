/- Words, data, texts: the reader. -/
import Derived.Test.YtkbdcpkbmfegdaaGreatDoorSRdA
set_option linter.unusedSimpArgs false
set_option linter.unusedVariables false
open Rx Go
namespace Rd
def delims : ByteArray := ⟨#[32, 10, 9, 40, 41, 59, 39]⟩
def bA (s : ByteArray) (a : Int) : Int := if a < s.size /\ ixB delims (au s a) < 0 then bA s (a + 1) else a
termination_by ((s.size : Int) - a).toNat
decreasing_by omega
theorem Pb (s : ByteArray) (a : Int) : a <= bA s a := by
 fun_induction bA s a <;> omega
theorem Pd (s : ByteArray) (a : Int) (h : a <= s.size) : bA s a <= s.size := by
 fun_induction bA s a <;> omega
def isT (w : ByteArray) : Bool := w.data.toList == [35, 116]
def isF (w : ByteArray) : Bool := w.data.toList == [35, 102]
def isN (w : ByteArray) : Bool := lK w && ((tJ (dK w)).data.toList == w.data.toList)
def atE (w : ByteArray) : Int :=
 if isT w then 0 else if isF w then 0 else if p9 w then 0 else if isN w then if dK w < -1099511627776 ∨ 1099511627776 < dK w then 2 else 0 else 4
def atD (w : ByteArray) : Dm :=
 if isT w then .mk 2 1 noS [] else if isF w then .mk 2 0 noS [] else if p9 w then .mk 3 0 w [] else if isN w then if dK w < -1099511627776 ∨ 1099511627776 < dK w then d0 else .mk 1 (dK w) noS [] else d0
def aH (s : ByteArray) (a b : Int) : ByteArray := s.extract a.toNat (bA s b).toNat
def zOb : Ob := .cells kJ [.ki .i64 0, .ki .i64 0, vS noS, .dt (.cell (.slice none 0 0))]
def uJ (fr : Int) : List SV := [.ptr 0 0, vI .i64 fr, .ptr 1 0]
def QL (s : ByteArray) (fr c e : Int) (a : Int) : T OutC := .need (okS s a) (.ret (.exit 0, uJ fr, [some (pOb s (bA s a) c e), some zOb]))
def Hz : LF := ⟨1, ⟨[0, 1, 4], [0, 1, 4], []⟩, fun svs obl => match svs, obl with
 | [.ptr 0 0, fr, .ptr 1 0], [some (.cells _ [s, a, c, e]), some _] => match rdI fr, rdS s, rdI a, rdI c, rdI e with
   | some fr, some s, some a, some c, some e => some (uJ fr, [some (pOb s a c e), some zOb], QL s fr c e a)
   | _, _, _, _, _ => none
 | _, _ => none⟩
def syF : FC := ⟨sP, false, false, fun al ol => match al, ol with
 | [x], [] => match rdS x with
   | some s => some ([vS s], [], afu s)
   | none => none
 | _, _ => none⟩
def aiF : FC := ⟨Rt, false, false, fun al ol => match al, ol with
 | [x], [] => match rdS x with
   | some s => some ([vS s], [], Xt s)
   | none => none
 | _, _ => none⟩
def itO (n : Int) : T Out := .need (inI n) (.ret (vS (tJ n), []))
def itF : FC := ⟨lQ, false, false, fun al ol => match al, ol with
 | [x], [] => match rdI x with
   | some n => some ([vI .i64 n], [], itO n)
   | none => none
 | _, _ => none⟩
def stF : FC := ⟨Rw, false, false, fun al ol => match al, ol with
 | [.ptr 0 0, x, y], [.cells _ [s, a, c, _]] => match rdI x, rdI y, rdS s, rdI a, rdI c with
   | some x, some y, some s, some a, some c => some ([.ptr 0 0, vI .i64 x, vI .i64 y], [pOb s a c 0], XR s c x y)
   | _, _, _, _, _ => none
 | _, _ => none⟩
def VA : List (Nat × Nat × FC) := [(1, 20, ixF), (8, 1, syF), (10, 1, aiF), (11, 4, itF), (12, 2, stF), (14, 2, stF)]
noncomputable def QK : Env := fnE prog 88 1 VA [Hz]
noncomputable def EY : Code := (jv 1 (bI yD)).getD .skip
def Xu (s : ByteArray) (fr a c : Int) : T Out := .need (okS s a /\ 0 <= fr /\ fr <= a)
 (.ret (dmS (atD (aH s fr a)), [some (pOb s (if atE (aH s fr a) = 0 then bA s a else fr) c (atE (aH s fr a)))]))
structure PR where
 d : Dm
 a : Int
 c : Int
 e : Int
instance : Inhabited PR := ⟨⟨d0, 0, 0, 0⟩⟩
def Gq : ByteArray := ⟨#[113, 117, 111, 116, 101]⟩
mutual
def jW (s : ByteArray) : Nat -> Int -> Int -> Int -> Option PR
 | 0, _, _, _ => none
 | f + 1, lv, a, c =>
   if blk s a = s.size then some ⟨d0, blk s a, c, 5⟩ else if c + 1 > 400 then some ⟨d0, blk s a, c + 1, 1⟩ else if lv > 40 then some ⟨d0, blk s a, c + 1, 8⟩
   else if au s (blk s a) = 41 then some ⟨d0, blk s a, c + 1, 4⟩
   else if au s (blk s a) = 39 then (jW s f (lv + 1) (blk s a + 1) (c + 1)).map fun r => ⟨.mk 4 0 noS [.mk 3 0 Gq [], r.d], r.a, r.c, r.e⟩
   else if au s (blk s a) = 40 then nR s f lv (blk s a + 1) (c + 1) []
   else some ⟨atD (aH s (blk s a) (blk s a)), if atE (aH s (blk s a) (blk s a)) = 0 then bA s (blk s a) else blk s a, c + 1, atE (aH s (blk s a) (blk s a))⟩
def nR (s : ByteArray) : Nat -> Int -> Int -> Int -> List Dm -> Option PR
 | 0, _, _, _, _ => none
 | f + 1, lv, a, c, acc =>
   if blk s a < s.size /\ au s (blk s a) = 41 then some ⟨.mk 4 0 noS acc, blk s a + 1, c, 0⟩
   else match jW s f (lv + 1) (blk s a) c with
     | none => none
     | some r => if r.e ≠ 0 then some ⟨.mk 4 0 noS acc, r.a, r.c, r.e⟩ else nR s f lv r.a r.c (acc ++ [r.d])
end
def aU (s : ByteArray) (f : Nat) (lv a c : Int) : PR := (jW s f lv a c).getD default
def ku (s : ByteArray) (f : Nat) (lv a c : Int) (acc : List Dm) : PR := (nR s f lv a c acc).getD default
def okC (c : Int) : Prop := 0 <= c /\ c <= 400
def okL (lv : Int) : Prop := 1 <= lv /\ lv <= 41
def Ki (s : ByteArray) (f : Nat) (lv a c : Int) : T Out := .need (okS s a /\ okC c /\ okL lv /\ (jW s f lv a c).isSome = true)
 (.ret (dmS (aU s f lv a c).d, [some (pOb s (aU s f lv a c).a (aU s f lv a c).c (aU s f lv a c).e)]))
def yM (f : Nat) : FC := ⟨FB, false, false, fun al ol => match al, ol with
 | [.ptr 0 0, lv], [.cells _ [s, a, c, _]] => match rdI lv, rdS s, rdI a, rdI c with
   | some lv, some s, some a, some c => some ([.ptr 0 0, vI .i64 lv], [pOb s a c 0], Ki s f lv a c)
   | _, _, _, _ => none
 | _, _ => none⟩
def bkF : FC := ⟨Iq, false, false, fun al ol => match al, ol with
 | [.ptr 0 0], [.cells _ [s, a, c, e]] => match rdS s, rdI a, rdI c, rdI e with
   | some s, some a, some c, some e => some ([.ptr 0 0], [pOb s a c e], NH s a c e)
   | _, _, _, _ => none
 | _, _ => none⟩
def amF : FC := ⟨Rv, false, false, fun al ol => match al, ol with
 | [.ptr 0 0, fr], [.cells _ [s, a, c, _]] => match rdI fr, rdS s, rdI a, rdI c with
   | some fr, some s, some a, some c => some ([.ptr 0 0, vI .i64 fr], [pOb s a c 0], Xu s fr a c)
   | _, _, _, _ => none
 | _, _ => none⟩
def noF : FC := ⟨0, false, false, fun _ _ => none⟩
def gT : List Dm := []
structure LX where
 f : Nat
 a : Int
 c : Int
 acc : List Dm
def KU (lv : Int) : List SV := [.ptr 0 0, vI .i64 lv, .ptr 1 0, .ptr 2 0]
def Sd (s : ByteArray) (x : LX) : List (Option Ob) := [some (pOb s x.a x.c 0), some zOb, some (.cells kJ [vI .i64 4, vI .i64 0, vS noS, .nm 3]), some (.row kJ 4 x.acc.length (dmL x.acc))]
def Sg (s : ByteArray) (g : Nat) (lv : Int) (x : LX) : T OutC := .need (x.f <= g /\ okS s x.a /\ okC x.c /\ (1 <= lv /\ lv <= 40) /\ x.acc.length <= x.c /\ (nR s x.f lv x.a x.c x.acc).isSome = true)
 (.ret (.ret, [.ptr 1 0], [some (pOb s (ku s x.f lv x.a x.c x.acc).a (ku s x.f lv x.a x.c x.acc).c (ku s x.f lv x.a x.c x.acc).e),
    some (.cells kJ [vI .i64 4, vI .i64 0, vS noS, .nm 2]), some (.row kJ 4 (ku s x.f lv x.a x.c x.acc).d.l.length (dmL (ku s x.f lv x.a x.c x.acc).d.l))]))
def IZ (g : Nat) : LF := ⟨22, ⟨[0, 1, 4, 7], [], [4]⟩, fun svs obl => match svs, obl with
 | [.ptr 0 0, lv, .ptr 1 0, .ptr 2 0], some (.cells _ [s, a, c, _]) :: _ => match rdI lv, rdS s, rdI a, rdI c with
   | some lv, some s, some a, some c => some (KU lv, Sd s ⟨g, a, c, gT⟩, Sg s g lv ⟨g, a, c, gT⟩)
   | _, _, _, _ => none
 | _, _ => none⟩
def VP (g : Nat) : List (Nat × Nat × FC) := [(1, 1, bkF), (5, 5, stF), (9, 2, stF), (11, 2, stF), (14, 2, stF), (17, 3, yM g), (21, 0, noF), (22, 1, bkF), (26, 3, yM g), (30, 2, amF)]
noncomputable def Rb (g : Nat) : Env := fnE prog 153 1 (VP g) [IZ g]
noncomputable def F8 : Code := (jv 22 (bI sw)).getD .skip
def Nz (s : ByteArray) (fr c e a : Int) (Rn : List SV -> List (Option Ob) -> Prop) (Re : Ex -> List SV -> List (Option Ob) -> Prop) : Prop :=
(((decide (a < (↑s.size : Int)) = true) ->
 ((((0 : Int) <= a) /\
   (a < (↑s.size : Int))) /\
  ((Rx.leL ([SV.dt (Dt.cell (.string (ByteArray.mk #[(32 : UInt8), (10 : UInt8), (9 : UInt8), (40 : UInt8), (41 : UInt8), (59 : UInt8), (39 : UInt8)]))), SV.dt (Dt.cell (.int Go.IntKind.u8 (au s a)))]) ([SV.dt (Dt.cell (.string (ByteArray.mk #[(32 : UInt8), (10 : UInt8), (9 : UInt8), (40 : UInt8), (41 : UInt8), (59 : UInt8), (39 : UInt8)]))), SV.dt (Dt.cell (.int Go.IntKind.u8 (au s a)))])) /\
   ((Rx.bD ([]) ([])) /\
    (((decide (Rd.ixB (ByteArray.mk #[(32 : UInt8), (10 : UInt8), (9 : UInt8), (40 : UInt8), (41 : UInt8), (59 : UInt8), (39 : UInt8)]) (au s a) < (0 : Int)) = true) ->
      (((Rx.lo .i64 <= a + (1 : Int)) /\
        (a + (1 : Int) <= Rx.hi .i64)) /\
       Rn ([SV.ptr 0 0, SV.dt (Dt.cell (.int .i64 fr)), SV.ptr 1 0]) ([some (Ob.cells 133 [SV.dt (Dt.cell (.string s)), SV.dt (Dt.cell (.int .i64 (a + (1 : Int)))), SV.dt (Dt.cell (.int .i64 c)), SV.dt (Dt.cell (.int .i64 e))]), some (Ob.cells 25 [SV.ki .i64 ((0 : Int)), SV.ki .i64 ((0 : Int)), SV.dt (Dt.cell (.string Rd.noS)), SV.dt (Dt.cell (.slice Option.none (0 : Nat) (0 : Nat)))])]))) /\
     ((decide (Rd.ixB (ByteArray.mk #[(32 : UInt8), (10 : UInt8), (9 : UInt8), (40 : UInt8), (41 : UInt8), (59 : UInt8), (39 : UInt8)]) (au s a) < (0 : Int)) = false) ->
      Re (Rx.Ex.exit (0 : Nat)) ([SV.ptr 0 0, SV.dt (Dt.cell (.int .i64 fr)), SV.ptr 1 0]) ([some (Ob.cells 133 [SV.dt (Dt.cell (.string s)), SV.dt (Dt.cell (.int .i64 a)), SV.dt (Dt.cell (.int .i64 c)), SV.dt (Dt.cell (.int .i64 e))]), some (Ob.cells 25 [SV.ki .i64 ((0 : Int)), SV.ki .i64 ((0 : Int)), SV.dt (Dt.cell (.string Rd.noS)), SV.dt (Dt.cell (.slice Option.none (0 : Nat) (0 : Nat)))])]))))))) /\
((decide (a < (↑s.size : Int)) = false) ->
 Re (Rx.Ex.exit (0 : Nat)) ([SV.ptr 0 0, SV.dt (Dt.cell (.int .i64 fr)), SV.ptr 1 0]) ([some (Ob.cells 133 [SV.dt (Dt.cell (.string s)), SV.dt (Dt.cell (.int .i64 a)), SV.dt (Dt.cell (.int .i64 c)), SV.dt (Dt.cell (.int .i64 e))]), some (Ob.cells 25 [SV.ki .i64 ((0 : Int)), SV.ki .i64 ((0 : Int)), SV.dt (Dt.cell (.string Rd.noS)), SV.dt (Dt.cell (.slice Option.none (0 : Nat) (0 : Nat)))])])))
def Xv (s : ByteArray) (fr a c : Int) (R : SV -> List (Option Ob) -> Prop) : Prop :=
(((Rx.leS (SV.ptr 0 0) (SV.ptr 0 0)) /\
 ((Rx.leS (SV.dt (Dt.cell (.int .i64 fr))) (SV.dt (Dt.cell (.int .i64 fr)))) /\
  ((Rx.leS (SV.ptr 1 0) (SV.ptr 1 0)) /\
   True))) /\
((Rx.leOO ([some (Ob.cells 133 [SV.dt (Dt.cell (.string s)), SV.dt (Dt.cell (.int .i64 a)), SV.dt (Dt.cell (.int .i64 c)), SV.dt (Dt.cell (.int .i64 (0 : Int)))]), some (Ob.cells 25 [SV.ki .i64 ((0 : Int)), SV.ki .i64 ((0 : Int)), SV.dt (Dt.cell (.string (ByteArray.mk #[]))), SV.dt (Dt.cell (.slice Option.none (0 : Nat) (0 : Nat)))])]) ([some (Ob.cells 133 [SV.dt (Dt.cell (.string s)), SV.dt (Dt.cell (.int .i64 a)), SV.dt (Dt.cell (.int .i64 c)), SV.dt (Dt.cell (.int .i64 (0 : Int)))]), some (Ob.cells 25 [SV.ki .i64 ((0 : Int)), SV.ki .i64 ((0 : Int)), SV.dt (Dt.cell (.string Rd.noS)), SV.dt (Dt.cell (.slice Option.none (0 : Nat) (0 : Nat)))])])) /\
 ((Rd.okS s a) /\
  ((((0 : Int) <= fr) /\
    ((fr <= Rd.bA s a) /\
     (Rd.bA s a <= (↑s.size : Int)))) /\
   (((((#[].extract (0 : Nat) (0 : Nat) ++ s.data.extract fr.toNat (fr.toNat + ((Rd.bA s a).toNat - fr.toNat)) ++ #[].extract ((0 : Nat) + Min.min ((Rd.bA s a).toNat - fr.toNat) (s.data.size - fr.toNat))).toList == [(35 : UInt8), (116 : UInt8)]) = true) ->
     (True /\
      R (SV.agg [SV.dt (Dt.cell (.int .i64 (2 : Int))), SV.dt (Dt.cell (.int .i64 (1 : Int))), SV.dt (Dt.cell (.string (ByteArray.mk #[]))), SV.dt (Dt.cell (.slice Option.none (0 : Nat) (0 : Nat)))]) ([some (Ob.cells 133 [SV.dt (Dt.cell (.string s)), SV.dt (Dt.cell (.int .i64 (Rd.bA s a))), SV.dt (Dt.cell (.int .i64 c)), SV.dt (Dt.cell (.int .i64 (0 : Int)))])]))) /\
    ((((#[].extract (0 : Nat) (0 : Nat) ++ s.data.extract fr.toNat (fr.toNat + ((Rd.bA s a).toNat - fr.toNat)) ++ #[].extract ((0 : Nat) + Min.min ((Rd.bA s a).toNat - fr.toNat) (s.data.size - fr.toNat))).toList == [(35 : UInt8), (116 : UInt8)]) = false) ->
     (((((#[].extract (0 : Nat) (0 : Nat) ++ s.data.extract fr.toNat (fr.toNat + ((Rd.bA s a).toNat - fr.toNat)) ++ #[].extract ((0 : Nat) + Min.min ((Rd.bA s a).toNat - fr.toNat) (s.data.size - fr.toNat))).toList == [(35 : UInt8), (102 : UInt8)]) = true) ->
       (True /\
        R (SV.agg [SV.dt (Dt.cell (.int .i64 (2 : Int))), SV.ki .i64 ((0 : Int)), SV.dt (Dt.cell (.string (ByteArray.mk #[]))), SV.dt (Dt.cell (.slice Option.none (0 : Nat) (0 : Nat)))]) ([some (Ob.cells 133 [SV.dt (Dt.cell (.string s)), SV.dt (Dt.cell (.int .i64 (Rd.bA s a))), SV.dt (Dt.cell (.int .i64 c)), SV.dt (Dt.cell (.int .i64 (0 : Int)))])]))) /\
      ((((#[].extract (0 : Nat) (0 : Nat) ++ s.data.extract fr.toNat (fr.toNat + ((Rd.bA s a).toNat - fr.toNat)) ++ #[].extract ((0 : Nat) + Min.min ((Rd.bA s a).toNat - fr.toNat) (s.data.size - fr.toNat))).toList == [(35 : UInt8), (102 : UInt8)]) = false) ->
       ((Rx.leL ([SV.dt (Dt.cell (.string (s.extract fr.toNat (Rd.bA s a).toNat)))]) ([SV.dt (Dt.cell (.string (s.extract fr.toNat (Rd.bA s a).toNat)))])) /\
        ((Rx.bD ([]) ([])) /\
         (((Rd.p9 (s.extract fr.toNat (Rd.bA s a).toNat) = true) ->
           (True /\
            R (SV.agg [SV.dt (Dt.cell (.int .i64 (3 : Int))), SV.ki .i64 ((0 : Int)), SV.dt (Dt.cell (.string (s.extract fr.toNat (Rd.bA s a).toNat))), SV.dt (Dt.cell (.slice Option.none (0 : Nat) (0 : Nat)))]) ([some (Ob.cells 133 [SV.dt (Dt.cell (.string s)), SV.dt (Dt.cell (.int .i64 (Rd.bA s a))), SV.dt (Dt.cell (.int .i64 c)), SV.dt (Dt.cell (.int .i64 (0 : Int)))])]))) /\
          ((Rd.p9 (s.extract fr.toNat (Rd.bA s a).toNat) = false) ->
           ((Rx.leL ([SV.dt (Dt.cell (.string (s.extract fr.toNat (Rd.bA s a).toNat)))]) ([SV.dt (Dt.cell (.string (s.extract fr.toNat (Rd.bA s a).toNat)))])) /\
            ((Rx.bD ([]) ([])) /\
             (((s.extract fr.toNat (Rd.bA s a).toNat).size <= (281474976710656 : Nat)) /\
              (((Rd.lK (s.extract fr.toNat (Rd.bA s a).toNat) = true) ->
                ((Rx.leL ([SV.dt (Dt.cell (.int .i64 (Rd.dK (s.extract fr.toNat (Rd.bA s a).toNat))))]) ([SV.dt (Dt.cell (.int .i64 (Rd.dK (s.extract fr.toNat (Rd.bA s a).toNat))))])) /\
                 ((Rx.bD ([]) ([])) /\
                  ((Rd.inI (Rd.dK (s.extract fr.toNat (Rd.bA s a).toNat))) /\
                   ((((!Go.Lib.itoa (Rd.dK (s.extract fr.toNat (Rd.bA s a).toNat)) == (#[].extract (0 : Nat) (0 : Nat) ++ s.data.extract fr.toNat (fr.toNat + ((Rd.bA s a).toNat - fr.toNat)) ++ #[].extract ((0 : Nat) + Min.min ((Rd.bA s a).toNat - fr.toNat) (s.data.size - fr.toNat))).toList) = true) ->
                     ((Rx.leL ([SV.ptr 0 0, SV.dt (Dt.cell (.int .i64 fr)), SV.dt (Dt.cell (.int .i64 (4 : Int)))]) ([SV.ptr 0 0, SV.dt (Dt.cell (.int .i64 fr)), SV.dt (Dt.cell (.int .i64 (4 : Int)))])) /\
                      ((Rx.bD ([Ob.cells 133 [SV.dt (Dt.cell (.string s)), SV.dt (Dt.cell (.int .i64 (Rd.bA s a))), SV.dt (Dt.cell (.int .i64 c)), SV.dt (Dt.cell (.int .i64 (0 : Int)))]]) ([Ob.cells 133 [SV.dt (Dt.cell (.string s)), SV.dt (Dt.cell (.int .i64 (Rd.bA s a))), SV.dt (Dt.cell (.int .i64 c)), SV.dt (Dt.cell (.int .i64 (0 : Int)))]])) /\
                       (True /\
                        R (SV.agg [SV.dt (Dt.cell (.int .i64 Rd.d0.k)), SV.dt (Dt.cell (.int .i64 Rd.d0.n)), SV.dt (Dt.cell (.string Rd.d0.s)), SV.dt (Dt.arr ((4 : Nat)) (Rd.d0.l.length) (Rd.dmL Rd.d0.l))]) ([some (Ob.cells 133 [SV.dt (Dt.cell (.string s)), SV.dt (Dt.cell (.int .i64 fr)), SV.dt (Dt.cell (.int .i64 c)), SV.dt (Dt.cell (.int .i64 (4 : Int)))])]))))) /\
                    (((!Go.Lib.itoa (Rd.dK (s.extract fr.toNat (Rd.bA s a).toNat)) == (#[].extract (0 : Nat) (0 : Nat) ++ s.data.extract fr.toNat (fr.toNat + ((Rd.bA s a).toNat - fr.toNat)) ++ #[].extract ((0 : Nat) + Min.min ((Rd.bA s a).toNat - fr.toNat) (s.data.size - fr.toNat))).toList) = false) ->
                     (((decide (Rd.dK (s.extract fr.toNat (Rd.bA s a).toNat) < (-1099511627776 : Int)) = true) ->
                       ((Rx.leL ([SV.ptr 0 0, SV.dt (Dt.cell (.int .i64 fr)), SV.dt (Dt.cell (.int .i64 (2 : Int)))]) ([SV.ptr 0 0, SV.dt (Dt.cell (.int .i64 fr)), SV.dt (Dt.cell (.int .i64 (2 : Int)))])) /\
                        ((Rx.bD ([Ob.cells 133 [SV.dt (Dt.cell (.string s)), SV.dt (Dt.cell (.int .i64 (Rd.bA s a))), SV.dt (Dt.cell (.int .i64 c)), SV.dt (Dt.cell (.int .i64 (0 : Int)))]]) ([Ob.cells 133 [SV.dt (Dt.cell (.string s)), SV.dt (Dt.cell (.int .i64 (Rd.bA s a))), SV.dt (Dt.cell (.int .i64 c)), SV.dt (Dt.cell (.int .i64 (0 : Int)))]])) /\
                         (True /\
                          R (SV.agg [SV.dt (Dt.cell (.int .i64 Rd.d0.k)), SV.dt (Dt.cell (.int .i64 Rd.d0.n)), SV.dt (Dt.cell (.string Rd.d0.s)), SV.dt (Dt.arr ((4 : Nat)) (Rd.d0.l.length) (Rd.dmL Rd.d0.l))]) ([some (Ob.cells 133 [SV.dt (Dt.cell (.string s)), SV.dt (Dt.cell (.int .i64 fr)), SV.dt (Dt.cell (.int .i64 c)), SV.dt (Dt.cell (.int .i64 (2 : Int)))])]))))) /\
                      ((decide (Rd.dK (s.extract fr.toNat (Rd.bA s a).toNat) < (-1099511627776 : Int)) = false) ->
                       (((decide (Rd.dK (s.extract fr.toNat (Rd.bA s a).toNat) > (1099511627776 : Int)) = true) ->
                         ((Rx.leL ([SV.ptr 0 0, SV.dt (Dt.cell (.int .i64 fr)), SV.dt (Dt.cell (.int .i64 (2 : Int)))]) ([SV.ptr 0 0, SV.dt (Dt.cell (.int .i64 fr)), SV.dt (Dt.cell (.int .i64 (2 : Int)))])) /\
                          ((Rx.bD ([Ob.cells 133 [SV.dt (Dt.cell (.string s)), SV.dt (Dt.cell (.int .i64 (Rd.bA s a))), SV.dt (Dt.cell (.int .i64 c)), SV.dt (Dt.cell (.int .i64 (0 : Int)))]]) ([Ob.cells 133 [SV.dt (Dt.cell (.string s)), SV.dt (Dt.cell (.int .i64 (Rd.bA s a))), SV.dt (Dt.cell (.int .i64 c)), SV.dt (Dt.cell (.int .i64 (0 : Int)))]])) /\
                           (True /\
                            R (SV.agg [SV.dt (Dt.cell (.int .i64 Rd.d0.k)), SV.dt (Dt.cell (.int .i64 Rd.d0.n)), SV.dt (Dt.cell (.string Rd.d0.s)), SV.dt (Dt.arr ((4 : Nat)) (Rd.d0.l.length) (Rd.dmL Rd.d0.l))]) ([some (Ob.cells 133 [SV.dt (Dt.cell (.string s)), SV.dt (Dt.cell (.int .i64 fr)), SV.dt (Dt.cell (.int .i64 c)), SV.dt (Dt.cell (.int .i64 (2 : Int)))])]))))) /\
                        ((decide (Rd.dK (s.extract fr.toNat (Rd.bA s a).toNat) > (1099511627776 : Int)) = false) ->
                         (True /\
                          R (SV.agg [SV.dt (Dt.cell (.int .i64 (1 : Int))), SV.dt (Dt.cell (.int .i64 (Rd.dK (s.extract fr.toNat (Rd.bA s a).toNat)))), SV.dt (Dt.cell (.string (ByteArray.mk #[]))), SV.dt (Dt.cell (.slice Option.none (0 : Nat) (0 : Nat)))]) ([some (Ob.cells 133 [SV.dt (Dt.cell (.string s)), SV.dt (Dt.cell (.int .i64 (Rd.bA s a))), SV.dt (Dt.cell (.int .i64 c)), SV.dt (Dt.cell (.int .i64 (0 : Int)))])])))))))))))) /\
               ((Rd.lK (s.extract fr.toNat (Rd.bA s a).toNat) = false) ->
                ((Rx.leL ([SV.ptr 0 0, SV.dt (Dt.cell (.int .i64 fr)), SV.dt (Dt.cell (.int .i64 (4 : Int)))]) ([SV.ptr 0 0, SV.dt (Dt.cell (.int .i64 fr)), SV.dt (Dt.cell (.int .i64 (4 : Int)))])) /\
                 ((Rx.bD ([Ob.cells 133 [SV.dt (Dt.cell (.string s)), SV.dt (Dt.cell (.int .i64 (Rd.bA s a))), SV.dt (Dt.cell (.int .i64 c)), SV.dt (Dt.cell (.int .i64 (0 : Int)))]]) ([Ob.cells 133 [SV.dt (Dt.cell (.string s)), SV.dt (Dt.cell (.int .i64 (Rd.bA s a))), SV.dt (Dt.cell (.int .i64 c)), SV.dt (Dt.cell (.int .i64 (0 : Int)))]])) /\
                  (True /\
                   R (SV.agg [SV.dt (Dt.cell (.int .i64 Rd.d0.k)), SV.dt (Dt.cell (.int .i64 Rd.d0.n)), SV.dt (Dt.cell (.string Rd.d0.s)), SV.dt (Dt.arr ((4 : Nat)) (Rd.d0.l.length) (Rd.dmL Rd.d0.l))]) ([some (Ob.cells 133 [SV.dt (Dt.cell (.string s)), SV.dt (Dt.cell (.int .i64 fr)), SV.dt (Dt.cell (.int .i64 c)), SV.dt (Dt.cell (.int .i64 (4 : Int)))])])))))))))))))))))))))
def Oq (s : ByteArray) (g : Nat) (lv a c : Int) (acc : List Dm) (Rn : List SV -> List (Option Ob) -> Prop) (Re : Ex -> List SV -> List (Option Ob) -> Prop) : Prop :=
((Rx.leL ([SV.ptr 0 0]) ([SV.ptr 0 0])) /\
((Rx.bD ([Ob.cells 133 [SV.dt (Dt.cell (.string s)), SV.dt (Dt.cell (.int .i64 a)), SV.dt (Dt.cell (.int .i64 c)), SV.dt (Dt.cell (.int .i64 (0 : Int)))]]) ([Ob.cells 133 [SV.dt (Dt.cell (.string s)), SV.dt (Dt.cell (.int .i64 a)), SV.dt (Dt.cell (.int .i64 c)), SV.dt (Dt.cell (.int .i64 (0 : Int)))]])) /\
 ((Rd.okS s a) /\
  (((((0 : Int) == (0 : Int)) = true) ->
    (((decide (Rd.blk s a < (↑s.size : Int)) = true) ->
      ((((0 : Int) <= Rd.blk s a) /\
        (Rd.blk s a < (↑s.size : Int))) /\
       ((((au s (Rd.blk s a) == (41 : Int)) = true) ->
         (((Rx.lo .i64 <= Rd.blk s a + (1 : Int)) /\
           (Rd.blk s a + (1 : Int) <= Rx.hi .i64)) /\
          Re (Rx.Ex.ret) ([SV.ptr 1 0]) ([some (Ob.cells 133 [SV.dt (Dt.cell (.string s)), SV.dt (Dt.cell (.int .i64 (Rd.blk s a + (1 : Int)))), SV.dt (Dt.cell (.int .i64 c)), SV.dt (Dt.cell (.int .i64 (0 : Int)))]), some (Ob.cells 25 [SV.dt (Dt.cell (.int .i64 (4 : Int))), SV.dt (Dt.cell (.int .i64 (0 : Int))), SV.dt (Dt.cell (.string Rd.noS)), SV.nm 2]), some (Ob.row 25 4 (acc.length) (Rd.dmL acc))]))) /\
        (((au s (Rd.blk s a) == (41 : Int)) = false) ->
         (((Rx.lo .i64 <= lv + (1 : Int)) /\
           (lv + (1 : Int) <= Rx.hi .i64)) /\
          ((Rx.leL ([SV.ptr 0 0, SV.dt (Dt.cell (.int .i64 (lv + (1 : Int))))]) ([SV.ptr 0 0, SV.dt (Dt.cell (.int .i64 (lv + (1 : Int))))])) /\
           ((Rx.bD ([Ob.cells 133 [SV.dt (Dt.cell (.string s)), SV.dt (Dt.cell (.int .i64 (Rd.blk s a))), SV.dt (Dt.cell (.int .i64 c)), SV.dt (Dt.cell (.int .i64 (0 : Int)))]]) ([Ob.cells 133 [SV.dt (Dt.cell (.string s)), SV.dt (Dt.cell (.int .i64 (Rd.blk s a))), SV.dt (Dt.cell (.int .i64 c)), SV.dt (Dt.cell (.int .i64 (0 : Int)))]])) /\
            (((Rd.okS s (Rd.blk s a)) /\
              ((Rd.okC c) /\
               ((Rd.okL (lv + (1 : Int))) /\
                ((Rd.jW s g (lv + (1 : Int)) (Rd.blk s a) c).isSome = true)))) /\
             (((((Rd.aU s g (lv + (1 : Int)) (Rd.blk s a) c).e != (0 : Int)) = true) ->
               Re (Rx.Ex.ret) ([SV.ptr 1 0]) ([some (Ob.cells 133 [SV.dt (Dt.cell (.string s)), SV.dt (Dt.cell (.int .i64 (Rd.aU s g (lv + (1 : Int)) (Rd.blk s a) c).a)), SV.dt (Dt.cell (.int .i64 (Rd.aU s g (lv + (1 : Int)) (Rd.blk s a) c).c)), SV.dt (Dt.cell (.int .i64 (Rd.aU s g (lv + (1 : Int)) (Rd.blk s a) c).e))]), some (Ob.cells 25 [SV.dt (Dt.cell (.int .i64 (4 : Int))), SV.dt (Dt.cell (.int .i64 (0 : Int))), SV.dt (Dt.cell (.string Rd.noS)), SV.nm 2]), some (Ob.row 25 4 (acc.length) (Rd.dmL acc))])) /\
              ((((Rd.aU s g (lv + (1 : Int)) (Rd.blk s a) c).e != (0 : Int)) = false) ->
               (((acc.length + (1 : Nat)) * (56 : Nat) <= (140737488355328 : Nat)) /\
                Rn ([SV.ptr 0 0, SV.dt (Dt.cell (.int .i64 lv)), SV.ptr 1 0, SV.ptr 2 0]) ([some (Ob.cells 133 [SV.dt (Dt.cell (.string s)), SV.dt (Dt.cell (.int .i64 (Rd.aU s g (lv + (1 : Int)) (Rd.blk s a) c).a)), SV.dt (Dt.cell (.int .i64 (Rd.aU s g (lv + (1 : Int)) (Rd.blk s a) c).c)), SV.dt (Dt.cell (.int .i64 (Rd.aU s g (lv + (1 : Int)) (Rd.blk s a) c).e))]), some (Ob.cells 25 [SV.ki .i64 ((0 : Int)), SV.ki .i64 ((0 : Int)), SV.dt (Dt.cell (.string Rd.noS)), SV.dt (Dt.cell (.slice Option.none (0 : Nat) (0 : Nat)))]), some (Ob.cells 25 [SV.dt (Dt.cell (.int .i64 (4 : Int))), SV.dt (Dt.cell (.int .i64 (0 : Int))), SV.dt (Dt.cell (.string Rd.noS)), SV.nm 3]), some (Ob.row 25 4 (acc.length + (1 : Nat)) (Rx.gP acc.length (Rd.dmL acc) (Rx.lV (4 : Nat) [Rx.Dt.cell (.int .i64 (Rd.aU s g (lv + (1 : Int)) (Rd.blk s a) c).d.k), Rx.Dt.cell (.int .i64 (Rd.aU s g (lv + (1 : Int)) (Rd.blk s a) c).d.n), Rx.Dt.cell (.string (Rd.aU s g (lv + (1 : Int)) (Rd.blk s a) c).d.s), Rx.Dt.arr (4 : Nat) (Rd.aU s g (lv + (1 : Int)) (Rd.blk s a) c).d.l.length (Rd.dmL (Rd.aU s g (lv + (1 : Int)) (Rd.blk s a) c).d.l)])))])))))))))))) /\
     ((decide (Rd.blk s a < (↑s.size : Int)) = false) ->
      (((Rx.lo .i64 <= lv + (1 : Int)) /\
        (lv + (1 : Int) <= Rx.hi .i64)) /\
       ((Rx.leL ([SV.ptr 0 0, SV.dt (Dt.cell (.int .i64 (lv + (1 : Int))))]) ([SV.ptr 0 0, SV.dt (Dt.cell (.int .i64 (lv + (1 : Int))))])) /\
        ((Rx.bD ([Ob.cells 133 [SV.dt (Dt.cell (.string s)), SV.dt (Dt.cell (.int .i64 (Rd.blk s a))), SV.dt (Dt.cell (.int .i64 c)), SV.dt (Dt.cell (.int .i64 (0 : Int)))]]) ([Ob.cells 133 [SV.dt (Dt.cell (.string s)), SV.dt (Dt.cell (.int .i64 (Rd.blk s a))), SV.dt (Dt.cell (.int .i64 c)), SV.dt (Dt.cell (.int .i64 (0 : Int)))]])) /\
         (((Rd.okS s (Rd.blk s a)) /\
           ((Rd.okC c) /\
            ((Rd.okL (lv + (1 : Int))) /\
             ((Rd.jW s g (lv + (1 : Int)) (Rd.blk s a) c).isSome = true)))) /\
          (((((Rd.aU s g (lv + (1 : Int)) (Rd.blk s a) c).e != (0 : Int)) = true) ->
            Re (Rx.Ex.ret) ([SV.ptr 1 0]) ([some (Ob.cells 133 [SV.dt (Dt.cell (.string s)), SV.dt (Dt.cell (.int .i64 (Rd.aU s g (lv + (1 : Int)) (Rd.blk s a) c).a)), SV.dt (Dt.cell (.int .i64 (Rd.aU s g (lv + (1 : Int)) (Rd.blk s a) c).c)), SV.dt (Dt.cell (.int .i64 (Rd.aU s g (lv + (1 : Int)) (Rd.blk s a) c).e))]), some (Ob.cells 25 [SV.dt (Dt.cell (.int .i64 (4 : Int))), SV.dt (Dt.cell (.int .i64 (0 : Int))), SV.dt (Dt.cell (.string Rd.noS)), SV.nm 2]), some (Ob.row 25 4 (acc.length) (Rd.dmL acc))])) /\
           ((((Rd.aU s g (lv + (1 : Int)) (Rd.blk s a) c).e != (0 : Int)) = false) ->
            (((acc.length + (1 : Nat)) * (56 : Nat) <= (140737488355328 : Nat)) /\
             Rn ([SV.ptr 0 0, SV.dt (Dt.cell (.int .i64 lv)), SV.ptr 1 0, SV.ptr 2 0]) ([some (Ob.cells 133 [SV.dt (Dt.cell (.string s)), SV.dt (Dt.cell (.int .i64 (Rd.aU s g (lv + (1 : Int)) (Rd.blk s a) c).a)), SV.dt (Dt.cell (.int .i64 (Rd.aU s g (lv + (1 : Int)) (Rd.blk s a) c).c)), SV.dt (Dt.cell (.int .i64 (Rd.aU s g (lv + (1 : Int)) (Rd.blk s a) c).e))]), some (Ob.cells 25 [SV.ki .i64 ((0 : Int)), SV.ki .i64 ((0 : Int)), SV.dt (Dt.cell (.string Rd.noS)), SV.dt (Dt.cell (.slice Option.none (0 : Nat) (0 : Nat)))]), some (Ob.cells 25 [SV.dt (Dt.cell (.int .i64 (4 : Int))), SV.dt (Dt.cell (.int .i64 (0 : Int))), SV.dt (Dt.cell (.string Rd.noS)), SV.nm 3]), some (Ob.row 25 4 (acc.length + (1 : Nat)) (Rx.gP acc.length (Rd.dmL acc) (Rx.lV (4 : Nat) [Rx.Dt.cell (.int .i64 (Rd.aU s g (lv + (1 : Int)) (Rd.blk s a) c).d.k), Rx.Dt.cell (.int .i64 (Rd.aU s g (lv + (1 : Int)) (Rd.blk s a) c).d.n), Rx.Dt.cell (.string (Rd.aU s g (lv + (1 : Int)) (Rd.blk s a) c).d.s), Rx.Dt.arr (4 : Nat) (Rd.aU s g (lv + (1 : Int)) (Rd.blk s a) c).d.l.length (Rd.dmL (Rd.aU s g (lv + (1 : Int)) (Rd.blk s a) c).d.l)])))]))))))))))) /\
   ((((0 : Int) == (0 : Int)) = false) ->
    (((Rx.lo .i64 <= lv + (1 : Int)) /\
      (lv + (1 : Int) <= Rx.hi .i64)) /\
     ((Rx.leL ([SV.ptr 0 0, SV.dt (Dt.cell (.int .i64 (lv + (1 : Int))))]) ([SV.ptr 0 0, SV.dt (Dt.cell (.int .i64 (lv + (1 : Int))))])) /\
      ((Rx.bD ([Ob.cells 133 [SV.dt (Dt.cell (.string s)), SV.dt (Dt.cell (.int .i64 (Rd.blk s a))), SV.dt (Dt.cell (.int .i64 c)), SV.dt (Dt.cell (.int .i64 (0 : Int)))]]) ([Ob.cells 133 [SV.dt (Dt.cell (.string s)), SV.dt (Dt.cell (.int .i64 (Rd.blk s a))), SV.dt (Dt.cell (.int .i64 c)), SV.dt (Dt.cell (.int .i64 (0 : Int)))]])) /\
       (((Rd.okS s (Rd.blk s a)) /\
         ((Rd.okC c) /\
          ((Rd.okL (lv + (1 : Int))) /\
           ((Rd.jW s g (lv + (1 : Int)) (Rd.blk s a) c).isSome = true)))) /\
        (((((Rd.aU s g (lv + (1 : Int)) (Rd.blk s a) c).e != (0 : Int)) = true) ->
          Re (Rx.Ex.ret) ([SV.ptr 1 0]) ([some (Ob.cells 133 [SV.dt (Dt.cell (.string s)), SV.dt (Dt.cell (.int .i64 (Rd.aU s g (lv + (1 : Int)) (Rd.blk s a) c).a)), SV.dt (Dt.cell (.int .i64 (Rd.aU s g (lv + (1 : Int)) (Rd.blk s a) c).c)), SV.dt (Dt.cell (.int .i64 (Rd.aU s g (lv + (1 : Int)) (Rd.blk s a) c).e))]), some (Ob.cells 25 [SV.dt (Dt.cell (.int .i64 (4 : Int))), SV.dt (Dt.cell (.int .i64 (0 : Int))), SV.dt (Dt.cell (.string Rd.noS)), SV.nm 2]), some (Ob.row 25 4 (acc.length) (Rd.dmL acc))])) /\
         ((((Rd.aU s g (lv + (1 : Int)) (Rd.blk s a) c).e != (0 : Int)) = false) ->
          (((acc.length + (1 : Nat)) * (56 : Nat) <= (140737488355328 : Nat)) /\
           Rn ([SV.ptr 0 0, SV.dt (Dt.cell (.int .i64 lv)), SV.ptr 1 0, SV.ptr 2 0]) ([some (Ob.cells 133 [SV.dt (Dt.cell (.string s)), SV.dt (Dt.cell (.int .i64 (Rd.aU s g (lv + (1 : Int)) (Rd.blk s a) c).a)), SV.dt (Dt.cell (.int .i64 (Rd.aU s g (lv + (1 : Int)) (Rd.blk s a) c).c)), SV.dt (Dt.cell (.int .i64 (Rd.aU s g (lv + (1 : Int)) (Rd.blk s a) c).e))]), some (Ob.cells 25 [SV.ki .i64 ((0 : Int)), SV.ki .i64 ((0 : Int)), SV.dt (Dt.cell (.string Rd.noS)), SV.dt (Dt.cell (.slice Option.none (0 : Nat) (0 : Nat)))]), some (Ob.cells 25 [SV.dt (Dt.cell (.int .i64 (4 : Int))), SV.dt (Dt.cell (.int .i64 (0 : Int))), SV.dt (Dt.cell (.string Rd.noS)), SV.nm 3]), some (Ob.row 25 4 (acc.length + (1 : Nat)) (Rx.gP acc.length (Rd.dmL acc) (Rx.lV (4 : Nat) [Rx.Dt.cell (.int .i64 (Rd.aU s g (lv + (1 : Int)) (Rd.blk s a) c).d.k), Rx.Dt.cell (.int .i64 (Rd.aU s g (lv + (1 : Int)) (Rd.blk s a) c).d.n), Rx.Dt.cell (.string (Rd.aU s g (lv + (1 : Int)) (Rd.blk s a) c).d.s), Rx.Dt.arr (4 : Nat) (Rd.aU s g (lv + (1 : Int)) (Rd.blk s a) c).d.l.length (Rd.dmL (Rd.aU s g (lv + (1 : Int)) (Rd.blk s a) c).d.l)])))])))))))))))))
def Rc (s : ByteArray) (g : Nat) (lv a c : Int) (R : SV -> List (Option Ob) -> Prop) : Prop :=
((Rx.leL ([SV.ptr 0 0]) ([SV.ptr 0 0])) /\
((Rx.bD ([Ob.cells 133 [SV.dt (Dt.cell (.string s)), SV.dt (Dt.cell (.int .i64 a)), SV.dt (Dt.cell (.int .i64 c)), SV.dt (Dt.cell (.int .i64 (0 : Int)))]]) ([Ob.cells 133 [SV.dt (Dt.cell (.string s)), SV.dt (Dt.cell (.int .i64 a)), SV.dt (Dt.cell (.int .i64 c)), SV.dt (Dt.cell (.int .i64 (0 : Int)))]])) /\
 ((Rd.okS s a) /\
  (((((0 : Int) != (0 : Int)) = true) ->
    (True /\
     R (SV.agg [SV.ki .i64 ((0 : Int)), SV.ki .i64 ((0 : Int)), SV.dt (Dt.cell (.string (ByteArray.mk #[]))), SV.dt (Dt.cell (.slice Option.none (0 : Nat) (0 : Nat)))]) ([some (Ob.cells 133 [SV.dt (Dt.cell (.string s)), SV.dt (Dt.cell (.int .i64 (Rd.blk s a))), SV.dt (Dt.cell (.int .i64 c)), SV.dt (Dt.cell (.int .i64 (0 : Int)))])]))) /\
   ((((0 : Int) != (0 : Int)) = false) ->
    ((((Rd.blk s a == (↑s.size : Int)) = true) ->
      ((Rx.leL ([SV.ptr 0 0, SV.dt (Dt.cell (.int .i64 (Rd.blk s a))), SV.dt (Dt.cell (.int .i64 (5 : Int)))]) ([SV.ptr 0 0, SV.dt (Dt.cell (.int .i64 (Rd.blk s a))), SV.dt (Dt.cell (.int .i64 (5 : Int)))])) /\
       ((Rx.bD ([Ob.cells 133 [SV.dt (Dt.cell (.string s)), SV.dt (Dt.cell (.int .i64 (Rd.blk s a))), SV.dt (Dt.cell (.int .i64 c)), SV.dt (Dt.cell (.int .i64 (0 : Int)))]]) ([Ob.cells 133 [SV.dt (Dt.cell (.string s)), SV.dt (Dt.cell (.int .i64 (Rd.blk s a))), SV.dt (Dt.cell (.int .i64 c)), SV.dt (Dt.cell (.int .i64 (0 : Int)))]])) /\
        (True /\
         R (SV.agg [SV.dt (Dt.cell (.int .i64 Rd.d0.k)), SV.dt (Dt.cell (.int .i64 Rd.d0.n)), SV.dt (Dt.cell (.string Rd.d0.s)), SV.dt (Dt.arr ((4 : Nat)) (Rd.d0.l.length) (Rd.dmL Rd.d0.l))]) ([some (Ob.cells 133 [SV.dt (Dt.cell (.string s)), SV.dt (Dt.cell (.int .i64 (Rd.blk s a))), SV.dt (Dt.cell (.int .i64 c)), SV.dt (Dt.cell (.int .i64 (5 : Int)))])]))))) /\
     (((Rd.blk s a == (↑s.size : Int)) = false) ->
      (((Rx.lo .i64 <= c + (1 : Int)) /\
        (c + (1 : Int) <= Rx.hi .i64)) /\
       (((decide (c + (1 : Int) > (400 : Int)) = true) ->
         ((Rx.leL ([SV.ptr 0 0, SV.dt (Dt.cell (.int .i64 (Rd.blk s a))), SV.dt (Dt.cell (.int .i64 (1 : Int)))]) ([SV.ptr 0 0, SV.dt (Dt.cell (.int .i64 (Rd.blk s a))), SV.dt (Dt.cell (.int .i64 (1 : Int)))])) /\
          ((Rx.bD ([Ob.cells 133 [SV.dt (Dt.cell (.string s)), SV.dt (Dt.cell (.int .i64 (Rd.blk s a))), SV.dt (Dt.cell (.int .i64 (c + (1 : Int)))), SV.dt (Dt.cell (.int .i64 (0 : Int)))]]) ([Ob.cells 133 [SV.dt (Dt.cell (.string s)), SV.dt (Dt.cell (.int .i64 (Rd.blk s a))), SV.dt (Dt.cell (.int .i64 (c + (1 : Int)))), SV.dt (Dt.cell (.int .i64 (0 : Int)))]])) /\
           (True /\
            R (SV.agg [SV.dt (Dt.cell (.int .i64 Rd.d0.k)), SV.dt (Dt.cell (.int .i64 Rd.d0.n)), SV.dt (Dt.cell (.string Rd.d0.s)), SV.dt (Dt.arr ((4 : Nat)) (Rd.d0.l.length) (Rd.dmL Rd.d0.l))]) ([some (Ob.cells 133 [SV.dt (Dt.cell (.string s)), SV.dt (Dt.cell (.int .i64 (Rd.blk s a))), SV.dt (Dt.cell (.int .i64 (c + (1 : Int)))), SV.dt (Dt.cell (.int .i64 (1 : Int)))])]))))) /\
        ((decide (c + (1 : Int) > (400 : Int)) = false) ->
         (((decide (lv > (40 : Int)) = true) ->
           ((Rx.leL ([SV.ptr 0 0, SV.dt (Dt.cell (.int .i64 (Rd.blk s a))), SV.dt (Dt.cell (.int .i64 (8 : Int)))]) ([SV.ptr 0 0, SV.dt (Dt.cell (.int .i64 (Rd.blk s a))), SV.dt (Dt.cell (.int .i64 (8 : Int)))])) /\
            ((Rx.bD ([Ob.cells 133 [SV.dt (Dt.cell (.string s)), SV.dt (Dt.cell (.int .i64 (Rd.blk s a))), SV.dt (Dt.cell (.int .i64 (c + (1 : Int)))), SV.dt (Dt.cell (.int .i64 (0 : Int)))]]) ([Ob.cells 133 [SV.dt (Dt.cell (.string s)), SV.dt (Dt.cell (.int .i64 (Rd.blk s a))), SV.dt (Dt.cell (.int .i64 (c + (1 : Int)))), SV.dt (Dt.cell (.int .i64 (0 : Int)))]])) /\
             (True /\
              R (SV.agg [SV.dt (Dt.cell (.int .i64 Rd.d0.k)), SV.dt (Dt.cell (.int .i64 Rd.d0.n)), SV.dt (Dt.cell (.string Rd.d0.s)), SV.dt (Dt.arr ((4 : Nat)) (Rd.d0.l.length) (Rd.dmL Rd.d0.l))]) ([some (Ob.cells 133 [SV.dt (Dt.cell (.string s)), SV.dt (Dt.cell (.int .i64 (Rd.blk s a))), SV.dt (Dt.cell (.int .i64 (c + (1 : Int)))), SV.dt (Dt.cell (.int .i64 (8 : Int)))])]))))) /\
          ((decide (lv > (40 : Int)) = false) ->
           ((((0 : Int) <= Rd.blk s a) /\
             (Rd.blk s a < (↑s.size : Int))) /\
            ((((au s (Rd.blk s a) == (41 : Int)) = true) ->
              ((Rx.leL ([SV.ptr 0 0, SV.dt (Dt.cell (.int .i64 (Rd.blk s a))), SV.dt (Dt.cell (.int .i64 (4 : Int)))]) ([SV.ptr 0 0, SV.dt (Dt.cell (.int .i64 (Rd.blk s a))), SV.dt (Dt.cell (.int .i64 (4 : Int)))])) /\
               ((Rx.bD ([Ob.cells 133 [SV.dt (Dt.cell (.string s)), SV.dt (Dt.cell (.int .i64 (Rd.blk s a))), SV.dt (Dt.cell (.int .i64 (c + (1 : Int)))), SV.dt (Dt.cell (.int .i64 (0 : Int)))]]) ([Ob.cells 133 [SV.dt (Dt.cell (.string s)), SV.dt (Dt.cell (.int .i64 (Rd.blk s a))), SV.dt (Dt.cell (.int .i64 (c + (1 : Int)))), SV.dt (Dt.cell (.int .i64 (0 : Int)))]])) /\
                (True /\
                 R (SV.agg [SV.dt (Dt.cell (.int .i64 Rd.d0.k)), SV.dt (Dt.cell (.int .i64 Rd.d0.n)), SV.dt (Dt.cell (.string Rd.d0.s)), SV.dt (Dt.arr ((4 : Nat)) (Rd.d0.l.length) (Rd.dmL Rd.d0.l))]) ([some (Ob.cells 133 [SV.dt (Dt.cell (.string s)), SV.dt (Dt.cell (.int .i64 (Rd.blk s a))), SV.dt (Dt.cell (.int .i64 (c + (1 : Int)))), SV.dt (Dt.cell (.int .i64 (4 : Int)))])]))))) /\
             (((au s (Rd.blk s a) == (41 : Int)) = false) ->
              ((((au s (Rd.blk s a) == (39 : Int)) = true) ->
                (((Rx.lo .i64 <= Rd.blk s a + (1 : Int)) /\
                  (Rd.blk s a + (1 : Int) <= Rx.hi .i64)) /\
                 (((Rx.lo .i64 <= lv + (1 : Int)) /\
                   (lv + (1 : Int) <= Rx.hi .i64)) /\
                  ((Rx.leL ([SV.ptr 0 0, SV.dt (Dt.cell (.int .i64 (lv + (1 : Int))))]) ([SV.ptr 0 0, SV.dt (Dt.cell (.int .i64 (lv + (1 : Int))))])) /\
                   ((Rx.bD ([Ob.cells 133 [SV.dt (Dt.cell (.string s)), SV.dt (Dt.cell (.int .i64 (Rd.blk s a + (1 : Int)))), SV.dt (Dt.cell (.int .i64 (c + (1 : Int)))), SV.dt (Dt.cell (.int .i64 (0 : Int)))]]) ([Ob.cells 133 [SV.dt (Dt.cell (.string s)), SV.dt (Dt.cell (.int .i64 (Rd.blk s a + (1 : Int)))), SV.dt (Dt.cell (.int .i64 (c + (1 : Int)))), SV.dt (Dt.cell (.int .i64 (0 : Int)))]])) /\
                    (((Rd.okS s (Rd.blk s a + (1 : Int))) /\
                      ((Rd.okC (c + (1 : Int))) /\
                       ((Rd.okL (lv + (1 : Int))) /\
                        ((Rd.jW s g (lv + (1 : Int)) (Rd.blk s a + (1 : Int)) (c + (1 : Int))).isSome = true)))) /\
                     (True /\
                      R (SV.agg [SV.dt (Dt.cell (.int .i64 (4 : Int))), SV.ki .i64 ((0 : Int)), SV.dt (Dt.cell (.string (ByteArray.mk #[]))), SV.dt (Dt.arr ((4 : Nat)) ((2 : Nat)) (Rx.lV (4 : Nat) [Rx.Dt.cell (.int .i64 (3 : Int)), Rx.Dt.cell (.int .i64 (0 : Int)), Rx.Dt.cell (.string (ByteArray.mk #[(113 : UInt8), (117 : UInt8), (111 : UInt8), (116 : UInt8), (101 : UInt8)])), Rx.Dt.cell (.slice Option.none (0 : Nat) (0 : Nat)), Rx.Dt.cell (.int .i64 (Rd.aU s g (lv + (1 : Int)) (Rd.blk s a + (1 : Int)) (c + (1 : Int))).d.k), Rx.Dt.cell (.int .i64 (Rd.aU s g (lv + (1 : Int)) (Rd.blk s a + (1 : Int)) (c + (1 : Int))).d.n), Rx.Dt.cell (.string (Rd.aU s g (lv + (1 : Int)) (Rd.blk s a + (1 : Int)) (c + (1 : Int))).d.s), Rx.Dt.arr (4 : Nat) (Rd.aU s g (lv + (1 : Int)) (Rd.blk s a + (1 : Int)) (c + (1 : Int))).d.l.length (Rd.dmL (Rd.aU s g (lv + (1 : Int)) (Rd.blk s a + (1 : Int)) (c + (1 : Int))).d.l)]))]) ([some (Ob.cells 133 [SV.dt (Dt.cell (.string s)), SV.dt (Dt.cell (.int .i64 (Rd.aU s g (lv + (1 : Int)) (Rd.blk s a + (1 : Int)) (c + (1 : Int))).a)), SV.dt (Dt.cell (.int .i64 (Rd.aU s g (lv + (1 : Int)) (Rd.blk s a + (1 : Int)) (c + (1 : Int))).c)), SV.dt (Dt.cell (.int .i64 (Rd.aU s g (lv + (1 : Int)) (Rd.blk s a + (1 : Int)) (c + (1 : Int))).e))])])))))))) /\
               (((au s (Rd.blk s a) == (39 : Int)) = false) ->
                ((((au s (Rd.blk s a) == (40 : Int)) = true) ->
                  (((Rx.lo .i64 <= Rd.blk s a + (1 : Int)) /\
                    (Rd.blk s a + (1 : Int) <= Rx.hi .i64)) /\
                   (((Rx.leS (SV.ptr 0 0) (SV.ptr 0 0)) /\
                     ((Rx.leS (SV.dt (Dt.cell (.int .i64 lv))) (SV.dt (Dt.cell (.int .i64 lv)))) /\
                      ((Rx.leS (SV.ptr 1 0) (SV.ptr 1 0)) /\
                       ((Rx.leS (SV.ptr 2 0) (SV.ptr 2 0)) /\
                        True)))) /\
                    ((Rx.leOO ([some (Ob.cells 133 [SV.dt (Dt.cell (.string s)), SV.dt (Dt.cell (.int .i64 (Rd.blk s a + (1 : Int)))), SV.dt (Dt.cell (.int .i64 (c + (1 : Int)))), SV.dt (Dt.cell (.int .i64 (0 : Int)))]), some (Ob.cells 25 [SV.ki .i64 ((0 : Int)), SV.ki .i64 ((0 : Int)), SV.dt (Dt.cell (.string (ByteArray.mk #[]))), SV.dt (Dt.cell (.slice Option.none (0 : Nat) (0 : Nat)))]), some (Ob.cells 25 [SV.dt (Dt.cell (.int .i64 (4 : Int))), SV.ki .i64 ((0 : Int)), SV.dt (Dt.cell (.string (ByteArray.mk #[]))), SV.nm 3]), some (Ob.row 25 4 ((0 : Nat)) (fun x x_1 => Rx.aR))]) ([some (Ob.cells 133 [SV.dt (Dt.cell (.string s)), SV.dt (Dt.cell (.int .i64 (Rd.blk s a + (1 : Int)))), SV.dt (Dt.cell (.int .i64 (c + (1 : Int)))), SV.dt (Dt.cell (.int .i64 (0 : Int)))]), some (Ob.cells 25 [SV.ki .i64 ((0 : Int)), SV.ki .i64 ((0 : Int)), SV.dt (Dt.cell (.string Rd.noS)), SV.dt (Dt.cell (.slice Option.none (0 : Nat) (0 : Nat)))]), some (Ob.cells 25 [SV.dt (Dt.cell (.int .i64 (4 : Int))), SV.dt (Dt.cell (.int .i64 (0 : Int))), SV.dt (Dt.cell (.string Rd.noS)), SV.nm 3]), some (Ob.row 25 4 (Rd.gT.length) (Rd.dmL Rd.gT))])) /\
                     (((g <= g) /\
                       ((Rd.okS s (Rd.blk s a + (1 : Int))) /\
                        ((Rd.okC (c + (1 : Int))) /\
                         ((((1 : Int) <= lv) /\
                           (lv <= (40 : Int))) /\
                          (((↑Rd.gT.length : Int) <= c + (1 : Int)) /\
                           ((Rd.nR s g lv (Rd.blk s a + (1 : Int)) (c + (1 : Int)) Rd.gT).isSome = true)))))) /\
                      (True /\
                       R (SV.agg [SV.dt (Dt.cell (.int .i64 (4 : Int))), SV.dt (Dt.cell (.int .i64 (0 : Int))), SV.dt (Dt.cell (.string Rd.noS)), SV.dt (Dt.arr ((4 : Nat)) ((Rd.ku s g lv (Rd.blk s a + (1 : Int)) (c + (1 : Int)) Rd.gT).d.l.length) (Rd.dmL (Rd.ku s g lv (Rd.blk s a + (1 : Int)) (c + (1 : Int)) Rd.gT).d.l))]) ([some (Ob.cells 133 [SV.dt (Dt.cell (.string s)), SV.dt (Dt.cell (.int .i64 (Rd.ku s g lv (Rd.blk s a + (1 : Int)) (c + (1 : Int)) Rd.gT).a)), SV.dt (Dt.cell (.int .i64 (Rd.ku s g lv (Rd.blk s a + (1 : Int)) (c + (1 : Int)) Rd.gT).c)), SV.dt (Dt.cell (.int .i64 (Rd.ku s g lv (Rd.blk s a + (1 : Int)) (c + (1 : Int)) Rd.gT).e))])]))))))) /\
                 (((au s (Rd.blk s a) == (40 : Int)) = false) ->
                  ((Rx.leL ([SV.ptr 0 0, SV.dt (Dt.cell (.int .i64 (Rd.blk s a)))]) ([SV.ptr 0 0, SV.dt (Dt.cell (.int .i64 (Rd.blk s a)))])) /\
                   ((Rx.bD ([Ob.cells 133 [SV.dt (Dt.cell (.string s)), SV.dt (Dt.cell (.int .i64 (Rd.blk s a))), SV.dt (Dt.cell (.int .i64 (c + (1 : Int)))), SV.dt (Dt.cell (.int .i64 (0 : Int)))]]) ([Ob.cells 133 [SV.dt (Dt.cell (.string s)), SV.dt (Dt.cell (.int .i64 (Rd.blk s a))), SV.dt (Dt.cell (.int .i64 (c + (1 : Int)))), SV.dt (Dt.cell (.int .i64 (0 : Int)))]])) /\
                    (((Rd.okS s (Rd.blk s a)) /\
                      (((0 : Int) <= Rd.blk s a) /\
                       (Rd.blk s a <= Rd.blk s a))) /\
                     (True /\
                      R (SV.agg [SV.dt (Dt.cell (.int .i64 (Rd.atD (Rd.aH s (Rd.blk s a) (Rd.blk s a))).k)), SV.dt (Dt.cell (.int .i64 (Rd.atD (Rd.aH s (Rd.blk s a) (Rd.blk s a))).n)), SV.dt (Dt.cell (.string (Rd.atD (Rd.aH s (Rd.blk s a) (Rd.blk s a))).s)), SV.dt (Dt.arr ((4 : Nat)) ((Rd.atD (Rd.aH s (Rd.blk s a) (Rd.blk s a))).l.length) (Rd.dmL (Rd.atD (Rd.aH s (Rd.blk s a) (Rd.blk s a))).l))]) ([some (Ob.cells 133 [SV.dt (Dt.cell (.string s)), SV.dt (Dt.cell (.int .i64 (if Rd.atE (Rd.aH s (Rd.blk s a) (Rd.blk s a)) = (0 : Int) then Rd.bA s (Rd.blk s a) else Rd.blk s a))), SV.dt (Dt.cell (.int .i64 (c + (1 : Int)))), SV.dt (Dt.cell (.int .i64 (Rd.atE (Rd.aH s (Rd.blk s a) (Rd.blk s a)))))])]))))))))))))))))))))))))
theorem C8 (s : ByteArray) : ∀ f, (∀ lv a c r, jW s f lv a c = some r -> jW s (f + 1) lv a c = some r) /\ (∀ lv a c acc r, nR s f lv a c acc = some r -> nR s (f + 1) lv a c acc = some r)
 | 0 => ⟨fun _ _ _ _ h => by simp [jW] at h, fun _ _ _ _ _ h => by simp [nR] at h⟩
 | f + 1 => by
   obtain ⟨h1, h2⟩ := C8 s f
   refine ⟨fun lv a c r h => ?_, fun lv a c acc r h => ?_⟩
   · rw [jW] at h ⊢
     by_cases g1 : blk s a = s.size
     · rw [if_pos g1] at h ⊢; exact h
     rw [if_neg g1] at h ⊢
     by_cases g2 : c + 1 > 400
     · rw [if_pos g2] at h ⊢; exact h
     rw [if_neg g2] at h ⊢
     by_cases g3 : lv > 40
     · rw [if_pos g3] at h ⊢; exact h
     rw [if_neg g3] at h ⊢
     by_cases g4 : au s (blk s a) = 41
     · rw [if_pos g4] at h ⊢; exact h
     rw [if_neg g4] at h ⊢
     by_cases g5 : au s (blk s a) = 39
     · rw [if_pos g5] at h ⊢
       obtain ⟨q, hq, rfl⟩ := Option.map_eq_some_iff.1 h
       rw [h1 _ _ _ _ hq]; rfl
     rw [if_neg g5] at h ⊢
     by_cases g6 : au s (blk s a) = 40
     · rw [if_pos g6] at h ⊢; exact h2 _ _ _ _ _ h
     rw [if_neg g6] at h ⊢
     exact h
   · rw [nR] at h ⊢
     split at h
     · rename_i g; rw [if_pos g]; exact h
     · rename_i g
       rw [if_neg g]
       split at h
       · cases h
       · rename_i q hq
         rw [h1 _ _ _ _ hq]
         simp only
         split at h
         · rename_i g2; rw [if_pos g2]; exact h
         · rename_i g2; rw [if_neg g2]; exact h2 _ _ _ _ _ h
theorem uO {s : ByteArray} {f g : Nat} (h : f <= g) {lv a c : Int} {r : PR} (hr : jW s f lv a c = some r) : jW s g lv a c = some r := by
 induction h with
 | refl => exact hr
 | step _ ih => exact (C8 s _).1 _ _ _ _ ih
theorem xE (s : ByteArray) : ∀ f, (∀ lv a c r, jW s f lv a c = some r -> okS s a -> okC c -> okS s r.a /\ (r.e = 0 -> r.c <= 400) /\ c <= r.c /\ (r.e = 0 -> c + 1 <= r.c)) /\
  (∀ lv a c acc r, nR s f lv a c acc = some r -> okS s a -> okC c -> okS s r.a /\ (r.e = 0 -> r.c <= 400) /\ c <= r.c /\ r.d = .mk 4 0 noS r.d.l)
 | 0 => ⟨fun _ _ _ _ h => by simp [jW] at h, fun _ _ _ _ _ h => by simp [nR] at h⟩
 | f + 1 => by
   obtain ⟨h1, h2⟩ := xE s f
   refine ⟨fun lv a c r h hs hc => ?_, fun lv a c acc r h hs hc => ?_⟩
   · have b1 := uL s a
     have b2 := uM s a hs.2.2
     have hb : okS s (blk s a) := ⟨hs.1, by have := hs.2.1; omega, b2⟩
     rw [jW] at h
     split at h
     · injection h with h; subst h; exact ⟨hb, fun h => (by cases h), Int.le_refl _, fun h => (by cases h)⟩
     · split at h
       · injection h with h; subst h; exact ⟨hb, fun h => (by cases h), by simp only; omega, fun h => (by cases h)⟩
       · split at h
         · injection h with h; subst h; exact ⟨hb, fun h => (by cases h), by simp only; omega, fun h => (by cases h)⟩
         · rename_i g1 g2 g3
           have hc1 : okC (c + 1) := ⟨by have := hc.1; omega, by omega⟩
           have hb1 : okS s (blk s a + 1) := ⟨hs.1, by have := hb.2.1; omega, by omega⟩
           split at h
           · injection h with h; subst h; exact ⟨hb, fun h => (by cases h), by simp only; omega, fun h => (by cases h)⟩
           · split at h
             · obtain ⟨q, hq, rfl⟩ := Option.map_eq_some_iff.1 h
               obtain ⟨k1, k2, k3, k4⟩ := h1 _ _ _ _ hq hb1 hc1
               exact ⟨k1, k2, by simp only; omega, fun _ => by simp only; omega⟩
             · split at h
               · obtain ⟨k1, k2, k3, k4⟩ := h2 _ _ _ _ _ h hb1 hc1
                 exact ⟨k1, k2, by omega, fun _ => by omega⟩
               · injection h with h; subst h
                 refine ⟨?_, fun _ => hc1.2, by simp only; omega, fun _ => Int.le_refl _⟩
                 simp only
                 split
                 · exact ⟨hs.1, by have := Pb s (blk s a); have := hb.2.1; omega, Pd s _ b2⟩
                 · exact hb
   · have b1 := uL s a
     have b2 := uM s a hs.2.2
     have hb : okS s (blk s a) := ⟨hs.1, by have := hs.2.1; omega, b2⟩
     rw [nR] at h
     split at h
     · injection h with h; subst h; exact ⟨⟨hs.1, by have := hb.2.1; simp only; omega, by simp only; omega⟩, fun _ => hc.2, Int.le_refl _, rfl⟩
     · split at h
       · cases h
       · rename_i q hq
         obtain ⟨k1, k2, k3, k4⟩ := h1 _ _ _ _ hq hb hc
         split at h
         · rename_i g; injection h with h; subst h; exact ⟨k1, fun h => absurd h g, k3, rfl⟩
         · rename_i g
           have g : q.e = 0 := by simpa using g
           obtain ⟨m1, m2, m3, m4⟩ := h2 _ _ _ _ _ h k1 ⟨by have := hc.1; omega, k2 g⟩
           exact ⟨m1, m2, by omega, m4⟩
theorem Rj (d : Dm) (j : Nat) (hj : j < 4) : dmT d j = [Dt.cell (.int .i64 d.k), .cell (.int .i64 d.n), .cell (.string d.s), .arr 4 d.l.length (dmL d.l)].getD j aR := by
 cases d with
 | mk k n s l =>
   match j, hj with
   | 0, _ => simp [dmT, Dm.k]
   | 1, _ => simp [dmT, Dm.n]
   | 2, _ => simp [dmT, Dm.s]
   | 3, _ => simp [dmT, Dm.l]
theorem Ri : ∀ {l m : List Dm} {i : Nat} (j : Nat), i < l.length -> dmL (l ++ m) i j = dmL l i j
 | [], _, _, _, h => by simp at h
 | d :: l, m, 0, j, _ => by simp [dmL]
 | d :: l, m, i + 1, j, h => by
   simp only [List.cons_append, dmL]
   exact Ri j (by simpa using h)
theorem Rh : ∀ (l : List Dm) (d : Dm) (m : List Dm) (j : Nat), dmL (l ++ d :: m) l.length j = dmT d j
 | [], d, m, j => by simp [dmL]
 | x :: l, d, m, j => by
   simp only [List.cons_append, List.length_cons, dmL]
   exact Rh l d m j
theorem Ij (acc : List Dm) (d : Dm) (k j : Nat) (hk : k < acc.length + 1) (hj : j < 4) :
  bY (gP acc.length (dmL acc) (lV 4 [Dt.cell (.int .i64 d.k), .cell (.int .i64 d.n), .cell (.string d.s), .arr 4 d.l.length (dmL d.l)]) k j) (dmL (acc ++ [d]) k j) := by
 by_cases h : k < acc.length
 · have e : gP acc.length (dmL acc) (lV 4 [Dt.cell (.int .i64 d.k), .cell (.int .i64 d.n), .cell (.string d.s), .arr 4 d.l.length (dmL d.l)]) k j = dmL acc k j := by
    have hb : Nat.blt k acc.length = true := by rw [Nat.blt_eq]; exact h
    simp only [gP, hb, cond_true]
   rw [e, Ri j h]
   exact dN _
 · have hk : k = acc.length := by omega
   subst hk
   have e : gP acc.length (dmL acc) (lV 4 [Dt.cell (.int .i64 d.k), .cell (.int .i64 d.n), .cell (.string d.s), .arr 4 d.l.length (dmL d.l)]) acc.length j = lV 4 [Dt.cell (.int .i64 d.k), .cell (.int .i64 d.n), .cell (.string d.s), .arr 4 d.l.length (dmL d.l)] 0 j := by
    have hb : Nat.blt acc.length acc.length = false := by
        cases hq : Nat.blt acc.length acc.length with
        | false => rfl
        | true => rw [Nat.blt_eq] at hq; omega
    simp only [gP, hb, cond_false, Nat.sub_self]
   rw [e, Rh, Rj d j hj, xP hj (by simpa using hj), Nat.zero_mul, Nat.zero_add]
   exact dN _
theorem aaD : syF.Ok prog := by
 intro al ol args obs out h
 unfold syF at h
 simp only at h
 repeat' split at h
 all_goals first
  | (simp only [Option.some.injEq, Prod.mk.injEq] at h; obtain ⟨rfl, rfl, rfl⟩ := h; apply BJ)
  | cases h
theorem Yf : aiF.Ok prog := by
 intro al ol args obs out h
 unfold aiF at h
 simp only at h
 repeat' split at h
 all_goals first
  | (simp only [Option.some.injEq, Prod.mk.injEq] at h; obtain ⟨rfl, rfl, rfl⟩ := h; apply QN)
  | cases h
theorem YK : itF.Ok prog := by
 intro al ol args obs out h
 unfold itF at h
 simp only at h
 repeat' split at h
 all_goals first
  | (simp only [Option.some.injEq, Prod.mk.injEq] at h; obtain ⟨rfl, rfl, rfl⟩ := h; apply IG)
  | cases h
theorem vM : stF.Ok prog := by
 intro al ol args obs out h
 unfold stF at h
 simp only at h
 repeat' split at h
 all_goals first
  | (simp only [Option.some.injEq, Prod.mk.injEq] at h; obtain ⟨rfl, rfl, rfl⟩ := h; apply TA)
  | cases h
theorem E9 : bkF.Ok prog := by
 intro al ol args obs out h
 unfold bkF at h
 simp only at h
 repeat' split at h
 all_goals first
  | (simp only [Option.some.injEq, Prod.mk.injEq] at h; obtain ⟨rfl, rfl, rfl⟩ := h; apply J8)
  | cases h
theorem Ny : ∀ x ∈ VA, x.2.2.Ok prog := all_cons Kz (all_cons aaD (all_cons Yf (all_cons YK (all_cons vM (all_cons vM all_nil)))))
theorem EZ (s : ByteArray) (fr c e a : Int) : Sound QK (.loop EY) (jH (Hz.live.h.zip (uJ fr)) [some (pOb s a c e), some zOb]) ((QL s fr c e a).map (OutC.st Hz.live)) := by
 refine qA mixed (ks := VA) (ls := [Hz]) (c := EY) (nb := 1) (N := 88) Ny (gD (by kernel_rfl)) Hz.live (fun _ : Int => uJ fr) (fun a => [some (pOb s a c e), some zOb]) (fun a => QL s fr c e a) (fun a => ((s.size : Int) - a).toNat)
  (Q := fun a => Nz s fr c e a) (fun a post hp => ?_) (fun a Rn Re => by kernel_rfl) a
 obtain ⟨⟨h1, h2, h3⟩, hp⟩ := hp
 have hp : post (.exit 0, uJ fr, [some (pOb s (bA s a) c e), some zOb]) := hp
 have done : bA s a = a -> l5 post (.exit 0) (uJ fr) [some (pOb s a c e), some zOb] := fun h => by
  rw [h] at hp; exact l5.mk hp (aF _) (aJ _)
 unfold Nz
 simp only [lo, hi, decide_eq_true_eq, decide_eq_false_iff_not]
 refine ⟨fun h => ⟨⟨h2, h⟩, aF _, trivial, fun hb => ⟨⟨by omega, by omega⟩, a + 1, by omega, aF _, aJ _, ⟨h1, by omega, by omega⟩, ?_⟩, fun hb => done ?_⟩, fun h => done ?_⟩
 · have : bA s a = bA s (a + 1) := by rw [bA.eq_1 s a, if_pos ⟨h, hb⟩]
   rw [this] at hp; exact hp
 · rw [bA, if_neg]; rintro ⟨_, h⟩; exact hb h
 · rw [bA, if_neg]; rintro ⟨h', _⟩; exact h h'
theorem VB : JY QK Hz EY := by
 intro svs obl args obs out h
 unfold Hz at h
 simp only at h
 repeat' split at h
 all_goals first
  | (simp only [Option.some.injEq, Prod.mk.injEq] at h; obtain ⟨rfl, rfl, rfl⟩ := h; apply EZ)
  | cases h
theorem Ph : QK.Lok (bH (bI yD)) := by
 have hl : bH (bI yD) = [EY] := by kernel_rfl
 rw [hl]
 refine kX fun f h c hc hr => ?_
 rw [List.mem_singleton] at hc h
 subst hc; subst h
 exact VB
theorem NZ {k n : Int} {s : ByteArray} {x y z : SV} (hx : leS x (vI .i64 k)) (hy : leS y (vI .i64 n)) (hz : leS z (vS s)) : leS (.agg [x, y, z, .dt (.cell (.slice none 0 0))]) (dmS (.mk k n s [])) := by
 simp only [dmS, dmA, Dm.k, Dm.n, Dm.s, Dm.l, F5, tN, xO, and_true]
 refine ⟨hx, hy, hz, ?_⟩
 rw [F6]
 simp only [bY]
 exact ⟨rfl, rfl⟩
theorem QO (s : ByteArray) (fr a c : Int) : Ctr prog Rv [.ptr 0 0, vI .i64 fr] [pOb s a c 0] (Xu s fr a c) := by
 refine jo mixed (N := 88) (fn := yD) (c := bI yD) (ks := VA) (ls := [Hz]) (by kernel_rfl) (by kernel_rfl) (by kernel_rfl) Ny yS Ph (by kernel_rfl) (Q := Xv s fr a c) (fun post hp => ?_) (fun R => by kernel_rfl)
 obtain ⟨⟨h1, h2, h3⟩, hp⟩ := hp
 have hp : post (dmS (atD (aH s fr a)), [some (pOb s (if atE (aH s fr a) = 0 then bA s a else fr) c (atE (aH s fr a)))]) := hp
 have b1 := Pb s a
 have b2 := Pd s a h1.2.2
 have ok : ∀ {v : SV}, atE (aH s fr a) = 0 -> leS v (dmS (atD (aH s fr a))) -> Gives post v [some (pOb s (bA s a) c 0)] := fun he hv => by
  rw [if_pos he, he] at hp; exact lT hp hv (aJ _)
 have no : ∀ {e : Int}, e ≠ 0 -> atE (aH s fr a) = e -> atD (aH s fr a) = d0 -> Gives post (dmS d0) [some (pOb s fr c e)] := fun he h hd => by
  rw [h, if_neg he, hd] at hp; exact lT hp (aI _) (aJ _)
 have eT : isT (aH s fr a) = true -> atE (aH s fr a) = 0 /\ atD (aH s fr a) = .mk 2 1 noS [] := fun h => by simp only [atE, atD, h, if_true, and_self]
 have eF : isT (aH s fr a) = false -> isF (aH s fr a) = true -> atE (aH s fr a) = 0 /\ atD (aH s fr a) = .mk 2 0 noS [] := fun h h' => by simp [atE, atD, h, h']
 have eS : isT (aH s fr a) = false -> isF (aH s fr a) = false -> p9 (aH s fr a) = true -> atE (aH s fr a) = 0 /\ atD (aH s fr a) = .mk 3 0 (aH s fr a) [] := fun h h' h'' => by simp [atE, atD, h, h', h'']
 have e4 : isT (aH s fr a) = false -> isF (aH s fr a) = false -> p9 (aH s fr a) = false -> isN (aH s fr a) = false -> atE (aH s fr a) = 4 /\ atD (aH s fr a) = d0 := fun h h' h'' h3 => by simp [atE, atD, h, h', h'', h3]
 have e2 : isT (aH s fr a) = false -> isF (aH s fr a) = false -> p9 (aH s fr a) = false -> isN (aH s fr a) = true -> (dK (aH s fr a) < -1099511627776 ∨ 1099511627776 < dK (aH s fr a)) -> atE (aH s fr a) = 2 /\ atD (aH s fr a) = d0 := fun h h' h'' h3 h4 => by simp [atE, atD, h, h', h'', h3, h4]
 have e1 : isT (aH s fr a) = false -> isF (aH s fr a) = false -> p9 (aH s fr a) = false -> isN (aH s fr a) = true -> ¬ (dK (aH s fr a) < -1099511627776 ∨ 1099511627776 < dK (aH s fr a)) -> atE (aH s fr a) = 0 /\ atD (aH s fr a) = .mk 1 (dK (aH s fr a)) noS [] := fun h h' h'' h3 h4 => by simp [atE, atD, h, h', h'', h3, h4]
 have hsz : (aH s fr a).size <= 281474976710656 := by
  have : (aH s fr a).size <= s.size := by simp [aH]; omega
  have := h1.1; omega
 have hin : lK (aH s fr a) = true -> inI (dK (aH s fr a)) := fun h => by
  unfold lK at h
  unfold dK
  split at h
  · rename_i v hv
    exact Lib.atoiAll_bounds hv
  · cases h
 have nN : lK (aH s fr a) = false -> isN (aH s fr a) = false := fun h => by simp [isN, h]
 have nN' : (!((tJ (dK (aH s fr a))).data.toList == (aH s fr a).data.toList)) = true -> isN (aH s fr a) = false := fun h => by
  unfold isN
  rw [Bool.not_eq_true'] at h
  rw [h, Bool.and_false]
 have yN : lK (aH s fr a) = true -> (!((tJ (dK (aH s fr a))).data.toList == (aH s fr a).data.toList)) = false -> isN (aH s fr a) = true := fun h h' => by
  unfold isN
  rw [Bool.not_eq_false'] at h'
  rw [h, h']; rfl
 unfold Xv
 refine ⟨⟨aI _, aI _, aI _, trivial⟩, aJ _, h1, ⟨h2, by omega, b2⟩, fun hT => ⟨trivial, ?_⟩, fun hT => ⟨fun hF => ⟨trivial, ?_⟩, fun hF => ⟨aF _, trivial, fun hS => ⟨trivial, ?_⟩, fun hS =>
  ⟨aF _, trivial, hsz, fun hA => ⟨aF _, trivial, hin hA, fun hI => ⟨aF _, aP _, trivial, ?_⟩, fun hI => ⟨fun g => ⟨aF _, aP _, trivial, ?_⟩, fun g => ⟨fun g' => ⟨aF _, aP _, trivial, ?_⟩, fun g' => ⟨trivial, ?_⟩⟩⟩⟩,
   fun hA => ⟨aF _, aP _, trivial, ?_⟩⟩⟩⟩⟩
 · have h := eT hT
   exact ok h.1 (by rw [h.2]; exact NZ (aI _) (aI _) (aI _))
 · have h := eF hT hF
   exact ok h.1 (by rw [h.2]; exact NZ (aI _) ((mW _ _ _).2 rfl) (aI _))
 · have h := eS hT hF hS
   exact ok h.1 (by rw [h.2]; exact NZ (aI _) ((mW _ _ _).2 rfl) (aI _))
 · have h := e4 hT hF hS (nN' hI)
   exact no (by decide) h.1 h.2
 · have h := e2 hT hF hS (yN hA hI) (.inl (of_decide_eq_true g))
   exact no (by decide) h.1 h.2
 · have h := e2 hT hF hS (yN hA hI) (.inr (of_decide_eq_true g'))
   exact no (by decide) h.1 h.2
 · have h := e1 hT hF hS (yN hA hI) (by have := of_decide_eq_false g; have := of_decide_eq_false g'; unfold aH; omega)
   exact ok h.1 (by rw [h.2]; exact NZ (aI _) (aI _) (aI _))
 · have h := e4 hT hF hS (nN hA)
   exact no (by decide) h.1 h.2
theorem Yg : amF.Ok prog := by
 intro al ol args obs out h
 unfold amF at h
 simp only at h
 repeat' split at h
 all_goals first
  | (simp only [Option.some.injEq, Prod.mk.injEq] at h; obtain ⟨rfl, rfl, rfl⟩ := h; apply QO)
  | cases h
end Rd
