/- Words, data, texts: the reader. -/
import Derived.Test.YtildnaomamnkgaaGreatDoorRdA
set_option linter.unusedSimpArgs false
set_option linter.unusedVariables false
open Rx Go
namespace Rd
def delims : ByteArray := ⟨#[32, 10, 9, 40, 41, 59, 39]⟩
def bf (s : ByteArray) (a : Int) : Int := if a < s.size /\ ixB delims (ak s a) < 0 then bf s (a + 1) else a
termination_by ((s.size : Int) - a).toNat
decreasing_by omega
theorem Mw (s : ByteArray) (a : Int) : a <= bf s a := by
 fun_induction bf s a <;> omega
theorem MQ (s : ByteArray) (a : Int) (h : a <= s.size) : bf s a <= s.size := by
 fun_induction bf s a <;> omega
def isT (w : ByteArray) : Bool := w.data.toList == [35, 116]
def isF (w : ByteArray) : Bool := w.data.toList == [35, 102]
def isN (w : ByteArray) : Bool := lW w && ((bG (dO w)).data.toList == w.data.toList)
def atE (w : ByteArray) : Int :=
 if isT w then 0 else if isF w then 0 else if oD w then 0 else if isN w then if dO w < -1099511627776 ∨ 1099511627776 < dO w then 2 else 0 else 4
def atD (w : ByteArray) : Dm :=
 if isT w then .mk 2 1 noS [] else if isF w then .mk 2 0 noS [] else if oD w then .mk 3 0 w [] else if isN w then if dO w < -1099511627776 ∨ 1099511627776 < dO w then d0 else .mk 1 (dO w) noS [] else d0
def aD (s : ByteArray) (a b : Int) : ByteArray := s.extract a.toNat (bf s b).toNat
def zOb : Ob := .cells kN [.ki .i64 0, .ki .i64 0, vS noS, .dt (.cell (.slice none 0 0))]
def wE (fr : Int) : List SV := [.ptr 0 0, vI .i64 fr, .ptr 1 0]
def PV (s : ByteArray) (fr c e : Int) (a : Int) : T OutC := .need (okS s a) (.ret (.exit 0, wE fr, [some (pOb s (bf s a) c e), some zOb]))
def Jb : LF := ⟨1, ⟨[0, 1, 4], [0, 1, 4], []⟩, fun svs obl => match svs, obl with
 | [.ptr 0 0, fr, .ptr 1 0], [some (.cells _ [s, a, c, e]), some _] => match rdI fr, rdS s, rdI a, rdI c, rdI e with
   | some fr, some s, some a, some c, some e => some (wE fr, [some (pOb s a c e), some zOb], PV s fr c e a)
   | _, _, _, _, _ => none
 | _, _ => none⟩
def syF : FC := ⟨uw, false, false, fun al ol => match al, ol with
 | [x], [] => match rdS x with
   | some s => some ([vS s], [], Y2 s)
   | none => none
 | _, _ => none⟩
def aiF : FC := ⟨Ph, false, false, fun al ol => match al, ol with
 | [x], [] => match rdS x with
   | some s => some ([vS s], [], Uz s)
   | none => none
 | _, _ => none⟩
def itO (n : Int) : T Out := .need (inI n) (.ret (vS (bG n), []))
def itF : FC := ⟨vQ, false, false, fun al ol => match al, ol with
 | [x], [] => match rdI x with
   | some n => some ([vI .i64 n], [], itO n)
   | none => none
 | _, _ => none⟩
def stF : FC := ⟨OZ, false, false, fun al ol => match al, ol with
 | [.ptr 0 0, x, y], [.cells _ [s, a, c, _]] => match rdI x, rdI y, rdS s, rdI a, rdI c with
   | some x, some y, some s, some a, some c => some ([.ptr 0 0, vI .i64 x, vI .i64 y], [pOb s a c 0], Ve s c x y)
   | _, _, _, _, _ => none
 | _, _ => none⟩
def Ug : List (Nat × Nat × FC) := [(1, 20, ixF), (8, 1, syF), (10, 1, aiF), (11, 4, itF), (12, 2, stF), (14, 2, stF)]
noncomputable def RX : Env := fnE prog 88 1 Ug [Jb]
noncomputable def Eu : Code := (jo 1 (bL zU)).getD .skip
def Vh (s : ByteArray) (fr a c : Int) : T Out := .need (okS s a /\ 0 <= fr /\ fr <= a)
 (.ret (dmS (atD (aD s fr a)), [some (pOb s (if atE (aD s fr a) = 0 then bf s a else fr) c (atE (aD s fr a)))]))
structure PR where
 d : Dm
 a : Int
 c : Int
 e : Int
instance : Inhabited PR := ⟨⟨d0, 0, 0, 0⟩⟩
def nY : ByteArray := ⟨#[113, 117, 111, 116, 101]⟩
mutual
def iJ (s : ByteArray) : Nat -> Int -> Int -> Int -> Option PR
 | 0, _, _, _ => none
 | f + 1, lv, a, c =>
   if blk s a = s.size then some ⟨d0, blk s a, c, 5⟩ else if c + 1 > 400 then some ⟨d0, blk s a, c + 1, 1⟩ else if lv > 40 then some ⟨d0, blk s a, c + 1, 8⟩
   else if ak s (blk s a) = 41 then some ⟨d0, blk s a, c + 1, 4⟩
   else if ak s (blk s a) = 39 then (iJ s f (lv + 1) (blk s a + 1) (c + 1)).map fun r => ⟨.mk 4 0 noS [.mk 3 0 nY [], r.d], r.a, r.c, r.e⟩
   else if ak s (blk s a) = 40 then kL s f lv (blk s a + 1) (c + 1) []
   else some ⟨atD (aD s (blk s a) (blk s a)), if atE (aD s (blk s a) (blk s a)) = 0 then bf s (blk s a) else blk s a, c + 1, atE (aD s (blk s a) (blk s a))⟩
def kL (s : ByteArray) : Nat -> Int -> Int -> Int -> List Dm -> Option PR
 | 0, _, _, _, _ => none
 | f + 1, lv, a, c, acc =>
   if blk s a < s.size /\ ak s (blk s a) = 41 then some ⟨.mk 4 0 noS acc, blk s a + 1, c, 0⟩
   else match iJ s f (lv + 1) (blk s a) c with
     | none => none
     | some r => if r.e ≠ 0 then some ⟨.mk 4 0 noS acc, r.a, r.c, r.e⟩ else kL s f lv r.a r.c (acc ++ [r.d])
end
def aW (s : ByteArray) (f : Nat) (lv a c : Int) : PR := (iJ s f lv a c).getD default
def kM (s : ByteArray) (f : Nat) (lv a c : Int) (acc : List Dm) : PR := (kL s f lv a c acc).getD default
def okC (c : Int) : Prop := 0 <= c /\ c <= 400
def okL (lv : Int) : Prop := 1 <= lv /\ lv <= 41
def EP (s : ByteArray) (f : Nat) (lv a c : Int) : T Out := .need (okS s a /\ okC c /\ okL lv /\ (iJ s f lv a c).isSome = true)
 (.ret (dmS (aW s f lv a c).d, [some (pOb s (aW s f lv a c).a (aW s f lv a c).c (aW s f lv a c).e)]))
def AX (f : Nat) : FC := ⟨yO, false, false, fun al ol => match al, ol with
 | [.ptr 0 0, lv], [.cells _ [s, a, c, _]] => match rdI lv, rdS s, rdI a, rdI c with
   | some lv, some s, some a, some c => some ([.ptr 0 0, vI .i64 lv], [pOb s a c 0], EP s f lv a c)
   | _, _, _, _ => none
 | _, _ => none⟩
def bkF : FC := ⟨Ia, false, false, fun al ol => match al, ol with
 | [.ptr 0 0], [.cells _ [s, a, c, e]] => match rdS s, rdI a, rdI c, rdI e with
   | some s, some a, some c, some e => some ([.ptr 0 0], [pOb s a c e], Nb s a c e)
   | _, _, _, _ => none
 | _, _ => none⟩
def amF : FC := ⟨RL, false, false, fun al ol => match al, ol with
 | [.ptr 0 0, fr], [.cells _ [s, a, c, _]] => match rdI fr, rdS s, rdI a, rdI c with
   | some fr, some s, some a, some c => some ([.ptr 0 0, vI .i64 fr], [pOb s a c 0], Vh s fr a c)
   | _, _, _, _ => none
 | _, _ => none⟩
def noF : FC := ⟨0, false, false, fun _ _ => none⟩
def gL : List Dm := []
structure LX where
 f : Nat
 a : Int
 c : Int
 acc : List Dm
def KI (lv : Int) : List SV := [.ptr 0 0, vI .i64 lv, .ptr 1 0, .ptr 2 0]
def RQ (s : ByteArray) (x : LX) : List (Option Ob) := [some (pOb s x.a x.c 0), some zOb, some (.cells kN [vI .i64 4, vI .i64 0, vS noS, .nm 3]), some (.row kN 4 x.acc.length (dmL x.acc))]
def Pq (s : ByteArray) (g : Nat) (lv : Int) (x : LX) : T OutC := .need (x.f <= g /\ okS s x.a /\ okC x.c /\ (1 <= lv /\ lv <= 40) /\ x.acc.length <= x.c /\ (kL s x.f lv x.a x.c x.acc).isSome = true)
 (.ret (.ret, [.ptr 1 0], [some (pOb s (kM s x.f lv x.a x.c x.acc).a (kM s x.f lv x.a x.c x.acc).c (kM s x.f lv x.a x.c x.acc).e),
    some (.cells kN [vI .i64 4, vI .i64 0, vS noS, .nm 2]), some (.row kN 4 (kM s x.f lv x.a x.c x.acc).d.l.length (dmL (kM s x.f lv x.a x.c x.acc).d.l))]))
def IG (g : Nat) : LF := ⟨22, ⟨[0, 1, 4, 7], [], [4]⟩, fun svs obl => match svs, obl with
 | [.ptr 0 0, lv, .ptr 1 0, .ptr 2 0], some (.cells _ [s, a, c, _]) :: _ => match rdI lv, rdS s, rdI a, rdI c with
   | some lv, some s, some a, some c => some (KI lv, RQ s ⟨g, a, c, gL⟩, Pq s g lv ⟨g, a, c, gL⟩)
   | _, _, _, _ => none
 | _, _ => none⟩
def TM (g : Nat) : List (Nat × Nat × FC) := [(1, 1, bkF), (5, 5, stF), (9, 2, stF), (11, 2, stF), (14, 2, stF), (17, 3, AX g), (21, 0, noF), (22, 1, bkF), (26, 3, AX g), (30, 2, amF)]
noncomputable def Qe (g : Nat) : Env := fnE prog 153 1 (TM g) [IG g]
noncomputable def EY : Code := (jo 22 (bL uy)).getD .skip
def M7 (s : ByteArray) (fr c e a : Int) (Rn : List SV -> List (Option Ob) -> Prop) (Re : Ex -> List SV -> List (Option Ob) -> Prop) : Prop :=
(((decide (a < (↑s.size : Int)) = true) ->
 ((((0 : Int) <= a) /\
   (a < (↑s.size : Int))) /\
  ((Rx.leL ([SV.dt (Dt.cell (.string (ByteArray.mk #[(32 : UInt8), (10 : UInt8), (9 : UInt8), (40 : UInt8), (41 : UInt8), (59 : UInt8), (39 : UInt8)]))), SV.dt (Dt.cell (.int Go.IntKind.u8 (ak s a)))]) ([SV.dt (Dt.cell (.string (ByteArray.mk #[(32 : UInt8), (10 : UInt8), (9 : UInt8), (40 : UInt8), (41 : UInt8), (59 : UInt8), (39 : UInt8)]))), SV.dt (Dt.cell (.int Go.IntKind.u8 (ak s a)))])) /\
   ((Rx.aZ ([]) ([])) /\
    (((decide (Rd.ixB (ByteArray.mk #[(32 : UInt8), (10 : UInt8), (9 : UInt8), (40 : UInt8), (41 : UInt8), (59 : UInt8), (39 : UInt8)]) (ak s a) < (0 : Int)) = true) ->
      (((Rx.lo .i64 <= a + (1 : Int)) /\
        (a + (1 : Int) <= Rx.hi .i64)) /\
       Rn ([SV.ptr 0 0, SV.dt (Dt.cell (.int .i64 fr)), SV.ptr 1 0]) ([some (Ob.cells 113 [SV.dt (Dt.cell (.string s)), SV.dt (Dt.cell (.int .i64 (a + (1 : Int)))), SV.dt (Dt.cell (.int .i64 c)), SV.dt (Dt.cell (.int .i64 e))]), some (Ob.cells 49 [SV.ki .i64 ((0 : Int)), SV.ki .i64 ((0 : Int)), SV.dt (Dt.cell (.string Rd.noS)), SV.dt (Dt.cell (.slice Option.none (0 : Nat) (0 : Nat)))])]))) /\
     ((decide (Rd.ixB (ByteArray.mk #[(32 : UInt8), (10 : UInt8), (9 : UInt8), (40 : UInt8), (41 : UInt8), (59 : UInt8), (39 : UInt8)]) (ak s a) < (0 : Int)) = false) ->
      Re (Rx.Ex.exit (0 : Nat)) ([SV.ptr 0 0, SV.dt (Dt.cell (.int .i64 fr)), SV.ptr 1 0]) ([some (Ob.cells 113 [SV.dt (Dt.cell (.string s)), SV.dt (Dt.cell (.int .i64 a)), SV.dt (Dt.cell (.int .i64 c)), SV.dt (Dt.cell (.int .i64 e))]), some (Ob.cells 49 [SV.ki .i64 ((0 : Int)), SV.ki .i64 ((0 : Int)), SV.dt (Dt.cell (.string Rd.noS)), SV.dt (Dt.cell (.slice Option.none (0 : Nat) (0 : Nat)))])]))))))) /\
((decide (a < (↑s.size : Int)) = false) ->
 Re (Rx.Ex.exit (0 : Nat)) ([SV.ptr 0 0, SV.dt (Dt.cell (.int .i64 fr)), SV.ptr 1 0]) ([some (Ob.cells 113 [SV.dt (Dt.cell (.string s)), SV.dt (Dt.cell (.int .i64 a)), SV.dt (Dt.cell (.int .i64 c)), SV.dt (Dt.cell (.int .i64 e))]), some (Ob.cells 49 [SV.ki .i64 ((0 : Int)), SV.ki .i64 ((0 : Int)), SV.dt (Dt.cell (.string Rd.noS)), SV.dt (Dt.cell (.slice Option.none (0 : Nat) (0 : Nat)))])])))
def UF (s : ByteArray) (fr a c : Int) (R : SV -> List (Option Ob) -> Prop) : Prop :=
(((Rx.leS (SV.ptr 0 0) (SV.ptr 0 0)) /\
 ((Rx.leS (SV.dt (Dt.cell (.int .i64 fr))) (SV.dt (Dt.cell (.int .i64 fr)))) /\
  ((Rx.leS (SV.ptr 1 0) (SV.ptr 1 0)) /\
   True))) /\
((Rx.leOO ([some (Ob.cells 113 [SV.dt (Dt.cell (.string s)), SV.dt (Dt.cell (.int .i64 a)), SV.dt (Dt.cell (.int .i64 c)), SV.dt (Dt.cell (.int .i64 (0 : Int)))]), some (Ob.cells 49 [SV.ki .i64 ((0 : Int)), SV.ki .i64 ((0 : Int)), SV.dt (Dt.cell (.string (ByteArray.mk #[]))), SV.dt (Dt.cell (.slice Option.none (0 : Nat) (0 : Nat)))])]) ([some (Ob.cells 113 [SV.dt (Dt.cell (.string s)), SV.dt (Dt.cell (.int .i64 a)), SV.dt (Dt.cell (.int .i64 c)), SV.dt (Dt.cell (.int .i64 (0 : Int)))]), some (Ob.cells 49 [SV.ki .i64 ((0 : Int)), SV.ki .i64 ((0 : Int)), SV.dt (Dt.cell (.string Rd.noS)), SV.dt (Dt.cell (.slice Option.none (0 : Nat) (0 : Nat)))])])) /\
 ((Rd.okS s a) /\
  ((((0 : Int) <= fr) /\
    ((fr <= Rd.bf s a) /\
     (Rd.bf s a <= (↑s.size : Int)))) /\
   (((((#[].extract (0 : Nat) (0 : Nat) ++ s.data.extract fr.toNat (fr.toNat + ((Rd.bf s a).toNat - fr.toNat)) ++ #[].extract ((0 : Nat) + Min.min ((Rd.bf s a).toNat - fr.toNat) (s.data.size - fr.toNat))).toList == [(35 : UInt8), (116 : UInt8)]) = true) ->
     (True /\
      R (SV.agg [SV.dt (Dt.cell (.int .i64 (2 : Int))), SV.dt (Dt.cell (.int .i64 (1 : Int))), SV.dt (Dt.cell (.string (ByteArray.mk #[]))), SV.dt (Dt.cell (.slice Option.none (0 : Nat) (0 : Nat)))]) ([some (Ob.cells 113 [SV.dt (Dt.cell (.string s)), SV.dt (Dt.cell (.int .i64 (Rd.bf s a))), SV.dt (Dt.cell (.int .i64 c)), SV.dt (Dt.cell (.int .i64 (0 : Int)))])]))) /\
    ((((#[].extract (0 : Nat) (0 : Nat) ++ s.data.extract fr.toNat (fr.toNat + ((Rd.bf s a).toNat - fr.toNat)) ++ #[].extract ((0 : Nat) + Min.min ((Rd.bf s a).toNat - fr.toNat) (s.data.size - fr.toNat))).toList == [(35 : UInt8), (116 : UInt8)]) = false) ->
     (((((#[].extract (0 : Nat) (0 : Nat) ++ s.data.extract fr.toNat (fr.toNat + ((Rd.bf s a).toNat - fr.toNat)) ++ #[].extract ((0 : Nat) + Min.min ((Rd.bf s a).toNat - fr.toNat) (s.data.size - fr.toNat))).toList == [(35 : UInt8), (102 : UInt8)]) = true) ->
       (True /\
        R (SV.agg [SV.dt (Dt.cell (.int .i64 (2 : Int))), SV.ki .i64 ((0 : Int)), SV.dt (Dt.cell (.string (ByteArray.mk #[]))), SV.dt (Dt.cell (.slice Option.none (0 : Nat) (0 : Nat)))]) ([some (Ob.cells 113 [SV.dt (Dt.cell (.string s)), SV.dt (Dt.cell (.int .i64 (Rd.bf s a))), SV.dt (Dt.cell (.int .i64 c)), SV.dt (Dt.cell (.int .i64 (0 : Int)))])]))) /\
      ((((#[].extract (0 : Nat) (0 : Nat) ++ s.data.extract fr.toNat (fr.toNat + ((Rd.bf s a).toNat - fr.toNat)) ++ #[].extract ((0 : Nat) + Min.min ((Rd.bf s a).toNat - fr.toNat) (s.data.size - fr.toNat))).toList == [(35 : UInt8), (102 : UInt8)]) = false) ->
       ((Rx.leL ([SV.dt (Dt.cell (.string (s.extract fr.toNat (Rd.bf s a).toNat)))]) ([SV.dt (Dt.cell (.string (s.extract fr.toNat (Rd.bf s a).toNat)))])) /\
        ((Rx.aZ ([]) ([])) /\
         (((Rd.oD (s.extract fr.toNat (Rd.bf s a).toNat) = true) ->
           (True /\
            R (SV.agg [SV.dt (Dt.cell (.int .i64 (3 : Int))), SV.ki .i64 ((0 : Int)), SV.dt (Dt.cell (.string (s.extract fr.toNat (Rd.bf s a).toNat))), SV.dt (Dt.cell (.slice Option.none (0 : Nat) (0 : Nat)))]) ([some (Ob.cells 113 [SV.dt (Dt.cell (.string s)), SV.dt (Dt.cell (.int .i64 (Rd.bf s a))), SV.dt (Dt.cell (.int .i64 c)), SV.dt (Dt.cell (.int .i64 (0 : Int)))])]))) /\
          ((Rd.oD (s.extract fr.toNat (Rd.bf s a).toNat) = false) ->
           ((Rx.leL ([SV.dt (Dt.cell (.string (s.extract fr.toNat (Rd.bf s a).toNat)))]) ([SV.dt (Dt.cell (.string (s.extract fr.toNat (Rd.bf s a).toNat)))])) /\
            ((Rx.aZ ([]) ([])) /\
             (((s.extract fr.toNat (Rd.bf s a).toNat).size <= (281474976710656 : Nat)) /\
              (((Rd.lW (s.extract fr.toNat (Rd.bf s a).toNat) = true) ->
                ((Rx.leL ([SV.dt (Dt.cell (.int .i64 (Rd.dO (s.extract fr.toNat (Rd.bf s a).toNat))))]) ([SV.dt (Dt.cell (.int .i64 (Rd.dO (s.extract fr.toNat (Rd.bf s a).toNat))))])) /\
                 ((Rx.aZ ([]) ([])) /\
                  ((Rd.inI (Rd.dO (s.extract fr.toNat (Rd.bf s a).toNat))) /\
                   ((((!Go.Lib.itoa (Rd.dO (s.extract fr.toNat (Rd.bf s a).toNat)) == (#[].extract (0 : Nat) (0 : Nat) ++ s.data.extract fr.toNat (fr.toNat + ((Rd.bf s a).toNat - fr.toNat)) ++ #[].extract ((0 : Nat) + Min.min ((Rd.bf s a).toNat - fr.toNat) (s.data.size - fr.toNat))).toList) = true) ->
                     ((Rx.leL ([SV.ptr 0 0, SV.dt (Dt.cell (.int .i64 fr)), SV.dt (Dt.cell (.int .i64 (4 : Int)))]) ([SV.ptr 0 0, SV.dt (Dt.cell (.int .i64 fr)), SV.dt (Dt.cell (.int .i64 (4 : Int)))])) /\
                      ((Rx.aZ ([Ob.cells 113 [SV.dt (Dt.cell (.string s)), SV.dt (Dt.cell (.int .i64 (Rd.bf s a))), SV.dt (Dt.cell (.int .i64 c)), SV.dt (Dt.cell (.int .i64 (0 : Int)))]]) ([Ob.cells 113 [SV.dt (Dt.cell (.string s)), SV.dt (Dt.cell (.int .i64 (Rd.bf s a))), SV.dt (Dt.cell (.int .i64 c)), SV.dt (Dt.cell (.int .i64 (0 : Int)))]])) /\
                       (True /\
                        R (SV.agg [SV.dt (Dt.cell (.int .i64 Rd.d0.k)), SV.dt (Dt.cell (.int .i64 Rd.d0.n)), SV.dt (Dt.cell (.string Rd.d0.s)), SV.dt (Dt.arr ((4 : Nat)) (Rd.d0.l.length) (Rd.dmL Rd.d0.l))]) ([some (Ob.cells 113 [SV.dt (Dt.cell (.string s)), SV.dt (Dt.cell (.int .i64 fr)), SV.dt (Dt.cell (.int .i64 c)), SV.dt (Dt.cell (.int .i64 (4 : Int)))])]))))) /\
                    (((!Go.Lib.itoa (Rd.dO (s.extract fr.toNat (Rd.bf s a).toNat)) == (#[].extract (0 : Nat) (0 : Nat) ++ s.data.extract fr.toNat (fr.toNat + ((Rd.bf s a).toNat - fr.toNat)) ++ #[].extract ((0 : Nat) + Min.min ((Rd.bf s a).toNat - fr.toNat) (s.data.size - fr.toNat))).toList) = false) ->
                     (((decide (Rd.dO (s.extract fr.toNat (Rd.bf s a).toNat) < (-1099511627776 : Int)) = true) ->
                       ((Rx.leL ([SV.ptr 0 0, SV.dt (Dt.cell (.int .i64 fr)), SV.dt (Dt.cell (.int .i64 (2 : Int)))]) ([SV.ptr 0 0, SV.dt (Dt.cell (.int .i64 fr)), SV.dt (Dt.cell (.int .i64 (2 : Int)))])) /\
                        ((Rx.aZ ([Ob.cells 113 [SV.dt (Dt.cell (.string s)), SV.dt (Dt.cell (.int .i64 (Rd.bf s a))), SV.dt (Dt.cell (.int .i64 c)), SV.dt (Dt.cell (.int .i64 (0 : Int)))]]) ([Ob.cells 113 [SV.dt (Dt.cell (.string s)), SV.dt (Dt.cell (.int .i64 (Rd.bf s a))), SV.dt (Dt.cell (.int .i64 c)), SV.dt (Dt.cell (.int .i64 (0 : Int)))]])) /\
                         (True /\
                          R (SV.agg [SV.dt (Dt.cell (.int .i64 Rd.d0.k)), SV.dt (Dt.cell (.int .i64 Rd.d0.n)), SV.dt (Dt.cell (.string Rd.d0.s)), SV.dt (Dt.arr ((4 : Nat)) (Rd.d0.l.length) (Rd.dmL Rd.d0.l))]) ([some (Ob.cells 113 [SV.dt (Dt.cell (.string s)), SV.dt (Dt.cell (.int .i64 fr)), SV.dt (Dt.cell (.int .i64 c)), SV.dt (Dt.cell (.int .i64 (2 : Int)))])]))))) /\
                      ((decide (Rd.dO (s.extract fr.toNat (Rd.bf s a).toNat) < (-1099511627776 : Int)) = false) ->
                       (((decide (Rd.dO (s.extract fr.toNat (Rd.bf s a).toNat) > (1099511627776 : Int)) = true) ->
                         ((Rx.leL ([SV.ptr 0 0, SV.dt (Dt.cell (.int .i64 fr)), SV.dt (Dt.cell (.int .i64 (2 : Int)))]) ([SV.ptr 0 0, SV.dt (Dt.cell (.int .i64 fr)), SV.dt (Dt.cell (.int .i64 (2 : Int)))])) /\
                          ((Rx.aZ ([Ob.cells 113 [SV.dt (Dt.cell (.string s)), SV.dt (Dt.cell (.int .i64 (Rd.bf s a))), SV.dt (Dt.cell (.int .i64 c)), SV.dt (Dt.cell (.int .i64 (0 : Int)))]]) ([Ob.cells 113 [SV.dt (Dt.cell (.string s)), SV.dt (Dt.cell (.int .i64 (Rd.bf s a))), SV.dt (Dt.cell (.int .i64 c)), SV.dt (Dt.cell (.int .i64 (0 : Int)))]])) /\
                           (True /\
                            R (SV.agg [SV.dt (Dt.cell (.int .i64 Rd.d0.k)), SV.dt (Dt.cell (.int .i64 Rd.d0.n)), SV.dt (Dt.cell (.string Rd.d0.s)), SV.dt (Dt.arr ((4 : Nat)) (Rd.d0.l.length) (Rd.dmL Rd.d0.l))]) ([some (Ob.cells 113 [SV.dt (Dt.cell (.string s)), SV.dt (Dt.cell (.int .i64 fr)), SV.dt (Dt.cell (.int .i64 c)), SV.dt (Dt.cell (.int .i64 (2 : Int)))])]))))) /\
                        ((decide (Rd.dO (s.extract fr.toNat (Rd.bf s a).toNat) > (1099511627776 : Int)) = false) ->
                         (True /\
                          R (SV.agg [SV.dt (Dt.cell (.int .i64 (1 : Int))), SV.dt (Dt.cell (.int .i64 (Rd.dO (s.extract fr.toNat (Rd.bf s a).toNat)))), SV.dt (Dt.cell (.string (ByteArray.mk #[]))), SV.dt (Dt.cell (.slice Option.none (0 : Nat) (0 : Nat)))]) ([some (Ob.cells 113 [SV.dt (Dt.cell (.string s)), SV.dt (Dt.cell (.int .i64 (Rd.bf s a))), SV.dt (Dt.cell (.int .i64 c)), SV.dt (Dt.cell (.int .i64 (0 : Int)))])])))))))))))) /\
               ((Rd.lW (s.extract fr.toNat (Rd.bf s a).toNat) = false) ->
                ((Rx.leL ([SV.ptr 0 0, SV.dt (Dt.cell (.int .i64 fr)), SV.dt (Dt.cell (.int .i64 (4 : Int)))]) ([SV.ptr 0 0, SV.dt (Dt.cell (.int .i64 fr)), SV.dt (Dt.cell (.int .i64 (4 : Int)))])) /\
                 ((Rx.aZ ([Ob.cells 113 [SV.dt (Dt.cell (.string s)), SV.dt (Dt.cell (.int .i64 (Rd.bf s a))), SV.dt (Dt.cell (.int .i64 c)), SV.dt (Dt.cell (.int .i64 (0 : Int)))]]) ([Ob.cells 113 [SV.dt (Dt.cell (.string s)), SV.dt (Dt.cell (.int .i64 (Rd.bf s a))), SV.dt (Dt.cell (.int .i64 c)), SV.dt (Dt.cell (.int .i64 (0 : Int)))]])) /\
                  (True /\
                   R (SV.agg [SV.dt (Dt.cell (.int .i64 Rd.d0.k)), SV.dt (Dt.cell (.int .i64 Rd.d0.n)), SV.dt (Dt.cell (.string Rd.d0.s)), SV.dt (Dt.arr ((4 : Nat)) (Rd.d0.l.length) (Rd.dmL Rd.d0.l))]) ([some (Ob.cells 113 [SV.dt (Dt.cell (.string s)), SV.dt (Dt.cell (.int .i64 fr)), SV.dt (Dt.cell (.int .i64 c)), SV.dt (Dt.cell (.int .i64 (4 : Int)))])])))))))))))))))))))))
def LJ (s : ByteArray) (g : Nat) (lv a c : Int) (acc : List Dm) (Rn : List SV -> List (Option Ob) -> Prop) (Re : Ex -> List SV -> List (Option Ob) -> Prop) : Prop :=
((Rx.leL ([SV.ptr 0 0]) ([SV.ptr 0 0])) /\
((Rx.aZ ([Ob.cells 113 [SV.dt (Dt.cell (.string s)), SV.dt (Dt.cell (.int .i64 a)), SV.dt (Dt.cell (.int .i64 c)), SV.dt (Dt.cell (.int .i64 (0 : Int)))]]) ([Ob.cells 113 [SV.dt (Dt.cell (.string s)), SV.dt (Dt.cell (.int .i64 a)), SV.dt (Dt.cell (.int .i64 c)), SV.dt (Dt.cell (.int .i64 (0 : Int)))]])) /\
 ((Rd.okS s a) /\
  (((((0 : Int) == (0 : Int)) = true) ->
    (((decide (Rd.blk s a < (↑s.size : Int)) = true) ->
      ((((0 : Int) <= Rd.blk s a) /\
        (Rd.blk s a < (↑s.size : Int))) /\
       ((((ak s (Rd.blk s a) == (41 : Int)) = true) ->
         (((Rx.lo .i64 <= Rd.blk s a + (1 : Int)) /\
           (Rd.blk s a + (1 : Int) <= Rx.hi .i64)) /\
          Re (Rx.Ex.ret) ([SV.ptr 1 0]) ([some (Ob.cells 113 [SV.dt (Dt.cell (.string s)), SV.dt (Dt.cell (.int .i64 (Rd.blk s a + (1 : Int)))), SV.dt (Dt.cell (.int .i64 c)), SV.dt (Dt.cell (.int .i64 (0 : Int)))]), some (Ob.cells 49 [SV.dt (Dt.cell (.int .i64 (4 : Int))), SV.dt (Dt.cell (.int .i64 (0 : Int))), SV.dt (Dt.cell (.string Rd.noS)), SV.nm 2]), some (Ob.row 49 4 (acc.length) (Rd.dmL acc))]))) /\
        (((ak s (Rd.blk s a) == (41 : Int)) = false) ->
         (((Rx.lo .i64 <= lv + (1 : Int)) /\
           (lv + (1 : Int) <= Rx.hi .i64)) /\
          ((Rx.leL ([SV.ptr 0 0, SV.dt (Dt.cell (.int .i64 (lv + (1 : Int))))]) ([SV.ptr 0 0, SV.dt (Dt.cell (.int .i64 (lv + (1 : Int))))])) /\
           ((Rx.aZ ([Ob.cells 113 [SV.dt (Dt.cell (.string s)), SV.dt (Dt.cell (.int .i64 (Rd.blk s a))), SV.dt (Dt.cell (.int .i64 c)), SV.dt (Dt.cell (.int .i64 (0 : Int)))]]) ([Ob.cells 113 [SV.dt (Dt.cell (.string s)), SV.dt (Dt.cell (.int .i64 (Rd.blk s a))), SV.dt (Dt.cell (.int .i64 c)), SV.dt (Dt.cell (.int .i64 (0 : Int)))]])) /\
            (((Rd.okS s (Rd.blk s a)) /\
              ((Rd.okC c) /\
               ((Rd.okL (lv + (1 : Int))) /\
                ((Rd.iJ s g (lv + (1 : Int)) (Rd.blk s a) c).isSome = true)))) /\
             (((((Rd.aW s g (lv + (1 : Int)) (Rd.blk s a) c).e != (0 : Int)) = true) ->
               Re (Rx.Ex.ret) ([SV.ptr 1 0]) ([some (Ob.cells 113 [SV.dt (Dt.cell (.string s)), SV.dt (Dt.cell (.int .i64 (Rd.aW s g (lv + (1 : Int)) (Rd.blk s a) c).a)), SV.dt (Dt.cell (.int .i64 (Rd.aW s g (lv + (1 : Int)) (Rd.blk s a) c).c)), SV.dt (Dt.cell (.int .i64 (Rd.aW s g (lv + (1 : Int)) (Rd.blk s a) c).e))]), some (Ob.cells 49 [SV.dt (Dt.cell (.int .i64 (4 : Int))), SV.dt (Dt.cell (.int .i64 (0 : Int))), SV.dt (Dt.cell (.string Rd.noS)), SV.nm 2]), some (Ob.row 49 4 (acc.length) (Rd.dmL acc))])) /\
              ((((Rd.aW s g (lv + (1 : Int)) (Rd.blk s a) c).e != (0 : Int)) = false) ->
               (((acc.length + (1 : Nat)) * (56 : Nat) <= (140737488355328 : Nat)) /\
                Rn ([SV.ptr 0 0, SV.dt (Dt.cell (.int .i64 lv)), SV.ptr 1 0, SV.ptr 2 0]) ([some (Ob.cells 113 [SV.dt (Dt.cell (.string s)), SV.dt (Dt.cell (.int .i64 (Rd.aW s g (lv + (1 : Int)) (Rd.blk s a) c).a)), SV.dt (Dt.cell (.int .i64 (Rd.aW s g (lv + (1 : Int)) (Rd.blk s a) c).c)), SV.dt (Dt.cell (.int .i64 (Rd.aW s g (lv + (1 : Int)) (Rd.blk s a) c).e))]), some (Ob.cells 49 [SV.ki .i64 ((0 : Int)), SV.ki .i64 ((0 : Int)), SV.dt (Dt.cell (.string Rd.noS)), SV.dt (Dt.cell (.slice Option.none (0 : Nat) (0 : Nat)))]), some (Ob.cells 49 [SV.dt (Dt.cell (.int .i64 (4 : Int))), SV.dt (Dt.cell (.int .i64 (0 : Int))), SV.dt (Dt.cell (.string Rd.noS)), SV.nm 3]), some (Ob.row 49 4 (acc.length + (1 : Nat)) (Rx.dZ acc.length (Rd.dmL acc) (Rx.l6 (4 : Nat) [Rx.Dt.cell (.int .i64 (Rd.aW s g (lv + (1 : Int)) (Rd.blk s a) c).d.k), Rx.Dt.cell (.int .i64 (Rd.aW s g (lv + (1 : Int)) (Rd.blk s a) c).d.n), Rx.Dt.cell (.string (Rd.aW s g (lv + (1 : Int)) (Rd.blk s a) c).d.s), Rx.Dt.arr (4 : Nat) (Rd.aW s g (lv + (1 : Int)) (Rd.blk s a) c).d.l.length (Rd.dmL (Rd.aW s g (lv + (1 : Int)) (Rd.blk s a) c).d.l)])))])))))))))))) /\
     ((decide (Rd.blk s a < (↑s.size : Int)) = false) ->
      (((Rx.lo .i64 <= lv + (1 : Int)) /\
        (lv + (1 : Int) <= Rx.hi .i64)) /\
       ((Rx.leL ([SV.ptr 0 0, SV.dt (Dt.cell (.int .i64 (lv + (1 : Int))))]) ([SV.ptr 0 0, SV.dt (Dt.cell (.int .i64 (lv + (1 : Int))))])) /\
        ((Rx.aZ ([Ob.cells 113 [SV.dt (Dt.cell (.string s)), SV.dt (Dt.cell (.int .i64 (Rd.blk s a))), SV.dt (Dt.cell (.int .i64 c)), SV.dt (Dt.cell (.int .i64 (0 : Int)))]]) ([Ob.cells 113 [SV.dt (Dt.cell (.string s)), SV.dt (Dt.cell (.int .i64 (Rd.blk s a))), SV.dt (Dt.cell (.int .i64 c)), SV.dt (Dt.cell (.int .i64 (0 : Int)))]])) /\
         (((Rd.okS s (Rd.blk s a)) /\
           ((Rd.okC c) /\
            ((Rd.okL (lv + (1 : Int))) /\
             ((Rd.iJ s g (lv + (1 : Int)) (Rd.blk s a) c).isSome = true)))) /\
          (((((Rd.aW s g (lv + (1 : Int)) (Rd.blk s a) c).e != (0 : Int)) = true) ->
            Re (Rx.Ex.ret) ([SV.ptr 1 0]) ([some (Ob.cells 113 [SV.dt (Dt.cell (.string s)), SV.dt (Dt.cell (.int .i64 (Rd.aW s g (lv + (1 : Int)) (Rd.blk s a) c).a)), SV.dt (Dt.cell (.int .i64 (Rd.aW s g (lv + (1 : Int)) (Rd.blk s a) c).c)), SV.dt (Dt.cell (.int .i64 (Rd.aW s g (lv + (1 : Int)) (Rd.blk s a) c).e))]), some (Ob.cells 49 [SV.dt (Dt.cell (.int .i64 (4 : Int))), SV.dt (Dt.cell (.int .i64 (0 : Int))), SV.dt (Dt.cell (.string Rd.noS)), SV.nm 2]), some (Ob.row 49 4 (acc.length) (Rd.dmL acc))])) /\
           ((((Rd.aW s g (lv + (1 : Int)) (Rd.blk s a) c).e != (0 : Int)) = false) ->
            (((acc.length + (1 : Nat)) * (56 : Nat) <= (140737488355328 : Nat)) /\
             Rn ([SV.ptr 0 0, SV.dt (Dt.cell (.int .i64 lv)), SV.ptr 1 0, SV.ptr 2 0]) ([some (Ob.cells 113 [SV.dt (Dt.cell (.string s)), SV.dt (Dt.cell (.int .i64 (Rd.aW s g (lv + (1 : Int)) (Rd.blk s a) c).a)), SV.dt (Dt.cell (.int .i64 (Rd.aW s g (lv + (1 : Int)) (Rd.blk s a) c).c)), SV.dt (Dt.cell (.int .i64 (Rd.aW s g (lv + (1 : Int)) (Rd.blk s a) c).e))]), some (Ob.cells 49 [SV.ki .i64 ((0 : Int)), SV.ki .i64 ((0 : Int)), SV.dt (Dt.cell (.string Rd.noS)), SV.dt (Dt.cell (.slice Option.none (0 : Nat) (0 : Nat)))]), some (Ob.cells 49 [SV.dt (Dt.cell (.int .i64 (4 : Int))), SV.dt (Dt.cell (.int .i64 (0 : Int))), SV.dt (Dt.cell (.string Rd.noS)), SV.nm 3]), some (Ob.row 49 4 (acc.length + (1 : Nat)) (Rx.dZ acc.length (Rd.dmL acc) (Rx.l6 (4 : Nat) [Rx.Dt.cell (.int .i64 (Rd.aW s g (lv + (1 : Int)) (Rd.blk s a) c).d.k), Rx.Dt.cell (.int .i64 (Rd.aW s g (lv + (1 : Int)) (Rd.blk s a) c).d.n), Rx.Dt.cell (.string (Rd.aW s g (lv + (1 : Int)) (Rd.blk s a) c).d.s), Rx.Dt.arr (4 : Nat) (Rd.aW s g (lv + (1 : Int)) (Rd.blk s a) c).d.l.length (Rd.dmL (Rd.aW s g (lv + (1 : Int)) (Rd.blk s a) c).d.l)])))]))))))))))) /\
   ((((0 : Int) == (0 : Int)) = false) ->
    (((Rx.lo .i64 <= lv + (1 : Int)) /\
      (lv + (1 : Int) <= Rx.hi .i64)) /\
     ((Rx.leL ([SV.ptr 0 0, SV.dt (Dt.cell (.int .i64 (lv + (1 : Int))))]) ([SV.ptr 0 0, SV.dt (Dt.cell (.int .i64 (lv + (1 : Int))))])) /\
      ((Rx.aZ ([Ob.cells 113 [SV.dt (Dt.cell (.string s)), SV.dt (Dt.cell (.int .i64 (Rd.blk s a))), SV.dt (Dt.cell (.int .i64 c)), SV.dt (Dt.cell (.int .i64 (0 : Int)))]]) ([Ob.cells 113 [SV.dt (Dt.cell (.string s)), SV.dt (Dt.cell (.int .i64 (Rd.blk s a))), SV.dt (Dt.cell (.int .i64 c)), SV.dt (Dt.cell (.int .i64 (0 : Int)))]])) /\
       (((Rd.okS s (Rd.blk s a)) /\
         ((Rd.okC c) /\
          ((Rd.okL (lv + (1 : Int))) /\
           ((Rd.iJ s g (lv + (1 : Int)) (Rd.blk s a) c).isSome = true)))) /\
        (((((Rd.aW s g (lv + (1 : Int)) (Rd.blk s a) c).e != (0 : Int)) = true) ->
          Re (Rx.Ex.ret) ([SV.ptr 1 0]) ([some (Ob.cells 113 [SV.dt (Dt.cell (.string s)), SV.dt (Dt.cell (.int .i64 (Rd.aW s g (lv + (1 : Int)) (Rd.blk s a) c).a)), SV.dt (Dt.cell (.int .i64 (Rd.aW s g (lv + (1 : Int)) (Rd.blk s a) c).c)), SV.dt (Dt.cell (.int .i64 (Rd.aW s g (lv + (1 : Int)) (Rd.blk s a) c).e))]), some (Ob.cells 49 [SV.dt (Dt.cell (.int .i64 (4 : Int))), SV.dt (Dt.cell (.int .i64 (0 : Int))), SV.dt (Dt.cell (.string Rd.noS)), SV.nm 2]), some (Ob.row 49 4 (acc.length) (Rd.dmL acc))])) /\
         ((((Rd.aW s g (lv + (1 : Int)) (Rd.blk s a) c).e != (0 : Int)) = false) ->
          (((acc.length + (1 : Nat)) * (56 : Nat) <= (140737488355328 : Nat)) /\
           Rn ([SV.ptr 0 0, SV.dt (Dt.cell (.int .i64 lv)), SV.ptr 1 0, SV.ptr 2 0]) ([some (Ob.cells 113 [SV.dt (Dt.cell (.string s)), SV.dt (Dt.cell (.int .i64 (Rd.aW s g (lv + (1 : Int)) (Rd.blk s a) c).a)), SV.dt (Dt.cell (.int .i64 (Rd.aW s g (lv + (1 : Int)) (Rd.blk s a) c).c)), SV.dt (Dt.cell (.int .i64 (Rd.aW s g (lv + (1 : Int)) (Rd.blk s a) c).e))]), some (Ob.cells 49 [SV.ki .i64 ((0 : Int)), SV.ki .i64 ((0 : Int)), SV.dt (Dt.cell (.string Rd.noS)), SV.dt (Dt.cell (.slice Option.none (0 : Nat) (0 : Nat)))]), some (Ob.cells 49 [SV.dt (Dt.cell (.int .i64 (4 : Int))), SV.dt (Dt.cell (.int .i64 (0 : Int))), SV.dt (Dt.cell (.string Rd.noS)), SV.nm 3]), some (Ob.row 49 4 (acc.length + (1 : Nat)) (Rx.dZ acc.length (Rd.dmL acc) (Rx.l6 (4 : Nat) [Rx.Dt.cell (.int .i64 (Rd.aW s g (lv + (1 : Int)) (Rd.blk s a) c).d.k), Rx.Dt.cell (.int .i64 (Rd.aW s g (lv + (1 : Int)) (Rd.blk s a) c).d.n), Rx.Dt.cell (.string (Rd.aW s g (lv + (1 : Int)) (Rd.blk s a) c).d.s), Rx.Dt.arr (4 : Nat) (Rd.aW s g (lv + (1 : Int)) (Rd.blk s a) c).d.l.length (Rd.dmL (Rd.aW s g (lv + (1 : Int)) (Rd.blk s a) c).d.l)])))])))))))))))))
def PI (s : ByteArray) (g : Nat) (lv a c : Int) (R : SV -> List (Option Ob) -> Prop) : Prop :=
((Rx.leL ([SV.ptr 0 0]) ([SV.ptr 0 0])) /\
((Rx.aZ ([Ob.cells 113 [SV.dt (Dt.cell (.string s)), SV.dt (Dt.cell (.int .i64 a)), SV.dt (Dt.cell (.int .i64 c)), SV.dt (Dt.cell (.int .i64 (0 : Int)))]]) ([Ob.cells 113 [SV.dt (Dt.cell (.string s)), SV.dt (Dt.cell (.int .i64 a)), SV.dt (Dt.cell (.int .i64 c)), SV.dt (Dt.cell (.int .i64 (0 : Int)))]])) /\
 ((Rd.okS s a) /\
  (((((0 : Int) != (0 : Int)) = true) ->
    (True /\
     R (SV.agg [SV.ki .i64 ((0 : Int)), SV.ki .i64 ((0 : Int)), SV.dt (Dt.cell (.string (ByteArray.mk #[]))), SV.dt (Dt.cell (.slice Option.none (0 : Nat) (0 : Nat)))]) ([some (Ob.cells 113 [SV.dt (Dt.cell (.string s)), SV.dt (Dt.cell (.int .i64 (Rd.blk s a))), SV.dt (Dt.cell (.int .i64 c)), SV.dt (Dt.cell (.int .i64 (0 : Int)))])]))) /\
   ((((0 : Int) != (0 : Int)) = false) ->
    ((((Rd.blk s a == (↑s.size : Int)) = true) ->
      ((Rx.leL ([SV.ptr 0 0, SV.dt (Dt.cell (.int .i64 (Rd.blk s a))), SV.dt (Dt.cell (.int .i64 (5 : Int)))]) ([SV.ptr 0 0, SV.dt (Dt.cell (.int .i64 (Rd.blk s a))), SV.dt (Dt.cell (.int .i64 (5 : Int)))])) /\
       ((Rx.aZ ([Ob.cells 113 [SV.dt (Dt.cell (.string s)), SV.dt (Dt.cell (.int .i64 (Rd.blk s a))), SV.dt (Dt.cell (.int .i64 c)), SV.dt (Dt.cell (.int .i64 (0 : Int)))]]) ([Ob.cells 113 [SV.dt (Dt.cell (.string s)), SV.dt (Dt.cell (.int .i64 (Rd.blk s a))), SV.dt (Dt.cell (.int .i64 c)), SV.dt (Dt.cell (.int .i64 (0 : Int)))]])) /\
        (True /\
         R (SV.agg [SV.dt (Dt.cell (.int .i64 Rd.d0.k)), SV.dt (Dt.cell (.int .i64 Rd.d0.n)), SV.dt (Dt.cell (.string Rd.d0.s)), SV.dt (Dt.arr ((4 : Nat)) (Rd.d0.l.length) (Rd.dmL Rd.d0.l))]) ([some (Ob.cells 113 [SV.dt (Dt.cell (.string s)), SV.dt (Dt.cell (.int .i64 (Rd.blk s a))), SV.dt (Dt.cell (.int .i64 c)), SV.dt (Dt.cell (.int .i64 (5 : Int)))])]))))) /\
     (((Rd.blk s a == (↑s.size : Int)) = false) ->
      (((Rx.lo .i64 <= c + (1 : Int)) /\
        (c + (1 : Int) <= Rx.hi .i64)) /\
       (((decide (c + (1 : Int) > (400 : Int)) = true) ->
         ((Rx.leL ([SV.ptr 0 0, SV.dt (Dt.cell (.int .i64 (Rd.blk s a))), SV.dt (Dt.cell (.int .i64 (1 : Int)))]) ([SV.ptr 0 0, SV.dt (Dt.cell (.int .i64 (Rd.blk s a))), SV.dt (Dt.cell (.int .i64 (1 : Int)))])) /\
          ((Rx.aZ ([Ob.cells 113 [SV.dt (Dt.cell (.string s)), SV.dt (Dt.cell (.int .i64 (Rd.blk s a))), SV.dt (Dt.cell (.int .i64 (c + (1 : Int)))), SV.dt (Dt.cell (.int .i64 (0 : Int)))]]) ([Ob.cells 113 [SV.dt (Dt.cell (.string s)), SV.dt (Dt.cell (.int .i64 (Rd.blk s a))), SV.dt (Dt.cell (.int .i64 (c + (1 : Int)))), SV.dt (Dt.cell (.int .i64 (0 : Int)))]])) /\
           (True /\
            R (SV.agg [SV.dt (Dt.cell (.int .i64 Rd.d0.k)), SV.dt (Dt.cell (.int .i64 Rd.d0.n)), SV.dt (Dt.cell (.string Rd.d0.s)), SV.dt (Dt.arr ((4 : Nat)) (Rd.d0.l.length) (Rd.dmL Rd.d0.l))]) ([some (Ob.cells 113 [SV.dt (Dt.cell (.string s)), SV.dt (Dt.cell (.int .i64 (Rd.blk s a))), SV.dt (Dt.cell (.int .i64 (c + (1 : Int)))), SV.dt (Dt.cell (.int .i64 (1 : Int)))])]))))) /\
        ((decide (c + (1 : Int) > (400 : Int)) = false) ->
         (((decide (lv > (40 : Int)) = true) ->
           ((Rx.leL ([SV.ptr 0 0, SV.dt (Dt.cell (.int .i64 (Rd.blk s a))), SV.dt (Dt.cell (.int .i64 (8 : Int)))]) ([SV.ptr 0 0, SV.dt (Dt.cell (.int .i64 (Rd.blk s a))), SV.dt (Dt.cell (.int .i64 (8 : Int)))])) /\
            ((Rx.aZ ([Ob.cells 113 [SV.dt (Dt.cell (.string s)), SV.dt (Dt.cell (.int .i64 (Rd.blk s a))), SV.dt (Dt.cell (.int .i64 (c + (1 : Int)))), SV.dt (Dt.cell (.int .i64 (0 : Int)))]]) ([Ob.cells 113 [SV.dt (Dt.cell (.string s)), SV.dt (Dt.cell (.int .i64 (Rd.blk s a))), SV.dt (Dt.cell (.int .i64 (c + (1 : Int)))), SV.dt (Dt.cell (.int .i64 (0 : Int)))]])) /\
             (True /\
              R (SV.agg [SV.dt (Dt.cell (.int .i64 Rd.d0.k)), SV.dt (Dt.cell (.int .i64 Rd.d0.n)), SV.dt (Dt.cell (.string Rd.d0.s)), SV.dt (Dt.arr ((4 : Nat)) (Rd.d0.l.length) (Rd.dmL Rd.d0.l))]) ([some (Ob.cells 113 [SV.dt (Dt.cell (.string s)), SV.dt (Dt.cell (.int .i64 (Rd.blk s a))), SV.dt (Dt.cell (.int .i64 (c + (1 : Int)))), SV.dt (Dt.cell (.int .i64 (8 : Int)))])]))))) /\
          ((decide (lv > (40 : Int)) = false) ->
           ((((0 : Int) <= Rd.blk s a) /\
             (Rd.blk s a < (↑s.size : Int))) /\
            ((((ak s (Rd.blk s a) == (41 : Int)) = true) ->
              ((Rx.leL ([SV.ptr 0 0, SV.dt (Dt.cell (.int .i64 (Rd.blk s a))), SV.dt (Dt.cell (.int .i64 (4 : Int)))]) ([SV.ptr 0 0, SV.dt (Dt.cell (.int .i64 (Rd.blk s a))), SV.dt (Dt.cell (.int .i64 (4 : Int)))])) /\
               ((Rx.aZ ([Ob.cells 113 [SV.dt (Dt.cell (.string s)), SV.dt (Dt.cell (.int .i64 (Rd.blk s a))), SV.dt (Dt.cell (.int .i64 (c + (1 : Int)))), SV.dt (Dt.cell (.int .i64 (0 : Int)))]]) ([Ob.cells 113 [SV.dt (Dt.cell (.string s)), SV.dt (Dt.cell (.int .i64 (Rd.blk s a))), SV.dt (Dt.cell (.int .i64 (c + (1 : Int)))), SV.dt (Dt.cell (.int .i64 (0 : Int)))]])) /\
                (True /\
                 R (SV.agg [SV.dt (Dt.cell (.int .i64 Rd.d0.k)), SV.dt (Dt.cell (.int .i64 Rd.d0.n)), SV.dt (Dt.cell (.string Rd.d0.s)), SV.dt (Dt.arr ((4 : Nat)) (Rd.d0.l.length) (Rd.dmL Rd.d0.l))]) ([some (Ob.cells 113 [SV.dt (Dt.cell (.string s)), SV.dt (Dt.cell (.int .i64 (Rd.blk s a))), SV.dt (Dt.cell (.int .i64 (c + (1 : Int)))), SV.dt (Dt.cell (.int .i64 (4 : Int)))])]))))) /\
             (((ak s (Rd.blk s a) == (41 : Int)) = false) ->
              ((((ak s (Rd.blk s a) == (39 : Int)) = true) ->
                (((Rx.lo .i64 <= Rd.blk s a + (1 : Int)) /\
                  (Rd.blk s a + (1 : Int) <= Rx.hi .i64)) /\
                 (((Rx.lo .i64 <= lv + (1 : Int)) /\
                   (lv + (1 : Int) <= Rx.hi .i64)) /\
                  ((Rx.leL ([SV.ptr 0 0, SV.dt (Dt.cell (.int .i64 (lv + (1 : Int))))]) ([SV.ptr 0 0, SV.dt (Dt.cell (.int .i64 (lv + (1 : Int))))])) /\
                   ((Rx.aZ ([Ob.cells 113 [SV.dt (Dt.cell (.string s)), SV.dt (Dt.cell (.int .i64 (Rd.blk s a + (1 : Int)))), SV.dt (Dt.cell (.int .i64 (c + (1 : Int)))), SV.dt (Dt.cell (.int .i64 (0 : Int)))]]) ([Ob.cells 113 [SV.dt (Dt.cell (.string s)), SV.dt (Dt.cell (.int .i64 (Rd.blk s a + (1 : Int)))), SV.dt (Dt.cell (.int .i64 (c + (1 : Int)))), SV.dt (Dt.cell (.int .i64 (0 : Int)))]])) /\
                    (((Rd.okS s (Rd.blk s a + (1 : Int))) /\
                      ((Rd.okC (c + (1 : Int))) /\
                       ((Rd.okL (lv + (1 : Int))) /\
                        ((Rd.iJ s g (lv + (1 : Int)) (Rd.blk s a + (1 : Int)) (c + (1 : Int))).isSome = true)))) /\
                     (True /\
                      R (SV.agg [SV.dt (Dt.cell (.int .i64 (4 : Int))), SV.ki .i64 ((0 : Int)), SV.dt (Dt.cell (.string (ByteArray.mk #[]))), SV.dt (Dt.arr ((4 : Nat)) ((2 : Nat)) (Rx.l6 (4 : Nat) [Rx.Dt.cell (.int .i64 (3 : Int)), Rx.Dt.cell (.int .i64 (0 : Int)), Rx.Dt.cell (.string (ByteArray.mk #[(113 : UInt8), (117 : UInt8), (111 : UInt8), (116 : UInt8), (101 : UInt8)])), Rx.Dt.cell (.slice Option.none (0 : Nat) (0 : Nat)), Rx.Dt.cell (.int .i64 (Rd.aW s g (lv + (1 : Int)) (Rd.blk s a + (1 : Int)) (c + (1 : Int))).d.k), Rx.Dt.cell (.int .i64 (Rd.aW s g (lv + (1 : Int)) (Rd.blk s a + (1 : Int)) (c + (1 : Int))).d.n), Rx.Dt.cell (.string (Rd.aW s g (lv + (1 : Int)) (Rd.blk s a + (1 : Int)) (c + (1 : Int))).d.s), Rx.Dt.arr (4 : Nat) (Rd.aW s g (lv + (1 : Int)) (Rd.blk s a + (1 : Int)) (c + (1 : Int))).d.l.length (Rd.dmL (Rd.aW s g (lv + (1 : Int)) (Rd.blk s a + (1 : Int)) (c + (1 : Int))).d.l)]))]) ([some (Ob.cells 113 [SV.dt (Dt.cell (.string s)), SV.dt (Dt.cell (.int .i64 (Rd.aW s g (lv + (1 : Int)) (Rd.blk s a + (1 : Int)) (c + (1 : Int))).a)), SV.dt (Dt.cell (.int .i64 (Rd.aW s g (lv + (1 : Int)) (Rd.blk s a + (1 : Int)) (c + (1 : Int))).c)), SV.dt (Dt.cell (.int .i64 (Rd.aW s g (lv + (1 : Int)) (Rd.blk s a + (1 : Int)) (c + (1 : Int))).e))])])))))))) /\
               (((ak s (Rd.blk s a) == (39 : Int)) = false) ->
                ((((ak s (Rd.blk s a) == (40 : Int)) = true) ->
                  (((Rx.lo .i64 <= Rd.blk s a + (1 : Int)) /\
                    (Rd.blk s a + (1 : Int) <= Rx.hi .i64)) /\
                   (((Rx.leS (SV.ptr 0 0) (SV.ptr 0 0)) /\
                     ((Rx.leS (SV.dt (Dt.cell (.int .i64 lv))) (SV.dt (Dt.cell (.int .i64 lv)))) /\
                      ((Rx.leS (SV.ptr 1 0) (SV.ptr 1 0)) /\
                       ((Rx.leS (SV.ptr 2 0) (SV.ptr 2 0)) /\
                        True)))) /\
                    ((Rx.leOO ([some (Ob.cells 113 [SV.dt (Dt.cell (.string s)), SV.dt (Dt.cell (.int .i64 (Rd.blk s a + (1 : Int)))), SV.dt (Dt.cell (.int .i64 (c + (1 : Int)))), SV.dt (Dt.cell (.int .i64 (0 : Int)))]), some (Ob.cells 49 [SV.ki .i64 ((0 : Int)), SV.ki .i64 ((0 : Int)), SV.dt (Dt.cell (.string (ByteArray.mk #[]))), SV.dt (Dt.cell (.slice Option.none (0 : Nat) (0 : Nat)))]), some (Ob.cells 49 [SV.dt (Dt.cell (.int .i64 (4 : Int))), SV.ki .i64 ((0 : Int)), SV.dt (Dt.cell (.string (ByteArray.mk #[]))), SV.nm 3]), some (Ob.row 49 4 ((0 : Nat)) (fun x x_1 => Rx.aT))]) ([some (Ob.cells 113 [SV.dt (Dt.cell (.string s)), SV.dt (Dt.cell (.int .i64 (Rd.blk s a + (1 : Int)))), SV.dt (Dt.cell (.int .i64 (c + (1 : Int)))), SV.dt (Dt.cell (.int .i64 (0 : Int)))]), some (Ob.cells 49 [SV.ki .i64 ((0 : Int)), SV.ki .i64 ((0 : Int)), SV.dt (Dt.cell (.string Rd.noS)), SV.dt (Dt.cell (.slice Option.none (0 : Nat) (0 : Nat)))]), some (Ob.cells 49 [SV.dt (Dt.cell (.int .i64 (4 : Int))), SV.dt (Dt.cell (.int .i64 (0 : Int))), SV.dt (Dt.cell (.string Rd.noS)), SV.nm 3]), some (Ob.row 49 4 (Rd.gL.length) (Rd.dmL Rd.gL))])) /\
                     (((g <= g) /\
                       ((Rd.okS s (Rd.blk s a + (1 : Int))) /\
                        ((Rd.okC (c + (1 : Int))) /\
                         ((((1 : Int) <= lv) /\
                           (lv <= (40 : Int))) /\
                          (((↑Rd.gL.length : Int) <= c + (1 : Int)) /\
                           ((Rd.kL s g lv (Rd.blk s a + (1 : Int)) (c + (1 : Int)) Rd.gL).isSome = true)))))) /\
                      (True /\
                       R (SV.agg [SV.dt (Dt.cell (.int .i64 (4 : Int))), SV.dt (Dt.cell (.int .i64 (0 : Int))), SV.dt (Dt.cell (.string Rd.noS)), SV.dt (Dt.arr ((4 : Nat)) ((Rd.kM s g lv (Rd.blk s a + (1 : Int)) (c + (1 : Int)) Rd.gL).d.l.length) (Rd.dmL (Rd.kM s g lv (Rd.blk s a + (1 : Int)) (c + (1 : Int)) Rd.gL).d.l))]) ([some (Ob.cells 113 [SV.dt (Dt.cell (.string s)), SV.dt (Dt.cell (.int .i64 (Rd.kM s g lv (Rd.blk s a + (1 : Int)) (c + (1 : Int)) Rd.gL).a)), SV.dt (Dt.cell (.int .i64 (Rd.kM s g lv (Rd.blk s a + (1 : Int)) (c + (1 : Int)) Rd.gL).c)), SV.dt (Dt.cell (.int .i64 (Rd.kM s g lv (Rd.blk s a + (1 : Int)) (c + (1 : Int)) Rd.gL).e))])]))))))) /\
                 (((ak s (Rd.blk s a) == (40 : Int)) = false) ->
                  ((Rx.leL ([SV.ptr 0 0, SV.dt (Dt.cell (.int .i64 (Rd.blk s a)))]) ([SV.ptr 0 0, SV.dt (Dt.cell (.int .i64 (Rd.blk s a)))])) /\
                   ((Rx.aZ ([Ob.cells 113 [SV.dt (Dt.cell (.string s)), SV.dt (Dt.cell (.int .i64 (Rd.blk s a))), SV.dt (Dt.cell (.int .i64 (c + (1 : Int)))), SV.dt (Dt.cell (.int .i64 (0 : Int)))]]) ([Ob.cells 113 [SV.dt (Dt.cell (.string s)), SV.dt (Dt.cell (.int .i64 (Rd.blk s a))), SV.dt (Dt.cell (.int .i64 (c + (1 : Int)))), SV.dt (Dt.cell (.int .i64 (0 : Int)))]])) /\
                    (((Rd.okS s (Rd.blk s a)) /\
                      (((0 : Int) <= Rd.blk s a) /\
                       (Rd.blk s a <= Rd.blk s a))) /\
                     (True /\
                      R (SV.agg [SV.dt (Dt.cell (.int .i64 (Rd.atD (Rd.aD s (Rd.blk s a) (Rd.blk s a))).k)), SV.dt (Dt.cell (.int .i64 (Rd.atD (Rd.aD s (Rd.blk s a) (Rd.blk s a))).n)), SV.dt (Dt.cell (.string (Rd.atD (Rd.aD s (Rd.blk s a) (Rd.blk s a))).s)), SV.dt (Dt.arr ((4 : Nat)) ((Rd.atD (Rd.aD s (Rd.blk s a) (Rd.blk s a))).l.length) (Rd.dmL (Rd.atD (Rd.aD s (Rd.blk s a) (Rd.blk s a))).l))]) ([some (Ob.cells 113 [SV.dt (Dt.cell (.string s)), SV.dt (Dt.cell (.int .i64 (if Rd.atE (Rd.aD s (Rd.blk s a) (Rd.blk s a)) = (0 : Int) then Rd.bf s (Rd.blk s a) else Rd.blk s a))), SV.dt (Dt.cell (.int .i64 (c + (1 : Int)))), SV.dt (Dt.cell (.int .i64 (Rd.atE (Rd.aD s (Rd.blk s a) (Rd.blk s a)))))])]))))))))))))))))))))))))
theorem vX (s : ByteArray) : ∀ f, (∀ lv a c r, iJ s f lv a c = some r -> iJ s (f + 1) lv a c = some r) /\ (∀ lv a c acc r, kL s f lv a c acc = some r -> kL s (f + 1) lv a c acc = some r)
 | 0 => ⟨fun _ _ _ _ h => by simp [iJ] at h, fun _ _ _ _ _ h => by simp [kL] at h⟩
 | f + 1 => by
   obtain ⟨h1, h2⟩ := vX s f
   refine ⟨fun lv a c r h => ?_, fun lv a c acc r h => ?_⟩
   · rw [iJ] at h ⊢
     by_cases g1 : blk s a = s.size
     · rw [if_pos g1] at h ⊢; exact h
     rw [if_neg g1] at h ⊢
     by_cases g2 : c + 1 > 400
     · rw [if_pos g2] at h ⊢; exact h
     rw [if_neg g2] at h ⊢
     by_cases g3 : lv > 40
     · rw [if_pos g3] at h ⊢; exact h
     rw [if_neg g3] at h ⊢
     by_cases g4 : ak s (blk s a) = 41
     · rw [if_pos g4] at h ⊢; exact h
     rw [if_neg g4] at h ⊢
     by_cases g5 : ak s (blk s a) = 39
     · rw [if_pos g5] at h ⊢
       obtain ⟨q, hq, rfl⟩ := Option.map_eq_some_iff.1 h
       rw [h1 _ _ _ _ hq]; rfl
     rw [if_neg g5] at h ⊢
     by_cases g6 : ak s (blk s a) = 40
     · rw [if_pos g6] at h ⊢; exact h2 _ _ _ _ _ h
     rw [if_neg g6] at h ⊢
     exact h
   · rw [kL] at h ⊢
     split at h
     · rename_i g; rw [if_pos g]; exact h
     · rename_i g
       rw [if_neg g]
       split at h
       · cases h
       · rename_i q hq
         rw [h1 _ _ _ _ hq]
         simp only
         split at h
         · rename_i g2; rw [if_pos g2]; exact h
         · rename_i g2; rw [if_neg g2]; exact h2 _ _ _ _ _ h
theorem jV {s : ByteArray} {f g : Nat} (h : f <= g) {lv a c : Int} {r : PR} (hr : iJ s f lv a c = some r) : iJ s g lv a c = some r := by
 induction h with
 | refl => exact hr
 | step _ ih => exact (vX s _).1 _ _ _ _ ih
theorem Oz {s : ByteArray} {f g : Nat} (h : f <= g) {lv a c : Int} {acc : List Dm} {r : PR} (hr : kL s f lv a c acc = some r) : kL s g lv a c acc = some r := by
 induction h with
 | refl => exact hr
 | step _ ih => exact (vX s _).2 _ _ _ _ _ ih
theorem yF (s : ByteArray) : ∀ f, (∀ lv a c r, iJ s f lv a c = some r -> okS s a -> okC c -> okS s r.a /\ (r.e = 0 -> r.c <= 400) /\ c <= r.c /\ (r.e = 0 -> c + 1 <= r.c)) /\
  (∀ lv a c acc r, kL s f lv a c acc = some r -> okS s a -> okC c -> okS s r.a /\ (r.e = 0 -> r.c <= 400) /\ c <= r.c /\ r.d = .mk 4 0 noS r.d.l)
 | 0 => ⟨fun _ _ _ _ h => by simp [iJ] at h, fun _ _ _ _ _ h => by simp [kL] at h⟩
 | f + 1 => by
   obtain ⟨h1, h2⟩ := yF s f
   refine ⟨fun lv a c r h hs hc => ?_, fun lv a c acc r h hs hc => ?_⟩
   · have b1 := wB s a
     have b2 := vR s a hs.2.2
     have hb : okS s (blk s a) := ⟨hs.1, by have := hs.2.1; omega, b2⟩
     rw [iJ] at h
     split at h
     · injection h with h; subst h; exact ⟨hb, fun h => (by cases h), Int.le_refl _, fun h => (by cases h)⟩
     · split at h
       · injection h with h; subst h; exact ⟨hb, fun h => (by cases h), by simp only; omega, fun h => (by cases h)⟩
       · split at h
         · injection h with h; subst h; exact ⟨hb, fun h => (by cases h), by simp only; omega, fun h => (by cases h)⟩
         · rename_i g1 g2 g3
           have hc1 : okC (c + 1) := ⟨by have := hc.1; omega, by omega⟩
           have hb1 : okS s (blk s a + 1) := ⟨hs.1, by have := hb.2.1; omega, by omega⟩
           split at h
           · injection h with h; subst h; exact ⟨hb, fun h => (by cases h), by simp only; omega, fun h => (by cases h)⟩
           · split at h
             · obtain ⟨q, hq, rfl⟩ := Option.map_eq_some_iff.1 h
               obtain ⟨k1, k2, k3, k4⟩ := h1 _ _ _ _ hq hb1 hc1
               exact ⟨k1, k2, by simp only; omega, fun _ => by simp only; omega⟩
             · split at h
               · obtain ⟨k1, k2, k3, k4⟩ := h2 _ _ _ _ _ h hb1 hc1
                 exact ⟨k1, k2, by omega, fun _ => by omega⟩
               · injection h with h; subst h
                 refine ⟨?_, fun _ => hc1.2, by simp only; omega, fun _ => Int.le_refl _⟩
                 simp only
                 split
                 · exact ⟨hs.1, by have := Mw s (blk s a); have := hb.2.1; omega, MQ s _ b2⟩
                 · exact hb
   · have b1 := wB s a
     have b2 := vR s a hs.2.2
     have hb : okS s (blk s a) := ⟨hs.1, by have := hs.2.1; omega, b2⟩
     rw [kL] at h
     split at h
     · injection h with h; subst h; exact ⟨⟨hs.1, by have := hb.2.1; simp only; omega, by simp only; omega⟩, fun _ => hc.2, Int.le_refl _, rfl⟩
     · split at h
       · cases h
       · rename_i q hq
         obtain ⟨k1, k2, k3, k4⟩ := h1 _ _ _ _ hq hb hc
         split at h
         · rename_i g; injection h with h; subst h; exact ⟨k1, fun h => absurd h g, k3, rfl⟩
         · rename_i g
           have g : q.e = 0 := by simpa using g
           obtain ⟨m1, m2, m3, m4⟩ := h2 _ _ _ _ _ h k1 ⟨by have := hc.1; omega, k2 g⟩
           exact ⟨m1, m2, by omega, m4⟩
theorem Ry (d : Dm) (j : Nat) (hj : j < 4) : dmT d j = [Dt.cell (.int .i64 d.k), .cell (.int .i64 d.n), .cell (.string d.s), .arr 4 d.l.length (dmL d.l)].getD j aT := by
 cases d with
 | mk k n s l =>
   match j, hj with
   | 0, _ => simp [dmT, Dm.k]
   | 1, _ => simp [dmT, Dm.n]
   | 2, _ => simp [dmT, Dm.s]
   | 3, _ => simp [dmT, Dm.l]
theorem Rt : ∀ {l m : List Dm} {i : Nat} (j : Nat), i < l.length -> dmL (l ++ m) i j = dmL l i j
 | [], _, _, _, h => by simp at h
 | d :: l, m, 0, j, _ => by simp [dmL]
 | d :: l, m, i + 1, j, h => by
   simp only [List.cons_append, dmL]
   exact Rt j (by simpa using h)
theorem Pv : ∀ (l : List Dm) (d : Dm) (m : List Dm) (j : Nat), dmL (l ++ d :: m) l.length j = dmT d j
 | [], d, m, j => by simp [dmL]
 | x :: l, d, m, j => by
   simp only [List.cons_append, List.length_cons, dmL]
   exact Pv l d m j
theorem Hy (acc : List Dm) (d : Dm) (k j : Nat) (hk : k < acc.length + 1) (hj : j < 4) :
  bV (dZ acc.length (dmL acc) (l6 4 [Dt.cell (.int .i64 d.k), .cell (.int .i64 d.n), .cell (.string d.s), .arr 4 d.l.length (dmL d.l)]) k j) (dmL (acc ++ [d]) k j) := by
 by_cases h : k < acc.length
 · have e : dZ acc.length (dmL acc) (l6 4 [Dt.cell (.int .i64 d.k), .cell (.int .i64 d.n), .cell (.string d.s), .arr 4 d.l.length (dmL d.l)]) k j = dmL acc k j := by
    have hb : Nat.blt k acc.length = true := by rw [Nat.blt_eq]; exact h
    simp only [dZ, hb, cond_true]
   rw [e, Rt j h]
   exact dB _
 · have hk : k = acc.length := by omega
   subst hk
   have e : dZ acc.length (dmL acc) (l6 4 [Dt.cell (.int .i64 d.k), .cell (.int .i64 d.n), .cell (.string d.s), .arr 4 d.l.length (dmL d.l)]) acc.length j = l6 4 [Dt.cell (.int .i64 d.k), .cell (.int .i64 d.n), .cell (.string d.s), .arr 4 d.l.length (dmL d.l)] 0 j := by
    have hb : Nat.blt acc.length acc.length = false := by
        cases hq : Nat.blt acc.length acc.length with
        | false => rfl
        | true => rw [Nat.blt_eq] at hq; omega
    simp only [dZ, hb, cond_false, Nat.sub_self]
   rw [e, Pv, Ry d j hj, yt hj (by simpa using hj), Nat.zero_mul, Nat.zero_add]
   exact dB _
theorem WX : syF.Ok prog := by
 intro al ol args obs out h
 unfold syF at h
 simp only at h
 repeat' split at h
 all_goals first
  | (simp only [Option.some.injEq, Prod.mk.injEq] at h; obtain ⟨rfl, rfl, rfl⟩ := h; apply Bb)
  | cases h
theorem Vm : aiF.Ok prog := by
 intro al ol args obs out h
 unfold aiF at h
 simp only at h
 repeat' split at h
 all_goals first
  | (simp only [Option.some.injEq, Prod.mk.injEq] at h; obtain ⟨rfl, rfl, rfl⟩ := h; apply O8)
  | cases h
theorem V8 : itF.Ok prog := by
 intro al ol args obs out h
 unfold itF at h
 simp only at h
 repeat' split at h
 all_goals first
  | (simp only [Option.some.injEq, Prod.mk.injEq] at h; obtain ⟨rfl, rfl, rfl⟩ := h; apply Jm)
  | cases h
theorem vH : stF.Ok prog := by
 intro al ol args obs out h
 unfold stF at h
 simp only at h
 repeat' split at h
 all_goals first
  | (simp only [Option.some.injEq, Prod.mk.injEq] at h; obtain ⟨rfl, rfl, rfl⟩ := h; apply QN)
  | cases h
theorem Gu : bkF.Ok prog := by
 intro al ol args obs out h
 unfold bkF at h
 simp only at h
 repeat' split at h
 all_goals first
  | (simp only [Option.some.injEq, Prod.mk.injEq] at h; obtain ⟨rfl, rfl, rfl⟩ := h; apply KX)
  | cases h
theorem MK : ∀ x ∈ Ug, x.2.2.Ok prog := all_cons KR (all_cons WX (all_cons Vm (all_cons V8 (all_cons vH (all_cons vH all_nil)))))
theorem Fz (s : ByteArray) (fr c e a : Int) : Sound RX (.loop Eu) (jJ (Jb.live.h.zip (wE fr)) [some (pOb s a c e), some zOb]) ((PV s fr c e a).map (OutC.st Jb.live)) := by
 refine rD mixed (ks := Ug) (ls := [Jb]) (c := Eu) (nb := 1) (N := 88) MK (gu (by kernel_rfl)) Jb.live (fun _ : Int => wE fr) (fun a => [some (pOb s a c e), some zOb]) (fun a => PV s fr c e a) (fun a => ((s.size : Int) - a).toNat)
  (Q := fun a => M7 s fr c e a) (fun a post hp => ?_) (fun a Rn Re => by kernel_rfl) a
 obtain ⟨⟨h1, h2, h3⟩, hp⟩ := hp
 have hp : post (.exit 0, wE fr, [some (pOb s (bf s a) c e), some zOb]) := hp
 have done : bf s a = a -> mq post (.exit 0) (wE fr) [some (pOb s a c e), some zOb] := fun h => by
  rw [h] at hp; exact mq.mk hp (aF _) (aJ _)
 unfold M7
 simp only [lo, hi, decide_eq_true_eq, decide_eq_false_iff_not]
 refine ⟨fun h => ⟨⟨h2, h⟩, aF _, trivial, fun hb => ⟨⟨by omega, by omega⟩, a + 1, by omega, aF _, aJ _, ⟨h1, by omega, by omega⟩, ?_⟩, fun hb => done ?_⟩, fun h => done ?_⟩
 · have : bf s a = bf s (a + 1) := by rw [bf.eq_1 s a, if_pos ⟨h, hb⟩]
   rw [this] at hp; exact hp
 · rw [bf, if_neg]; rintro ⟨_, h⟩; exact hb h
 · rw [bf, if_neg]; rintro ⟨h', _⟩; exact h h'
theorem TY : KG RX Jb Eu := by
 intro svs obl args obs out h
 unfold Jb at h
 simp only at h
 repeat' split at h
 all_goals first
  | (simp only [Option.some.injEq, Prod.mk.injEq] at h; obtain ⟨rfl, rfl, rfl⟩ := h; apply Fz)
  | cases h
theorem Nt : RX.Lok (bK (bL zU)) := by
 have hl : bK (bL zU) = [Eu] := by kernel_rfl
 rw [hl]
 refine lC fun f h c hc hr => ?_
 rw [List.mem_singleton] at hc h
 subst hc; subst h
 exact TY
theorem MR {k n : Int} {s : ByteArray} {x y z : SV} (hx : leS x (vI .i64 k)) (hy : leS y (vI .i64 n)) (hz : leS z (vS s)) : leS (.agg [x, y, z, .dt (.cell (.slice none 0 0))]) (dmS (.mk k n s [])) := by
 simp only [dmS, dmA, Dm.k, Dm.n, Dm.s, Dm.l, FD, uO, yA, and_true]
 refine ⟨hx, hy, hz, ?_⟩
 rw [Er]
 simp only [bV]
 exact ⟨rfl, rfl⟩
theorem Rc (s : ByteArray) (fr a c : Int) : Ctr prog RL [.ptr 0 0, vI .i64 fr] [pOb s a c 0] (Vh s fr a c) := by
 refine jq mixed (N := 88) (fn := zU) (c := bL zU) (ks := Ug) (ls := [Jb]) (by kernel_rfl) (by kernel_rfl) (by kernel_rfl) MK Bg Nt (by kernel_rfl) (Q := UF s fr a c) (fun post hp => ?_) (fun R => by kernel_rfl)
 obtain ⟨⟨h1, h2, h3⟩, hp⟩ := hp
 have hp : post (dmS (atD (aD s fr a)), [some (pOb s (if atE (aD s fr a) = 0 then bf s a else fr) c (atE (aD s fr a)))]) := hp
 have b1 := Mw s a
 have b2 := MQ s a h1.2.2
 have ok : ∀ {v : SV}, atE (aD s fr a) = 0 -> leS v (dmS (atD (aD s fr a))) -> Gives post v [some (pOb s (bf s a) c 0)] := fun he hv => by
  rw [if_pos he, he] at hp; exact lY hp hv (aJ _)
 have no : ∀ {e : Int}, e ≠ 0 -> atE (aD s fr a) = e -> atD (aD s fr a) = d0 -> Gives post (dmS d0) [some (pOb s fr c e)] := fun he h hd => by
  rw [h, if_neg he, hd] at hp; exact lY hp (aH _) (aJ _)
 have eT : isT (aD s fr a) = true -> atE (aD s fr a) = 0 /\ atD (aD s fr a) = .mk 2 1 noS [] := fun h => by simp only [atE, atD, h, if_true, and_self]
 have eF : isT (aD s fr a) = false -> isF (aD s fr a) = true -> atE (aD s fr a) = 0 /\ atD (aD s fr a) = .mk 2 0 noS [] := fun h h' => by simp [atE, atD, h, h']
 have eS : isT (aD s fr a) = false -> isF (aD s fr a) = false -> oD (aD s fr a) = true -> atE (aD s fr a) = 0 /\ atD (aD s fr a) = .mk 3 0 (aD s fr a) [] := fun h h' h'' => by simp [atE, atD, h, h', h'']
 have e4 : isT (aD s fr a) = false -> isF (aD s fr a) = false -> oD (aD s fr a) = false -> isN (aD s fr a) = false -> atE (aD s fr a) = 4 /\ atD (aD s fr a) = d0 := fun h h' h'' h3 => by simp [atE, atD, h, h', h'', h3]
 have e2 : isT (aD s fr a) = false -> isF (aD s fr a) = false -> oD (aD s fr a) = false -> isN (aD s fr a) = true -> (dO (aD s fr a) < -1099511627776 ∨ 1099511627776 < dO (aD s fr a)) -> atE (aD s fr a) = 2 /\ atD (aD s fr a) = d0 := fun h h' h'' h3 h4 => by simp [atE, atD, h, h', h'', h3, h4]
 have e1 : isT (aD s fr a) = false -> isF (aD s fr a) = false -> oD (aD s fr a) = false -> isN (aD s fr a) = true -> ¬ (dO (aD s fr a) < -1099511627776 ∨ 1099511627776 < dO (aD s fr a)) -> atE (aD s fr a) = 0 /\ atD (aD s fr a) = .mk 1 (dO (aD s fr a)) noS [] := fun h h' h'' h3 h4 => by simp [atE, atD, h, h', h'', h3, h4]
 have hsz : (aD s fr a).size <= 281474976710656 := by
  have : (aD s fr a).size <= s.size := by simp [aD]; omega
  have := h1.1; omega
 have hin : lW (aD s fr a) = true -> inI (dO (aD s fr a)) := fun h => by
  unfold lW at h
  unfold dO
  split at h
  · rename_i v hv
    exact Lib.atoiAll_bounds hv
  · cases h
 have nN : lW (aD s fr a) = false -> isN (aD s fr a) = false := fun h => by simp [isN, h]
 have nN' : (!((bG (dO (aD s fr a))).data.toList == (aD s fr a).data.toList)) = true -> isN (aD s fr a) = false := fun h => by
  unfold isN
  rw [Bool.not_eq_true'] at h
  rw [h, Bool.and_false]
 have yN : lW (aD s fr a) = true -> (!((bG (dO (aD s fr a))).data.toList == (aD s fr a).data.toList)) = false -> isN (aD s fr a) = true := fun h h' => by
  unfold isN
  rw [Bool.not_eq_false'] at h'
  rw [h, h']; rfl
 unfold UF
 refine ⟨⟨aH _, aH _, aH _, trivial⟩, aJ _, h1, ⟨h2, by omega, b2⟩, fun hT => ⟨trivial, ?_⟩, fun hT => ⟨fun hF => ⟨trivial, ?_⟩, fun hF => ⟨aF _, trivial, fun hS => ⟨trivial, ?_⟩, fun hS =>
  ⟨aF _, trivial, hsz, fun hA => ⟨aF _, trivial, hin hA, fun hI => ⟨aF _, aQ _, trivial, ?_⟩, fun hI => ⟨fun g => ⟨aF _, aQ _, trivial, ?_⟩, fun g => ⟨fun g' => ⟨aF _, aQ _, trivial, ?_⟩, fun g' => ⟨trivial, ?_⟩⟩⟩⟩,
   fun hA => ⟨aF _, aQ _, trivial, ?_⟩⟩⟩⟩⟩
 · have h := eT hT
   exact ok h.1 (by rw [h.2]; exact MR (aH _) (aH _) (aH _))
 · have h := eF hT hF
   exact ok h.1 (by rw [h.2]; exact MR (aH _) ((nG _ _ _).2 rfl) (aH _))
 · have h := eS hT hF hS
   exact ok h.1 (by rw [h.2]; exact MR (aH _) ((nG _ _ _).2 rfl) (aH _))
 · have h := e4 hT hF hS (nN' hI)
   exact no (by decide) h.1 h.2
 · have h := e2 hT hF hS (yN hA hI) (.inl (of_decide_eq_true g))
   exact no (by decide) h.1 h.2
 · have h := e2 hT hF hS (yN hA hI) (.inr (of_decide_eq_true g'))
   exact no (by decide) h.1 h.2
 · have h := e1 hT hF hS (yN hA hI) (by have := of_decide_eq_false g; have := of_decide_eq_false g'; unfold aD; omega)
   exact ok h.1 (by rw [h.2]; exact MR (aH _) (aH _) (aH _))
 · have h := e4 hT hF hS (nN hA)
   exact no (by decide) h.1 h.2
theorem Wx : amF.Ok prog := by
 intro al ol args obs out h
 unfold amF at h
 simp only at h
 repeat' split at h
 all_goals first
  | (simp only [Option.some.injEq, Prod.mk.injEq] at h; obtain ⟨rfl, rfl, rfl⟩ := h; apply Rc)
  | cases h
end Rd
