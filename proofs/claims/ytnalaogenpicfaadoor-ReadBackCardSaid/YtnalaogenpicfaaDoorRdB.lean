/- Words, data, texts: the reader. -/
import Derived.Test.YtnalaogenpicfaaDoorRdA
set_option linter.unusedSimpArgs false
set_option linter.unusedVariables false
open Rx Go
namespace Rd
--PROG prog

def delims : ByteArray := ⟨#[32, 10, 9, 40, 41, 59, 39]⟩
/-- the end of a word -/
def wend (s : ByteArray) (a : Int) : Int := if a < s.size ∧ ixB delims (byteAt s a) < 0 then wend s (a + 1) else a
termination_by ((s.size : Int) - a).toNat
decreasing_by omega
theorem wend_ge (s : ByteArray) (a : Int) : a ≤ wend s a := by
  fun_induction wend s a <;> omega
theorem wend_le (s : ByteArray) (a : Int) (h : a ≤ s.size) : wend s a ≤ s.size := by
  fun_induction wend s a <;> omega

/-! ## a word -/
def isT (w : ByteArray) : Bool := w.data.toList == [35, 116]
def isF (w : ByteArray) : Bool := w.data.toList == [35, 102]
def isN (w : ByteArray) : Bool := atoiOk w && ((itoaB (atoiV w)).data.toList == w.data.toList)
def atE (w : ByteArray) : Int :=
  if isT w then 0 else if isF w then 0 else if symB w then 0 else if isN w then if atoiV w < -1099511627776 ∨ 1099511627776 < atoiV w then 2 else 0 else 4
def atD (w : ByteArray) : Dm :=
  if isT w then .mk 2 1 noS [] else if isF w then .mk 2 0 noS [] else if symB w then .mk 3 0 w [] else if isN w then if atoiV w < -1099511627776 ∨ 1099511627776 < atoiV w then d0 else .mk 1 (atoiV w) noS [] else d0
/-- the word that begins at a place -/
def wordAt (s : ByteArray) (a b : Int) : ByteArray := s.extract a.toNat (wend s b).toNat
def zOb : Ob := .cells tDatum [.ki .i64 0, .ki .i64 0, vS noS, .dt (.cell (.slice none 0 0))]

def atArgs (fr : Int) : List SV := [.ptr 0 0, vI .i64 fr, .ptr 1 0]
def atOut (s : ByteArray) (fr c e : Int) (a : Int) : T OutC := .need (okS s a) (.ret (.exit 0, atArgs fr, [some (pOb s (wend s a) c e), some zOb]))
def atLF : LF := ⟨1, ⟨[0, 1, 4], [0, 1, 4], []⟩, fun svs obl => match svs, obl with
  | [.ptr 0 0, fr, .ptr 1 0], [some (.cells _ [s, a, c, e]), some _] => match rdI fr, rdS s, rdI a, rdI c, rdI e with
    | some fr, some s, some a, some c, some e => some (atArgs fr, [some (pOb s a c e), some zOb], atOut s fr c e a)
    | _, _, _, _, _ => none
  | _, _ => none⟩
def syF : FC := ⟨f_symbol, false, false, fun al ol => match al, ol with
  | [x], [] => match rdS x with
    | some s => some ([vS s], [], symO s)
    | none => none
  | _, _ => none⟩
def aiF : FC := ⟨f_Atoi, false, false, fun al ol => match al, ol with
  | [x], [] => match rdS x with
    | some s => some ([vS s], [], atoiO s)
    | none => none
  | _, _ => none⟩
def itO (n : Int) : T Out := .need (inI n) (.ret (vS (itoaB n), []))
def itF : FC := ⟨f_Itoa, false, false, fun al ol => match al, ol with
  | [x], [] => match rdI x with
    | some n => some ([vI .i64 n], [], itO n)
    | none => none
  | _, _ => none⟩
def stF : FC := ⟨f_stop, false, false, fun al ol => match al, ol with
  | [.ptr 0 0, x, y], [.cells _ [s, a, c, _]] => match rdI x, rdI y, rdS s, rdI a, rdI c with
    | some x, some y, some s, some a, some c => some ([.ptr 0 0, vI .i64 x, vI .i64 y], [pOb s a c 0], stopO s c x y)
    | _, _, _, _, _ => none
  | _, _ => none⟩
def atKs : List (Nat × Nat × FC) := [(1, 20, ixF), (8, 1, syF), (10, 1, aiF), (11, 4, itF), (12, 2, stF), (14, 2, stF)]
noncomputable def atEnv : Env := fnE prog 88 1 atKs [atLF]
noncomputable def atLoop : Code := (loopIn 1 (bodyOf c_atom)).getD .skip
def atomO (s : ByteArray) (fr a c : Int) : T Out := .need (okS s a ∧ 0 ≤ fr ∧ fr ≤ a)
  (.ret (dmS (atD (wordAt s fr a)), [some (pOb s (if atE (wordAt s fr a) = 0 then wend s a else fr) c (atE (wordAt s fr a)))]))

/-! ## a datum -/
structure PR where
  d : Dm
  a : Int
  c : Int
  e : Int
instance : Inhabited PR := ⟨⟨d0, 0, 0, 0⟩⟩
def quoteS : ByteArray := ⟨#[113, 117, 111, 116, 101]⟩
mutual
def datS (s : ByteArray) : Nat → Int → Int → Int → Option PR
  | 0, _, _, _ => none
  | f + 1, lv, a, c =>
    if blk s a = s.size then some ⟨d0, blk s a, c, 5⟩ else if c + 1 > 400 then some ⟨d0, blk s a, c + 1, 1⟩ else if lv > 40 then some ⟨d0, blk s a, c + 1, 8⟩
    else if byteAt s (blk s a) = 41 then some ⟨d0, blk s a, c + 1, 4⟩
    else if byteAt s (blk s a) = 39 then (datS s f (lv + 1) (blk s a + 1) (c + 1)).map fun r => ⟨.mk 4 0 noS [.mk 3 0 quoteS [], r.d], r.a, r.c, r.e⟩
    else if byteAt s (blk s a) = 40 then lisS s f lv (blk s a + 1) (c + 1) []
    else some ⟨atD (wordAt s (blk s a) (blk s a)), if atE (wordAt s (blk s a) (blk s a)) = 0 then wend s (blk s a) else blk s a, c + 1, atE (wordAt s (blk s a) (blk s a))⟩
def lisS (s : ByteArray) : Nat → Int → Int → Int → List Dm → Option PR
  | 0, _, _, _, _ => none
  | f + 1, lv, a, c, acc =>
    if blk s a < s.size ∧ byteAt s (blk s a) = 41 then some ⟨.mk 4 0 noS acc, blk s a + 1, c, 0⟩
    else match datS s f (lv + 1) (blk s a) c with
      | none => none
      | some r => if r.e ≠ 0 then some ⟨.mk 4 0 noS acc, r.a, r.c, r.e⟩ else lisS s f lv r.a r.c (acc ++ [r.d])
end
def datR (s : ByteArray) (f : Nat) (lv a c : Int) : PR := (datS s f lv a c).getD default
def lisR (s : ByteArray) (f : Nat) (lv a c : Int) (acc : List Dm) : PR := (lisS s f lv a c acc).getD default
def okC (c : Int) : Prop := 0 ≤ c ∧ c ≤ 400
def okL (lv : Int) : Prop := 1 ≤ lv ∧ lv ≤ 41
def datumO (s : ByteArray) (f : Nat) (lv a c : Int) : T Out := .need (okS s a ∧ okC c ∧ okL lv ∧ (datS s f lv a c).isSome = true)
  (.ret (dmS (datR s f lv a c).d, [some (pOb s (datR s f lv a c).a (datR s f lv a c).c (datR s f lv a c).e)]))
def datF (f : Nat) : FC := ⟨f_datum, false, false, fun al ol => match al, ol with
  | [.ptr 0 0, lv], [.cells _ [s, a, c, _]] => match rdI lv, rdS s, rdI a, rdI c with
    | some lv, some s, some a, some c => some ([.ptr 0 0, vI .i64 lv], [pOb s a c 0], datumO s f lv a c)
    | _, _, _, _ => none
  | _, _ => none⟩
def bkF : FC := ⟨f_blanks, false, false, fun al ol => match al, ol with
  | [.ptr 0 0], [.cells _ [s, a, c, e]] => match rdS s, rdI a, rdI c, rdI e with
    | some s, some a, some c, some e => some ([.ptr 0 0], [pOb s a c e], blanksO s a c e)
    | _, _, _, _ => none
  | _, _ => none⟩
def amF : FC := ⟨f_atom, false, false, fun al ol => match al, ol with
  | [.ptr 0 0, fr], [.cells _ [s, a, c, _]] => match rdI fr, rdS s, rdI a, rdI c with
    | some fr, some s, some a, some c => some ([.ptr 0 0, vI .i64 fr], [pOb s a c 0], atomO s fr a c)
    | _, _, _, _ => none
  | _, _ => none⟩
def noF : FC := ⟨0, false, false, fun _ _ => none⟩
def nilD : List Dm := []
structure LX where
  f : Nat
  a : Int
  c : Int
  acc : List Dm
def liArgs (lv : Int) : List SV := [.ptr 0 0, vI .i64 lv, .ptr 1 0, .ptr 2 0]
def liObs (s : ByteArray) (x : LX) : List (Option Ob) := [some (pOb s x.a x.c 0), some zOb, some (.cells tDatum [vI .i64 4, vI .i64 0, vS noS, .nm 3]), some (.row tDatum 4 x.acc.length (dmL x.acc))]
def liOut (s : ByteArray) (g : Nat) (lv : Int) (x : LX) : T OutC := .need (x.f ≤ g ∧ okS s x.a ∧ okC x.c ∧ (1 ≤ lv ∧ lv ≤ 40) ∧ x.acc.length ≤ x.c ∧ (lisS s x.f lv x.a x.c x.acc).isSome = true)
  (.ret (.ret, [.ptr 1 0], [some (pOb s (lisR s x.f lv x.a x.c x.acc).a (lisR s x.f lv x.a x.c x.acc).c (lisR s x.f lv x.a x.c x.acc).e),
    some (.cells tDatum [vI .i64 4, vI .i64 0, vS noS, .nm 2]), some (.row tDatum 4 (lisR s x.f lv x.a x.c x.acc).d.l.length (dmL (lisR s x.f lv x.a x.c x.acc).d.l))]))
def liLF (g : Nat) : LF := ⟨22, ⟨[0, 1, 4, 7], [], [4]⟩, fun svs obl => match svs, obl with
  | [.ptr 0 0, lv, .ptr 1 0, .ptr 2 0], some (.cells _ [s, a, c, _]) :: _ => match rdI lv, rdS s, rdI a, rdI c with
    | some lv, some s, some a, some c => some (liArgs lv, liObs s ⟨g, a, c, nilD⟩, liOut s g lv ⟨g, a, c, nilD⟩)
    | _, _, _, _ => none
  | _, _ => none⟩
def daKs (g : Nat) : List (Nat × Nat × FC) := [(1, 1, bkF), (5, 5, stF), (9, 2, stF), (11, 2, stF), (14, 2, stF), (17, 3, datF g), (21, 0, noF), (22, 1, bkF), (26, 3, datF g), (30, 2, amF)]
noncomputable def daEnv (g : Nat) : Env := fnE prog 153 1 (daKs g) [liLF g]
noncomputable def liLoop : Code := (loopIn 22 (bodyOf c_datum)).getD .skip

def atLoopQ (s : ByteArray) (fr c e a : Int) (Rn : List SV → List (Option Ob) → Prop) (Re : Ex → List SV → List (Option Ob) → Prop) : Prop :=
(((Decidable.decide (a < (↑s.size : Int)) = Bool.true) →
 ((((0 : Int) ≤ a) ∧
   (a < (↑s.size : Int))) ∧
  ((Rx.leL ([SV.dt (Dt.cell (Go.Value.string (ByteArray.mk #[(32 : UInt8), (10 : UInt8), (9 : UInt8), (40 : UInt8), (41 : UInt8), (59 : UInt8), (39 : UInt8)]))), SV.dt (Dt.cell (Go.Value.int Go.IntKind.u8 (Rx.byteAt s a)))]) ([SV.dt (Dt.cell (Go.Value.string (ByteArray.mk #[(32 : UInt8), (10 : UInt8), (9 : UInt8), (40 : UInt8), (41 : UInt8), (59 : UInt8), (39 : UInt8)]))), SV.dt (Dt.cell (Go.Value.int Go.IntKind.u8 (Rx.byteAt s a)))])) ∧
   ((Rx.leObL ([]) ([])) ∧
    (((Decidable.decide (Rd.ixB (ByteArray.mk #[(32 : UInt8), (10 : UInt8), (9 : UInt8), (40 : UInt8), (41 : UInt8), (59 : UInt8), (39 : UInt8)]) (Rx.byteAt s a) < (0 : Int)) = Bool.true) →
      (((Rx.lo Go.IntKind.i64 ≤ a + (1 : Int)) ∧
        (a + (1 : Int) ≤ Rx.hi Go.IntKind.i64)) ∧
       Rn ([SV.ptr 0 0, SV.dt (Dt.cell (Go.Value.int Go.IntKind.i64 fr)), SV.ptr 1 0]) ([some (Ob.cells 49 [SV.dt (Dt.cell (Go.Value.string s)), SV.dt (Dt.cell (Go.Value.int Go.IntKind.i64 (a + (1 : Int)))), SV.dt (Dt.cell (Go.Value.int Go.IntKind.i64 c)), SV.dt (Dt.cell (Go.Value.int Go.IntKind.i64 e))]), some (Ob.cells 37 [SV.ki Go.IntKind.i64 ((0 : Int)), SV.ki Go.IntKind.i64 ((0 : Int)), SV.dt (Dt.cell (Go.Value.string Rd.noS)), SV.dt (Dt.cell (Go.Value.slice Option.none (0 : Nat) (0 : Nat)))])]))) ∧
     ((Decidable.decide (Rd.ixB (ByteArray.mk #[(32 : UInt8), (10 : UInt8), (9 : UInt8), (40 : UInt8), (41 : UInt8), (59 : UInt8), (39 : UInt8)]) (Rx.byteAt s a) < (0 : Int)) = Bool.false) →
      Re (Rx.Ex.exit (0 : Nat)) ([SV.ptr 0 0, SV.dt (Dt.cell (Go.Value.int Go.IntKind.i64 fr)), SV.ptr 1 0]) ([some (Ob.cells 49 [SV.dt (Dt.cell (Go.Value.string s)), SV.dt (Dt.cell (Go.Value.int Go.IntKind.i64 a)), SV.dt (Dt.cell (Go.Value.int Go.IntKind.i64 c)), SV.dt (Dt.cell (Go.Value.int Go.IntKind.i64 e))]), some (Ob.cells 37 [SV.ki Go.IntKind.i64 ((0 : Int)), SV.ki Go.IntKind.i64 ((0 : Int)), SV.dt (Dt.cell (Go.Value.string Rd.noS)), SV.dt (Dt.cell (Go.Value.slice Option.none (0 : Nat) (0 : Nat)))])]))))))) ∧
((Decidable.decide (a < (↑s.size : Int)) = Bool.false) →
 Re (Rx.Ex.exit (0 : Nat)) ([SV.ptr 0 0, SV.dt (Dt.cell (Go.Value.int Go.IntKind.i64 fr)), SV.ptr 1 0]) ([some (Ob.cells 49 [SV.dt (Dt.cell (Go.Value.string s)), SV.dt (Dt.cell (Go.Value.int Go.IntKind.i64 a)), SV.dt (Dt.cell (Go.Value.int Go.IntKind.i64 c)), SV.dt (Dt.cell (Go.Value.int Go.IntKind.i64 e))]), some (Ob.cells 37 [SV.ki Go.IntKind.i64 ((0 : Int)), SV.ki Go.IntKind.i64 ((0 : Int)), SV.dt (Dt.cell (Go.Value.string Rd.noS)), SV.dt (Dt.cell (Go.Value.slice Option.none (0 : Nat) (0 : Nat)))])])))
def atomQ (s : ByteArray) (fr a c : Int) (R : SV → List (Option Ob) → Prop) : Prop :=
(((Rx.leS (SV.ptr 0 0) (SV.ptr 0 0)) ∧
 ((Rx.leS (SV.dt (Dt.cell (Go.Value.int Go.IntKind.i64 fr))) (SV.dt (Dt.cell (Go.Value.int Go.IntKind.i64 fr)))) ∧
  ((Rx.leS (SV.ptr 1 0) (SV.ptr 1 0)) ∧
   True))) ∧
((Rx.leOO ([some (Ob.cells 49 [SV.dt (Dt.cell (Go.Value.string s)), SV.dt (Dt.cell (Go.Value.int Go.IntKind.i64 a)), SV.dt (Dt.cell (Go.Value.int Go.IntKind.i64 c)), SV.dt (Dt.cell (Go.Value.int Go.IntKind.i64 (0 : Int)))]), some (Ob.cells 37 [SV.ki Go.IntKind.i64 ((0 : Int)), SV.ki Go.IntKind.i64 ((0 : Int)), SV.dt (Dt.cell (Go.Value.string (ByteArray.mk #[]))), SV.dt (Dt.cell (Go.Value.slice Option.none (0 : Nat) (0 : Nat)))])]) ([some (Ob.cells 49 [SV.dt (Dt.cell (Go.Value.string s)), SV.dt (Dt.cell (Go.Value.int Go.IntKind.i64 a)), SV.dt (Dt.cell (Go.Value.int Go.IntKind.i64 c)), SV.dt (Dt.cell (Go.Value.int Go.IntKind.i64 (0 : Int)))]), some (Ob.cells 37 [SV.ki Go.IntKind.i64 ((0 : Int)), SV.ki Go.IntKind.i64 ((0 : Int)), SV.dt (Dt.cell (Go.Value.string Rd.noS)), SV.dt (Dt.cell (Go.Value.slice Option.none (0 : Nat) (0 : Nat)))])])) ∧
 ((Rd.okS s a) ∧
  ((((0 : Int) ≤ fr) ∧
    ((fr ≤ Rd.wend s a) ∧
     (Rd.wend s a ≤ (↑s.size : Int)))) ∧
   (((((#[].extract (0 : Nat) (0 : Nat) ++ s.data.extract fr.toNat (fr.toNat + ((Rd.wend s a).toNat - fr.toNat)) ++ #[].extract ((0 : Nat) + Min.min ((Rd.wend s a).toNat - fr.toNat) (s.data.size - fr.toNat))).toList == [(35 : UInt8), (116 : UInt8)]) = Bool.true) →
     (True ∧
      R (SV.agg [SV.dt (Dt.cell (Go.Value.int Go.IntKind.i64 (2 : Int))), SV.dt (Dt.cell (Go.Value.int Go.IntKind.i64 (1 : Int))), SV.dt (Dt.cell (Go.Value.string (ByteArray.mk #[]))), SV.dt (Dt.cell (Go.Value.slice Option.none (0 : Nat) (0 : Nat)))]) ([some (Ob.cells 49 [SV.dt (Dt.cell (Go.Value.string s)), SV.dt (Dt.cell (Go.Value.int Go.IntKind.i64 (Rd.wend s a))), SV.dt (Dt.cell (Go.Value.int Go.IntKind.i64 c)), SV.dt (Dt.cell (Go.Value.int Go.IntKind.i64 (0 : Int)))])]))) ∧
    ((((#[].extract (0 : Nat) (0 : Nat) ++ s.data.extract fr.toNat (fr.toNat + ((Rd.wend s a).toNat - fr.toNat)) ++ #[].extract ((0 : Nat) + Min.min ((Rd.wend s a).toNat - fr.toNat) (s.data.size - fr.toNat))).toList == [(35 : UInt8), (116 : UInt8)]) = Bool.false) →
     (((((#[].extract (0 : Nat) (0 : Nat) ++ s.data.extract fr.toNat (fr.toNat + ((Rd.wend s a).toNat - fr.toNat)) ++ #[].extract ((0 : Nat) + Min.min ((Rd.wend s a).toNat - fr.toNat) (s.data.size - fr.toNat))).toList == [(35 : UInt8), (102 : UInt8)]) = Bool.true) →
       (True ∧
        R (SV.agg [SV.dt (Dt.cell (Go.Value.int Go.IntKind.i64 (2 : Int))), SV.ki Go.IntKind.i64 ((0 : Int)), SV.dt (Dt.cell (Go.Value.string (ByteArray.mk #[]))), SV.dt (Dt.cell (Go.Value.slice Option.none (0 : Nat) (0 : Nat)))]) ([some (Ob.cells 49 [SV.dt (Dt.cell (Go.Value.string s)), SV.dt (Dt.cell (Go.Value.int Go.IntKind.i64 (Rd.wend s a))), SV.dt (Dt.cell (Go.Value.int Go.IntKind.i64 c)), SV.dt (Dt.cell (Go.Value.int Go.IntKind.i64 (0 : Int)))])]))) ∧
      ((((#[].extract (0 : Nat) (0 : Nat) ++ s.data.extract fr.toNat (fr.toNat + ((Rd.wend s a).toNat - fr.toNat)) ++ #[].extract ((0 : Nat) + Min.min ((Rd.wend s a).toNat - fr.toNat) (s.data.size - fr.toNat))).toList == [(35 : UInt8), (102 : UInt8)]) = Bool.false) →
       ((Rx.leL ([SV.dt (Dt.cell (Go.Value.string (s.extract fr.toNat (Rd.wend s a).toNat)))]) ([SV.dt (Dt.cell (Go.Value.string (s.extract fr.toNat (Rd.wend s a).toNat)))])) ∧
        ((Rx.leObL ([]) ([])) ∧
         (((Rd.symB (s.extract fr.toNat (Rd.wend s a).toNat) = Bool.true) →
           (True ∧
            R (SV.agg [SV.dt (Dt.cell (Go.Value.int Go.IntKind.i64 (3 : Int))), SV.ki Go.IntKind.i64 ((0 : Int)), SV.dt (Dt.cell (Go.Value.string (s.extract fr.toNat (Rd.wend s a).toNat))), SV.dt (Dt.cell (Go.Value.slice Option.none (0 : Nat) (0 : Nat)))]) ([some (Ob.cells 49 [SV.dt (Dt.cell (Go.Value.string s)), SV.dt (Dt.cell (Go.Value.int Go.IntKind.i64 (Rd.wend s a))), SV.dt (Dt.cell (Go.Value.int Go.IntKind.i64 c)), SV.dt (Dt.cell (Go.Value.int Go.IntKind.i64 (0 : Int)))])]))) ∧
          ((Rd.symB (s.extract fr.toNat (Rd.wend s a).toNat) = Bool.false) →
           ((Rx.leL ([SV.dt (Dt.cell (Go.Value.string (s.extract fr.toNat (Rd.wend s a).toNat)))]) ([SV.dt (Dt.cell (Go.Value.string (s.extract fr.toNat (Rd.wend s a).toNat)))])) ∧
            ((Rx.leObL ([]) ([])) ∧
             (((s.extract fr.toNat (Rd.wend s a).toNat).size ≤ (281474976710656 : Nat)) ∧
              (((Rd.atoiOk (s.extract fr.toNat (Rd.wend s a).toNat) = Bool.true) →
                ((Rx.leL ([SV.dt (Dt.cell (Go.Value.int Go.IntKind.i64 (Rd.atoiV (s.extract fr.toNat (Rd.wend s a).toNat))))]) ([SV.dt (Dt.cell (Go.Value.int Go.IntKind.i64 (Rd.atoiV (s.extract fr.toNat (Rd.wend s a).toNat))))])) ∧
                 ((Rx.leObL ([]) ([])) ∧
                  ((Rd.inI (Rd.atoiV (s.extract fr.toNat (Rd.wend s a).toNat))) ∧
                   ((((!Go.Lib.itoa (Rd.atoiV (s.extract fr.toNat (Rd.wend s a).toNat)) == (#[].extract (0 : Nat) (0 : Nat) ++ s.data.extract fr.toNat (fr.toNat + ((Rd.wend s a).toNat - fr.toNat)) ++ #[].extract ((0 : Nat) + Min.min ((Rd.wend s a).toNat - fr.toNat) (s.data.size - fr.toNat))).toList) = Bool.true) →
                     ((Rx.leL ([SV.ptr 0 0, SV.dt (Dt.cell (Go.Value.int Go.IntKind.i64 fr)), SV.dt (Dt.cell (Go.Value.int Go.IntKind.i64 (4 : Int)))]) ([SV.ptr 0 0, SV.dt (Dt.cell (Go.Value.int Go.IntKind.i64 fr)), SV.dt (Dt.cell (Go.Value.int Go.IntKind.i64 (4 : Int)))])) ∧
                      ((Rx.leObL ([Ob.cells 49 [SV.dt (Dt.cell (Go.Value.string s)), SV.dt (Dt.cell (Go.Value.int Go.IntKind.i64 (Rd.wend s a))), SV.dt (Dt.cell (Go.Value.int Go.IntKind.i64 c)), SV.dt (Dt.cell (Go.Value.int Go.IntKind.i64 (0 : Int)))]]) ([Ob.cells 49 [SV.dt (Dt.cell (Go.Value.string s)), SV.dt (Dt.cell (Go.Value.int Go.IntKind.i64 (Rd.wend s a))), SV.dt (Dt.cell (Go.Value.int Go.IntKind.i64 c)), SV.dt (Dt.cell (Go.Value.int Go.IntKind.i64 (0 : Int)))]])) ∧
                       (True ∧
                        R (SV.agg [SV.dt (Dt.cell (Go.Value.int Go.IntKind.i64 Rd.d0.k)), SV.dt (Dt.cell (Go.Value.int Go.IntKind.i64 Rd.d0.n)), SV.dt (Dt.cell (Go.Value.string Rd.d0.s)), SV.dt (Dt.arr ((4 : Nat)) (Rd.d0.l.length) (Rd.dmL Rd.d0.l))]) ([some (Ob.cells 49 [SV.dt (Dt.cell (Go.Value.string s)), SV.dt (Dt.cell (Go.Value.int Go.IntKind.i64 fr)), SV.dt (Dt.cell (Go.Value.int Go.IntKind.i64 c)), SV.dt (Dt.cell (Go.Value.int Go.IntKind.i64 (4 : Int)))])]))))) ∧
                    (((!Go.Lib.itoa (Rd.atoiV (s.extract fr.toNat (Rd.wend s a).toNat)) == (#[].extract (0 : Nat) (0 : Nat) ++ s.data.extract fr.toNat (fr.toNat + ((Rd.wend s a).toNat - fr.toNat)) ++ #[].extract ((0 : Nat) + Min.min ((Rd.wend s a).toNat - fr.toNat) (s.data.size - fr.toNat))).toList) = Bool.false) →
                     (((Decidable.decide (Rd.atoiV (s.extract fr.toNat (Rd.wend s a).toNat) < (-1099511627776 : Int)) = Bool.true) →
                       ((Rx.leL ([SV.ptr 0 0, SV.dt (Dt.cell (Go.Value.int Go.IntKind.i64 fr)), SV.dt (Dt.cell (Go.Value.int Go.IntKind.i64 (2 : Int)))]) ([SV.ptr 0 0, SV.dt (Dt.cell (Go.Value.int Go.IntKind.i64 fr)), SV.dt (Dt.cell (Go.Value.int Go.IntKind.i64 (2 : Int)))])) ∧
                        ((Rx.leObL ([Ob.cells 49 [SV.dt (Dt.cell (Go.Value.string s)), SV.dt (Dt.cell (Go.Value.int Go.IntKind.i64 (Rd.wend s a))), SV.dt (Dt.cell (Go.Value.int Go.IntKind.i64 c)), SV.dt (Dt.cell (Go.Value.int Go.IntKind.i64 (0 : Int)))]]) ([Ob.cells 49 [SV.dt (Dt.cell (Go.Value.string s)), SV.dt (Dt.cell (Go.Value.int Go.IntKind.i64 (Rd.wend s a))), SV.dt (Dt.cell (Go.Value.int Go.IntKind.i64 c)), SV.dt (Dt.cell (Go.Value.int Go.IntKind.i64 (0 : Int)))]])) ∧
                         (True ∧
                          R (SV.agg [SV.dt (Dt.cell (Go.Value.int Go.IntKind.i64 Rd.d0.k)), SV.dt (Dt.cell (Go.Value.int Go.IntKind.i64 Rd.d0.n)), SV.dt (Dt.cell (Go.Value.string Rd.d0.s)), SV.dt (Dt.arr ((4 : Nat)) (Rd.d0.l.length) (Rd.dmL Rd.d0.l))]) ([some (Ob.cells 49 [SV.dt (Dt.cell (Go.Value.string s)), SV.dt (Dt.cell (Go.Value.int Go.IntKind.i64 fr)), SV.dt (Dt.cell (Go.Value.int Go.IntKind.i64 c)), SV.dt (Dt.cell (Go.Value.int Go.IntKind.i64 (2 : Int)))])]))))) ∧
                      ((Decidable.decide (Rd.atoiV (s.extract fr.toNat (Rd.wend s a).toNat) < (-1099511627776 : Int)) = Bool.false) →
                       (((Decidable.decide (Rd.atoiV (s.extract fr.toNat (Rd.wend s a).toNat) > (1099511627776 : Int)) = Bool.true) →
                         ((Rx.leL ([SV.ptr 0 0, SV.dt (Dt.cell (Go.Value.int Go.IntKind.i64 fr)), SV.dt (Dt.cell (Go.Value.int Go.IntKind.i64 (2 : Int)))]) ([SV.ptr 0 0, SV.dt (Dt.cell (Go.Value.int Go.IntKind.i64 fr)), SV.dt (Dt.cell (Go.Value.int Go.IntKind.i64 (2 : Int)))])) ∧
                          ((Rx.leObL ([Ob.cells 49 [SV.dt (Dt.cell (Go.Value.string s)), SV.dt (Dt.cell (Go.Value.int Go.IntKind.i64 (Rd.wend s a))), SV.dt (Dt.cell (Go.Value.int Go.IntKind.i64 c)), SV.dt (Dt.cell (Go.Value.int Go.IntKind.i64 (0 : Int)))]]) ([Ob.cells 49 [SV.dt (Dt.cell (Go.Value.string s)), SV.dt (Dt.cell (Go.Value.int Go.IntKind.i64 (Rd.wend s a))), SV.dt (Dt.cell (Go.Value.int Go.IntKind.i64 c)), SV.dt (Dt.cell (Go.Value.int Go.IntKind.i64 (0 : Int)))]])) ∧
                           (True ∧
                            R (SV.agg [SV.dt (Dt.cell (Go.Value.int Go.IntKind.i64 Rd.d0.k)), SV.dt (Dt.cell (Go.Value.int Go.IntKind.i64 Rd.d0.n)), SV.dt (Dt.cell (Go.Value.string Rd.d0.s)), SV.dt (Dt.arr ((4 : Nat)) (Rd.d0.l.length) (Rd.dmL Rd.d0.l))]) ([some (Ob.cells 49 [SV.dt (Dt.cell (Go.Value.string s)), SV.dt (Dt.cell (Go.Value.int Go.IntKind.i64 fr)), SV.dt (Dt.cell (Go.Value.int Go.IntKind.i64 c)), SV.dt (Dt.cell (Go.Value.int Go.IntKind.i64 (2 : Int)))])]))))) ∧
                        ((Decidable.decide (Rd.atoiV (s.extract fr.toNat (Rd.wend s a).toNat) > (1099511627776 : Int)) = Bool.false) →
                         (True ∧
                          R (SV.agg [SV.dt (Dt.cell (Go.Value.int Go.IntKind.i64 (1 : Int))), SV.dt (Dt.cell (Go.Value.int Go.IntKind.i64 (Rd.atoiV (s.extract fr.toNat (Rd.wend s a).toNat)))), SV.dt (Dt.cell (Go.Value.string (ByteArray.mk #[]))), SV.dt (Dt.cell (Go.Value.slice Option.none (0 : Nat) (0 : Nat)))]) ([some (Ob.cells 49 [SV.dt (Dt.cell (Go.Value.string s)), SV.dt (Dt.cell (Go.Value.int Go.IntKind.i64 (Rd.wend s a))), SV.dt (Dt.cell (Go.Value.int Go.IntKind.i64 c)), SV.dt (Dt.cell (Go.Value.int Go.IntKind.i64 (0 : Int)))])])))))))))))) ∧
               ((Rd.atoiOk (s.extract fr.toNat (Rd.wend s a).toNat) = Bool.false) →
                ((Rx.leL ([SV.ptr 0 0, SV.dt (Dt.cell (Go.Value.int Go.IntKind.i64 fr)), SV.dt (Dt.cell (Go.Value.int Go.IntKind.i64 (4 : Int)))]) ([SV.ptr 0 0, SV.dt (Dt.cell (Go.Value.int Go.IntKind.i64 fr)), SV.dt (Dt.cell (Go.Value.int Go.IntKind.i64 (4 : Int)))])) ∧
                 ((Rx.leObL ([Ob.cells 49 [SV.dt (Dt.cell (Go.Value.string s)), SV.dt (Dt.cell (Go.Value.int Go.IntKind.i64 (Rd.wend s a))), SV.dt (Dt.cell (Go.Value.int Go.IntKind.i64 c)), SV.dt (Dt.cell (Go.Value.int Go.IntKind.i64 (0 : Int)))]]) ([Ob.cells 49 [SV.dt (Dt.cell (Go.Value.string s)), SV.dt (Dt.cell (Go.Value.int Go.IntKind.i64 (Rd.wend s a))), SV.dt (Dt.cell (Go.Value.int Go.IntKind.i64 c)), SV.dt (Dt.cell (Go.Value.int Go.IntKind.i64 (0 : Int)))]])) ∧
                  (True ∧
                   R (SV.agg [SV.dt (Dt.cell (Go.Value.int Go.IntKind.i64 Rd.d0.k)), SV.dt (Dt.cell (Go.Value.int Go.IntKind.i64 Rd.d0.n)), SV.dt (Dt.cell (Go.Value.string Rd.d0.s)), SV.dt (Dt.arr ((4 : Nat)) (Rd.d0.l.length) (Rd.dmL Rd.d0.l))]) ([some (Ob.cells 49 [SV.dt (Dt.cell (Go.Value.string s)), SV.dt (Dt.cell (Go.Value.int Go.IntKind.i64 fr)), SV.dt (Dt.cell (Go.Value.int Go.IntKind.i64 c)), SV.dt (Dt.cell (Go.Value.int Go.IntKind.i64 (4 : Int)))])])))))))))))))))))))))
def liLoopQ (s : ByteArray) (g : Nat) (lv a c : Int) (acc : List Dm) (Rn : List SV → List (Option Ob) → Prop) (Re : Ex → List SV → List (Option Ob) → Prop) : Prop :=
((Rx.leL ([SV.ptr 0 0]) ([SV.ptr 0 0])) ∧
((Rx.leObL ([Ob.cells 49 [SV.dt (Dt.cell (Go.Value.string s)), SV.dt (Dt.cell (Go.Value.int Go.IntKind.i64 a)), SV.dt (Dt.cell (Go.Value.int Go.IntKind.i64 c)), SV.dt (Dt.cell (Go.Value.int Go.IntKind.i64 (0 : Int)))]]) ([Ob.cells 49 [SV.dt (Dt.cell (Go.Value.string s)), SV.dt (Dt.cell (Go.Value.int Go.IntKind.i64 a)), SV.dt (Dt.cell (Go.Value.int Go.IntKind.i64 c)), SV.dt (Dt.cell (Go.Value.int Go.IntKind.i64 (0 : Int)))]])) ∧
 ((Rd.okS s a) ∧
  (((((0 : Int) == (0 : Int)) = Bool.true) →
    (((Decidable.decide (Rd.blk s a < (↑s.size : Int)) = Bool.true) →
      ((((0 : Int) ≤ Rd.blk s a) ∧
        (Rd.blk s a < (↑s.size : Int))) ∧
       ((((Rx.byteAt s (Rd.blk s a) == (41 : Int)) = Bool.true) →
         (((Rx.lo Go.IntKind.i64 ≤ Rd.blk s a + (1 : Int)) ∧
           (Rd.blk s a + (1 : Int) ≤ Rx.hi Go.IntKind.i64)) ∧
          Re (Rx.Ex.ret) ([SV.ptr 1 0]) ([some (Ob.cells 49 [SV.dt (Dt.cell (Go.Value.string s)), SV.dt (Dt.cell (Go.Value.int Go.IntKind.i64 (Rd.blk s a + (1 : Int)))), SV.dt (Dt.cell (Go.Value.int Go.IntKind.i64 c)), SV.dt (Dt.cell (Go.Value.int Go.IntKind.i64 (0 : Int)))]), some (Ob.cells 37 [SV.dt (Dt.cell (Go.Value.int Go.IntKind.i64 (4 : Int))), SV.dt (Dt.cell (Go.Value.int Go.IntKind.i64 (0 : Int))), SV.dt (Dt.cell (Go.Value.string Rd.noS)), SV.nm 2]), some (Ob.row 37 4 (acc.length) (Rd.dmL acc))]))) ∧
        (((Rx.byteAt s (Rd.blk s a) == (41 : Int)) = Bool.false) →
         (((Rx.lo Go.IntKind.i64 ≤ lv + (1 : Int)) ∧
           (lv + (1 : Int) ≤ Rx.hi Go.IntKind.i64)) ∧
          ((Rx.leL ([SV.ptr 0 0, SV.dt (Dt.cell (Go.Value.int Go.IntKind.i64 (lv + (1 : Int))))]) ([SV.ptr 0 0, SV.dt (Dt.cell (Go.Value.int Go.IntKind.i64 (lv + (1 : Int))))])) ∧
           ((Rx.leObL ([Ob.cells 49 [SV.dt (Dt.cell (Go.Value.string s)), SV.dt (Dt.cell (Go.Value.int Go.IntKind.i64 (Rd.blk s a))), SV.dt (Dt.cell (Go.Value.int Go.IntKind.i64 c)), SV.dt (Dt.cell (Go.Value.int Go.IntKind.i64 (0 : Int)))]]) ([Ob.cells 49 [SV.dt (Dt.cell (Go.Value.string s)), SV.dt (Dt.cell (Go.Value.int Go.IntKind.i64 (Rd.blk s a))), SV.dt (Dt.cell (Go.Value.int Go.IntKind.i64 c)), SV.dt (Dt.cell (Go.Value.int Go.IntKind.i64 (0 : Int)))]])) ∧
            (((Rd.okS s (Rd.blk s a)) ∧
              ((Rd.okC c) ∧
               ((Rd.okL (lv + (1 : Int))) ∧
                ((Rd.datS s g (lv + (1 : Int)) (Rd.blk s a) c).isSome = Bool.true)))) ∧
             (((((Rd.datR s g (lv + (1 : Int)) (Rd.blk s a) c).e != (0 : Int)) = Bool.true) →
               Re (Rx.Ex.ret) ([SV.ptr 1 0]) ([some (Ob.cells 49 [SV.dt (Dt.cell (Go.Value.string s)), SV.dt (Dt.cell (Go.Value.int Go.IntKind.i64 (Rd.datR s g (lv + (1 : Int)) (Rd.blk s a) c).a)), SV.dt (Dt.cell (Go.Value.int Go.IntKind.i64 (Rd.datR s g (lv + (1 : Int)) (Rd.blk s a) c).c)), SV.dt (Dt.cell (Go.Value.int Go.IntKind.i64 (Rd.datR s g (lv + (1 : Int)) (Rd.blk s a) c).e))]), some (Ob.cells 37 [SV.dt (Dt.cell (Go.Value.int Go.IntKind.i64 (4 : Int))), SV.dt (Dt.cell (Go.Value.int Go.IntKind.i64 (0 : Int))), SV.dt (Dt.cell (Go.Value.string Rd.noS)), SV.nm 2]), some (Ob.row 37 4 (acc.length) (Rd.dmL acc))])) ∧
              ((((Rd.datR s g (lv + (1 : Int)) (Rd.blk s a) c).e != (0 : Int)) = Bool.false) →
               (((acc.length + (1 : Nat)) * (56 : Nat) ≤ (140737488355328 : Nat)) ∧
                Rn ([SV.ptr 0 0, SV.dt (Dt.cell (Go.Value.int Go.IntKind.i64 lv)), SV.ptr 1 0, SV.ptr 2 0]) ([some (Ob.cells 49 [SV.dt (Dt.cell (Go.Value.string s)), SV.dt (Dt.cell (Go.Value.int Go.IntKind.i64 (Rd.datR s g (lv + (1 : Int)) (Rd.blk s a) c).a)), SV.dt (Dt.cell (Go.Value.int Go.IntKind.i64 (Rd.datR s g (lv + (1 : Int)) (Rd.blk s a) c).c)), SV.dt (Dt.cell (Go.Value.int Go.IntKind.i64 (Rd.datR s g (lv + (1 : Int)) (Rd.blk s a) c).e))]), some (Ob.cells 37 [SV.ki Go.IntKind.i64 ((0 : Int)), SV.ki Go.IntKind.i64 ((0 : Int)), SV.dt (Dt.cell (Go.Value.string Rd.noS)), SV.dt (Dt.cell (Go.Value.slice Option.none (0 : Nat) (0 : Nat)))]), some (Ob.cells 37 [SV.dt (Dt.cell (Go.Value.int Go.IntKind.i64 (4 : Int))), SV.dt (Dt.cell (Go.Value.int Go.IntKind.i64 (0 : Int))), SV.dt (Dt.cell (Go.Value.string Rd.noS)), SV.nm 3]), some (Ob.row 37 4 (acc.length + (1 : Nat)) (Rx.catF acc.length (Rd.dmL acc) (Rx.litF (4 : Nat) [Rx.Dt.cell (Go.Value.int Go.IntKind.i64 (Rd.datR s g (lv + (1 : Int)) (Rd.blk s a) c).d.k), Rx.Dt.cell (Go.Value.int Go.IntKind.i64 (Rd.datR s g (lv + (1 : Int)) (Rd.blk s a) c).d.n), Rx.Dt.cell (Go.Value.string (Rd.datR s g (lv + (1 : Int)) (Rd.blk s a) c).d.s), Rx.Dt.arr (4 : Nat) (Rd.datR s g (lv + (1 : Int)) (Rd.blk s a) c).d.l.length (Rd.dmL (Rd.datR s g (lv + (1 : Int)) (Rd.blk s a) c).d.l)])))])))))))))))) ∧
     ((Decidable.decide (Rd.blk s a < (↑s.size : Int)) = Bool.false) →
      (((Rx.lo Go.IntKind.i64 ≤ lv + (1 : Int)) ∧
        (lv + (1 : Int) ≤ Rx.hi Go.IntKind.i64)) ∧
       ((Rx.leL ([SV.ptr 0 0, SV.dt (Dt.cell (Go.Value.int Go.IntKind.i64 (lv + (1 : Int))))]) ([SV.ptr 0 0, SV.dt (Dt.cell (Go.Value.int Go.IntKind.i64 (lv + (1 : Int))))])) ∧
        ((Rx.leObL ([Ob.cells 49 [SV.dt (Dt.cell (Go.Value.string s)), SV.dt (Dt.cell (Go.Value.int Go.IntKind.i64 (Rd.blk s a))), SV.dt (Dt.cell (Go.Value.int Go.IntKind.i64 c)), SV.dt (Dt.cell (Go.Value.int Go.IntKind.i64 (0 : Int)))]]) ([Ob.cells 49 [SV.dt (Dt.cell (Go.Value.string s)), SV.dt (Dt.cell (Go.Value.int Go.IntKind.i64 (Rd.blk s a))), SV.dt (Dt.cell (Go.Value.int Go.IntKind.i64 c)), SV.dt (Dt.cell (Go.Value.int Go.IntKind.i64 (0 : Int)))]])) ∧
         (((Rd.okS s (Rd.blk s a)) ∧
           ((Rd.okC c) ∧
            ((Rd.okL (lv + (1 : Int))) ∧
             ((Rd.datS s g (lv + (1 : Int)) (Rd.blk s a) c).isSome = Bool.true)))) ∧
          (((((Rd.datR s g (lv + (1 : Int)) (Rd.blk s a) c).e != (0 : Int)) = Bool.true) →
            Re (Rx.Ex.ret) ([SV.ptr 1 0]) ([some (Ob.cells 49 [SV.dt (Dt.cell (Go.Value.string s)), SV.dt (Dt.cell (Go.Value.int Go.IntKind.i64 (Rd.datR s g (lv + (1 : Int)) (Rd.blk s a) c).a)), SV.dt (Dt.cell (Go.Value.int Go.IntKind.i64 (Rd.datR s g (lv + (1 : Int)) (Rd.blk s a) c).c)), SV.dt (Dt.cell (Go.Value.int Go.IntKind.i64 (Rd.datR s g (lv + (1 : Int)) (Rd.blk s a) c).e))]), some (Ob.cells 37 [SV.dt (Dt.cell (Go.Value.int Go.IntKind.i64 (4 : Int))), SV.dt (Dt.cell (Go.Value.int Go.IntKind.i64 (0 : Int))), SV.dt (Dt.cell (Go.Value.string Rd.noS)), SV.nm 2]), some (Ob.row 37 4 (acc.length) (Rd.dmL acc))])) ∧
           ((((Rd.datR s g (lv + (1 : Int)) (Rd.blk s a) c).e != (0 : Int)) = Bool.false) →
            (((acc.length + (1 : Nat)) * (56 : Nat) ≤ (140737488355328 : Nat)) ∧
             Rn ([SV.ptr 0 0, SV.dt (Dt.cell (Go.Value.int Go.IntKind.i64 lv)), SV.ptr 1 0, SV.ptr 2 0]) ([some (Ob.cells 49 [SV.dt (Dt.cell (Go.Value.string s)), SV.dt (Dt.cell (Go.Value.int Go.IntKind.i64 (Rd.datR s g (lv + (1 : Int)) (Rd.blk s a) c).a)), SV.dt (Dt.cell (Go.Value.int Go.IntKind.i64 (Rd.datR s g (lv + (1 : Int)) (Rd.blk s a) c).c)), SV.dt (Dt.cell (Go.Value.int Go.IntKind.i64 (Rd.datR s g (lv + (1 : Int)) (Rd.blk s a) c).e))]), some (Ob.cells 37 [SV.ki Go.IntKind.i64 ((0 : Int)), SV.ki Go.IntKind.i64 ((0 : Int)), SV.dt (Dt.cell (Go.Value.string Rd.noS)), SV.dt (Dt.cell (Go.Value.slice Option.none (0 : Nat) (0 : Nat)))]), some (Ob.cells 37 [SV.dt (Dt.cell (Go.Value.int Go.IntKind.i64 (4 : Int))), SV.dt (Dt.cell (Go.Value.int Go.IntKind.i64 (0 : Int))), SV.dt (Dt.cell (Go.Value.string Rd.noS)), SV.nm 3]), some (Ob.row 37 4 (acc.length + (1 : Nat)) (Rx.catF acc.length (Rd.dmL acc) (Rx.litF (4 : Nat) [Rx.Dt.cell (Go.Value.int Go.IntKind.i64 (Rd.datR s g (lv + (1 : Int)) (Rd.blk s a) c).d.k), Rx.Dt.cell (Go.Value.int Go.IntKind.i64 (Rd.datR s g (lv + (1 : Int)) (Rd.blk s a) c).d.n), Rx.Dt.cell (Go.Value.string (Rd.datR s g (lv + (1 : Int)) (Rd.blk s a) c).d.s), Rx.Dt.arr (4 : Nat) (Rd.datR s g (lv + (1 : Int)) (Rd.blk s a) c).d.l.length (Rd.dmL (Rd.datR s g (lv + (1 : Int)) (Rd.blk s a) c).d.l)])))]))))))))))) ∧
   ((((0 : Int) == (0 : Int)) = Bool.false) →
    (((Rx.lo Go.IntKind.i64 ≤ lv + (1 : Int)) ∧
      (lv + (1 : Int) ≤ Rx.hi Go.IntKind.i64)) ∧
     ((Rx.leL ([SV.ptr 0 0, SV.dt (Dt.cell (Go.Value.int Go.IntKind.i64 (lv + (1 : Int))))]) ([SV.ptr 0 0, SV.dt (Dt.cell (Go.Value.int Go.IntKind.i64 (lv + (1 : Int))))])) ∧
      ((Rx.leObL ([Ob.cells 49 [SV.dt (Dt.cell (Go.Value.string s)), SV.dt (Dt.cell (Go.Value.int Go.IntKind.i64 (Rd.blk s a))), SV.dt (Dt.cell (Go.Value.int Go.IntKind.i64 c)), SV.dt (Dt.cell (Go.Value.int Go.IntKind.i64 (0 : Int)))]]) ([Ob.cells 49 [SV.dt (Dt.cell (Go.Value.string s)), SV.dt (Dt.cell (Go.Value.int Go.IntKind.i64 (Rd.blk s a))), SV.dt (Dt.cell (Go.Value.int Go.IntKind.i64 c)), SV.dt (Dt.cell (Go.Value.int Go.IntKind.i64 (0 : Int)))]])) ∧
       (((Rd.okS s (Rd.blk s a)) ∧
         ((Rd.okC c) ∧
          ((Rd.okL (lv + (1 : Int))) ∧
           ((Rd.datS s g (lv + (1 : Int)) (Rd.blk s a) c).isSome = Bool.true)))) ∧
        (((((Rd.datR s g (lv + (1 : Int)) (Rd.blk s a) c).e != (0 : Int)) = Bool.true) →
          Re (Rx.Ex.ret) ([SV.ptr 1 0]) ([some (Ob.cells 49 [SV.dt (Dt.cell (Go.Value.string s)), SV.dt (Dt.cell (Go.Value.int Go.IntKind.i64 (Rd.datR s g (lv + (1 : Int)) (Rd.blk s a) c).a)), SV.dt (Dt.cell (Go.Value.int Go.IntKind.i64 (Rd.datR s g (lv + (1 : Int)) (Rd.blk s a) c).c)), SV.dt (Dt.cell (Go.Value.int Go.IntKind.i64 (Rd.datR s g (lv + (1 : Int)) (Rd.blk s a) c).e))]), some (Ob.cells 37 [SV.dt (Dt.cell (Go.Value.int Go.IntKind.i64 (4 : Int))), SV.dt (Dt.cell (Go.Value.int Go.IntKind.i64 (0 : Int))), SV.dt (Dt.cell (Go.Value.string Rd.noS)), SV.nm 2]), some (Ob.row 37 4 (acc.length) (Rd.dmL acc))])) ∧
         ((((Rd.datR s g (lv + (1 : Int)) (Rd.blk s a) c).e != (0 : Int)) = Bool.false) →
          (((acc.length + (1 : Nat)) * (56 : Nat) ≤ (140737488355328 : Nat)) ∧
           Rn ([SV.ptr 0 0, SV.dt (Dt.cell (Go.Value.int Go.IntKind.i64 lv)), SV.ptr 1 0, SV.ptr 2 0]) ([some (Ob.cells 49 [SV.dt (Dt.cell (Go.Value.string s)), SV.dt (Dt.cell (Go.Value.int Go.IntKind.i64 (Rd.datR s g (lv + (1 : Int)) (Rd.blk s a) c).a)), SV.dt (Dt.cell (Go.Value.int Go.IntKind.i64 (Rd.datR s g (lv + (1 : Int)) (Rd.blk s a) c).c)), SV.dt (Dt.cell (Go.Value.int Go.IntKind.i64 (Rd.datR s g (lv + (1 : Int)) (Rd.blk s a) c).e))]), some (Ob.cells 37 [SV.ki Go.IntKind.i64 ((0 : Int)), SV.ki Go.IntKind.i64 ((0 : Int)), SV.dt (Dt.cell (Go.Value.string Rd.noS)), SV.dt (Dt.cell (Go.Value.slice Option.none (0 : Nat) (0 : Nat)))]), some (Ob.cells 37 [SV.dt (Dt.cell (Go.Value.int Go.IntKind.i64 (4 : Int))), SV.dt (Dt.cell (Go.Value.int Go.IntKind.i64 (0 : Int))), SV.dt (Dt.cell (Go.Value.string Rd.noS)), SV.nm 3]), some (Ob.row 37 4 (acc.length + (1 : Nat)) (Rx.catF acc.length (Rd.dmL acc) (Rx.litF (4 : Nat) [Rx.Dt.cell (Go.Value.int Go.IntKind.i64 (Rd.datR s g (lv + (1 : Int)) (Rd.blk s a) c).d.k), Rx.Dt.cell (Go.Value.int Go.IntKind.i64 (Rd.datR s g (lv + (1 : Int)) (Rd.blk s a) c).d.n), Rx.Dt.cell (Go.Value.string (Rd.datR s g (lv + (1 : Int)) (Rd.blk s a) c).d.s), Rx.Dt.arr (4 : Nat) (Rd.datR s g (lv + (1 : Int)) (Rd.blk s a) c).d.l.length (Rd.dmL (Rd.datR s g (lv + (1 : Int)) (Rd.blk s a) c).d.l)])))])))))))))))))
def datumQ (s : ByteArray) (g : Nat) (lv a c : Int) (R : SV → List (Option Ob) → Prop) : Prop :=
((Rx.leL ([SV.ptr 0 0]) ([SV.ptr 0 0])) ∧
((Rx.leObL ([Ob.cells 49 [SV.dt (Dt.cell (Go.Value.string s)), SV.dt (Dt.cell (Go.Value.int Go.IntKind.i64 a)), SV.dt (Dt.cell (Go.Value.int Go.IntKind.i64 c)), SV.dt (Dt.cell (Go.Value.int Go.IntKind.i64 (0 : Int)))]]) ([Ob.cells 49 [SV.dt (Dt.cell (Go.Value.string s)), SV.dt (Dt.cell (Go.Value.int Go.IntKind.i64 a)), SV.dt (Dt.cell (Go.Value.int Go.IntKind.i64 c)), SV.dt (Dt.cell (Go.Value.int Go.IntKind.i64 (0 : Int)))]])) ∧
 ((Rd.okS s a) ∧
  (((((0 : Int) != (0 : Int)) = Bool.true) →
    (True ∧
     R (SV.agg [SV.ki Go.IntKind.i64 ((0 : Int)), SV.ki Go.IntKind.i64 ((0 : Int)), SV.dt (Dt.cell (Go.Value.string (ByteArray.mk #[]))), SV.dt (Dt.cell (Go.Value.slice Option.none (0 : Nat) (0 : Nat)))]) ([some (Ob.cells 49 [SV.dt (Dt.cell (Go.Value.string s)), SV.dt (Dt.cell (Go.Value.int Go.IntKind.i64 (Rd.blk s a))), SV.dt (Dt.cell (Go.Value.int Go.IntKind.i64 c)), SV.dt (Dt.cell (Go.Value.int Go.IntKind.i64 (0 : Int)))])]))) ∧
   ((((0 : Int) != (0 : Int)) = Bool.false) →
    ((((Rd.blk s a == (↑s.size : Int)) = Bool.true) →
      ((Rx.leL ([SV.ptr 0 0, SV.dt (Dt.cell (Go.Value.int Go.IntKind.i64 (Rd.blk s a))), SV.dt (Dt.cell (Go.Value.int Go.IntKind.i64 (5 : Int)))]) ([SV.ptr 0 0, SV.dt (Dt.cell (Go.Value.int Go.IntKind.i64 (Rd.blk s a))), SV.dt (Dt.cell (Go.Value.int Go.IntKind.i64 (5 : Int)))])) ∧
       ((Rx.leObL ([Ob.cells 49 [SV.dt (Dt.cell (Go.Value.string s)), SV.dt (Dt.cell (Go.Value.int Go.IntKind.i64 (Rd.blk s a))), SV.dt (Dt.cell (Go.Value.int Go.IntKind.i64 c)), SV.dt (Dt.cell (Go.Value.int Go.IntKind.i64 (0 : Int)))]]) ([Ob.cells 49 [SV.dt (Dt.cell (Go.Value.string s)), SV.dt (Dt.cell (Go.Value.int Go.IntKind.i64 (Rd.blk s a))), SV.dt (Dt.cell (Go.Value.int Go.IntKind.i64 c)), SV.dt (Dt.cell (Go.Value.int Go.IntKind.i64 (0 : Int)))]])) ∧
        (True ∧
         R (SV.agg [SV.dt (Dt.cell (Go.Value.int Go.IntKind.i64 Rd.d0.k)), SV.dt (Dt.cell (Go.Value.int Go.IntKind.i64 Rd.d0.n)), SV.dt (Dt.cell (Go.Value.string Rd.d0.s)), SV.dt (Dt.arr ((4 : Nat)) (Rd.d0.l.length) (Rd.dmL Rd.d0.l))]) ([some (Ob.cells 49 [SV.dt (Dt.cell (Go.Value.string s)), SV.dt (Dt.cell (Go.Value.int Go.IntKind.i64 (Rd.blk s a))), SV.dt (Dt.cell (Go.Value.int Go.IntKind.i64 c)), SV.dt (Dt.cell (Go.Value.int Go.IntKind.i64 (5 : Int)))])]))))) ∧
     (((Rd.blk s a == (↑s.size : Int)) = Bool.false) →
      (((Rx.lo Go.IntKind.i64 ≤ c + (1 : Int)) ∧
        (c + (1 : Int) ≤ Rx.hi Go.IntKind.i64)) ∧
       (((Decidable.decide (c + (1 : Int) > (400 : Int)) = Bool.true) →
         ((Rx.leL ([SV.ptr 0 0, SV.dt (Dt.cell (Go.Value.int Go.IntKind.i64 (Rd.blk s a))), SV.dt (Dt.cell (Go.Value.int Go.IntKind.i64 (1 : Int)))]) ([SV.ptr 0 0, SV.dt (Dt.cell (Go.Value.int Go.IntKind.i64 (Rd.blk s a))), SV.dt (Dt.cell (Go.Value.int Go.IntKind.i64 (1 : Int)))])) ∧
          ((Rx.leObL ([Ob.cells 49 [SV.dt (Dt.cell (Go.Value.string s)), SV.dt (Dt.cell (Go.Value.int Go.IntKind.i64 (Rd.blk s a))), SV.dt (Dt.cell (Go.Value.int Go.IntKind.i64 (c + (1 : Int)))), SV.dt (Dt.cell (Go.Value.int Go.IntKind.i64 (0 : Int)))]]) ([Ob.cells 49 [SV.dt (Dt.cell (Go.Value.string s)), SV.dt (Dt.cell (Go.Value.int Go.IntKind.i64 (Rd.blk s a))), SV.dt (Dt.cell (Go.Value.int Go.IntKind.i64 (c + (1 : Int)))), SV.dt (Dt.cell (Go.Value.int Go.IntKind.i64 (0 : Int)))]])) ∧
           (True ∧
            R (SV.agg [SV.dt (Dt.cell (Go.Value.int Go.IntKind.i64 Rd.d0.k)), SV.dt (Dt.cell (Go.Value.int Go.IntKind.i64 Rd.d0.n)), SV.dt (Dt.cell (Go.Value.string Rd.d0.s)), SV.dt (Dt.arr ((4 : Nat)) (Rd.d0.l.length) (Rd.dmL Rd.d0.l))]) ([some (Ob.cells 49 [SV.dt (Dt.cell (Go.Value.string s)), SV.dt (Dt.cell (Go.Value.int Go.IntKind.i64 (Rd.blk s a))), SV.dt (Dt.cell (Go.Value.int Go.IntKind.i64 (c + (1 : Int)))), SV.dt (Dt.cell (Go.Value.int Go.IntKind.i64 (1 : Int)))])]))))) ∧
        ((Decidable.decide (c + (1 : Int) > (400 : Int)) = Bool.false) →
         (((Decidable.decide (lv > (40 : Int)) = Bool.true) →
           ((Rx.leL ([SV.ptr 0 0, SV.dt (Dt.cell (Go.Value.int Go.IntKind.i64 (Rd.blk s a))), SV.dt (Dt.cell (Go.Value.int Go.IntKind.i64 (8 : Int)))]) ([SV.ptr 0 0, SV.dt (Dt.cell (Go.Value.int Go.IntKind.i64 (Rd.blk s a))), SV.dt (Dt.cell (Go.Value.int Go.IntKind.i64 (8 : Int)))])) ∧
            ((Rx.leObL ([Ob.cells 49 [SV.dt (Dt.cell (Go.Value.string s)), SV.dt (Dt.cell (Go.Value.int Go.IntKind.i64 (Rd.blk s a))), SV.dt (Dt.cell (Go.Value.int Go.IntKind.i64 (c + (1 : Int)))), SV.dt (Dt.cell (Go.Value.int Go.IntKind.i64 (0 : Int)))]]) ([Ob.cells 49 [SV.dt (Dt.cell (Go.Value.string s)), SV.dt (Dt.cell (Go.Value.int Go.IntKind.i64 (Rd.blk s a))), SV.dt (Dt.cell (Go.Value.int Go.IntKind.i64 (c + (1 : Int)))), SV.dt (Dt.cell (Go.Value.int Go.IntKind.i64 (0 : Int)))]])) ∧
             (True ∧
              R (SV.agg [SV.dt (Dt.cell (Go.Value.int Go.IntKind.i64 Rd.d0.k)), SV.dt (Dt.cell (Go.Value.int Go.IntKind.i64 Rd.d0.n)), SV.dt (Dt.cell (Go.Value.string Rd.d0.s)), SV.dt (Dt.arr ((4 : Nat)) (Rd.d0.l.length) (Rd.dmL Rd.d0.l))]) ([some (Ob.cells 49 [SV.dt (Dt.cell (Go.Value.string s)), SV.dt (Dt.cell (Go.Value.int Go.IntKind.i64 (Rd.blk s a))), SV.dt (Dt.cell (Go.Value.int Go.IntKind.i64 (c + (1 : Int)))), SV.dt (Dt.cell (Go.Value.int Go.IntKind.i64 (8 : Int)))])]))))) ∧
          ((Decidable.decide (lv > (40 : Int)) = Bool.false) →
           ((((0 : Int) ≤ Rd.blk s a) ∧
             (Rd.blk s a < (↑s.size : Int))) ∧
            ((((Rx.byteAt s (Rd.blk s a) == (41 : Int)) = Bool.true) →
              ((Rx.leL ([SV.ptr 0 0, SV.dt (Dt.cell (Go.Value.int Go.IntKind.i64 (Rd.blk s a))), SV.dt (Dt.cell (Go.Value.int Go.IntKind.i64 (4 : Int)))]) ([SV.ptr 0 0, SV.dt (Dt.cell (Go.Value.int Go.IntKind.i64 (Rd.blk s a))), SV.dt (Dt.cell (Go.Value.int Go.IntKind.i64 (4 : Int)))])) ∧
               ((Rx.leObL ([Ob.cells 49 [SV.dt (Dt.cell (Go.Value.string s)), SV.dt (Dt.cell (Go.Value.int Go.IntKind.i64 (Rd.blk s a))), SV.dt (Dt.cell (Go.Value.int Go.IntKind.i64 (c + (1 : Int)))), SV.dt (Dt.cell (Go.Value.int Go.IntKind.i64 (0 : Int)))]]) ([Ob.cells 49 [SV.dt (Dt.cell (Go.Value.string s)), SV.dt (Dt.cell (Go.Value.int Go.IntKind.i64 (Rd.blk s a))), SV.dt (Dt.cell (Go.Value.int Go.IntKind.i64 (c + (1 : Int)))), SV.dt (Dt.cell (Go.Value.int Go.IntKind.i64 (0 : Int)))]])) ∧
                (True ∧
                 R (SV.agg [SV.dt (Dt.cell (Go.Value.int Go.IntKind.i64 Rd.d0.k)), SV.dt (Dt.cell (Go.Value.int Go.IntKind.i64 Rd.d0.n)), SV.dt (Dt.cell (Go.Value.string Rd.d0.s)), SV.dt (Dt.arr ((4 : Nat)) (Rd.d0.l.length) (Rd.dmL Rd.d0.l))]) ([some (Ob.cells 49 [SV.dt (Dt.cell (Go.Value.string s)), SV.dt (Dt.cell (Go.Value.int Go.IntKind.i64 (Rd.blk s a))), SV.dt (Dt.cell (Go.Value.int Go.IntKind.i64 (c + (1 : Int)))), SV.dt (Dt.cell (Go.Value.int Go.IntKind.i64 (4 : Int)))])]))))) ∧
             (((Rx.byteAt s (Rd.blk s a) == (41 : Int)) = Bool.false) →
              ((((Rx.byteAt s (Rd.blk s a) == (39 : Int)) = Bool.true) →
                (((Rx.lo Go.IntKind.i64 ≤ Rd.blk s a + (1 : Int)) ∧
                  (Rd.blk s a + (1 : Int) ≤ Rx.hi Go.IntKind.i64)) ∧
                 (((Rx.lo Go.IntKind.i64 ≤ lv + (1 : Int)) ∧
                   (lv + (1 : Int) ≤ Rx.hi Go.IntKind.i64)) ∧
                  ((Rx.leL ([SV.ptr 0 0, SV.dt (Dt.cell (Go.Value.int Go.IntKind.i64 (lv + (1 : Int))))]) ([SV.ptr 0 0, SV.dt (Dt.cell (Go.Value.int Go.IntKind.i64 (lv + (1 : Int))))])) ∧
                   ((Rx.leObL ([Ob.cells 49 [SV.dt (Dt.cell (Go.Value.string s)), SV.dt (Dt.cell (Go.Value.int Go.IntKind.i64 (Rd.blk s a + (1 : Int)))), SV.dt (Dt.cell (Go.Value.int Go.IntKind.i64 (c + (1 : Int)))), SV.dt (Dt.cell (Go.Value.int Go.IntKind.i64 (0 : Int)))]]) ([Ob.cells 49 [SV.dt (Dt.cell (Go.Value.string s)), SV.dt (Dt.cell (Go.Value.int Go.IntKind.i64 (Rd.blk s a + (1 : Int)))), SV.dt (Dt.cell (Go.Value.int Go.IntKind.i64 (c + (1 : Int)))), SV.dt (Dt.cell (Go.Value.int Go.IntKind.i64 (0 : Int)))]])) ∧
                    (((Rd.okS s (Rd.blk s a + (1 : Int))) ∧
                      ((Rd.okC (c + (1 : Int))) ∧
                       ((Rd.okL (lv + (1 : Int))) ∧
                        ((Rd.datS s g (lv + (1 : Int)) (Rd.blk s a + (1 : Int)) (c + (1 : Int))).isSome = Bool.true)))) ∧
                     (True ∧
                      R (SV.agg [SV.dt (Dt.cell (Go.Value.int Go.IntKind.i64 (4 : Int))), SV.ki Go.IntKind.i64 ((0 : Int)), SV.dt (Dt.cell (Go.Value.string (ByteArray.mk #[]))), SV.dt (Dt.arr ((4 : Nat)) ((2 : Nat)) (Rx.litF (4 : Nat) [Rx.Dt.cell (Go.Value.int Go.IntKind.i64 (3 : Int)), Rx.Dt.cell (Go.Value.int Go.IntKind.i64 (0 : Int)), Rx.Dt.cell (Go.Value.string (ByteArray.mk #[(113 : UInt8), (117 : UInt8), (111 : UInt8), (116 : UInt8), (101 : UInt8)])), Rx.Dt.cell (Go.Value.slice Option.none (0 : Nat) (0 : Nat)), Rx.Dt.cell (Go.Value.int Go.IntKind.i64 (Rd.datR s g (lv + (1 : Int)) (Rd.blk s a + (1 : Int)) (c + (1 : Int))).d.k), Rx.Dt.cell (Go.Value.int Go.IntKind.i64 (Rd.datR s g (lv + (1 : Int)) (Rd.blk s a + (1 : Int)) (c + (1 : Int))).d.n), Rx.Dt.cell (Go.Value.string (Rd.datR s g (lv + (1 : Int)) (Rd.blk s a + (1 : Int)) (c + (1 : Int))).d.s), Rx.Dt.arr (4 : Nat) (Rd.datR s g (lv + (1 : Int)) (Rd.blk s a + (1 : Int)) (c + (1 : Int))).d.l.length (Rd.dmL (Rd.datR s g (lv + (1 : Int)) (Rd.blk s a + (1 : Int)) (c + (1 : Int))).d.l)]))]) ([some (Ob.cells 49 [SV.dt (Dt.cell (Go.Value.string s)), SV.dt (Dt.cell (Go.Value.int Go.IntKind.i64 (Rd.datR s g (lv + (1 : Int)) (Rd.blk s a + (1 : Int)) (c + (1 : Int))).a)), SV.dt (Dt.cell (Go.Value.int Go.IntKind.i64 (Rd.datR s g (lv + (1 : Int)) (Rd.blk s a + (1 : Int)) (c + (1 : Int))).c)), SV.dt (Dt.cell (Go.Value.int Go.IntKind.i64 (Rd.datR s g (lv + (1 : Int)) (Rd.blk s a + (1 : Int)) (c + (1 : Int))).e))])])))))))) ∧
               (((Rx.byteAt s (Rd.blk s a) == (39 : Int)) = Bool.false) →
                ((((Rx.byteAt s (Rd.blk s a) == (40 : Int)) = Bool.true) →
                  (((Rx.lo Go.IntKind.i64 ≤ Rd.blk s a + (1 : Int)) ∧
                    (Rd.blk s a + (1 : Int) ≤ Rx.hi Go.IntKind.i64)) ∧
                   (((Rx.leS (SV.ptr 0 0) (SV.ptr 0 0)) ∧
                     ((Rx.leS (SV.dt (Dt.cell (Go.Value.int Go.IntKind.i64 lv))) (SV.dt (Dt.cell (Go.Value.int Go.IntKind.i64 lv)))) ∧
                      ((Rx.leS (SV.ptr 1 0) (SV.ptr 1 0)) ∧
                       ((Rx.leS (SV.ptr 2 0) (SV.ptr 2 0)) ∧
                        True)))) ∧
                    ((Rx.leOO ([some (Ob.cells 49 [SV.dt (Dt.cell (Go.Value.string s)), SV.dt (Dt.cell (Go.Value.int Go.IntKind.i64 (Rd.blk s a + (1 : Int)))), SV.dt (Dt.cell (Go.Value.int Go.IntKind.i64 (c + (1 : Int)))), SV.dt (Dt.cell (Go.Value.int Go.IntKind.i64 (0 : Int)))]), some (Ob.cells 37 [SV.ki Go.IntKind.i64 ((0 : Int)), SV.ki Go.IntKind.i64 ((0 : Int)), SV.dt (Dt.cell (Go.Value.string (ByteArray.mk #[]))), SV.dt (Dt.cell (Go.Value.slice Option.none (0 : Nat) (0 : Nat)))]), some (Ob.cells 37 [SV.dt (Dt.cell (Go.Value.int Go.IntKind.i64 (4 : Int))), SV.ki Go.IntKind.i64 ((0 : Int)), SV.dt (Dt.cell (Go.Value.string (ByteArray.mk #[]))), SV.nm 3]), some (Ob.row 37 4 ((0 : Nat)) (fun x x_1 => Rx.undefCell))]) ([some (Ob.cells 49 [SV.dt (Dt.cell (Go.Value.string s)), SV.dt (Dt.cell (Go.Value.int Go.IntKind.i64 (Rd.blk s a + (1 : Int)))), SV.dt (Dt.cell (Go.Value.int Go.IntKind.i64 (c + (1 : Int)))), SV.dt (Dt.cell (Go.Value.int Go.IntKind.i64 (0 : Int)))]), some (Ob.cells 37 [SV.ki Go.IntKind.i64 ((0 : Int)), SV.ki Go.IntKind.i64 ((0 : Int)), SV.dt (Dt.cell (Go.Value.string Rd.noS)), SV.dt (Dt.cell (Go.Value.slice Option.none (0 : Nat) (0 : Nat)))]), some (Ob.cells 37 [SV.dt (Dt.cell (Go.Value.int Go.IntKind.i64 (4 : Int))), SV.dt (Dt.cell (Go.Value.int Go.IntKind.i64 (0 : Int))), SV.dt (Dt.cell (Go.Value.string Rd.noS)), SV.nm 3]), some (Ob.row 37 4 (Rd.nilD.length) (Rd.dmL Rd.nilD))])) ∧
                     (((g ≤ g) ∧
                       ((Rd.okS s (Rd.blk s a + (1 : Int))) ∧
                        ((Rd.okC (c + (1 : Int))) ∧
                         ((((1 : Int) ≤ lv) ∧
                           (lv ≤ (40 : Int))) ∧
                          (((↑Rd.nilD.length : Int) ≤ c + (1 : Int)) ∧
                           ((Rd.lisS s g lv (Rd.blk s a + (1 : Int)) (c + (1 : Int)) Rd.nilD).isSome = Bool.true)))))) ∧
                      (True ∧
                       R (SV.agg [SV.dt (Dt.cell (Go.Value.int Go.IntKind.i64 (4 : Int))), SV.dt (Dt.cell (Go.Value.int Go.IntKind.i64 (0 : Int))), SV.dt (Dt.cell (Go.Value.string Rd.noS)), SV.dt (Dt.arr ((4 : Nat)) ((Rd.lisR s g lv (Rd.blk s a + (1 : Int)) (c + (1 : Int)) Rd.nilD).d.l.length) (Rd.dmL (Rd.lisR s g lv (Rd.blk s a + (1 : Int)) (c + (1 : Int)) Rd.nilD).d.l))]) ([some (Ob.cells 49 [SV.dt (Dt.cell (Go.Value.string s)), SV.dt (Dt.cell (Go.Value.int Go.IntKind.i64 (Rd.lisR s g lv (Rd.blk s a + (1 : Int)) (c + (1 : Int)) Rd.nilD).a)), SV.dt (Dt.cell (Go.Value.int Go.IntKind.i64 (Rd.lisR s g lv (Rd.blk s a + (1 : Int)) (c + (1 : Int)) Rd.nilD).c)), SV.dt (Dt.cell (Go.Value.int Go.IntKind.i64 (Rd.lisR s g lv (Rd.blk s a + (1 : Int)) (c + (1 : Int)) Rd.nilD).e))])]))))))) ∧
                 (((Rx.byteAt s (Rd.blk s a) == (40 : Int)) = Bool.false) →
                  ((Rx.leL ([SV.ptr 0 0, SV.dt (Dt.cell (Go.Value.int Go.IntKind.i64 (Rd.blk s a)))]) ([SV.ptr 0 0, SV.dt (Dt.cell (Go.Value.int Go.IntKind.i64 (Rd.blk s a)))])) ∧
                   ((Rx.leObL ([Ob.cells 49 [SV.dt (Dt.cell (Go.Value.string s)), SV.dt (Dt.cell (Go.Value.int Go.IntKind.i64 (Rd.blk s a))), SV.dt (Dt.cell (Go.Value.int Go.IntKind.i64 (c + (1 : Int)))), SV.dt (Dt.cell (Go.Value.int Go.IntKind.i64 (0 : Int)))]]) ([Ob.cells 49 [SV.dt (Dt.cell (Go.Value.string s)), SV.dt (Dt.cell (Go.Value.int Go.IntKind.i64 (Rd.blk s a))), SV.dt (Dt.cell (Go.Value.int Go.IntKind.i64 (c + (1 : Int)))), SV.dt (Dt.cell (Go.Value.int Go.IntKind.i64 (0 : Int)))]])) ∧
                    (((Rd.okS s (Rd.blk s a)) ∧
                      (((0 : Int) ≤ Rd.blk s a) ∧
                       (Rd.blk s a ≤ Rd.blk s a))) ∧
                     (True ∧
                      R (SV.agg [SV.dt (Dt.cell (Go.Value.int Go.IntKind.i64 (Rd.atD (Rd.wordAt s (Rd.blk s a) (Rd.blk s a))).k)), SV.dt (Dt.cell (Go.Value.int Go.IntKind.i64 (Rd.atD (Rd.wordAt s (Rd.blk s a) (Rd.blk s a))).n)), SV.dt (Dt.cell (Go.Value.string (Rd.atD (Rd.wordAt s (Rd.blk s a) (Rd.blk s a))).s)), SV.dt (Dt.arr ((4 : Nat)) ((Rd.atD (Rd.wordAt s (Rd.blk s a) (Rd.blk s a))).l.length) (Rd.dmL (Rd.atD (Rd.wordAt s (Rd.blk s a) (Rd.blk s a))).l))]) ([some (Ob.cells 49 [SV.dt (Dt.cell (Go.Value.string s)), SV.dt (Dt.cell (Go.Value.int Go.IntKind.i64 (if Rd.atE (Rd.wordAt s (Rd.blk s a) (Rd.blk s a)) = (0 : Int) then Rd.wend s (Rd.blk s a) else Rd.blk s a))), SV.dt (Dt.cell (Go.Value.int Go.IntKind.i64 (c + (1 : Int)))), SV.dt (Dt.cell (Go.Value.int Go.IntKind.i64 (Rd.atE (Rd.wordAt s (Rd.blk s a) (Rd.blk s a)))))])]))))))))))))))))))))))))
/-! ## plain laws -/
theorem datS_succ (s : ByteArray) : ∀ f, (∀ lv a c r, datS s f lv a c = some r → datS s (f + 1) lv a c = some r) ∧ (∀ lv a c acc r, lisS s f lv a c acc = some r → lisS s (f + 1) lv a c acc = some r)
  | 0 => ⟨fun _ _ _ _ h => by simp [datS] at h, fun _ _ _ _ _ h => by simp [lisS] at h⟩
  | f + 1 => by
    obtain ⟨h1, h2⟩ := datS_succ s f
    refine ⟨fun lv a c r h => ?_, fun lv a c acc r h => ?_⟩
    · rw [datS] at h ⊢
      by_cases g1 : blk s a = s.size
      · rw [if_pos g1] at h ⊢; exact h
      rw [if_neg g1] at h ⊢
      by_cases g2 : c + 1 > 400
      · rw [if_pos g2] at h ⊢; exact h
      rw [if_neg g2] at h ⊢
      by_cases g3 : lv > 40
      · rw [if_pos g3] at h ⊢; exact h
      rw [if_neg g3] at h ⊢
      by_cases g4 : byteAt s (blk s a) = 41
      · rw [if_pos g4] at h ⊢; exact h
      rw [if_neg g4] at h ⊢
      by_cases g5 : byteAt s (blk s a) = 39
      · rw [if_pos g5] at h ⊢
        obtain ⟨q, hq, rfl⟩ := Option.map_eq_some_iff.1 h
        rw [h1 _ _ _ _ hq]; rfl
      rw [if_neg g5] at h ⊢
      by_cases g6 : byteAt s (blk s a) = 40
      · rw [if_pos g6] at h ⊢; exact h2 _ _ _ _ _ h
      rw [if_neg g6] at h ⊢
      exact h
    · rw [lisS] at h ⊢
      split at h
      · rename_i g; rw [if_pos g]; exact h
      · rename_i g
        rw [if_neg g]
        split at h
        · cases h
        · rename_i q hq
          rw [h1 _ _ _ _ hq]
          simp only
          split at h
          · rename_i g2; rw [if_pos g2]; exact h
          · rename_i g2; rw [if_neg g2]; exact h2 _ _ _ _ _ h

theorem datS_mono {s : ByteArray} {f g : Nat} (h : f ≤ g) {lv a c : Int} {r : PR} (hr : datS s f lv a c = some r) : datS s g lv a c = some r := by
  induction h with
  | refl => exact hr
  | step _ ih => exact (datS_succ s _).1 _ _ _ _ ih
theorem lisS_mono {s : ByteArray} {f g : Nat} (h : f ≤ g) {lv a c : Int} {acc : List Dm} {r : PR} (hr : lisS s f lv a c acc = some r) : lisS s g lv a c acc = some r := by
  induction h with
  | refl => exact hr
  | step _ ih => exact (datS_succ s _).2 _ _ _ _ _ ih

theorem datS_ok (s : ByteArray) : ∀ f, (∀ lv a c r, datS s f lv a c = some r → okS s a → okC c → okS s r.a ∧ (r.e = 0 → r.c ≤ 400) ∧ c ≤ r.c ∧ (r.e = 0 → c + 1 ≤ r.c)) ∧
    (∀ lv a c acc r, lisS s f lv a c acc = some r → okS s a → okC c → okS s r.a ∧ (r.e = 0 → r.c ≤ 400) ∧ c ≤ r.c ∧ r.d = .mk 4 0 noS r.d.l)
  | 0 => ⟨fun _ _ _ _ h => by simp [datS] at h, fun _ _ _ _ _ h => by simp [lisS] at h⟩
  | f + 1 => by
    obtain ⟨h1, h2⟩ := datS_ok s f
    refine ⟨fun lv a c r h hs hc => ?_, fun lv a c acc r h hs hc => ?_⟩
    · have b1 := blk_ge s a
      have b2 := blk_le s a hs.2.2
      have hb : okS s (blk s a) := ⟨hs.1, by have := hs.2.1; omega, b2⟩
      rw [datS] at h
      split at h
      · injection h with h; subst h; exact ⟨hb, fun h => (by cases h), Int.le_refl _, fun h => (by cases h)⟩
      · split at h
        · injection h with h; subst h; exact ⟨hb, fun h => (by cases h), by simp only; omega, fun h => (by cases h)⟩
        · split at h
          · injection h with h; subst h; exact ⟨hb, fun h => (by cases h), by simp only; omega, fun h => (by cases h)⟩
          · rename_i g1 g2 g3
            have hc1 : okC (c + 1) := ⟨by have := hc.1; omega, by omega⟩
            have hb1 : okS s (blk s a + 1) := ⟨hs.1, by have := hb.2.1; omega, by omega⟩
            split at h
            · injection h with h; subst h; exact ⟨hb, fun h => (by cases h), by simp only; omega, fun h => (by cases h)⟩
            · split at h
              · obtain ⟨q, hq, rfl⟩ := Option.map_eq_some_iff.1 h
                obtain ⟨k1, k2, k3, k4⟩ := h1 _ _ _ _ hq hb1 hc1
                exact ⟨k1, k2, by simp only; omega, fun _ => by simp only; omega⟩
              · split at h
                · obtain ⟨k1, k2, k3, k4⟩ := h2 _ _ _ _ _ h hb1 hc1
                  exact ⟨k1, k2, by omega, fun _ => by omega⟩
                · injection h with h; subst h
                  refine ⟨?_, fun _ => hc1.2, by simp only; omega, fun _ => Int.le_refl _⟩
                  simp only
                  split
                  · exact ⟨hs.1, by have := wend_ge s (blk s a); have := hb.2.1; omega, wend_le s _ b2⟩
                  · exact hb
    · have b1 := blk_ge s a
      have b2 := blk_le s a hs.2.2
      have hb : okS s (blk s a) := ⟨hs.1, by have := hs.2.1; omega, b2⟩
      rw [lisS] at h
      split at h
      · injection h with h; subst h; exact ⟨⟨hs.1, by have := hb.2.1; simp only; omega, by simp only; omega⟩, fun _ => hc.2, Int.le_refl _, rfl⟩
      · split at h
        · cases h
        · rename_i q hq
          obtain ⟨k1, k2, k3, k4⟩ := h1 _ _ _ _ hq hb hc
          split at h
          · rename_i g; injection h with h; subst h; exact ⟨k1, fun h => absurd h g, k3, rfl⟩
          · rename_i g
            have g : q.e = 0 := by simpa using g
            obtain ⟨m1, m2, m3, m4⟩ := h2 _ _ _ _ _ h k1 ⟨by have := hc.1; omega, k2 g⟩
            exact ⟨m1, m2, by omega, m4⟩

/-! ## data in arrays -/
theorem dmT_eq (d : Dm) (j : Nat) (hj : j < 4) : dmT d j = [Dt.cell (.int .i64 d.k), .cell (.int .i64 d.n), .cell (.string d.s), .arr 4 d.l.length (dmL d.l)].getD j undefCell := by
  cases d with
  | mk k n s l =>
    match j, hj with
    | 0, _ => simp [dmT, Dm.k]
    | 1, _ => simp [dmT, Dm.n]
    | 2, _ => simp [dmT, Dm.s]
    | 3, _ => simp [dmT, Dm.l]
theorem dmL_lt : ∀ {l m : List Dm} {i : Nat} (j : Nat), i < l.length → dmL (l ++ m) i j = dmL l i j
  | [], _, _, _, h => by simp at h
  | d :: l, m, 0, j, _ => by simp [dmL]
  | d :: l, m, i + 1, j, h => by
    simp only [List.cons_append, dmL]
    exact dmL_lt j (by simpa using h)
theorem dmL_at : ∀ (l : List Dm) (d : Dm) (m : List Dm) (j : Nat), dmL (l ++ d :: m) l.length j = dmT d j
  | [], d, m, j => by simp [dmL]
  | x :: l, d, m, j => by
    simp only [List.cons_append, List.length_cons, dmL]
    exact dmL_at l d m j
theorem dmL_snoc (acc : List Dm) (d : Dm) (k j : Nat) (hk : k < acc.length + 1) (hj : j < 4) :
    leDt (catF acc.length (dmL acc) (litF 4 [Dt.cell (.int .i64 d.k), .cell (.int .i64 d.n), .cell (.string d.s), .arr 4 d.l.length (dmL d.l)]) k j) (dmL (acc ++ [d]) k j) := by
  by_cases h : k < acc.length
  · have e : catF acc.length (dmL acc) (litF 4 [Dt.cell (.int .i64 d.k), .cell (.int .i64 d.n), .cell (.string d.s), .arr 4 d.l.length (dmL d.l)]) k j = dmL acc k j := by
      have hb : Nat.blt k acc.length = true := by rw [Nat.blt_eq]; exact h
      simp only [catF, hb, cond_true]
    rw [e, dmL_lt j h]
    exact leDt_refl _
  · have hk : k = acc.length := by omega
    subst hk
    have e : catF acc.length (dmL acc) (litF 4 [Dt.cell (.int .i64 d.k), .cell (.int .i64 d.n), .cell (.string d.s), .arr 4 d.l.length (dmL d.l)]) acc.length j = litF 4 [Dt.cell (.int .i64 d.k), .cell (.int .i64 d.n), .cell (.string d.s), .arr 4 d.l.length (dmL d.l)] 0 j := by
      have hb : Nat.blt acc.length acc.length = false := by
        cases hq : Nat.blt acc.length acc.length with
        | false => rfl
        | true => rw [Nat.blt_eq] at hq; omega
      simp only [catF, hb, cond_false, Nat.sub_self]
    rw [e, dmL_at, dmT_eq d j hj, litF_eq hj (by simpa using hj), Nat.zero_mul, Nat.zero_add]
    exact leDt_refl _

/-! ## a word -/
theorem syF_ok : syF.Ok prog := by
  intro al ol args obs out h
  unfold syF at h
  simp only at h
  repeat' split at h
  all_goals first
    | (simp only [Option.some.injEq, Prod.mk.injEq] at h; obtain ⟨rfl, rfl, rfl⟩ := h; apply symbol_ctr)
    | cases h
theorem aiF_ok : aiF.Ok prog := by
  intro al ol args obs out h
  unfold aiF at h
  simp only at h
  repeat' split at h
  all_goals first
    | (simp only [Option.some.injEq, Prod.mk.injEq] at h; obtain ⟨rfl, rfl, rfl⟩ := h; apply atoi_ctr)
    | cases h
theorem itF_ok : itF.Ok prog := by
  intro al ol args obs out h
  unfold itF at h
  simp only at h
  repeat' split at h
  all_goals first
    | (simp only [Option.some.injEq, Prod.mk.injEq] at h; obtain ⟨rfl, rfl, rfl⟩ := h; apply itoa_ctr)
    | cases h
theorem stF_ok : stF.Ok prog := by
  intro al ol args obs out h
  unfold stF at h
  simp only at h
  repeat' split at h
  all_goals first
    | (simp only [Option.some.injEq, Prod.mk.injEq] at h; obtain ⟨rfl, rfl, rfl⟩ := h; apply stop_ctr)
    | cases h
theorem bkF_ok : bkF.Ok prog := by
  intro al ol args obs out h
  unfold bkF at h
  simp only at h
  repeat' split at h
  all_goals first
    | (simp only [Option.some.injEq, Prod.mk.injEq] at h; obtain ⟨rfl, rfl, rfl⟩ := h; apply blanks_ctr)
    | cases h
theorem atKs_ok : ∀ x ∈ atKs, x.2.2.Ok prog := all_cons ixF_ok (all_cons syF_ok (all_cons aiF_ok (all_cons itF_ok (all_cons stF_ok (all_cons stF_ok all_nil)))))
theorem atLoop_sound (s : ByteArray) (fr c e a : Int) : Sound atEnv (.loop atLoop) (mkSt (atLF.live.h.zip (atArgs fr)) [some (pOb s a c e), some zOb]) ((atOut s fr c e a).map (OutC.st atLF.live)) := by
  refine loop_fn mixed (ks := atKs) (ls := [atLF]) (c := atLoop) (nb := 1) (N := 88) atKs_ok (no_loops (by kernel_rfl)) atLF.live (fun _ : Int => atArgs fr) (fun a => [some (pOb s a c e), some zOb]) (fun a => atOut s fr c e a) (fun a => ((s.size : Int) - a).toNat)
    (Q := fun a => atLoopQ s fr c e a) (fun a post hp => ?_) (fun a Rn Re => by kernel_rfl) a
  obtain ⟨⟨h1, h2, h3⟩, hp⟩ := hp
  have hp : post (.exit 0, atArgs fr, [some (pOb s (wend s a) c e), some zOb]) := hp
  have done : wend s a = a → Outs post (.exit 0) (atArgs fr) [some (pOb s a c e), some zOb] := fun h => by
    rw [h] at hp; exact Outs.mk hp (leL_refl _) (leOO_refl _)
  unfold atLoopQ
  simp only [lo, hi, decide_eq_true_eq, decide_eq_false_iff_not]
  refine ⟨fun h => ⟨⟨h2, h⟩, leL_refl _, trivial, fun hb => ⟨⟨by omega, by omega⟩, a + 1, by omega, leL_refl _, leOO_refl _, ⟨h1, by omega, by omega⟩, ?_⟩, fun hb => done ?_⟩, fun h => done ?_⟩
  · have : wend s a = wend s (a + 1) := by rw [wend.eq_1 s a, if_pos ⟨h, hb⟩]
    rw [this] at hp; exact hp
  · rw [wend, if_neg]; rintro ⟨_, h⟩; exact hb h
  · rw [wend, if_neg]; rintro ⟨h', _⟩; exact h h'
theorem atLF_ok : LFok atEnv atLF atLoop := by
  intro svs obl args obs out h
  unfold atLF at h
  simp only at h
  repeat' split at h
  all_goals first
    | (simp only [Option.some.injEq, Prod.mk.injEq] at h; obtain ⟨rfl, rfl, rfl⟩ := h; apply atLoop_sound)
    | cases h
theorem atEnv_Lok : atEnv.Lok (loopsOf (bodyOf c_atom)) := by
  have hl : loopsOf (bodyOf c_atom) = [atLoop] := by kernel_rfl
  rw [hl]
  refine fnE_Lok fun f h c hc hr => ?_
  rw [List.mem_singleton] at hc h
  subst hc; subst h
  exact atLF_ok

theorem dm_le {k n : Int} {s : ByteArray} {x y z : SV} (hx : leS x (vI .i64 k)) (hy : leS y (vI .i64 n)) (hz : leS z (vS s)) : leS (.agg [x, y, z, .dt (.cell (.slice none 0 0))]) (dmS (.mk k n s [])) := by
  simp only [dmS, dmA, Dm.k, Dm.n, Dm.s, Dm.l, leS_agg, leL_cons, leL_nil, and_true]
  refine ⟨hx, hy, hz, ?_⟩
  rw [leS_dt]
  simp only [leDt]
  exact ⟨rfl, rfl⟩

theorem atom_ctr (s : ByteArray) (fr a c : Int) : Ctr prog f_atom [.ptr 0 0, vI .i64 fr] [pOb s a c 0] (atomO s fr a c) := by
  refine ctr_fn mixed (N := 88) (fn := c_atom) (c := bodyOf c_atom) (ks := atKs) (ls := [atLF]) (by kernel_rfl) (by kernel_rfl) (by kernel_rfl) atKs_ok fin0 atEnv_Lok (by kernel_rfl) (Q := atomQ s fr a c) (fun post hp => ?_) (fun R => by kernel_rfl)
  obtain ⟨⟨h1, h2, h3⟩, hp⟩ := hp
  have hp : post (dmS (atD (wordAt s fr a)), [some (pOb s (if atE (wordAt s fr a) = 0 then wend s a else fr) c (atE (wordAt s fr a)))]) := hp
  have b1 := wend_ge s a
  have b2 := wend_le s a h1.2.2
  have ok : ∀ {v : SV}, atE (wordAt s fr a) = 0 → leS v (dmS (atD (wordAt s fr a))) → Gives post v [some (pOb s (wend s a) c 0)] := fun he hv => by
    rw [if_pos he, he] at hp; exact gives2 hp hv (leOO_refl _)
  have no : ∀ {e : Int}, e ≠ 0 → atE (wordAt s fr a) = e → atD (wordAt s fr a) = d0 → Gives post (dmS d0) [some (pOb s fr c e)] := fun he h hd => by
    rw [h, if_neg he, hd] at hp; exact gives2 hp (leS_refl _) (leOO_refl _)
  have eT : isT (wordAt s fr a) = true → atE (wordAt s fr a) = 0 ∧ atD (wordAt s fr a) = .mk 2 1 noS [] := fun h => by simp only [atE, atD, h, if_true, and_self]
  have eF : isT (wordAt s fr a) = false → isF (wordAt s fr a) = true → atE (wordAt s fr a) = 0 ∧ atD (wordAt s fr a) = .mk 2 0 noS [] := fun h h' => by simp [atE, atD, h, h']
  have eS : isT (wordAt s fr a) = false → isF (wordAt s fr a) = false → symB (wordAt s fr a) = true → atE (wordAt s fr a) = 0 ∧ atD (wordAt s fr a) = .mk 3 0 (wordAt s fr a) [] := fun h h' h'' => by simp [atE, atD, h, h', h'']
  have e4 : isT (wordAt s fr a) = false → isF (wordAt s fr a) = false → symB (wordAt s fr a) = false → isN (wordAt s fr a) = false → atE (wordAt s fr a) = 4 ∧ atD (wordAt s fr a) = d0 := fun h h' h'' h3 => by simp [atE, atD, h, h', h'', h3]
  have e2 : isT (wordAt s fr a) = false → isF (wordAt s fr a) = false → symB (wordAt s fr a) = false → isN (wordAt s fr a) = true → (atoiV (wordAt s fr a) < -1099511627776 ∨ 1099511627776 < atoiV (wordAt s fr a)) → atE (wordAt s fr a) = 2 ∧ atD (wordAt s fr a) = d0 := fun h h' h'' h3 h4 => by simp [atE, atD, h, h', h'', h3, h4]
  have e1 : isT (wordAt s fr a) = false → isF (wordAt s fr a) = false → symB (wordAt s fr a) = false → isN (wordAt s fr a) = true → ¬ (atoiV (wordAt s fr a) < -1099511627776 ∨ 1099511627776 < atoiV (wordAt s fr a)) → atE (wordAt s fr a) = 0 ∧ atD (wordAt s fr a) = .mk 1 (atoiV (wordAt s fr a)) noS [] := fun h h' h'' h3 h4 => by simp [atE, atD, h, h', h'', h3, h4]
  have hsz : (wordAt s fr a).size ≤ 281474976710656 := by
    have : (wordAt s fr a).size ≤ s.size := by simp [wordAt]; omega
    have := h1.1; omega
  have hin : atoiOk (wordAt s fr a) = true → inI (atoiV (wordAt s fr a)) := fun h => by
    unfold atoiOk at h
    unfold atoiV
    split at h
    · rename_i v hv
      exact Lib.atoiAll_bounds hv
    · cases h
  have nN : atoiOk (wordAt s fr a) = false → isN (wordAt s fr a) = false := fun h => by simp [isN, h]
  have nN' : (!((itoaB (atoiV (wordAt s fr a))).data.toList == (wordAt s fr a).data.toList)) = true → isN (wordAt s fr a) = false := fun h => by
    unfold isN
    rw [Bool.not_eq_true'] at h
    rw [h, Bool.and_false]
  have yN : atoiOk (wordAt s fr a) = true → (!((itoaB (atoiV (wordAt s fr a))).data.toList == (wordAt s fr a).data.toList)) = false → isN (wordAt s fr a) = true := fun h h' => by
    unfold isN
    rw [Bool.not_eq_false'] at h'
    rw [h, h']; rfl
  unfold atomQ
  refine ⟨⟨leS_refl _, leS_refl _, leS_refl _, trivial⟩, leOO_refl _, h1, ⟨h2, by omega, b2⟩, fun hT => ⟨trivial, ?_⟩, fun hT => ⟨fun hF => ⟨trivial, ?_⟩, fun hF => ⟨leL_refl _, trivial, fun hS => ⟨trivial, ?_⟩, fun hS =>
    ⟨leL_refl _, trivial, hsz, fun hA => ⟨leL_refl _, trivial, hin hA, fun hI => ⟨leL_refl _, leObL_refl _, trivial, ?_⟩, fun hI => ⟨fun g => ⟨leL_refl _, leObL_refl _, trivial, ?_⟩, fun g => ⟨fun g' => ⟨leL_refl _, leObL_refl _, trivial, ?_⟩, fun g' => ⟨trivial, ?_⟩⟩⟩⟩,
      fun hA => ⟨leL_refl _, leObL_refl _, trivial, ?_⟩⟩⟩⟩⟩
  · have h := eT hT
    exact ok h.1 (by rw [h.2]; exact dm_le (leS_refl _) (leS_refl _) (leS_refl _))
  · have h := eF hT hF
    exact ok h.1 (by rw [h.2]; exact dm_le (leS_refl _) ((leS_ki _ _ _).2 rfl) (leS_refl _))
  · have h := eS hT hF hS
    exact ok h.1 (by rw [h.2]; exact dm_le (leS_refl _) ((leS_ki _ _ _).2 rfl) (leS_refl _))
  · have h := e4 hT hF hS (nN' hI)
    exact no (by decide) h.1 h.2
  · have h := e2 hT hF hS (yN hA hI) (.inl (of_decide_eq_true g))
    exact no (by decide) h.1 h.2
  · have h := e2 hT hF hS (yN hA hI) (.inr (of_decide_eq_true g'))
    exact no (by decide) h.1 h.2
  · have h := e1 hT hF hS (yN hA hI) (by have := of_decide_eq_false g; have := of_decide_eq_false g'; unfold wordAt; omega)
    exact ok h.1 (by rw [h.2]; exact dm_le (leS_refl _) (leS_refl _) (leS_refl _))
  · have h := e4 hT hF hS (nN hA)
    exact no (by decide) h.1 h.2
theorem amF_ok : amF.Ok prog := by
  intro al ol args obs out h
  unfold amF at h
  simp only at h
  repeat' split at h
  all_goals first
    | (simp only [Option.some.injEq, Prod.mk.injEq] at h; obtain ⟨rfl, rfl, rfl⟩ := h; apply atom_ctr)
    | cases h
end Rd
