/- Rx, part X4: code and functions, for the kernel. -/
import Derived.Test.YtkbdcpkbmfegdaaGreatDoorRxXb
set_option linter.unusedSectionVars false
set_option linter.unusedSimpArgs false
set_option linter.unusedVariables false
namespace Rx
open Go
variable [Glob]
noncomputable section
abbrev CG := KS -> (Nat -> KS) -> KS -> Tr SV -> OB -> Nat -> R
abbrev CF := Program -> EX -> Nat -> Nat -> Nat -> CG
structure CP where
 f : CF
 g : Program -> EX -> Nat -> Nat -> Nat -> Lo -> CG
def noG : Program -> EX -> Nat -> Nat -> Nat -> Lo -> CG := fun _ _ _ _ _ _ _ _ _ _ _ _ => .fail
def noC : CP := ⟨fun _ _ _ _ _ _ _ _ _ _ _ => .fail, noG⟩
structure FSt where
 sl : Tr SV
 lo : Lo
 ob : OB
 nb : Nat
def FSt.cs (fl : Nat) (s : FSt) : CS := ⟨view fl s.sl s.lo, ⟨av s.ob, s.nb⟩⟩
def eqB (a b : Bool) : Bool := @Bool.rec (fun _ => Bool) (nB b) b a
def jh (a b : SV) (c : R) : R :=
 match a, b with
 | .ki k n, .ki k' m => BR (eG k k' && eqI n m) c .fail
 | .kb p, .kb q => BR (eqB p q) c .fail
 | .ptr i o, .ptr j p => BR (Nat.beq i j && Nat.beq o p) c .fail
 | .rp i o y z, .rp i' o' y' z' => BR (Nat.beq i i' && (Nat.beq o o' && (Nat.beq y y' && Nat.beq z z'))) c .fail
 | .sl i o y z none, .sl i' o' y' z' none => BR (Nat.beq i i' && (Nat.beq o o' && (Nat.beq y y' && Nat.beq z z'))) c .fail
 | .sl i o y z (some k), .sl i' o' y' z' (some k') => BR (Nat.beq i i' && (Nat.beq o o' && (Nat.beq y y' && (Nat.beq z z' && Nat.beq k k')))) c .fail
 | .dt (.cell (.slice none 0 0)), .dt (.cell (.slice none 0 0)) => c
 | .dt (.cell (.pointer none)), .dt (.cell (.pointer none)) => c
 | .dt (.cell (.string s)), .dt (.cell (.string t)) => BR (s.data.toList == t.data.toList) c .fail
 | .nm i, .nm j => BR (Nat.beq i j) c .fail
 | .dt (.cell (.int k n)), .dt (.cell (.int k' m)) => BR (eG k k' && eqI n m) c .fail
 | .dt (.cell (.bool p)), .dt (.cell (.bool q)) => BR (eqB p q) c .fail
 | .ri k a b n, .ri k' a' b' n' => BR (eG k k' && (eqI a a' && eqI b b')) (.need (n = n') c) .fail
 | .sy s, .sy t => .need (s = t) c
 | a, b => .need (a = b) c
def aa4 (l : List SV) : List SV -> R -> R := @List.rec SV (fun _ => List SV -> R -> R) (fun m c => match m with
    | [] => c
    | _ => .fail) (fun x _ ih m c => match m with
    | [] => .fail
    | y :: m => jh x y (ih m c)) l
def svQ (a b : SV) (c : R) : R := match a, b with
 | .agg l, .agg m => aa4 l m c
 | a, b => jh a b c
def kiQ (s : SV) : IntKind -> Int -> R -> R := @SV.rec (fun _ => IntKind -> Int -> R -> R) (fun _ => PUnit) (fun _ _ _ => .fail) (fun _ => fun _ _ _ => .fail) (fun _ _ => fun _ _ _ => .fail) (fun _ _ => fun _ _ _ => .fail) (fun _ _ => fun _ _ _ => .fail) (fun _ _ => fun _ _ _ => .fail) (fun _ _ _ => fun _ _ _ => .fail) (fun _ => fun _ _ _ => .fail) (fun k' m k n c => BR (aP (eG k k') (eqI n m)) c .fail) (fun _ => fun _ _ _ => .fail) (fun _ _ _ _ => fun _ _ _ => .fail) (fun _ _ _ _ => fun _ _ _ => .fail) (fun _ _ _ _ _ => fun _ _ _ => .fail) (fun _ => fun _ _ _ => .fail) PUnit.unit (fun _ _ _ _ => PUnit.unit) s
def kbQ (s : SV) : Bool -> R -> R := @SV.rec (fun _ => Bool -> R -> R) (fun _ => PUnit) (fun _ _ => .fail) (fun _ => fun _ _ => .fail) (fun _ _ => fun _ _ => .fail) (fun _ _ => fun _ _ => .fail) (fun _ _ => fun _ _ => .fail) (fun _ _ => fun _ _ => .fail) (fun _ _ _ => fun _ _ => .fail) (fun q p c => BR (eqB p q) c .fail) (fun _ _ => fun _ _ => .fail) (fun _ => fun _ _ => .fail) (fun _ _ _ _ => fun _ _ => .fail) (fun _ _ _ _ => fun _ _ => .fail) (fun _ _ _ _ _ => fun _ _ => .fail) (fun _ => fun _ _ => .fail) PUnit.unit (fun _ _ _ _ => PUnit.unit) s
def ac4 (s : SV) : Nat -> Nat -> R -> R := @SV.rec (fun _ => Nat -> Nat -> R -> R) (fun _ => PUnit) (fun _ _ _ => .fail) (fun _ => fun _ _ _ => .fail) (fun _ _ => fun _ _ _ => .fail) (fun _ _ => fun _ _ _ => .fail) (fun j p i o c => BR (aP (Nat.beq i j) (Nat.beq o p)) c .fail) (fun _ _ => fun _ _ _ => .fail) (fun _ _ _ => fun _ _ _ => .fail) (fun _ => fun _ _ _ => .fail) (fun _ _ => fun _ _ _ => .fail) (fun _ => fun _ _ _ => .fail) (fun _ _ _ _ => fun _ _ _ => .fail) (fun _ _ _ _ => fun _ _ _ => .fail) (fun _ _ _ _ _ => fun _ _ _ => .fail) (fun _ => fun _ _ _ => .fail) PUnit.unit (fun _ _ _ _ => PUnit.unit) s
def nmQ (s : SV) : Nat -> R -> R := @SV.rec (fun _ => Nat -> R -> R) (fun _ => PUnit) (fun _ _ => .fail) (fun _ => fun _ _ => .fail) (fun _ _ => fun _ _ => .fail) (fun _ _ => fun _ _ => .fail) (fun _ _ => fun _ _ => .fail) (fun _ _ => fun _ _ => .fail) (fun _ _ _ => fun _ _ => .fail) (fun _ => fun _ _ => .fail) (fun _ _ => fun _ _ => .fail) (fun j i c => BR (Nat.beq i j) c .fail) (fun _ _ _ _ => fun _ _ => .fail) (fun _ _ _ _ => fun _ _ => .fail) (fun _ _ _ _ _ => fun _ _ => .fail) (fun _ => fun _ _ => .fail) PUnit.unit (fun _ _ _ _ => PUnit.unit) s
def rpQ (s : SV) : Nat -> Nat -> Nat -> Nat -> R -> R := @SV.rec (fun _ => Nat -> Nat -> Nat -> Nat -> R -> R) (fun _ => PUnit) (fun _ _ _ _ _ => .fail) (fun _ => fun _ _ _ _ _ => .fail) (fun _ _ => fun _ _ _ _ _ => .fail) (fun _ _ => fun _ _ _ _ _ => .fail) (fun _ _ => fun _ _ _ _ _ => .fail) (fun _ _ => fun _ _ _ _ _ => .fail) (fun _ _ _ => fun _ _ _ _ _ => .fail) (fun _ => fun _ _ _ _ _ => .fail) (fun _ _ => fun _ _ _ _ _ => .fail) (fun _ => fun _ _ _ _ _ => .fail) (fun i' o' y' z' i o y z c => BR (aP (Nat.beq i i') (aP (Nat.beq o o') (aP (Nat.beq y y') (Nat.beq z z')))) c .fail) (fun _ _ _ _ => fun _ _ _ _ _ => .fail) (fun _ _ _ _ _ => fun _ _ _ _ _ => .fail) (fun _ => fun _ _ _ _ _ => .fail) PUnit.unit (fun _ _ _ _ => PUnit.unit) s
def onQ (a : Option Nat) : Option Nat -> R -> R := @Option.rec Nat (fun _ => Option Nat -> R -> R) (fun b c => @Option.rec Nat (fun _ => R) c (fun _ => .fail) b) (fun i b c => @Option.rec Nat (fun _ => R) .fail (fun j => BR (Nat.beq i j) c .fail) b) a
def slQ (s : SV) : Nat -> Nat -> Nat -> Nat -> Option Nat -> R -> R := @SV.rec (fun _ => Nat -> Nat -> Nat -> Nat -> Option Nat -> R -> R) (fun _ => PUnit) (fun _ _ _ _ _ _ => .fail) (fun _ => fun _ _ _ _ _ _ => .fail) (fun _ _ => fun _ _ _ _ _ _ => .fail) (fun _ _ => fun _ _ _ _ _ _ => .fail) (fun _ _ => fun _ _ _ _ _ _ => .fail) (fun _ _ => fun _ _ _ _ _ _ => .fail) (fun _ _ _ => fun _ _ _ _ _ _ => .fail) (fun _ => fun _ _ _ _ _ _ => .fail) (fun _ _ => fun _ _ _ _ _ _ => .fail) (fun _ => fun _ _ _ _ _ _ => .fail) (fun _ _ _ _ => fun _ _ _ _ _ _ => .fail) (fun _ _ _ _ => fun _ _ _ _ _ _ => .fail) (fun i' o' y' z' k' i o y z k c => BR (aP (Nat.beq i i') (aP (Nat.beq o o') (aP (Nat.beq y y') (Nat.beq z z')))) (onQ k k' c) .fail) (fun _ => fun _ _ _ _ _ _ => .fail) PUnit.unit (fun _ _ _ _ => PUnit.unit) s
def dtQ (s : SV) : Dt -> R -> R := @SV.rec (fun _ => Dt -> R -> R) (fun _ => PUnit) (fun _ _ => .fail) (fun d' d c => jh (.dt d) (.dt d') c) (fun _ _ => fun _ _ => .fail) (fun _ _ => fun _ _ => .fail) (fun _ _ => fun _ _ => .fail) (fun _ _ => fun _ _ => .fail) (fun _ _ _ => fun _ _ => .fail) (fun _ => fun _ _ => .fail) (fun _ _ => fun _ _ => .fail) (fun _ => fun _ _ => .fail) (fun _ _ _ _ => fun _ _ => .fail) (fun _ _ _ _ => fun _ _ => .fail) (fun _ _ _ _ _ => fun _ _ => .fail) (fun _ => fun _ _ => .fail) PUnit.unit (fun _ _ _ _ => PUnit.unit) s
def riQ (s : SV) : IntKind -> Int -> Int -> Int -> R -> R := @SV.rec (fun _ => IntKind -> Int -> Int -> Int -> R -> R) (fun _ => PUnit) (fun _ _ _ _ _ => .fail) (fun _ => fun _ _ _ _ _ => .fail) (fun _ _ => fun _ _ _ _ _ => .fail) (fun _ _ => fun _ _ _ _ _ => .fail) (fun _ _ => fun _ _ _ _ _ => .fail) (fun _ _ => fun _ _ _ _ _ => .fail) (fun _ _ _ => fun _ _ _ _ _ => .fail) (fun _ => fun _ _ _ _ _ => .fail) (fun _ _ => fun _ _ _ _ _ => .fail) (fun _ => fun _ _ _ _ _ => .fail) (fun _ _ _ _ => fun _ _ _ _ _ => .fail) (fun k' a' b' n' k a b n c => BR (aP (eG k k') (aP (eqI a a') (eqI b b'))) (.need (n = n') c) .fail) (fun _ _ _ _ _ => fun _ _ _ _ _ => .fail) (fun _ => fun _ _ _ _ _ => .fail) PUnit.unit (fun _ _ _ _ => PUnit.unit) s
def syQ (s : SV) : ByteArray -> R -> R := @SV.rec (fun _ => ByteArray -> R -> R) (fun _ => PUnit) (fun _ _ => .fail) (fun _ => fun _ _ => .fail) (fun _ _ => fun _ _ => .fail) (fun _ _ => fun _ _ => .fail) (fun _ _ => fun _ _ => .fail) (fun _ _ => fun _ _ => .fail) (fun _ _ _ => fun _ _ => .fail) (fun _ => fun _ _ => .fail) (fun _ _ => fun _ _ => .fail) (fun _ => fun _ _ => .fail) (fun _ _ _ _ => fun _ _ => .fail) (fun _ _ _ _ => fun _ _ => .fail) (fun _ _ _ _ _ => fun _ _ => .fail) (fun t s c => .need (s = t) c) PUnit.unit (fun _ _ _ _ => PUnit.unit) s
def aa5 (s : SV) : SV -> R -> R := @SV.rec (fun _ => SV -> R -> R) (fun _ => PUnit) (fun x c => jh .junk x c) (fun d x c => dtQ x d c) (fun l _ x c => jh (.agg l) x c) (fun l _ x c => jh (.tup l) x c) (fun i o x c => ac4 x i o c) (fun m g x c => jh (.el m g) x c) (fun f l _ x c => jh (.fn f l) x c) (fun p x c => kbQ x p c) (fun k n x c => kiQ x k n c) (fun i x c => nmQ x i c) (fun i o y z x c => rpQ x i o y z c) (fun k a b n x c => riQ x k a b n c) (fun i o y z k x c => slQ x i o y z k c) (fun t x c => syQ x t c) PUnit.unit (fun _ _ _ _ => PUnit.unit) s
def Xq (l : List SV) : List SV -> R -> R := @List.rec SV (fun _ => List SV -> R -> R) (fun m c => @List.rec SV (fun _ => R) c (fun _ _ _ => .fail) m) (fun x _ ih m c => @List.rec SV (fun _ => R) .fail (fun y m _ => aa5 x y (ih m c)) m) l
def agQ (s : SV) : List SV -> R -> R := @SV.rec (fun _ => List SV -> R -> R) (fun _ => PUnit) (fun _ _ => .fail) (fun _ => fun _ _ => .fail) (fun m _ l c => Xq l m c) (fun _ _ => fun _ _ => .fail) (fun _ _ => fun _ _ => .fail) (fun _ _ => fun _ _ => .fail) (fun _ _ _ => fun _ _ => .fail) (fun _ => fun _ _ => .fail) (fun _ _ => fun _ _ => .fail) (fun _ => fun _ _ => .fail) (fun _ _ _ _ => fun _ _ => .fail) (fun _ _ _ _ => fun _ _ => .fail) (fun _ _ _ _ _ => fun _ _ => .fail) (fun _ => fun _ _ => .fail) PUnit.unit (fun _ _ _ _ => PUnit.unit) s
def svS (s : SV) : SV -> R -> R := @SV.rec (fun _ => SV -> R -> R) (fun _ => PUnit) (fun x c => jh .junk x c) (fun d x c => dtQ x d c) (fun l _ x c => agQ x l c) (fun l _ x c => jh (.tup l) x c) (fun i o x c => ac4 x i o c) (fun m g x c => jh (.el m g) x c) (fun f l _ x c => jh (.fn f l) x c) (fun p x c => kbQ x p c) (fun k n x c => kiQ x k n c) (fun i x c => nmQ x i c) (fun i o y z x c => rpQ x i o y z c) (fun k a b n x c => riQ x k a b n c) (fun i o y z k x c => slQ x i o y z k c) (fun t x c => syQ x t c) PUnit.unit (fun _ _ _ _ => PUnit.unit) s
def acE (b : Ob) : Program -> TypeId -> Nat -> R -> (SV -> R) -> R := @Ob.rec (fun _ => Program -> TypeId -> Nat -> R -> (SV -> R) -> R) (fun _ cs P t off g k => oB (ldK P t) .fail g (Kt cs off .fail fun s => k (nKS s))) (fun _ _ _ _ => fun _ _ _ _ _ => .fail) (fun _ => fun _ _ _ _ _ => .fail) (fun _ _ _ => fun _ _ _ _ _ => .fail) (fun _ _ _ => fun _ _ _ _ _ => .fail) (fun _ _ _ _ _ => fun _ _ _ _ _ => .fail) (fun _ _ _ => fun _ _ _ _ _ => .fail) b
def TQ (x : Option Ob) : Program -> TypeId -> Nat -> R -> (SV -> R) -> R := @Option.rec Ob (fun _ => Program -> TypeId -> Nat -> R -> (SV -> R) -> R) (fun _ _ _ _ _ => .fail) acE x
def aaB (b : Ob) : Program -> TypeId -> Nat -> Nat -> Nat -> R -> (SV -> R) -> R := @Ob.rec (fun _ => Program -> TypeId -> Nat -> Nat -> Nat -> R -> (SV -> R) -> R) (fun _ _ => fun _ _ _ _ _ g _ => g) (fun _ _ _ _ => fun _ _ _ _ _ g _ => g) (fun _ => fun _ _ _ _ _ g _ => g) (fun _ _ _ => fun _ _ _ _ _ g _ => g) (fun _ _ _ => fun _ _ _ _ _ g _ => g) (fun _ sz' len tr _ P t idx sz off g k => oB (ldK P t) .fail (szK P t fun n => BR (aP (Nat.beq sz sz') (aP (Nat.ble (Nat.add off n) sz) (Nat.blt idx len))) (k (.agg (oP tr n (Nat.add (Nat.mul idx sz) off)))) .fail) (BR (aP (Nat.beq sz sz') (aP (Nat.blt off sz) (Nat.blt idx len))) (k (nKS (iF tr (Nat.add (Nat.mul idx sz) off)))) .fail)) (fun _ _ _ => fun _ _ _ _ _ g _ => g) b
def Zu (x : Option Ob) : Program -> TypeId -> Nat -> Nat -> Nat -> R -> (SV -> R) -> R := @Option.rec Ob (fun _ => Program -> TypeId -> Nat -> Nat -> Nat -> R -> (SV -> R) -> R) (fun _ _ _ _ _ g _ => g) aaB x
def TW (s : SV) : Program -> TypeId -> OB -> R -> (SV -> R) -> R := @SV.rec (fun _ => Program -> TypeId -> OB -> R -> (SV -> R) -> R) (fun _ => PUnit) (fun _ _ _ g _ => g) (fun _ => fun _ _ _ g _ => g) (fun _ _ => fun _ _ _ g _ => g) (fun _ _ => fun _ _ _ g _ => g) (fun i off P t ob g k => TQ (av ob i) P t off g k) (fun _ _ => fun _ _ _ g _ => g) (fun _ _ _ => fun _ _ _ g _ => g) (fun _ => fun _ _ _ g _ => g) (fun _ _ => fun _ _ _ g _ => g) (fun _ => fun _ _ _ g _ => g) (fun i idx sz off P t ob g k => Zu (av ob i) P t idx sz off g k) (fun _ _ _ _ => fun _ _ _ g _ => g) (fun _ _ _ _ _ => fun _ _ _ g _ => g) (fun _ => fun _ _ _ g _ => g) PUnit.unit (fun _ _ _ _ => PUnit.unit) s
def Zy (s : SV) : Nat -> Bool := @SV.rec (fun _ => Nat -> Bool) (fun _ => PUnit) (fun _ => true) (fun _ => fun _ => true) (fun _ _ => fun _ => true) (fun _ _ => fun _ => true) (fun i _ n => Nat.blt i n) (fun _ _ => fun _ => true) (fun _ _ _ => fun _ => true) (fun _ => fun _ => true) (fun _ _ => fun _ => true) (fun _ => fun _ => true) (fun i _ _ _ n => Nat.blt i n) (fun _ _ _ _ => fun _ => true) (fun _ _ _ _ _ => fun _ => true) (fun _ => fun _ => true) PUnit.unit (fun _ _ _ _ => PUnit.unit) s
def stB (o : Oper) : Option (TypeId × Operand) := match o.op with
 | .load t x => some (t, x)
 | _ => none
def Un (l : List FSt) : Nat -> R -> (FSt -> R) -> R := @List.rec FSt (fun _ => Nat -> R -> (FSt -> R) -> R) (fun _ f _ => f) (fun s _ ih n f k => @Nat.rec (fun _ => R) (k s) (fun m _ => ih m f k) n) l
def Fz (P : Program) (fl : Nat) (o : Oper) (s : FSt) (y : SV) (c : R) (sq : FSt) : R := match cxE P (evG fl s.sl s.lo) (av sq.ob) 0 o with
 | .ret r => svQ r.sv y c
 | _ => .fail
def aa2 (P : Program) (fl : Nat) (o : Oper) (s : FSt) (y : SV) (c : R) (tx : TypeId × Operand) (sq : FSt) : R := TW (evG fl s.sl s.lo tx.2) P tx.1 sq.ob (Fz P fl o s y c sq) (fun z => svS z y c)
def stQ (P : Program) (fl : Nat) (sts : List FSt) (o : Oper) (s : FSt) (y : SV) (q : Nat) (c : R) : R :=
 Un sts q .fail (@Option.rec (TypeId × Operand) (fun _ => FSt -> R) (Fz P fl o s y c) (aa2 P fl o s y c) (stB o))
def qsQ (P : Program) (fl : Nat) (sts : List FSt) (o : Oper) (s : FSt) (y : SV) (qs : List Nat) (c : R) : R := @List.rec Nat (fun _ => R) c (fun q _ ih => stQ P fl sts o s y q ih) qs
def tgQ (fl : Nat) (nob : Nat) (o : Oper) (s : FSt) : Bool := @Option.rec (TypeId × Operand) (fun _ => Bool) ((tgt (evG fl s.sl s.lo) o).all fun i => Nat.blt i nob) (fun tx => Zy (evG fl s.sl s.lo tx.2) nob) (stB o)
def skQ (ops : Array Oper) (fl : Nat) (o : Oper) (s : FSt) : Bool := @Option.rec (Nat × Bool) (fun _ => Bool) false (fun _ => iT ops o (s.cs fl)) o.guard
def Uw (P : Program) (fl : Nat) (ops : Array Oper) (sts : List FSt) (nob : Nat) (x : Nat × Bool × List Nat) (c : R) (o : Oper) : R :=
 Un sts x.1 .fail fun s => BR (skQ ops fl o s) (Un sts (Nat.succ x.1) .fail fun _ => c) (BR (tgQ fl (lim x nob s.nb) o s) (Un sts (Nat.succ x.1) .fail fun s' => @Option.rec Nat (fun _ => R) .fail (fun d => qsQ P fl sts o s (view fl s'.sl s'.lo d) x.2.2 c) o.dst) .fail)
def WT (P : Program) (fl : Nat) (ops : Array Oper) (sts : List FSt) (nob : Nat) (x : Nat × Bool × List Nat) (c : R) : R := @Option.rec Oper (fun _ => R) .fail (Uw P fl ops sts nob x c) (ops[x.1]?)
def Vw (P : Program) (fl : Nat) (ops : Array Oper) (sts : List FSt) (nob : Nat) (l : List (Nat × Bool × List Nat)) (c : R) : R := @List.rec (Nat × Bool × List Nat) (fun _ => R) c (fun x _ ih => WT P fl ops sts nob x ih) l
abbrev KT := List FSt -> R
def QF (P : Program) (X : EX) (fl : Nat) (w : Nat) (wd : List Nat) (ops : Array Oper) (l : List Oper) : Nat -> FSt -> List FSt -> KT -> R :=
 @List.rec Oper (fun _ => Nat -> FSt -> List FSt -> KT -> R) (fun _ s acc k => k (s :: acc)) (fun o _ ih i s acc k =>
    BR (jG i wd)
     (BR (Nat.ble (s.nb + w) X.top) (fN (s.nb + w) fun n => stG P ⟨X.I, n, X.base, X.W⟩ fl ops o (fun sl lo ob _ _ => ih (Nat.succ i) ⟨sl, lo, ob, n⟩ (s :: acc) k) s.sl s.lo s.ob s.nb (fun _ _ _ => .fail)) .fail)
     (stG P X fl ops o (fun sl lo ob nb _ => ih (Nat.succ i) ⟨sl, lo, ob, nb⟩ (s :: acc) k) s.sl s.lo s.ob s.nb (fun _ _ _ => .fail))) l
def Zr (P : Program) (fl : Nat) (ops : Array Oper) (ld : List (Nat × Bool × List Nat)) (nob : Nat) (kn : KS) (sts : List FSt) : R := match sts with
 | s :: acc => Vw P fl ops (s :: acc).reverse nob ld (kn s.sl s.ob s.nb)
 | [] => .fail
def SS (rid : Nat) (ops : Array Oper) : CF := fun P X fl N fu kn ke kr sl ob nb => match gZ ops with
 | some ⟨[], []⟩ => Uz P X fl ops ops.toList sl .nil ob nb kn
 | some ri => QF P X fl (X.W rid) ri.wd ops ops.toList 0 ⟨sl, .nil, ob, nb⟩ [] (Zr P fl ops ri.ld nb kn)
 | none => .fail
def OU (rid : Nat) (ops : Array Oper) (dr : Bool) : CF := fun P X fl N fu kn ke kr sl ob nb =>
 BR (okD N ops) (BR dr (SS rid ops P X fl N fu kn ke kr sl ob nb) (Uz P X fl ops ops.toList sl .nil ob nb kn)) .fail
def PI (c : Code) : Program -> EX -> Nat -> Nat -> Nat -> Lo -> CG := match c with
 | .region rid ops false => match ops.toList with
   | _ :: l => fun P X fl N fu lo kn ke kr sl ob nb => BR (okD N ops) (Uz P X fl ops l sl lo ob nb kn) .fail
   | [] => noG
 | _ => noG
def T9 (f : CG) (n : Nat) : CG := @Nat.rec (fun _ => CG) (fun _ _ _ _ _ _ => .fail) (fun _ ih kn ke kr => f (ih kn ke kr) ke kr) n
def Ox (f : Nat -> R -> R) (u : R) (n : Nat) : R := @Nat.rec (fun _ => R) u (fun k ih => f k ih) n
def uL (fl : Nat) (sl : Tr SV) (l : List Nat) : Tr SV := @List.rec Nat (fun _ => Tr SV) sl (fun t _ ih => BTS (gH fl t) (wV ih t .junk) ih) l
def aaG (c : Code) (tl : Program -> EX -> Nat -> Nat -> Nat -> Lo -> CG) (t : Tmp) (d : Option Tmp) : CF := fun P X fl N fu kn ke kr sl ob nb => BR ((bK c).all fun t => Nat.blt t 16777215) (
 match view fl sl .nil t with
 | .ptr q 0 => match av ob q with
   | some (.itx m n _) => match av ob m with
     | some (.mp kt vt l) =>
       BR (Nat.beq n l.length && (Nat.ble X.base q && (Nat.ble X.base nb && (Nat.blt q nb && (Nat.blt q X.top && (gI N d && !jG t (bK c)))))))
        (Ox (fun k r => IB fl d (fun sl lo ob nb kn => tl P ⟨X.I, X.top, nb, X.W⟩ fl N fu lo kn (fun _ _ _ _ => .fail) (fun _ _ _ => .fail) sl ob nb) (uL fl sl (bK c)) .nil
             (.tup [.kb true, gW kt (cB kt vt l k).1, gW vt (cB kt vt l k).2]) (mO ob q (some (.itx m n (some k)))) nb (fun _ _ _ => r))
           (IB fl d (fun sl lo ob nb kn => tl P X fl N fu lo kn ke kr sl ob nb) (uL fl sl (bK c)) .nil (.tup [.kb false]) (mO ob q (some (.itx m n none))) nb (fun _ _ _ => .fail)) n) .fail
     | _ => .fail
   | _ => .fail
 | _ => .fail) .fail
def TY (c : Code) (p : CP) : CF := match qE c with
 | some (t, d) => aaG c p.g t d
 | none => fun P X fl N fu => T9 (p.f P X fl N fu) fu
def Sz (c : Operand) (a b : CP) : CF := fun P X fl N fu kn ke kr sl ob nb => brE (evG fl sl .nil c) (a.f P X fl N fu kn ke kr sl ob nb) (b.f P X fl N fu kn ke kr sl ob nb) .fail
def cg (c : Code) : CP := @Code.rec (fun _ => CP)
 ⟨fun P X fl N fu kn ke kr => kn, noG⟩
 (fun rid ops dr => ⟨OU rid ops dr, noG⟩)
 (fun a _ x y => ⟨fun P X fl N fu kn ke kr => x.f P X fl N fu (y.f P X fl N fu kn ke kr) ke kr, fun P X fl N fu lo kn ke kr => PI a P X fl N fu lo (y.f P X fl N fu kn ke kr) ke kr⟩)
 (fun c _ _ x y => ⟨Sz c x y, noG⟩)
 (fun id _ x => ⟨fun P X fl N fu kn ke kr => x.f P X fl N fu kn (fun k sl ob nb => BR (Nat.beq k id) (kn sl ob nb) (ke k sl ob nb)) kr, noG⟩)
 (fun c x => ⟨TY c x, noG⟩)
 (fun _ _ _ _ _ _ => noC)
 (fun id => ⟨fun P X fl N fu kn ke kr => ke id, noG⟩)
 (fun _ _ => noC)
 (fun _ => noC)
 (fun _ => noC)
 ⟨fun P X fl N fu kn ke kr => kr, noG⟩
 (fun _ => noC)
 c
def Ti (P : Program) (fl : Nat) (sl : Tr SV) (ob : OB) (r : ResultVar) (k : SV -> R) : R := match r with
 | .tmp t => k (nK (view fl sl .nil t))
 | .cell a t => AV (fV P (av ob) t (view fl sl .nil a)) fun s => k (nK s)
def Tj (P : Program) (fl : Nat) (sl : Tr SV) (ob : OB) (l : List ResultVar) : (List SV -> R) -> R := @List.rec ResultVar (fun _ => (List SV -> R) -> R) (fun f => f []) (fun r _ ih f => Ti P fl sl ob r fun s => ih fun l => f (s :: l)) l
def oneG (l : List SV) : SV := match l with
 | [s] => s
 | l => .tup l
def G7 (P : Program) (fl : Nat) (fn : Func) (sl : Tr SV) (ob : OB) (k : SV -> R) : R := Tj P fl sl ob fn.results.toList fun l => k (oneG l)
def qP (l : List SV) : Nat -> Tr SV -> Tr SV := @List.rec SV (fun _ => Nat -> Tr SV -> Tr SV) (fun _ t => t) (fun s _ ih i t => ih (Nat.succ i) (wV t i s)) l
def NU (P : Program) (fl : FuncId -> Nat) (win : FuncId -> Nat -> Nat -> Nat) (fu n : Nat) (ih : II) (top base : Nat) (f : FuncId) (al : List SV) (ob : OB) (nb : Nat) (k : KK) : R := match P.funcs[f]? with
 | some fn => match fn.body with
   | some c => BR (callable P f && (Nat.ble al.length fn.ntmps && Nat.ble fn.ntmps 16777215))
     ((cg c).f P ⟨ih, top, base, win f n⟩ (fl f) fn.ntmps fu (fun sl ob nb => G7 P (fl f) fn sl ob fun s => k s ob nb) (fun _ _ _ _ => .fail) (fun sl ob nb => G7 P (fl f) fn sl ob fun s => k s ob nb) (qP al 0 .nil) ob nb) .fail
   | none => .fail
 | none => .fail
def zO (P : Program) (F : FuncId -> Option Summ) (fl : FuncId -> Nat) (win : FuncId -> Nat -> Nat -> Nat) (fu : Nat) (n : Nat) : II := @Nat.rec (fun _ => II) (fun _ _ _ _ _ _ _ => .fail)
 (fun n ih top base f al ob nb k => match F f with
    | some s => tX ⟨ih, top, base, win f n⟩ (s.run (al.map nrm) (av ob) nb f) ob nb k
    | none => NU P fl win fu n ih top base f al ob nb k) n
end
end Rx
