/- Rx, part X4: code and functions, for the kernel. -/
import Derived.Test.YtkbdcpkbmfegdaaGreatDoorSRxXb
set_option linter.unusedSectionVars false
set_option linter.unusedSimpArgs false
set_option linter.unusedVariables false
namespace Rx
open Go
variable [Glob]
noncomputable section
abbrev CG := KS -> (Nat -> KS) -> KS -> Tr SV -> OB -> Nat -> R
abbrev CF := Program -> EX -> Nat -> Nat -> Nat -> CG
structure CP where
 f : CF
 g : Program -> EX -> Nat -> Nat -> Nat -> Lo -> CG
def noG : Program -> EX -> Nat -> Nat -> Nat -> Lo -> CG := fun _ _ _ _ _ _ _ _ _ _ _ _ => .fail
def noC : CP := ⟨fun _ _ _ _ _ _ _ _ _ _ _ => .fail, noG⟩
structure FSt where
 sl : Tr SV
 lo : Lo
 ob : OB
 nb : Nat
def FSt.cs (fl : Nat) (s : FSt) : CS := ⟨view fl s.sl s.lo, ⟨ay s.ob, s.nb⟩⟩
def eqB (a b : Bool) : Bool := @Bool.rec (fun _ => Bool) (nB b) b a
def iR (a b : SV) (c : R) : R :=
 match a, b with
 | .ki k n, .ki k' m => BR (dR k k' && eqI n m) c .fail
 | .kb p, .kb q => BR (eqB p q) c .fail
 | .ptr i o, .ptr j p => BR (Nat.beq i j && Nat.beq o p) c .fail
 | .rp i o y z, .rp i' o' y' z' => BR (Nat.beq i i' && (Nat.beq o o' && (Nat.beq y y' && Nat.beq z z'))) c .fail
 | .sl i o y z none, .sl i' o' y' z' none => BR (Nat.beq i i' && (Nat.beq o o' && (Nat.beq y y' && Nat.beq z z'))) c .fail
 | .sl i o y z (some k), .sl i' o' y' z' (some k') => BR (Nat.beq i i' && (Nat.beq o o' && (Nat.beq y y' && (Nat.beq z z' && Nat.beq k k')))) c .fail
 | .dt (.cell (.slice none 0 0)), .dt (.cell (.slice none 0 0)) => c
 | .dt (.cell (.pointer none)), .dt (.cell (.pointer none)) => c
 | .dt (.cell (.string s)), .dt (.cell (.string t)) => BR (s.data.toList == t.data.toList) c .fail
 | .nm i, .nm j => BR (Nat.beq i j) c .fail
 | .dt (.cell (.int k n)), .dt (.cell (.int k' m)) => BR (dR k k' && eqI n m) c .fail
 | .dt (.cell (.bool p)), .dt (.cell (.bool q)) => BR (eqB p q) c .fail
 | .ri k a b n, .ri k' a' b' n' => BR (dR k k' && (eqI a a' && eqI b b')) (.need (n = n') c) .fail
 | .sy s, .sy t => .need (s = t) c
 | a, b => .need (a = b) c
def aaB (l : List SV) : List SV -> R -> R := @List.rec SV (fun _ => List SV -> R -> R) (fun m c => match m with
    | [] => c
    | _ => .fail) (fun x _ ih m c => match m with
    | [] => .fail
    | y :: m => iR x y (ih m c)) l
def svQ (a b : SV) (c : R) : R := match a, b with
 | .agg l, .agg m => aaB l m c
 | a, b => iR a b c
def kiQ (s : SV) : IntKind -> Int -> R -> R := @SV.rec (fun _ => IntKind -> Int -> R -> R) (fun _ => PUnit) (fun _ _ _ => .fail) (fun _ => fun _ _ _ => .fail) (fun _ _ => fun _ _ _ => .fail) (fun _ _ => fun _ _ _ => .fail) (fun _ _ => fun _ _ _ => .fail) (fun _ _ => fun _ _ _ => .fail) (fun _ _ _ => fun _ _ _ => .fail) (fun _ => fun _ _ _ => .fail) (fun k' m k n c => BR (aK (dR k k') (eqI n m)) c .fail) (fun _ => fun _ _ _ => .fail) (fun _ _ _ _ => fun _ _ _ => .fail) (fun _ _ _ _ => fun _ _ _ => .fail) (fun _ _ _ _ _ => fun _ _ _ => .fail) (fun _ => fun _ _ _ => .fail) PUnit.unit (fun _ _ _ _ => PUnit.unit) s
def kbQ (s : SV) : Bool -> R -> R := @SV.rec (fun _ => Bool -> R -> R) (fun _ => PUnit) (fun _ _ => .fail) (fun _ => fun _ _ => .fail) (fun _ _ => fun _ _ => .fail) (fun _ _ => fun _ _ => .fail) (fun _ _ => fun _ _ => .fail) (fun _ _ => fun _ _ => .fail) (fun _ _ _ => fun _ _ => .fail) (fun q p c => BR (eqB p q) c .fail) (fun _ _ => fun _ _ => .fail) (fun _ => fun _ _ => .fail) (fun _ _ _ _ => fun _ _ => .fail) (fun _ _ _ _ => fun _ _ => .fail) (fun _ _ _ _ _ => fun _ _ => .fail) (fun _ => fun _ _ => .fail) PUnit.unit (fun _ _ _ _ => PUnit.unit) s
def afk (s : SV) : Nat -> Nat -> R -> R := @SV.rec (fun _ => Nat -> Nat -> R -> R) (fun _ => PUnit) (fun _ _ _ => .fail) (fun _ => fun _ _ _ => .fail) (fun _ _ => fun _ _ _ => .fail) (fun _ _ => fun _ _ _ => .fail) (fun j p i o c => BR (aK (Nat.beq i j) (Nat.beq o p)) c .fail) (fun _ _ => fun _ _ _ => .fail) (fun _ _ _ => fun _ _ _ => .fail) (fun _ => fun _ _ _ => .fail) (fun _ _ => fun _ _ _ => .fail) (fun _ => fun _ _ _ => .fail) (fun _ _ _ _ => fun _ _ _ => .fail) (fun _ _ _ _ => fun _ _ _ => .fail) (fun _ _ _ _ _ => fun _ _ _ => .fail) (fun _ => fun _ _ _ => .fail) PUnit.unit (fun _ _ _ _ => PUnit.unit) s
def nmQ (s : SV) : Nat -> R -> R := @SV.rec (fun _ => Nat -> R -> R) (fun _ => PUnit) (fun _ _ => .fail) (fun _ => fun _ _ => .fail) (fun _ _ => fun _ _ => .fail) (fun _ _ => fun _ _ => .fail) (fun _ _ => fun _ _ => .fail) (fun _ _ => fun _ _ => .fail) (fun _ _ _ => fun _ _ => .fail) (fun _ => fun _ _ => .fail) (fun _ _ => fun _ _ => .fail) (fun j i c => BR (Nat.beq i j) c .fail) (fun _ _ _ _ => fun _ _ => .fail) (fun _ _ _ _ => fun _ _ => .fail) (fun _ _ _ _ _ => fun _ _ => .fail) (fun _ => fun _ _ => .fail) PUnit.unit (fun _ _ _ _ => PUnit.unit) s
def rpQ (s : SV) : Nat -> Nat -> Nat -> Nat -> R -> R := @SV.rec (fun _ => Nat -> Nat -> Nat -> Nat -> R -> R) (fun _ => PUnit) (fun _ _ _ _ _ => .fail) (fun _ => fun _ _ _ _ _ => .fail) (fun _ _ => fun _ _ _ _ _ => .fail) (fun _ _ => fun _ _ _ _ _ => .fail) (fun _ _ => fun _ _ _ _ _ => .fail) (fun _ _ => fun _ _ _ _ _ => .fail) (fun _ _ _ => fun _ _ _ _ _ => .fail) (fun _ => fun _ _ _ _ _ => .fail) (fun _ _ => fun _ _ _ _ _ => .fail) (fun _ => fun _ _ _ _ _ => .fail) (fun i' o' y' z' i o y z c => BR (aK (Nat.beq i i') (aK (Nat.beq o o') (aK (Nat.beq y y') (Nat.beq z z')))) c .fail) (fun _ _ _ _ => fun _ _ _ _ _ => .fail) (fun _ _ _ _ _ => fun _ _ _ _ _ => .fail) (fun _ => fun _ _ _ _ _ => .fail) PUnit.unit (fun _ _ _ _ => PUnit.unit) s
def onQ (a : Option Nat) : Option Nat -> R -> R := @Option.rec Nat (fun _ => Option Nat -> R -> R) (fun b c => @Option.rec Nat (fun _ => R) c (fun _ => .fail) b) (fun i b c => @Option.rec Nat (fun _ => R) .fail (fun j => BR (Nat.beq i j) c .fail) b) a
def slQ (s : SV) : Nat -> Nat -> Nat -> Nat -> Option Nat -> R -> R := @SV.rec (fun _ => Nat -> Nat -> Nat -> Nat -> Option Nat -> R -> R) (fun _ => PUnit) (fun _ _ _ _ _ _ => .fail) (fun _ => fun _ _ _ _ _ _ => .fail) (fun _ _ => fun _ _ _ _ _ _ => .fail) (fun _ _ => fun _ _ _ _ _ _ => .fail) (fun _ _ => fun _ _ _ _ _ _ => .fail) (fun _ _ => fun _ _ _ _ _ _ => .fail) (fun _ _ _ => fun _ _ _ _ _ _ => .fail) (fun _ => fun _ _ _ _ _ _ => .fail) (fun _ _ => fun _ _ _ _ _ _ => .fail) (fun _ => fun _ _ _ _ _ _ => .fail) (fun _ _ _ _ => fun _ _ _ _ _ _ => .fail) (fun _ _ _ _ => fun _ _ _ _ _ _ => .fail) (fun i' o' y' z' k' i o y z k c => BR (aK (Nat.beq i i') (aK (Nat.beq o o') (aK (Nat.beq y y') (Nat.beq z z')))) (onQ k k' c) .fail) (fun _ => fun _ _ _ _ _ _ => .fail) PUnit.unit (fun _ _ _ _ => PUnit.unit) s
def dtQ (s : SV) : Dt -> R -> R := @SV.rec (fun _ => Dt -> R -> R) (fun _ => PUnit) (fun _ _ => .fail) (fun d' d c => iR (.dt d) (.dt d') c) (fun _ _ => fun _ _ => .fail) (fun _ _ => fun _ _ => .fail) (fun _ _ => fun _ _ => .fail) (fun _ _ => fun _ _ => .fail) (fun _ _ _ => fun _ _ => .fail) (fun _ => fun _ _ => .fail) (fun _ _ => fun _ _ => .fail) (fun _ => fun _ _ => .fail) (fun _ _ _ _ => fun _ _ => .fail) (fun _ _ _ _ => fun _ _ => .fail) (fun _ _ _ _ _ => fun _ _ => .fail) (fun _ => fun _ _ => .fail) PUnit.unit (fun _ _ _ _ => PUnit.unit) s
def riQ (s : SV) : IntKind -> Int -> Int -> Int -> R -> R := @SV.rec (fun _ => IntKind -> Int -> Int -> Int -> R -> R) (fun _ => PUnit) (fun _ _ _ _ _ => .fail) (fun _ => fun _ _ _ _ _ => .fail) (fun _ _ => fun _ _ _ _ _ => .fail) (fun _ _ => fun _ _ _ _ _ => .fail) (fun _ _ => fun _ _ _ _ _ => .fail) (fun _ _ => fun _ _ _ _ _ => .fail) (fun _ _ _ => fun _ _ _ _ _ => .fail) (fun _ => fun _ _ _ _ _ => .fail) (fun _ _ => fun _ _ _ _ _ => .fail) (fun _ => fun _ _ _ _ _ => .fail) (fun _ _ _ _ => fun _ _ _ _ _ => .fail) (fun k' a' b' n' k a b n c => BR (aK (dR k k') (aK (eqI a a') (eqI b b'))) (.need (n = n') c) .fail) (fun _ _ _ _ _ => fun _ _ _ _ _ => .fail) (fun _ => fun _ _ _ _ _ => .fail) PUnit.unit (fun _ _ _ _ => PUnit.unit) s
def syQ (s : SV) : ByteArray -> R -> R := @SV.rec (fun _ => ByteArray -> R -> R) (fun _ => PUnit) (fun _ _ => .fail) (fun _ => fun _ _ => .fail) (fun _ _ => fun _ _ => .fail) (fun _ _ => fun _ _ => .fail) (fun _ _ => fun _ _ => .fail) (fun _ _ => fun _ _ => .fail) (fun _ _ _ => fun _ _ => .fail) (fun _ => fun _ _ => .fail) (fun _ _ => fun _ _ => .fail) (fun _ => fun _ _ => .fail) (fun _ _ _ _ => fun _ _ => .fail) (fun _ _ _ _ => fun _ _ => .fail) (fun _ _ _ _ _ => fun _ _ => .fail) (fun t s c => .need (s = t) c) PUnit.unit (fun _ _ _ _ => PUnit.unit) s
def aaC (s : SV) : SV -> R -> R := @SV.rec (fun _ => SV -> R -> R) (fun _ => PUnit) (fun x c => iR .junk x c) (fun d x c => dtQ x d c) (fun l _ x c => iR (.agg l) x c) (fun l _ x c => iR (.tup l) x c) (fun i o x c => afk x i o c) (fun m g x c => iR (.el m g) x c) (fun f l _ x c => iR (.fn f l) x c) (fun p x c => kbQ x p c) (fun k n x c => kiQ x k n c) (fun i x c => nmQ x i c) (fun i o y z x c => rpQ x i o y z c) (fun k a b n x c => riQ x k a b n c) (fun i o y z k x c => slQ x i o y z k c) (fun t x c => syQ x t c) PUnit.unit (fun _ _ _ _ => PUnit.unit) s
def Xe (l : List SV) : List SV -> R -> R := @List.rec SV (fun _ => List SV -> R -> R) (fun m c => @List.rec SV (fun _ => R) c (fun _ _ _ => .fail) m) (fun x _ ih m c => @List.rec SV (fun _ => R) .fail (fun y m _ => aaC x y (ih m c)) m) l
def agQ (s : SV) : List SV -> R -> R := @SV.rec (fun _ => List SV -> R -> R) (fun _ => PUnit) (fun _ _ => .fail) (fun _ => fun _ _ => .fail) (fun m _ l c => Xe l m c) (fun _ _ => fun _ _ => .fail) (fun _ _ => fun _ _ => .fail) (fun _ _ => fun _ _ => .fail) (fun _ _ _ => fun _ _ => .fail) (fun _ => fun _ _ => .fail) (fun _ _ => fun _ _ => .fail) (fun _ => fun _ _ => .fail) (fun _ _ _ _ => fun _ _ => .fail) (fun _ _ _ _ => fun _ _ => .fail) (fun _ _ _ _ _ => fun _ _ => .fail) (fun _ => fun _ _ => .fail) PUnit.unit (fun _ _ _ _ => PUnit.unit) s
def svS (s : SV) : SV -> R -> R := @SV.rec (fun _ => SV -> R -> R) (fun _ => PUnit) (fun x c => iR .junk x c) (fun d x c => dtQ x d c) (fun l _ x c => agQ x l c) (fun l _ x c => iR (.tup l) x c) (fun i o x c => afk x i o c) (fun m g x c => iR (.el m g) x c) (fun f l _ x c => iR (.fn f l) x c) (fun p x c => kbQ x p c) (fun k n x c => kiQ x k n c) (fun i x c => nmQ x i c) (fun i o y z x c => rpQ x i o y z c) (fun k a b n x c => riQ x k a b n c) (fun i o y z k x c => slQ x i o y z k c) (fun t x c => syQ x t c) PUnit.unit (fun _ _ _ _ => PUnit.unit) s
def ae9 (b : Ob) : Program -> TypeId -> Nat -> R -> (SV -> R) -> R := @Ob.rec (fun _ => Program -> TypeId -> Nat -> R -> (SV -> R) -> R) (fun _ cs P t off g k => oB (ldK P t) .fail g (Je cs off .fail fun s => k (nKS s))) (fun _ _ _ _ => fun _ _ _ _ _ => .fail) (fun _ => fun _ _ _ _ _ => .fail) (fun _ _ _ => fun _ _ _ _ _ => .fail) (fun _ _ _ => fun _ _ _ _ _ => .fail) (fun _ _ _ _ _ => fun _ _ _ _ _ => .fail) (fun _ _ _ => fun _ _ _ _ _ => .fail) b
def R8 (x : Option Ob) : Program -> TypeId -> Nat -> R -> (SV -> R) -> R := @Option.rec Ob (fun _ => Program -> TypeId -> Nat -> R -> (SV -> R) -> R) (fun _ _ _ _ _ => .fail) ae9 x
def Z9 (b : Ob) : Program -> TypeId -> Nat -> Nat -> Nat -> R -> (SV -> R) -> R := @Ob.rec (fun _ => Program -> TypeId -> Nat -> Nat -> Nat -> R -> (SV -> R) -> R) (fun _ _ => fun _ _ _ _ _ g _ => g) (fun _ _ _ _ => fun _ _ _ _ _ g _ => g) (fun _ => fun _ _ _ _ _ g _ => g) (fun _ _ _ => fun _ _ _ _ _ g _ => g) (fun _ _ _ => fun _ _ _ _ _ g _ => g) (fun _ sz' len tr _ P t idx sz off g k => oB (ldK P t) .fail (szK P t fun n => BR (aK (Nat.beq sz sz') (aK (Nat.ble (Nat.add off n) sz) (Nat.blt idx len))) (k (.agg (nH tr n (Nat.add (Nat.mul idx sz) off)))) .fail) (BR (aK (Nat.beq sz sz') (aK (Nat.blt off sz) (Nat.blt idx len))) (k (nKS (gX tr (Nat.add (Nat.mul idx sz) off)))) .fail)) (fun _ _ _ => fun _ _ _ _ _ g _ => g) b
def XH (x : Option Ob) : Program -> TypeId -> Nat -> Nat -> Nat -> R -> (SV -> R) -> R := @Option.rec Ob (fun _ => Program -> TypeId -> Nat -> Nat -> Nat -> R -> (SV -> R) -> R) (fun _ _ _ _ _ g _ => g) Z9 x
def Si (s : SV) : Program -> TypeId -> OB -> R -> (SV -> R) -> R := @SV.rec (fun _ => Program -> TypeId -> OB -> R -> (SV -> R) -> R) (fun _ => PUnit) (fun _ _ _ g _ => g) (fun _ => fun _ _ _ g _ => g) (fun _ _ => fun _ _ _ g _ => g) (fun _ _ => fun _ _ _ g _ => g) (fun i off P t ob g k => R8 (ay ob i) P t off g k) (fun _ _ => fun _ _ _ g _ => g) (fun _ _ _ => fun _ _ _ g _ => g) (fun _ => fun _ _ _ g _ => g) (fun _ _ => fun _ _ _ g _ => g) (fun _ => fun _ _ _ g _ => g) (fun i idx sz off P t ob g k => XH (ay ob i) P t idx sz off g k) (fun _ _ _ _ => fun _ _ _ g _ => g) (fun _ _ _ _ _ => fun _ _ _ g _ => g) (fun _ => fun _ _ _ g _ => g) PUnit.unit (fun _ _ _ _ => PUnit.unit) s
def XJ (s : SV) : Nat -> Bool := @SV.rec (fun _ => Nat -> Bool) (fun _ => PUnit) (fun _ => true) (fun _ => fun _ => true) (fun _ _ => fun _ => true) (fun _ _ => fun _ => true) (fun i _ n => Nat.blt i n) (fun _ _ => fun _ => true) (fun _ _ _ => fun _ => true) (fun _ => fun _ => true) (fun _ _ => fun _ => true) (fun _ => fun _ => true) (fun i _ _ _ n => Nat.blt i n) (fun _ _ _ _ => fun _ => true) (fun _ _ _ _ _ => fun _ => true) (fun _ => fun _ => true) PUnit.unit (fun _ _ _ _ => PUnit.unit) s
def stB (o : Oper) : Option (TypeId × Operand) := match o.op with
 | .load t x => some (t, x)
 | _ => none
def SF (l : List FSt) : Nat -> R -> (FSt -> R) -> R := @List.rec FSt (fun _ => Nat -> R -> (FSt -> R) -> R) (fun _ f _ => f) (fun s _ ih n f k => @Nat.rec (fun _ => R) (k s) (fun m _ => ih m f k) n) l
def EH (P : Program) (fl : Nat) (o : Oper) (s : FSt) (y : SV) (c : R) (sq : FSt) : R := match cxE P (evG fl s.sl s.lo) (ay sq.ob) 0 o with
 | .ret r => svQ r.sv y c
 | _ => .fail
def aaz (P : Program) (fl : Nat) (o : Oper) (s : FSt) (y : SV) (c : R) (tx : TypeId × Operand) (sq : FSt) : R := Si (evG fl s.sl s.lo tx.2) P tx.1 sq.ob (EH P fl o s y c sq) (fun z => svS z y c)
def stQ (P : Program) (fl : Nat) (sts : List FSt) (o : Oper) (s : FSt) (y : SV) (q : Nat) (c : R) : R :=
 SF sts q .fail (@Option.rec (TypeId × Operand) (fun _ => FSt -> R) (EH P fl o s y c) (aaz P fl o s y c) (stB o))
def qsQ (P : Program) (fl : Nat) (sts : List FSt) (o : Oper) (s : FSt) (y : SV) (qs : List Nat) (c : R) : R := @List.rec Nat (fun _ => R) c (fun q _ ih => stQ P fl sts o s y q ih) qs
def tgQ (fl : Nat) (nob : Nat) (o : Oper) (s : FSt) : Bool := @Option.rec (TypeId × Operand) (fun _ => Bool) ((tgt (evG fl s.sl s.lo) o).all fun i => Nat.blt i nob) (fun tx => XJ (evG fl s.sl s.lo tx.2) nob) (stB o)
def skQ (ops : Array Oper) (fl : Nat) (o : Oper) (s : FSt) : Bool := @Option.rec (Nat × Bool) (fun _ => Bool) false (fun _ => iH ops o (s.cs fl)) o.guard
def SN (P : Program) (fl : Nat) (ops : Array Oper) (sts : List FSt) (nob : Nat) (x : Nat × Bool × List Nat) (c : R) (o : Oper) : R :=
 SF sts x.1 .fail fun s => BR (skQ ops fl o s) (SF sts (Nat.succ x.1) .fail fun _ => c) (BR (tgQ fl (lim x nob s.nb) o s) (SF sts (Nat.succ x.1) .fail fun s' => @Option.rec Nat (fun _ => R) .fail (fun d => qsQ P fl sts o s (view fl s'.sl s'.lo d) x.2.2 c) o.dst) .fail)
def WE (P : Program) (fl : Nat) (ops : Array Oper) (sts : List FSt) (nob : Nat) (x : Nat × Bool × List Nat) (c : R) : R := @Option.rec Oper (fun _ => R) .fail (SN P fl ops sts nob x c) (ops[x.1]?)
def Vx (P : Program) (fl : Nat) (ops : Array Oper) (sts : List FSt) (nob : Nat) (l : List (Nat × Bool × List Nat)) (c : R) : R := @List.rec (Nat × Bool × List Nat) (fun _ => R) c (fun x _ ih => WE P fl ops sts nob x ih) l
abbrev KT := List FSt -> R
def Qa (P : Program) (X : EX) (fl : Nat) (w : Nat) (wd : List Nat) (ops : Array Oper) (l : List Oper) : Nat -> FSt -> List FSt -> KT -> R :=
 @List.rec Oper (fun _ => Nat -> FSt -> List FSt -> KT -> R) (fun _ s acc k => k (s :: acc)) (fun o _ ih i s acc k =>
    BR (jk i wd)
     (BR (Nat.ble (s.nb + w) X.top) (fN (s.nb + w) fun n => stG P ⟨X.I, n, X.base, X.W⟩ fl ops o (fun sl lo ob _ _ => ih (Nat.succ i) ⟨sl, lo, ob, n⟩ (s :: acc) k) s.sl s.lo s.ob s.nb (fun _ _ _ => .fail)) .fail)
     (stG P X fl ops o (fun sl lo ob nb _ => ih (Nat.succ i) ⟨sl, lo, ob, nb⟩ (s :: acc) k) s.sl s.lo s.ob s.nb (fun _ _ _ => .fail))) l
def XF (P : Program) (fl : Nat) (ops : Array Oper) (ld : List (Nat × Bool × List Nat)) (nob : Nat) (kn : KS) (sts : List FSt) : R := match sts with
 | s :: acc => Vx P fl ops (s :: acc).reverse nob ld (kn s.sl s.ob s.nb)
 | [] => .fail
def Rl (rid : Nat) (ops : Array Oper) : CF := fun P X fl N fu kn ke kr sl ob nb => match gL ops with
 | some ⟨[], []⟩ => SX P X fl ops ops.toList sl .nil ob nb kn
 | some ri => Qa P X fl (X.W rid) ri.wd ops ops.toList 0 ⟨sl, .nil, ob, nb⟩ [] (XF P fl ops ri.ld nb kn)
 | none => .fail
def OJ (rid : Nat) (ops : Array Oper) (dr : Bool) : CF := fun P X fl N fu kn ke kr sl ob nb =>
 BR (okD N ops) (BR dr (Rl rid ops P X fl N fu kn ke kr sl ob nb) (SX P X fl ops ops.toList sl .nil ob nb kn)) .fail
def O4 (c : Code) : Program -> EX -> Nat -> Nat -> Nat -> Lo -> CG := match c with
 | .region rid ops false => match ops.toList with
   | _ :: l => fun P X fl N fu lo kn ke kr sl ob nb => BR (okD N ops) (SX P X fl ops l sl lo ob nb kn) .fail
   | [] => noG
 | _ => noG
def Sk (f : CG) (n : Nat) : CG := @Nat.rec (fun _ => CG) (fun _ _ _ _ _ _ => .fail) (fun _ ih kn ke kr => f (ih kn ke kr) ke kr) n
def Om (f : Nat -> R -> R) (u : R) (n : Nat) : R := @Nat.rec (fun _ => R) u (fun k ih => f k ih) n
def rF (fl : Nat) (sl : Tr SV) (l : List Nat) : Tr SV := @List.rec Nat (fun _ => Tr SV) sl (fun t _ ih => BTS (fQ fl t) (uq ih t .junk) ih) l
def aae (c : Code) (tl : Program -> EX -> Nat -> Nat -> Nat -> Lo -> CG) (t : Tmp) (d : Option Tmp) : CF := fun P X fl N fu kn ke kr sl ob nb => BR ((bF c).all fun t => Nat.blt t 16777215) (
 match view fl sl .nil t with
 | .ptr q 0 => match ay ob q with
   | some (.itx m n _) => match ay ob m with
     | some (.mp kt vt l) =>
       BR (Nat.beq n l.length && (Nat.ble X.base q && (Nat.ble X.base nb && (Nat.blt q nb && (Nat.blt q X.top && (fT N d && !jk t (bF c)))))))
        (Om (fun k r => Gp fl d (fun sl lo ob nb kn => tl P ⟨X.I, X.top, nb, X.W⟩ fl N fu lo kn (fun _ _ _ _ => .fail) (fun _ _ _ => .fail) sl ob nb) (rF fl sl (bF c)) .nil
             (.tup [.kb true, gI kt (bS kt vt l k).1, gI vt (bS kt vt l k).2]) (lX ob q (some (.itx m n (some k)))) nb (fun _ _ _ => r))
           (Gp fl d (fun sl lo ob nb kn => tl P X fl N fu lo kn ke kr sl ob nb) (rF fl sl (bF c)) .nil (.tup [.kb false]) (lX ob q (some (.itx m n none))) nb (fun _ _ _ => .fail)) n) .fail
     | _ => .fail
   | _ => .fail
 | _ => .fail) .fail
def Sj (c : Code) (p : CP) : CF := match oP c with
 | some (t, d) => aae c p.g t d
 | none => fun P X fl N fu => Sk (p.f P X fl N fu) fu
def Q8 (c : Operand) (a b : CP) : CF := fun P X fl N fu kn ke kr sl ob nb => brE (evG fl sl .nil c) (a.f P X fl N fu kn ke kr sl ob nb) (b.f P X fl N fu kn ke kr sl ob nb) .fail
def cg (c : Code) : CP := @Code.rec (fun _ => CP)
 ⟨fun P X fl N fu kn ke kr => kn, noG⟩
 (fun rid ops dr => ⟨OJ rid ops dr, noG⟩)
 (fun a _ x y => ⟨fun P X fl N fu kn ke kr => x.f P X fl N fu (y.f P X fl N fu kn ke kr) ke kr, fun P X fl N fu lo kn ke kr => O4 a P X fl N fu lo (y.f P X fl N fu kn ke kr) ke kr⟩)
 (fun c _ _ x y => ⟨Q8 c x y, noG⟩)
 (fun id _ x => ⟨fun P X fl N fu kn ke kr => x.f P X fl N fu kn (fun k sl ob nb => BR (Nat.beq k id) (kn sl ob nb) (ke k sl ob nb)) kr, noG⟩)
 (fun c x => ⟨Sj c x, noG⟩)
 (fun _ _ _ _ _ _ => noC)
 (fun id => ⟨fun P X fl N fu kn ke kr => ke id, noG⟩)
 (fun _ _ => noC)
 (fun _ => noC)
 (fun _ => noC)
 ⟨fun P X fl N fu kn ke kr => kr, noG⟩
 (fun _ => noC)
 c
def Ry (P : Program) (fl : Nat) (sl : Tr SV) (ob : OB) (r : ResultVar) (k : SV -> R) : R := match r with
 | .tmp t => k (nK (view fl sl .nil t))
 | .cell a t => yA (fA P (ay ob) t (view fl sl .nil a)) fun s => k (nK s)
def Rz (P : Program) (fl : Nat) (sl : Tr SV) (ob : OB) (l : List ResultVar) : (List SV -> R) -> R := @List.rec ResultVar (fun _ => (List SV -> R) -> R) (fun f => f []) (fun r _ ih f => Ry P fl sl ob r fun s => ih fun l => f (s :: l)) l
def oneG (l : List SV) : SV := match l with
 | [s] => s
 | l => .tup l
def Iu (P : Program) (fl : Nat) (fn : Func) (sl : Tr SV) (ob : OB) (k : SV -> R) : R := Rz P fl sl ob fn.results.toList fun l => k (oneG l)
def mE (l : List SV) : Nat -> Tr SV -> Tr SV := @List.rec SV (fun _ => Nat -> Tr SV -> Tr SV) (fun _ t => t) (fun s _ ih i t => ih (Nat.succ i) (uq t i s)) l
def NJ (P : Program) (fl : FuncId -> Nat) (win : FuncId -> Nat -> Nat -> Nat) (fu n : Nat) (ih : II) (top base : Nat) (f : FuncId) (al : List SV) (ob : OB) (nb : Nat) (k : KK) : R := match P.funcs[f]? with
 | some fn => match fn.body with
   | some c => BR (callable P f && (Nat.ble al.length fn.ntmps && Nat.ble fn.ntmps 16777215))
     ((cg c).f P ⟨ih, top, base, win f n⟩ (fl f) fn.ntmps fu (fun sl ob nb => Iu P (fl f) fn sl ob fun s => k s ob nb) (fun _ _ _ _ => .fail) (fun sl ob nb => Iu P (fl f) fn sl ob fun s => k s ob nb) (mE al 0 .nil) ob nb) .fail
   | none => .fail
 | none => .fail
def Bp (P : Program) (F : FuncId -> Option Summ) (fl : FuncId -> Nat) (win : FuncId -> Nat -> Nat -> Nat) (fu : Nat) (n : Nat) : II := @Nat.rec (fun _ => II) (fun _ _ _ _ _ _ _ => .fail)
 (fun n ih top base f al ob nb k => match F f with
    | some s => qR ⟨ih, top, base, win f n⟩ (s.run (al.map nrm) (ay ob) nb f) ob nb k
    | none => NJ P fl win fu n ih top base f al ob nb k) n
end
end Rx
set_option linter.unusedSectionVars false
set_option linter.unusedSimpArgs false
set_option linter.unusedVariables false
namespace Rx
open Go
variable [Glob]
noncomputable section
theorem gU {b : Bool} {c : R} {post : SV × HD -> Prop} (h : (BR b c .fail).holds post) : b = true /\ c.holds post := by
 rw [dh] at h
 cases b
 · exact h.elim
 · exact ⟨rfl, h⟩
theorem Rp {a b : Bool} (h : eqB a b = true) : a = b := by
 cases a <;> cases b <;> first | rfl | cases h
theorem lM {a b : Nat} (h : Nat.beq a b = true) : a = b := Nat.eq_of_beq_eq_true h
theorem dG {a b : SV} {c : R} {post : SV × HD -> Prop} (h : (iR a b c).holds post) : a = b /\ c.holds post := by
 unfold iR at h
 split at h
 · obtain ⟨hb, h'⟩ := gU h
   simp only [Bool.and_eq_true, dR, decide_eq_true_eq, uR] at hb
   rw [hb.1, hb.2]
   exact ⟨rfl, h'⟩
 · obtain ⟨hb, h⟩ := gU h
   rw [Rp hb]
   exact ⟨rfl, h⟩
 · obtain ⟨hb, h⟩ := gU h
   simp only [Bool.and_eq_true] at hb
   rw [lM hb.1, lM hb.2]
   exact ⟨rfl, h⟩
 · obtain ⟨hb, h⟩ := gU h
   simp only [Bool.and_eq_true] at hb
   rw [lM hb.1, lM hb.2.1, lM hb.2.2.1, lM hb.2.2.2]
   exact ⟨rfl, h⟩
 · obtain ⟨hb, h⟩ := gU h
   simp only [Bool.and_eq_true] at hb
   rw [lM hb.1, lM hb.2.1, lM hb.2.2.1, lM hb.2.2.2]
   exact ⟨rfl, h⟩
 · obtain ⟨hb, h⟩ := gU h
   simp only [Bool.and_eq_true] at hb
   rw [lM hb.1, lM hb.2.1, lM hb.2.2.1, lM hb.2.2.2.1, lM hb.2.2.2.2]
   exact ⟨rfl, h⟩
 · exact ⟨rfl, h⟩
 · exact ⟨rfl, h⟩
 · rename_i s t
   obtain ⟨hb, h'⟩ := gU h
   have e : s.data.toList = t.data.toList := by simpa using hb
   have : s = t := by
    cases s with | mk s => cases t with | mk t =>
    congr 1
    exact Array.toList_inj.1 e
   rw [this]
   exact ⟨rfl, h'⟩
 · obtain ⟨hb, h⟩ := gU h
   rw [lM hb]
   exact ⟨rfl, h⟩
 · obtain ⟨hb, h'⟩ := gU h
   simp only [Bool.and_eq_true, dR, decide_eq_true_eq, uR] at hb
   rw [hb.1, hb.2]
   exact ⟨rfl, h'⟩
 · obtain ⟨hb, h'⟩ := gU h
   rw [Rp hb]
   exact ⟨rfl, h'⟩
 · obtain ⟨hb, h'⟩ := gU h
   simp only [Bool.and_eq_true, dR, decide_eq_true_eq, uR] at hb
   rw [hb.1, hb.2.1, hb.2.2, h'.1]
   exact ⟨rfl, h'.2⟩
 · exact ⟨by rw [h.1], h.2⟩
 · exact h
theorem JG {c : R} {post : SV × HD -> Prop} : ∀ {l m : List SV}, (aaB l m c).holds post -> l = m /\ c.holds post
 | [], [], h => ⟨rfl, h⟩
 | [], _ :: _, h => h.elim
 | _ :: _, [], h => h.elim
 | x :: l, y :: m, h => by
   obtain ⟨h1, h2⟩ := dG (show (iR x y (aaB l m c)).holds post from h)
   obtain ⟨h3, h4⟩ := JG h2
   rw [h1, h3]
   exact ⟨rfl, h4⟩
theorem Xd {a b : SV} {c : R} {post : SV × HD -> Prop} (h : (svQ a b c).holds post) : a = b /\ c.holds post := by
 unfold svQ at h
 split at h
 · obtain ⟨h1, h2⟩ := JG h
   rw [h1]
   exact ⟨rfl, h2⟩
 · exact dG h
def aev (P : Program) (fl : Nat) (ops : Array Oper) (sts : List FSt) (nob : Nat) (x : Nat × Bool × List Nat) : Prop :=
 ∀ o s s', ops[x.1]? = some o -> sts[x.1]? = some s -> sts[x.1 + 1]? = some s' -> iH ops o (s.cs fl) = false -> (∀ i ∈ tgt (evG fl s.sl s.lo) o, i < lim x nob s.nb) /\
   ∃ d, o.dst = some d /\ ∀ q ∈ x.2.2, ∃ sq r, sts[q]? = some sq /\ cxE P (evG fl s.sl s.lo) (ay sq.ob) 0 o = .ret r /\ r.sv = view fl s'.sl s'.lo d
theorem dH {a b : SV} {c : R} {post : SV × HD -> Prop} (h : (aaC a b c).holds post) : a = b /\ c.holds post := by
 cases a with
 | dt d => cases b with
   | dt d' => exact dG (show (iR (.dt d) (.dt d') c).holds post from h)
   | _ => exact h.elim
 | ptr i o => cases b with
   | ptr j p =>
     have h : (BR (aK (Nat.beq i j) (Nat.beq o p)) c .fail).holds post := h
     rw [ig] at h
     exact dG (show (iR (.ptr i o) (.ptr j p) c).holds post from h)
   | _ => exact h.elim
 | kb p => cases b with
   | kb q => exact dG (show (iR (.kb p) (.kb q) c).holds post from h)
   | _ => exact h.elim
 | ki k n => cases b with
   | ki k' m =>
     have h : (BR (aK (dR k k') (eqI n m)) c .fail).holds post := h
     rw [ig] at h
     exact dG (show (iR (.ki k n) (.ki k' m) c).holds post from h)
   | _ => exact h.elim
 | nm i => cases b with
   | nm j => exact dG (show (iR (.nm i) (.nm j) c).holds post from h)
   | _ => exact h.elim
 | rp i o y z => cases b with
   | rp i' o' y' z' =>
     have h : (BR (aK (Nat.beq i i') (aK (Nat.beq o o') (aK (Nat.beq y y') (Nat.beq z z')))) c .fail).holds post := h
     simp only [ig] at h
     exact dG (show (iR (.rp i o y z) (.rp i' o' y' z') c).holds post from h)
   | _ => exact h.elim
 | ri k a b' n => cases b with
   | ri k' a' b'' n' =>
     have h : (BR (aK (dR k k') (aK (eqI a a') (eqI b' b''))) (.need (n = n') c) .fail).holds post := h
     simp only [ig] at h
     exact dG (show (iR (.ri k a b' n) (.ri k' a' b'' n') c).holds post from h)
   | _ => exact h.elim
 | sl i o y z k => cases b with
   | sl i' o' y' z' k' =>
     have h : (BR (aK (Nat.beq i i') (aK (Nat.beq o o') (aK (Nat.beq y y') (Nat.beq z z')))) (onQ k k' c) .fail).holds post := h
     simp only [ig] at h
     obtain ⟨h1, h2⟩ := gU h
     simp only [Bool.and_eq_true] at h1
     obtain ⟨e1, e2, e3, e4⟩ := h1
     cases lM e1
     cases lM e2
     cases lM e3
     cases lM e4
     cases k with
     | none => cases k' with
       | none => exact ⟨rfl, h2⟩
       | some _ => exact h2.elim
     | some m => cases k' with
       | none => exact h2.elim
       | some m' =>
         obtain ⟨h1, h3⟩ := gU (show (BR (Nat.beq m m') c .fail).holds post from h2)
         cases lM h1
         exact ⟨rfl, h3⟩
   | _ => exact h.elim
 | sy s => cases b with
   | sy t =>
     have h : s = t /\ c.holds post := h
     exact ⟨by rw [h.1], h.2⟩
   | _ => exact h.elim
 | junk => exact dG (show (iR .junk b c).holds post from h)
 | agg l => exact dG (show (iR (.agg l) b c).holds post from h)
 | tup l => exact dG (show (iR (.tup l) b c).holds post from h)
 | el m g => exact dG (show (iR (.el m g) b c).holds post from h)
 | fn f l => exact dG (show (iR (.fn f l) b c).holds post from h)
theorem JH {c : R} {post : SV × HD -> Prop} : ∀ {l m : List SV}, (Xe l m c).holds post -> l = m /\ c.holds post
 | [], [], h => ⟨rfl, h⟩
 | [], _ :: _, h => h.elim
 | _ :: _, [], h => h.elim
 | x :: l, y :: m, h => by
   obtain ⟨h1, h2⟩ := dH (show (aaC x y (Xe l m c)).holds post from h)
   obtain ⟨h3, h4⟩ := JH h2
   rw [h1, h3]
   exact ⟨rfl, h4⟩
theorem Xf {a b : SV} {c : R} {post : SV × HD -> Prop} (h : (svS a b c).holds post) : a = b /\ c.holds post := by
 cases a with
 | agg l => cases b with
   | agg m =>
     obtain ⟨h1, h2⟩ := JH (show (Xe l m c).holds post from h)
     rw [h1]
     exact ⟨rfl, h2⟩
   | _ => exact h.elim
 | junk => exact dH (a := .junk) h
 | dt d => exact dH (a := .dt d) h
 | tup l => exact dH (a := .tup l) h
 | ptr i o => exact dH (a := .ptr i o) h
 | el m g => exact dH (a := .el m g) h
 | fn f l => exact dH (a := .fn f l) h
 | kb p => exact dH (a := .kb p) h
 | ki k n => exact dH (a := .ki k n) h
 | nm i => exact dH (a := .nm i) h
 | rp i o y z => exact dH (a := .rp i o y z) h
 | ri k a b n => exact dH (a := .ri k a b n) h
 | sl i o y z k => exact dH (a := .sl i o y z k) h
 | sy s => exact dH (a := .sy s) h
theorem PZ {s : SV} {P : Program} {t : TypeId} {ob : OB} {g : R} {k : SV -> R} {post : SV × HD -> Prop} (h : (Si s P t ob g k).holds post) : g.holds post ∨ ∃ v, fA P (ay ob) t s = .ret v /\ (k (nK v)).holds post := by
 cases s with
 | ptr i off =>
   have h : (R8 (ay ob i) P t off g k).holds post := h
   cases hg : ay ob i with
   | none => rw [hg] at h; exact h.elim
   | some b =>
     rw [hg] at h
     cases b with
     | cells t' cs =>
       have h : (oB (ldK P t) .fail g (Je cs off .fail fun s => k (nKS s))).holds post := h
       rw [OC] at h
       unfold ldK at h
       cases ha : nQ P t with
       | none => simp only [ha] at h; exact h.elim
       | some b =>
         cases hz : bg P t with
         | none => simp only [ha, hz] at h; exact h.elim
         | some n =>
           simp only [ha, hz] at h
           cases b with
           | true => exact .inl h
           | false =>
             rw [cond_false, xS] at h
             split at h
             · rename_i s hs
               rw [vo] at h
               exact .inr ⟨s, by simp only [fA, fU, ha, hz, hg, hs], h⟩
             · exact h.elim
     | _ => exact h.elim
 | rp i idx sz off =>
   have h : (XH (ay ob i) P t idx sz off g k).holds post := h
   cases hg : ay ob i with
   | none => rw [hg] at h; exact .inl h
   | some b =>
     rw [hg] at h
     cases b with
     | vec t' sz' len tr ex =>
       have h : (oB (ldK P t) .fail (szK P t fun n => BR (aK (Nat.beq sz sz') (aK (Nat.ble (Nat.add off n) sz) (Nat.blt idx len))) (k (.agg (nH tr n (Nat.add (Nat.mul idx sz) off)))) .fail) (BR (aK (Nat.beq sz sz') (aK (Nat.blt off sz) (Nat.blt idx len))) (k (nKS (gX tr (Nat.add (Nat.mul idx sz) off)))) .fail)).holds post := h
       rw [OC] at h
       unfold ldK at h
       simp only [ig, Nat.add_eq, Nat.mul_eq] at h
       cases ha : nQ P t with
       | none => simp only [ha] at h; exact h.elim
       | some b =>
         cases hz : bg P t with
         | none => simp only [ha, hz] at h; exact h.elim
         | some n =>
           simp only [ha, hz] at h
           cases b with
           | true =>
             unfold szK at h
             simp only [hz, cond_true] at h
             rw [dh] at h
             cases hb : (Nat.beq sz sz' && (Nat.ble (off + n) sz && Nat.blt idx len)) with
             | false => rw [hb] at h; exact h.elim
             | true =>
               rw [hb, cond_true, nI] at h
               exact .inr ⟨.agg (dY tr (idx * sz + off) n), by simp only [fA, ha, hz, hg, hb]; rfl, h⟩
           | false =>
             rw [cond_false, dh] at h
             cases hb : (Nat.beq sz sz' && (Nat.blt off sz && Nat.blt idx len)) with
             | false => rw [hb] at h; exact h.elim
             | true =>
               rw [hb, cond_true, ze, vo] at h
               exact .inr ⟨_, by simp only [fA, ha, hz, hg, hb]; rfl, h⟩
     | _ => exact .inl h
 | _ => exact .inl h
theorem xR (l : List FSt) : ∀ (n : Nat) (f : R) (k : FSt -> R), SF l n f k = match l[n]? with
  | some s => k s
  | none => f := by
 induction l with
 | nil => intro n f k; rfl
 | cons s l ih =>
   intro n f k
   cases n with
   | zero => rfl
   | succ n => exact ih n f k
theorem EI {P : Program} {fl : Nat} {o : Oper} {s : FSt} {y : SV} {c : R} {sq : FSt} {post : SV × HD -> Prop} (h : (EH P fl o s y c sq).holds post) : c.holds post /\ ∃ r, cxE P (evG fl s.sl s.lo) (ay sq.ob) 0 o = .ret r /\ r.sv = y := by
 unfold EH at h
 split at h
 · rename_i r hr
   obtain ⟨h1, h2⟩ := Xd h
   exact ⟨h2, r, hr, h1⟩
 · exact h.elim
theorem JD {o : Oper} {t : TypeId} {x : Operand} (h : stB o = some (t, x)) : o.op = .load t x := by
 unfold stB at h
 split at h
 · rename_i t' x' e
   cases h
   exact e
 · cases h
theorem Xa {P : Program} {fl : Nat} {sts : List FSt} {o : Oper} {s : FSt} {y : SV} {q : Nat} {c : R} {post : SV × HD -> Prop} (h : (stQ P fl sts o s y q c).holds post) :
  c.holds post /\ ∃ sq r, sts[q]? = some sq /\ cxE P (evG fl s.sl s.lo) (ay sq.ob) 0 o = .ret r /\ r.sv = y := by
 unfold stQ at h
 rw [xR] at h
 split at h
 · rename_i sq hsq
   cases hb : stB o with
   | none =>
     rw [hb] at h
     obtain ⟨h1, r, h2, h3⟩ := EI (show (EH P fl o s y c sq).holds post from h)
     exact ⟨h1, sq, r, hsq, h2, h3⟩
   | some tx =>
     obtain ⟨t, x⟩ := tx
     rw [hb] at h
     have ho := JD hb
     rcases PZ (show (Si (evG fl s.sl s.lo x) P t sq.ob (EH P fl o s y c sq) (fun z => svS z y c)).holds post from h) with h | ⟨v, hv, h⟩
     · obtain ⟨h1, r, h2, h3⟩ := EI h
       exact ⟨h1, sq, r, hsq, h2, h3⟩
     · obtain ⟨h1, h2⟩ := Xf h
       refine ⟨h2, sq, ⟨nK v, .none⟩, hsq, ?_, h1⟩
       have eC : cxE P (evG fl s.sl s.lo) (ay sq.ob) 0 o = (fA P (ay sq.ob) t (evG fl s.sl s.lo x)).bind jK := by unfold cxE; simp only [ho]
       rw [eC, hv]
       rfl
 · exact h.elim
theorem OH {P : Program} {fl : Nat} {sts : List FSt} {o : Oper} {s : FSt} {y : SV} {c : R} {post : SV × HD -> Prop} : ∀ {qs : List Nat}, (qsQ P fl sts o s y qs c).holds post ->
  c.holds post /\ ∀ q ∈ qs, ∃ sq r, sts[q]? = some sq /\ cxE P (evG fl s.sl s.lo) (ay sq.ob) 0 o = .ret r /\ r.sv = y
 | [], h => ⟨h, fun q hq => by cases hq⟩
 | q :: qs, h => by
   obtain ⟨h1, h2⟩ := Xa (show (stQ P fl sts o s y q (qsQ P fl sts o s y qs c)).holds post from h)
   obtain ⟨h3, h4⟩ := OH h1
   refine ⟨h3, fun q' hq => ?_⟩
   rcases List.mem_cons.1 hq with rfl | hq
   · exact h2
   · exact h4 q' hq
theorem Qc {s : SV} {n : Nat} (h : XJ s n = true) : ∀ i ∈ kD s, i < n := by
 cases s with
 | ptr i o =>
   intro j hj
   have : Nat.blt i n = true := h
   rw [Nat.blt_eq] at this
   simp only [kD, List.mem_singleton] at hj
   omega
 | rp i a z o =>
   intro j hj
   have : Nat.blt i n = true := h
   rw [Nat.blt_eq] at this
   simp only [kD, List.mem_singleton] at hj
   omega
 | _ => intro j hj; cases hj
theorem Xn {fl nob : Nat} {o : Oper} {s : FSt} (h : tgQ fl nob o s = true) : ∀ i ∈ tgt (evG fl s.sl s.lo) o, i < nob := by
 unfold tgQ at h
 cases hb : stB o with
 | none =>
   rw [hb] at h
   intro i hi
   have := List.all_eq_true.1 h i hi
   simpa [Nat.blt_eq] using this
 | some tx =>
   obtain ⟨t, x⟩ := tx
   rw [hb] at h
   have ho := JD hb
   intro i hi
   have e : tgt (evG fl s.sl s.lo) o = kD (evG fl s.sl s.lo x) := by unfold tgt; simp only [ho]
   rw [e] at hi
   exact Qc h i hi
theorem aay (ops : Array Oper) (fl : Nat) (o : Oper) (s : FSt) : skQ ops fl o s = iH ops o (s.cs fl) := by
 unfold skQ
 cases h : o.guard with
 | none => unfold iH; rw [h]
 | some g => rfl
theorem SQ {P : Program} {fl : Nat} {ops : Array Oper} {sts : List FSt} {nob : Nat} {x : Nat × Bool × List Nat} {c : R} {post : SV × HD -> Prop} (h : (WE P fl ops sts nob x c).holds post) : c.holds post /\ aev P fl ops sts nob x := by
 unfold WE at h
 cases h1 : ops[x.1]? with
 | none => rw [h1] at h; exact h.elim
 | some o =>
   rw [h1] at h
   have h : (SN P fl ops sts nob x c o).holds post := h
   unfold SN at h
   rw [xR] at h
   split at h
   · rename_i s h2
     rw [dh, aay] at h
     cases hs : iH ops o (s.cs fl) with
     | true =>
       rw [hs, cond_true, xR] at h
       split at h
       · rename_i s' h3
         refine ⟨h, fun o' s1 s1' e1 e2 e3 e4 => ?_⟩
         rw [h1] at e1; injection e1 with e1; subst e1
         rw [h2] at e2; injection e2 with e2; subst e2
         rw [hs] at e4; cases e4
       · exact h.elim
     | false =>
       rw [hs, cond_false] at h
       obtain ⟨h4, h⟩ := gU h
       rw [xR] at h
       split at h
       · rename_i s' h3
         cases hd : o.dst with
         | none => rw [hd] at h; exact h.elim
         | some d =>
           rw [hd] at h
           obtain ⟨h5, h6⟩ := OH (show (qsQ P fl sts o s (view fl s'.sl s'.lo d) x.2.2 c).holds post from h)
           refine ⟨h5, fun o' s1 s1' e1 e2 e3 e4 => ?_⟩
           rw [h1] at e1; injection e1 with e1; subst e1
           rw [h2] at e2; injection e2 with e2; subst e2
           have h3 : sts[x.1 + 1]? = some s' := h3
           rw [h3] at e3; injection e3 with e3; subst e3
           exact ⟨Xn h4, d, hd, h6⟩
       · exact h.elim
   · exact h.elim
theorem Hu {P : Program} {fl : Nat} {ops : Array Oper} {sts : List FSt} {nob : Nat} {c : R} {post : SV × HD -> Prop} : ∀ {l : List (Nat × Bool × List Nat)}, (Vx P fl ops sts nob l c).holds post -> c.holds post /\ ∀ x ∈ l, aev P fl ops sts nob x
 | [], h => ⟨h, fun x hx => by cases hx⟩
 | x :: l, h => by
   obtain ⟨h1, h2⟩ := SQ (show (WE P fl ops sts nob x (Vx P fl ops sts nob l c)).holds post from h)
   obtain ⟨h3, h4⟩ := Hu h1
   refine ⟨h3, fun y hy => ?_⟩
   rcases List.mem_cons.1 hy with rfl | hy
   · exact h2
   · exact h4 y hy
def Qw (fl : Nat) : List Oper -> List FSt -> List (CS × SV) -> CS -> Prop
 | [], [s], [], z => z = s.cs fl
 | o :: l, s :: s' :: r, y :: t, z => y.1 = s.cs fl /\ (s'.cs fl).sl = putT o.dst y.2 (s.cs fl).sl /\ Qw fl l (s' :: r) t z
 | _, _, _, _ => False
theorem NR {fl : Nat} {z : CS} : ∀ {l : List Oper} {sts : List FSt} {tr : List (CS × SV)}, Qw fl l sts tr z -> (∀ q sq, sts[q]? = some sq -> hsAt tr z q = (sq.cs fl).h) /\
  ∀ k o y, l[k]? = some o -> tr[k]? = some y -> ∃ s s', sts[k]? = some s /\ sts[k + 1]? = some s' /\ y.1 = s.cs fl /\ (s'.cs fl).sl = putT o.dst y.2 (s.cs fl).sl
 | [], [s], [], h => by
   have h : z = s.cs fl := h
   refine ⟨fun q sq hq => ?_, fun k o y ho => by simp at ho⟩
   cases q with
   | zero => simp at hq; subst hq; simp [hsAt, h]
   | succ q => simp at hq
 | [], [], _, h => h.elim
 | [], _ :: _ :: _, _, h => by cases h
 | [], [_], _ :: _, h => h.elim
 | _ :: _, [], _, h => by cases h
 | _ :: _, [_], _, h => by cases h
 | _ :: _, _ :: _ :: _, [], h => h.elim
 | o :: l, s :: s' :: r, y :: t, h => by
   obtain ⟨h1, h2, h3⟩ := h
   obtain ⟨h4, h5⟩ := NR h3
   refine ⟨fun q sq hq => ?_, fun k o' y' ho hy => ?_⟩
   · cases q with
     | zero => simp at hq; subst hq; simp [hsAt, h1]
     | succ q =>
       have := h4 q sq (by simpa using hq)
       simpa [hsAt] using this
   · cases k with
     | zero =>
       simp at ho hy
       subst ho; subst hy
       exact ⟨s, s', rfl, rfl, h1, h2⟩
     | succ k =>
       obtain ⟨u, u', q1, q2, q3⟩ := h5 k o' y' (by simpa using ho) (by simpa using hy)
       exact ⟨u, u', by simpa using q1, by simpa using q2, q3⟩
section
variable {E : CEnv} {X : EX} {fl : Nat} {post : SV × HD -> Prop}
theorem XRef.qN (h : XRef X E) (n : Nat) : XRef ⟨X.I, n, X.base, X.W⟩ { E with top := n } := ⟨h.I, rfl, h.base, h.W, h.K⟩
theorem Jh (hE : E.Ok) {ops : Array Oper} {k : KT} {rid : Nat} {wd : List Nat} (hX : XRef X E) (hok : okD E.N ops = true) (hN : E.N <= 16777215) : ∀ (l : List Oper) (i : Nat) (s : FSt) (acc : List FSt), (∀ o ∈ l, fT E.N o.dst = true) -> dJ E.top s.nb -> FOk s.ob s.nb ->
  (Qa E.P X fl (E.win rid) wd ops l i s acc k).holds post -> (dS E ops rid wd i l (s.cs fl)).holds fun z => ∃ sts, Qw fl l (s :: sts) z.1 z.2 /\ (k ((s :: sts).reverse ++ acc)).holds post
 | [], i, s, acc, _, _, _, h => ⟨[], rfl, h⟩
 | o :: l, i, s, acc, hd, hT, hF, h => by
   have h : (BR (jk i wd)
     (BR (Nat.ble (s.nb + E.win rid) X.top) (fN (s.nb + E.win rid) fun n => stG E.P ⟨X.I, n, X.base, X.W⟩ fl ops o (fun sl lo ob _ _ => Qa E.P X fl (E.win rid) wd ops l (Nat.succ i) ⟨sl, lo, ob, n⟩ (s :: acc) k) s.sl s.lo s.ob s.nb (fun _ _ _ => .fail)) .fail)
     (stG E.P X fl ops o (fun sl lo ob nb _ => Qa E.P X fl (E.win rid) wd ops l (Nat.succ i) ⟨sl, lo, ob, nb⟩ (s :: acc) k) s.sl s.lo s.ob s.nb (fun _ _ _ => .fail))).holds post := h
   simp only [dS, T.ak]
   have hdo := hd o (by simp)
   have next : ∀ (y : SV × HS) (s' : FSt), (⟨putT o.dst y.1 (view fl s.sl s.lo), y.2⟩ : CS) = s'.cs fl -> dJ E.top s'.nb -> FOk s'.ob s'.nb -> (Qa E.P X fl (E.win rid) wd ops l (Nat.succ i) s' (s :: acc) k).holds post ->
        T.holds (fun a => T.holds (fun z => ∃ sts, Qw fl (o :: l) (s :: sts) z.1 z.2 /\ (k ((s :: sts).reverse ++ acc)).holds post) (T.ret ((s.cs fl, y.1) :: a.1, a.2))) (dS E ops rid wd (i + 1) l ⟨putT o.dst y.1 (s.cs fl).sl, y.2⟩) := by
     intro y s' e hT' hF' hh
     have e' : (⟨putT o.dst y.1 (s.cs fl).sl, y.2⟩ : CS) = s'.cs fl := e
     rw [e']
     refine T.aD (fun z hz => ?_) _ (Jh hE hX hok hN l (i + 1) s' (s :: acc) (fun o ho => hd o (by simp [ho])) hT' hF' hh)
     obtain ⟨sts, h1, h2⟩ := hz
     refine ⟨s' :: sts, ⟨rfl, by rw [← e'], h1⟩, ?_⟩
     simpa [List.reverse_cons, List.append_assoc] using h2
   rw [dh] at h
   unfold stW
   cases hm : jk i wd with
   | false =>
     rw [hm, cond_false] at h
     rw [cond_false]
     have h1 := GL (rid := rid) (i := i) hX hok hdo hN hT hF h
     have h2 := T.aV (iI hE (ops := ops) (rid := rid) (i := i) o (σ := ⟨view fl s.sl s.lo, ⟨ay s.ob, s.nb⟩⟩) hF) h1
     refine T.aD (fun y hy => ?_) _ h2
     obtain ⟨⟨g1, g2, g3⟩, sl', lo', ob', e, hh⟩ := hy
     have eh : y.2 = ⟨ay ob', y.2.nob⟩ := congrArg CS.h e
     refine next y ⟨sl', lo', ob', y.2.nob⟩ e ?_ ?_ hh
     · have g3 : y.2.nob <= max E.top s.nb := g3
       have := hT.1
       exact ⟨by show y.2.nob <= _; omega, hT.2⟩
     · intro j hj
       have := g1 j hj
       rw [eh] at this
       exact this
   | true =>
     rw [hm, cond_true] at h
     obtain ⟨hle, h⟩ := gU h
     rw [oG] at h
     rw [hX.top] at hle
     have hle' := Nat.le_of_ble_eq_true hle
     rw [cond_true, show Nat.ble ((s.cs fl).h.nob + E.win rid) E.top = true from hle, cond_true, T.ak]
     have hT1 : dJ (s.nb + E.win rid) s.nb := ⟨by omega, Nat.le_trans hle' hT.2⟩
     have h1 := GL (E := { E with top := s.nb + E.win rid }) (rid := rid) (i := i) (hX.qN _) hok hdo hN hT1 hF h
     have h2 := T.aV (iI (hE.qN (s.nb + E.win rid)) (ops := ops) (rid := rid) (i := i) o (σ := ⟨view fl s.sl s.lo, ⟨ay s.ob, s.nb⟩⟩) hF) h1
     refine T.aD (fun y hy => ?_) _ h2
     obtain ⟨⟨g1, g2, g3⟩, sl', lo', ob', e, hh⟩ := hy
     have eh : y.2 = ⟨ay ob', y.2.nob⟩ := congrArg CS.h e
     have es : putT o.dst y.1 (view fl s.sl s.lo) = view fl sl' lo' := congrArg CS.sl e
     refine next (y.1, ⟨y.2.obj, s.nb + E.win rid⟩) ⟨sl', lo', ob', s.nb + E.win rid⟩ ?_ ⟨hle', hT.2⟩ ?_ hh
     · show (⟨putT o.dst y.1 (view fl s.sl s.lo), ⟨y.2.obj, s.nb + E.win rid⟩⟩ : CS) = ⟨view fl sl' lo', ⟨ay ob', s.nb + E.win rid⟩⟩
       rw [es, eh]
     · intro j hj
       have hj : s.nb + E.win rid <= j := hj
       have g3 : y.2.nob <= max (s.nb + E.win rid) s.nb := g3
       have := g1 j (by omega)
       rw [eh] at this
       exact this
theorem sF (fl : Nat) (sl : Tr SV) (lo : Lo) (h : HS) : jm fl ⟨view fl sl lo, h⟩ = ⟨view fl sl .nil, h⟩ := by
 unfold jm
 congr 1
 funext j
 show (bif fQ fl j then BS (fQ fl j) (gX sl j) (look lo j) else .junk) = BS (fQ fl j) (gX sl j) .junk
 cases fQ fl j <;> rfl
theorem wX {ops : Array Oper} {rid : Nat} {p : CS -> Prop} : ∀ (l : List Oper) (i : Nat) (σ : CS), (kU E ops rid i l σ).holds p -> (dS E ops rid [] i l σ).holds fun z => p z.2
 | [], _, _, h => h
 | o :: l, i, σ, h => by
   simp only [kU, T.ak] at h
   simp only [dS, T.ak]
   have e : stW E ops rid [] i o σ = stC E ops rid i o σ := rfl
   rw [e]
   exact T.aD (fun y hy => T.aD (fun z hz => hz) _ (wX l (i + 1) _ hy)) _ h
def Xy (kn : KS) (ke : Nat -> KS) (kr : KS) : Ex -> KS
 | .normal => kn
 | .exit k => ke k
 | .ret => kr
def KC (fl : Nat) (post : SV × HD -> Prop) (kn : KS) (ke : Nat -> KS) (kr : KS) (x : Ex × CS) : Prop :=
 ∃ sl ob, x.2 = ⟨view fl sl .nil, ⟨ay ob, x.2.h.nob⟩⟩ /\ (Xy kn ke kr x.1 sl ob x.2.h.nob).holds post
theorem xU {N : Nat} {ops : Array Oper} (h : okD N ops = true) : ∀ o ∈ ops.toList, fT N o.dst = true := List.all_eq_true.1 h
theorem Py (hE : E.Ok) {ops : Array Oper} {rid N fu : Nat} {kn : KS} {ke : Nat -> KS} {kr : KS} (hX : XRef X E) (hok : okD E.N ops = true) (hN : E.N <= 16777215) {sl : Tr SV} {ob : OB} {nb : Nat} (hT : dJ E.top nb) (hF : FOk ob nb)
  (h : (Rl rid ops E.P X fl N fu kn ke kr sl ob nb).holds post) : (mK E ops rid ⟨view fl sl .nil, ⟨ay ob, nb⟩⟩).holds fun σ' => KC fl post kn ke kr (.normal, jm fl σ') := by
 unfold Rl at h
 unfold mK
 cases hri : gL ops with
 | none => rw [hri] at h; exact h.elim
 | some ri =>
   rw [hri] at h
   simp only [T.ak]
   obtain ⟨ld, wd⟩ := ri
   have slow : (Qa E.P X fl (X.W rid) wd ops ops.toList 0 ⟨sl, .nil, ob, nb⟩ [] (XF E.P fl ops ld nb kn)).holds post ->
        T.holds (fun a => T.holds (fun σ' => KC fl post kn ke kr (Ex.normal, jm fl σ')) (.need (∀ x ∈ ld, Yc E.P ops a.1 a.2 nb x) (.ret a.2))) (dS E ops rid wd 0 ops.toList ⟨view fl sl .nil, ⟨ay ob, nb⟩⟩) := by
    intro h
    rw [hX.W] at h
    refine T.aD (fun z hz => ?_) _ (Jh hE hX hok hN ops.toList 0 ⟨sl, .nil, ob, nb⟩ [] (xU hok) hT hF h)
    obtain ⟨sts, hc, hh⟩ := hz
    rw [List.append_nil] at hh
    obtain ⟨c1, c2⟩ := NR hc
    have hlast : ∃ s' acc, ((⟨sl, .nil, ob, nb⟩ : FSt) :: sts).reverse = s' :: acc := by
        cases hr : ((⟨sl, .nil, ob, nb⟩ : FSt) :: sts).reverse with
        | nil => simp at hr
        | cons s' acc => exact ⟨s', acc, rfl⟩
    obtain ⟨s', acc, hr⟩ := hlast
    have hrev : (s' :: acc).reverse = (⟨sl, .nil, ob, nb⟩ : FSt) :: sts := by rw [← hr, List.reverse_reverse]
    rw [hr] at hh
    have hh : (Vx E.P fl ops (s' :: acc).reverse nb ld (kn s'.sl s'.ob s'.nb)).holds post := hh
    rw [hrev] at hh
    obtain ⟨h1, h2⟩ := Hu hh
    have hz2 : z.2 = s'.cs fl := by
     have key : ∀ (l : List Oper) (sts : List FSt) (tr : List (CS × SV)) (z : CS), Qw fl l sts tr z -> ∀ s' acc, sts.reverse = s' :: acc -> z = s'.cs fl := by
      intro l
      induction l with
      | nil =>
        intro sts tr z h s' acc hr
        match sts, tr, h with
        | [s], [], h =>
          simp at hr
          obtain ⟨rfl, _⟩ := hr
          exact h
      | cons o l ih =>
        intro sts tr z h s' acc hr
        match sts, tr, h with
        | s :: s1 :: r, y :: t, h =>
          refine ih (s1 :: r) t z h.2.2 s' acc.dropLast ?_
          have : (s1 :: r).reverse ++ [s] = s' :: acc := by simpa using hr
          have h4 := congrArg List.dropLast this
          rw [List.dropLast_concat] at h4
          rw [h4]
          cases acc with
          | nil =>
            have := congrArg List.length this
            simp at this
          | cons a acc => rfl
     exact key _ _ _ _ hc s' acc hr
    refine ⟨fun x hx => ?_, ?_⟩
    · intro o y ho hy hsk
      obtain ⟨s, s1, q1, q2, q3, q4⟩ := c2 x.1 o y (by simpa using ho) hy
      obtain ⟨r1, d, r2, r3⟩ := h2 x hx o s s1 ho q1 q2 (by rw [← q3]; exact hsk)
      have eev : evC y.1.sl = evG fl s.sl s.lo := by rw [q3, Km]; rfl
      refine ⟨fun i hi => by rw [q3]; exact r1 i (by rw [← eev]; exact hi), fun q hq => ?_⟩
      obtain ⟨sq, r, t1, t2, t3⟩ := r3 q hq
      refine ⟨r, ?_, fun C w v hr => ?_⟩
      · rw [eev, c1 q sq t1]
        exact t2
      · have e : r.sv = y.2 := by
         rw [t3]
         show (s1.cs fl).sl d = _
         rw [q4, r2]
         show lq (some d) d y.2 _ = _
         rw [aS, if_pos rfl]
        rw [← e]; exact hr
    · show KC fl post kn ke kr (Ex.normal, jm fl z.2)
      rw [hz2]
      show KC fl post kn ke kr (Ex.normal, jm fl ⟨view fl s'.sl s'.lo, ⟨ay s'.ob, s'.nb⟩⟩)
      rw [sF]
      exact ⟨s'.sl, s'.ob, rfl, h1⟩
   split at h
   · rename_i e
     injection e with e
     injection e with e1 e2
     subst e1; subst e2
     have h1 := tZ hE (rid := rid) hX hok hN ops.toList 0 sl .nil ob nb (xU hok) hT hF h
     refine T.aD (fun z hz => ⟨fun x hx => (by cases hx), ?_⟩) _ (wX ops.toList 0 _ h1)
     obtain ⟨sl', lo', ob', e, hh⟩ := hz
     show KC fl post kn ke kr (Ex.normal, jm fl z.2)
     have eh : z.2.h.nob = z.2.h.nob := rfl
     rw [e, sF]
     exact ⟨sl', ob', rfl, hh⟩
   · rename_i ri' _ e
     injection e with e
     subst e
     exact slow h
   · rename_i e; cases e
end
end
end Rx
