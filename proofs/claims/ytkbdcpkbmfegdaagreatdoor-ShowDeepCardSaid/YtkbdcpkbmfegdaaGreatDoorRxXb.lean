/- Rx, part Xb: slim eliminators for the kernel: all arms are closed, so nothing is copied. Printed by gen/slim.py. -/
import Derived.Test.YtkbdcpkbmfegdaaGreatDoorRxX2
set_option linter.unusedSectionVars false
set_option linter.unusedSimpArgs false
set_option linter.unusedVariables false
namespace Rx
open Go
variable [Glob]
noncomputable section
def aQ (a b : Bool) : Bool := @Bool.rec (fun _ => Bool) false b a
theorem iM (a b : Bool) : aQ a b = (a && b) := by cases a <;> rfl
def failK : OpK := fun _ _ _ _ _ _ _ => .fail
def nKS (s : SV) : SV := @SV.rec (fun _ => SV) (fun _ => PUnit) (.junk) (fun d => nK (.dt d)) (fun x0 _ => .agg x0) (fun x0 _ => .tup x0) (fun x0 x1 => .ptr x0 x1) (fun x0 x1 => .el x0 x1) (fun x0 x1 _ => .fn x0 x1) (fun x0 => .kb x0) (fun x0 x1 => .ki x0 x1) (fun x0 => .nm x0) (fun x0 x1 x2 x3 => .rp x0 x1 x2 x3) (fun x0 x1 x2 x3 => .ri x0 x1 x2 x3) (fun x0 x1 x2 x3 x4 => .sl x0 x1 x2 x3 x4) (fun x0 => .sy x0) PUnit.unit (fun _ _ _ _ => PUnit.unit) s
theorem yZ (s : SV) : nKS s = nK s := by cases s <;> rfl
def aaT (s : SV) : Bool := @SV.rec (fun _ => Bool) (fun _ => PUnit) (false) (fun d => fA (.dt d)) (fun _ _ => false) (fun _ _ => false) (fun _ _ => true) (fun _ _ => true) (fun _ _ _ => true) (fun _ => true) (fun _ _ => true) (fun _ => true) (fun _ _ _ _ => true) (fun _ _ _ _ => true) (fun _ _ _ _ _ => true) (fun _ => true) PUnit.unit (fun _ _ _ _ => PUnit.unit) s
theorem VI (s : SV) : aaT s = fA s := by cases s <;> rfl
def adg (s : SV) : OpK := @SV.rec (fun _ => OpK) (fun _ => PUnit) (aA) (fun _ => aA) (fun _ _ => aA) (fun _ _ => aA) (fun i f P X o ev ob nb k => k (.ptr i f) ob nb) (fun _ _ => aA) (fun _ _ _ => aA) (fun _ => aA) (fun _ _ => aA) (fun _ => aA) (fun i y z f P X o ev ob nb k => k (.rp i y z f) ob nb) (fun _ _ _ _ => aA) (fun _ _ _ _ _ => aA) (fun _ => aA) PUnit.unit (fun _ _ _ _ => PUnit.unit) s
def TM (x : Operand) : OpK := fun P X o ev ob nb k => adg (ev x) P X o ev ob nb k
theorem TN (x : Operand) : TM x = Um x := by
 funext P X o ev ob nb k
 unfold TM Um
 generalize ev x = s
 cases s <;> rfl
def aaj (s : SV) : Operand -> Operand -> OpK := @SV.rec (fun _ => Operand -> Operand -> OpK) (fun _ => PUnit) (fun _ _ => aA) (fun _ => fun _ _ => aA) (fun _ _ => fun _ _ => aA) (fun _ _ => fun _ _ => aA) (fun _ _ => fun _ _ => aA) (fun _ _ => fun _ _ => aA) (fun _ _ _ => fun _ _ => aA) (fun q a b P X o ev ob nb k => BR q (k (ev a) ob nb) (k (ev b) ob nb)) (fun _ _ => fun _ _ => aA) (fun _ => fun _ _ => aA) (fun _ _ _ _ => fun _ _ => aA) (fun _ _ _ _ => fun _ _ => aA) (fun _ _ _ _ _ => fun _ _ => aA) (fun _ => fun _ _ => aA) PUnit.unit (fun _ _ _ _ => PUnit.unit) s
def Oa (c a b : Operand) : OpK := fun P X o ev ob nb k => aaj (ev c) a b P X o ev ob nb k
theorem QK (c a b : Operand) : Oa c a b = Lc c a b := by
 funext P X o ev ob nb k
 unfold Oa Lc
 generalize ev c = s
 cases s <;> rfl
def aac (b : Ob) : TypeId -> Nat -> OpK := @Ob.rec (fun _ => TypeId -> Nat -> OpK) (fun _ cs t off P X o ev ob nb k => oB (ldK P t) .fail (aA P X o ev ob nb k) (KI cs off .fail fun s => k (nKS s) ob nb)) (fun _ _ _ _ => fun _ _ => failK) (fun _ => fun _ _ => failK) (fun _ _ _ => fun _ _ => failK) (fun _ _ _ => fun _ _ => failK) (fun _ _ _ _ _ => fun _ _ => failK) (fun _ _ _ => fun _ _ => failK) b
def RL (x : Option Ob) : TypeId -> Nat -> OpK := @Option.rec Ob (fun _ => TypeId -> Nat -> OpK) (fun _ _ => failK) aac x
def Xf (b : Ob) : TypeId -> Nat -> Nat -> Nat -> OpK := @Ob.rec (fun _ => TypeId -> Nat -> Nat -> Nat -> OpK) (fun _ _ => fun _ _ _ _ => aA) (fun _ _ _ _ => fun _ _ _ _ => aA) (fun _ => fun _ _ _ _ => aA) (fun _ _ _ => fun _ _ _ _ => aA) (fun _ _ _ => fun _ _ _ _ => aA) (fun _ sz' len tr _ t idx sz off P X o ev ob nb k => oB (ldK P t) .fail (szK P t fun n => BR (aQ (Nat.beq sz sz') (aQ (Nat.ble (Nat.add off n) sz) (Nat.blt idx len))) (k (.agg (oO tr n (Nat.add (Nat.mul idx sz) off))) ob nb) .fail) (BR (aQ (Nat.beq sz sz') (aQ (Nat.blt off sz) (Nat.blt idx len))) (k (nKS (gZ tr (Nat.add (Nat.mul idx sz) off))) ob nb) .fail)) (fun _ _ _ => fun _ _ _ _ => aA) b
def Yr (x : Option Ob) : TypeId -> Nat -> Nat -> Nat -> OpK := @Option.rec Ob (fun _ => TypeId -> Nat -> Nat -> Nat -> OpK) (fun _ _ _ _ => aA) Xf x
def aa3 (s : SV) : TypeId -> OpK := @SV.rec (fun _ => TypeId -> OpK) (fun _ => PUnit) (fun _ => aA) (fun _ => fun _ => aA) (fun _ _ => fun _ => aA) (fun _ _ => fun _ => aA) (fun i off t P X o ev ob nb k => RL (av ob i) t off P X o ev ob nb k) (fun _ _ => fun _ => aA) (fun _ _ _ => fun _ => aA) (fun _ => fun _ => aA) (fun _ _ => fun _ => aA) (fun _ => fun _ => aA) (fun i idx sz off t P X o ev ob nb k => Yr (av ob i) t idx sz off P X o ev ob nb k) (fun _ _ _ _ => fun _ => aA) (fun _ _ _ _ _ => fun _ => aA) (fun _ => fun _ => aA) PUnit.unit (fun _ _ _ _ => PUnit.unit) s
def M6 (t : TypeId) (x : Operand) : OpK := fun P X o ev ob nb k => aa3 (ev x) t P X o ev ob nb k
theorem Q8 (t : TypeId) (x : Operand) : M6 t x = GX t x := by
 funext P X o ev ob nb k
 unfold M6 GX
 generalize ev x = s
 cases s with
 | ptr i off =>
   show RL (av ob i) t off P X o ev ob nb k = _
   simp only
   generalize av ob i = y
   cases y with
   | none => rfl
   | some b => cases b <;> first | rfl | (simp only [RL, aac, yZ])
 | rp i idx sz off =>
   show Yr (av ob i) t idx sz off P X o ev ob nb k = _
   simp only
   generalize av ob i = y
   cases y with
   | none => rfl
   | some b => cases b <;> first | rfl | (simp only [Yr, Xf, yZ, iM, Nat.add_eq])
 | _ => rfl
def Z8 (b : Ob) : TypeId -> Nat -> Nat -> SV -> OpK := @Ob.rec (fun _ => TypeId -> Nat -> Nat -> SV -> OpK) (fun t' cs t i off xv P X o ev ob nb k => BR (OL P t) (BR (aaT xv) (BR (aQ (Nat.ble X.base i) (Nat.ble (Nat.succ off) cs.length)) (k .junk (mH ob i (some (.cells t' (WE cs off xv)))) nb) .fail) (aA P X o ev ob nb k)) (aA P X o ev ob nb k)) (fun _ _ _ _ => fun _ _ _ _ => failK) (fun _ => fun _ _ _ _ => failK) (fun _ _ _ => fun _ _ _ _ => failK) (fun _ _ _ => fun _ _ _ _ => failK) (fun _ _ _ _ _ => fun _ _ _ _ => failK) (fun _ _ _ => fun _ _ _ _ => failK) b
def UM (x : Option Ob) : TypeId -> Nat -> Nat -> SV -> OpK := @Option.rec Ob (fun _ => TypeId -> Nat -> Nat -> SV -> OpK) (fun _ _ _ _ => failK) Z8 x
def Y0 (s : SV) : TypeId -> Operand -> OpK := @SV.rec (fun _ => TypeId -> Operand -> OpK) (fun _ => PUnit) (fun _ _ => aA) (fun _ => fun _ _ => aA) (fun _ _ => fun _ _ => aA) (fun _ _ => fun _ _ => aA) (fun i off t x P X o ev ob nb k => UM (av ob i) t i off (ev x) P X o ev ob nb k) (fun _ _ => fun _ _ => aA) (fun _ _ _ => fun _ _ => aA) (fun _ => fun _ _ => aA) (fun _ _ => fun _ _ => aA) (fun _ => fun _ _ => aA) (fun _ _ _ _ => fun _ _ => aA) (fun _ _ _ _ => fun _ _ => aA) (fun _ _ _ _ _ => fun _ _ => aA) (fun _ => fun _ _ => aA) PUnit.unit (fun _ _ _ _ => PUnit.unit) s
def I7 (t : TypeId) (p x : Operand) : OpK := fun P X o ev ob nb k => Y0 (ev p) t x P X o ev ob nb k
theorem Ms (t : TypeId) (p x : Operand) : I7 t p x = xS t p x := by
 funext P X o ev ob nb k
 unfold I7 xS
 generalize ev p = s
 cases s with
 | ptr i off =>
   show UM (av ob i) t i off (ev x) P X o ev ob nb k = _
   simp only
   generalize av ob i = y
   cases y with
   | none => rfl
   | some b => cases b <;> first | rfl | (simp only [UM, Z8, VI, iM, Nat.succ_eq_add_one])
 | _ => rfl
def faE (s : SV) : TypeId -> Nat -> OpK := @SV.rec (fun _ => TypeId -> Nat -> OpK) (fun _ => PUnit) (fun _ _ => aA) (fun _ => fun _ _ => aA) (fun _ _ => fun _ _ => aA) (fun _ _ => fun _ _ => aA) (fun i off s f P X o ev ob nb k => oN (faK P s f) .fail fun d => fN (Nat.add off d) fun a => k (.ptr i a) ob nb) (fun _ _ => fun _ _ => aA) (fun _ _ _ => fun _ _ => aA) (fun _ => fun _ _ => aA) (fun _ _ => fun _ _ => aA) (fun _ => fun _ _ => aA) (fun i idx sz off s f P X o ev ob nb k => oN (faK P s f) .fail fun d => fN (Nat.add off d) fun a => k (.rp i idx sz a) ob nb) (fun _ _ _ _ => fun _ _ => aA) (fun _ _ _ _ _ => fun _ _ => aA) (fun _ => fun _ _ => aA) PUnit.unit (fun _ _ _ _ => PUnit.unit) s
def qg (s : TypeId) (x : Operand) (f : Nat) : OpK := fun P X o ev ob nb k => faE (ev x) s f P X o ev ob nb k
theorem DN (s : TypeId) (x : Operand) (f : Nat) : qg s x f = kZ s x f := by
 funext P X o ev ob nb k
 unfold qg kZ
 generalize ev x = s
 cases s <;> rfl
def XY (op : BinOp) : IntKind -> Int -> Int -> R -> (SV -> R) -> R := @BinOp.rec (fun _ => IntKind -> Int -> Int -> R -> (SV -> R) -> R) (fun k x y _ c => Qf k (Int.add x y) c) (fun k x y _ c => Qf k (Int.sub x y) c) (fun _ _ _ g _ => g) (fun _ _ _ g _ => g) (fun _ _ _ g _ => g) (fun _ _ _ g _ => g) (fun _ _ _ g _ => g) (fun _ _ _ g _ => g) (fun _ _ _ g _ => g) (fun _ _ _ g _ => g) (fun _ _ _ g _ => g) (fun _ x y _ c => c (.kb (eqI x y))) (fun _ x y _ c => c (.kb (nB (eqI x y)))) (fun _ x y _ c => c (.kb (Cj x y))) (fun _ x y _ c => c (.kb (nB (Cj y x)))) (fun _ x y _ c => c (.kb (Cj y x))) (fun _ x y _ c => c (.kb (nB (Cj x y)))) op
theorem WU (op : BinOp) (k : IntKind) (x y : Int) (g : R) (c : SV -> R) : XY op k x y g c = OZ op k x y g c := by cases op <;> rfl
def abt (s : SV) : IntKind -> Int -> BinOp -> OpK := @SV.rec (fun _ => IntKind -> Int -> BinOp -> OpK) (fun _ => PUnit) (fun _ _ _ => aA) (fun _ => fun _ _ _ => aA) (fun _ _ => fun _ _ _ => aA) (fun _ _ => fun _ _ _ => aA) (fun _ _ => fun _ _ _ => aA) (fun _ _ => fun _ _ _ => aA) (fun _ _ _ => fun _ _ _ => aA) (fun _ => fun _ _ _ => aA) (fun kk' b kk a op P X o ev ob nb k => BR (eG kk kk') (XY op kk a b (aA P X o ev ob nb k) fun s => k s ob nb) .fail) (fun _ => fun _ _ _ => aA) (fun _ _ _ _ => fun _ _ _ => aA) (fun _ _ _ _ => fun _ _ _ => aA) (fun _ _ _ _ _ => fun _ _ _ => aA) (fun _ => fun _ _ _ => aA) PUnit.unit (fun _ _ _ _ => PUnit.unit) s
def ac3 (s : SV) : BinOp -> Operand -> OpK := @SV.rec (fun _ => BinOp -> Operand -> OpK) (fun _ => PUnit) (fun _ _ => aA) (fun _ => fun _ _ => aA) (fun _ _ => fun _ _ => aA) (fun _ _ => fun _ _ => aA) (fun _ _ => fun _ _ => aA) (fun _ _ => fun _ _ => aA) (fun _ _ _ => fun _ _ => aA) (fun _ => fun _ _ => aA) (fun kk a op y P X o ev ob nb k => abt (ev y) kk a op P X o ev ob nb k) (fun _ => fun _ _ => aA) (fun _ _ _ _ => fun _ _ => aA) (fun _ _ _ _ => fun _ _ => aA) (fun _ _ _ _ _ => fun _ _ => aA) (fun _ => fun _ _ => aA) PUnit.unit (fun _ _ _ _ => PUnit.unit) s
def RQ (op : BinOp) (x y : Operand) : OpK := fun P X o ev ob nb k => BR (Vd y) (aA P X o ev ob nb k) (ac3 (ev x) op y P X o ev ob nb k)
theorem TU (op : BinOp) (x y : Operand) : RQ op x y = UJ op x y := by
 funext P X o ev ob nb k
 unfold RQ UJ
 congr 1
 generalize ev x = s
 cases s with
 | ki kk a =>
   show abt (ev y) kk a op P X o ev ob nb k = _
   generalize ev y = r
   cases r with
   | ki kk' b => show BR _ (XY _ _ _ _ _ _) _ = _; rw [WU]
   | _ => rfl
 | _ => rfl
def fnX (s : SV) : List Operand -> OpK := @SV.rec (fun _ => List Operand -> OpK) (fun _ => PUnit) (fun _ => failK) (fun _ => fun _ => failK) (fun _ _ => fun _ => failK) (fun _ _ => fun _ => failK) (fun _ _ => fun _ => failK) (fun _ _ => fun _ => failK) (fun fk caps _ args P X o ev ob nb k => X.I X.top X.base fk (Oe args ev caps) ob nb k) (fun _ => fun _ => failK) (fun _ _ => fun _ => failK) (fun _ => fun _ => failK) (fun _ _ _ _ => fun _ => failK) (fun _ _ _ _ => fun _ => failK) (fun _ _ _ _ _ => fun _ => failK) (fun _ => fun _ => failK) PUnit.unit (fun _ _ _ _ => PUnit.unit) s
def YN (f : Operand) (args : List Operand) : OpK := fun P X o ev ob nb k => fnX (ev f) args P X o ev ob nb k
theorem Wh (f : Operand) (args : List Operand) : YN f args = kFn f args := by
 funext P X o ev ob nb k
 unfold YN kFn
 generalize ev f = s
 cases s <;> rfl
def aaW (s : SV) : Nat -> Nat -> Nat -> Nat -> TypeId -> OpK := @SV.rec (fun _ => Nat -> Nat -> Nat -> Nat -> TypeId -> OpK) (fun _ => PUnit) (fun _ _ _ _ _ => aA) (fun _ => fun _ _ _ _ _ => aA) (fun _ _ => fun _ _ _ _ _ => aA) (fun _ _ => fun _ _ _ _ _ => aA) (fun _ _ => fun _ _ _ _ _ => aA) (fun _ _ => fun _ _ _ _ _ => aA) (fun _ _ _ => fun _ _ _ _ _ => aA) (fun _ => fun _ _ _ _ _ => aA) (fun _ iv q z o' n t P X o ev ob nb k => oN (iaK P t) .fail fun z' => BR (Nat.beq z' z) (ltI iv n fun m => fN (Nat.add o' m) fun a => k (.rp q a z 0) ob nb) .fail) (fun _ => fun _ _ _ _ _ => aA) (fun _ _ _ _ => fun _ _ _ _ _ => aA) (fun _ _ _ _ => fun _ _ _ _ _ => aA) (fun _ _ _ _ _ => fun _ _ _ _ _ => aA) (fun _ => fun _ _ _ _ _ => aA) PUnit.unit (fun _ _ _ _ => PUnit.unit) s
def acV (s : SV) : TypeId -> Operand -> OpK := @SV.rec (fun _ => TypeId -> Operand -> OpK) (fun _ => PUnit) (fun _ _ => aA) (fun _ => fun _ _ => aA) (fun _ _ => fun _ _ => aA) (fun _ _ => fun _ _ => aA) (fun _ _ => fun _ _ => aA) (fun _ _ => fun _ _ => aA) (fun _ _ _ => fun _ _ => aA) (fun _ => fun _ _ => aA) (fun _ _ => fun _ _ => aA) (fun _ => fun _ _ => aA) (fun _ _ _ _ => fun _ _ => aA) (fun _ _ _ _ => fun _ _ => aA) (fun q z o' n _ t i P X o ev ob nb k => aaW (ev i) q z o' n t P X o ev ob nb k) (fun _ => fun _ _ => aA) PUnit.unit (fun _ _ _ _ => PUnit.unit) s
def U4 (t : TypeId) (x i : Operand) : OpK := fun P X o ev ob nb k => acV (ev x) t i P X o ev ob nb k
theorem TT (t : TypeId) (x i : Operand) : U4 t x i = Lp t x i := by
 funext P X o ev ob nb k
 unfold U4 Lp
 generalize ev x = s
 cases s with
 | sl q z o' n c =>
   show aaW (ev i) q z o' n t P X o ev ob nb k = _
   generalize ev i = r
   cases r <;> rfl
 | _ => rfl
def acL (s : SV) : TypeId -> OpK := @SV.rec (fun _ => TypeId -> OpK) (fun _ => PUnit) (fun _ => aA) (fun _ => fun _ => aA) (fun _ _ => fun _ => aA) (fun _ _ => fun _ => aA) (fun _ _ => fun _ => aA) (fun _ _ => fun _ => aA) (fun _ _ _ => fun _ => aA) (fun _ => fun _ => aA) (fun _ _ => fun _ => aA) (fun _ => fun _ => aA) (fun _ _ _ _ => fun _ => aA) (fun _ _ _ _ => fun _ => aA) (fun _ _ _ n _ t P X o ev ob nb k => BR (VT P t) (k (.ki .i64 (.ofNat n)) ob nb) .fail) (fun _ => fun _ => aA) PUnit.unit (fun _ _ _ _ => PUnit.unit) s
def SF (t : TypeId) (x : Operand) : OpK := fun P X o ev ob nb k => acL (ev x) t P X o ev ob nb k
theorem Ti (t : TypeId) (x : Operand) : SF t x = VK t x := by
 funext P X o ev ob nb k
 unfold SF VK
 generalize ev x = s
 cases s <;> rfl
def exE (s : SV) : Nat -> OpK := @SV.rec (fun _ => Nat -> OpK) (fun _ => PUnit) (fun _ => aA) (fun _ => fun _ => aA) (fun _ _ => fun _ => aA) (fun l _ i P X o ev ob nb k => KI l i .fail fun s => k (nKS s) ob nb) (fun _ _ => fun _ => aA) (fun _ _ => fun _ => aA) (fun _ _ _ => fun _ => aA) (fun _ => fun _ => aA) (fun _ _ => fun _ => aA) (fun _ => fun _ => aA) (fun _ _ _ _ => fun _ => aA) (fun _ _ _ _ => fun _ => aA) (fun _ _ _ _ _ => fun _ => aA) (fun _ => fun _ => aA) PUnit.unit (fun _ _ _ _ => PUnit.unit) s
def X8 (x : Operand) (i : Nat) : OpK := fun P X o ev ob nb k => exE (ev x) i P X o ev ob nb k
theorem V5 (x : Operand) (i : Nat) : X8 x i = qE x i := by
 funext P X o ev ob nb k
 unfold X8 qE
 generalize ev x = s
 cases s <;> first | rfl | (simp only [exE, yZ])
def unE (s : SV) : OpK := @SV.rec (fun _ => OpK) (fun _ => PUnit) (aA) (fun _ => aA) (fun _ _ => aA) (fun _ _ => aA) (fun _ _ => aA) (fun _ _ => aA) (fun _ _ _ => aA) (fun b P X o ev ob nb k => k (.kb (nB b)) ob nb) (fun _ _ => aA) (fun _ => aA) (fun _ _ _ _ => aA) (fun _ _ _ _ => aA) (fun _ _ _ _ _ => aA) (fun _ => aA) PUnit.unit (fun _ _ _ _ => PUnit.unit) s
def abm (x : Operand) : OpK := fun P X o ev ob nb k => unE (ev x) P X o ev ob nb k
structure OBox where
 f : OpK
def unB (op : UnOp) (x : Operand) : OBox := match op with
 | .not => ⟨abm x⟩
 | _ => ⟨aA⟩
theorem Yl (op : UnOp) (x : Operand) : (unB op x).f = kUn op x := by
 funext P X o ev ob nb k
 cases op
 case not =>
  show unE (ev x) P X o ev ob nb k = kUn .not x P X o ev ob nb k
  unfold kUn
  generalize ev x = s
  cases s <;> rfl
 all_goals
  show aA P X o ev ob nb k = kUn _ x P X o ev ob nb k
  unfold kUn
  generalize ev x = s
  cases s <;> rfl
def ZA (b : Builtin) (as : List Operand) (ts : List TypeId) : OBox := match b, as, ts with
 | .len, [x], [t] => ⟨SF t x⟩
 | _, _, _ => ⟨aA⟩
theorem WJ (c : Call) (b : Builtin) : (ZA b c.args.toList c.argTypes.toList).f = qo c b := by
 unfold ZA qo
 split
 · rename_i x t _ _
   rw [Ti]
   funext P X o ev ob nb k
   simp_all
 · rename_i h
   funext P X o ev ob nb k
   split
   · rename_i h1 h2 h3
     exact (h _ _ rfl h2 h3).elim
   · rfl
def Uj (c : Call) : OBox := match c.callee with
 | .value f => ⟨YN f c.args.toList⟩
 | .builtin b => ZA b c.args.toList c.argTypes.toList
 | _ => ⟨aA⟩
theorem Uw (c : Call) : (Uj c).f = Mc c := by
 unfold Uj Mc
 cases c.callee <;> first | exact Wh _ _ | exact WJ c _ | rfl
def opB (o : Oper) : OBox := match o.op with
 | .move x => ⟨G8 x⟩
 | .assign x => ⟨G8 x⟩
 | .pick c a b => ⟨Oa c a b⟩
 | .alloc t => ⟨Nb t⟩
 | .box t x => ⟨YQ t x⟩
 | .build t ps => ⟨Np t ps⟩
 | .load t x => ⟨M6 t x⟩
 | .store t p x => ⟨I7 t p x⟩
 | .nilCheck x => ⟨TM x⟩
 | .binOp op t x y _ => ⟨RQ op x y⟩
 | .unOp op _ x => unB op x
 | .fieldAddr s x f => ⟨qg s x f⟩
 | .field t x f => ⟨MU t x f⟩
 | .indexAddr t x i => ⟨U4 t x i⟩
 | .index t x i => ⟨NK t x i⟩
 | .lookup t x i ok => ⟨JE t x i ok⟩
 | .extract x i => ⟨X8 x i⟩
 | .call c => Uj c
 | .range t x => ⟨M0 t x⟩
 | .entry x => ⟨MW x⟩
 | .next _ _ => ⟨failK⟩
 | _ => ⟨aA⟩
def opS (o : Oper) : OpK := (opB o).f
theorem YV (o : Oper) : opS o = opG o := by
 unfold opS opB opG
 cases o.op <;> first | rfl | exact QK _ _ _ | exact Q8 _ _ | exact Ms _ _ _ | exact TN _ | exact TU _ _ _ | exact Yl _ _ | exact DN _ _ _ | exact TT _ _ _ | exact V5 _ _ | exact Uw _
def brE (s : SV) : R -> R -> R -> R := @SV.rec (fun _ => R -> R -> R -> R) (fun _ => PUnit) (fun _ _ c => c) (fun _ => fun _ _ c => c) (fun _ _ => fun _ _ c => c) (fun _ _ => fun _ _ c => c) (fun _ _ => fun _ _ c => c) (fun _ _ => fun _ _ c => c) (fun _ _ _ => fun _ _ c => c) (fun q a b _ => BR q a b) (fun _ _ => fun _ _ c => c) (fun _ => fun _ _ c => c) (fun _ _ _ _ => fun _ _ c => c) (fun _ _ _ _ => fun _ _ c => c) (fun _ _ _ _ _ => fun _ _ c => c) (fun _ => fun _ _ c => c) PUnit.unit (fun _ _ _ _ => PUnit.unit) s
theorem Yd (s : SV) (a b c : R) : brE s a b c = match s with
 | .kb q => BR q a b
 | _ => c := by cases s <;> rfl
end
end Rx
set_option linter.unusedSectionVars false
set_option linter.unusedSimpArgs false
set_option linter.unusedVariables false
namespace Rx
open Go
variable [Glob]
noncomputable section
abbrev KS := Tr SV -> OB -> Nat -> R
def evG (fl : Nat) (sl : Tr SV) (lo : Lo) : Ev := @Operand.rec (fun _ => SV) (fun t => view fl sl lo t) (fun v => nK (ofConst v)) (fun g => VY g) (fun f => .fn f [])
theorem NJ (fl : Nat) (sl : Tr SV) (lo : Lo) : evG fl sl lo = evC (view fl sl lo) := by
 funext x
 cases x <;> rfl
abbrev IH := Tr SV -> Lo -> OB -> Nat -> KS -> R
def Ii (fl : Nat) (d : Option Tmp) (ih : IH) (sl : Tr SV) (lo : Lo) (s : SV) (ob : OB) (nb : Nat) (k : KS) : R :=
 @Option.rec Tmp (fun _ => R) (ih sl lo ob nb k) (fun d => QB s fun s => BR (gG fl d) (ih (qG sl d s) lo ob nb k) (ih sl (.cons d s lo) ob nb k)) d
def goG (P : Program) (X : EX) (fl : Nat) (o : Oper) (ih : IH) : IH := fun sl lo ob nb k =>
 opS o P X o (evG fl sl lo) ob nb fun s ob nb => Ii fl o.dst ih sl lo s ob nb k
def skG (fl : Nat) (o : Oper) (ih : IH) : IH := fun sl lo ob nb k => Ii fl o.dst ih sl lo eU ob nb k
def gdR (P : Program) (X : EX) (fl : Nat) (o : Oper) (ih : IH) (s : SV) : IH := fun sl lo ob nb k =>
    match s with
     | .dt (.cell (.tuple _)) => skG fl o ih sl lo ob nb k
     | _ => .fail
def gdT (P : Program) (X : EX) (fl : Nat) (o : Oper) (ih : IH) (w : Bool) (t : Tmp) : IH := fun sl lo ob nb k =>
    brE (view fl sl lo t) (BR w (goG P X fl o ih sl lo ob nb k) (skG fl o ih sl lo ob nb k)) (BR w (skG fl o ih sl lo ob nb k) (goG P X fl o ih sl lo ob nb k)) (gdR P X fl o ih (view fl sl lo t) sl lo ob nb k)
def gdG (P : Program) (X : EX) (fl : Nat) (ops : Array Oper) (o : Oper) (ih : IH) (g : Nat × Bool) : IH :=
    @Option.rec Tmp (fun _ => IH) (fun _ _ _ _ _ => .fail) (gdT P X fl o ih g.2) ((ops[g.1]?).bind (·.dst))
theorem ZE (P : Program) (X : EX) (fl : Nat) (o : Oper) (ih : IH) (w : Bool) (t : Tmp) (sl : Tr SV) (lo : Lo) (ob : OB) (nb : Nat) (k : KS) : gdT P X fl o ih w t sl lo ob nb k = match view fl sl lo t with
     | .kb b => BR b (BR w (goG P X fl o ih sl lo ob nb k) (skG fl o ih sl lo ob nb k)) (BR w (skG fl o ih sl lo ob nb k) (goG P X fl o ih sl lo ob nb k))
     | .dt (.cell (.tuple _)) => skG fl o ih sl lo ob nb k
     | _ => .fail := by
 unfold gdT
 generalize view fl sl lo t = s
 cases s with
 | dt d => cases d with
   | cell v => cases v <;> rfl
   | _ => rfl
 | _ => rfl
theorem Y6 (P : Program) (X : EX) (fl : Nat) (ops : Array Oper) (o : Oper) (ih : IH) (g : Nat × Bool) (sl : Tr SV) (lo : Lo) (ob : OB) (nb : Nat) (k : KS) : gdG P X fl ops o ih g sl lo ob nb k = match (ops[g.1]?).bind (·.dst) with
   | none => .fail
   | some t => match view fl sl lo t with
     | .kb b => BR b (BR g.2 (goG P X fl o ih sl lo ob nb k) (skG fl o ih sl lo ob nb k)) (BR g.2 (skG fl o ih sl lo ob nb k) (goG P X fl o ih sl lo ob nb k))
     | .dt (.cell (.tuple _)) => skG fl o ih sl lo ob nb k
     | _ => .fail := by
 unfold gdG
 cases (ops[g.1]?).bind (·.dst) with
 | none => rfl
 | some t => exact ZE P X fl o ih g.2 t sl lo ob nb k
def stG (P : Program) (X : EX) (fl : Nat) (ops : Array Oper) (o : Oper) (ih : IH) : IH :=
    @Option.rec (Nat × Bool) (fun _ => IH) (goG P X fl o ih) (gdG P X fl ops o ih) o.guard
def U0 (P : Program) (X : EX) (fl : Nat) (ops : Array Oper) (l : List Oper) : IH :=
 @List.rec Oper (fun _ => IH) (fun sl lo ob nb k => k sl ob nb) (fun o _ ih => stG P X fl ops o ih) l
def okD (N : Nat) (ops : Array Oper) : Bool := ops.toList.all fun o => gF N o.dst
theorem Cn {fl : Nat} {sl : Tr SV} {lo : Lo} {d : Nat} {s : SV} (hd : d < 16777215) : (gG fl d = true -> view fl (qG sl d s) lo = putT (some d) s (view fl sl lo)) /\ (gG fl d = false -> view fl sl (.cons d s lo) = putT (some d) s (view fl sl lo)) := by
 constructor
 · intro hb
   funext j
   show BS (gG fl j) (gZ (qG sl d s) j) (look lo j) = lS (some d) j s (BS (gG fl j) (gZ sl j) (look lo j))
   rw [aW, vL j hd]
   by_cases e : j = d
   · subst e; rw [hb, if_pos rfl, if_pos rfl]; rfl
   · rw [if_neg e, if_neg e]
 · intro hb
   funext j
   show BS (gG fl j) (gZ sl j) (BS (Nat.beq d j) s (look lo j)) = lS (some d) j s (BS (gG fl j) (gZ sl j) (look lo j))
   rw [aW]
   by_cases e : j = d
   · subst e; rw [hb, if_pos rfl, Nat.beq_refl]; rfl
   · rw [if_neg e, d9 (fun h => e h.symm)]; rfl
def KS1 (fl : Nat) (post : SV × HD -> Prop) (ih : IH) (k : KS) (σ : CS) : Prop :=
 ∃ sl lo ob, σ = ⟨view fl sl lo, ⟨av ob, σ.h.nob⟩⟩ /\ (ih sl lo ob σ.h.nob k).holds post
section
variable {E : CEnv} {X : EX} {fl : Nat} {post : SV × HD -> Prop}
theorem J5 {d : Option Tmp} {ih : IH} {sl : Tr SV} {lo : Lo} {s : SV} {ob : OB} {nb : Nat} {k : KS} (hd : gF E.N d = true) (hN : E.N <= 16777215) (h : (Ii fl d ih sl lo s ob nb k).holds post) :
  KS1 fl post ih k ⟨putT d s (view fl sl lo), ⟨av ob, nb⟩⟩ := by
 cases d with
 | none => exact ⟨sl, lo, ob, rfl, h⟩
 | some d =>
   have hd : d < 16777215 := Nat.lt_of_lt_of_le (show d < E.N by simpa [gF, Nat.blt_eq] using hd) hN
   have h : (QB s fun s => BR (gG fl d) (ih (qG sl d s) lo ob nb k) (ih sl (.cons d s lo) ob nb k)).holds post := h
   rw [PE, dN] at h
   obtain ⟨h1, h2⟩ := Cn (fl := fl) (sl := sl) (lo := lo) (s := s) hd
   cases hb : gG fl d with
   | true => rw [hb] at h; exact ⟨_, lo, ob, by rw [← h1 hb], h⟩
   | false => rw [hb] at h; exact ⟨sl, _, ob, by rw [← h2 hb], h⟩
theorem I6 {o : Oper} {ih : IH} {sl : Tr SV} {lo : Lo} {ob : OB} {nb : Nat} {k : KS} {rid i : Nat} (hX : XRef X E) (hd : gF E.N o.dst = true) (hN : E.N <= 16777215) (hT : dW E.top nb) (hF : FOk ob nb)
  (h : (goG E.P X fl o ih sl lo ob nb k).holds post) : (bS E rid i (evC (view fl sl lo)) ⟨av ob, nb⟩ o).holds fun y => KS1 fl post ih k ⟨putT o.dst y.1 (view fl sl lo), y.2⟩ := by
 unfold goG at h
 rw [NJ, YV] at h
 refine T.aC (fun y hy => ?_) _ (WZ hX hT hF h)
 obtain ⟨ob', h1, h2⟩ := hy
 have := J5 (E := E) hd hN h2
 have e : y.2 = ⟨av ob', y.2.nob⟩ := by rw [← h1]
 rw [e]
 exact this
theorem IB {ops : Array Oper} {o : Oper} {ih : IH} {sl : Tr SV} {lo : Lo} {ob : OB} {nb : Nat} {k : KS} {rid i : Nat} (hX : XRef X E) (hok : okD E.N ops = true) (hd : gF E.N o.dst = true) (hN : E.N <= 16777215) (hT : dW E.top nb) (hF : FOk ob nb)
  (h : (stG E.P X fl ops o ih sl lo ob nb k).holds post) : (stC E ops rid i o ⟨view fl sl lo, ⟨av ob, nb⟩⟩).holds fun y => KS1 fl post ih k ⟨putT o.dst y.1 (view fl sl lo), y.2⟩ := by
 unfold stC
 rw [hd, cond_true]
 unfold stG at h
 cases hg : o.guard with
 | none => rw [hg] at h; exact I6 hX hd hN hT hF h
 | some g =>
   obtain ⟨j, want⟩ := g
   rw [hg] at h
   have h : (gdG E.P X fl ops o ih (j, want) sl lo ob nb k).holds post := h
   rw [Y6] at h
   simp only at h ⊢
   have sk : (skG fl o ih sl lo ob nb k).holds post -> (T.ret (eU, (⟨av ob, nb⟩ : HS)) : T (SV × HS)).holds fun y => KS1 fl post ih k ⟨putT o.dst y.1 (view fl sl lo), y.2⟩ := fun h => J5 (E := E) hd hN h
   split at h
   · exact h.elim
   · rename_i t ht
     simp only [ht]
     have hdt : gF E.N (some t) = true := by
        cases hj : ops[j]? with
        | none => rw [hj] at ht; cases ht
        | some oj =>
          rw [hj] at ht
          have hm : oj ∈ ops.toList := by simpa using Array.mem_of_getElem? hj
          have := List.all_eq_true.1 hok oj hm
          rw [show oj.dst = some t from ht] at this
          exact this
     rw [hdt, cond_true]
     split at h
     · rename_i b hb
       simp only [hb]
       rw [dN] at h
       cases b with
       | true =>
         rw [cond_true, dN] at h
         cases want with
         | true => exact I6 hX hd hN hT hF h
         | false => exact sk h
       | false =>
         rw [cond_false, dN] at h
         cases want with
         | true => exact sk h
         | false => exact I6 hX hd hN hT hF h
     · rename_i x hx
       simp only [hx]
       exact sk h
     · exact h.elim
theorem wJ (hE : E.Ok) {ops : Array Oper} {k : KS} {rid : Nat} (hX : XRef X E) (hok : okD E.N ops = true) (hN : E.N <= 16777215) : ∀ (l : List Oper) (i : Nat) (sl : Tr SV) (lo : Lo) (ob : OB) (nb : Nat), (∀ o ∈ l, gF E.N o.dst = true) -> dW E.top nb -> FOk ob nb ->
  (U0 E.P X fl ops l sl lo ob nb k).holds post -> (lH E ops rid i l ⟨view fl sl lo, ⟨av ob, nb⟩⟩).holds (KS1 fl post (fun sl _ ob nb k => k sl ob nb) k)
 | [], i, sl, lo, ob, nb, _, _, _, h => ⟨sl, lo, ob, rfl, h⟩
 | o :: l, i, sl, lo, ob, nb, hd, hT, hF, h => by
   simp only [lH, T.ak]
   have h1 := IB (rid := rid) (i := i) hX hok (hd o (by simp)) hN hT hF (show (stG E.P X fl ops o (U0 E.P X fl ops l) sl lo ob nb k).holds post from h)
   have h2 := T.aX (iF hE (ops := ops) (rid := rid) (i := i) o (σ := ⟨view fl sl lo, ⟨av ob, nb⟩⟩) hF) h1
   refine T.aC (fun y hy => ?_) _ h2
   obtain ⟨⟨g1, g2, g3⟩, sl', lo', ob', e, hh⟩ := hy
   rw [e]
   have eh : y.2 = ⟨av ob', y.2.nob⟩ := congrArg CS.h e
   have hT' : dW E.top y.2.nob := by
     have g3 : y.2.nob <= max E.top nb := g3
     have := hT.1
     exact ⟨by omega, hT.2⟩
   exact wJ hE hX hok hN l (i + 1) sl' lo' ob' y.2.nob (fun o ho => hd o (by simp [ho])) hT' (fun i hi => by
     have := g1 i hi
     rw [eh] at this
     exact this) hh
end
end
end Rx
