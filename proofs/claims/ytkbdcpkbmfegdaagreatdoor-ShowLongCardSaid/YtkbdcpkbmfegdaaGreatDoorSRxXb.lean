/- Rx, part Xb: slim eliminators for the kernel: all arms are closed, so nothing is copied. Printed by gen/slim.py. -/
import Derived.Test.YtkbdcpkbmfegdaaGreatDoorSRxX2
set_option linter.unusedSectionVars false
set_option linter.unusedSimpArgs false
set_option linter.unusedVariables false
namespace Rx
open Go
variable [Glob]
noncomputable section
def aK (a b : Bool) : Bool := @Bool.rec (fun _ => Bool) false b a
theorem ig (a b : Bool) : aK a b = (a && b) := by cases a <;> rfl
def failK : OpK := fun _ _ _ _ _ _ _ => .fail
def nKS (s : SV) : SV := @SV.rec (fun _ => SV) (fun _ => PUnit) (.junk) (fun d => nK (.dt d)) (fun x0 _ => .agg x0) (fun x0 _ => .tup x0) (fun x0 x1 => .ptr x0 x1) (fun x0 x1 => .el x0 x1) (fun x0 x1 _ => .fn x0 x1) (fun x0 => .kb x0) (fun x0 x1 => .ki x0 x1) (fun x0 => .nm x0) (fun x0 x1 x2 x3 => .rp x0 x1 x2 x3) (fun x0 x1 x2 x3 => .ri x0 x1 x2 x3) (fun x0 x1 x2 x3 x4 => .sl x0 x1 x2 x3 x4) (fun x0 => .sy x0) PUnit.unit (fun _ _ _ _ => PUnit.unit) s
theorem vo (s : SV) : nKS s = nK s := by cases s <;> rfl
def afg (s : SV) : Bool := @SV.rec (fun _ => Bool) (fun _ => PUnit) (false) (fun d => eB (.dt d)) (fun _ _ => false) (fun _ _ => false) (fun _ _ => true) (fun _ _ => true) (fun _ _ _ => true) (fun _ => true) (fun _ _ => true) (fun _ => true) (fun _ _ _ _ => true) (fun _ _ _ _ => true) (fun _ _ _ _ _ => true) (fun _ => true) PUnit.unit (fun _ _ _ _ => PUnit.unit) s
theorem WG (s : SV) : afg s = eB s := by cases s <;> rfl
def aiN (s : SV) : OpK := @SV.rec (fun _ => OpK) (fun _ => PUnit) (aA) (fun _ => aA) (fun _ _ => aA) (fun _ _ => aA) (fun i f P X o ev ob nb k => k (.ptr i f) ob nb) (fun _ _ => aA) (fun _ _ _ => aA) (fun _ => aA) (fun _ _ => aA) (fun _ => aA) (fun i y z f P X o ev ob nb k => k (.rp i y z f) ob nb) (fun _ _ _ _ => aA) (fun _ _ _ _ _ => aA) (fun _ => aA) PUnit.unit (fun _ _ _ _ => PUnit.unit) s
def RZ (x : Operand) : OpK := fun P X o ev ob nb k => aiN (ev x) P X o ev ob nb k
theorem R3 (x : Operand) : RZ x = RY x := by
 funext P X o ev ob nb k
 unfold RZ RY
 generalize ev x = s
 cases s <;> rfl
def afh (s : SV) : Operand -> Operand -> OpK := @SV.rec (fun _ => Operand -> Operand -> OpK) (fun _ => PUnit) (fun _ _ => aA) (fun _ => fun _ _ => aA) (fun _ _ => fun _ _ => aA) (fun _ _ => fun _ _ => aA) (fun _ _ => fun _ _ => aA) (fun _ _ => fun _ _ => aA) (fun _ _ _ => fun _ _ => aA) (fun q a b P X o ev ob nb k => BR q (k (ev a) ob nb) (k (ev b) ob nb)) (fun _ _ => fun _ _ => aA) (fun _ => fun _ _ => aA) (fun _ _ _ _ => fun _ _ => aA) (fun _ _ _ _ => fun _ _ => aA) (fun _ _ _ _ _ => fun _ _ => aA) (fun _ => fun _ _ => aA) PUnit.unit (fun _ _ _ _ => PUnit.unit) s
def KJ (c a b : Operand) : OpK := fun P X o ev ob nb k => afh (ev c) a b P X o ev ob nb k
theorem PU (c a b : Operand) : KJ c a b = IL c a b := by
 funext P X o ev ob nb k
 unfold KJ IL
 generalize ev c = s
 cases s <;> rfl
def ae8 (b : Ob) : TypeId -> Nat -> OpK := @Ob.rec (fun _ => TypeId -> Nat -> OpK) (fun _ cs t off P X o ev ob nb k => oB (ldK P t) .fail (aA P X o ev ob nb k) (Je cs off .fail fun s => k (nKS s) ob nb)) (fun _ _ _ _ => fun _ _ => failK) (fun _ => fun _ _ => failK) (fun _ _ _ => fun _ _ => failK) (fun _ _ _ => fun _ _ => failK) (fun _ _ _ _ _ => fun _ _ => failK) (fun _ _ _ => fun _ _ => failK) b
def R7 (x : Option Ob) : TypeId -> Nat -> OpK := @Option.rec Ob (fun _ => TypeId -> Nat -> OpK) (fun _ _ => failK) ae8 x
def XG (b : Ob) : TypeId -> Nat -> Nat -> Nat -> OpK := @Ob.rec (fun _ => TypeId -> Nat -> Nat -> Nat -> OpK) (fun _ _ => fun _ _ _ _ => aA) (fun _ _ _ _ => fun _ _ _ _ => aA) (fun _ => fun _ _ _ _ => aA) (fun _ _ _ => fun _ _ _ _ => aA) (fun _ _ _ => fun _ _ _ _ => aA) (fun _ sz' len tr _ t idx sz off P X o ev ob nb k => oB (ldK P t) .fail (szK P t fun n => BR (aK (Nat.beq sz sz') (aK (Nat.ble (Nat.add off n) sz) (Nat.blt idx len))) (k (.agg (nH tr n (Nat.add (Nat.mul idx sz) off))) ob nb) .fail) (BR (aK (Nat.beq sz sz') (aK (Nat.blt off sz) (Nat.blt idx len))) (k (nKS (gX tr (Nat.add (Nat.mul idx sz) off))) ob nb) .fail)) (fun _ _ _ => fun _ _ _ _ => aA) b
def aac (x : Option Ob) : TypeId -> Nat -> Nat -> Nat -> OpK := @Option.rec Ob (fun _ => TypeId -> Nat -> Nat -> Nat -> OpK) (fun _ _ _ _ => aA) XG x
def afa (s : SV) : TypeId -> OpK := @SV.rec (fun _ => TypeId -> OpK) (fun _ => PUnit) (fun _ => aA) (fun _ => fun _ => aA) (fun _ _ => fun _ => aA) (fun _ _ => fun _ => aA) (fun i off t P X o ev ob nb k => R7 (ay ob i) t off P X o ev ob nb k) (fun _ _ => fun _ => aA) (fun _ _ _ => fun _ => aA) (fun _ => fun _ => aA) (fun _ _ => fun _ => aA) (fun _ => fun _ => aA) (fun i idx sz off t P X o ev ob nb k => aac (ay ob i) t idx sz off P X o ev ob nb k) (fun _ _ _ _ => fun _ => aA) (fun _ _ _ _ _ => fun _ => aA) (fun _ => fun _ => aA) PUnit.unit (fun _ _ _ _ => PUnit.unit) s
def KI (t : TypeId) (x : Operand) : OpK := fun P X o ev ob nb k => afa (ev x) t P X o ev ob nb k
theorem PO (t : TypeId) (x : Operand) : KI t x = Dp t x := by
 funext P X o ev ob nb k
 unfold KI Dp
 generalize ev x = s
 cases s with
 | ptr i off =>
   show R7 (ay ob i) t off P X o ev ob nb k = _
   simp only
   generalize ay ob i = y
   cases y with
   | none => rfl
   | some b => cases b <;> first | rfl | (simp only [R7, ae8, vo])
 | rp i idx sz off =>
   show aac (ay ob i) t idx sz off P X o ev ob nb k = _
   simp only
   generalize ay ob i = y
   cases y with
   | none => rfl
   | some b => cases b <;> first | rfl | (simp only [aac, XG, vo, ig, Nat.add_eq])
 | _ => rfl
def afq (b : Ob) : TypeId -> Nat -> Nat -> SV -> OpK := @Ob.rec (fun _ => TypeId -> Nat -> Nat -> SV -> OpK) (fun t' cs t i off xv P X o ev ob nb k => BR (Oj P t) (BR (afg xv) (BR (aK (Nat.ble X.base i) (Nat.ble (Nat.succ off) cs.length)) (k .junk (lX ob i (some (.cells t' (Wy cs off xv)))) nb) .fail) (aA P X o ev ob nb k)) (aA P X o ev ob nb k)) (fun _ _ _ _ => fun _ _ _ _ => failK) (fun _ => fun _ _ _ _ => failK) (fun _ _ _ => fun _ _ _ _ => failK) (fun _ _ _ => fun _ _ _ _ => failK) (fun _ _ _ _ _ => fun _ _ _ _ => failK) (fun _ _ _ => fun _ _ _ _ => failK) b
def Tz (x : Option Ob) : TypeId -> Nat -> Nat -> SV -> OpK := @Option.rec Ob (fun _ => TypeId -> Nat -> Nat -> SV -> OpK) (fun _ _ _ _ => failK) afq x
def aaA (s : SV) : TypeId -> Operand -> OpK := @SV.rec (fun _ => TypeId -> Operand -> OpK) (fun _ => PUnit) (fun _ _ => aA) (fun _ => fun _ _ => aA) (fun _ _ => fun _ _ => aA) (fun _ _ => fun _ _ => aA) (fun i off t x P X o ev ob nb k => Tz (ay ob i) t i off (ev x) P X o ev ob nb k) (fun _ _ => fun _ _ => aA) (fun _ _ _ => fun _ _ => aA) (fun _ => fun _ _ => aA) (fun _ _ => fun _ _ => aA) (fun _ => fun _ _ => aA) (fun _ _ _ _ => fun _ _ => aA) (fun _ _ _ _ => fun _ _ => aA) (fun _ _ _ _ _ => fun _ _ => aA) (fun _ => fun _ _ => aA) PUnit.unit (fun _ _ _ _ => PUnit.unit) s
def FZ (t : TypeId) (p x : Operand) : OpK := fun P X o ev ob nb k => aaA (ev p) t x P X o ev ob nb k
theorem KM (t : TypeId) (p x : Operand) : FZ t p x = uZ t p x := by
 funext P X o ev ob nb k
 unfold FZ uZ
 generalize ev p = s
 cases s with
 | ptr i off =>
   show Tz (ay ob i) t i off (ev x) P X o ev ob nb k = _
   simp only
   generalize ay ob i = y
   cases y with
   | none => rfl
   | some b => cases b <;> first | rfl | (simp only [Tz, afq, WG, ig, Nat.succ_eq_add_one])
 | _ => rfl
def faE (s : SV) : TypeId -> Nat -> OpK := @SV.rec (fun _ => TypeId -> Nat -> OpK) (fun _ => PUnit) (fun _ _ => aA) (fun _ => fun _ _ => aA) (fun _ _ => fun _ _ => aA) (fun _ _ => fun _ _ => aA) (fun i off s f P X o ev ob nb k => oN (faK P s f) .fail fun d => fN (Nat.add off d) fun a => k (.ptr i a) ob nb) (fun _ _ => fun _ _ => aA) (fun _ _ _ => fun _ _ => aA) (fun _ => fun _ _ => aA) (fun _ _ => fun _ _ => aA) (fun _ => fun _ _ => aA) (fun i idx sz off s f P X o ev ob nb k => oN (faK P s f) .fail fun d => fN (Nat.add off d) fun a => k (.rp i idx sz a) ob nb) (fun _ _ _ _ => fun _ _ => aA) (fun _ _ _ _ _ => fun _ _ => aA) (fun _ => fun _ _ => aA) PUnit.unit (fun _ _ _ _ => PUnit.unit) s
def oW (s : TypeId) (x : Operand) (f : Nat) : OpK := fun P X o ev ob nb k => faE (ev x) s f P X o ev ob nb k
theorem zi (s : TypeId) (x : Operand) (f : Nat) : oW s x f = ko s x f := by
 funext P X o ev ob nb k
 unfold oW ko
 generalize ev x = s
 cases s <;> rfl
def Yl (op : BinOp) : IntKind -> Int -> Int -> R -> (SV -> R) -> R := @BinOp.rec (fun _ => IntKind -> Int -> Int -> R -> (SV -> R) -> R) (fun k x y _ c => Pg k (Int.add x y) c) (fun k x y _ c => Pg k (Int.sub x y) c) (fun _ _ _ g _ => g) (fun _ _ _ g _ => g) (fun _ _ _ g _ => g) (fun _ _ _ g _ => g) (fun _ _ _ g _ => g) (fun _ _ _ g _ => g) (fun _ _ _ g _ => g) (fun _ _ _ g _ => g) (fun _ _ _ g _ => g) (fun _ x y _ c => c (.kb (eqI x y))) (fun _ x y _ c => c (.kb (nB (eqI x y)))) (fun _ x y _ c => c (.kb (zD x y))) (fun _ x y _ c => c (.kb (nB (zD y x)))) (fun _ x y _ c => c (.kb (zD y x))) (fun _ x y _ c => c (.kb (nB (zD x y)))) op
theorem VF (op : BinOp) (k : IntKind) (x y : Int) (g : R) (c : SV -> R) : Yl op k x y g c = NA op k x y g c := by cases op <;> rfl
def aew (s : SV) : IntKind -> Int -> BinOp -> OpK := @SV.rec (fun _ => IntKind -> Int -> BinOp -> OpK) (fun _ => PUnit) (fun _ _ _ => aA) (fun _ => fun _ _ _ => aA) (fun _ _ => fun _ _ _ => aA) (fun _ _ => fun _ _ _ => aA) (fun _ _ => fun _ _ _ => aA) (fun _ _ => fun _ _ _ => aA) (fun _ _ _ => fun _ _ _ => aA) (fun _ => fun _ _ _ => aA) (fun kk' b kk a op P X o ev ob nb k => BR (dR kk kk') (Yl op kk a b (aA P X o ev ob nb k) fun s => k s ob nb) .fail) (fun _ => fun _ _ _ => aA) (fun _ _ _ _ => fun _ _ _ => aA) (fun _ _ _ _ => fun _ _ _ => aA) (fun _ _ _ _ _ => fun _ _ _ => aA) (fun _ => fun _ _ _ => aA) PUnit.unit (fun _ _ _ _ => PUnit.unit) s
def aiB (s : SV) : BinOp -> Operand -> OpK := @SV.rec (fun _ => BinOp -> Operand -> OpK) (fun _ => PUnit) (fun _ _ => aA) (fun _ => fun _ _ => aA) (fun _ _ => fun _ _ => aA) (fun _ _ => fun _ _ => aA) (fun _ _ => fun _ _ => aA) (fun _ _ => fun _ _ => aA) (fun _ _ _ => fun _ _ => aA) (fun _ => fun _ _ => aA) (fun kk a op y P X o ev ob nb k => aew (ev y) kk a op P X o ev ob nb k) (fun _ => fun _ _ => aA) (fun _ _ _ _ => fun _ _ => aA) (fun _ _ _ _ => fun _ _ => aA) (fun _ _ _ _ _ => fun _ _ => aA) (fun _ => fun _ _ => aA) PUnit.unit (fun _ _ _ _ => PUnit.unit) s
def RN (op : BinOp) (x y : Operand) : OpK := fun P X o ev ob nb k => BR (Wm y) (aA P X o ev ob nb k) (aiB (ev x) op y P X o ev ob nb k)
theorem RO (op : BinOp) (x y : Operand) : RN op x y = RL op x y := by
 funext P X o ev ob nb k
 unfold RN RL
 congr 1
 generalize ev x = s
 cases s with
 | ki kk a =>
   show aew (ev y) kk a op P X o ev ob nb k = _
   generalize ev y = r
   cases r with
   | ki kk' b => show BR _ (Yl _ _ _ _ _ _) _ = _; rw [VF]
   | _ => rfl
 | _ => rfl
def fnX (s : SV) : List Operand -> OpK := @SV.rec (fun _ => List Operand -> OpK) (fun _ => PUnit) (fun _ => failK) (fun _ => fun _ => failK) (fun _ _ => fun _ => failK) (fun _ _ => fun _ => failK) (fun _ _ => fun _ => failK) (fun _ _ => fun _ => failK) (fun fk caps _ args P X o ev ob nb k => X.I X.top X.base fk (Ou args ev caps) ob nb k) (fun _ => fun _ => failK) (fun _ _ => fun _ => failK) (fun _ => fun _ => failK) (fun _ _ _ _ => fun _ => failK) (fun _ _ _ _ => fun _ => failK) (fun _ _ _ _ _ => fun _ => failK) (fun _ => fun _ => failK) PUnit.unit (fun _ _ _ _ => PUnit.unit) s
def YO (f : Operand) (args : List Operand) : OpK := fun P X o ev ob nb k => fnX (ev f) args P X o ev ob nb k
theorem Wp (f : Operand) (args : List Operand) : YO f args = kFn f args := by
 funext P X o ev ob nb k
 unfold YO kFn
 generalize ev f = s
 cases s <;> rfl
def aeC (s : SV) : Nat -> Nat -> Nat -> Nat -> TypeId -> OpK := @SV.rec (fun _ => Nat -> Nat -> Nat -> Nat -> TypeId -> OpK) (fun _ => PUnit) (fun _ _ _ _ _ => aA) (fun _ => fun _ _ _ _ _ => aA) (fun _ _ => fun _ _ _ _ _ => aA) (fun _ _ => fun _ _ _ _ _ => aA) (fun _ _ => fun _ _ _ _ _ => aA) (fun _ _ => fun _ _ _ _ _ => aA) (fun _ _ _ => fun _ _ _ _ _ => aA) (fun _ => fun _ _ _ _ _ => aA) (fun _ iv q z o' n t P X o ev ob nb k => oN (iaK P t) .fail fun z' => BR (Nat.beq z' z) (ltI iv n fun m => fN (Nat.add o' m) fun a => k (.rp q a z 0) ob nb) .fail) (fun _ => fun _ _ _ _ _ => aA) (fun _ _ _ _ => fun _ _ _ _ _ => aA) (fun _ _ _ _ => fun _ _ _ _ _ => aA) (fun _ _ _ _ _ => fun _ _ _ _ _ => aA) (fun _ => fun _ _ _ _ _ => aA) PUnit.unit (fun _ _ _ _ => PUnit.unit) s
def aiI (s : SV) : TypeId -> Operand -> OpK := @SV.rec (fun _ => TypeId -> Operand -> OpK) (fun _ => PUnit) (fun _ _ => aA) (fun _ => fun _ _ => aA) (fun _ _ => fun _ _ => aA) (fun _ _ => fun _ _ => aA) (fun _ _ => fun _ _ => aA) (fun _ _ => fun _ _ => aA) (fun _ _ _ => fun _ _ => aA) (fun _ => fun _ _ => aA) (fun _ _ => fun _ _ => aA) (fun _ => fun _ _ => aA) (fun _ _ _ _ => fun _ _ => aA) (fun _ _ _ _ => fun _ _ => aA) (fun q z o' n _ t i P X o ev ob nb k => aeC (ev i) q z o' n t P X o ev ob nb k) (fun _ => fun _ _ => aA) PUnit.unit (fun _ _ _ _ => PUnit.unit) s
def RQ (t : TypeId) (x i : Operand) : OpK := fun P X o ev ob nb k => aiI (ev x) t i P X o ev ob nb k
theorem RU (t : TypeId) (x i : Operand) : RQ t x i = IK t x i := by
 funext P X o ev ob nb k
 unfold RQ IK
 generalize ev x = s
 cases s with
 | sl q z o' n c =>
   show aeC (ev i) q z o' n t P X o ev ob nb k = _
   generalize ev i = r
   cases r <;> rfl
 | _ => rfl
def aiK (s : SV) : TypeId -> OpK := @SV.rec (fun _ => TypeId -> OpK) (fun _ => PUnit) (fun _ => aA) (fun _ => fun _ => aA) (fun _ _ => fun _ => aA) (fun _ _ => fun _ => aA) (fun _ _ => fun _ => aA) (fun _ _ => fun _ => aA) (fun _ _ _ => fun _ => aA) (fun _ => fun _ => aA) (fun _ _ => fun _ => aA) (fun _ => fun _ => aA) (fun _ _ _ _ => fun _ => aA) (fun _ _ _ _ => fun _ => aA) (fun _ _ _ n _ t P X o ev ob nb k => BR (Wn P t) (k (.ki .i64 (.ofNat n)) ob nb) .fail) (fun _ => fun _ => aA) PUnit.unit (fun _ _ _ _ => PUnit.unit) s
def RV (t : TypeId) (x : Operand) : OpK := fun P X o ev ob nb k => aiK (ev x) t P X o ev ob nb k
theorem RX (t : TypeId) (x : Operand) : RV t x = Wq t x := by
 funext P X o ev ob nb k
 unfold RV Wq
 generalize ev x = s
 cases s <;> rfl
def exE (s : SV) : Nat -> OpK := @SV.rec (fun _ => Nat -> OpK) (fun _ => PUnit) (fun _ => aA) (fun _ => fun _ => aA) (fun _ _ => fun _ => aA) (fun l _ i P X o ev ob nb k => Je l i .fail fun s => k (nKS s) ob nb) (fun _ _ => fun _ => aA) (fun _ _ => fun _ => aA) (fun _ _ _ => fun _ => aA) (fun _ => fun _ => aA) (fun _ _ => fun _ => aA) (fun _ => fun _ => aA) (fun _ _ _ _ => fun _ => aA) (fun _ _ _ _ => fun _ => aA) (fun _ _ _ _ _ => fun _ => aA) (fun _ => fun _ => aA) PUnit.unit (fun _ _ _ _ => PUnit.unit) s
def YN (x : Operand) (i : Nat) : OpK := fun P X o ev ob nb k => exE (ev x) i P X o ev ob nb k
theorem Wo (x : Operand) (i : Nat) : YN x i = oV x i := by
 funext P X o ev ob nb k
 unfold YN oV
 generalize ev x = s
 cases s <;> first | rfl | (simp only [exE, vo])
def unE (s : SV) : OpK := @SV.rec (fun _ => OpK) (fun _ => PUnit) (aA) (fun _ => aA) (fun _ _ => aA) (fun _ _ => aA) (fun _ _ => aA) (fun _ _ => aA) (fun _ _ _ => aA) (fun b P X o ev ob nb k => k (.kb (nB b)) ob nb) (fun _ _ => aA) (fun _ => aA) (fun _ _ _ _ => aA) (fun _ _ _ _ => aA) (fun _ _ _ _ _ => aA) (fun _ => aA) PUnit.unit (fun _ _ _ _ => PUnit.unit) s
def aeE (x : Operand) : OpK := fun P X o ev ob nb k => unE (ev x) P X o ev ob nb k
structure OBox where
 f : OpK
def unB (op : UnOp) (x : Operand) : OBox := match op with
 | .not => ⟨aeE x⟩
 | _ => ⟨aA⟩
theorem aek (op : UnOp) (x : Operand) : (unB op x).f = kUn op x := by
 funext P X o ev ob nb k
 cases op
 case not =>
  show unE (ev x) P X o ev ob nb k = kUn .not x P X o ev ob nb k
  unfold kUn
  generalize ev x = s
  cases s <;> rfl
 all_goals
  show aA P X o ev ob nb k = kUn _ x P X o ev ob nb k
  unfold kUn
  generalize ev x = s
  cases s <;> rfl
def Ym (b : Builtin) (as : List Operand) (ts : List TypeId) : OBox := match b, as, ts with
 | .len, [x], [t] => ⟨RV t x⟩
 | _, _, _ => ⟨aA⟩
theorem VJ (c : Call) (b : Builtin) : (Ym b c.args.toList c.argTypes.toList).f = oU c b := by
 unfold Ym oU
 split
 · rename_i x t _ _
   rw [RX]
   funext P X o ev ob nb k
   simp_all
 · rename_i h
   funext P X o ev ob nb k
   split
   · rename_i h1 h2 h3
     exact (h _ _ rfl h2 h3).elim
   · rfl
def QY (c : Call) : OBox := match c.callee with
 | .value f => ⟨YO f c.args.toList⟩
 | .builtin b => Ym b c.args.toList c.argTypes.toList
 | _ => ⟨aA⟩
theorem QZ (c : Call) : (QY c).f = IJ c := by
 unfold QY IJ
 cases c.callee <;> first | exact Wp _ _ | exact VJ c _ | rfl
def opB (o : Oper) : OBox := match o.op with
 | .move x => ⟨Dq x⟩
 | .assign x => ⟨Dq x⟩
 | .pick c a b => ⟨KJ c a b⟩
 | .alloc t => ⟨KD t⟩
 | .box t x => ⟨YL t x⟩
 | .build t ps => ⟨KE t ps⟩
 | .load t x => ⟨KI t x⟩
 | .store t p x => ⟨FZ t p x⟩
 | .nilCheck x => ⟨RZ x⟩
 | .binOp op t x y _ => ⟨RN op x y⟩
 | .unOp op _ x => unB op x
 | .fieldAddr s x f => ⟨oW s x f⟩
 | .field t x f => ⟨KG t x f⟩
 | .indexAddr t x i => ⟨RQ t x i⟩
 | .index t x i => ⟨KH t x i⟩
 | .lookup t x i ok => ⟨FY t x i ok⟩
 | .extract x i => ⟨YN x i⟩
 | .call c => QY c
 | .range t x => ⟨KL t x⟩
 | .entry x => ⟨KF x⟩
 | .next _ _ => ⟨failK⟩
 | _ => ⟨aA⟩
def opS (o : Oper) : OpK := (opB o).f
theorem aan (o : Oper) : opS o = opG o := by
 unfold opS opB opG
 cases o.op <;> first | rfl | exact PU _ _ _ | exact PO _ _ | exact KM _ _ _ | exact R3 _ | exact RO _ _ _ | exact aek _ _ | exact zi _ _ _ | exact RU _ _ _ | exact Wo _ _ | exact QZ _
def brE (s : SV) : R -> R -> R -> R := @SV.rec (fun _ => R -> R -> R -> R) (fun _ => PUnit) (fun _ _ c => c) (fun _ => fun _ _ c => c) (fun _ _ => fun _ _ c => c) (fun _ _ => fun _ _ c => c) (fun _ _ => fun _ _ c => c) (fun _ _ => fun _ _ c => c) (fun _ _ _ => fun _ _ c => c) (fun q a b _ => BR q a b) (fun _ _ => fun _ _ c => c) (fun _ => fun _ _ c => c) (fun _ _ _ _ => fun _ _ c => c) (fun _ _ _ _ => fun _ _ c => c) (fun _ _ _ _ _ => fun _ _ c => c) (fun _ => fun _ _ c => c) PUnit.unit (fun _ _ _ _ => PUnit.unit) s
theorem Yo (s : SV) (a b c : R) : brE s a b c = match s with
 | .kb q => BR q a b
 | _ => c := by cases s <;> rfl
end
end Rx
set_option linter.unusedSectionVars false
set_option linter.unusedSimpArgs false
set_option linter.unusedVariables false
namespace Rx
open Go
variable [Glob]
noncomputable section
abbrev KS := Tr SV -> OB -> Nat -> R
def evG (fl : Nat) (sl : Tr SV) (lo : Lo) : Ev := @Operand.rec (fun _ => SV) (fun t => view fl sl lo t) (fun v => nK (ofConst v)) (fun g => Wi g) (fun f => .fn f [])
theorem Km (fl : Nat) (sl : Tr SV) (lo : Lo) : evG fl sl lo = evC (view fl sl lo) := by
 funext x
 cases x <;> rfl
abbrev IH := Tr SV -> Lo -> OB -> Nat -> KS -> R
def Gp (fl : Nat) (d : Option Tmp) (ih : IH) (sl : Tr SV) (lo : Lo) (s : SV) (ob : OB) (nb : Nat) (k : KS) : R :=
 @Option.rec Tmp (fun _ => R) (ih sl lo ob nb k) (fun d => PE s fun s => BR (fQ fl d) (ih (uq sl d s) lo ob nb k) (ih sl (.cons d s lo) ob nb k)) d
def goG (P : Program) (X : EX) (fl : Nat) (o : Oper) (ih : IH) : IH := fun sl lo ob nb k =>
 opS o P X o (evG fl sl lo) ob nb fun s ob nb => Gp fl o.dst ih sl lo s ob nb k
def skG (fl : Nat) (o : Oper) (ih : IH) : IH := fun sl lo ob nb k => Gp fl o.dst ih sl lo dZ ob nb k
def gdR (P : Program) (X : EX) (fl : Nat) (o : Oper) (ih : IH) (s : SV) : IH := fun sl lo ob nb k =>
    match s with
     | .dt (.cell (.tuple _)) => skG fl o ih sl lo ob nb k
     | _ => .fail
def gdT (P : Program) (X : EX) (fl : Nat) (o : Oper) (ih : IH) (w : Bool) (t : Tmp) : IH := fun sl lo ob nb k =>
    brE (view fl sl lo t) (BR w (goG P X fl o ih sl lo ob nb k) (skG fl o ih sl lo ob nb k)) (BR w (skG fl o ih sl lo ob nb k) (goG P X fl o ih sl lo ob nb k)) (gdR P X fl o ih (view fl sl lo t) sl lo ob nb k)
def gdG (P : Program) (X : EX) (fl : Nat) (ops : Array Oper) (o : Oper) (ih : IH) (g : Nat × Bool) : IH :=
    @Option.rec Tmp (fun _ => IH) (fun _ _ _ _ _ => .fail) (gdT P X fl o ih g.2) ((ops[g.1]?).bind (·.dst))
theorem YF (P : Program) (X : EX) (fl : Nat) (o : Oper) (ih : IH) (w : Bool) (t : Tmp) (sl : Tr SV) (lo : Lo) (ob : OB) (nb : Nat) (k : KS) : gdT P X fl o ih w t sl lo ob nb k = match view fl sl lo t with
     | .kb b => BR b (BR w (goG P X fl o ih sl lo ob nb k) (skG fl o ih sl lo ob nb k)) (BR w (skG fl o ih sl lo ob nb k) (goG P X fl o ih sl lo ob nb k))
     | .dt (.cell (.tuple _)) => skG fl o ih sl lo ob nb k
     | _ => .fail := by
 unfold gdT
 generalize view fl sl lo t = s
 cases s with
 | dt d => cases d with
   | cell v => cases v <;> rfl
   | _ => rfl
 | _ => rfl
theorem YE (P : Program) (X : EX) (fl : Nat) (ops : Array Oper) (o : Oper) (ih : IH) (g : Nat × Bool) (sl : Tr SV) (lo : Lo) (ob : OB) (nb : Nat) (k : KS) : gdG P X fl ops o ih g sl lo ob nb k = match (ops[g.1]?).bind (·.dst) with
   | none => .fail
   | some t => match view fl sl lo t with
     | .kb b => BR b (BR g.2 (goG P X fl o ih sl lo ob nb k) (skG fl o ih sl lo ob nb k)) (BR g.2 (skG fl o ih sl lo ob nb k) (goG P X fl o ih sl lo ob nb k))
     | .dt (.cell (.tuple _)) => skG fl o ih sl lo ob nb k
     | _ => .fail := by
 unfold gdG
 cases (ops[g.1]?).bind (·.dst) with
 | none => rfl
 | some t => exact YF P X fl o ih g.2 t sl lo ob nb k
def stG (P : Program) (X : EX) (fl : Nat) (ops : Array Oper) (o : Oper) (ih : IH) : IH :=
    @Option.rec (Nat × Bool) (fun _ => IH) (goG P X fl o ih) (gdG P X fl ops o ih) o.guard
def SX (P : Program) (X : EX) (fl : Nat) (ops : Array Oper) (l : List Oper) : IH :=
 @List.rec Oper (fun _ => IH) (fun sl lo ob nb k => k sl ob nb) (fun o _ ih => stG P X fl ops o ih) l
def okD (N : Nat) (ops : Array Oper) : Bool := ops.toList.all fun o => fT N o.dst
theorem A8 {fl : Nat} {sl : Tr SV} {lo : Lo} {d : Nat} {s : SV} (hd : d < 16777215) : (fQ fl d = true -> view fl (uq sl d s) lo = putT (some d) s (view fl sl lo)) /\ (fQ fl d = false -> view fl sl (.cons d s lo) = putT (some d) s (view fl sl lo)) := by
 constructor
 · intro hb
   funext j
   show BS (fQ fl j) (gX (uq sl d s) j) (look lo j) = lq (some d) j s (BS (fQ fl j) (gX sl j) (look lo j))
   rw [aS, tC j hd]
   by_cases e : j = d
   · subst e; rw [hb, if_pos rfl, if_pos rfl]; rfl
   · rw [if_neg e, if_neg e]
 · intro hb
   funext j
   show BS (fQ fl j) (gX sl j) (BS (Nat.beq d j) s (look lo j)) = lq (some d) j s (BS (fQ fl j) (gX sl j) (look lo j))
   rw [aS]
   by_cases e : j = d
   · subst e; rw [hb, if_pos rfl, Nat.beq_refl]; rfl
   · rw [if_neg e, eU (fun h => e h.symm)]; rfl
def KS1 (fl : Nat) (post : SV × HD -> Prop) (ih : IH) (k : KS) (σ : CS) : Prop :=
 ∃ sl lo ob, σ = ⟨view fl sl lo, ⟨ay ob, σ.h.nob⟩⟩ /\ (ih sl lo ob σ.h.nob k).holds post
section
variable {E : CEnv} {X : EX} {fl : Nat} {post : SV × HD -> Prop}
theorem Jm {d : Option Tmp} {ih : IH} {sl : Tr SV} {lo : Lo} {s : SV} {ob : OB} {nb : Nat} {k : KS} (hd : fT E.N d = true) (hN : E.N <= 16777215) (h : (Gp fl d ih sl lo s ob nb k).holds post) :
  KS1 fl post ih k ⟨putT d s (view fl sl lo), ⟨ay ob, nb⟩⟩ := by
 cases d with
 | none => exact ⟨sl, lo, ob, rfl, h⟩
 | some d =>
   have hd : d < 16777215 := Nat.lt_of_lt_of_le (show d < E.N by simpa [fT, Nat.blt_eq] using hd) hN
   have h : (PE s fun s => BR (fQ fl d) (ih (uq sl d s) lo ob nb k) (ih sl (.cons d s lo) ob nb k)).holds post := h
   rw [Oh, dh] at h
   obtain ⟨h1, h2⟩ := A8 (fl := fl) (sl := sl) (lo := lo) (s := s) hd
   cases hb : fQ fl d with
   | true => rw [hb] at h; exact ⟨_, lo, ob, by rw [← h1 hb], h⟩
   | false => rw [hb] at h; exact ⟨sl, _, ob, by rw [← h2 hb], h⟩
theorem FL {o : Oper} {ih : IH} {sl : Tr SV} {lo : Lo} {ob : OB} {nb : Nat} {k : KS} {rid i : Nat} (hX : XRef X E) (hd : fT E.N o.dst = true) (hN : E.N <= 16777215) (hT : dJ E.top nb) (hF : FOk ob nb)
  (h : (goG E.P X fl o ih sl lo ob nb k).holds post) : (bG E rid i (evC (view fl sl lo)) ⟨ay ob, nb⟩ o).holds fun y => KS1 fl post ih k ⟨putT o.dst y.1 (view fl sl lo), y.2⟩ := by
 unfold goG at h
 rw [Km, aan] at h
 refine T.aD (fun y hy => ?_) _ (WH hX hT hF h)
 obtain ⟨ob', h1, h2⟩ := hy
 have := Jm (E := E) hd hN h2
 have e : y.2 = ⟨ay ob', y.2.nob⟩ := by rw [← h1]
 rw [e]
 exact this
theorem GL {ops : Array Oper} {o : Oper} {ih : IH} {sl : Tr SV} {lo : Lo} {ob : OB} {nb : Nat} {k : KS} {rid i : Nat} (hX : XRef X E) (hok : okD E.N ops = true) (hd : fT E.N o.dst = true) (hN : E.N <= 16777215) (hT : dJ E.top nb) (hF : FOk ob nb)
  (h : (stG E.P X fl ops o ih sl lo ob nb k).holds post) : (stC E ops rid i o ⟨view fl sl lo, ⟨ay ob, nb⟩⟩).holds fun y => KS1 fl post ih k ⟨putT o.dst y.1 (view fl sl lo), y.2⟩ := by
 unfold stC
 rw [hd, cond_true]
 unfold stG at h
 cases hg : o.guard with
 | none => rw [hg] at h; exact FL hX hd hN hT hF h
 | some g =>
   obtain ⟨j, want⟩ := g
   rw [hg] at h
   have h : (gdG E.P X fl ops o ih (j, want) sl lo ob nb k).holds post := h
   rw [YE] at h
   simp only at h ⊢
   have sk : (skG fl o ih sl lo ob nb k).holds post -> (T.ret (dZ, (⟨ay ob, nb⟩ : HS)) : T (SV × HS)).holds fun y => KS1 fl post ih k ⟨putT o.dst y.1 (view fl sl lo), y.2⟩ := fun h => Jm (E := E) hd hN h
   split at h
   · exact h.elim
   · rename_i t ht
     simp only [ht]
     have hdt : fT E.N (some t) = true := by
        cases hj : ops[j]? with
        | none => rw [hj] at ht; cases ht
        | some oj =>
          rw [hj] at ht
          have hm : oj ∈ ops.toList := by simpa using Array.mem_of_getElem? hj
          have := List.all_eq_true.1 hok oj hm
          rw [show oj.dst = some t from ht] at this
          exact this
     rw [hdt, cond_true]
     split at h
     · rename_i b hb
       simp only [hb]
       rw [dh] at h
       cases b with
       | true =>
         rw [cond_true, dh] at h
         cases want with
         | true => exact FL hX hd hN hT hF h
         | false => exact sk h
       | false =>
         rw [cond_false, dh] at h
         cases want with
         | true => exact sk h
         | false => exact FL hX hd hN hT hF h
     · rename_i x hx
       simp only [hx]
       exact sk h
     · exact h.elim
theorem tZ (hE : E.Ok) {ops : Array Oper} {k : KS} {rid : Nat} (hX : XRef X E) (hok : okD E.N ops = true) (hN : E.N <= 16777215) : ∀ (l : List Oper) (i : Nat) (sl : Tr SV) (lo : Lo) (ob : OB) (nb : Nat), (∀ o ∈ l, fT E.N o.dst = true) -> dJ E.top nb -> FOk ob nb ->
  (SX E.P X fl ops l sl lo ob nb k).holds post -> (kU E ops rid i l ⟨view fl sl lo, ⟨ay ob, nb⟩⟩).holds (KS1 fl post (fun sl _ ob nb k => k sl ob nb) k)
 | [], i, sl, lo, ob, nb, _, _, _, h => ⟨sl, lo, ob, rfl, h⟩
 | o :: l, i, sl, lo, ob, nb, hd, hT, hF, h => by
   simp only [kU, T.ak]
   have h1 := GL (rid := rid) (i := i) hX hok (hd o (by simp)) hN hT hF (show (stG E.P X fl ops o (SX E.P X fl ops l) sl lo ob nb k).holds post from h)
   have h2 := T.aV (iI hE (ops := ops) (rid := rid) (i := i) o (σ := ⟨view fl sl lo, ⟨ay ob, nb⟩⟩) hF) h1
   refine T.aD (fun y hy => ?_) _ h2
   obtain ⟨⟨g1, g2, g3⟩, sl', lo', ob', e, hh⟩ := hy
   rw [e]
   have eh : y.2 = ⟨ay ob', y.2.nob⟩ := congrArg CS.h e
   have hT' : dJ E.top y.2.nob := by
     have g3 : y.2.nob <= max E.top nb := g3
     have := hT.1
     exact ⟨by omega, hT.2⟩
   exact tZ hE hX hok hN l (i + 1) sl' lo' ob' y.2.nob (fun o ho => hd o (by simp [ho])) hT' (fun i hi => by
     have := g1 i hi
     rw [eh] at this
     exact this) hh
end
end
end Rx
