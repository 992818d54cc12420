/- Rx, part Xb: slim eliminators for the kernel: all arms are closed, so nothing is copied. Printed by gen/slim.py. -/
import Derived.Test.YtkbdcpkbmfegdaaGreatDoorRxX2
set_option linter.unusedSectionVars false
set_option linter.unusedSimpArgs false
set_option linter.unusedVariables false
namespace Rx
open Go
variable [Glob]
noncomputable section
def aP (a b : Bool) : Bool := @Bool.rec (fun _ => Bool) false b a
theorem iI (a b : Bool) : aP a b = (a && b) := by cases a <;> rfl
def failK : OpK := fun _ _ _ _ _ _ _ => .fail
def nKS (s : SV) : SV := @SV.rec (fun _ => SV) (fun _ => PUnit) (.junk) (fun d => nK (.dt d)) (fun x0 _ => .agg x0) (fun x0 _ => .tup x0) (fun x0 x1 => .ptr x0 x1) (fun x0 x1 => .el x0 x1) (fun x0 x1 _ => .fn x0 x1) (fun x0 => .kb x0) (fun x0 x1 => .ki x0 x1) (fun x0 => .nm x0) (fun x0 x1 x2 x3 => .rp x0 x1 x2 x3) (fun x0 x1 x2 x3 => .ri x0 x1 x2 x3) (fun x0 x1 x2 x3 x4 => .sl x0 x1 x2 x3 x4) (fun x0 => .sy x0) PUnit.unit (fun _ _ _ _ => PUnit.unit) s
theorem xZ (s : SV) : nKS s = nK s := by cases s <;> rfl
def acJ (s : SV) : Bool := @SV.rec (fun _ => Bool) (fun _ => PUnit) (false) (fun d => fC (.dt d)) (fun _ _ => false) (fun _ _ => false) (fun _ _ => true) (fun _ _ => true) (fun _ _ _ => true) (fun _ => true) (fun _ _ => true) (fun _ => true) (fun _ _ _ _ => true) (fun _ _ _ _ => true) (fun _ _ _ _ _ => true) (fun _ => true) PUnit.unit (fun _ _ _ _ => PUnit.unit) s
theorem WU (s : SV) : acJ s = fC s := by cases s <;> rfl
def adI (s : SV) : OpK := @SV.rec (fun _ => OpK) (fun _ => PUnit) (aB) (fun _ => aB) (fun _ _ => aB) (fun _ _ => aB) (fun i f P X o ev ob nb k => k (.ptr i f) ob nb) (fun _ _ => aB) (fun _ _ _ => aB) (fun _ => aB) (fun _ _ => aB) (fun _ => aB) (fun i y z f P X o ev ob nb k => k (.rp i y z f) ob nb) (fun _ _ _ _ => aB) (fun _ _ _ _ _ => aB) (fun _ => aB) PUnit.unit (fun _ _ _ _ => PUnit.unit) s
def TJ (x : Operand) : OpK := fun P X o ev ob nb k => adI (ev x) P X o ev ob nb k
theorem TK (x : Operand) : TJ x = TI x := by
 funext P X o ev ob nb k
 unfold TJ TI
 generalize ev x = s
 cases s <;> rfl
def acK (s : SV) : Operand -> Operand -> OpK := @SV.rec (fun _ => Operand -> Operand -> OpK) (fun _ => PUnit) (fun _ _ => aB) (fun _ => fun _ _ => aB) (fun _ _ => fun _ _ => aB) (fun _ _ => fun _ _ => aB) (fun _ _ => fun _ _ => aB) (fun _ _ => fun _ _ => aB) (fun _ _ _ => fun _ _ => aB) (fun q a b P X o ev ob nb k => BR q (k (ev a) ob nb) (k (ev b) ob nb)) (fun _ _ => fun _ _ => aB) (fun _ => fun _ _ => aB) (fun _ _ _ _ => fun _ _ => aB) (fun _ _ _ _ => fun _ _ => aB) (fun _ _ _ _ _ => fun _ _ => aB) (fun _ => fun _ _ => aB) PUnit.unit (fun _ _ _ _ => PUnit.unit) s
def Mw (c a b : Operand) : OpK := fun P X o ev ob nb k => acK (ev c) a b P X o ev ob nb k
theorem Qs (c a b : Operand) : Mw c a b = J5 c a b := by
 funext P X o ev ob nb k
 unfold Mw J5
 generalize ev c = s
 cases s <;> rfl
def acD (b : Ob) : TypeId -> Nat -> OpK := @Ob.rec (fun _ => TypeId -> Nat -> OpK) (fun _ cs t off P X o ev ob nb k => oB (ldK P t) .fail (aB P X o ev ob nb k) (Kt cs off .fail fun s => k (nKS s) ob nb)) (fun _ _ _ _ => fun _ _ => failK) (fun _ => fun _ _ => failK) (fun _ _ _ => fun _ _ => failK) (fun _ _ _ => fun _ _ => failK) (fun _ _ _ _ _ => fun _ _ => failK) (fun _ _ _ => fun _ _ => failK) b
def TP (x : Option Ob) : TypeId -> Nat -> OpK := @Option.rec Ob (fun _ => TypeId -> Nat -> OpK) (fun _ _ => failK) acD x
def Zt (b : Ob) : TypeId -> Nat -> Nat -> Nat -> OpK := @Ob.rec (fun _ => TypeId -> Nat -> Nat -> Nat -> OpK) (fun _ _ => fun _ _ _ _ => aB) (fun _ _ _ _ => fun _ _ _ _ => aB) (fun _ => fun _ _ _ _ => aB) (fun _ _ _ => fun _ _ _ _ => aB) (fun _ _ _ => fun _ _ _ _ => aB) (fun _ sz' len tr _ t idx sz off P X o ev ob nb k => oB (ldK P t) .fail (szK P t fun n => BR (aP (Nat.beq sz sz') (aP (Nat.ble (Nat.add off n) sz) (Nat.blt idx len))) (k (.agg (oP tr n (Nat.add (Nat.mul idx sz) off))) ob nb) .fail) (BR (aP (Nat.beq sz sz') (aP (Nat.blt off sz) (Nat.blt idx len))) (k (nKS (iF tr (Nat.add (Nat.mul idx sz) off))) ob nb) .fail)) (fun _ _ _ => fun _ _ _ _ => aB) b
def aaC (x : Option Ob) : TypeId -> Nat -> Nat -> Nat -> OpK := @Option.rec Ob (fun _ => TypeId -> Nat -> Nat -> Nat -> OpK) (fun _ _ _ _ => aB) Zt x
def acF (s : SV) : TypeId -> OpK := @SV.rec (fun _ => TypeId -> OpK) (fun _ => PUnit) (fun _ => aB) (fun _ => fun _ => aB) (fun _ _ => fun _ => aB) (fun _ _ => fun _ => aB) (fun i off t P X o ev ob nb k => TP (av ob i) t off P X o ev ob nb k) (fun _ _ => fun _ => aB) (fun _ _ _ => fun _ => aB) (fun _ => fun _ => aB) (fun _ _ => fun _ => aB) (fun _ => fun _ => aB) (fun i idx sz off t P X o ev ob nb k => aaC (av ob i) t idx sz off P X o ev ob nb k) (fun _ _ _ _ => fun _ => aB) (fun _ _ _ _ _ => fun _ => aB) (fun _ => fun _ => aB) PUnit.unit (fun _ _ _ _ => PUnit.unit) s
def Mv (t : TypeId) (x : Operand) : OpK := fun P X o ev ob nb k => acF (ev x) t P X o ev ob nb k
theorem Qq (t : TypeId) (x : Operand) : Mv t x = EL t x := by
 funext P X o ev ob nb k
 unfold Mv EL
 generalize ev x = s
 cases s with
 | ptr i off =>
   show TP (av ob i) t off P X o ev ob nb k = _
   simp only
   generalize av ob i = y
   cases y with
   | none => rfl
   | some b => cases b <;> first | rfl | (simp only [TP, acD, xZ])
 | rp i idx sz off =>
   show aaC (av ob i) t idx sz off P X o ev ob nb k = _
   simp only
   generalize av ob i = y
   cases y with
   | none => rfl
   | some b => cases b <;> first | rfl | (simp only [aaC, Zt, xZ, iI, Nat.add_eq])
 | _ => rfl
def adf (b : Ob) : TypeId -> Nat -> Nat -> SV -> OpK := @Ob.rec (fun _ => TypeId -> Nat -> Nat -> SV -> OpK) (fun t' cs t i off xv P X o ev ob nb k => BR (Ov P t) (BR (acJ xv) (BR (aP (Nat.ble X.base i) (Nat.ble (Nat.succ off) cs.length)) (k .junk (mO ob i (some (.cells t' (WC cs off xv)))) nb) .fail) (aB P X o ev ob nb k)) (aB P X o ev ob nb k)) (fun _ _ _ _ => fun _ _ _ _ => failK) (fun _ => fun _ _ _ _ => failK) (fun _ _ _ => fun _ _ _ _ => failK) (fun _ _ _ => fun _ _ _ _ => failK) (fun _ _ _ _ _ => fun _ _ _ _ => failK) (fun _ _ _ => fun _ _ _ _ => failK) b
def U1 (x : Option Ob) : TypeId -> Nat -> Nat -> SV -> OpK := @Option.rec Ob (fun _ => TypeId -> Nat -> Nat -> SV -> OpK) (fun _ _ _ _ => failK) adf x
def aa3 (s : SV) : TypeId -> Operand -> OpK := @SV.rec (fun _ => TypeId -> Operand -> OpK) (fun _ => PUnit) (fun _ _ => aB) (fun _ => fun _ _ => aB) (fun _ _ => fun _ _ => aB) (fun _ _ => fun _ _ => aB) (fun i off t x P X o ev ob nb k => U1 (av ob i) t i off (ev x) P X o ev ob nb k) (fun _ _ => fun _ _ => aB) (fun _ _ _ => fun _ _ => aB) (fun _ => fun _ _ => aB) (fun _ _ => fun _ _ => aB) (fun _ => fun _ _ => aB) (fun _ _ _ _ => fun _ _ => aB) (fun _ _ _ _ => fun _ _ => aB) (fun _ _ _ _ _ => fun _ _ => aB) (fun _ => fun _ _ => aB) PUnit.unit (fun _ _ _ _ => PUnit.unit) s
def H6 (t : TypeId) (p x : Operand) : OpK := fun P X o ev ob nb k => aa3 (ev p) t x P X o ev ob nb k
theorem MB (t : TypeId) (p x : Operand) : H6 t p x = xW t p x := by
 funext P X o ev ob nb k
 unfold H6 xW
 generalize ev p = s
 cases s with
 | ptr i off =>
   show U1 (av ob i) t i off (ev x) P X o ev ob nb k = _
   simp only
   generalize av ob i = y
   cases y with
   | none => rfl
   | some b => cases b <;> first | rfl | (simp only [U1, adf, WU, iI, Nat.succ_eq_add_one])
 | _ => rfl
def faE (s : SV) : TypeId -> Nat -> OpK := @SV.rec (fun _ => TypeId -> Nat -> OpK) (fun _ => PUnit) (fun _ _ => aB) (fun _ => fun _ _ => aB) (fun _ _ => fun _ _ => aB) (fun _ _ => fun _ _ => aB) (fun i off s f P X o ev ob nb k => oN (faK P s f) .fail fun d => fN (Nat.add off d) fun a => k (.ptr i a) ob nb) (fun _ _ => fun _ _ => aB) (fun _ _ _ => fun _ _ => aB) (fun _ => fun _ _ => aB) (fun _ _ => fun _ _ => aB) (fun _ => fun _ _ => aB) (fun i idx sz off s f P X o ev ob nb k => oN (faK P s f) .fail fun d => fN (Nat.add off d) fun a => k (.rp i idx sz a) ob nb) (fun _ _ _ _ => fun _ _ => aB) (fun _ _ _ _ _ => fun _ _ => aB) (fun _ => fun _ _ => aB) PUnit.unit (fun _ _ _ _ => PUnit.unit) s
def qI (s : TypeId) (x : Operand) (f : Nat) : OpK := fun P X o ev ob nb k => faE (ev x) s f P X o ev ob nb k
theorem BG (s : TypeId) (x : Operand) (f : Nat) : qI s x f = kW s x f := by
 funext P X o ev ob nb k
 unfold qI kW
 generalize ev x = s
 cases s <;> rfl
def ZY (op : BinOp) : IntKind -> Int -> Int -> R -> (SV -> R) -> R := @BinOp.rec (fun _ => IntKind -> Int -> Int -> R -> (SV -> R) -> R) (fun k x y _ c => PW k (Int.add x y) c) (fun k x y _ c => PW k (Int.sub x y) c) (fun _ _ _ g _ => g) (fun _ _ _ g _ => g) (fun _ _ _ g _ => g) (fun _ _ _ g _ => g) (fun _ _ _ g _ => g) (fun _ _ _ g _ => g) (fun _ _ _ g _ => g) (fun _ _ _ g _ => g) (fun _ _ _ g _ => g) (fun _ x y _ c => c (.kb (eqI x y))) (fun _ x y _ c => c (.kb (nB (eqI x y)))) (fun _ x y _ c => c (.kb (Cb x y))) (fun _ x y _ c => c (.kb (nB (Cb y x)))) (fun _ x y _ c => c (.kb (Cb y x))) (fun _ x y _ c => c (.kb (nB (Cb x y)))) op
theorem VE (op : BinOp) (k : IntKind) (x y : Int) (g : R) (c : SV -> R) : ZY op k x y g c = NK op k x y g c := by cases op <;> rfl
def ab2 (s : SV) : IntKind -> Int -> BinOp -> OpK := @SV.rec (fun _ => IntKind -> Int -> BinOp -> OpK) (fun _ => PUnit) (fun _ _ _ => aB) (fun _ => fun _ _ _ => aB) (fun _ _ => fun _ _ _ => aB) (fun _ _ => fun _ _ _ => aB) (fun _ _ => fun _ _ _ => aB) (fun _ _ => fun _ _ _ => aB) (fun _ _ _ => fun _ _ _ => aB) (fun _ => fun _ _ _ => aB) (fun kk' b kk a op P X o ev ob nb k => BR (eG kk kk') (ZY op kk a b (aB P X o ev ob nb k) fun s => k s ob nb) .fail) (fun _ => fun _ _ _ => aB) (fun _ _ _ _ => fun _ _ _ => aB) (fun _ _ _ _ => fun _ _ _ => aB) (fun _ _ _ _ _ => fun _ _ _ => aB) (fun _ => fun _ _ _ => aB) PUnit.unit (fun _ _ _ _ => PUnit.unit) s
def adu (s : SV) : BinOp -> Operand -> OpK := @SV.rec (fun _ => BinOp -> Operand -> OpK) (fun _ => PUnit) (fun _ _ => aB) (fun _ => fun _ _ => aB) (fun _ _ => fun _ _ => aB) (fun _ _ => fun _ _ => aB) (fun _ _ => fun _ _ => aB) (fun _ _ => fun _ _ => aB) (fun _ _ _ => fun _ _ => aB) (fun _ => fun _ _ => aB) (fun kk a op y P X o ev ob nb k => ab2 (ev y) kk a op P X o ev ob nb k) (fun _ => fun _ _ => aB) (fun _ _ _ _ => fun _ _ => aB) (fun _ _ _ _ => fun _ _ => aB) (fun _ _ _ _ _ => fun _ _ => aB) (fun _ => fun _ _ => aB) PUnit.unit (fun _ _ _ _ => PUnit.unit) s
def Tx (op : BinOp) (x y : Operand) : OpK := fun P X o ev ob nb k => BR (Wq y) (aB P X o ev ob nb k) (adu (ev x) op y P X o ev ob nb k)
theorem Tz (op : BinOp) (x y : Operand) : Tx op x y = Tw op x y := by
 funext P X o ev ob nb k
 unfold Tx Tw
 congr 1
 generalize ev x = s
 cases s with
 | ki kk a =>
   show ab2 (ev y) kk a op P X o ev ob nb k = _
   generalize ev y = r
   cases r with
   | ki kk' b => show BR _ (ZY _ _ _ _ _ _) _ = _; rw [VE]
   | _ => rfl
 | _ => rfl
def fnX (s : SV) : List Operand -> OpK := @SV.rec (fun _ => List Operand -> OpK) (fun _ => PUnit) (fun _ => failK) (fun _ => fun _ => failK) (fun _ _ => fun _ => failK) (fun _ _ => fun _ => failK) (fun _ _ => fun _ => failK) (fun _ _ => fun _ => failK) (fun fk caps _ args P X o ev ob nb k => X.I X.top X.base fk (OC args ev caps) ob nb k) (fun _ => fun _ => failK) (fun _ _ => fun _ => failK) (fun _ => fun _ => failK) (fun _ _ _ _ => fun _ => failK) (fun _ _ _ _ => fun _ => failK) (fun _ _ _ _ _ => fun _ => failK) (fun _ => fun _ => failK) PUnit.unit (fun _ _ _ _ => PUnit.unit) s
def aay (f : Operand) (args : List Operand) : OpK := fun P X o ev ob nb k => fnX (ev f) args P X o ev ob nb k
theorem Wu (f : Operand) (args : List Operand) : aay f args = kFn f args := by
 funext P X o ev ob nb k
 unfold aay kFn
 generalize ev f = s
 cases s <;> rfl
def acz (s : SV) : Nat -> Nat -> Nat -> Nat -> TypeId -> OpK := @SV.rec (fun _ => Nat -> Nat -> Nat -> Nat -> TypeId -> OpK) (fun _ => PUnit) (fun _ _ _ _ _ => aB) (fun _ => fun _ _ _ _ _ => aB) (fun _ _ => fun _ _ _ _ _ => aB) (fun _ _ => fun _ _ _ _ _ => aB) (fun _ _ => fun _ _ _ _ _ => aB) (fun _ _ => fun _ _ _ _ _ => aB) (fun _ _ _ => fun _ _ _ _ _ => aB) (fun _ => fun _ _ _ _ _ => aB) (fun _ iv q z o' n t P X o ev ob nb k => oN (iaK P t) .fail fun z' => BR (Nat.beq z' z) (ltI iv n fun m => fN (Nat.add o' m) fun a => k (.rp q a z 0) ob nb) .fail) (fun _ => fun _ _ _ _ _ => aB) (fun _ _ _ _ => fun _ _ _ _ _ => aB) (fun _ _ _ _ => fun _ _ _ _ _ => aB) (fun _ _ _ _ _ => fun _ _ _ _ _ => aB) (fun _ => fun _ _ _ _ _ => aB) PUnit.unit (fun _ _ _ _ => PUnit.unit) s
def adE (s : SV) : TypeId -> Operand -> OpK := @SV.rec (fun _ => TypeId -> Operand -> OpK) (fun _ => PUnit) (fun _ _ => aB) (fun _ => fun _ _ => aB) (fun _ _ => fun _ _ => aB) (fun _ _ => fun _ _ => aB) (fun _ _ => fun _ _ => aB) (fun _ _ => fun _ _ => aB) (fun _ _ _ => fun _ _ => aB) (fun _ => fun _ _ => aB) (fun _ _ => fun _ _ => aB) (fun _ => fun _ _ => aB) (fun _ _ _ _ => fun _ _ => aB) (fun _ _ _ _ => fun _ _ => aB) (fun q z o' n _ t i P X o ev ob nb k => acz (ev i) q z o' n t P X o ev ob nb k) (fun _ => fun _ _ => aB) PUnit.unit (fun _ _ _ _ => PUnit.unit) s
def TB (t : TypeId) (x i : Operand) : OpK := fun P X o ev ob nb k => adE (ev x) t i P X o ev ob nb k
theorem TD (t : TypeId) (x i : Operand) : TB t x i = J4 t x i := by
 funext P X o ev ob nb k
 unfold TB J4
 generalize ev x = s
 cases s with
 | sl q z o' n c =>
   show acz (ev i) q z o' n t P X o ev ob nb k = _
   generalize ev i = r
   cases r <;> rfl
 | _ => rfl
def adH (s : SV) : TypeId -> OpK := @SV.rec (fun _ => TypeId -> OpK) (fun _ => PUnit) (fun _ => aB) (fun _ => fun _ => aB) (fun _ _ => fun _ => aB) (fun _ _ => fun _ => aB) (fun _ _ => fun _ => aB) (fun _ _ => fun _ => aB) (fun _ _ _ => fun _ => aB) (fun _ => fun _ => aB) (fun _ _ => fun _ => aB) (fun _ => fun _ => aB) (fun _ _ _ _ => fun _ => aB) (fun _ _ _ _ => fun _ => aB) (fun _ _ _ n _ t P X o ev ob nb k => BR (Ws P t) (k (.ki .i64 (.ofNat n)) ob nb) .fail) (fun _ => fun _ => aB) PUnit.unit (fun _ _ _ _ => PUnit.unit) s
def TG (t : TypeId) (x : Operand) : OpK := fun P X o ev ob nb k => adH (ev x) t P X o ev ob nb k
theorem TH (t : TypeId) (x : Operand) : TG t x = Wv t x := by
 funext P X o ev ob nb k
 unfold TG Wv
 generalize ev x = s
 cases s <;> rfl
def exE (s : SV) : Nat -> OpK := @SV.rec (fun _ => Nat -> OpK) (fun _ => PUnit) (fun _ => aB) (fun _ => fun _ => aB) (fun _ _ => fun _ => aB) (fun l _ i P X o ev ob nb k => Kt l i .fail fun s => k (nKS s) ob nb) (fun _ _ => fun _ => aB) (fun _ _ => fun _ => aB) (fun _ _ _ => fun _ => aB) (fun _ => fun _ => aB) (fun _ _ => fun _ => aB) (fun _ => fun _ => aB) (fun _ _ _ _ => fun _ => aB) (fun _ _ _ _ => fun _ => aB) (fun _ _ _ _ _ => fun _ => aB) (fun _ => fun _ => aB) PUnit.unit (fun _ _ _ _ => PUnit.unit) s
def aax (x : Operand) (i : Nat) : OpK := fun P X o ev ob nb k => exE (ev x) i P X o ev ob nb k
theorem Wt (x : Operand) (i : Nat) : aax x i = qH x i := by
 funext P X o ev ob nb k
 unfold aax qH
 generalize ev x = s
 cases s <;> first | rfl | (simp only [exE, xZ])
def unE (s : SV) : OpK := @SV.rec (fun _ => OpK) (fun _ => PUnit) (aB) (fun _ => aB) (fun _ _ => aB) (fun _ _ => aB) (fun _ _ => aB) (fun _ _ => aB) (fun _ _ _ => aB) (fun b P X o ev ob nb k => k (.kb (nB b)) ob nb) (fun _ _ => aB) (fun _ => aB) (fun _ _ _ _ => aB) (fun _ _ _ _ => aB) (fun _ _ _ _ _ => aB) (fun _ => aB) PUnit.unit (fun _ _ _ _ => PUnit.unit) s
def acA (x : Operand) : OpK := fun P X o ev ob nb k => unE (ev x) P X o ev ob nb k
structure OBox where
 f : OpK
def unB (op : UnOp) (x : Operand) : OBox := match op with
 | .not => ⟨acA x⟩
 | _ => ⟨aB⟩
theorem abP (op : UnOp) (x : Operand) : (unB op x).f = kUn op x := by
 funext P X o ev ob nb k
 cases op
 case not =>
  show unE (ev x) P X o ev ob nb k = kUn .not x P X o ev ob nb k
  unfold kUn
  generalize ev x = s
  cases s <;> rfl
 all_goals
  show aB P X o ev ob nb k = kUn _ x P X o ev ob nb k
  unfold kUn
  generalize ev x = s
  cases s <;> rfl
def Z4 (b : Builtin) (as : List Operand) (ts : List TypeId) : OBox := match b, as, ts with
 | .len, [x], [t] => ⟨TG t x⟩
 | _, _, _ => ⟨aB⟩
theorem VK (c : Call) (b : Builtin) : (Z4 b c.args.toList c.argTypes.toList).f = qG c b := by
 unfold Z4 qG
 split
 · rename_i x t _ _
   rw [TH]
   funext P X o ev ob nb k
   simp_all
 · rename_i h
   funext P X o ev ob nb k
   split
   · rename_i h1 h2 h3
     exact (h _ _ rfl h2 h3).elim
   · rfl
def Sm (c : Call) : OBox := match c.callee with
 | .value f => ⟨aay f c.args.toList⟩
 | .builtin b => Z4 b c.args.toList c.argTypes.toList
 | _ => ⟨aB⟩
theorem Sn (c : Call) : (Sm c).f = J3 c := by
 unfold Sm J3
 cases c.callee <;> first | exact Wu _ _ | exact VK c _ | rfl
def opB (o : Oper) : OBox := match o.op with
 | .move x => ⟨EM x⟩
 | .assign x => ⟨EM x⟩
 | .pick c a b => ⟨Mw c a b⟩
 | .alloc t => ⟨Ml t⟩
 | .box t x => ⟨aav t x⟩
 | .build t ps => ⟨Mq t ps⟩
 | .load t x => ⟨Mv t x⟩
 | .store t p x => ⟨H6 t p x⟩
 | .nilCheck x => ⟨TJ x⟩
 | .binOp op t x y _ => ⟨Tx op x y⟩
 | .unOp op _ x => unB op x
 | .fieldAddr s x f => ⟨qI s x f⟩
 | .field t x f => ⟨Ms t x f⟩
 | .indexAddr t x i => ⟨TB t x i⟩
 | .index t x i => ⟨Mt t x i⟩
 | .lookup t x i ok => ⟨HZ t x i ok⟩
 | .extract x i => ⟨aax x i⟩
 | .call c => Sm c
 | .range t x => ⟨Mx t x⟩
 | .entry x => ⟨Mr x⟩
 | .next _ _ => ⟨failK⟩
 | _ => ⟨aB⟩
def opS (o : Oper) : OpK := (opB o).f
theorem aaR (o : Oper) : opS o = opG o := by
 unfold opS opB opG
 cases o.op <;> first | rfl | exact Qs _ _ _ | exact Qq _ _ | exact MB _ _ _ | exact TK _ | exact Tz _ _ _ | exact abP _ _ | exact BG _ _ _ | exact TD _ _ _ | exact Wt _ _ | exact Sn _
def brE (s : SV) : R -> R -> R -> R := @SV.rec (fun _ => R -> R -> R -> R) (fun _ => PUnit) (fun _ _ c => c) (fun _ => fun _ _ c => c) (fun _ _ => fun _ _ c => c) (fun _ _ => fun _ _ c => c) (fun _ _ => fun _ _ c => c) (fun _ _ => fun _ _ c => c) (fun _ _ _ => fun _ _ c => c) (fun q a b _ => BR q a b) (fun _ _ => fun _ _ c => c) (fun _ => fun _ _ c => c) (fun _ _ _ _ => fun _ _ c => c) (fun _ _ _ _ => fun _ _ c => c) (fun _ _ _ _ _ => fun _ _ c => c) (fun _ => fun _ _ c => c) PUnit.unit (fun _ _ _ _ => PUnit.unit) s
theorem Z6 (s : SV) (a b c : R) : brE s a b c = match s with
 | .kb q => BR q a b
 | _ => c := by cases s <;> rfl
end
end Rx
set_option linter.unusedSectionVars false
set_option linter.unusedSimpArgs false
set_option linter.unusedVariables false
namespace Rx
open Go
variable [Glob]
noncomputable section
abbrev KS := Tr SV -> OB -> Nat -> R
def evG (fl : Nat) (sl : Tr SV) (lo : Lo) : Ev := @Operand.rec (fun _ => SV) (fun t => view fl sl lo t) (fun v => nK (ofConst v)) (fun g => Wo g) (fun f => .fn f [])
theorem L8 (fl : Nat) (sl : Tr SV) (lo : Lo) : evG fl sl lo = evC (view fl sl lo) := by
 funext x
 cases x <;> rfl
abbrev IH := Tr SV -> Lo -> OB -> Nat -> KS -> R
def IB (fl : Nat) (d : Option Tmp) (ih : IH) (sl : Tr SV) (lo : Lo) (s : SV) (ob : OB) (nb : Nat) (k : KS) : R :=
 @Option.rec Tmp (fun _ => R) (ih sl lo ob nb k) (fun d => Qk s fun s => BR (gH fl d) (ih (wV sl d s) lo ob nb k) (ih sl (.cons d s lo) ob nb k)) d
def goG (P : Program) (X : EX) (fl : Nat) (o : Oper) (ih : IH) : IH := fun sl lo ob nb k =>
 opS o P X o (evG fl sl lo) ob nb fun s ob nb => IB fl o.dst ih sl lo s ob nb k
def skG (fl : Nat) (o : Oper) (ih : IH) : IH := fun sl lo ob nb k => IB fl o.dst ih sl lo eZ ob nb k
def gdR (P : Program) (X : EX) (fl : Nat) (o : Oper) (ih : IH) (s : SV) : IH := fun sl lo ob nb k =>
    match s with
     | .dt (.cell (.tuple _)) => skG fl o ih sl lo ob nb k
     | _ => .fail
def gdT (P : Program) (X : EX) (fl : Nat) (o : Oper) (ih : IH) (w : Bool) (t : Tmp) : IH := fun sl lo ob nb k =>
    brE (view fl sl lo t) (BR w (goG P X fl o ih sl lo ob nb k) (skG fl o ih sl lo ob nb k)) (BR w (skG fl o ih sl lo ob nb k) (goG P X fl o ih sl lo ob nb k)) (gdR P X fl o ih (view fl sl lo t) sl lo ob nb k)
def gdG (P : Program) (X : EX) (fl : Nat) (ops : Array Oper) (o : Oper) (ih : IH) (g : Nat × Bool) : IH :=
    @Option.rec Tmp (fun _ => IH) (fun _ _ _ _ _ => .fail) (gdT P X fl o ih g.2) ((ops[g.1]?).bind (·.dst))
theorem aao (P : Program) (X : EX) (fl : Nat) (o : Oper) (ih : IH) (w : Bool) (t : Tmp) (sl : Tr SV) (lo : Lo) (ob : OB) (nb : Nat) (k : KS) : gdT P X fl o ih w t sl lo ob nb k = match view fl sl lo t with
     | .kb b => BR b (BR w (goG P X fl o ih sl lo ob nb k) (skG fl o ih sl lo ob nb k)) (BR w (skG fl o ih sl lo ob nb k) (goG P X fl o ih sl lo ob nb k))
     | .dt (.cell (.tuple _)) => skG fl o ih sl lo ob nb k
     | _ => .fail := by
 unfold gdT
 generalize view fl sl lo t = s
 cases s with
 | dt d => cases d with
   | cell v => cases v <;> rfl
   | _ => rfl
 | _ => rfl
theorem aan (P : Program) (X : EX) (fl : Nat) (ops : Array Oper) (o : Oper) (ih : IH) (g : Nat × Bool) (sl : Tr SV) (lo : Lo) (ob : OB) (nb : Nat) (k : KS) : gdG P X fl ops o ih g sl lo ob nb k = match (ops[g.1]?).bind (·.dst) with
   | none => .fail
   | some t => match view fl sl lo t with
     | .kb b => BR b (BR g.2 (goG P X fl o ih sl lo ob nb k) (skG fl o ih sl lo ob nb k)) (BR g.2 (skG fl o ih sl lo ob nb k) (goG P X fl o ih sl lo ob nb k))
     | .dt (.cell (.tuple _)) => skG fl o ih sl lo ob nb k
     | _ => .fail := by
 unfold gdG
 cases (ops[g.1]?).bind (·.dst) with
 | none => rfl
 | some t => exact aao P X fl o ih g.2 t sl lo ob nb k
def stG (P : Program) (X : EX) (fl : Nat) (ops : Array Oper) (o : Oper) (ih : IH) : IH :=
    @Option.rec (Nat × Bool) (fun _ => IH) (goG P X fl o ih) (gdG P X fl ops o ih) o.guard
def Uz (P : Program) (X : EX) (fl : Nat) (ops : Array Oper) (l : List Oper) : IH :=
 @List.rec Oper (fun _ => IH) (fun sl lo ob nb k => k sl ob nb) (fun o _ ih => stG P X fl ops o ih) l
def okD (N : Nat) (ops : Array Oper) : Bool := ops.toList.all fun o => gI N o.dst
theorem Cw {fl : Nat} {sl : Tr SV} {lo : Lo} {d : Nat} {s : SV} (hd : d < 16777215) : (gH fl d = true -> view fl (wV sl d s) lo = putT (some d) s (view fl sl lo)) /\ (gH fl d = false -> view fl sl (.cons d s lo) = putT (some d) s (view fl sl lo)) := by
 constructor
 · intro hb
   funext j
   show BS (gH fl j) (iF (wV sl d s) j) (look lo j) = l5 (some d) j s (BS (gH fl j) (iF sl j) (look lo j))
   rw [aX, wm j hd]
   by_cases e : j = d
   · subst e; rw [hb, if_pos rfl, if_pos rfl]; rfl
   · rw [if_neg e, if_neg e]
 · intro hb
   funext j
   show BS (gH fl j) (iF sl j) (BS (Nat.beq d j) s (look lo j)) = l5 (some d) j s (BS (gH fl j) (iF sl j) (look lo j))
   rw [aX]
   by_cases e : j = d
   · subst e; rw [hb, if_pos rfl, Nat.beq_refl]; rfl
   · rw [if_neg e, fO (fun h => e h.symm)]; rfl
def KS1 (fl : Nat) (post : SV × HD -> Prop) (ih : IH) (k : KS) (σ : CS) : Prop :=
 ∃ sl lo ob, σ = ⟨view fl sl lo, ⟨av ob, σ.h.nob⟩⟩ /\ (ih sl lo ob σ.h.nob k).holds post
section
variable {E : CEnv} {X : EX} {fl : Nat} {post : SV × HD -> Prop}
theorem KG {d : Option Tmp} {ih : IH} {sl : Tr SV} {lo : Lo} {s : SV} {ob : OB} {nb : Nat} {k : KS} (hd : gI E.N d = true) (hN : E.N <= 16777215) (h : (IB fl d ih sl lo s ob nb k).holds post) :
  KS1 fl post ih k ⟨putT d s (view fl sl lo), ⟨av ob, nb⟩⟩ := by
 cases d with
 | none => exact ⟨sl, lo, ob, rfl, h⟩
 | some d =>
   have hd : d < 16777215 := Nat.lt_of_lt_of_le (show d < E.N by simpa [gI, Nat.blt_eq] using hd) hN
   have h : (Qk s fun s => BR (gH fl d) (ih (wV sl d s) lo ob nb k) (ih sl (.cons d s lo) ob nb k)).holds post := h
   rw [Ot, dI] at h
   obtain ⟨h1, h2⟩ := Cw (fl := fl) (sl := sl) (lo := lo) (s := s) hd
   cases hb : gH fl d with
   | true => rw [hb] at h; exact ⟨_, lo, ob, by rw [← h1 hb], h⟩
   | false => rw [hb] at h; exact ⟨sl, _, ob, by rw [← h2 hb], h⟩
theorem Ho {o : Oper} {ih : IH} {sl : Tr SV} {lo : Lo} {ob : OB} {nb : Nat} {k : KS} {rid i : Nat} (hX : XRef X E) (hd : gI E.N o.dst = true) (hN : E.N <= 16777215) (hT : dJ E.top nb) (hF : FOk ob nb)
  (h : (goG E.P X fl o ih sl lo ob nb k).holds post) : (bL E rid i (evC (view fl sl lo)) ⟨av ob, nb⟩ o).holds fun y => KS1 fl post ih k ⟨putT o.dst y.1 (view fl sl lo), y.2⟩ := by
 unfold goG at h
 rw [L8, aaR] at h
 refine T.aD (fun y hy => ?_) _ (WV hX hT hF h)
 obtain ⟨ob', h1, h2⟩ := hy
 have := KG (E := E) hd hN h2
 have e : y.2 = ⟨av ob', y.2.nob⟩ := by rw [← h1]
 rw [e]
 exact this
theorem I4 {ops : Array Oper} {o : Oper} {ih : IH} {sl : Tr SV} {lo : Lo} {ob : OB} {nb : Nat} {k : KS} {rid i : Nat} (hX : XRef X E) (hok : okD E.N ops = true) (hd : gI E.N o.dst = true) (hN : E.N <= 16777215) (hT : dJ E.top nb) (hF : FOk ob nb)
  (h : (stG E.P X fl ops o ih sl lo ob nb k).holds post) : (stC E ops rid i o ⟨view fl sl lo, ⟨av ob, nb⟩⟩).holds fun y => KS1 fl post ih k ⟨putT o.dst y.1 (view fl sl lo), y.2⟩ := by
 unfold stC
 rw [hd, cond_true]
 unfold stG at h
 cases hg : o.guard with
 | none => rw [hg] at h; exact Ho hX hd hN hT hF h
 | some g =>
   obtain ⟨j, want⟩ := g
   rw [hg] at h
   have h : (gdG E.P X fl ops o ih (j, want) sl lo ob nb k).holds post := h
   rw [aan] at h
   simp only at h ⊢
   have sk : (skG fl o ih sl lo ob nb k).holds post -> (T.ret (eZ, (⟨av ob, nb⟩ : HS)) : T (SV × HS)).holds fun y => KS1 fl post ih k ⟨putT o.dst y.1 (view fl sl lo), y.2⟩ := fun h => KG (E := E) hd hN h
   split at h
   · exact h.elim
   · rename_i t ht
     simp only [ht]
     have hdt : gI E.N (some t) = true := by
        cases hj : ops[j]? with
        | none => rw [hj] at ht; cases ht
        | some oj =>
          rw [hj] at ht
          have hm : oj ∈ ops.toList := by simpa using Array.mem_of_getElem? hj
          have := List.all_eq_true.1 hok oj hm
          rw [show oj.dst = some t from ht] at this
          exact this
     rw [hdt, cond_true]
     split at h
     · rename_i b hb
       simp only [hb]
       rw [dI] at h
       cases b with
       | true =>
         rw [cond_true, dI] at h
         cases want with
         | true => exact Ho hX hd hN hT hF h
         | false => exact sk h
       | false =>
         rw [cond_false, dI] at h
         cases want with
         | true => exact sk h
         | false => exact Ho hX hd hN hT hF h
     · rename_i x hx
       simp only [hx]
       exact sk h
     · exact h.elim
theorem wJ (hE : E.Ok) {ops : Array Oper} {k : KS} {rid : Nat} (hX : XRef X E) (hok : okD E.N ops = true) (hN : E.N <= 16777215) : ∀ (l : List Oper) (i : Nat) (sl : Tr SV) (lo : Lo) (ob : OB) (nb : Nat), (∀ o ∈ l, gI E.N o.dst = true) -> dJ E.top nb -> FOk ob nb ->
  (Uz E.P X fl ops l sl lo ob nb k).holds post -> (lS E ops rid i l ⟨view fl sl lo, ⟨av ob, nb⟩⟩).holds (KS1 fl post (fun sl _ ob nb k => k sl ob nb) k)
 | [], i, sl, lo, ob, nb, _, _, _, h => ⟨sl, lo, ob, rfl, h⟩
 | o :: l, i, sl, lo, ob, nb, hd, hT, hF, h => by
   simp only [lS, T.ak]
   have h1 := I4 (rid := rid) (i := i) hX hok (hd o (by simp)) hN hT hF (show (stG E.P X fl ops o (Uz E.P X fl ops l) sl lo ob nb k).holds post from h)
   have h2 := T.aT (iU hE (ops := ops) (rid := rid) (i := i) o (σ := ⟨view fl sl lo, ⟨av ob, nb⟩⟩) hF) h1
   refine T.aD (fun y hy => ?_) _ h2
   obtain ⟨⟨g1, g2, g3⟩, sl', lo', ob', e, hh⟩ := hy
   rw [e]
   have eh : y.2 = ⟨av ob', y.2.nob⟩ := congrArg CS.h e
   have hT' : dJ E.top y.2.nob := by
     have g3 : y.2.nob <= max E.top nb := g3
     have := hT.1
     exact ⟨by omega, hT.2⟩
   exact wJ hE hX hok hN l (i + 1) sl' lo' ob' y.2.nob (fun o ho => hd o (by simp [ho])) hT' (fun i hi => by
     have := g1 i hi
     rw [eh] at this
     exact this) hh
end
end
end Rx
