/- Rx, part Xb: slim eliminators for the kernel: all arms are closed, so nothing is copied. Printed by gen/slim.py. -/
import Derived.Test.YtildnaomamnkgaaGreatDoorRxX2
set_option linter.unusedSectionVars false
set_option linter.unusedSimpArgs false
set_option linter.unusedVariables false
namespace Rx
open Go
variable [Glob]
noncomputable section
def aN (a b : Bool) : Bool := @Bool.rec (fun _ => Bool) false b a
theorem gY (a b : Bool) : aN a b = (a && b) := by cases a <;> rfl
def failK : OpK := fun _ _ _ _ _ _ _ => .fail
def nKS (s : SV) : SV := @SV.rec (fun _ => SV) (fun _ => PUnit) (.junk) (fun d => nK (.dt d)) (fun x0 _ => .agg x0) (fun x0 _ => .tup x0) (fun x0 x1 => .ptr x0 x1) (fun x0 x1 => .el x0 x1) (fun x0 x1 _ => .fn x0 x1) (fun x0 => .kb x0) (fun x0 x1 => .ki x0 x1) (fun x0 => .nm x0) (fun x0 x1 x2 x3 => .rp x0 x1 x2 x3) (fun x0 x1 x2 x3 => .ri x0 x1 x2 x3) (fun x0 x1 x2 x3 x4 => .sl x0 x1 x2 x3 x4) (fun x0 => .sy x0) PUnit.unit (fun _ _ _ _ => PUnit.unit) s
theorem vO (s : SV) : nKS s = nK s := by cases s <;> rfl
def YM (s : SV) : Bool := @SV.rec (fun _ => Bool) (fun _ => PUnit) (false) (fun d => eO (.dt d)) (fun _ _ => false) (fun _ _ => false) (fun _ _ => true) (fun _ _ => true) (fun _ _ _ => true) (fun _ => true) (fun _ _ => true) (fun _ => true) (fun _ _ _ _ => true) (fun _ _ _ _ => true) (fun _ _ _ _ _ => true) (fun _ => true) PUnit.unit (fun _ _ _ _ => PUnit.unit) s
theorem Uk (s : SV) : YM s = eO s := by cases s <;> rfl
def adH (s : SV) : OpK := @SV.rec (fun _ => OpK) (fun _ => PUnit) (av) (fun _ => av) (fun _ _ => av) (fun _ _ => av) (fun i f P X o ev ob nb k => k (.ptr i f) ob nb) (fun _ _ => av) (fun _ _ _ => av) (fun _ => av) (fun _ _ => av) (fun _ => av) (fun i y z f P X o ev ob nb k => k (.rp i y z f) ob nb) (fun _ _ _ _ => av) (fun _ _ _ _ _ => av) (fun _ => av) PUnit.unit (fun _ _ _ _ => PUnit.unit) s
def O7 (x : Operand) : OpK := fun P X o ev ob nb k => adH (ev x) P X o ev ob nb k
theorem QT (x : Operand) : O7 x = PX x := by
 funext P X o ev ob nb k
 unfold O7 PX
 generalize ev x = s
 cases s <;> rfl
def ZT (s : SV) : Operand -> Operand -> OpK := @SV.rec (fun _ => Operand -> Operand -> OpK) (fun _ => PUnit) (fun _ _ => av) (fun _ => fun _ _ => av) (fun _ _ => fun _ _ => av) (fun _ _ => fun _ _ => av) (fun _ _ => fun _ _ => av) (fun _ _ => fun _ _ => av) (fun _ _ _ => fun _ _ => av) (fun q a b P X o ev ob nb k => BR q (k (ev a) ob nb) (k (ev b) ob nb)) (fun _ _ => fun _ _ => av) (fun _ => fun _ _ => av) (fun _ _ _ _ => fun _ _ => av) (fun _ _ _ _ => fun _ _ => av) (fun _ _ _ _ _ => fun _ _ => av) (fun _ => fun _ _ => av) PUnit.unit (fun _ _ _ _ => PUnit.unit) s
def Lg (c a b : Operand) : OpK := fun P X o ev ob nb k => ZT (ev c) a b P X o ev ob nb k
theorem Nn (c a b : Operand) : Lg c a b = JG c a b := by
 funext P X o ev ob nb k
 unfold Lg JG
 generalize ev c = s
 cases s <;> rfl
def Y7 (b : Ob) : TypeId -> Nat -> OpK := @Ob.rec (fun _ => TypeId -> Nat -> OpK) (fun _ cs t off P X o ev ob nb k => oB (ldK P t) .fail (av P X o ev ob nb k) (IZ cs off .fail fun s => k (nKS s) ob nb)) (fun _ _ _ _ => fun _ _ => failK) (fun _ => fun _ _ => failK) (fun _ _ _ => fun _ _ => failK) (fun _ _ _ => fun _ _ => failK) (fun _ _ _ _ _ => fun _ _ => failK) (fun _ _ _ => fun _ _ => failK) b
def QX (x : Option Ob) : TypeId -> Nat -> OpK := @Option.rec Ob (fun _ => TypeId -> Nat -> OpK) (fun _ _ => failK) Y7 x
def Vg (b : Ob) : TypeId -> Nat -> Nat -> Nat -> OpK := @Ob.rec (fun _ => TypeId -> Nat -> Nat -> Nat -> OpK) (fun _ _ => fun _ _ _ _ => av) (fun _ _ _ _ => fun _ _ _ _ => av) (fun _ => fun _ _ _ _ => av) (fun _ _ _ => fun _ _ _ _ => av) (fun _ _ _ => fun _ _ _ _ => av) (fun _ sz' len tr _ t idx sz off P X o ev ob nb k => oB (ldK P t) .fail (szK P t fun n => BR (aN (Nat.beq sz sz') (aN (Nat.ble (Nat.add off n) sz) (Nat.blt idx len))) (k (.agg (nA tr n (Nat.add (Nat.mul idx sz) off))) ob nb) .fail) (BR (aN (Nat.beq sz sz') (aN (Nat.blt off sz) (Nat.blt idx len))) (k (nKS (gU tr (Nat.add (Nat.mul idx sz) off))) ob nb) .fail)) (fun _ _ _ => fun _ _ _ _ => av) b
def WZ (x : Option Ob) : TypeId -> Nat -> Nat -> Nat -> OpK := @Option.rec Ob (fun _ => TypeId -> Nat -> Nat -> Nat -> OpK) (fun _ _ _ _ => av) Vg x
def XU (s : SV) : TypeId -> OpK := @SV.rec (fun _ => TypeId -> OpK) (fun _ => PUnit) (fun _ => av) (fun _ => fun _ => av) (fun _ _ => fun _ => av) (fun _ _ => fun _ => av) (fun i off t P X o ev ob nb k => QX (au ob i) t off P X o ev ob nb k) (fun _ _ => fun _ => av) (fun _ _ _ => fun _ => av) (fun _ => fun _ => av) (fun _ _ => fun _ => av) (fun _ => fun _ => av) (fun i idx sz off t P X o ev ob nb k => WZ (au ob i) t idx sz off P X o ev ob nb k) (fun _ _ _ _ => fun _ => av) (fun _ _ _ _ _ => fun _ => av) (fun _ => fun _ => av) PUnit.unit (fun _ _ _ _ => PUnit.unit) s
def KE (t : TypeId) (x : Operand) : OpK := fun P X o ev ob nb k => XU (ev x) t P X o ev ob nb k
theorem NR (t : TypeId) (x : Operand) : KE t x = Eo t x := by
 funext P X o ev ob nb k
 unfold KE Eo
 generalize ev x = s
 cases s with
 | ptr i off =>
   show QX (au ob i) t off P X o ev ob nb k = _
   simp only
   generalize au ob i = y
   cases y with
   | none => rfl
   | some b => cases b <;> first | rfl | (simp only [QX, Y7, vO])
 | rp i idx sz off =>
   show WZ (au ob i) t idx sz off P X o ev ob nb k = _
   simp only
   generalize au ob i = y
   cases y with
   | none => rfl
   | some b => cases b <;> first | rfl | (simp only [WZ, Vg, vO, gY, Nat.add_eq])
 | _ => rfl
def Y4 (b : Ob) : TypeId -> Nat -> Nat -> SV -> OpK := @Ob.rec (fun _ => TypeId -> Nat -> Nat -> SV -> OpK) (fun t' cs t i off xv P X o ev ob nb k => BR (Ma P t) (BR (YM xv) (BR (aN (Nat.ble X.base i) (Nat.ble (Nat.succ off) cs.length)) (k .junk (lZ ob i (some (.cells t' (Sz cs off xv)))) nb) .fail) (av P X o ev ob nb k)) (av P X o ev ob nb k)) (fun _ _ _ _ => fun _ _ _ _ => failK) (fun _ => fun _ _ _ _ => failK) (fun _ _ _ => fun _ _ _ _ => failK) (fun _ _ _ => fun _ _ _ _ => failK) (fun _ _ _ _ _ => fun _ _ _ _ => failK) (fun _ _ _ => fun _ _ _ _ => failK) b
def RG (x : Option Ob) : TypeId -> Nat -> Nat -> SV -> OpK := @Option.rec Ob (fun _ => TypeId -> Nat -> Nat -> SV -> OpK) (fun _ _ _ _ => failK) Y4 x
def WK (s : SV) : TypeId -> Operand -> OpK := @SV.rec (fun _ => TypeId -> Operand -> OpK) (fun _ => PUnit) (fun _ _ => av) (fun _ => fun _ _ => av) (fun _ _ => fun _ _ => av) (fun _ _ => fun _ _ => av) (fun i off t x P X o ev ob nb k => RG (au ob i) t i off (ev x) P X o ev ob nb k) (fun _ _ => fun _ _ => av) (fun _ _ _ => fun _ _ => av) (fun _ => fun _ _ => av) (fun _ _ => fun _ _ => av) (fun _ => fun _ _ => av) (fun _ _ _ _ => fun _ _ => av) (fun _ _ _ _ => fun _ _ => av) (fun _ _ _ _ _ => fun _ _ => av) (fun _ => fun _ _ => av) PUnit.unit (fun _ _ _ _ => PUnit.unit) s
def Ey (t : TypeId) (p x : Operand) : OpK := fun P X o ev ob nb k => WK (ev p) t x P X o ev ob nb k
theorem Kk (t : TypeId) (p x : Operand) : Ey t p x = vT t p x := by
 funext P X o ev ob nb k
 unfold Ey vT
 generalize ev p = s
 cases s with
 | ptr i off =>
   show RG (au ob i) t i off (ev x) P X o ev ob nb k = _
   simp only
   generalize au ob i = y
   cases y with
   | none => rfl
   | some b => cases b <;> first | rfl | (simp only [RG, Y4, Uk, gY, Nat.succ_eq_add_one])
 | _ => rfl
def faE (s : SV) : TypeId -> Nat -> OpK := @SV.rec (fun _ => TypeId -> Nat -> OpK) (fun _ => PUnit) (fun _ _ => av) (fun _ => fun _ _ => av) (fun _ _ => fun _ _ => av) (fun _ _ => fun _ _ => av) (fun i off s f P X o ev ob nb k => oN (faK P s f) .fail fun d => fN (Nat.add off d) fun a => k (.ptr i a) ob nb) (fun _ _ => fun _ _ => av) (fun _ _ _ => fun _ _ => av) (fun _ => fun _ _ => av) (fun _ _ => fun _ _ => av) (fun _ => fun _ _ => av) (fun i idx sz off s f P X o ev ob nb k => oN (faK P s f) .fail fun d => fN (Nat.add off d) fun a => k (.rp i idx sz a) ob nb) (fun _ _ _ _ => fun _ _ => av) (fun _ _ _ _ _ => fun _ _ => av) (fun _ => fun _ _ => av) PUnit.unit (fun _ _ _ _ => PUnit.unit) s
def oH (s : TypeId) (x : Operand) (f : Nat) : OpK := fun P X o ev ob nb k => faE (ev x) s f P X o ev ob nb k
theorem Au (s : TypeId) (x : Operand) (f : Nat) : oH s x f = kg s x f := by
 funext P X o ev ob nb k
 unfold oH kg
 generalize ev x = s
 cases s <;> rfl
def VD (op : BinOp) : IntKind -> Int -> Int -> R -> (SV -> R) -> R := @BinOp.rec (fun _ => IntKind -> Int -> Int -> R -> (SV -> R) -> R) (fun k x y _ c => Om k (Int.add x y) c) (fun k x y _ c => Om k (Int.sub x y) c) (fun _ _ _ g _ => g) (fun _ _ _ g _ => g) (fun _ _ _ g _ => g) (fun _ _ _ g _ => g) (fun _ _ _ g _ => g) (fun _ _ _ g _ => g) (fun _ _ _ g _ => g) (fun _ _ _ g _ => g) (fun _ _ _ g _ => g) (fun _ x y _ c => c (.kb (eqI x y))) (fun _ x y _ c => c (.kb (nB (eqI x y)))) (fun _ x y _ c => c (.kb (zN x y))) (fun _ x y _ c => c (.kb (nB (zN y x)))) (fun _ x y _ c => c (.kb (zN y x))) (fun _ x y _ c => c (.kb (nB (zN x y)))) op
theorem Sq (op : BinOp) (k : IntKind) (x y : Int) (g : R) (c : SV -> R) : VD op k x y g c = LH op k x y g c := by cases op <;> rfl
def Xv (s : SV) : IntKind -> Int -> BinOp -> OpK := @SV.rec (fun _ => IntKind -> Int -> BinOp -> OpK) (fun _ => PUnit) (fun _ _ _ => av) (fun _ => fun _ _ _ => av) (fun _ _ => fun _ _ _ => av) (fun _ _ => fun _ _ _ => av) (fun _ _ => fun _ _ _ => av) (fun _ _ => fun _ _ _ => av) (fun _ _ _ => fun _ _ _ => av) (fun _ => fun _ _ _ => av) (fun kk' b kk a op P X o ev ob nb k => BR (dX kk kk') (VD op kk a b (av P X o ev ob nb k) fun s => k s ob nb) .fail) (fun _ => fun _ _ _ => av) (fun _ _ _ _ => fun _ _ _ => av) (fun _ _ _ _ => fun _ _ _ => av) (fun _ _ _ _ _ => fun _ _ _ => av) (fun _ => fun _ _ _ => av) PUnit.unit (fun _ _ _ _ => PUnit.unit) s
def aap (s : SV) : BinOp -> Operand -> OpK := @SV.rec (fun _ => BinOp -> Operand -> OpK) (fun _ => PUnit) (fun _ _ => av) (fun _ => fun _ _ => av) (fun _ _ => fun _ _ => av) (fun _ _ => fun _ _ => av) (fun _ _ => fun _ _ => av) (fun _ _ => fun _ _ => av) (fun _ _ _ => fun _ _ => av) (fun _ => fun _ _ => av) (fun kk a op y P X o ev ob nb k => Xv (ev y) kk a op P X o ev ob nb k) (fun _ => fun _ _ => av) (fun _ _ _ _ => fun _ _ => av) (fun _ _ _ _ => fun _ _ => av) (fun _ _ _ _ _ => fun _ _ => av) (fun _ => fun _ _ => av) PUnit.unit (fun _ _ _ _ => PUnit.unit) s
def QZ (op : BinOp) (x y : Operand) : OpK := fun P X o ev ob nb k => BR (R6 y) (av P X o ev ob nb k) (aap (ev x) op y P X o ev ob nb k)
theorem Qc (op : BinOp) (x y : Operand) : QZ op x y = QJ op x y := by
 funext P X o ev ob nb k
 unfold QZ QJ
 congr 1
 generalize ev x = s
 cases s with
 | ki kk a =>
   show Xv (ev y) kk a op P X o ev ob nb k = _
   generalize ev y = r
   cases r with
   | ki kk' b => show BR _ (VD _ _ _ _ _ _) _ = _; rw [Sq]
   | _ => rfl
 | _ => rfl
def fnX (s : SV) : List Operand -> OpK := @SV.rec (fun _ => List Operand -> OpK) (fun _ => PUnit) (fun _ => failK) (fun _ => fun _ => failK) (fun _ _ => fun _ => failK) (fun _ _ => fun _ => failK) (fun _ _ => fun _ => failK) (fun _ _ => fun _ => failK) (fun fk caps _ args P X o ev ob nb k => X.I X.top X.base fk (MJ args ev caps) ob nb k) (fun _ => fun _ => failK) (fun _ _ => fun _ => failK) (fun _ => fun _ => failK) (fun _ _ _ _ => fun _ => failK) (fun _ _ _ _ => fun _ => failK) (fun _ _ _ _ _ => fun _ => failK) (fun _ => fun _ => failK) PUnit.unit (fun _ _ _ _ => PUnit.unit) s
def VL (f : Operand) (args : List Operand) : OpK := fun P X o ev ob nb k => fnX (ev f) args P X o ev ob nb k
theorem R4 (f : Operand) (args : List Operand) : VL f args = kFn f args := by
 funext P X o ev ob nb k
 unfold VL kFn
 generalize ev f = s
 cases s <;> rfl
def YX (s : SV) : Nat -> Nat -> Nat -> Nat -> TypeId -> OpK := @SV.rec (fun _ => Nat -> Nat -> Nat -> Nat -> TypeId -> OpK) (fun _ => PUnit) (fun _ _ _ _ _ => av) (fun _ => fun _ _ _ _ _ => av) (fun _ _ => fun _ _ _ _ _ => av) (fun _ _ => fun _ _ _ _ _ => av) (fun _ _ => fun _ _ _ _ _ => av) (fun _ _ => fun _ _ _ _ _ => av) (fun _ _ _ => fun _ _ _ _ _ => av) (fun _ => fun _ _ _ _ _ => av) (fun _ iv q z o' n t P X o ev ob nb k => oN (iaK P t) .fail fun z' => BR (Nat.beq z' z) (ltI iv n fun m => fN (Nat.add o' m) fun a => k (.rp q a z 0) ob nb) .fail) (fun _ => fun _ _ _ _ _ => av) (fun _ _ _ _ => fun _ _ _ _ _ => av) (fun _ _ _ _ => fun _ _ _ _ _ => av) (fun _ _ _ _ _ => fun _ _ _ _ _ => av) (fun _ => fun _ _ _ _ _ => av) PUnit.unit (fun _ _ _ _ => PUnit.unit) s
def aeT (s : SV) : TypeId -> Operand -> OpK := @SV.rec (fun _ => TypeId -> Operand -> OpK) (fun _ => PUnit) (fun _ _ => av) (fun _ => fun _ _ => av) (fun _ _ => fun _ _ => av) (fun _ _ => fun _ _ => av) (fun _ _ => fun _ _ => av) (fun _ _ => fun _ _ => av) (fun _ _ _ => fun _ _ => av) (fun _ => fun _ _ => av) (fun _ _ => fun _ _ => av) (fun _ => fun _ _ => av) (fun _ _ _ _ => fun _ _ => av) (fun _ _ _ _ => fun _ _ => av) (fun q z o' n _ t i P X o ev ob nb k => YX (ev i) q z o' n t P X o ev ob nb k) (fun _ => fun _ _ => av) PUnit.unit (fun _ _ _ _ => PUnit.unit) s
def Qt (t : TypeId) (x i : Operand) : OpK := fun P X o ev ob nb k => aeT (ev x) t i P X o ev ob nb k
theorem OO (t : TypeId) (x i : Operand) : Qt t x i = Ju t x i := by
 funext P X o ev ob nb k
 unfold Qt Ju
 generalize ev x = s
 cases s with
 | sl q z o' n c =>
   show YX (ev i) q z o' n t P X o ev ob nb k = _
   generalize ev i = r
   cases r <;> rfl
 | _ => rfl
def ae4 (s : SV) : TypeId -> OpK := @SV.rec (fun _ => TypeId -> OpK) (fun _ => PUnit) (fun _ => av) (fun _ => fun _ => av) (fun _ _ => fun _ => av) (fun _ _ => fun _ => av) (fun _ _ => fun _ => av) (fun _ _ => fun _ => av) (fun _ _ _ => fun _ => av) (fun _ => fun _ => av) (fun _ _ => fun _ => av) (fun _ => fun _ => av) (fun _ _ _ _ => fun _ => av) (fun _ _ _ _ => fun _ => av) (fun _ _ _ n _ t P X o ev ob nb k => BR (Sk P t) (k (.ki .i64 (.ofNat n)) ob nb) .fail) (fun _ => fun _ => av) PUnit.unit (fun _ _ _ _ => PUnit.unit) s
def PW (t : TypeId) (x : Operand) : OpK := fun P X o ev ob nb k => ae4 (ev x) t P X o ev ob nb k
theorem Qs (t : TypeId) (x : Operand) : PW t x = TW t x := by
 funext P X o ev ob nb k
 unfold PW TW
 generalize ev x = s
 cases s <;> rfl
def exE (s : SV) : Nat -> OpK := @SV.rec (fun _ => Nat -> OpK) (fun _ => PUnit) (fun _ => av) (fun _ => fun _ => av) (fun _ _ => fun _ => av) (fun l _ i P X o ev ob nb k => IZ l i .fail fun s => k (nKS s) ob nb) (fun _ _ => fun _ => av) (fun _ _ => fun _ => av) (fun _ _ _ => fun _ => av) (fun _ => fun _ => av) (fun _ _ => fun _ => av) (fun _ => fun _ => av) (fun _ _ _ _ => fun _ => av) (fun _ _ _ _ => fun _ => av) (fun _ _ _ _ _ => fun _ => av) (fun _ => fun _ => av) PUnit.unit (fun _ _ _ _ => PUnit.unit) s
def Wq (x : Operand) (i : Nat) : OpK := fun P X o ev ob nb k => exE (ev x) i P X o ev ob nb k
theorem Tm (x : Operand) (i : Nat) : Wq x i = pO x i := by
 funext P X o ev ob nb k
 unfold Wq pO
 generalize ev x = s
 cases s <;> first | rfl | (simp only [exE, vO])
def unE (s : SV) : OpK := @SV.rec (fun _ => OpK) (fun _ => PUnit) (av) (fun _ => av) (fun _ _ => av) (fun _ _ => av) (fun _ _ => av) (fun _ _ => av) (fun _ _ _ => av) (fun b P X o ev ob nb k => k (.kb (nB b)) ob nb) (fun _ _ => av) (fun _ => av) (fun _ _ _ _ => av) (fun _ _ _ _ => av) (fun _ _ _ _ _ => av) (fun _ => av) PUnit.unit (fun _ _ _ _ => PUnit.unit) s
def XY (x : Operand) : OpK := fun P X o ev ob nb k => unE (ev x) P X o ev ob nb k
structure OBox where
 f : OpK
def unB (op : UnOp) (x : Operand) : OBox := match op with
 | .not => ⟨XY x⟩
 | _ => ⟨av⟩
theorem Vn (op : UnOp) (x : Operand) : (unB op x).f = kUn op x := by
 funext P X o ev ob nb k
 cases op
 case not =>
  show unE (ev x) P X o ev ob nb k = kUn .not x P X o ev ob nb k
  unfold kUn
  generalize ev x = s
  cases s <;> rfl
 all_goals
  show av P X o ev ob nb k = kUn _ x P X o ev ob nb k
  unfold kUn
  generalize ev x = s
  cases s <;> rfl
def VB (b : Builtin) (as : List Operand) (ts : List TypeId) : OBox := match b, as, ts with
 | .len, [x], [t] => ⟨PW t x⟩
 | _, _, _ => ⟨av⟩
theorem TS (c : Call) (b : Builtin) : (VB b c.args.toList c.argTypes.toList).f = qC c b := by
 unfold VB qC
 split
 · rename_i x t _ _
   rw [Qs]
   funext P X o ev ob nb k
   simp_all
 · rename_i h
   funext P X o ev ob nb k
   split
   · rename_i h1 h2 h3
     exact (h _ _ rfl h2 h3).elim
   · rfl
def PD (c : Call) : OBox := match c.callee with
 | .value f => ⟨VL f c.args.toList⟩
 | .builtin b => VB b c.args.toList c.argTypes.toList
 | _ => ⟨av⟩
theorem RA (c : Call) : (PD c).f = HZ c := by
 unfold PD HZ
 cases c.callee <;> first | exact R4 _ _ | exact TS c _ | rfl
def opB (o : Oper) : OBox := match o.op with
 | .move x => ⟨DW x⟩
 | .assign x => ⟨DW x⟩
 | .pick c a b => ⟨Lg c a b⟩
 | .alloc t => ⟨Ky t⟩
 | .box t x => ⟨Wu t x⟩
 | .build t ps => ⟨JW t ps⟩
 | .load t x => ⟨KE t x⟩
 | .store t p x => ⟨Ey t p x⟩
 | .nilCheck x => ⟨O7 x⟩
 | .binOp op t x y _ => ⟨QZ op x y⟩
 | .unOp op _ x => unB op x
 | .fieldAddr s x f => ⟨oH s x f⟩
 | .field t x f => ⟨KZ t x f⟩
 | .indexAddr t x i => ⟨Qt t x i⟩
 | .index t x i => ⟨Ko t x i⟩
 | .lookup t x i ok => ⟨GZ t x i ok⟩
 | .extract x i => ⟨Wq x i⟩
 | .call c => PD c
 | .range t x => ⟨Ku t x⟩
 | .entry x => ⟨Lf x⟩
 | .next _ _ => ⟨failK⟩
 | _ => ⟨av⟩
def opS (o : Oper) : OpK := (opB o).f
theorem WA (o : Oper) : opS o = opG o := by
 unfold opS opB opG
 cases o.op <;> first | rfl | exact Nn _ _ _ | exact NR _ _ | exact Kk _ _ _ | exact QT _ | exact Qc _ _ _ | exact Vn _ _ | exact Au _ _ _ | exact OO _ _ _ | exact Tm _ _ | exact RA _
def brE (s : SV) : R -> R -> R -> R := @SV.rec (fun _ => R -> R -> R -> R) (fun _ => PUnit) (fun _ _ c => c) (fun _ => fun _ _ c => c) (fun _ _ => fun _ _ c => c) (fun _ _ => fun _ _ c => c) (fun _ _ => fun _ _ c => c) (fun _ _ => fun _ _ c => c) (fun _ _ _ => fun _ _ c => c) (fun q a b _ => BR q a b) (fun _ _ => fun _ _ c => c) (fun _ => fun _ _ c => c) (fun _ _ _ _ => fun _ _ c => c) (fun _ _ _ _ => fun _ _ c => c) (fun _ _ _ _ _ => fun _ _ c => c) (fun _ => fun _ _ c => c) PUnit.unit (fun _ _ _ _ => PUnit.unit) s
theorem Vw (s : SV) (a b c : R) : brE s a b c = match s with
 | .kb q => BR q a b
 | _ => c := by cases s <;> rfl
end
end Rx
set_option linter.unusedSectionVars false
set_option linter.unusedSimpArgs false
set_option linter.unusedVariables false
namespace Rx
open Go
variable [Glob]
noncomputable section
abbrev KS := Tr SV -> OB -> Nat -> R
def evG (fl : Nat) (sl : Tr SV) (lo : Lo) : Ev := @Operand.rec (fun _ => SV) (fun t => view fl sl lo t) (fun v => nK (ofConst v)) (fun g => SE g) (fun f => .fn f [])
theorem KD (fl : Nat) (sl : Tr SV) (lo : Lo) : evG fl sl lo = evC (view fl sl lo) := by
 funext x
 cases x <;> rfl
abbrev IH := Tr SV -> Lo -> OB -> Nat -> KS -> R
def EZ (fl : Nat) (d : Option Tmp) (ih : IH) (sl : Tr SV) (lo : Lo) (s : SV) (ob : OB) (nb : Nat) (k : KS) : R :=
 @Option.rec Tmp (fun _ => R) (ih sl lo ob nb k) (fun d => Nq s fun s => BR (fU fl d) (ih (qj sl d s) lo ob nb k) (ih sl (.cons d s lo) ob nb k)) d
def goG (P : Program) (X : EX) (fl : Nat) (o : Oper) (ih : IH) : IH := fun sl lo ob nb k =>
 opS o P X o (evG fl sl lo) ob nb fun s ob nb => EZ fl o.dst ih sl lo s ob nb k
def skG (fl : Nat) (o : Oper) (ih : IH) : IH := fun sl lo ob nb k => EZ fl o.dst ih sl lo eu ob nb k
def gdR (P : Program) (X : EX) (fl : Nat) (o : Oper) (ih : IH) (s : SV) : IH := fun sl lo ob nb k =>
    match s with
     | .dt (.cell (.tuple _)) => skG fl o ih sl lo ob nb k
     | _ => .fail
def gdT (P : Program) (X : EX) (fl : Nat) (o : Oper) (ih : IH) (w : Bool) (t : Tmp) : IH := fun sl lo ob nb k =>
    brE (view fl sl lo t) (BR w (goG P X fl o ih sl lo ob nb k) (skG fl o ih sl lo ob nb k)) (BR w (skG fl o ih sl lo ob nb k) (goG P X fl o ih sl lo ob nb k)) (gdR P X fl o ih (view fl sl lo t) sl lo ob nb k)
def gdG (P : Program) (X : EX) (fl : Nat) (ops : Array Oper) (o : Oper) (ih : IH) (g : Nat × Bool) : IH :=
    @Option.rec Tmp (fun _ => IH) (fun _ _ _ _ _ => .fail) (gdT P X fl o ih g.2) ((ops[g.1]?).bind (·.dst))
theorem VK (P : Program) (X : EX) (fl : Nat) (o : Oper) (ih : IH) (w : Bool) (t : Tmp) (sl : Tr SV) (lo : Lo) (ob : OB) (nb : Nat) (k : KS) : gdT P X fl o ih w t sl lo ob nb k = match view fl sl lo t with
     | .kb b => BR b (BR w (goG P X fl o ih sl lo ob nb k) (skG fl o ih sl lo ob nb k)) (BR w (skG fl o ih sl lo ob nb k) (goG P X fl o ih sl lo ob nb k))
     | .dt (.cell (.tuple _)) => skG fl o ih sl lo ob nb k
     | _ => .fail := by
 unfold gdT
 generalize view fl sl lo t = s
 cases s with
 | dt d => cases d with
   | cell v => cases v <;> rfl
   | _ => rfl
 | _ => rfl
theorem Wy (P : Program) (X : EX) (fl : Nat) (ops : Array Oper) (o : Oper) (ih : IH) (g : Nat × Bool) (sl : Tr SV) (lo : Lo) (ob : OB) (nb : Nat) (k : KS) : gdG P X fl ops o ih g sl lo ob nb k = match (ops[g.1]?).bind (·.dst) with
   | none => .fail
   | some t => match view fl sl lo t with
     | .kb b => BR b (BR g.2 (goG P X fl o ih sl lo ob nb k) (skG fl o ih sl lo ob nb k)) (BR g.2 (skG fl o ih sl lo ob nb k) (goG P X fl o ih sl lo ob nb k))
     | .dt (.cell (.tuple _)) => skG fl o ih sl lo ob nb k
     | _ => .fail := by
 unfold gdG
 cases (ops[g.1]?).bind (·.dst) with
 | none => rfl
 | some t => exact VK P X fl o ih g.2 t sl lo ob nb k
def stG (P : Program) (X : EX) (fl : Nat) (ops : Array Oper) (o : Oper) (ih : IH) : IH :=
    @Option.rec (Nat × Bool) (fun _ => IH) (goG P X fl o ih) (gdG P X fl ops o ih) o.guard
def QD (P : Program) (X : EX) (fl : Nat) (ops : Array Oper) (l : List Oper) : IH :=
 @List.rec Oper (fun _ => IH) (fun sl lo ob nb k => k sl ob nb) (fun o _ ih => stG P X fl ops o ih) l
def okD (N : Nat) (ops : Array Oper) : Bool := ops.toList.all fun o => fV N o.dst
theorem Ar {fl : Nat} {sl : Tr SV} {lo : Lo} {d : Nat} {s : SV} (hd : d < 16777215) : (fU fl d = true -> view fl (qj sl d s) lo = putT (some d) s (view fl sl lo)) /\ (fU fl d = false -> view fl sl (.cons d s lo) = putT (some d) s (view fl sl lo)) := by
 constructor
 · intro hb
   funext j
   show BS (fU fl j) (gU (qj sl d s) j) (look lo j) = lM (some d) j s (BS (fU fl j) (gU sl j) (look lo j))
   rw [aU, vo j hd]
   by_cases e : j = d
   · subst e; rw [hb, if_pos rfl, if_pos rfl]; rfl
   · rw [if_neg e, if_neg e]
 · intro hb
   funext j
   show BS (fU fl j) (gU sl j) (BS (Nat.beq d j) s (look lo j)) = lM (some d) j s (BS (fU fl j) (gU sl j) (look lo j))
   rw [aU]
   by_cases e : j = d
   · subst e; rw [hb, if_pos rfl, Nat.beq_refl]; rfl
   · rw [if_neg e, dU (fun h => e h.symm)]; rfl
def KS1 (fl : Nat) (post : SV × HD -> Prop) (ih : IH) (k : KS) (σ : CS) : Prop :=
 ∃ sl lo ob, σ = ⟨view fl sl lo, ⟨au ob, σ.h.nob⟩⟩ /\ (ih sl lo ob σ.h.nob k).holds post
section
variable {E : CEnv} {X : EX} {fl : Nat} {post : SV × HD -> Prop}
theorem IK {d : Option Tmp} {ih : IH} {sl : Tr SV} {lo : Lo} {s : SV} {ob : OB} {nb : Nat} {k : KS} (hd : fV E.N d = true) (hN : E.N <= 16777215) (h : (EZ fl d ih sl lo s ob nb k).holds post) :
  KS1 fl post ih k ⟨putT d s (view fl sl lo), ⟨au ob, nb⟩⟩ := by
 cases d with
 | none => exact ⟨sl, lo, ob, rfl, h⟩
 | some d =>
   have hd : d < 16777215 := Nat.lt_of_lt_of_le (show d < E.N by simpa [fV, Nat.blt_eq] using hd) hN
   have h : (Nq s fun s => BR (fU fl d) (ih (qj sl d s) lo ob nb k) (ih sl (.cons d s lo) ob nb k)).holds post := h
   rw [MG, dH] at h
   obtain ⟨h1, h2⟩ := Ar (fl := fl) (sl := sl) (lo := lo) (s := s) hd
   cases hb : fU fl d with
   | true => rw [hb] at h; exact ⟨_, lo, ob, by rw [← h1 hb], h⟩
   | false => rw [hb] at h; exact ⟨sl, _, ob, by rw [← h2 hb], h⟩
theorem Fv {o : Oper} {ih : IH} {sl : Tr SV} {lo : Lo} {ob : OB} {nb : Nat} {k : KS} {rid i : Nat} (hX : XRef X E) (hd : fV E.N o.dst = true) (hN : E.N <= 16777215) (hT : dN E.top nb) (hF : FOk ob nb)
  (h : (goG E.P X fl o ih sl lo ob nb k).holds post) : (bJ E rid i (evC (view fl sl lo)) ⟨au ob, nb⟩ o).holds fun y => KS1 fl post ih k ⟨putT o.dst y.1 (view fl sl lo), y.2⟩ := by
 unfold goG at h
 rw [KD, WA] at h
 refine T.ay (fun y hy => ?_) _ (SL hX hT hF h)
 obtain ⟨ob', h1, h2⟩ := hy
 have := IK (E := E) hd hN h2
 have e : y.2 = ⟨au ob', y.2.nob⟩ := by rw [← h1]
 rw [e]
 exact this
theorem Fa {ops : Array Oper} {o : Oper} {ih : IH} {sl : Tr SV} {lo : Lo} {ob : OB} {nb : Nat} {k : KS} {rid i : Nat} (hX : XRef X E) (hok : okD E.N ops = true) (hd : fV E.N o.dst = true) (hN : E.N <= 16777215) (hT : dN E.top nb) (hF : FOk ob nb)
  (h : (stG E.P X fl ops o ih sl lo ob nb k).holds post) : (stC E ops rid i o ⟨view fl sl lo, ⟨au ob, nb⟩⟩).holds fun y => KS1 fl post ih k ⟨putT o.dst y.1 (view fl sl lo), y.2⟩ := by
 unfold stC
 rw [hd, cond_true]
 unfold stG at h
 cases hg : o.guard with
 | none => rw [hg] at h; exact Fv hX hd hN hT hF h
 | some g =>
   obtain ⟨j, want⟩ := g
   rw [hg] at h
   have h : (gdG E.P X fl ops o ih (j, want) sl lo ob nb k).holds post := h
   rw [Wy] at h
   simp only at h ⊢
   have sk : (skG fl o ih sl lo ob nb k).holds post -> (T.ret (eu, (⟨au ob, nb⟩ : HS)) : T (SV × HS)).holds fun y => KS1 fl post ih k ⟨putT o.dst y.1 (view fl sl lo), y.2⟩ := fun h => IK (E := E) hd hN h
   split at h
   · exact h.elim
   · rename_i t ht
     simp only [ht]
     have hdt : fV E.N (some t) = true := by
        cases hj : ops[j]? with
        | none => rw [hj] at ht; cases ht
        | some oj =>
          rw [hj] at ht
          have hm : oj ∈ ops.toList := by simpa using Array.mem_of_getElem? hj
          have := List.all_eq_true.1 hok oj hm
          rw [show oj.dst = some t from ht] at this
          exact this
     rw [hdt, cond_true]
     split at h
     · rename_i b hb
       simp only [hb]
       rw [dH] at h
       cases b with
       | true =>
         rw [cond_true, dH] at h
         cases want with
         | true => exact Fv hX hd hN hT hF h
         | false => exact sk h
       | false =>
         rw [cond_false, dH] at h
         cases want with
         | true => exact sk h
         | false => exact Fv hX hd hN hT hF h
     · rename_i x hx
       simp only [hx]
       exact sk h
     · exact h.elim
theorem uW (hE : E.Ok) {ops : Array Oper} {k : KS} {rid : Nat} (hX : XRef X E) (hok : okD E.N ops = true) (hN : E.N <= 16777215) : ∀ (l : List Oper) (i : Nat) (sl : Tr SV) (lo : Lo) (ob : OB) (nb : Nat), (∀ o ∈ l, fV E.N o.dst = true) -> dN E.top nb -> FOk ob nb ->
  (QD E.P X fl ops l sl lo ob nb k).holds post -> (lQ E ops rid i l ⟨view fl sl lo, ⟨au ob, nb⟩⟩).holds (KS1 fl post (fun sl _ ob nb k => k sl ob nb) k)
 | [], i, sl, lo, ob, nb, _, _, _, h => ⟨sl, lo, ob, rfl, h⟩
 | o :: l, i, sl, lo, ob, nb, hd, hT, hF, h => by
   simp only [lQ, T.aj]
   have h1 := Fa (rid := rid) (i := i) hX hok (hd o (by simp)) hN hT hF (show (stG E.P X fl ops o (QD E.P X fl ops l) sl lo ob nb k).holds post from h)
   have h2 := T.aV (iB hE (ops := ops) (rid := rid) (i := i) o (σ := ⟨view fl sl lo, ⟨au ob, nb⟩⟩) hF) h1
   refine T.ay (fun y hy => ?_) _ h2
   obtain ⟨⟨g1, g2, g3⟩, sl', lo', ob', e, hh⟩ := hy
   rw [e]
   have eh : y.2 = ⟨au ob', y.2.nob⟩ := congrArg CS.h e
   have hT' : dN E.top y.2.nob := by
     have g3 : y.2.nob <= max E.top nb := g3
     have := hT.1
     exact ⟨by omega, hT.2⟩
   exact uW hE hX hok hN l (i + 1) sl' lo' ob' y.2.nob (fun o ho => hd o (by simp [ho])) hT' (fun i hi => by
     have := g1 i hi
     rw [eh] at this
     exact this) hh
end
end
end Rx
