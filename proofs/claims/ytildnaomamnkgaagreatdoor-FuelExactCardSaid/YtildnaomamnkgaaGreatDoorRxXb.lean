/- Rx, part Xb: slim eliminators for the kernel: all arms are closed, so nothing is copied. Printed by gen/slim.py. -/
import Derived.Test.YtildnaomamnkgaaGreatDoorRxX2
set_option linter.unusedSectionVars false
set_option linter.unusedSimpArgs false
set_option linter.unusedVariables false
namespace Rx
open Go
variable [Glob]
noncomputable section
def aK (a b : Bool) : Bool := @Bool.rec (fun _ => Bool) false b a
theorem gX (a b : Bool) : aK a b = (a && b) := by cases a <;> rfl
def failK : OpK := fun _ _ _ _ _ _ _ => .fail
def nKS (s : SV) : SV := @SV.rec (fun _ => SV) (fun _ => PUnit) (.junk) (fun d => nK (.dt d)) (fun x0 _ => .agg x0) (fun x0 _ => .tup x0) (fun x0 x1 => .ptr x0 x1) (fun x0 x1 => .el x0 x1) (fun x0 x1 _ => .fn x0 x1) (fun x0 => .kb x0) (fun x0 x1 => .ki x0 x1) (fun x0 => .nm x0) (fun x0 x1 x2 x3 => .rp x0 x1 x2 x3) (fun x0 x1 x2 x3 => .ri x0 x1 x2 x3) (fun x0 x1 x2 x3 x4 => .sl x0 x1 x2 x3 x4) (fun x0 => .sy x0) PUnit.unit (fun _ _ _ _ => PUnit.unit) s
theorem wF (s : SV) : nKS s = nK s := by cases s <;> rfl
def WT (s : SV) : Bool := @SV.rec (fun _ => Bool) (fun _ => PUnit) (false) (fun d => eu (.dt d)) (fun _ _ => false) (fun _ _ => false) (fun _ _ => true) (fun _ _ => true) (fun _ _ _ => true) (fun _ => true) (fun _ _ => true) (fun _ => true) (fun _ _ _ _ => true) (fun _ _ _ _ => true) (fun _ _ _ _ _ => true) (fun _ => true) PUnit.unit (fun _ _ _ _ => PUnit.unit) s
theorem Sw (s : SV) : WT s = eu s := by cases s <;> rfl
def XY (s : SV) : OpK := @SV.rec (fun _ => OpK) (fun _ => PUnit) (av) (fun _ => av) (fun _ _ => av) (fun _ _ => av) (fun i f P X o ev ob nb k => k (.ptr i f) ob nb) (fun _ _ => av) (fun _ _ _ => av) (fun _ => av) (fun _ _ => av) (fun _ => av) (fun i y z f P X o ev ob nb k => k (.rp i y z f) ob nb) (fun _ _ _ _ => av) (fun _ _ _ _ _ => av) (fun _ => av) PUnit.unit (fun _ _ _ _ => PUnit.unit) s
def Pp (x : Operand) : OpK := fun P X o ev ob nb k => XY (ev x) P X o ev ob nb k
theorem OX (x : Operand) : Pp x = Pq x := by
 funext P X o ev ob nb k
 unfold Pp Pq
 generalize ev x = s
 cases s <;> rfl
def WC (s : SV) : Operand -> Operand -> OpK := @SV.rec (fun _ => Operand -> Operand -> OpK) (fun _ => PUnit) (fun _ _ => av) (fun _ => fun _ _ => av) (fun _ _ => fun _ _ => av) (fun _ _ => fun _ _ => av) (fun _ _ => fun _ _ => av) (fun _ _ => fun _ _ => av) (fun _ _ _ => fun _ _ => av) (fun q a b P X o ev ob nb k => BR q (k (ev a) ob nb) (k (ev b) ob nb)) (fun _ _ => fun _ _ => av) (fun _ => fun _ _ => av) (fun _ _ _ _ => fun _ _ => av) (fun _ _ _ _ => fun _ _ => av) (fun _ _ _ _ _ => fun _ _ => av) (fun _ => fun _ _ => av) PUnit.unit (fun _ _ _ _ => PUnit.unit) s
def JN (c a b : Operand) : OpK := fun P X o ev ob nb k => WC (ev c) a b P X o ev ob nb k
theorem M6 (c a b : Operand) : JN c a b = Gy c a b := by
 funext P X o ev ob nb k
 unfold JN Gy
 generalize ev c = s
 cases s <;> rfl
def Xx (b : Ob) : TypeId -> Nat -> OpK := @Ob.rec (fun _ => TypeId -> Nat -> OpK) (fun _ cs t off P X o ev ob nb k => oB (ldK P t) .fail (av P X o ev ob nb k) (Ia cs off .fail fun s => k (nKS s) ob nb)) (fun _ _ _ _ => fun _ _ => failK) (fun _ => fun _ _ => failK) (fun _ _ _ => fun _ _ => failK) (fun _ _ _ => fun _ _ => failK) (fun _ _ _ _ _ => fun _ _ => failK) (fun _ _ _ => fun _ _ => failK) b
def PE (x : Option Ob) : TypeId -> Nat -> OpK := @Option.rec Ob (fun _ => TypeId -> Nat -> OpK) (fun _ _ => failK) Xx x
def TU (b : Ob) : TypeId -> Nat -> Nat -> Nat -> OpK := @Ob.rec (fun _ => TypeId -> Nat -> Nat -> Nat -> OpK) (fun _ _ => fun _ _ _ _ => av) (fun _ _ _ _ => fun _ _ _ _ => av) (fun _ => fun _ _ _ _ => av) (fun _ _ _ => fun _ _ _ _ => av) (fun _ _ _ => fun _ _ _ _ => av) (fun _ sz' len tr _ t idx sz off P X o ev ob nb k => oB (ldK P t) .fail (szK P t fun n => BR (aK (Nat.beq sz sz') (aK (Nat.ble (Nat.add off n) sz) (Nat.blt idx len))) (k (.agg (nJ tr n (Nat.add (Nat.mul idx sz) off))) ob nb) .fail) (BR (aK (Nat.beq sz sz') (aK (Nat.blt off sz) (Nat.blt idx len))) (k (nKS (gN tr (Nat.add (Nat.mul idx sz) off))) ob nb) .fail)) (fun _ _ _ => fun _ _ _ _ => av) b
def U9 (x : Option Ob) : TypeId -> Nat -> Nat -> Nat -> OpK := @Option.rec Ob (fun _ => TypeId -> Nat -> Nat -> Nat -> OpK) (fun _ _ _ _ => av) TU x
def WK (s : SV) : TypeId -> OpK := @SV.rec (fun _ => TypeId -> OpK) (fun _ => PUnit) (fun _ => av) (fun _ => fun _ => av) (fun _ _ => fun _ => av) (fun _ _ => fun _ => av) (fun i off t P X o ev ob nb k => PE (au ob i) t off P X o ev ob nb k) (fun _ _ => fun _ => av) (fun _ _ _ => fun _ => av) (fun _ => fun _ => av) (fun _ _ => fun _ => av) (fun _ => fun _ => av) (fun i idx sz off t P X o ev ob nb k => U9 (au ob i) t idx sz off P X o ev ob nb k) (fun _ _ _ _ => fun _ => av) (fun _ _ _ _ _ => fun _ => av) (fun _ => fun _ => av) PUnit.unit (fun _ _ _ _ => PUnit.unit) s
def JH (t : TypeId) (x : Operand) : OpK := fun P X o ev ob nb k => WK (ev x) t P X o ev ob nb k
theorem Nj (t : TypeId) (x : Operand) : JH t x = Du t x := by
 funext P X o ev ob nb k
 unfold JH Du
 generalize ev x = s
 cases s with
 | ptr i off =>
   show PE (au ob i) t off P X o ev ob nb k = _
   simp only
   generalize au ob i = y
   cases y with
   | none => rfl
   | some b => cases b <;> first | rfl | (simp only [PE, Xx, wF])
 | rp i idx sz off =>
   show U9 (au ob i) t idx sz off P X o ev ob nb k = _
   simp only
   generalize au ob i = y
   cases y with
   | none => rfl
   | some b => cases b <;> first | rfl | (simp only [U9, TU, wF, gX, Nat.add_eq])
 | _ => rfl
def Xo (b : Ob) : TypeId -> Nat -> Nat -> SV -> OpK := @Ob.rec (fun _ => TypeId -> Nat -> Nat -> SV -> OpK) (fun t' cs t i off xv P X o ev ob nb k => BR (MN P t) (BR (WT xv) (BR (aK (Nat.ble X.base i) (Nat.ble (Nat.succ off) cs.length)) (k .junk (lU ob i (some (.cells t' (RU cs off xv)))) nb) .fail) (av P X o ev ob nb k)) (av P X o ev ob nb k)) (fun _ _ _ _ => fun _ _ _ _ => failK) (fun _ => fun _ _ _ _ => failK) (fun _ _ _ => fun _ _ _ _ => failK) (fun _ _ _ => fun _ _ _ _ => failK) (fun _ _ _ _ _ => fun _ _ _ _ => failK) (fun _ _ _ => fun _ _ _ _ => failK) b
def Rj (x : Option Ob) : TypeId -> Nat -> Nat -> SV -> OpK := @Option.rec Ob (fun _ => TypeId -> Nat -> Nat -> SV -> OpK) (fun _ _ _ _ => failK) Xo x
def Vo (s : SV) : TypeId -> Operand -> OpK := @SV.rec (fun _ => TypeId -> Operand -> OpK) (fun _ => PUnit) (fun _ _ => av) (fun _ => fun _ _ => av) (fun _ _ => fun _ _ => av) (fun _ _ => fun _ _ => av) (fun i off t x P X o ev ob nb k => Rj (au ob i) t i off (ev x) P X o ev ob nb k) (fun _ _ => fun _ _ => av) (fun _ _ _ => fun _ _ => av) (fun _ => fun _ _ => av) (fun _ _ => fun _ _ => av) (fun _ => fun _ _ => av) (fun _ _ _ _ => fun _ _ => av) (fun _ _ _ _ => fun _ _ => av) (fun _ _ _ _ _ => fun _ _ => av) (fun _ => fun _ _ => av) PUnit.unit (fun _ _ _ _ => PUnit.unit) s
def Gf (t : TypeId) (p x : Operand) : OpK := fun P X o ev ob nb k => Vo (ev p) t x P X o ev ob nb k
theorem J3 (t : TypeId) (p x : Operand) : Gf t p x = vL t p x := by
 funext P X o ev ob nb k
 unfold Gf vL
 generalize ev p = s
 cases s with
 | ptr i off =>
   show Rj (au ob i) t i off (ev x) P X o ev ob nb k = _
   simp only
   generalize au ob i = y
   cases y with
   | none => rfl
   | some b => cases b <;> first | rfl | (simp only [Rj, Xo, Sw, gX, Nat.succ_eq_add_one])
 | _ => rfl
def faE (s : SV) : TypeId -> Nat -> OpK := @SV.rec (fun _ => TypeId -> Nat -> OpK) (fun _ => PUnit) (fun _ _ => av) (fun _ => fun _ _ => av) (fun _ _ => fun _ _ => av) (fun _ _ => fun _ _ => av) (fun i off s f P X o ev ob nb k => oN (faK P s f) .fail fun d => fN (Nat.add off d) fun a => k (.ptr i a) ob nb) (fun _ _ => fun _ _ => av) (fun _ _ _ => fun _ _ => av) (fun _ => fun _ _ => av) (fun _ _ => fun _ _ => av) (fun _ => fun _ _ => av) (fun i idx sz off s f P X o ev ob nb k => oN (faK P s f) .fail fun d => fN (Nat.add off d) fun a => k (.rp i idx sz a) ob nb) (fun _ _ _ _ => fun _ _ => av) (fun _ _ _ _ _ => fun _ _ => av) (fun _ => fun _ _ => av) PUnit.unit (fun _ _ _ _ => PUnit.unit) s
def oz (s : TypeId) (x : Operand) (f : Nat) : OpK := fun P X o ev ob nb k => faE (ev x) s f P X o ev ob nb k
theorem AX (s : TypeId) (x : Operand) (f : Nat) : oz s x f = kg s x f := by
 funext P X o ev ob nb k
 unfold oz kg
 generalize ev x = s
 cases s <;> rfl
def VN (op : BinOp) : IntKind -> Int -> Int -> R -> (SV -> R) -> R := @BinOp.rec (fun _ => IntKind -> Int -> Int -> R -> (SV -> R) -> R) (fun k x y _ c => NT k (Int.add x y) c) (fun k x y _ c => NT k (Int.sub x y) c) (fun _ _ _ g _ => g) (fun _ _ _ g _ => g) (fun _ _ _ g _ => g) (fun _ _ _ g _ => g) (fun _ _ _ g _ => g) (fun _ _ _ g _ => g) (fun _ _ _ g _ => g) (fun _ _ _ g _ => g) (fun _ _ _ g _ => g) (fun _ x y _ c => c (.kb (eqI x y))) (fun _ x y _ c => c (.kb (nB (eqI x y)))) (fun _ x y _ c => c (.kb (Bv x y))) (fun _ x y _ c => c (.kb (nB (Bv y x)))) (fun _ x y _ c => c (.kb (Bv y x))) (fun _ x y _ c => c (.kb (nB (Bv x y)))) op
theorem RA (op : BinOp) (k : IntKind) (x y : Int) (g : R) (c : SV -> R) : VN op k x y g c = LP op k x y g c := by cases op <;> rfl
def Wv (s : SV) : IntKind -> Int -> BinOp -> OpK := @SV.rec (fun _ => IntKind -> Int -> BinOp -> OpK) (fun _ => PUnit) (fun _ _ _ => av) (fun _ => fun _ _ _ => av) (fun _ _ => fun _ _ _ => av) (fun _ _ => fun _ _ _ => av) (fun _ _ => fun _ _ _ => av) (fun _ _ => fun _ _ _ => av) (fun _ _ _ => fun _ _ _ => av) (fun _ => fun _ _ _ => av) (fun kk' b kk a op P X o ev ob nb k => BR (dS kk kk') (VN op kk a b (av P X o ev ob nb k) fun s => k s ob nb) .fail) (fun _ => fun _ _ _ => av) (fun _ _ _ _ => fun _ _ _ => av) (fun _ _ _ _ => fun _ _ _ => av) (fun _ _ _ _ _ => fun _ _ _ => av) (fun _ => fun _ _ _ => av) PUnit.unit (fun _ _ _ _ => PUnit.unit) s
def Yd (s : SV) : BinOp -> Operand -> OpK := @SV.rec (fun _ => BinOp -> Operand -> OpK) (fun _ => PUnit) (fun _ _ => av) (fun _ => fun _ _ => av) (fun _ _ => fun _ _ => av) (fun _ _ => fun _ _ => av) (fun _ _ => fun _ _ => av) (fun _ _ => fun _ _ => av) (fun _ _ _ => fun _ _ => av) (fun _ => fun _ _ => av) (fun kk a op y P X o ev ob nb k => Wv (ev y) kk a op P X o ev ob nb k) (fun _ => fun _ _ => av) (fun _ _ _ _ => fun _ _ => av) (fun _ _ _ _ => fun _ _ => av) (fun _ _ _ _ _ => fun _ _ => av) (fun _ => fun _ _ => av) PUnit.unit (fun _ _ _ _ => PUnit.unit) s
def Qa (op : BinOp) (x y : Operand) : OpK := fun P X o ev ob nb k => BR (TP y) (av P X o ev ob nb k) (Yd (ev x) op y P X o ev ob nb k)
theorem PG (op : BinOp) (x y : Operand) : Qa op x y = OC op x y := by
 funext P X o ev ob nb k
 unfold Qa OC
 congr 1
 generalize ev x = s
 cases s with
 | ki kk a =>
   show Wv (ev y) kk a op P X o ev ob nb k = _
   generalize ev y = r
   cases r with
   | ki kk' b => show BR _ (VN _ _ _ _ _ _) _ = _; rw [RA]
   | _ => rfl
 | _ => rfl
def fnX (s : SV) : List Operand -> OpK := @SV.rec (fun _ => List Operand -> OpK) (fun _ => PUnit) (fun _ => failK) (fun _ => fun _ => failK) (fun _ _ => fun _ => failK) (fun _ _ => fun _ => failK) (fun _ _ => fun _ => failK) (fun _ _ => fun _ => failK) (fun fk caps _ args P X o ev ob nb k => X.I X.top X.base fk (LU args ev caps) ob nb k) (fun _ => fun _ => failK) (fun _ _ => fun _ => failK) (fun _ => fun _ => failK) (fun _ _ _ _ => fun _ => failK) (fun _ _ _ _ => fun _ => failK) (fun _ _ _ _ _ => fun _ => failK) (fun _ => fun _ => failK) PUnit.unit (fun _ _ _ _ => PUnit.unit) s
def Vk (f : Operand) (args : List Operand) : OpK := fun P X o ev ob nb k => fnX (ev f) args P X o ev ob nb k
theorem TH (f : Operand) (args : List Operand) : Vk f args = kFn f args := by
 funext P X o ev ob nb k
 unfold Vk kFn
 generalize ev f = s
 cases s <;> rfl
def Xl (s : SV) : Nat -> Nat -> Nat -> Nat -> TypeId -> OpK := @SV.rec (fun _ => Nat -> Nat -> Nat -> Nat -> TypeId -> OpK) (fun _ => PUnit) (fun _ _ _ _ _ => av) (fun _ => fun _ _ _ _ _ => av) (fun _ _ => fun _ _ _ _ _ => av) (fun _ _ => fun _ _ _ _ _ => av) (fun _ _ => fun _ _ _ _ _ => av) (fun _ _ => fun _ _ _ _ _ => av) (fun _ _ _ => fun _ _ _ _ _ => av) (fun _ => fun _ _ _ _ _ => av) (fun _ iv q z o' n t P X o ev ob nb k => oN (iaK P t) .fail fun z' => BR (Nat.beq z' z) (ltI iv n fun m => fN (Nat.add o' m) fun a => k (.rp q a z 0) ob nb) .fail) (fun _ => fun _ _ _ _ _ => av) (fun _ _ _ _ => fun _ _ _ _ _ => av) (fun _ _ _ _ => fun _ _ _ _ _ => av) (fun _ _ _ _ _ => fun _ _ _ _ _ => av) (fun _ => fun _ _ _ _ _ => av) PUnit.unit (fun _ _ _ _ => PUnit.unit) s
def XZ (s : SV) : TypeId -> Operand -> OpK := @SV.rec (fun _ => TypeId -> Operand -> OpK) (fun _ => PUnit) (fun _ _ => av) (fun _ => fun _ _ => av) (fun _ _ => fun _ _ => av) (fun _ _ => fun _ _ => av) (fun _ _ => fun _ _ => av) (fun _ _ => fun _ _ => av) (fun _ _ _ => fun _ _ => av) (fun _ => fun _ _ => av) (fun _ _ => fun _ _ => av) (fun _ => fun _ _ => av) (fun _ _ _ _ => fun _ _ => av) (fun _ _ _ _ => fun _ _ => av) (fun q z o' n _ t i P X o ev ob nb k => Xl (ev i) q z o' n t P X o ev ob nb k) (fun _ => fun _ _ => av) PUnit.unit (fun _ _ _ _ => PUnit.unit) s
def Q8 (t : TypeId) (x i : Operand) : OpK := fun P X o ev ob nb k => XZ (ev x) t i P X o ev ob nb k
theorem Pm (t : TypeId) (x i : Operand) : Q8 t x i = Hq t x i := by
 funext P X o ev ob nb k
 unfold Q8 Hq
 generalize ev x = s
 cases s with
 | sl q z o' n c =>
   show Xl (ev i) q z o' n t P X o ev ob nb k = _
   generalize ev i = r
   cases r <;> rfl
 | _ => rfl
def Yl (s : SV) : TypeId -> OpK := @SV.rec (fun _ => TypeId -> OpK) (fun _ => PUnit) (fun _ => av) (fun _ => fun _ => av) (fun _ _ => fun _ => av) (fun _ _ => fun _ => av) (fun _ _ => fun _ => av) (fun _ _ => fun _ => av) (fun _ _ _ => fun _ => av) (fun _ => fun _ => av) (fun _ _ => fun _ => av) (fun _ => fun _ => av) (fun _ _ _ _ => fun _ => av) (fun _ _ _ _ => fun _ => av) (fun _ _ _ n _ t P X o ev ob nb k => BR (Sq P t) (k (.ki .i64 (.ofNat n)) ob nb) .fail) (fun _ => fun _ => av) PUnit.unit (fun _ _ _ _ => PUnit.unit) s
def Pt (t : TypeId) (x : Operand) : OpK := fun P X o ev ob nb k => Yl (ev x) t P X o ev ob nb k
theorem QD (t : TypeId) (x : Operand) : Pt t x = Tm t x := by
 funext P X o ev ob nb k
 unfold Pt Tm
 generalize ev x = s
 cases s <;> rfl
def exE (s : SV) : Nat -> OpK := @SV.rec (fun _ => Nat -> OpK) (fun _ => PUnit) (fun _ => av) (fun _ => fun _ => av) (fun _ _ => fun _ => av) (fun l _ i P X o ev ob nb k => Ia l i .fail fun s => k (nKS s) ob nb) (fun _ _ => fun _ => av) (fun _ _ => fun _ => av) (fun _ _ _ => fun _ => av) (fun _ => fun _ => av) (fun _ _ => fun _ => av) (fun _ => fun _ => av) (fun _ _ _ _ => fun _ => av) (fun _ _ _ _ => fun _ => av) (fun _ _ _ _ _ => fun _ => av) (fun _ => fun _ => av) PUnit.unit (fun _ _ _ _ => PUnit.unit) s
def Vr (x : Operand) (i : Nat) : OpK := fun P X o ev ob nb k => exE (ev x) i P X o ev ob nb k
theorem TG (x : Operand) (i : Nat) : Vr x i = oV x i := by
 funext P X o ev ob nb k
 unfold Vr oV
 generalize ev x = s
 cases s <;> first | rfl | (simp only [exE, wF])
def unE (s : SV) : OpK := @SV.rec (fun _ => OpK) (fun _ => PUnit) (av) (fun _ => av) (fun _ _ => av) (fun _ _ => av) (fun _ _ => av) (fun _ _ => av) (fun _ _ _ => av) (fun b P X o ev ob nb k => k (.kb (nB b)) ob nb) (fun _ _ => av) (fun _ => av) (fun _ _ _ _ => av) (fun _ _ _ _ => av) (fun _ _ _ _ _ => av) (fun _ => av) PUnit.unit (fun _ _ _ _ => PUnit.unit) s
def Xa (x : Operand) : OpK := fun P X o ev ob nb k => unE (ev x) P X o ev ob nb k
structure OBox where
 f : OpK
def unB (op : UnOp) (x : Operand) : OBox := match op with
 | .not => ⟨Xa x⟩
 | _ => ⟨av⟩
theorem Va (op : UnOp) (x : Operand) : (unB op x).f = kUn op x := by
 funext P X o ev ob nb k
 cases op
 case not =>
  show unE (ev x) P X o ev ob nb k = kUn .not x P X o ev ob nb k
  unfold kUn
  generalize ev x = s
  cases s <;> rfl
 all_goals
  show av P X o ev ob nb k = kUn _ x P X o ev ob nb k
  unfold kUn
  generalize ev x = s
  cases s <;> rfl
def Vq (b : Builtin) (as : List Operand) (ts : List TypeId) : OBox := match b, as, ts with
 | .len, [x], [t] => ⟨Pt t x⟩
 | _, _, _ => ⟨av⟩
theorem Si (c : Call) (b : Builtin) : (Vq b c.args.toList c.argTypes.toList).f = qg c b := by
 unfold Vq qg
 split
 · rename_i x t _ _
   rw [QD]
   funext P X o ev ob nb k
   simp_all
 · rename_i h
   funext P X o ev ob nb k
   split
   · rename_i h1 h2 h3
     exact (h _ _ rfl h2 h3).elim
   · rfl
def QM (c : Call) : OBox := match c.callee with
 | .value f => ⟨Vk f c.args.toList⟩
 | .builtin b => Vq b c.args.toList c.argTypes.toList
 | _ => ⟨av⟩
theorem Pb (c : Call) : (QM c).f = GH c := by
 unfold QM GH
 cases c.callee <;> first | exact TH _ _ | exact Si c _ | rfl
def opB (o : Oper) : OBox := match o.op with
 | .move x => ⟨DR x⟩
 | .assign x => ⟨DR x⟩
 | .pick c a b => ⟨JN c a b⟩
 | .alloc t => ⟨Jy t⟩
 | .box t x => ⟨U6 t x⟩
 | .build t ps => ⟨Kc t ps⟩
 | .load t x => ⟨JH t x⟩
 | .store t p x => ⟨Gf t p x⟩
 | .nilCheck x => ⟨Pp x⟩
 | .binOp op t x y _ => ⟨Qa op x y⟩
 | .unOp op _ x => unB op x
 | .fieldAddr s x f => ⟨oz s x f⟩
 | .field t x f => ⟨J9 t x f⟩
 | .indexAddr t x i => ⟨Q8 t x i⟩
 | .index t x i => ⟨J6 t x i⟩
 | .lookup t x i ok => ⟨EW t x i ok⟩
 | .extract x i => ⟨Vr x i⟩
 | .call c => QM c
 | .range t x => ⟨Km t x⟩
 | .entry x => ⟨Jr x⟩
 | .next _ _ => ⟨failK⟩
 | _ => ⟨av⟩
def opS (o : Oper) : OpK := (opB o).f
theorem UL (o : Oper) : opS o = opG o := by
 unfold opS opB opG
 cases o.op <;> first | rfl | exact M6 _ _ _ | exact Nj _ _ | exact J3 _ _ _ | exact OX _ | exact PG _ _ _ | exact Va _ _ | exact AX _ _ _ | exact Pm _ _ _ | exact TG _ _ | exact Pb _
def brE (s : SV) : R -> R -> R -> R := @SV.rec (fun _ => R -> R -> R -> R) (fun _ => PUnit) (fun _ _ c => c) (fun _ => fun _ _ c => c) (fun _ _ => fun _ _ c => c) (fun _ _ => fun _ _ c => c) (fun _ _ => fun _ _ c => c) (fun _ _ => fun _ _ c => c) (fun _ _ _ => fun _ _ c => c) (fun q a b _ => BR q a b) (fun _ _ => fun _ _ c => c) (fun _ => fun _ _ c => c) (fun _ _ _ _ => fun _ _ c => c) (fun _ _ _ _ => fun _ _ c => c) (fun _ _ _ _ _ => fun _ _ c => c) (fun _ => fun _ _ c => c) PUnit.unit (fun _ _ _ _ => PUnit.unit) s
theorem VT (s : SV) (a b c : R) : brE s a b c = match s with
 | .kb q => BR q a b
 | _ => c := by cases s <;> rfl
end
end Rx
set_option linter.unusedSectionVars false
set_option linter.unusedSimpArgs false
set_option linter.unusedVariables false
namespace Rx
open Go
variable [Glob]
noncomputable section
abbrev KS := Tr SV -> OB -> Nat -> R
def evG (fl : Nat) (sl : Tr SV) (lo : Lo) : Ev := @Operand.rec (fun _ => SV) (fun t => view fl sl lo t) (fun v => nK (ofConst v)) (fun g => Rz g) (fun f => .fn f [])
theorem JW (fl : Nat) (sl : Tr SV) (lo : Lo) : evG fl sl lo = evC (view fl sl lo) := by
 funext x
 cases x <;> rfl
abbrev IH := Tr SV -> Lo -> OB -> Nat -> KS -> R
def Gw (fl : Nat) (d : Option Tmp) (ih : IH) (sl : Tr SV) (lo : Lo) (s : SV) (ob : OB) (nb : Nat) (k : KS) : R :=
 @Option.rec Tmp (fun _ => R) (ih sl lo ob nb k) (fun d => Ns s fun s => BR (fP fl d) (ih (oC sl d s) lo ob nb k) (ih sl (.cons d s lo) ob nb k)) d
def goG (P : Program) (X : EX) (fl : Nat) (o : Oper) (ih : IH) : IH := fun sl lo ob nb k =>
 opS o P X o (evG fl sl lo) ob nb fun s ob nb => Gw fl o.dst ih sl lo s ob nb k
def skG (fl : Nat) (o : Oper) (ih : IH) : IH := fun sl lo ob nb k => Gw fl o.dst ih sl lo d9 ob nb k
def gdR (P : Program) (X : EX) (fl : Nat) (o : Oper) (ih : IH) (s : SV) : IH := fun sl lo ob nb k =>
    match s with
     | .dt (.cell (.tuple _)) => skG fl o ih sl lo ob nb k
     | _ => .fail
def gdT (P : Program) (X : EX) (fl : Nat) (o : Oper) (ih : IH) (w : Bool) (t : Tmp) : IH := fun sl lo ob nb k =>
    brE (view fl sl lo t) (BR w (goG P X fl o ih sl lo ob nb k) (skG fl o ih sl lo ob nb k)) (BR w (skG fl o ih sl lo ob nb k) (goG P X fl o ih sl lo ob nb k)) (gdR P X fl o ih (view fl sl lo t) sl lo ob nb k)
def gdG (P : Program) (X : EX) (fl : Nat) (ops : Array Oper) (o : Oper) (ih : IH) (g : Nat × Bool) : IH :=
    @Option.rec Tmp (fun _ => IH) (fun _ _ _ _ _ => .fail) (gdT P X fl o ih g.2) ((ops[g.1]?).bind (·.dst))
theorem Vt (P : Program) (X : EX) (fl : Nat) (o : Oper) (ih : IH) (w : Bool) (t : Tmp) (sl : Tr SV) (lo : Lo) (ob : OB) (nb : Nat) (k : KS) : gdT P X fl o ih w t sl lo ob nb k = match view fl sl lo t with
     | .kb b => BR b (BR w (goG P X fl o ih sl lo ob nb k) (skG fl o ih sl lo ob nb k)) (BR w (skG fl o ih sl lo ob nb k) (goG P X fl o ih sl lo ob nb k))
     | .dt (.cell (.tuple _)) => skG fl o ih sl lo ob nb k
     | _ => .fail := by
 unfold gdT
 generalize view fl sl lo t = s
 cases s with
 | dt d => cases d with
   | cell v => cases v <;> rfl
   | _ => rfl
 | _ => rfl
theorem U4 (P : Program) (X : EX) (fl : Nat) (ops : Array Oper) (o : Oper) (ih : IH) (g : Nat × Bool) (sl : Tr SV) (lo : Lo) (ob : OB) (nb : Nat) (k : KS) : gdG P X fl ops o ih g sl lo ob nb k = match (ops[g.1]?).bind (·.dst) with
   | none => .fail
   | some t => match view fl sl lo t with
     | .kb b => BR b (BR g.2 (goG P X fl o ih sl lo ob nb k) (skG fl o ih sl lo ob nb k)) (BR g.2 (skG fl o ih sl lo ob nb k) (goG P X fl o ih sl lo ob nb k))
     | .dt (.cell (.tuple _)) => skG fl o ih sl lo ob nb k
     | _ => .fail := by
 unfold gdG
 cases (ops[g.1]?).bind (·.dst) with
 | none => rfl
 | some t => exact Vt P X fl o ih g.2 t sl lo ob nb k
def stG (P : Program) (X : EX) (fl : Nat) (ops : Array Oper) (o : Oper) (ih : IH) : IH :=
    @Option.rec (Nat × Bool) (fun _ => IH) (goG P X fl o ih) (gdG P X fl ops o ih) o.guard
def Rm (P : Program) (X : EX) (fl : Nat) (ops : Array Oper) (l : List Oper) : IH :=
 @List.rec Oper (fun _ => IH) (fun sl lo ob nb k => k sl ob nb) (fun o _ ih => stG P X fl ops o ih) l
def okD (N : Nat) (ops : Array Oper) : Bool := ops.toList.all fun o => fO N o.dst
theorem BG {fl : Nat} {sl : Tr SV} {lo : Lo} {d : Nat} {s : SV} (hd : d < 16777215) : (fP fl d = true -> view fl (oC sl d s) lo = putT (some d) s (view fl sl lo)) /\ (fP fl d = false -> view fl sl (.cons d s lo) = putT (some d) s (view fl sl lo)) := by
 constructor
 · intro hb
   funext j
   show BS (fP fl j) (gN (oC sl d s) j) (look lo j) = kU (some d) j s (BS (fP fl j) (gN sl j) (look lo j))
   rw [aS, uy j hd]
   by_cases e : j = d
   · subst e; rw [hb, if_pos rfl, if_pos rfl]; rfl
   · rw [if_neg e, if_neg e]
 · intro hb
   funext j
   show BS (fP fl j) (gN sl j) (BS (Nat.beq d j) s (look lo j)) = kU (some d) j s (BS (fP fl j) (gN sl j) (look lo j))
   rw [aS]
   by_cases e : j = d
   · subst e; rw [hb, if_pos rfl, Nat.beq_refl]; rfl
   · rw [if_neg e, dO (fun h => e h.symm)]; rfl
def KS1 (fl : Nat) (post : SV × HD -> Prop) (ih : IH) (k : KS) (σ : CS) : Prop :=
 ∃ sl lo ob, σ = ⟨view fl sl lo, ⟨au ob, σ.h.nob⟩⟩ /\ (ih sl lo ob σ.h.nob k).holds post
section
variable {E : CEnv} {X : EX} {fl : Nat} {post : SV × HD -> Prop}
theorem H9 {d : Option Tmp} {ih : IH} {sl : Tr SV} {lo : Lo} {s : SV} {ob : OB} {nb : Nat} {k : KS} (hd : fO E.N d = true) (hN : E.N <= 16777215) (h : (Gw fl d ih sl lo s ob nb k).holds post) :
  KS1 fl post ih k ⟨putT d s (view fl sl lo), ⟨au ob, nb⟩⟩ := by
 cases d with
 | none => exact ⟨sl, lo, ob, rfl, h⟩
 | some d =>
   have hd : d < 16777215 := Nat.lt_of_lt_of_le (show d < E.N by simpa [fO, Nat.blt_eq] using hd) hN
   have h : (Ns s fun s => BR (fP fl d) (ih (oC sl d s) lo ob nb k) (ih sl (.cons d s lo) ob nb k)).holds post := h
   rw [MJ, dz] at h
   obtain ⟨h1, h2⟩ := BG (fl := fl) (sl := sl) (lo := lo) (s := s) hd
   cases hb : fP fl d with
   | true => rw [hb] at h; exact ⟨_, lo, ob, by rw [← h1 hb], h⟩
   | false => rw [hb] at h; exact ⟨sl, _, ob, by rw [← h2 hb], h⟩
theorem FD {o : Oper} {ih : IH} {sl : Tr SV} {lo : Lo} {ob : OB} {nb : Nat} {k : KS} {rid i : Nat} (hX : XRef X E) (hd : fO E.N o.dst = true) (hN : E.N <= 16777215) (hT : dJ E.top nb) (hF : FOk ob nb)
  (h : (goG E.P X fl o ih sl lo ob nb k).holds post) : (bG E rid i (evC (view fl sl lo)) ⟨au ob, nb⟩ o).holds fun y => KS1 fl post ih k ⟨putT o.dst y.1 (view fl sl lo), y.2⟩ := by
 unfold goG at h
 rw [JW, UL] at h
 refine T.ay (fun y hy => ?_) _ (Tp hX hT hF h)
 obtain ⟨ob', h1, h2⟩ := hy
 have := H9 (E := E) hd hN h2
 have e : y.2 = ⟨au ob', y.2.nob⟩ := by rw [← h1]
 rw [e]
 exact this
theorem ED {ops : Array Oper} {o : Oper} {ih : IH} {sl : Tr SV} {lo : Lo} {ob : OB} {nb : Nat} {k : KS} {rid i : Nat} (hX : XRef X E) (hok : okD E.N ops = true) (hd : fO E.N o.dst = true) (hN : E.N <= 16777215) (hT : dJ E.top nb) (hF : FOk ob nb)
  (h : (stG E.P X fl ops o ih sl lo ob nb k).holds post) : (stC E ops rid i o ⟨view fl sl lo, ⟨au ob, nb⟩⟩).holds fun y => KS1 fl post ih k ⟨putT o.dst y.1 (view fl sl lo), y.2⟩ := by
 unfold stC
 rw [hd, cond_true]
 unfold stG at h
 cases hg : o.guard with
 | none => rw [hg] at h; exact FD hX hd hN hT hF h
 | some g =>
   obtain ⟨j, want⟩ := g
   rw [hg] at h
   have h : (gdG E.P X fl ops o ih (j, want) sl lo ob nb k).holds post := h
   rw [U4] at h
   simp only at h ⊢
   have sk : (skG fl o ih sl lo ob nb k).holds post -> (T.ret (d9, (⟨au ob, nb⟩ : HS)) : T (SV × HS)).holds fun y => KS1 fl post ih k ⟨putT o.dst y.1 (view fl sl lo), y.2⟩ := fun h => H9 (E := E) hd hN h
   split at h
   · exact h.elim
   · rename_i t ht
     simp only [ht]
     have hdt : fO E.N (some t) = true := by
        cases hj : ops[j]? with
        | none => rw [hj] at ht; cases ht
        | some oj =>
          rw [hj] at ht
          have hm : oj ∈ ops.toList := by simpa using Array.mem_of_getElem? hj
          have := List.all_eq_true.1 hok oj hm
          rw [show oj.dst = some t from ht] at this
          exact this
     rw [hdt, cond_true]
     split at h
     · rename_i b hb
       simp only [hb]
       rw [dz] at h
       cases b with
       | true =>
         rw [cond_true, dz] at h
         cases want with
         | true => exact FD hX hd hN hT hF h
         | false => exact sk h
       | false =>
         rw [cond_false, dz] at h
         cases want with
         | true => exact sk h
         | false => exact FD hX hd hN hT hF h
     · rename_i x hx
       simp only [hx]
       exact sk h
     · exact h.elim
theorem sZ (hE : E.Ok) {ops : Array Oper} {k : KS} {rid : Nat} (hX : XRef X E) (hok : okD E.N ops = true) (hN : E.N <= 16777215) : ∀ (l : List Oper) (i : Nat) (sl : Tr SV) (lo : Lo) (ob : OB) (nb : Nat), (∀ o ∈ l, fO E.N o.dst = true) -> dJ E.top nb -> FOk ob nb ->
  (Rm E.P X fl ops l sl lo ob nb k).holds post -> (kZ E ops rid i l ⟨view fl sl lo, ⟨au ob, nb⟩⟩).holds (KS1 fl post (fun sl _ ob nb k => k sl ob nb) k)
 | [], i, sl, lo, ob, nb, _, _, _, h => ⟨sl, lo, ob, rfl, h⟩
 | o :: l, i, sl, lo, ob, nb, hd, hT, hF, h => by
   simp only [kZ, T.aj]
   have h1 := ED (rid := rid) (i := i) hX hok (hd o (by simp)) hN hT hF (show (stG E.P X fl ops o (Rm E.P X fl ops l) sl lo ob nb k).holds post from h)
   have h2 := T.aR (gY hE (ops := ops) (rid := rid) (i := i) o (σ := ⟨view fl sl lo, ⟨au ob, nb⟩⟩) hF) h1
   refine T.ay (fun y hy => ?_) _ h2
   obtain ⟨⟨g1, g2, g3⟩, sl', lo', ob', e, hh⟩ := hy
   rw [e]
   have eh : y.2 = ⟨au ob', y.2.nob⟩ := congrArg CS.h e
   have hT' : dJ E.top y.2.nob := by
     have g3 : y.2.nob <= max E.top nb := g3
     have := hT.1
     exact ⟨by omega, hT.2⟩
   exact sZ hE hX hok hN l (i + 1) sl' lo' ob' y.2.nob (fun o ho => hd o (by simp [ho])) hT' (fun i hi => by
     have := g1 i hi
     rw [eh] at this
     exact this) hh
end
end
end Rx
