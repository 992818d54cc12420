/- Rx, part Xb: slim eliminators for the kernel: all arms are closed, so nothing is copied. Printed by gen/slim.py. -/
import Derived.Test.YtcmnmceodhambaaGreatDoorRxX2
set_option linter.unusedSectionVars false
set_option linter.unusedSimpArgs false
set_option linter.unusedVariables false
namespace Rx
open Go
variable [Glob]
noncomputable section
def aV (a b : Bool) : Bool := @Bool.rec (fun _ => Bool) false b a
theorem gX (a b : Bool) : aV a b = (a && b) := by cases a <;> rfl
def failK : OpK := fun _ _ _ _ _ _ _ => .fail
def nKS (s : SV) : SV := @SV.rec (fun _ => SV) (fun _ => PUnit) (.junk) (fun d => nK (.dt d)) (fun x0 _ => .agg x0) (fun x0 _ => .tup x0) (fun x0 x1 => .ptr x0 x1) (fun x0 x1 => .el x0 x1) (fun x0 x1 _ => .fn x0 x1) (fun x0 => .kb x0) (fun x0 x1 => .ki x0 x1) (fun x0 => .nm x0) (fun x0 x1 x2 x3 => .rp x0 x1 x2 x3) (fun x0 x1 x2 x3 => .ri x0 x1 x2 x3) (fun x0 x1 x2 x3 x4 => .sl x0 x1 x2 x3 x4) (fun x0 => .sy x0) PUnit.unit (fun _ _ _ _ => PUnit.unit) s
theorem vR (s : SV) : nKS s = nK s := by cases s <;> rfl
def VH (s : SV) : Bool := @SV.rec (fun _ => Bool) (fun _ => PUnit) (false) (fun d => eB (.dt d)) (fun _ _ => false) (fun _ _ => false) (fun _ _ => true) (fun _ _ => true) (fun _ _ _ => true) (fun _ => true) (fun _ _ => true) (fun _ => true) (fun _ _ _ _ => true) (fun _ _ _ _ => true) (fun _ _ _ _ _ => true) (fun _ => true) PUnit.unit (fun _ _ _ _ => PUnit.unit) s
theorem Ro (s : SV) : VH s = eB s := by cases s <;> rfl
def Yf (s : SV) : OpK := @SV.rec (fun _ => OpK) (fun _ => PUnit) (aD) (fun _ => aD) (fun _ _ => aD) (fun _ _ => aD) (fun i f P X o ev ob nb k => k (.ptr i f) ob nb) (fun _ _ => aD) (fun _ _ _ => aD) (fun _ => aD) (fun _ _ => aD) (fun _ => aD) (fun i y z f P X o ev ob nb k => k (.rp i y z f) ob nb) (fun _ _ _ _ => aD) (fun _ _ _ _ _ => aD) (fun _ => aD) PUnit.unit (fun _ _ _ _ => PUnit.unit) s
def OV (x : Operand) : OpK := fun P X o ev ob nb k => Yf (ev x) P X o ev ob nb k
theorem Nn (x : Operand) : OV x = Oo x := by
 funext P X o ev ob nb k
 unfold OV Oo
 generalize ev x = s
 cases s <;> rfl
def VA (s : SV) : Operand -> Operand -> OpK := @SV.rec (fun _ => Operand -> Operand -> OpK) (fun _ => PUnit) (fun _ _ => aD) (fun _ => fun _ _ => aD) (fun _ _ => fun _ _ => aD) (fun _ _ => fun _ _ => aD) (fun _ _ => fun _ _ => aD) (fun _ _ => fun _ _ => aD) (fun _ _ _ => fun _ _ => aD) (fun q a b P X o ev ob nb k => BR q (k (ev a) ob nb) (k (ev b) ob nb)) (fun _ _ => fun _ _ => aD) (fun _ => fun _ _ => aD) (fun _ _ _ _ => fun _ _ => aD) (fun _ _ _ _ => fun _ _ => aD) (fun _ _ _ _ _ => fun _ _ => aD) (fun _ => fun _ _ => aD) PUnit.unit (fun _ _ _ _ => PUnit.unit) s
def Jz (c a b : Operand) : OpK := fun P X o ev ob nb k => VA (ev c) a b P X o ev ob nb k
theorem M7 (c a b : Operand) : Jz c a b = Ig c a b := by
 funext P X o ev ob nb k
 unfold Jz Ig
 generalize ev c = s
 cases s <;> rfl
def WC (b : Ob) : TypeId -> Nat -> OpK := @Ob.rec (fun _ => TypeId -> Nat -> OpK) (fun _ cs t off P X o ev ob nb k => oB (ldK P t) .fail (aD P X o ev ob nb k) (Gc cs off .fail fun s => k (nKS s) ob nb)) (fun _ _ _ _ => fun _ _ => failK) (fun _ => fun _ _ => failK) (fun _ _ _ => fun _ _ => failK) (fun _ _ _ => fun _ _ => failK) (fun _ _ _ _ _ => fun _ _ => failK) (fun _ _ _ => fun _ _ => failK) b
def OW (x : Option Ob) : TypeId -> Nat -> OpK := @Option.rec Ob (fun _ => TypeId -> Nat -> OpK) (fun _ _ => failK) WC x
def Tc (b : Ob) : TypeId -> Nat -> Nat -> Nat -> OpK := @Ob.rec (fun _ => TypeId -> Nat -> Nat -> Nat -> OpK) (fun _ _ => fun _ _ _ _ => aD) (fun _ _ _ _ => fun _ _ _ _ => aD) (fun _ => fun _ _ _ _ => aD) (fun _ _ _ => fun _ _ _ _ => aD) (fun _ _ _ => fun _ _ _ _ => aD) (fun _ sz' len tr _ t idx sz off P X o ev ob nb k => oB (ldK P t) .fail (szK P t fun n => BR (aV (Nat.beq sz sz') (aV (Nat.ble (Nat.add off n) sz) (Nat.blt idx len))) (k (.agg (iq tr n (Nat.add (Nat.mul idx sz) off))) ob nb) .fail) (BR (aV (Nat.beq sz sz') (aV (Nat.blt off sz) (Nat.blt idx len))) (k (nKS (iE tr (Nat.add (Nat.mul idx sz) off))) ob nb) .fail)) (fun _ _ _ => fun _ _ _ _ => aD) b
def U8 (x : Option Ob) : TypeId -> Nat -> Nat -> Nat -> OpK := @Option.rec Ob (fun _ => TypeId -> Nat -> Nat -> Nat -> OpK) (fun _ _ _ _ => aD) Tc x
def VR (s : SV) : TypeId -> OpK := @SV.rec (fun _ => TypeId -> OpK) (fun _ => PUnit) (fun _ => aD) (fun _ => fun _ => aD) (fun _ _ => fun _ => aD) (fun _ _ => fun _ => aD) (fun i off t P X o ev ob nb k => OW (aC ob i) t off P X o ev ob nb k) (fun _ _ => fun _ => aD) (fun _ _ _ => fun _ => aD) (fun _ => fun _ => aD) (fun _ _ => fun _ => aD) (fun _ => fun _ => aD) (fun i idx sz off t P X o ev ob nb k => U8 (aC ob i) t idx sz off P X o ev ob nb k) (fun _ _ _ _ => fun _ => aD) (fun _ _ _ _ _ => fun _ => aD) (fun _ => fun _ => aD) PUnit.unit (fun _ _ _ _ => PUnit.unit) s
def Jb (t : TypeId) (x : Operand) : OpK := fun P X o ev ob nb k => VR (ev x) t P X o ev ob nb k
theorem Ms (t : TypeId) (x : Operand) : Jb t x = Ca t x := by
 funext P X o ev ob nb k
 unfold Jb Ca
 generalize ev x = s
 cases s with
 | ptr i off =>
   show OW (aC ob i) t off P X o ev ob nb k = _
   simp only
   generalize aC ob i = y
   cases y with
   | none => rfl
   | some b => cases b <;> first | rfl | (simp only [OW, WC, vR])
 | rp i idx sz off =>
   show U8 (aC ob i) t idx sz off P X o ev ob nb k = _
   simp only
   generalize aC ob i = y
   cases y with
   | none => rfl
   | some b => cases b <;> first | rfl | (simp only [U8, Tc, vR, gX, Nat.add_eq])
 | _ => rfl
def Wh (b : Ob) : TypeId -> Nat -> Nat -> SV -> OpK := @Ob.rec (fun _ => TypeId -> Nat -> Nat -> SV -> OpK) (fun t' cs t i off xv P X o ev ob nb k => BR (Km P t) (BR (VH xv) (BR (aV (Nat.ble X.base i) (Nat.ble (Nat.succ off) cs.length)) (k .junk (lG ob i (some (.cells t' (Sc cs off xv)))) nb) .fail) (aD P X o ev ob nb k)) (aD P X o ev ob nb k)) (fun _ _ _ _ => fun _ _ _ _ => failK) (fun _ => fun _ _ _ _ => failK) (fun _ _ _ => fun _ _ _ _ => failK) (fun _ _ _ => fun _ _ _ _ => failK) (fun _ _ _ _ _ => fun _ _ _ _ => failK) (fun _ _ _ => fun _ _ _ _ => failK) b
def Oq (x : Option Ob) : TypeId -> Nat -> Nat -> SV -> OpK := @Option.rec Ob (fun _ => TypeId -> Nat -> Nat -> SV -> OpK) (fun _ _ _ _ => failK) Wh x
def U6 (s : SV) : TypeId -> Operand -> OpK := @SV.rec (fun _ => TypeId -> Operand -> OpK) (fun _ => PUnit) (fun _ _ => aD) (fun _ => fun _ _ => aD) (fun _ _ => fun _ _ => aD) (fun _ _ => fun _ _ => aD) (fun i off t x P X o ev ob nb k => Oq (aC ob i) t i off (ev x) P X o ev ob nb k) (fun _ _ => fun _ _ => aD) (fun _ _ _ => fun _ _ => aD) (fun _ => fun _ _ => aD) (fun _ _ => fun _ _ => aD) (fun _ => fun _ _ => aD) (fun _ _ _ _ => fun _ _ => aD) (fun _ _ _ _ => fun _ _ => aD) (fun _ _ _ _ _ => fun _ _ => aD) (fun _ => fun _ _ => aD) PUnit.unit (fun _ _ _ _ => PUnit.unit) s
def FX (t : TypeId) (p x : Operand) : OpK := fun P X o ev ob nb k => U6 (ev p) t x P X o ev ob nb k
theorem JE (t : TypeId) (p x : Operand) : FX t p x = uR t p x := by
 funext P X o ev ob nb k
 unfold FX uR
 generalize ev p = s
 cases s with
 | ptr i off =>
   show Oq (aC ob i) t i off (ev x) P X o ev ob nb k = _
   simp only
   generalize aC ob i = y
   cases y with
   | none => rfl
   | some b => cases b <;> first | rfl | (simp only [Oq, Wh, Ro, gX, Nat.succ_eq_add_one])
 | _ => rfl
def faE (s : SV) : TypeId -> Nat -> OpK := @SV.rec (fun _ => TypeId -> Nat -> OpK) (fun _ => PUnit) (fun _ _ => aD) (fun _ => fun _ _ => aD) (fun _ _ => fun _ _ => aD) (fun _ _ => fun _ _ => aD) (fun i off s f P X o ev ob nb k => oN (faK P s f) .fail fun d => fN (Nat.add off d) fun a => k (.ptr i a) ob nb) (fun _ _ => fun _ _ => aD) (fun _ _ _ => fun _ _ => aD) (fun _ => fun _ _ => aD) (fun _ _ => fun _ _ => aD) (fun _ => fun _ _ => aD) (fun i idx sz off s f P X o ev ob nb k => oN (faK P s f) .fail fun d => fN (Nat.add off d) fun a => k (.rp i idx sz a) ob nb) (fun _ _ _ _ => fun _ _ => aD) (fun _ _ _ _ _ => fun _ _ => aD) (fun _ => fun _ _ => aD) PUnit.unit (fun _ _ _ _ => PUnit.unit) s
def oM (s : TypeId) (x : Operand) (f : Nat) : OpK := fun P X o ev ob nb k => faE (ev x) s f P X o ev ob nb k
theorem zh (s : TypeId) (x : Operand) (f : Nat) : oM s x f = jW s x f := by
 funext P X o ev ob nb k
 unfold oM jW
 generalize ev x = s
 cases s <;> rfl
def Uf (op : BinOp) : IntKind -> Int -> Int -> R -> (SV -> R) -> R := @BinOp.rec (fun _ => IntKind -> Int -> Int -> R -> (SV -> R) -> R) (fun k x y _ c => Nb k (Int.add x y) c) (fun k x y _ c => Nb k (Int.sub x y) c) (fun _ _ _ g _ => g) (fun _ _ _ g _ => g) (fun _ _ _ g _ => g) (fun _ _ _ g _ => g) (fun _ _ _ g _ => g) (fun _ _ _ g _ => g) (fun _ _ _ g _ => g) (fun _ _ _ g _ => g) (fun _ _ _ g _ => g) (fun _ x y _ c => c (.kb (eqI x y))) (fun _ x y _ c => c (.kb (nB (eqI x y)))) (fun _ x y _ c => c (.kb (zY x y))) (fun _ x y _ c => c (.kb (nB (zY y x)))) (fun _ x y _ c => c (.kb (zY y x))) (fun _ x y _ c => c (.kb (nB (zY x y)))) op
theorem Rp (op : BinOp) (k : IntKind) (x y : Int) (g : R) (c : SV -> R) : Uf op k x y g c = Ku op k x y g c := by cases op <;> rfl
def Wx (s : SV) : IntKind -> Int -> BinOp -> OpK := @SV.rec (fun _ => IntKind -> Int -> BinOp -> OpK) (fun _ => PUnit) (fun _ _ _ => aD) (fun _ => fun _ _ _ => aD) (fun _ _ => fun _ _ _ => aD) (fun _ _ => fun _ _ _ => aD) (fun _ _ => fun _ _ _ => aD) (fun _ _ => fun _ _ _ => aD) (fun _ _ _ => fun _ _ _ => aD) (fun _ => fun _ _ _ => aD) (fun kk' b kk a op P X o ev ob nb k => BR (dS kk kk') (Uf op kk a b (aD P X o ev ob nb k) fun s => k s ob nb) .fail) (fun _ => fun _ _ _ => aD) (fun _ _ _ _ => fun _ _ _ => aD) (fun _ _ _ _ => fun _ _ _ => aD) (fun _ _ _ _ _ => fun _ _ _ => aD) (fun _ => fun _ _ _ => aD) PUnit.unit (fun _ _ _ _ => PUnit.unit) s
def X4 (s : SV) : BinOp -> Operand -> OpK := @SV.rec (fun _ => BinOp -> Operand -> OpK) (fun _ => PUnit) (fun _ _ => aD) (fun _ => fun _ _ => aD) (fun _ _ => fun _ _ => aD) (fun _ _ => fun _ _ => aD) (fun _ _ => fun _ _ => aD) (fun _ _ => fun _ _ => aD) (fun _ _ _ => fun _ _ => aD) (fun _ => fun _ _ => aD) (fun kk a op y P X o ev ob nb k => Wx (ev y) kk a op P X o ev ob nb k) (fun _ => fun _ _ => aD) (fun _ _ _ _ => fun _ _ => aD) (fun _ _ _ _ => fun _ _ => aD) (fun _ _ _ _ _ => fun _ _ => aD) (fun _ => fun _ _ => aD) PUnit.unit (fun _ _ _ _ => PUnit.unit) s
def Qc (op : BinOp) (x y : Operand) : OpK := fun P X o ev ob nb k => BR (Qv y) (aD P X o ev ob nb k) (X4 (ev x) op y P X o ev ob nb k)
theorem Oh (op : BinOp) (x y : Operand) : Qc op x y = OE op x y := by
 funext P X o ev ob nb k
 unfold Qc OE
 congr 1
 generalize ev x = s
 cases s with
 | ki kk a =>
   show Wx (ev y) kk a op P X o ev ob nb k = _
   generalize ev y = r
   cases r with
   | ki kk' b => show BR _ (Uf _ _ _ _ _ _) _ = _; rw [Rp]
   | _ => rfl
 | _ => rfl
def fnX (s : SV) : List Operand -> OpK := @SV.rec (fun _ => List Operand -> OpK) (fun _ => PUnit) (fun _ => failK) (fun _ => fun _ => failK) (fun _ _ => fun _ => failK) (fun _ _ => fun _ => failK) (fun _ _ => fun _ => failK) (fun _ _ => fun _ => failK) (fun fk caps _ args P X o ev ob nb k => X.I X.top X.base fk (Ki args ev caps) ob nb k) (fun _ => fun _ => failK) (fun _ _ => fun _ => failK) (fun _ => fun _ => failK) (fun _ _ _ _ => fun _ => failK) (fun _ _ _ _ => fun _ => failK) (fun _ _ _ _ _ => fun _ => failK) (fun _ => fun _ => failK) PUnit.unit (fun _ _ _ _ => PUnit.unit) s
def UO (f : Operand) (args : List Operand) : OpK := fun P X o ev ob nb k => fnX (ev f) args P X o ev ob nb k
theorem Sz (f : Operand) (args : List Operand) : UO f args = kFn f args := by
 funext P X o ev ob nb k
 unfold UO kFn
 generalize ev f = s
 cases s <;> rfl
def VL (s : SV) : Nat -> Nat -> Nat -> Nat -> TypeId -> OpK := @SV.rec (fun _ => Nat -> Nat -> Nat -> Nat -> TypeId -> OpK) (fun _ => PUnit) (fun _ _ _ _ _ => aD) (fun _ => fun _ _ _ _ _ => aD) (fun _ _ => fun _ _ _ _ _ => aD) (fun _ _ => fun _ _ _ _ _ => aD) (fun _ _ => fun _ _ _ _ _ => aD) (fun _ _ => fun _ _ _ _ _ => aD) (fun _ _ _ => fun _ _ _ _ _ => aD) (fun _ => fun _ _ _ _ _ => aD) (fun _ iv q z o' n t P X o ev ob nb k => oN (iaK P t) .fail fun z' => BR (Nat.beq z' z) (ltI iv n fun m => fN (Nat.add o' m) fun a => k (.rp q a z 0) ob nb) .fail) (fun _ => fun _ _ _ _ _ => aD) (fun _ _ _ _ => fun _ _ _ _ _ => aD) (fun _ _ _ _ => fun _ _ _ _ _ => aD) (fun _ _ _ _ _ => fun _ _ _ _ _ => aD) (fun _ => fun _ _ _ _ _ => aD) PUnit.unit (fun _ _ _ _ => PUnit.unit) s
def XM (s : SV) : TypeId -> Operand -> OpK := @SV.rec (fun _ => TypeId -> Operand -> OpK) (fun _ => PUnit) (fun _ _ => aD) (fun _ => fun _ _ => aD) (fun _ _ => fun _ _ => aD) (fun _ _ => fun _ _ => aD) (fun _ _ => fun _ _ => aD) (fun _ _ => fun _ _ => aD) (fun _ _ _ => fun _ _ => aD) (fun _ => fun _ _ => aD) (fun _ _ => fun _ _ => aD) (fun _ => fun _ _ => aD) (fun _ _ _ _ => fun _ _ => aD) (fun _ _ _ _ => fun _ _ => aD) (fun q z o' n _ t i P X o ev ob nb k => VL (ev i) q z o' n t P X o ev ob nb k) (fun _ => fun _ _ => aD) PUnit.unit (fun _ _ _ _ => PUnit.unit) s
def PZ (t : TypeId) (x i : Operand) : OpK := fun P X o ev ob nb k => XM (ev x) t i P X o ev ob nb k
theorem Qt (t : TypeId) (x i : Operand) : PZ t x i = Im t x i := by
 funext P X o ev ob nb k
 unfold PZ Im
 generalize ev x = s
 cases s with
 | sl q z o' n c =>
   show VL (ev i) q z o' n t P X o ev ob nb k = _
   generalize ev i = r
   cases r <;> rfl
 | _ => rfl
def Yk (s : SV) : TypeId -> OpK := @SV.rec (fun _ => TypeId -> OpK) (fun _ => PUnit) (fun _ => aD) (fun _ => fun _ => aD) (fun _ _ => fun _ => aD) (fun _ _ => fun _ => aD) (fun _ _ => fun _ => aD) (fun _ _ => fun _ => aD) (fun _ _ _ => fun _ => aD) (fun _ => fun _ => aD) (fun _ _ => fun _ => aD) (fun _ => fun _ => aD) (fun _ _ _ _ => fun _ => aD) (fun _ _ _ _ => fun _ => aD) (fun _ _ _ n _ t P X o ev ob nb k => BR (QU P t) (k (.ki .i64 (.ofNat n)) ob nb) .fail) (fun _ => fun _ => aD) PUnit.unit (fun _ _ _ _ => PUnit.unit) s
def Py (t : TypeId) (x : Operand) : OpK := fun P X o ev ob nb k => Yk (ev x) t P X o ev ob nb k
theorem Pw (t : TypeId) (x : Operand) : Py t x = QG t x := by
 funext P X o ev ob nb k
 unfold Py QG
 generalize ev x = s
 cases s <;> rfl
def exE (s : SV) : Nat -> OpK := @SV.rec (fun _ => Nat -> OpK) (fun _ => PUnit) (fun _ => aD) (fun _ => fun _ => aD) (fun _ _ => fun _ => aD) (fun l _ i P X o ev ob nb k => Gc l i .fail fun s => k (nKS s) ob nb) (fun _ _ => fun _ => aD) (fun _ _ => fun _ => aD) (fun _ _ _ => fun _ => aD) (fun _ => fun _ => aD) (fun _ _ => fun _ => aD) (fun _ => fun _ => aD) (fun _ _ _ _ => fun _ => aD) (fun _ _ _ _ => fun _ => aD) (fun _ _ _ _ _ => fun _ => aD) (fun _ => fun _ => aD) PUnit.unit (fun _ _ _ _ => PUnit.unit) s
def Vg (x : Operand) (i : Nat) : OpK := fun P X o ev ob nb k => exE (ev x) i P X o ev ob nb k
theorem Rc (x : Operand) (i : Nat) : Vg x i = ow x i := by
 funext P X o ev ob nb k
 unfold Vg ow
 generalize ev x = s
 cases s <;> first | rfl | (simp only [exE, vR])
def unE (s : SV) : OpK := @SV.rec (fun _ => OpK) (fun _ => PUnit) (aD) (fun _ => aD) (fun _ _ => aD) (fun _ _ => aD) (fun _ _ => aD) (fun _ _ => aD) (fun _ _ _ => aD) (fun b P X o ev ob nb k => k (.kb (nB b)) ob nb) (fun _ _ => aD) (fun _ => aD) (fun _ _ _ _ => aD) (fun _ _ _ _ => aD) (fun _ _ _ _ _ => aD) (fun _ => aD) PUnit.unit (fun _ _ _ _ => PUnit.unit) s
def VK (x : Operand) : OpK := fun P X o ev ob nb k => unE (ev x) P X o ev ob nb k
structure OBox where
 f : OpK
def unB (op : UnOp) (x : Operand) : OBox := match op with
 | .not => ⟨VK x⟩
 | _ => ⟨aD⟩
theorem Vh (op : UnOp) (x : Operand) : (unB op x).f = kUn op x := by
 funext P X o ev ob nb k
 cases op
 case not =>
  show unE (ev x) P X o ev ob nb k = kUn .not x P X o ev ob nb k
  unfold kUn
  generalize ev x = s
  cases s <;> rfl
 all_goals
  show aD P X o ev ob nb k = kUn _ x P X o ev ob nb k
  unfold kUn
  generalize ev x = s
  cases s <;> rfl
def U1 (b : Builtin) (as : List Operand) (ts : List TypeId) : OBox := match b, as, ts with
 | .len, [x], [t] => ⟨Py t x⟩
 | _, _, _ => ⟨aD⟩
theorem Rt (c : Call) (b : Builtin) : (U1 b c.args.toList c.argTypes.toList).f = oO c b := by
 unfold U1 oO
 split
 · rename_i x t _ _
   rw [Pw]
   funext P X o ev ob nb k
   simp_all
 · rename_i h
   funext P X o ev ob nb k
   split
   · rename_i h1 h2 h3
     exact (h _ _ rfl h2 h3).elim
   · rfl
def Nv (c : Call) : OBox := match c.callee with
 | .value f => ⟨UO f c.args.toList⟩
 | .builtin b => U1 b c.args.toList c.argTypes.toList
 | _ => ⟨aD⟩
theorem Ot (c : Call) : (Nv c).f = Ij c := by
 unfold Nv Ij
 cases c.callee <;> first | exact Sz _ _ | exact Rt c _ | rfl
def opB (o : Oper) : OBox := match o.op with
 | .move x => ⟨DN x⟩
 | .assign x => ⟨DN x⟩
 | .pick c a b => ⟨Jz c a b⟩
 | .alloc t => ⟨Js t⟩
 | .box t x => ⟨Uk t x⟩
 | .build t ps => ⟨IX t ps⟩
 | .load t x => ⟨Jb t x⟩
 | .store t p x => ⟨FX t p x⟩
 | .nilCheck x => ⟨OV x⟩
 | .binOp op t x y _ => ⟨Qc op x y⟩
 | .unOp op _ x => unB op x
 | .fieldAddr s x f => ⟨oM s x f⟩
 | .field t x f => ⟨J5 t x f⟩
 | .indexAddr t x i => ⟨PZ t x i⟩
 | .index t x i => ⟨JB t x i⟩
 | .lookup t x i ok => ⟨EN t x i ok⟩
 | .extract x i => ⟨Vg x i⟩
 | .call c => Nv c
 | .range t x => ⟨I5 t x⟩
 | .entry x => ⟨Jw x⟩
 | .next _ _ => ⟨failK⟩
 | _ => ⟨aD⟩
def opS (o : Oper) : OpK := (opB o).f
theorem Ul (o : Oper) : opS o = opG o := by
 unfold opS opB opG
 cases o.op <;> first | rfl | exact M7 _ _ _ | exact Ms _ _ | exact JE _ _ _ | exact Nn _ | exact Oh _ _ _ | exact Vh _ _ | exact zh _ _ _ | exact Qt _ _ _ | exact Rc _ _ | exact Ot _
def brE (s : SV) : R -> R -> R -> R := @SV.rec (fun _ => R -> R -> R -> R) (fun _ => PUnit) (fun _ _ c => c) (fun _ => fun _ _ c => c) (fun _ _ => fun _ _ c => c) (fun _ _ => fun _ _ c => c) (fun _ _ => fun _ _ c => c) (fun _ _ => fun _ _ c => c) (fun _ _ _ => fun _ _ c => c) (fun q a b _ => BR q a b) (fun _ _ => fun _ _ c => c) (fun _ => fun _ _ c => c) (fun _ _ _ _ => fun _ _ c => c) (fun _ _ _ _ => fun _ _ c => c) (fun _ _ _ _ _ => fun _ _ c => c) (fun _ => fun _ _ c => c) PUnit.unit (fun _ _ _ _ => PUnit.unit) s
theorem U3 (s : SV) (a b c : R) : brE s a b c = match s with
 | .kb q => BR q a b
 | _ => c := by cases s <;> rfl
end
end Rx
set_option linter.unusedSectionVars false
set_option linter.unusedSimpArgs false
set_option linter.unusedVariables false
namespace Rx
open Go
variable [Glob]
noncomputable section
abbrev KS := Tr SV -> OB -> Nat -> R
def evG (fl : Nat) (sl : Tr SV) (lo : Lo) : Ev := @Operand.rec (fun _ => SV) (fun t => view fl sl lo t) (fun v => nK (ofConst v)) (fun g => Rq g) (fun f => .fn f [])
theorem IQ (fl : Nat) (sl : Tr SV) (lo : Lo) : evG fl sl lo = evC (view fl sl lo) := by
 funext x
 cases x <;> rfl
abbrev IH := Tr SV -> Lo -> OB -> Nat -> KS -> R
def DT (fl : Nat) (d : Option Tmp) (ih : IH) (sl : Tr SV) (lo : Lo) (s : SV) (ob : OB) (nb : Nat) (k : KS) : R :=
 @Option.rec Tmp (fun _ => R) (ih sl lo ob nb k) (fun d => MI s fun s => BR (gH fl d) (ih (pq sl d s) lo ob nb k) (ih sl (.cons d s lo) ob nb k)) d
def goG (P : Program) (X : EX) (fl : Nat) (o : Oper) (ih : IH) : IH := fun sl lo ob nb k =>
 opS o P X o (evG fl sl lo) ob nb fun s ob nb => DT fl o.dst ih sl lo s ob nb k
def skG (fl : Nat) (o : Oper) (ih : IH) : IH := fun sl lo ob nb k => DT fl o.dst ih sl lo dZ ob nb k
def gdR (P : Program) (X : EX) (fl : Nat) (o : Oper) (ih : IH) (s : SV) : IH := fun sl lo ob nb k =>
    match s with
     | .dt (.cell (.tuple _)) => skG fl o ih sl lo ob nb k
     | _ => .fail
def gdT (P : Program) (X : EX) (fl : Nat) (o : Oper) (ih : IH) (w : Bool) (t : Tmp) : IH := fun sl lo ob nb k =>
    brE (view fl sl lo t) (BR w (goG P X fl o ih sl lo ob nb k) (skG fl o ih sl lo ob nb k)) (BR w (skG fl o ih sl lo ob nb k) (goG P X fl o ih sl lo ob nb k)) (gdR P X fl o ih (view fl sl lo t) sl lo ob nb k)
def gdG (P : Program) (X : EX) (fl : Nat) (ops : Array Oper) (o : Oper) (ih : IH) (g : Nat × Bool) : IH :=
    @Option.rec Tmp (fun _ => IH) (fun _ _ _ _ _ => .fail) (gdT P X fl o ih g.2) ((ops[g.1]?).bind (·.dst))
theorem UR (P : Program) (X : EX) (fl : Nat) (o : Oper) (ih : IH) (w : Bool) (t : Tmp) (sl : Tr SV) (lo : Lo) (ob : OB) (nb : Nat) (k : KS) : gdT P X fl o ih w t sl lo ob nb k = match view fl sl lo t with
     | .kb b => BR b (BR w (goG P X fl o ih sl lo ob nb k) (skG fl o ih sl lo ob nb k)) (BR w (skG fl o ih sl lo ob nb k) (goG P X fl o ih sl lo ob nb k))
     | .dt (.cell (.tuple _)) => skG fl o ih sl lo ob nb k
     | _ => .fail := by
 unfold gdT
 generalize view fl sl lo t = s
 cases s with
 | dt d => cases d with
   | cell v => cases v <;> rfl
   | _ => rfl
 | _ => rfl
theorem Ui (P : Program) (X : EX) (fl : Nat) (ops : Array Oper) (o : Oper) (ih : IH) (g : Nat × Bool) (sl : Tr SV) (lo : Lo) (ob : OB) (nb : Nat) (k : KS) : gdG P X fl ops o ih g sl lo ob nb k = match (ops[g.1]?).bind (·.dst) with
   | none => .fail
   | some t => match view fl sl lo t with
     | .kb b => BR b (BR g.2 (goG P X fl o ih sl lo ob nb k) (skG fl o ih sl lo ob nb k)) (BR g.2 (skG fl o ih sl lo ob nb k) (goG P X fl o ih sl lo ob nb k))
     | .dt (.cell (.tuple _)) => skG fl o ih sl lo ob nb k
     | _ => .fail := by
 unfold gdG
 cases (ops[g.1]?).bind (·.dst) with
 | none => rfl
 | some t => exact UR P X fl o ih g.2 t sl lo ob nb k
def stG (P : Program) (X : EX) (fl : Nat) (ops : Array Oper) (o : Oper) (ih : IH) : IH :=
    @Option.rec (Nat × Bool) (fun _ => IH) (goG P X fl o ih) (gdG P X fl ops o ih) o.guard
def Qh (P : Program) (X : EX) (fl : Nat) (ops : Array Oper) (l : List Oper) : IH :=
 @List.rec Oper (fun _ => IH) (fun sl lo ob nb k => k sl ob nb) (fun o _ ih => stG P X fl ops o ih) l
def okD (N : Nat) (ops : Array Oper) : Bool := ops.toList.all fun o => fO N o.dst
theorem Ae {fl : Nat} {sl : Tr SV} {lo : Lo} {d : Nat} {s : SV} (hd : d < 16777215) : (gH fl d = true -> view fl (pq sl d s) lo = putT (some d) s (view fl sl lo)) /\ (gH fl d = false -> view fl sl (.cons d s lo) = putT (some d) s (view fl sl lo)) := by
 constructor
 · intro hb
   funext j
   show BS (gH fl j) (iE (pq sl d s) j) (look lo j) = kS (some d) j s (BS (gH fl j) (iE sl j) (look lo j))
   rw [aY, uy j hd]
   by_cases e : j = d
   · subst e; rw [hb, if_pos rfl, if_pos rfl]; rfl
   · rw [if_neg e, if_neg e]
 · intro hb
   funext j
   show BS (gH fl j) (iE sl j) (BS (Nat.beq d j) s (look lo j)) = kS (some d) j s (BS (gH fl j) (iE sl j) (look lo j))
   rw [aY]
   by_cases e : j = d
   · subst e; rw [hb, if_pos rfl, Nat.beq_refl]; rfl
   · rw [if_neg e, dN (fun h => e h.symm)]; rfl
def KS1 (fl : Nat) (post : SV × HD -> Prop) (ih : IH) (k : KS) (σ : CS) : Prop :=
 ∃ sl lo ob, σ = ⟨view fl sl lo, ⟨aC ob, σ.h.nob⟩⟩ /\ (ih sl lo ob σ.h.nob k).holds post
section
variable {E : CEnv} {X : EX} {fl : Nat} {post : SV × HD -> Prop}
theorem Iq {d : Option Tmp} {ih : IH} {sl : Tr SV} {lo : Lo} {s : SV} {ob : OB} {nb : Nat} {k : KS} (hd : fO E.N d = true) (hN : E.N <= 16777215) (h : (DT fl d ih sl lo s ob nb k).holds post) :
  KS1 fl post ih k ⟨putT d s (view fl sl lo), ⟨aC ob, nb⟩⟩ := by
 cases d with
 | none => exact ⟨sl, lo, ob, rfl, h⟩
 | some d =>
   have hd : d < 16777215 := Nat.lt_of_lt_of_le (show d < E.N by simpa [fO, Nat.blt_eq] using hd) hN
   have h : (MI s fun s => BR (gH fl d) (ih (pq sl d s) lo ob nb k) (ih sl (.cons d s lo) ob nb k)).holds post := h
   rw [Lc, dA] at h
   obtain ⟨h1, h2⟩ := Ae (fl := fl) (sl := sl) (lo := lo) (s := s) hd
   cases hb : gH fl d with
   | true => rw [hb] at h; exact ⟨_, lo, ob, by rw [← h1 hb], h⟩
   | false => rw [hb] at h; exact ⟨sl, _, ob, by rw [← h2 hb], h⟩
theorem Eh {o : Oper} {ih : IH} {sl : Tr SV} {lo : Lo} {ob : OB} {nb : Nat} {k : KS} {rid i : Nat} (hX : XRef X E) (hd : fO E.N o.dst = true) (hN : E.N <= 16777215) (hT : eX E.top nb) (hF : FOk ob nb)
  (h : (goG E.P X fl o ih sl lo ob nb k).holds post) : (bJ E rid i (evC (view fl sl lo)) ⟨aC ob, nb⟩ o).holds fun y => KS1 fl post ih k ⟨putT o.dst y.1 (view fl sl lo), y.2⟩ := by
 unfold goG at h
 rw [IQ, Ul] at h
 refine T.aI (fun y hy => ?_) _ (Q0 hX hT hF h)
 obtain ⟨ob', h1, h2⟩ := hy
 have := Iq (E := E) hd hN h2
 have e : y.2 = ⟨aC ob', y.2.nob⟩ := by rw [← h1]
 rw [e]
 exact this
theorem ET {ops : Array Oper} {o : Oper} {ih : IH} {sl : Tr SV} {lo : Lo} {ob : OB} {nb : Nat} {k : KS} {rid i : Nat} (hX : XRef X E) (hok : okD E.N ops = true) (hd : fO E.N o.dst = true) (hN : E.N <= 16777215) (hT : eX E.top nb) (hF : FOk ob nb)
  (h : (stG E.P X fl ops o ih sl lo ob nb k).holds post) : (stC E ops rid i o ⟨view fl sl lo, ⟨aC ob, nb⟩⟩).holds fun y => KS1 fl post ih k ⟨putT o.dst y.1 (view fl sl lo), y.2⟩ := by
 unfold stC
 rw [hd, cond_true]
 unfold stG at h
 cases hg : o.guard with
 | none => rw [hg] at h; exact Eh hX hd hN hT hF h
 | some g =>
   obtain ⟨j, want⟩ := g
   rw [hg] at h
   have h : (gdG E.P X fl ops o ih (j, want) sl lo ob nb k).holds post := h
   rw [Ui] at h
   simp only at h ⊢
   have sk : (skG fl o ih sl lo ob nb k).holds post -> (T.ret (dZ, (⟨aC ob, nb⟩ : HS)) : T (SV × HS)).holds fun y => KS1 fl post ih k ⟨putT o.dst y.1 (view fl sl lo), y.2⟩ := fun h => Iq (E := E) hd hN h
   split at h
   · exact h.elim
   · rename_i t ht
     simp only [ht]
     have hdt : fO E.N (some t) = true := by
        cases hj : ops[j]? with
        | none => rw [hj] at ht; cases ht
        | some oj =>
          rw [hj] at ht
          have hm : oj ∈ ops.toList := by simpa using Array.mem_of_getElem? hj
          have := List.all_eq_true.1 hok oj hm
          rw [show oj.dst = some t from ht] at this
          exact this
     rw [hdt, cond_true]
     split at h
     · rename_i b hb
       simp only [hb]
       rw [dA] at h
       cases b with
       | true =>
         rw [cond_true, dA] at h
         cases want with
         | true => exact Eh hX hd hN hT hF h
         | false => exact sk h
       | false =>
         rw [cond_false, dA] at h
         cases want with
         | true => exact sk h
         | false => exact Eh hX hd hN hT hF h
     · rename_i x hx
       simp only [hx]
       exact sk h
     · exact h.elim
theorem sZ (hE : E.Ok) {ops : Array Oper} {k : KS} {rid : Nat} (hX : XRef X E) (hok : okD E.N ops = true) (hN : E.N <= 16777215) : ∀ (l : List Oper) (i : Nat) (sl : Tr SV) (lo : Lo) (ob : OB) (nb : Nat), (∀ o ∈ l, fO E.N o.dst = true) -> eX E.top nb -> FOk ob nb ->
  (Qh E.P X fl ops l sl lo ob nb k).holds post -> (kX E ops rid i l ⟨view fl sl lo, ⟨aC ob, nb⟩⟩).holds (KS1 fl post (fun sl _ ob nb k => k sl ob nb) k)
 | [], i, sl, lo, ob, nb, _, _, _, h => ⟨sl, lo, ob, rfl, h⟩
 | o :: l, i, sl, lo, ob, nb, hd, hT, hF, h => by
   simp only [kX, T.aB]
   have h1 := ET (rid := rid) (i := i) hX hok (hd o (by simp)) hN hT hF (show (stG E.P X fl ops o (Qh E.P X fl ops l) sl lo ob nb k).holds post from h)
   have h2 := T.bK (iy hE (ops := ops) (rid := rid) (i := i) o (σ := ⟨view fl sl lo, ⟨aC ob, nb⟩⟩) hF) h1
   refine T.aI (fun y hy => ?_) _ h2
   obtain ⟨⟨g1, g2, g3⟩, sl', lo', ob', e, hh⟩ := hy
   rw [e]
   have eh : y.2 = ⟨aC ob', y.2.nob⟩ := congrArg CS.h e
   have hT' : eX E.top y.2.nob := by
     have g3 : y.2.nob <= max E.top nb := g3
     have := hT.1
     exact ⟨by omega, hT.2⟩
   exact sZ hE hX hok hN l (i + 1) sl' lo' ob' y.2.nob (fun o ho => hd o (by simp [ho])) hT' (fun i hi => by
     have := g1 i hi
     rw [eh] at this
     exact this) hh
end
end
end Rx
