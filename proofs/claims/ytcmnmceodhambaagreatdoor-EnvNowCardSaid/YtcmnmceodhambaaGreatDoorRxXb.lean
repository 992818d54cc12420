/- Rx, part Xb: slim eliminators for the kernel: all arms are closed, so nothing is copied. Printed by gen/slim.py. -/
import Derived.Test.YtcmnmceodhambaaGreatDoorRxX2
set_option linter.unusedSectionVars false
set_option linter.unusedSimpArgs false
set_option linter.unusedVariables false
namespace Rx
open Go
variable [Glob]
noncomputable section
def aS (a b : Bool) : Bool := @Bool.rec (fun _ => Bool) false b a
theorem iq (a b : Bool) : aS a b = (a && b) := by cases a <;> rfl
def failK : OpK := fun _ _ _ _ _ _ _ => .fail
def nKS (s : SV) : SV := @SV.rec (fun _ => SV) (fun _ => PUnit) (.junk) (fun d => nK (.dt d)) (fun x0 _ => .agg x0) (fun x0 _ => .tup x0) (fun x0 x1 => .ptr x0 x1) (fun x0 x1 => .el x0 x1) (fun x0 x1 _ => .fn x0 x1) (fun x0 => .kb x0) (fun x0 x1 => .ki x0 x1) (fun x0 => .nm x0) (fun x0 x1 x2 x3 => .rp x0 x1 x2 x3) (fun x0 x1 x2 x3 => .ri x0 x1 x2 x3) (fun x0 x1 x2 x3 x4 => .sl x0 x1 x2 x3 x4) (fun x0 => .sy x0) PUnit.unit (fun _ _ _ _ => PUnit.unit) s
theorem vO (s : SV) : nKS s = nK s := by cases s <;> rfl
def WA (s : SV) : Bool := @SV.rec (fun _ => Bool) (fun _ => PUnit) (false) (fun d => d9 (.dt d)) (fun _ _ => false) (fun _ _ => false) (fun _ _ => true) (fun _ _ => true) (fun _ _ _ => true) (fun _ => true) (fun _ _ => true) (fun _ => true) (fun _ _ _ _ => true) (fun _ _ _ _ => true) (fun _ _ _ _ _ => true) (fun _ => true) PUnit.unit (fun _ _ _ _ => PUnit.unit) s
theorem RH (s : SV) : WA s = d9 s := by cases s <;> rfl
def Xw (s : SV) : OpK := @SV.rec (fun _ => OpK) (fun _ => PUnit) (aB) (fun _ => aB) (fun _ _ => aB) (fun _ _ => aB) (fun i f P X o ev ob nb k => k (.ptr i f) ob nb) (fun _ _ => aB) (fun _ _ _ => aB) (fun _ => aB) (fun _ _ => aB) (fun _ => aB) (fun i y z f P X o ev ob nb k => k (.rp i y z f) ob nb) (fun _ _ _ _ => aB) (fun _ _ _ _ _ => aB) (fun _ => aB) PUnit.unit (fun _ _ _ _ => PUnit.unit) s
def PN (x : Operand) : OpK := fun P X o ev ob nb k => Xw (ev x) P X o ev ob nb k
theorem OO (x : Operand) : PN x = Oe x := by
 funext P X o ev ob nb k
 unfold PN Oe
 generalize ev x = s
 cases s <;> rfl
def Wd (s : SV) : Operand -> Operand -> OpK := @SV.rec (fun _ => Operand -> Operand -> OpK) (fun _ => PUnit) (fun _ _ => aB) (fun _ => fun _ _ => aB) (fun _ _ => fun _ _ => aB) (fun _ _ => fun _ _ => aB) (fun _ _ => fun _ _ => aB) (fun _ _ => fun _ _ => aB) (fun _ _ _ => fun _ _ => aB) (fun q a b P X o ev ob nb k => BR q (k (ev a) ob nb) (k (ev b) ob nb)) (fun _ _ => fun _ _ => aB) (fun _ => fun _ _ => aB) (fun _ _ _ _ => fun _ _ => aB) (fun _ _ _ _ => fun _ _ => aB) (fun _ _ _ _ _ => fun _ _ => aB) (fun _ => fun _ _ => aB) PUnit.unit (fun _ _ _ _ => PUnit.unit) s
def JX (c a b : Operand) : OpK := fun P X o ev ob nb k => Wd (ev c) a b P X o ev ob nb k
theorem Nw (c a b : Operand) : JX c a b = Jk c a b := by
 funext P X o ev ob nb k
 unfold JX Jk
 generalize ev c = s
 cases s <;> rfl
def V8 (b : Ob) : TypeId -> Nat -> OpK := @Ob.rec (fun _ => TypeId -> Nat -> OpK) (fun _ cs t off P X o ev ob nb k => oB (ldK P t) .fail (aB P X o ev ob nb k) (Jh cs off .fail fun s => k (nKS s) ob nb)) (fun _ _ _ _ => fun _ _ => failK) (fun _ => fun _ _ => failK) (fun _ _ _ => fun _ _ => failK) (fun _ _ _ => fun _ _ => failK) (fun _ _ _ _ _ => fun _ _ => failK) (fun _ _ _ => fun _ _ => failK) b
def OW (x : Option Ob) : TypeId -> Nat -> OpK := @Option.rec Ob (fun _ => TypeId -> Nat -> OpK) (fun _ _ => failK) V8 x
def TV (b : Ob) : TypeId -> Nat -> Nat -> Nat -> OpK := @Ob.rec (fun _ => TypeId -> Nat -> Nat -> Nat -> OpK) (fun _ _ => fun _ _ _ _ => aB) (fun _ _ _ _ => fun _ _ _ _ => aB) (fun _ => fun _ _ _ _ => aB) (fun _ _ _ => fun _ _ _ _ => aB) (fun _ _ _ => fun _ _ _ _ => aB) (fun _ sz' len tr _ t idx sz off P X o ev ob nb k => oB (ldK P t) .fail (szK P t fun n => BR (aS (Nat.beq sz sz') (aS (Nat.ble (Nat.add off n) sz) (Nat.blt idx len))) (k (.agg (mX tr n (Nat.add (Nat.mul idx sz) off))) ob nb) .fail) (BR (aS (Nat.beq sz sz') (aS (Nat.blt off sz) (Nat.blt idx len))) (k (nKS (iB tr (Nat.add (Nat.mul idx sz) off))) ob nb) .fail)) (fun _ _ _ => fun _ _ _ _ => aB) b
def UE (x : Option Ob) : TypeId -> Nat -> Nat -> Nat -> OpK := @Option.rec Ob (fun _ => TypeId -> Nat -> Nat -> Nat -> OpK) (fun _ _ _ _ => aB) TV x
def VR (s : SV) : TypeId -> OpK := @SV.rec (fun _ => TypeId -> OpK) (fun _ => PUnit) (fun _ => aB) (fun _ => fun _ => aB) (fun _ _ => fun _ => aB) (fun _ _ => fun _ => aB) (fun i off t P X o ev ob nb k => OW (aA ob i) t off P X o ev ob nb k) (fun _ _ => fun _ => aB) (fun _ _ _ => fun _ => aB) (fun _ => fun _ => aB) (fun _ _ => fun _ => aB) (fun _ => fun _ => aB) (fun i idx sz off t P X o ev ob nb k => UE (aA ob i) t idx sz off P X o ev ob nb k) (fun _ _ _ _ => fun _ => aB) (fun _ _ _ _ _ => fun _ => aB) (fun _ => fun _ => aB) PUnit.unit (fun _ _ _ _ => PUnit.unit) s
def Ky (t : TypeId) (x : Operand) : OpK := fun P X o ev ob nb k => VR (ev x) t P X o ev ob nb k
theorem M0 (t : TypeId) (x : Operand) : Ky t x = Cq t x := by
 funext P X o ev ob nb k
 unfold Ky Cq
 generalize ev x = s
 cases s with
 | ptr i off =>
   show OW (aA ob i) t off P X o ev ob nb k = _
   simp only
   generalize aA ob i = y
   cases y with
   | none => rfl
   | some b => cases b <;> first | rfl | (simp only [OW, V8, vO])
 | rp i idx sz off =>
   show UE (aA ob i) t idx sz off P X o ev ob nb k = _
   simp only
   generalize aA ob i = y
   cases y with
   | none => rfl
   | some b => cases b <;> first | rfl | (simp only [UE, TV, vO, iq, Nat.add_eq])
 | _ => rfl
def WX (b : Ob) : TypeId -> Nat -> Nat -> SV -> OpK := @Ob.rec (fun _ => TypeId -> Nat -> Nat -> SV -> OpK) (fun t' cs t i off xv P X o ev ob nb k => BR (Lx P t) (BR (WA xv) (BR (aS (Nat.ble X.base i) (Nat.ble (Nat.succ off) cs.length)) (k .junk (lV ob i (some (.cells t' (Rv cs off xv)))) nb) .fail) (aB P X o ev ob nb k)) (aB P X o ev ob nb k)) (fun _ _ _ _ => fun _ _ _ _ => failK) (fun _ => fun _ _ _ _ => failK) (fun _ _ _ => fun _ _ _ _ => failK) (fun _ _ _ => fun _ _ _ _ => failK) (fun _ _ _ _ _ => fun _ _ _ _ => failK) (fun _ _ _ => fun _ _ _ _ => failK) b
def QA (x : Option Ob) : TypeId -> Nat -> Nat -> SV -> OpK := @Option.rec Ob (fun _ => TypeId -> Nat -> Nat -> SV -> OpK) (fun _ _ _ _ => failK) WX x
def UJ (s : SV) : TypeId -> Operand -> OpK := @SV.rec (fun _ => TypeId -> Operand -> OpK) (fun _ => PUnit) (fun _ _ => aB) (fun _ => fun _ _ => aB) (fun _ _ => fun _ _ => aB) (fun _ _ => fun _ _ => aB) (fun i off t x P X o ev ob nb k => QA (aA ob i) t i off (ev x) P X o ev ob nb k) (fun _ _ => fun _ _ => aB) (fun _ _ _ => fun _ _ => aB) (fun _ => fun _ _ => aB) (fun _ _ => fun _ _ => aB) (fun _ => fun _ _ => aB) (fun _ _ _ _ => fun _ _ => aB) (fun _ _ _ _ => fun _ _ => aB) (fun _ _ _ _ _ => fun _ _ => aB) (fun _ => fun _ _ => aB) PUnit.unit (fun _ _ _ _ => PUnit.unit) s
def Eh (t : TypeId) (p x : Operand) : OpK := fun P X o ev ob nb k => UJ (ev p) t x P X o ev ob nb k
theorem J4 (t : TypeId) (p x : Operand) : Eh t p x = uI t p x := by
 funext P X o ev ob nb k
 unfold Eh uI
 generalize ev p = s
 cases s with
 | ptr i off =>
   show QA (aA ob i) t i off (ev x) P X o ev ob nb k = _
   simp only
   generalize aA ob i = y
   cases y with
   | none => rfl
   | some b => cases b <;> first | rfl | (simp only [QA, WX, RH, iq, Nat.succ_eq_add_one])
 | _ => rfl
def faE (s : SV) : TypeId -> Nat -> OpK := @SV.rec (fun _ => TypeId -> Nat -> OpK) (fun _ => PUnit) (fun _ _ => aB) (fun _ => fun _ _ => aB) (fun _ _ => fun _ _ => aB) (fun _ _ => fun _ _ => aB) (fun i off s f P X o ev ob nb k => oN (faK P s f) .fail fun d => fN (Nat.add off d) fun a => k (.ptr i a) ob nb) (fun _ _ => fun _ _ => aB) (fun _ _ _ => fun _ _ => aB) (fun _ => fun _ _ => aB) (fun _ _ => fun _ _ => aB) (fun _ => fun _ _ => aB) (fun i idx sz off s f P X o ev ob nb k => oN (faK P s f) .fail fun d => fN (Nat.add off d) fun a => k (.rp i idx sz a) ob nb) (fun _ _ _ _ => fun _ _ => aB) (fun _ _ _ _ _ => fun _ _ => aB) (fun _ => fun _ _ => aB) PUnit.unit (fun _ _ _ _ => PUnit.unit) s
def pY (s : TypeId) (x : Operand) (f : Nat) : OpK := fun P X o ev ob nb k => faE (ev x) s f P X o ev ob nb k
theorem AB (s : TypeId) (x : Operand) (f : Nat) : pY s x f = kL s x f := by
 funext P X o ev ob nb k
 unfold pY kL
 generalize ev x = s
 cases s <;> rfl
def Ue (op : BinOp) : IntKind -> Int -> Int -> R -> (SV -> R) -> R := @BinOp.rec (fun _ => IntKind -> Int -> Int -> R -> (SV -> R) -> R) (fun k x y _ c => M6 k (Int.add x y) c) (fun k x y _ c => M6 k (Int.sub x y) c) (fun _ _ _ g _ => g) (fun _ _ _ g _ => g) (fun _ _ _ g _ => g) (fun _ _ _ g _ => g) (fun _ _ _ g _ => g) (fun _ _ _ g _ => g) (fun _ _ _ g _ => g) (fun _ _ _ g _ => g) (fun _ _ _ g _ => g) (fun _ x y _ c => c (.kb (eqI x y))) (fun _ x y _ c => c (.kb (nB (eqI x y)))) (fun _ x y _ c => c (.kb (Aq x y))) (fun _ x y _ c => c (.kb (nB (Aq y x)))) (fun _ x y _ c => c (.kb (Aq y x))) (fun _ x y _ c => c (.kb (nB (Aq x y)))) op
theorem Sz (op : BinOp) (k : IntKind) (x y : Int) (g : R) (c : SV -> R) : Ue op k x y g c = K8 op k x y g c := by cases op <;> rfl
def Wo (s : SV) : IntKind -> Int -> BinOp -> OpK := @SV.rec (fun _ => IntKind -> Int -> BinOp -> OpK) (fun _ => PUnit) (fun _ _ _ => aB) (fun _ => fun _ _ _ => aB) (fun _ _ => fun _ _ _ => aB) (fun _ _ => fun _ _ _ => aB) (fun _ _ => fun _ _ _ => aB) (fun _ _ => fun _ _ _ => aB) (fun _ _ _ => fun _ _ _ => aB) (fun _ => fun _ _ _ => aB) (fun kk' b kk a op P X o ev ob nb k => BR (dR kk kk') (Ue op kk a b (aB P X o ev ob nb k) fun s => k s ob nb) .fail) (fun _ => fun _ _ _ => aB) (fun _ _ _ _ => fun _ _ _ => aB) (fun _ _ _ _ => fun _ _ _ => aB) (fun _ _ _ _ _ => fun _ _ _ => aB) (fun _ => fun _ _ _ => aB) PUnit.unit (fun _ _ _ _ => PUnit.unit) s
def XT (s : SV) : BinOp -> Operand -> OpK := @SV.rec (fun _ => BinOp -> Operand -> OpK) (fun _ => PUnit) (fun _ _ => aB) (fun _ => fun _ _ => aB) (fun _ _ => fun _ _ => aB) (fun _ _ => fun _ _ => aB) (fun _ _ => fun _ _ => aB) (fun _ _ => fun _ _ => aB) (fun _ _ _ => fun _ _ => aB) (fun _ => fun _ _ => aB) (fun kk a op y P X o ev ob nb k => Wo (ev y) kk a op P X o ev ob nb k) (fun _ => fun _ _ => aB) (fun _ _ _ _ => fun _ _ => aB) (fun _ _ _ _ => fun _ _ => aB) (fun _ _ _ _ _ => fun _ _ => aB) (fun _ => fun _ _ => aB) PUnit.unit (fun _ _ _ _ => PUnit.unit) s
def Ol (op : BinOp) (x y : Operand) : OpK := fun P X o ev ob nb k => BR (Sq y) (aB P X o ev ob nb k) (XT (ev x) op y P X o ev ob nb k)
theorem Oh (op : BinOp) (x y : Operand) : Ol op x y = Om op x y := by
 funext P X o ev ob nb k
 unfold Ol Om
 congr 1
 generalize ev x = s
 cases s with
 | ki kk a =>
   show Wo (ev y) kk a op P X o ev ob nb k = _
   generalize ev y = r
   cases r with
   | ki kk' b => show BR _ (Ue _ _ _ _ _ _) _ = _; rw [Sz]
   | _ => rfl
 | _ => rfl
def fnX (s : SV) : List Operand -> OpK := @SV.rec (fun _ => List Operand -> OpK) (fun _ => PUnit) (fun _ => failK) (fun _ => fun _ => failK) (fun _ _ => fun _ => failK) (fun _ _ => fun _ => failK) (fun _ _ => fun _ => failK) (fun _ _ => fun _ => failK) (fun fk caps _ args P X o ev ob nb k => X.I X.top X.base fk (LZ args ev caps) ob nb k) (fun _ => fun _ => failK) (fun _ _ => fun _ => failK) (fun _ => fun _ => failK) (fun _ _ _ _ => fun _ => failK) (fun _ _ _ _ => fun _ => failK) (fun _ _ _ _ _ => fun _ => failK) (fun _ => fun _ => failK) PUnit.unit (fun _ _ _ _ => PUnit.unit) s
def Ve (f : Operand) (args : List Operand) : OpK := fun P X o ev ob nb k => fnX (ev f) args P X o ev ob nb k
theorem RL (f : Operand) (args : List Operand) : Ve f args = kFn f args := by
 funext P X o ev ob nb k
 unfold Ve kFn
 generalize ev f = s
 cases s <;> rfl
def WR (s : SV) : Nat -> Nat -> Nat -> Nat -> TypeId -> OpK := @SV.rec (fun _ => Nat -> Nat -> Nat -> Nat -> TypeId -> OpK) (fun _ => PUnit) (fun _ _ _ _ _ => aB) (fun _ => fun _ _ _ _ _ => aB) (fun _ _ => fun _ _ _ _ _ => aB) (fun _ _ => fun _ _ _ _ _ => aB) (fun _ _ => fun _ _ _ _ _ => aB) (fun _ _ => fun _ _ _ _ _ => aB) (fun _ _ _ => fun _ _ _ _ _ => aB) (fun _ => fun _ _ _ _ _ => aB) (fun _ iv q z o' n t P X o ev ob nb k => oN (iaK P t) .fail fun z' => BR (Nat.beq z' z) (ltI iv n fun m => fN (Nat.add o' m) fun a => k (.rp q a z 0) ob nb) .fail) (fun _ => fun _ _ _ _ _ => aB) (fun _ _ _ _ => fun _ _ _ _ _ => aB) (fun _ _ _ _ => fun _ _ _ _ _ => aB) (fun _ _ _ _ _ => fun _ _ _ _ _ => aB) (fun _ => fun _ _ _ _ _ => aB) PUnit.unit (fun _ _ _ _ => PUnit.unit) s
def XW (s : SV) : TypeId -> Operand -> OpK := @SV.rec (fun _ => TypeId -> Operand -> OpK) (fun _ => PUnit) (fun _ _ => aB) (fun _ => fun _ _ => aB) (fun _ _ => fun _ _ => aB) (fun _ _ => fun _ _ => aB) (fun _ _ => fun _ _ => aB) (fun _ _ => fun _ _ => aB) (fun _ _ _ => fun _ _ => aB) (fun _ => fun _ _ => aB) (fun _ _ => fun _ _ => aB) (fun _ => fun _ _ => aB) (fun _ _ _ _ => fun _ _ => aB) (fun _ _ _ _ => fun _ _ => aB) (fun q z o' n _ t i P X o ev ob nb k => WR (ev i) q z o' n t P X o ev ob nb k) (fun _ => fun _ _ => aB) PUnit.unit (fun _ _ _ _ => PUnit.unit) s
def QC (t : TypeId) (x i : Operand) : OpK := fun P X o ev ob nb k => XW (ev x) t i P X o ev ob nb k
theorem NZ (t : TypeId) (x i : Operand) : QC t x i = I4 t x i := by
 funext P X o ev ob nb k
 unfold QC I4
 generalize ev x = s
 cases s with
 | sl q z o' n c =>
   show WR (ev i) q z o' n t P X o ev ob nb k = _
   generalize ev i = r
   cases r <;> rfl
 | _ => rfl
def XV (s : SV) : TypeId -> OpK := @SV.rec (fun _ => TypeId -> OpK) (fun _ => PUnit) (fun _ => aB) (fun _ => fun _ => aB) (fun _ _ => fun _ => aB) (fun _ _ => fun _ => aB) (fun _ _ => fun _ => aB) (fun _ _ => fun _ => aB) (fun _ _ _ => fun _ => aB) (fun _ => fun _ => aB) (fun _ _ => fun _ => aB) (fun _ => fun _ => aB) (fun _ _ _ _ => fun _ => aB) (fun _ _ _ _ => fun _ => aB) (fun _ _ _ n _ t P X o ev ob nb k => BR (Sc P t) (k (.ki .i64 (.ofNat n)) ob nb) .fail) (fun _ => fun _ => aB) PUnit.unit (fun _ _ _ _ => PUnit.unit) s
def QB (t : TypeId) (x : Operand) : OpK := fun P X o ev ob nb k => XV (ev x) t P X o ev ob nb k
theorem OP (t : TypeId) (x : Operand) : QB t x = Ta t x := by
 funext P X o ev ob nb k
 unfold QB Ta
 generalize ev x = s
 cases s <;> rfl
def exE (s : SV) : Nat -> OpK := @SV.rec (fun _ => Nat -> OpK) (fun _ => PUnit) (fun _ => aB) (fun _ => fun _ => aB) (fun _ _ => fun _ => aB) (fun l _ i P X o ev ob nb k => Jh l i .fail fun s => k (nKS s) ob nb) (fun _ _ => fun _ => aB) (fun _ _ => fun _ => aB) (fun _ _ _ => fun _ => aB) (fun _ => fun _ => aB) (fun _ _ => fun _ => aB) (fun _ => fun _ => aB) (fun _ _ _ _ => fun _ => aB) (fun _ _ _ _ => fun _ => aB) (fun _ _ _ _ _ => fun _ => aB) (fun _ => fun _ => aB) PUnit.unit (fun _ _ _ _ => PUnit.unit) s
def Vf (x : Operand) (i : Nat) : OpK := fun P X o ev ob nb k => exE (ev x) i P X o ev ob nb k
theorem RG (x : Operand) (i : Nat) : Vf x i = pG x i := by
 funext P X o ev ob nb k
 unfold Vf pG
 generalize ev x = s
 cases s <;> first | rfl | (simp only [exE, vO])
def unE (s : SV) : OpK := @SV.rec (fun _ => OpK) (fun _ => PUnit) (aB) (fun _ => aB) (fun _ _ => aB) (fun _ _ => aB) (fun _ _ => aB) (fun _ _ => aB) (fun _ _ _ => aB) (fun b P X o ev ob nb k => k (.kb (nB b)) ob nb) (fun _ _ => aB) (fun _ => aB) (fun _ _ _ _ => aB) (fun _ _ _ _ => aB) (fun _ _ _ _ _ => aB) (fun _ => aB) PUnit.unit (fun _ _ _ _ => PUnit.unit) s
def WK (x : Operand) : OpK := fun P X o ev ob nb k => unE (ev x) P X o ev ob nb k
structure OBox where
 f : OpK
def unB (op : UnOp) (x : Operand) : OBox := match op with
 | .not => ⟨WK x⟩
 | _ => ⟨aB⟩
theorem Uh (op : UnOp) (x : Operand) : (unB op x).f = kUn op x := by
 funext P X o ev ob nb k
 cases op
 case not =>
  show unE (ev x) P X o ev ob nb k = kUn .not x P X o ev ob nb k
  unfold kUn
  generalize ev x = s
  cases s <;> rfl
 all_goals
  show aB P X o ev ob nb k = kUn _ x P X o ev ob nb k
  unfold kUn
  generalize ev x = s
  cases s <;> rfl
def Uq (b : Builtin) (as : List Operand) (ts : List TypeId) : OBox := match b, as, ts with
 | .len, [x], [t] => ⟨QB t x⟩
 | _, _, _ => ⟨aB⟩
theorem Rq (c : Call) (b : Builtin) : (Uq b c.args.toList c.argTypes.toList).f = oQ c b := by
 unfold Uq oQ
 split
 · rename_i x t _ _
   rw [OP]
   funext P X o ev ob nb k
   simp_all
 · rename_i h
   funext P X o ev ob nb k
   split
   · rename_i h1 h2 h3
     exact (h _ _ rfl h2 h3).elim
   · rfl
def Pn (c : Call) : OBox := match c.callee with
 | .value f => ⟨Ve f c.args.toList⟩
 | .builtin b => Uq b c.args.toList c.argTypes.toList
 | _ => ⟨aB⟩
theorem Ov (c : Call) : (Pn c).f = Im c := by
 unfold Pn Im
 cases c.callee <;> first | exact RL _ _ | exact Rq c _ | rfl
def opB (o : Oper) : OBox := match o.op with
 | .move x => ⟨CW x⟩
 | .assign x => ⟨CW x⟩
 | .pick c a b => ⟨JX c a b⟩
 | .alloc t => ⟨JE t⟩
 | .box t x => ⟨UO t x⟩
 | .build t ps => ⟨JR t ps⟩
 | .load t x => ⟨Ky t x⟩
 | .store t p x => ⟨Eh t p x⟩
 | .nilCheck x => ⟨PN x⟩
 | .binOp op t x y _ => ⟨Ol op x y⟩
 | .unOp op _ x => unB op x
 | .fieldAddr s x f => ⟨pY s x f⟩
 | .field t x f => ⟨JG t x f⟩
 | .indexAddr t x i => ⟨QC t x i⟩
 | .index t x i => ⟨Ju t x i⟩
 | .lookup t x i ok => ⟨Gl t x i ok⟩
 | .extract x i => ⟨Vf x i⟩
 | .call c => Pn c
 | .range t x => ⟨Jr t x⟩
 | .entry x => ⟨Jw x⟩
 | .next _ _ => ⟨failK⟩
 | _ => ⟨aB⟩
def opS (o : Oper) : OpK := (opB o).f
theorem Vl (o : Oper) : opS o = opG o := by
 unfold opS opB opG
 cases o.op <;> first | rfl | exact Nw _ _ _ | exact M0 _ _ | exact J4 _ _ _ | exact OO _ | exact Oh _ _ _ | exact Uh _ _ | exact AB _ _ _ | exact NZ _ _ _ | exact RG _ _ | exact Ov _
def brE (s : SV) : R -> R -> R -> R := @SV.rec (fun _ => R -> R -> R -> R) (fun _ => PUnit) (fun _ _ c => c) (fun _ => fun _ _ c => c) (fun _ _ => fun _ _ c => c) (fun _ _ => fun _ _ c => c) (fun _ _ => fun _ _ c => c) (fun _ _ => fun _ _ c => c) (fun _ _ _ => fun _ _ c => c) (fun q a b _ => BR q a b) (fun _ _ => fun _ _ c => c) (fun _ => fun _ _ c => c) (fun _ _ _ _ => fun _ _ c => c) (fun _ _ _ _ => fun _ _ c => c) (fun _ _ _ _ _ => fun _ _ c => c) (fun _ => fun _ _ c => c) PUnit.unit (fun _ _ _ _ => PUnit.unit) s
theorem U8 (s : SV) (a b c : R) : brE s a b c = match s with
 | .kb q => BR q a b
 | _ => c := by cases s <;> rfl
end
end Rx
set_option linter.unusedSectionVars false
set_option linter.unusedSimpArgs false
set_option linter.unusedVariables false
namespace Rx
open Go
variable [Glob]
noncomputable section
abbrev KS := Tr SV -> OB -> Nat -> R
def evG (fl : Nat) (sl : Tr SV) (lo : Lo) : Ev := @Operand.rec (fun _ => SV) (fun t => view fl sl lo t) (fun v => nK (ofConst v)) (fun g => R7 g) (fun f => .fn f [])
theorem Kc (fl : Nat) (sl : Tr SV) (lo : Lo) : evG fl sl lo = evC (view fl sl lo) := by
 funext x
 cases x <;> rfl
abbrev IH := Tr SV -> Lo -> OB -> Nat -> KS -> R
def Gg (fl : Nat) (d : Option Tmp) (ih : IH) (sl : Tr SV) (lo : Lo) (s : SV) (ob : OB) (nb : Nat) (k : KS) : R :=
 @Option.rec Tmp (fun _ => R) (ih sl lo ob nb k) (fun d => Nb s fun s => BR (gF fl d) (ih (oF sl d s) lo ob nb k) (ih sl (.cons d s lo) ob nb k)) d
def goG (P : Program) (X : EX) (fl : Nat) (o : Oper) (ih : IH) : IH := fun sl lo ob nb k =>
 opS o P X o (evG fl sl lo) ob nb fun s ob nb => Gg fl o.dst ih sl lo s ob nb k
def skG (fl : Nat) (o : Oper) (ih : IH) : IH := fun sl lo ob nb k => Gg fl o.dst ih sl lo dW ob nb k
def gdR (P : Program) (X : EX) (fl : Nat) (o : Oper) (ih : IH) (s : SV) : IH := fun sl lo ob nb k =>
    match s with
     | .dt (.cell (.tuple _)) => skG fl o ih sl lo ob nb k
     | _ => .fail
def gdT (P : Program) (X : EX) (fl : Nat) (o : Oper) (ih : IH) (w : Bool) (t : Tmp) : IH := fun sl lo ob nb k =>
    brE (view fl sl lo t) (BR w (goG P X fl o ih sl lo ob nb k) (skG fl o ih sl lo ob nb k)) (BR w (skG fl o ih sl lo ob nb k) (goG P X fl o ih sl lo ob nb k)) (gdR P X fl o ih (view fl sl lo t) sl lo ob nb k)
def gdG (P : Program) (X : EX) (fl : Nat) (ops : Array Oper) (o : Oper) (ih : IH) (g : Nat × Bool) : IH :=
    @Option.rec Tmp (fun _ => IH) (fun _ _ _ _ _ => .fail) (gdT P X fl o ih g.2) ((ops[g.1]?).bind (·.dst))
theorem U7 (P : Program) (X : EX) (fl : Nat) (o : Oper) (ih : IH) (w : Bool) (t : Tmp) (sl : Tr SV) (lo : Lo) (ob : OB) (nb : Nat) (k : KS) : gdT P X fl o ih w t sl lo ob nb k = match view fl sl lo t with
     | .kb b => BR b (BR w (goG P X fl o ih sl lo ob nb k) (skG fl o ih sl lo ob nb k)) (BR w (skG fl o ih sl lo ob nb k) (goG P X fl o ih sl lo ob nb k))
     | .dt (.cell (.tuple _)) => skG fl o ih sl lo ob nb k
     | _ => .fail := by
 unfold gdT
 generalize view fl sl lo t = s
 cases s with
 | dt d => cases d with
   | cell v => cases v <;> rfl
   | _ => rfl
 | _ => rfl
theorem U2 (P : Program) (X : EX) (fl : Nat) (ops : Array Oper) (o : Oper) (ih : IH) (g : Nat × Bool) (sl : Tr SV) (lo : Lo) (ob : OB) (nb : Nat) (k : KS) : gdG P X fl ops o ih g sl lo ob nb k = match (ops[g.1]?).bind (·.dst) with
   | none => .fail
   | some t => match view fl sl lo t with
     | .kb b => BR b (BR g.2 (goG P X fl o ih sl lo ob nb k) (skG fl o ih sl lo ob nb k)) (BR g.2 (skG fl o ih sl lo ob nb k) (goG P X fl o ih sl lo ob nb k))
     | .dt (.cell (.tuple _)) => skG fl o ih sl lo ob nb k
     | _ => .fail := by
 unfold gdG
 cases (ops[g.1]?).bind (·.dst) with
 | none => rfl
 | some t => exact U7 P X fl o ih g.2 t sl lo ob nb k
def stG (P : Program) (X : EX) (fl : Nat) (ops : Array Oper) (o : Oper) (ih : IH) : IH :=
    @Option.rec (Nat × Bool) (fun _ => IH) (goG P X fl o ih) (gdG P X fl ops o ih) o.guard
def Qq (P : Program) (X : EX) (fl : Nat) (ops : Array Oper) (l : List Oper) : IH :=
 @List.rec Oper (fun _ => IH) (fun sl lo ob nb k => k sl ob nb) (fun o _ ih => stG P X fl ops o ih) l
def okD (N : Nat) (ops : Array Oper) : Bool := ops.toList.all fun o => fH N o.dst
theorem zD {fl : Nat} {sl : Tr SV} {lo : Lo} {d : Nat} {s : SV} (hd : d < 16777215) : (gF fl d = true -> view fl (oF sl d s) lo = putT (some d) s (view fl sl lo)) /\ (gF fl d = false -> view fl sl (.cons d s lo) = putT (some d) s (view fl sl lo)) := by
 constructor
 · intro hb
   funext j
   show BS (gF fl j) (iB (oF sl d s) j) (look lo j) = lC (some d) j s (BS (gF fl j) (iB sl j) (look lo j))
   rw [aX, tZ j hd]
   by_cases e : j = d
   · subst e; rw [hb, if_pos rfl, if_pos rfl]; rfl
   · rw [if_neg e, if_neg e]
 · intro hb
   funext j
   show BS (gF fl j) (iB sl j) (BS (Nat.beq d j) s (look lo j)) = lC (some d) j s (BS (gF fl j) (iB sl j) (look lo j))
   rw [aX]
   by_cases e : j = d
   · subst e; rw [hb, if_pos rfl, Nat.beq_refl]; rfl
   · rw [if_neg e, dN (fun h => e h.symm)]; rfl
def KS1 (fl : Nat) (post : SV × HD -> Prop) (ih : IH) (k : KS) (σ : CS) : Prop :=
 ∃ sl lo ob, σ = ⟨view fl sl lo, ⟨aA ob, σ.h.nob⟩⟩ /\ (ih sl lo ob σ.h.nob k).holds post
section
variable {E : CEnv} {X : EX} {fl : Nat} {post : SV × HD -> Prop}
theorem HY {d : Option Tmp} {ih : IH} {sl : Tr SV} {lo : Lo} {s : SV} {ob : OB} {nb : Nat} {k : KS} (hd : fH E.N d = true) (hN : E.N <= 16777215) (h : (Gg fl d ih sl lo s ob nb k).holds post) :
  KS1 fl post ih k ⟨putT d s (view fl sl lo), ⟨aA ob, nb⟩⟩ := by
 cases d with
 | none => exact ⟨sl, lo, ob, rfl, h⟩
 | some d =>
   have hd : d < 16777215 := Nat.lt_of_lt_of_le (show d < E.N by simpa [fH, Nat.blt_eq] using hd) hN
   have h : (Nb s fun s => BR (gF fl d) (ih (oF sl d s) lo ob nb k) (ih sl (.cons d s lo) ob nb k)).holds post := h
   rw [KO, dI] at h
   obtain ⟨h1, h2⟩ := zD (fl := fl) (sl := sl) (lo := lo) (s := s) hd
   cases hb : gF fl d with
   | true => rw [hb] at h; exact ⟨_, lo, ob, by rw [← h1 hb], h⟩
   | false => rw [hb] at h; exact ⟨sl, _, ob, by rw [← h2 hb], h⟩
theorem Es {o : Oper} {ih : IH} {sl : Tr SV} {lo : Lo} {ob : OB} {nb : Nat} {k : KS} {rid i : Nat} (hX : XRef X E) (hd : fH E.N o.dst = true) (hN : E.N <= 16777215) (hT : eP E.top nb) (hF : FOk ob nb)
  (h : (goG E.P X fl o ih sl lo ob nb k).holds post) : (bJ E rid i (evC (view fl sl lo)) ⟨aA ob, nb⟩ o).holds fun y => KS1 fl post ih k ⟨putT o.dst y.1 (view fl sl lo), y.2⟩ := by
 unfold goG at h
 rw [Kc, Vl] at h
 refine T.aF (fun y hy => ?_) _ (Sb hX hT hF h)
 obtain ⟨ob', h1, h2⟩ := hy
 have := HY (E := E) hd hN h2
 have e : y.2 = ⟨aA ob', y.2.nob⟩ := by rw [← h1]
 rw [e]
 exact this
theorem EY {ops : Array Oper} {o : Oper} {ih : IH} {sl : Tr SV} {lo : Lo} {ob : OB} {nb : Nat} {k : KS} {rid i : Nat} (hX : XRef X E) (hok : okD E.N ops = true) (hd : fH E.N o.dst = true) (hN : E.N <= 16777215) (hT : eP E.top nb) (hF : FOk ob nb)
  (h : (stG E.P X fl ops o ih sl lo ob nb k).holds post) : (stC E ops rid i o ⟨view fl sl lo, ⟨aA ob, nb⟩⟩).holds fun y => KS1 fl post ih k ⟨putT o.dst y.1 (view fl sl lo), y.2⟩ := by
 unfold stC
 rw [hd, cond_true]
 unfold stG at h
 cases hg : o.guard with
 | none => rw [hg] at h; exact Es hX hd hN hT hF h
 | some g =>
   obtain ⟨j, want⟩ := g
   rw [hg] at h
   have h : (gdG E.P X fl ops o ih (j, want) sl lo ob nb k).holds post := h
   rw [U2] at h
   simp only at h ⊢
   have sk : (skG fl o ih sl lo ob nb k).holds post -> (T.ret (dW, (⟨aA ob, nb⟩ : HS)) : T (SV × HS)).holds fun y => KS1 fl post ih k ⟨putT o.dst y.1 (view fl sl lo), y.2⟩ := fun h => HY (E := E) hd hN h
   split at h
   · exact h.elim
   · rename_i t ht
     simp only [ht]
     have hdt : fH E.N (some t) = true := by
        cases hj : ops[j]? with
        | none => rw [hj] at ht; cases ht
        | some oj =>
          rw [hj] at ht
          have hm : oj ∈ ops.toList := by simpa using Array.mem_of_getElem? hj
          have := List.all_eq_true.1 hok oj hm
          rw [show oj.dst = some t from ht] at this
          exact this
     rw [hdt, cond_true]
     split at h
     · rename_i b hb
       simp only [hb]
       rw [dI] at h
       cases b with
       | true =>
         rw [cond_true, dI] at h
         cases want with
         | true => exact Es hX hd hN hT hF h
         | false => exact sk h
       | false =>
         rw [cond_false, dI] at h
         cases want with
         | true => exact sk h
         | false => exact Es hX hd hN hT hF h
     · rename_i x hx
       simp only [hx]
       exact sk h
     · exact h.elim
theorem rZ (hE : E.Ok) {ops : Array Oper} {k : KS} {rid : Nat} (hX : XRef X E) (hok : okD E.N ops = true) (hN : E.N <= 16777215) : ∀ (l : List Oper) (i : Nat) (sl : Tr SV) (lo : Lo) (ob : OB) (nb : Nat), (∀ o ∈ l, fH E.N o.dst = true) -> eP E.top nb -> FOk ob nb ->
  (Qq E.P X fl ops l sl lo ob nb k).holds post -> (kW E ops rid i l ⟨view fl sl lo, ⟨aA ob, nb⟩⟩).holds (KS1 fl post (fun sl _ ob nb k => k sl ob nb) k)
 | [], i, sl, lo, ob, nb, _, _, _, h => ⟨sl, lo, ob, rfl, h⟩
 | o :: l, i, sl, lo, ob, nb, hd, hT, hF, h => by
   simp only [kW, T.ay]
   have h1 := EY (rid := rid) (i := i) hX hok (hd o (by simp)) hN hT hF (show (stG E.P X fl ops o (Qq E.P X fl ops l) sl lo ob nb k).holds post from h)
   have h2 := T.bL (gU hE (ops := ops) (rid := rid) (i := i) o (σ := ⟨view fl sl lo, ⟨aA ob, nb⟩⟩) hF) h1
   refine T.aF (fun y hy => ?_) _ h2
   obtain ⟨⟨g1, g2, g3⟩, sl', lo', ob', e, hh⟩ := hy
   rw [e]
   have eh : y.2 = ⟨aA ob', y.2.nob⟩ := congrArg CS.h e
   have hT' : eP E.top y.2.nob := by
     have g3 : y.2.nob <= max E.top nb := g3
     have := hT.1
     exact ⟨by omega, hT.2⟩
   exact rZ hE hX hok hN l (i + 1) sl' lo' ob' y.2.nob (fun o ho => hd o (by simp [ho])) hT' (fun i hi => by
     have := g1 i hi
     rw [eh] at this
     exact this) hh
end
end
end Rx
