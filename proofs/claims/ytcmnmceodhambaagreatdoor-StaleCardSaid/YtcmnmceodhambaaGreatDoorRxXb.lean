/- Rx, part Xb: slim eliminators for the kernel: all arms are closed, so nothing is copied. Printed by gen/slim.py. -/
import Derived.Test.YtcmnmceodhambaaGreatDoorRxX2
set_option linter.unusedSectionVars false
set_option linter.unusedSimpArgs false
set_option linter.unusedVariables false
namespace Rx
open Go
variable [Glob]
noncomputable section
def aS (a b : Bool) : Bool := @Bool.rec (fun _ => Bool) false b a
theorem gL (a b : Bool) : aS a b = (a && b) := by cases a <;> rfl
def failK : OpK := fun _ _ _ _ _ _ _ => .fail
def nKS (s : SV) : SV := @SV.rec (fun _ => SV) (fun _ => PUnit) (.junk) (fun d => nK (.dt d)) (fun x0 _ => .agg x0) (fun x0 _ => .tup x0) (fun x0 x1 => .ptr x0 x1) (fun x0 x1 => .el x0 x1) (fun x0 x1 _ => .fn x0 x1) (fun x0 => .kb x0) (fun x0 x1 => .ki x0 x1) (fun x0 => .nm x0) (fun x0 x1 x2 x3 => .rp x0 x1 x2 x3) (fun x0 x1 x2 x3 => .ri x0 x1 x2 x3) (fun x0 x1 x2 x3 x4 => .sl x0 x1 x2 x3 x4) (fun x0 => .sy x0) PUnit.unit (fun _ _ _ _ => PUnit.unit) s
theorem uJ (s : SV) : nKS s = nK s := by cases s <;> rfl
def VF (s : SV) : Bool := @SV.rec (fun _ => Bool) (fun _ => PUnit) (false) (fun d => d9 (.dt d)) (fun _ _ => false) (fun _ _ => false) (fun _ _ => true) (fun _ _ => true) (fun _ _ _ => true) (fun _ => true) (fun _ _ => true) (fun _ => true) (fun _ _ _ _ => true) (fun _ _ _ _ => true) (fun _ _ _ _ _ => true) (fun _ => true) PUnit.unit (fun _ _ _ _ => PUnit.unit) s
theorem RZ (s : SV) : VF s = d9 s := by cases s <;> rfl
def XO (s : SV) : OpK := @SV.rec (fun _ => OpK) (fun _ => PUnit) (aF) (fun _ => aF) (fun _ _ => aF) (fun _ _ => aF) (fun i f P X o ev ob nb k => k (.ptr i f) ob nb) (fun _ _ => aF) (fun _ _ _ => aF) (fun _ => aF) (fun _ _ => aF) (fun _ => aF) (fun i y z f P X o ev ob nb k => k (.rp i y z f) ob nb) (fun _ _ _ _ => aF) (fun _ _ _ _ _ => aF) (fun _ => aF) PUnit.unit (fun _ _ _ _ => PUnit.unit) s
def Nu (x : Operand) : OpK := fun P X o ev ob nb k => XO (ev x) P X o ev ob nb k
theorem Ov (x : Operand) : Nu x = Ow x := by
 funext P X o ev ob nb k
 unfold Nu Ow
 generalize ev x = s
 cases s <;> rfl
def Vw (s : SV) : Operand -> Operand -> OpK := @SV.rec (fun _ => Operand -> Operand -> OpK) (fun _ => PUnit) (fun _ _ => aF) (fun _ => fun _ _ => aF) (fun _ _ => fun _ _ => aF) (fun _ _ => fun _ _ => aF) (fun _ _ => fun _ _ => aF) (fun _ _ => fun _ _ => aF) (fun _ _ _ => fun _ _ => aF) (fun q a b P X o ev ob nb k => BR q (k (ev a) ob nb) (k (ev b) ob nb)) (fun _ _ => fun _ _ => aF) (fun _ => fun _ _ => aF) (fun _ _ _ _ => fun _ _ => aF) (fun _ _ _ _ => fun _ _ => aF) (fun _ _ _ _ _ => fun _ _ => aF) (fun _ => fun _ _ => aF) PUnit.unit (fun _ _ _ _ => PUnit.unit) s
def Ji (c a b : Operand) : OpK := fun P X o ev ob nb k => Vw (ev c) a b P X o ev ob nb k
theorem MJ (c a b : Operand) : Ji c a b = GI c a b := by
 funext P X o ev ob nb k
 unfold Ji GI
 generalize ev c = s
 cases s <;> rfl
def Vh (b : Ob) : TypeId -> Nat -> OpK := @Ob.rec (fun _ => TypeId -> Nat -> OpK) (fun _ cs t off P X o ev ob nb k => oB (ldK P t) .fail (aF P X o ev ob nb k) (FI cs off .fail fun s => k (nKS s) ob nb)) (fun _ _ _ _ => fun _ _ => failK) (fun _ => fun _ _ => failK) (fun _ _ _ => fun _ _ => failK) (fun _ _ _ => fun _ _ => failK) (fun _ _ _ _ _ => fun _ _ => failK) (fun _ _ _ => fun _ _ => failK) b
def NC (x : Option Ob) : TypeId -> Nat -> OpK := @Option.rec Ob (fun _ => TypeId -> Nat -> OpK) (fun _ _ => failK) Vh x
def Sz (b : Ob) : TypeId -> Nat -> Nat -> Nat -> OpK := @Ob.rec (fun _ => TypeId -> Nat -> Nat -> Nat -> OpK) (fun _ _ => fun _ _ _ _ => aF) (fun _ _ _ _ => fun _ _ _ _ => aF) (fun _ => fun _ _ _ _ => aF) (fun _ _ _ => fun _ _ _ _ => aF) (fun _ _ _ => fun _ _ _ _ => aF) (fun _ sz' len tr _ t idx sz off P X o ev ob nb k => oB (ldK P t) .fail (szK P t fun n => BR (aS (Nat.beq sz sz') (aS (Nat.ble (Nat.add off n) sz) (Nat.blt idx len))) (k (.agg (mG tr n (Nat.add (Nat.mul idx sz) off))) ob nb) .fail) (BR (aS (Nat.beq sz sz') (aS (Nat.blt off sz) (Nat.blt idx len))) (k (nKS (iA tr (Nat.add (Nat.mul idx sz) off))) ob nb) .fail)) (fun _ _ _ => fun _ _ _ _ => aF) b
def U4 (x : Option Ob) : TypeId -> Nat -> Nat -> Nat -> OpK := @Option.rec Ob (fun _ => TypeId -> Nat -> Nat -> Nat -> OpK) (fun _ _ _ _ => aF) Sz x
def Vv (s : SV) : TypeId -> OpK := @SV.rec (fun _ => TypeId -> OpK) (fun _ => PUnit) (fun _ => aF) (fun _ => fun _ => aF) (fun _ _ => fun _ => aF) (fun _ _ => fun _ => aF) (fun i off t P X o ev ob nb k => NC (aD ob i) t off P X o ev ob nb k) (fun _ _ => fun _ => aF) (fun _ _ _ => fun _ => aF) (fun _ => fun _ => aF) (fun _ _ => fun _ => aF) (fun _ => fun _ => aF) (fun i idx sz off t P X o ev ob nb k => U4 (aD ob i) t idx sz off P X o ev ob nb k) (fun _ _ _ _ => fun _ => aF) (fun _ _ _ _ _ => fun _ => aF) (fun _ => fun _ => aF) PUnit.unit (fun _ _ _ _ => PUnit.unit) s
def JM (t : TypeId) (x : Operand) : OpK := fun P X o ev ob nb k => Vv (ev x) t P X o ev ob nb k
theorem LY (t : TypeId) (x : Operand) : JM t x = Bv t x := by
 funext P X o ev ob nb k
 unfold JM Bv
 generalize ev x = s
 cases s with
 | ptr i off =>
   show NC (aD ob i) t off P X o ev ob nb k = _
   simp only
   generalize aD ob i = y
   cases y with
   | none => rfl
   | some b => cases b <;> first | rfl | (simp only [NC, Vh, uJ])
 | rp i idx sz off =>
   show U4 (aD ob i) t idx sz off P X o ev ob nb k = _
   simp only
   generalize aD ob i = y
   cases y with
   | none => rfl
   | some b => cases b <;> first | rfl | (simp only [U4, Sz, uJ, gL, Nat.add_eq])
 | _ => rfl
def Vj (b : Ob) : TypeId -> Nat -> Nat -> SV -> OpK := @Ob.rec (fun _ => TypeId -> Nat -> Nat -> SV -> OpK) (fun t' cs t i off xv P X o ev ob nb k => BR (K9 P t) (BR (VF xv) (BR (aS (Nat.ble X.base i) (Nat.ble (Nat.succ off) cs.length)) (k .junk (lS ob i (some (.cells t' (Q8 cs off xv)))) nb) .fail) (aF P X o ev ob nb k)) (aF P X o ev ob nb k)) (fun _ _ _ _ => fun _ _ _ _ => failK) (fun _ => fun _ _ _ _ => failK) (fun _ _ _ => fun _ _ _ _ => failK) (fun _ _ _ => fun _ _ _ _ => failK) (fun _ _ _ _ _ => fun _ _ _ _ => failK) (fun _ _ _ => fun _ _ _ _ => failK) b
def Oz (x : Option Ob) : TypeId -> Nat -> Nat -> SV -> OpK := @Option.rec Ob (fun _ => TypeId -> Nat -> Nat -> SV -> OpK) (fun _ _ _ _ => failK) Vj x
def UY (s : SV) : TypeId -> Operand -> OpK := @SV.rec (fun _ => TypeId -> Operand -> OpK) (fun _ => PUnit) (fun _ _ => aF) (fun _ => fun _ _ => aF) (fun _ _ => fun _ _ => aF) (fun _ _ => fun _ _ => aF) (fun i off t x P X o ev ob nb k => Oz (aD ob i) t i off (ev x) P X o ev ob nb k) (fun _ _ => fun _ _ => aF) (fun _ _ _ => fun _ _ => aF) (fun _ => fun _ _ => aF) (fun _ _ => fun _ _ => aF) (fun _ => fun _ _ => aF) (fun _ _ _ _ => fun _ _ => aF) (fun _ _ _ _ => fun _ _ => aF) (fun _ _ _ _ _ => fun _ _ => aF) (fun _ => fun _ _ => aF) PUnit.unit (fun _ _ _ _ => PUnit.unit) s
def EL (t : TypeId) (p x : Operand) : OpK := fun P X o ev ob nb k => UY (ev p) t x P X o ev ob nb k
theorem IK (t : TypeId) (p x : Operand) : EL t p x = uR t p x := by
 funext P X o ev ob nb k
 unfold EL uR
 generalize ev p = s
 cases s with
 | ptr i off =>
   show Oz (aD ob i) t i off (ev x) P X o ev ob nb k = _
   simp only
   generalize aD ob i = y
   cases y with
   | none => rfl
   | some b => cases b <;> first | rfl | (simp only [Oz, Vj, RZ, gL, Nat.succ_eq_add_one])
 | _ => rfl
def faE (s : SV) : TypeId -> Nat -> OpK := @SV.rec (fun _ => TypeId -> Nat -> OpK) (fun _ => PUnit) (fun _ _ => aF) (fun _ => fun _ _ => aF) (fun _ _ => fun _ _ => aF) (fun _ _ => fun _ _ => aF) (fun i off s f P X o ev ob nb k => oN (faK P s f) .fail fun d => fN (Nat.add off d) fun a => k (.ptr i a) ob nb) (fun _ _ => fun _ _ => aF) (fun _ _ _ => fun _ _ => aF) (fun _ => fun _ _ => aF) (fun _ _ => fun _ _ => aF) (fun _ => fun _ _ => aF) (fun i idx sz off s f P X o ev ob nb k => oN (faK P s f) .fail fun d => fN (Nat.add off d) fun a => k (.rp i idx sz a) ob nb) (fun _ _ _ _ => fun _ _ => aF) (fun _ _ _ _ _ => fun _ _ => aF) (fun _ => fun _ _ => aF) PUnit.unit (fun _ _ _ _ => PUnit.unit) s
def pY (s : TypeId) (x : Operand) (f : Nat) : OpK := fun P X o ev ob nb k => faE (ev x) s f P X o ev ob nb k
theorem zR (s : TypeId) (x : Operand) (f : Nat) : pY s x f = jZ s x f := by
 funext P X o ev ob nb k
 unfold pY jZ
 generalize ev x = s
 cases s <;> rfl
def Ub (op : BinOp) : IntKind -> Int -> Int -> R -> (SV -> R) -> R := @BinOp.rec (fun _ => IntKind -> Int -> Int -> R -> (SV -> R) -> R) (fun k x y _ c => Mf k (Int.add x y) c) (fun k x y _ c => Mf k (Int.sub x y) c) (fun _ _ _ g _ => g) (fun _ _ _ g _ => g) (fun _ _ _ g _ => g) (fun _ _ _ g _ => g) (fun _ _ _ g _ => g) (fun _ _ _ g _ => g) (fun _ _ _ g _ => g) (fun _ _ _ g _ => g) (fun _ _ _ g _ => g) (fun _ x y _ c => c (.kb (eqI x y))) (fun _ x y _ c => c (.kb (nB (eqI x y)))) (fun _ x y _ c => c (.kb (Ay x y))) (fun _ x y _ c => c (.kb (nB (Ay y x)))) (fun _ x y _ c => c (.kb (Ay y x))) (fun _ x y _ c => c (.kb (nB (Ay x y)))) op
theorem QX (op : BinOp) (k : IntKind) (x y : Int) (g : R) (c : SV -> R) : Ub op k x y g c = J3 op k x y g c := by cases op <;> rfl
def Wq (s : SV) : IntKind -> Int -> BinOp -> OpK := @SV.rec (fun _ => IntKind -> Int -> BinOp -> OpK) (fun _ => PUnit) (fun _ _ _ => aF) (fun _ => fun _ _ _ => aF) (fun _ _ => fun _ _ _ => aF) (fun _ _ => fun _ _ _ => aF) (fun _ _ => fun _ _ _ => aF) (fun _ _ => fun _ _ _ => aF) (fun _ _ _ => fun _ _ _ => aF) (fun _ => fun _ _ _ => aF) (fun kk' b kk a op P X o ev ob nb k => BR (fE kk kk') (Ub op kk a b (aF P X o ev ob nb k) fun s => k s ob nb) .fail) (fun _ => fun _ _ _ => aF) (fun _ _ _ _ => fun _ _ _ => aF) (fun _ _ _ _ => fun _ _ _ => aF) (fun _ _ _ _ _ => fun _ _ _ => aF) (fun _ => fun _ _ _ => aF) PUnit.unit (fun _ _ _ _ => PUnit.unit) s
def Xy (s : SV) : BinOp -> Operand -> OpK := @SV.rec (fun _ => BinOp -> Operand -> OpK) (fun _ => PUnit) (fun _ _ => aF) (fun _ => fun _ _ => aF) (fun _ _ => fun _ _ => aF) (fun _ _ => fun _ _ => aF) (fun _ _ => fun _ _ => aF) (fun _ _ => fun _ _ => aF) (fun _ _ _ => fun _ _ => aF) (fun _ => fun _ _ => aF) (fun kk a op y P X o ev ob nb k => Wq (ev y) kk a op P X o ev ob nb k) (fun _ => fun _ _ => aF) (fun _ _ _ _ => fun _ _ => aF) (fun _ _ _ _ => fun _ _ => aF) (fun _ _ _ _ _ => fun _ _ => aF) (fun _ => fun _ _ => aF) PUnit.unit (fun _ _ _ _ => PUnit.unit) s
def OX (op : BinOp) (x y : Operand) : OpK := fun P X o ev ob nb k => BR (Qy y) (aF P X o ev ob nb k) (Xy (ev x) op y P X o ev ob nb k)
theorem Py (op : BinOp) (x y : Operand) : OX op x y = Po op x y := by
 funext P X o ev ob nb k
 unfold OX Po
 congr 1
 generalize ev x = s
 cases s with
 | ki kk a =>
   show Wq (ev y) kk a op P X o ev ob nb k = _
   generalize ev y = r
   cases r with
   | ki kk' b => show BR _ (Ub _ _ _ _ _ _) _ = _; rw [QX]
   | _ => rfl
 | _ => rfl
def fnX (s : SV) : List Operand -> OpK := @SV.rec (fun _ => List Operand -> OpK) (fun _ => PUnit) (fun _ => failK) (fun _ => fun _ => failK) (fun _ _ => fun _ => failK) (fun _ _ => fun _ => failK) (fun _ _ => fun _ => failK) (fun _ _ => fun _ => failK) (fun fk caps _ args P X o ev ob nb k => X.I X.top X.base fk (Lr args ev caps) ob nb k) (fun _ => fun _ => failK) (fun _ _ => fun _ => failK) (fun _ => fun _ => failK) (fun _ _ _ _ => fun _ => failK) (fun _ _ _ _ => fun _ => failK) (fun _ _ _ _ _ => fun _ => failK) (fun _ => fun _ => failK) PUnit.unit (fun _ _ _ _ => PUnit.unit) s
def Tq (f : Operand) (args : List Operand) : OpK := fun P X o ev ob nb k => fnX (ev f) args P X o ev ob nb k
theorem RN (f : Operand) (args : List Operand) : Tq f args = kFn f args := by
 funext P X o ev ob nb k
 unfold Tq kFn
 generalize ev f = s
 cases s <;> rfl
def V5 (s : SV) : Nat -> Nat -> Nat -> Nat -> TypeId -> OpK := @SV.rec (fun _ => Nat -> Nat -> Nat -> Nat -> TypeId -> OpK) (fun _ => PUnit) (fun _ _ _ _ _ => aF) (fun _ => fun _ _ _ _ _ => aF) (fun _ _ => fun _ _ _ _ _ => aF) (fun _ _ => fun _ _ _ _ _ => aF) (fun _ _ => fun _ _ _ _ _ => aF) (fun _ _ => fun _ _ _ _ _ => aF) (fun _ _ _ => fun _ _ _ _ _ => aF) (fun _ => fun _ _ _ _ _ => aF) (fun _ iv q z o' n t P X o ev ob nb k => oN (iaK P t) .fail fun z' => BR (Nat.beq z' z) (ltI iv n fun m => fN (Nat.add o' m) fun a => k (.rp q a z 0) ob nb) .fail) (fun _ => fun _ _ _ _ _ => aF) (fun _ _ _ _ => fun _ _ _ _ _ => aF) (fun _ _ _ _ => fun _ _ _ _ _ => aF) (fun _ _ _ _ _ => fun _ _ _ _ _ => aF) (fun _ => fun _ _ _ _ _ => aF) PUnit.unit (fun _ _ _ _ => PUnit.unit) s
def Xh (s : SV) : TypeId -> Operand -> OpK := @SV.rec (fun _ => TypeId -> Operand -> OpK) (fun _ => PUnit) (fun _ _ => aF) (fun _ => fun _ _ => aF) (fun _ _ => fun _ _ => aF) (fun _ _ => fun _ _ => aF) (fun _ _ => fun _ _ => aF) (fun _ _ => fun _ _ => aF) (fun _ _ _ => fun _ _ => aF) (fun _ => fun _ _ => aF) (fun _ _ => fun _ _ => aF) (fun _ => fun _ _ => aF) (fun _ _ _ _ => fun _ _ => aF) (fun _ _ _ _ => fun _ _ => aF) (fun q z o' n _ t i P X o ev ob nb k => V5 (ev i) q z o' n t P X o ev ob nb k) (fun _ => fun _ _ => aF) PUnit.unit (fun _ _ _ _ => PUnit.unit) s
def M0 (t : TypeId) (x i : Operand) : OpK := fun P X o ev ob nb k => Xh (ev x) t i P X o ev ob nb k
theorem Pb (t : TypeId) (x i : Operand) : M0 t x i = Hu t x i := by
 funext P X o ev ob nb k
 unfold M0 Hu
 generalize ev x = s
 cases s with
 | sl q z o' n c =>
   show V5 (ev i) q z o' n t P X o ev ob nb k = _
   generalize ev i = r
   cases r <;> rfl
 | _ => rfl
def Yb (s : SV) : TypeId -> OpK := @SV.rec (fun _ => TypeId -> OpK) (fun _ => PUnit) (fun _ => aF) (fun _ => fun _ => aF) (fun _ _ => fun _ => aF) (fun _ _ => fun _ => aF) (fun _ _ => fun _ => aF) (fun _ _ => fun _ => aF) (fun _ _ _ => fun _ => aF) (fun _ => fun _ => aF) (fun _ _ => fun _ => aF) (fun _ => fun _ => aF) (fun _ _ _ _ => fun _ => aF) (fun _ _ _ _ => fun _ => aF) (fun _ _ _ n _ t P X o ev ob nb k => BR (RY P t) (k (.ki .i64 (.ofNat n)) ob nb) .fail) (fun _ => fun _ => aF) PUnit.unit (fun _ _ _ _ => PUnit.unit) s
def Oe (t : TypeId) (x : Operand) : OpK := fun P X o ev ob nb k => Yb (ev x) t P X o ev ob nb k
theorem Px (t : TypeId) (x : Operand) : Oe t x = Qu t x := by
 funext P X o ev ob nb k
 unfold Oe Qu
 generalize ev x = s
 cases s <;> rfl
def exE (s : SV) : Nat -> OpK := @SV.rec (fun _ => Nat -> OpK) (fun _ => PUnit) (fun _ => aF) (fun _ => fun _ => aF) (fun _ _ => fun _ => aF) (fun l _ i P X o ev ob nb k => FI l i .fail fun s => k (nKS s) ob nb) (fun _ _ => fun _ => aF) (fun _ _ => fun _ => aF) (fun _ _ _ => fun _ => aF) (fun _ => fun _ => aF) (fun _ _ => fun _ => aF) (fun _ => fun _ => aF) (fun _ _ _ _ => fun _ => aF) (fun _ _ _ _ => fun _ => aF) (fun _ _ _ _ _ => fun _ => aF) (fun _ => fun _ => aF) PUnit.unit (fun _ _ _ _ => PUnit.unit) s
def Ua (x : Operand) (i : Nat) : OpK := fun P X o ev ob nb k => exE (ev x) i P X o ev ob nb k
theorem Qz (x : Operand) (i : Nat) : Ua x i = ow x i := by
 funext P X o ev ob nb k
 unfold Ua ow
 generalize ev x = s
 cases s <;> first | rfl | (simp only [exE, uJ])
def unE (s : SV) : OpK := @SV.rec (fun _ => OpK) (fun _ => PUnit) (aF) (fun _ => aF) (fun _ _ => aF) (fun _ _ => aF) (fun _ _ => aF) (fun _ _ => aF) (fun _ _ _ => aF) (fun b P X o ev ob nb k => k (.kb (nB b)) ob nb) (fun _ _ => aF) (fun _ => aF) (fun _ _ _ _ => aF) (fun _ _ _ _ => aF) (fun _ _ _ _ _ => aF) (fun _ => aF) PUnit.unit (fun _ _ _ _ => PUnit.unit) s
def VD (x : Operand) : OpK := fun P X o ev ob nb k => unE (ev x) P X o ev ob nb k
structure OBox where
 f : OpK
def unB (op : UnOp) (x : Operand) : OBox := match op with
 | .not => ⟨VD x⟩
 | _ => ⟨aF⟩
theorem Tv (op : UnOp) (x : Operand) : (unB op x).f = kUn op x := by
 funext P X o ev ob nb k
 cases op
 case not =>
  show unE (ev x) P X o ev ob nb k = kUn .not x P X o ev ob nb k
  unfold kUn
  generalize ev x = s
  cases s <;> rfl
 all_goals
  show aF P X o ev ob nb k = kUn _ x P X o ev ob nb k
  unfold kUn
  generalize ev x = s
  cases s <;> rfl
def Ti (b : Builtin) (as : List Operand) (ts : List TypeId) : OBox := match b, as, ts with
 | .len, [x], [t] => ⟨Oe t x⟩
 | _, _, _ => ⟨aF⟩
theorem Qr (c : Call) (b : Builtin) : (Ti b c.args.toList c.argTypes.toList).f = qb c b := by
 unfold Ti qb
 split
 · rename_i x t _ _
   rw [Px]
   funext P X o ev ob nb k
   simp_all
 · rename_i h
   funext P X o ev ob nb k
   split
   · rename_i h1 h2 h3
     exact (h _ _ rfl h2 h3).elim
   · rfl
def OY (c : Call) : OBox := match c.callee with
 | .value f => ⟨Tq f c.args.toList⟩
 | .builtin b => Ti b c.args.toList c.argTypes.toList
 | _ => ⟨aF⟩
theorem Ns (c : Call) : (OY c).f = G9 c := by
 unfold OY G9
 cases c.callee <;> first | exact RN _ _ | exact Qr c _ | rfl
def opB (o : Oper) : OBox := match o.op with
 | .move x => ⟨CZ x⟩
 | .assign x => ⟨CZ x⟩
 | .pick c a b => ⟨Ji c a b⟩
 | .alloc t => ⟨Ir t⟩
 | .box t x => ⟨Ud t x⟩
 | .build t ps => ⟨Iz t ps⟩
 | .load t x => ⟨JM t x⟩
 | .store t p x => ⟨EL t p x⟩
 | .nilCheck x => ⟨Nu x⟩
 | .binOp op t x y _ => ⟨OX op x y⟩
 | .unOp op _ x => unB op x
 | .fieldAddr s x f => ⟨pY s x f⟩
 | .field t x f => ⟨Jr t x f⟩
 | .indexAddr t x i => ⟨M0 t x i⟩
 | .index t x i => ⟨Jw t x i⟩
 | .lookup t x i ok => ⟨Fz t x i ok⟩
 | .extract x i => ⟨Ua x i⟩
 | .call c => OY c
 | .range t x => ⟨IL t x⟩
 | .entry x => ⟨IU x⟩
 | .next _ _ => ⟨failK⟩
 | _ => ⟨aF⟩
def opS (o : Oper) : OpK := (opB o).f
theorem UJ (o : Oper) : opS o = opG o := by
 unfold opS opB opG
 cases o.op <;> first | rfl | exact MJ _ _ _ | exact LY _ _ | exact IK _ _ _ | exact Ov _ | exact Py _ _ _ | exact Tv _ _ | exact zR _ _ _ | exact Pb _ _ _ | exact Qz _ _ | exact Ns _
def brE (s : SV) : R -> R -> R -> R := @SV.rec (fun _ => R -> R -> R -> R) (fun _ => PUnit) (fun _ _ c => c) (fun _ => fun _ _ c => c) (fun _ _ => fun _ _ c => c) (fun _ _ => fun _ _ c => c) (fun _ _ => fun _ _ c => c) (fun _ _ => fun _ _ c => c) (fun _ _ _ => fun _ _ c => c) (fun q a b _ => BR q a b) (fun _ _ => fun _ _ c => c) (fun _ => fun _ _ c => c) (fun _ _ _ _ => fun _ _ c => c) (fun _ _ _ _ => fun _ _ c => c) (fun _ _ _ _ _ => fun _ _ c => c) (fun _ => fun _ _ c => c) PUnit.unit (fun _ _ _ _ => PUnit.unit) s
theorem TH (s : SV) (a b c : R) : brE s a b c = match s with
 | .kb q => BR q a b
 | _ => c := by cases s <;> rfl
end
end Rx
set_option linter.unusedSectionVars false
set_option linter.unusedSimpArgs false
set_option linter.unusedVariables false
namespace Rx
open Go
variable [Glob]
noncomputable section
abbrev KS := Tr SV -> OB -> Nat -> R
def evG (fl : Nat) (sl : Tr SV) (lo : Lo) : Ev := @Operand.rec (fun _ => SV) (fun t => view fl sl lo t) (fun v => nK (ofConst v)) (fun g => QC g) (fun f => .fn f [])
theorem Ij (fl : Nat) (sl : Tr SV) (lo : Lo) : evG fl sl lo = evC (view fl sl lo) := by
 funext x
 cases x <;> rfl
abbrev IH := Tr SV -> Lo -> OB -> Nat -> KS -> R
def Ed (fl : Nat) (d : Option Tmp) (ih : IH) (sl : Tr SV) (lo : Lo) (s : SV) (ob : OB) (nb : Nat) (k : KS) : R :=
 @Option.rec Tmp (fun _ => R) (ih sl lo ob nb k) (fun d => LA s fun s => BR (gF fl d) (ih (pJ sl d s) lo ob nb k) (ih sl (.cons d s lo) ob nb k)) d
def goG (P : Program) (X : EX) (fl : Nat) (o : Oper) (ih : IH) : IH := fun sl lo ob nb k =>
 opS o P X o (evG fl sl lo) ob nb fun s ob nb => Ed fl o.dst ih sl lo s ob nb k
def skG (fl : Nat) (o : Oper) (ih : IH) : IH := fun sl lo ob nb k => Ed fl o.dst ih sl lo dV ob nb k
def gdR (P : Program) (X : EX) (fl : Nat) (o : Oper) (ih : IH) (s : SV) : IH := fun sl lo ob nb k =>
    match s with
     | .dt (.cell (.tuple _)) => skG fl o ih sl lo ob nb k
     | _ => .fail
def gdT (P : Program) (X : EX) (fl : Nat) (o : Oper) (ih : IH) (w : Bool) (t : Tmp) : IH := fun sl lo ob nb k =>
    brE (view fl sl lo t) (BR w (goG P X fl o ih sl lo ob nb k) (skG fl o ih sl lo ob nb k)) (BR w (skG fl o ih sl lo ob nb k) (goG P X fl o ih sl lo ob nb k)) (gdR P X fl o ih (view fl sl lo t) sl lo ob nb k)
def gdG (P : Program) (X : EX) (fl : Nat) (ops : Array Oper) (o : Oper) (ih : IH) (g : Nat × Bool) : IH :=
    @Option.rec Tmp (fun _ => IH) (fun _ _ _ _ _ => .fail) (gdT P X fl o ih g.2) ((ops[g.1]?).bind (·.dst))
theorem U2 (P : Program) (X : EX) (fl : Nat) (o : Oper) (ih : IH) (w : Bool) (t : Tmp) (sl : Tr SV) (lo : Lo) (ob : OB) (nb : Nat) (k : KS) : gdT P X fl o ih w t sl lo ob nb k = match view fl sl lo t with
     | .kb b => BR b (BR w (goG P X fl o ih sl lo ob nb k) (skG fl o ih sl lo ob nb k)) (BR w (skG fl o ih sl lo ob nb k) (goG P X fl o ih sl lo ob nb k))
     | .dt (.cell (.tuple _)) => skG fl o ih sl lo ob nb k
     | _ => .fail := by
 unfold gdT
 generalize view fl sl lo t = s
 cases s with
 | dt d => cases d with
   | cell v => cases v <;> rfl
   | _ => rfl
 | _ => rfl
theorem TY (P : Program) (X : EX) (fl : Nat) (ops : Array Oper) (o : Oper) (ih : IH) (g : Nat × Bool) (sl : Tr SV) (lo : Lo) (ob : OB) (nb : Nat) (k : KS) : gdG P X fl ops o ih g sl lo ob nb k = match (ops[g.1]?).bind (·.dst) with
   | none => .fail
   | some t => match view fl sl lo t with
     | .kb b => BR b (BR g.2 (goG P X fl o ih sl lo ob nb k) (skG fl o ih sl lo ob nb k)) (BR g.2 (skG fl o ih sl lo ob nb k) (goG P X fl o ih sl lo ob nb k))
     | .dt (.cell (.tuple _)) => skG fl o ih sl lo ob nb k
     | _ => .fail := by
 unfold gdG
 cases (ops[g.1]?).bind (·.dst) with
 | none => rfl
 | some t => exact U2 P X fl o ih g.2 t sl lo ob nb k
def stG (P : Program) (X : EX) (fl : Nat) (ops : Array Oper) (o : Oper) (ih : IH) : IH :=
    @Option.rec (Nat × Bool) (fun _ => IH) (goG P X fl o ih) (gdG P X fl ops o ih) o.guard
def OD (P : Program) (X : EX) (fl : Nat) (ops : Array Oper) (l : List Oper) : IH :=
 @List.rec Oper (fun _ => IH) (fun sl lo ob nb k => k sl ob nb) (fun o _ ih => stG P X fl ops o ih) l
def okD (N : Nat) (ops : Array Oper) : Bool := ops.toList.all fun o => fF N o.dst
theorem xW {fl : Nat} {sl : Tr SV} {lo : Lo} {d : Nat} {s : SV} (hd : d < 16777215) : (gF fl d = true -> view fl (pJ sl d s) lo = putT (some d) s (view fl sl lo)) /\ (gF fl d = false -> view fl sl (.cons d s lo) = putT (some d) s (view fl sl lo)) := by
 constructor
 · intro hb
   funext j
   show BS (gF fl j) (iA (pJ sl d s) j) (look lo j) = lg (some d) j s (BS (gF fl j) (iA sl j) (look lo j))
   rw [aW, tX j hd]
   by_cases e : j = d
   · subst e; rw [hb, if_pos rfl, if_pos rfl]; rfl
   · rw [if_neg e, if_neg e]
 · intro hb
   funext j
   show BS (gF fl j) (iA sl j) (BS (Nat.beq d j) s (look lo j)) = lg (some d) j s (BS (gF fl j) (iA sl j) (look lo j))
   rw [aW]
   by_cases e : j = d
   · subst e; rw [hb, if_pos rfl, Nat.beq_refl]; rfl
   · rw [if_neg e, dM (fun h => e h.symm)]; rfl
def KS1 (fl : Nat) (post : SV × HD -> Prop) (ih : IH) (k : KS) (σ : CS) : Prop :=
 ∃ sl lo ob, σ = ⟨view fl sl lo, ⟨aD ob, σ.h.nob⟩⟩ /\ (ih sl lo ob σ.h.nob k).holds post
section
variable {E : CEnv} {X : EX} {fl : Nat} {post : SV × HD -> Prop}
theorem FV {d : Option Tmp} {ih : IH} {sl : Tr SV} {lo : Lo} {s : SV} {ob : OB} {nb : Nat} {k : KS} (hd : fF E.N d = true) (hN : E.N <= 16777215) (h : (Ed fl d ih sl lo s ob nb k).holds post) :
  KS1 fl post ih k ⟨putT d s (view fl sl lo), ⟨aD ob, nb⟩⟩ := by
 cases d with
 | none => exact ⟨sl, lo, ob, rfl, h⟩
 | some d =>
   have hd : d < 16777215 := Nat.lt_of_lt_of_le (show d < E.N by simpa [fF, Nat.blt_eq] using hd) hN
   have h : (LA s fun s => BR (gF fl d) (ih (pJ sl d s) lo ob nb k) (ih sl (.cons d s lo) ob nb k)).holds post := h
   rw [Kh, dh] at h
   obtain ⟨h1, h2⟩ := xW (fl := fl) (sl := sl) (lo := lo) (s := s) hd
   cases hb : gF fl d with
   | true => rw [hb] at h; exact ⟨_, lo, ob, by rw [← h1 hb], h⟩
   | false => rw [hb] at h; exact ⟨sl, _, ob, by rw [← h2 hb], h⟩
theorem Fj {o : Oper} {ih : IH} {sl : Tr SV} {lo : Lo} {ob : OB} {nb : Nat} {k : KS} {rid i : Nat} (hX : XRef X E) (hd : fF E.N o.dst = true) (hN : E.N <= 16777215) (hT : eO E.top nb) (hF : FOk ob nb)
  (h : (goG E.P X fl o ih sl lo ob nb k).holds post) : (bI E rid i (evC (view fl sl lo)) ⟨aD ob, nb⟩ o).holds fun y => KS1 fl post ih k ⟨putT o.dst y.1 (view fl sl lo), y.2⟩ := by
 unfold goG at h
 rw [Ij, UJ] at h
 refine T.aI (fun y hy => ?_) _ (QW hX hT hF h)
 obtain ⟨ob', h1, h2⟩ := hy
 have := FV (E := E) hd hN h2
 have e : y.2 = ⟨aD ob', y.2.nob⟩ := by rw [← h1]
 rw [e]
 exact this
theorem DU {ops : Array Oper} {o : Oper} {ih : IH} {sl : Tr SV} {lo : Lo} {ob : OB} {nb : Nat} {k : KS} {rid i : Nat} (hX : XRef X E) (hok : okD E.N ops = true) (hd : fF E.N o.dst = true) (hN : E.N <= 16777215) (hT : eO E.top nb) (hF : FOk ob nb)
  (h : (stG E.P X fl ops o ih sl lo ob nb k).holds post) : (stC E ops rid i o ⟨view fl sl lo, ⟨aD ob, nb⟩⟩).holds fun y => KS1 fl post ih k ⟨putT o.dst y.1 (view fl sl lo), y.2⟩ := by
 unfold stC
 rw [hd, cond_true]
 unfold stG at h
 cases hg : o.guard with
 | none => rw [hg] at h; exact Fj hX hd hN hT hF h
 | some g =>
   obtain ⟨j, want⟩ := g
   rw [hg] at h
   have h : (gdG E.P X fl ops o ih (j, want) sl lo ob nb k).holds post := h
   rw [TY] at h
   simp only at h ⊢
   have sk : (skG fl o ih sl lo ob nb k).holds post -> (T.ret (dV, (⟨aD ob, nb⟩ : HS)) : T (SV × HS)).holds fun y => KS1 fl post ih k ⟨putT o.dst y.1 (view fl sl lo), y.2⟩ := fun h => FV (E := E) hd hN h
   split at h
   · exact h.elim
   · rename_i t ht
     simp only [ht]
     have hdt : fF E.N (some t) = true := by
        cases hj : ops[j]? with
        | none => rw [hj] at ht; cases ht
        | some oj =>
          rw [hj] at ht
          have hm : oj ∈ ops.toList := by simpa using Array.mem_of_getElem? hj
          have := List.all_eq_true.1 hok oj hm
          rw [show oj.dst = some t from ht] at this
          exact this
     rw [hdt, cond_true]
     split at h
     · rename_i b hb
       simp only [hb]
       rw [dh] at h
       cases b with
       | true =>
         rw [cond_true, dh] at h
         cases want with
         | true => exact Fj hX hd hN hT hF h
         | false => exact sk h
       | false =>
         rw [cond_false, dh] at h
         cases want with
         | true => exact sk h
         | false => exact Fj hX hd hN hT hF h
     · rename_i x hx
       simp only [hx]
       exact sk h
     · exact h.elim
theorem tC (hE : E.Ok) {ops : Array Oper} {k : KS} {rid : Nat} (hX : XRef X E) (hok : okD E.N ops = true) (hN : E.N <= 16777215) : ∀ (l : List Oper) (i : Nat) (sl : Tr SV) (lo : Lo) (ob : OB) (nb : Nat), (∀ o ∈ l, fF E.N o.dst = true) -> eO E.top nb -> FOk ob nb ->
  (OD E.P X fl ops l sl lo ob nb k).holds post -> (lC E ops rid i l ⟨view fl sl lo, ⟨aD ob, nb⟩⟩).holds (KS1 fl post (fun sl _ ob nb k => k sl ob nb) k)
 | [], i, sl, lo, ob, nb, _, _, _, h => ⟨sl, lo, ob, rfl, h⟩
 | o :: l, i, sl, lo, ob, nb, hd, hT, hF, h => by
   simp only [lC, T.aA]
   have h1 := DU (rid := rid) (i := i) hX hok (hd o (by simp)) hN hT hF (show (stG E.P X fl ops o (OD E.P X fl ops l) sl lo ob nb k).holds post from h)
   have h2 := T.bL (gW hE (ops := ops) (rid := rid) (i := i) o (σ := ⟨view fl sl lo, ⟨aD ob, nb⟩⟩) hF) h1
   refine T.aI (fun y hy => ?_) _ h2
   obtain ⟨⟨g1, g2, g3⟩, sl', lo', ob', e, hh⟩ := hy
   rw [e]
   have eh : y.2 = ⟨aD ob', y.2.nob⟩ := congrArg CS.h e
   have hT' : eO E.top y.2.nob := by
     have g3 : y.2.nob <= max E.top nb := g3
     have := hT.1
     exact ⟨by omega, hT.2⟩
   exact tC hE hX hok hN l (i + 1) sl' lo' ob' y.2.nob (fun o ho => hd o (by simp [ho])) hT' (fun i hi => by
     have := g1 i hi
     rw [eh] at this
     exact this) hh
end
end
end Rx
