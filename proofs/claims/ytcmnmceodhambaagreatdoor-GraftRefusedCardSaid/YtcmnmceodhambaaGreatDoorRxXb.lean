/- Rx, part Xb: slim eliminators for the kernel: all arms are closed, so nothing is copied. Printed by gen/slim.py. -/
import Derived.Test.YtcmnmceodhambaaGreatDoorRxX2
set_option linter.unusedSectionVars false
set_option linter.unusedSimpArgs false
set_option linter.unusedVariables false
namespace Rx
open Go
variable [Glob]
noncomputable section
def aR (a b : Bool) : Bool := @Bool.rec (fun _ => Bool) false b a
theorem iB (a b : Bool) : aR a b = (a && b) := by cases a <;> rfl
def failK : OpK := fun _ _ _ _ _ _ _ => .fail
def nKS (s : SV) : SV := @SV.rec (fun _ => SV) (fun _ => PUnit) (.junk) (fun d => nK (.dt d)) (fun x0 _ => .agg x0) (fun x0 _ => .tup x0) (fun x0 x1 => .ptr x0 x1) (fun x0 x1 => .el x0 x1) (fun x0 x1 _ => .fn x0 x1) (fun x0 => .kb x0) (fun x0 x1 => .ki x0 x1) (fun x0 => .nm x0) (fun x0 x1 x2 x3 => .rp x0 x1 x2 x3) (fun x0 x1 x2 x3 => .ri x0 x1 x2 x3) (fun x0 x1 x2 x3 x4 => .sl x0 x1 x2 x3 x4) (fun x0 => .sy x0) PUnit.unit (fun _ _ _ _ => PUnit.unit) s
theorem xK (s : SV) : nKS s = nK s := by cases s <;> rfl
def XM (s : SV) : Bool := @SV.rec (fun _ => Bool) (fun _ => PUnit) (false) (fun d => eH (.dt d)) (fun _ _ => false) (fun _ _ => false) (fun _ _ => true) (fun _ _ => true) (fun _ _ _ => true) (fun _ => true) (fun _ _ => true) (fun _ => true) (fun _ _ _ _ => true) (fun _ _ _ _ => true) (fun _ _ _ _ _ => true) (fun _ => true) PUnit.unit (fun _ _ _ _ => PUnit.unit) s
theorem Tx (s : SV) : XM s = eH s := by cases s <;> rfl
def YN (s : SV) : OpK := @SV.rec (fun _ => OpK) (fun _ => PUnit) (aB) (fun _ => aB) (fun _ _ => aB) (fun _ _ => aB) (fun i f P X o ev ob nb k => k (.ptr i f) ob nb) (fun _ _ => aB) (fun _ _ _ => aB) (fun _ => aB) (fun _ _ => aB) (fun _ => aB) (fun i y z f P X o ev ob nb k => k (.rp i y z f) ob nb) (fun _ _ _ _ => aB) (fun _ _ _ _ _ => aB) (fun _ => aB) PUnit.unit (fun _ _ _ _ => PUnit.unit) s
def PN (x : Operand) : OpK := fun P X o ev ob nb k => YN (ev x) P X o ev ob nb k
theorem P8 (x : Operand) : PN x = Rq x := by
 funext P X o ev ob nb k
 unfold PN Rq
 generalize ev x = s
 cases s <;> rfl
def XR (s : SV) : Operand -> Operand -> OpK := @SV.rec (fun _ => Operand -> Operand -> OpK) (fun _ => PUnit) (fun _ _ => aB) (fun _ => fun _ _ => aB) (fun _ _ => fun _ _ => aB) (fun _ _ => fun _ _ => aB) (fun _ _ => fun _ _ => aB) (fun _ _ => fun _ _ => aB) (fun _ _ _ => fun _ _ => aB) (fun q a b P X o ev ob nb k => BR q (k (ev a) ob nb) (k (ev b) ob nb)) (fun _ _ => fun _ _ => aB) (fun _ => fun _ _ => aB) (fun _ _ _ _ => fun _ _ => aB) (fun _ _ _ _ => fun _ _ => aB) (fun _ _ _ _ _ => fun _ _ => aB) (fun _ => fun _ _ => aB) PUnit.unit (fun _ _ _ _ => PUnit.unit) s
def Ld (c a b : Operand) : OpK := fun P X o ev ob nb k => XR (ev c) a b P X o ev ob nb k
theorem Oz (c a b : Operand) : Ld c a b = Ij c a b := by
 funext P X o ev ob nb k
 unfold Ld Ij
 generalize ev c = s
 cases s <;> rfl
def Yf (b : Ob) : TypeId -> Nat -> OpK := @Ob.rec (fun _ => TypeId -> Nat -> OpK) (fun _ cs t off P X o ev ob nb k => oB (ldK P t) .fail (aB P X o ev ob nb k) (JB cs off .fail fun s => k (nKS s) ob nb)) (fun _ _ _ _ => fun _ _ => failK) (fun _ => fun _ _ => failK) (fun _ _ _ => fun _ _ => failK) (fun _ _ _ => fun _ _ => failK) (fun _ _ _ _ _ => fun _ _ => failK) (fun _ _ _ => fun _ _ => failK) b
def Rm (x : Option Ob) : TypeId -> Nat -> OpK := @Option.rec Ob (fun _ => TypeId -> Nat -> OpK) (fun _ _ => failK) Yf x
def U7 (b : Ob) : TypeId -> Nat -> Nat -> Nat -> OpK := @Ob.rec (fun _ => TypeId -> Nat -> Nat -> Nat -> OpK) (fun _ _ => fun _ _ _ _ => aB) (fun _ _ _ _ => fun _ _ _ _ => aB) (fun _ => fun _ _ _ _ => aB) (fun _ _ _ => fun _ _ _ _ => aB) (fun _ _ _ => fun _ _ _ _ => aB) (fun _ sz' len tr _ t idx sz off P X o ev ob nb k => oB (ldK P t) .fail (szK P t fun n => BR (aR (Nat.beq sz sz') (aR (Nat.ble (Nat.add off n) sz) (Nat.blt idx len))) (k (.agg (oP tr n (Nat.add (Nat.mul idx sz) off))) ob nb) .fail) (BR (aR (Nat.beq sz sz') (aR (Nat.blt off sz) (Nat.blt idx len))) (k (nKS (gU tr (Nat.add (Nat.mul idx sz) off))) ob nb) .fail)) (fun _ _ _ => fun _ _ _ _ => aB) b
def VD (x : Option Ob) : TypeId -> Nat -> Nat -> Nat -> OpK := @Option.rec Ob (fun _ => TypeId -> Nat -> Nat -> Nat -> OpK) (fun _ _ _ _ => aB) U7 x
def Xi (s : SV) : TypeId -> OpK := @SV.rec (fun _ => TypeId -> OpK) (fun _ => PUnit) (fun _ => aB) (fun _ => fun _ => aB) (fun _ _ => fun _ => aB) (fun _ _ => fun _ => aB) (fun i off t P X o ev ob nb k => Rm (aA ob i) t off P X o ev ob nb k) (fun _ _ => fun _ => aB) (fun _ _ _ => fun _ => aB) (fun _ => fun _ => aB) (fun _ _ => fun _ => aB) (fun _ => fun _ => aB) (fun i idx sz off t P X o ev ob nb k => VD (aA ob i) t idx sz off P X o ev ob nb k) (fun _ _ _ _ => fun _ => aB) (fun _ _ _ _ _ => fun _ => aB) (fun _ => fun _ => aB) PUnit.unit (fun _ _ _ _ => PUnit.unit) s
def KO (t : TypeId) (x : Operand) : OpK := fun P X o ev ob nb k => Xi (ev x) t P X o ev ob nb k
theorem NZ (t : TypeId) (x : Operand) : KO t x = Fj t x := by
 funext P X o ev ob nb k
 unfold KO Fj
 generalize ev x = s
 cases s with
 | ptr i off =>
   show Rm (aA ob i) t off P X o ev ob nb k = _
   simp only
   generalize aA ob i = y
   cases y with
   | none => rfl
   | some b => cases b <;> first | rfl | (simp only [Rm, Yf, xK])
 | rp i idx sz off =>
   show VD (aA ob i) t idx sz off P X o ev ob nb k = _
   simp only
   generalize aA ob i = y
   cases y with
   | none => rfl
   | some b => cases b <;> first | rfl | (simp only [VD, U7, xK, iB, Nat.add_eq])
 | _ => rfl
def X6 (b : Ob) : TypeId -> Nat -> Nat -> SV -> OpK := @Ob.rec (fun _ => TypeId -> Nat -> Nat -> SV -> OpK) (fun t' cs t i off xv P X o ev ob nb k => BR (Nu P t) (BR (XM xv) (BR (aR (Nat.ble X.base i) (Nat.ble (Nat.succ off) cs.length)) (k .junk (mG ob i (some (.cells t' (Tm cs off xv)))) nb) .fail) (aB P X o ev ob nb k)) (aB P X o ev ob nb k)) (fun _ _ _ _ => fun _ _ _ _ => failK) (fun _ => fun _ _ _ _ => failK) (fun _ _ _ => fun _ _ _ _ => failK) (fun _ _ _ => fun _ _ _ _ => failK) (fun _ _ _ _ _ => fun _ _ _ _ => failK) (fun _ _ _ => fun _ _ _ _ => failK) b
def Rl (x : Option Ob) : TypeId -> Nat -> Nat -> SV -> OpK := @Option.rec Ob (fun _ => TypeId -> Nat -> Nat -> SV -> OpK) (fun _ _ _ _ => failK) X6 x
def V9 (s : SV) : TypeId -> Operand -> OpK := @SV.rec (fun _ => TypeId -> Operand -> OpK) (fun _ => PUnit) (fun _ _ => aB) (fun _ => fun _ _ => aB) (fun _ _ => fun _ _ => aB) (fun _ _ => fun _ _ => aB) (fun i off t x P X o ev ob nb k => Rl (aA ob i) t i off (ev x) P X o ev ob nb k) (fun _ _ => fun _ _ => aB) (fun _ _ _ => fun _ _ => aB) (fun _ => fun _ _ => aB) (fun _ _ => fun _ _ => aB) (fun _ => fun _ _ => aB) (fun _ _ _ _ => fun _ _ => aB) (fun _ _ _ _ => fun _ _ => aB) (fun _ _ _ _ _ => fun _ _ => aB) (fun _ => fun _ _ => aB) PUnit.unit (fun _ _ _ _ => PUnit.unit) s
def FV (t : TypeId) (p x : Operand) : OpK := fun P X o ev ob nb k => V9 (ev p) t x P X o ev ob nb k
theorem K9 (t : TypeId) (p x : Operand) : FV t p x = xS t p x := by
 funext P X o ev ob nb k
 unfold FV xS
 generalize ev p = s
 cases s with
 | ptr i off =>
   show Rl (aA ob i) t i off (ev x) P X o ev ob nb k = _
   simp only
   generalize aA ob i = y
   cases y with
   | none => rfl
   | some b => cases b <;> first | rfl | (simp only [Rl, X6, Tx, iB, Nat.succ_eq_add_one])
 | _ => rfl
def faE (s : SV) : TypeId -> Nat -> OpK := @SV.rec (fun _ => TypeId -> Nat -> OpK) (fun _ => PUnit) (fun _ _ => aB) (fun _ => fun _ _ => aB) (fun _ _ => fun _ _ => aB) (fun _ _ => fun _ _ => aB) (fun i off s f P X o ev ob nb k => oN (faK P s f) .fail fun d => fN (Nat.add off d) fun a => k (.ptr i a) ob nb) (fun _ _ => fun _ _ => aB) (fun _ _ _ => fun _ _ => aB) (fun _ => fun _ _ => aB) (fun _ _ => fun _ _ => aB) (fun _ => fun _ _ => aB) (fun i idx sz off s f P X o ev ob nb k => oN (faK P s f) .fail fun d => fN (Nat.add off d) fun a => k (.rp i idx sz a) ob nb) (fun _ _ _ _ => fun _ _ => aB) (fun _ _ _ _ _ => fun _ _ => aB) (fun _ => fun _ _ => aB) PUnit.unit (fun _ _ _ _ => PUnit.unit) s
def qC (s : TypeId) (x : Operand) (f : Nat) : OpK := fun P X o ev ob nb k => faE (ev x) s f P X o ev ob nb k
theorem AV (s : TypeId) (x : Operand) (f : Nat) : qC s x f = kV s x f := by
 funext P X o ev ob nb k
 unfold qC kV
 generalize ev x = s
 cases s <;> rfl
def VL (op : BinOp) : IntKind -> Int -> Int -> R -> (SV -> R) -> R := @BinOp.rec (fun _ => IntKind -> Int -> Int -> R -> (SV -> R) -> R) (fun k x y _ c => OI k (Int.add x y) c) (fun k x y _ c => OI k (Int.sub x y) c) (fun _ _ _ g _ => g) (fun _ _ _ g _ => g) (fun _ _ _ g _ => g) (fun _ _ _ g _ => g) (fun _ _ _ g _ => g) (fun _ _ _ g _ => g) (fun _ _ _ g _ => g) (fun _ _ _ g _ => g) (fun _ _ _ g _ => g) (fun _ x y _ c => c (.kb (eqI x y))) (fun _ x y _ c => c (.kb (nB (eqI x y)))) (fun _ x y _ c => c (.kb (BI x y))) (fun _ x y _ c => c (.kb (nB (BI y x)))) (fun _ x y _ c => c (.kb (BI y x))) (fun _ x y _ c => c (.kb (nB (BI x y)))) op
theorem Uj (op : BinOp) (k : IntKind) (x y : Int) (g : R) (c : SV -> R) : VL op k x y g c = LG op k x y g c := by cases op <;> rfl
def Xn (s : SV) : IntKind -> Int -> BinOp -> OpK := @SV.rec (fun _ => IntKind -> Int -> BinOp -> OpK) (fun _ => PUnit) (fun _ _ _ => aB) (fun _ => fun _ _ _ => aB) (fun _ _ => fun _ _ _ => aB) (fun _ _ => fun _ _ _ => aB) (fun _ _ => fun _ _ _ => aB) (fun _ _ => fun _ _ _ => aB) (fun _ _ _ => fun _ _ _ => aB) (fun _ => fun _ _ _ => aB) (fun kk' b kk a op P X o ev ob nb k => BR (dW kk kk') (VL op kk a b (aB P X o ev ob nb k) fun s => k s ob nb) .fail) (fun _ => fun _ _ _ => aB) (fun _ _ _ _ => fun _ _ _ => aB) (fun _ _ _ _ => fun _ _ _ => aB) (fun _ _ _ _ _ => fun _ _ _ => aB) (fun _ => fun _ _ _ => aB) PUnit.unit (fun _ _ _ _ => PUnit.unit) s
def Y4 (s : SV) : BinOp -> Operand -> OpK := @SV.rec (fun _ => BinOp -> Operand -> OpK) (fun _ => PUnit) (fun _ _ => aB) (fun _ => fun _ _ => aB) (fun _ _ => fun _ _ => aB) (fun _ _ => fun _ _ => aB) (fun _ _ => fun _ _ => aB) (fun _ _ => fun _ _ => aB) (fun _ _ _ => fun _ _ => aB) (fun _ => fun _ _ => aB) (fun kk a op y P X o ev ob nb k => Xn (ev y) kk a op P X o ev ob nb k) (fun _ => fun _ _ => aB) (fun _ _ _ _ => fun _ _ => aB) (fun _ _ _ _ => fun _ _ => aB) (fun _ _ _ _ _ => fun _ _ => aB) (fun _ => fun _ _ => aB) PUnit.unit (fun _ _ _ _ => PUnit.unit) s
def Rj (op : BinOp) (x y : Operand) : OpK := fun P X o ev ob nb k => BR (Sz y) (aB P X o ev ob nb k) (Y4 (ev x) op y P X o ev ob nb k)
theorem QW (op : BinOp) (x y : Operand) : Rj op x y = R4 op x y := by
 funext P X o ev ob nb k
 unfold Rj R4
 congr 1
 generalize ev x = s
 cases s with
 | ki kk a =>
   show Xn (ev y) kk a op P X o ev ob nb k = _
   generalize ev y = r
   cases r with
   | ki kk' b => show BR _ (VL _ _ _ _ _ _) _ = _; rw [Uj]
   | _ => rfl
 | _ => rfl
def fnX (s : SV) : List Operand -> OpK := @SV.rec (fun _ => List Operand -> OpK) (fun _ => PUnit) (fun _ => failK) (fun _ => fun _ => failK) (fun _ _ => fun _ => failK) (fun _ _ => fun _ => failK) (fun _ _ => fun _ => failK) (fun _ _ => fun _ => failK) (fun fk caps _ args P X o ev ob nb k => X.I X.top X.base fk (Mj args ev caps) ob nb k) (fun _ => fun _ => failK) (fun _ _ => fun _ => failK) (fun _ => fun _ => failK) (fun _ _ _ _ => fun _ => failK) (fun _ _ _ _ => fun _ => failK) (fun _ _ _ _ _ => fun _ => failK) (fun _ => fun _ => failK) PUnit.unit (fun _ _ _ _ => PUnit.unit) s
def Vk (f : Operand) (args : List Operand) : OpK := fun P X o ev ob nb k => fnX (ev f) args P X o ev ob nb k
theorem UE (f : Operand) (args : List Operand) : Vk f args = kFn f args := by
 funext P X o ev ob nb k
 unfold Vk kFn
 generalize ev f = s
 cases s <;> rfl
def XH (s : SV) : Nat -> Nat -> Nat -> Nat -> TypeId -> OpK := @SV.rec (fun _ => Nat -> Nat -> Nat -> Nat -> TypeId -> OpK) (fun _ => PUnit) (fun _ _ _ _ _ => aB) (fun _ => fun _ _ _ _ _ => aB) (fun _ _ => fun _ _ _ _ _ => aB) (fun _ _ => fun _ _ _ _ _ => aB) (fun _ _ => fun _ _ _ _ _ => aB) (fun _ _ => fun _ _ _ _ _ => aB) (fun _ _ _ => fun _ _ _ _ _ => aB) (fun _ => fun _ _ _ _ _ => aB) (fun _ iv q z o' n t P X o ev ob nb k => oN (iaK P t) .fail fun z' => BR (Nat.beq z' z) (ltI iv n fun m => fN (Nat.add o' m) fun a => k (.rp q a z 0) ob nb) .fail) (fun _ => fun _ _ _ _ _ => aB) (fun _ _ _ _ => fun _ _ _ _ _ => aB) (fun _ _ _ _ => fun _ _ _ _ _ => aB) (fun _ _ _ _ _ => fun _ _ _ _ _ => aB) (fun _ => fun _ _ _ _ _ => aB) PUnit.unit (fun _ _ _ _ => PUnit.unit) s
def Zh (s : SV) : TypeId -> Operand -> OpK := @SV.rec (fun _ => TypeId -> Operand -> OpK) (fun _ => PUnit) (fun _ _ => aB) (fun _ => fun _ _ => aB) (fun _ _ => fun _ _ => aB) (fun _ _ => fun _ _ => aB) (fun _ _ => fun _ _ => aB) (fun _ _ => fun _ _ => aB) (fun _ _ _ => fun _ _ => aB) (fun _ => fun _ _ => aB) (fun _ _ => fun _ _ => aB) (fun _ => fun _ _ => aB) (fun _ _ _ _ => fun _ _ => aB) (fun _ _ _ _ => fun _ _ => aB) (fun q z o' n _ t i P X o ev ob nb k => XH (ev i) q z o' n t P X o ev ob nb k) (fun _ => fun _ _ => aB) PUnit.unit (fun _ _ _ _ => PUnit.unit) s
def QC (t : TypeId) (x i : Operand) : OpK := fun P X o ev ob nb k => Zh (ev x) t i P X o ev ob nb k
theorem Qq (t : TypeId) (x i : Operand) : QC t x i = Ir t x i := by
 funext P X o ev ob nb k
 unfold QC Ir
 generalize ev x = s
 cases s with
 | sl q z o' n c =>
   show XH (ev i) q z o' n t P X o ev ob nb k = _
   generalize ev i = r
   cases r <;> rfl
 | _ => rfl
def Y6 (s : SV) : TypeId -> OpK := @SV.rec (fun _ => TypeId -> OpK) (fun _ => PUnit) (fun _ => aB) (fun _ => fun _ => aB) (fun _ _ => fun _ => aB) (fun _ _ => fun _ => aB) (fun _ _ => fun _ => aB) (fun _ _ => fun _ => aB) (fun _ _ _ => fun _ => aB) (fun _ => fun _ => aB) (fun _ _ => fun _ => aB) (fun _ => fun _ => aB) (fun _ _ _ _ => fun _ => aB) (fun _ _ _ _ => fun _ => aB) (fun _ _ _ n _ t P X o ev ob nb k => BR (Tf P t) (k (.ki .i64 (.ofNat n)) ob nb) .fail) (fun _ => fun _ => aB) PUnit.unit (fun _ _ _ _ => PUnit.unit) s
def PE (t : TypeId) (x : Operand) : OpK := fun P X o ev ob nb k => Y6 (ev x) t P X o ev ob nb k
theorem Rp (t : TypeId) (x : Operand) : PE t x = Uh t x := by
 funext P X o ev ob nb k
 unfold PE Uh
 generalize ev x = s
 cases s <;> rfl
def exE (s : SV) : Nat -> OpK := @SV.rec (fun _ => Nat -> OpK) (fun _ => PUnit) (fun _ => aB) (fun _ => fun _ => aB) (fun _ _ => fun _ => aB) (fun l _ i P X o ev ob nb k => JB l i .fail fun s => k (nKS s) ob nb) (fun _ _ => fun _ => aB) (fun _ _ => fun _ => aB) (fun _ _ _ => fun _ => aB) (fun _ => fun _ => aB) (fun _ _ => fun _ => aB) (fun _ => fun _ => aB) (fun _ _ _ _ => fun _ => aB) (fun _ _ _ _ => fun _ => aB) (fun _ _ _ _ _ => fun _ => aB) (fun _ => fun _ => aB) PUnit.unit (fun _ _ _ _ => PUnit.unit) s
def Vw (x : Operand) (i : Nat) : OpK := fun P X o ev ob nb k => exE (ev x) i P X o ev ob nb k
theorem SB (x : Operand) (i : Nat) : Vw x i = pU x i := by
 funext P X o ev ob nb k
 unfold Vw pU
 generalize ev x = s
 cases s <;> first | rfl | (simp only [exE, xK])
def unE (s : SV) : OpK := @SV.rec (fun _ => OpK) (fun _ => PUnit) (aB) (fun _ => aB) (fun _ _ => aB) (fun _ _ => aB) (fun _ _ => aB) (fun _ _ => aB) (fun _ _ _ => aB) (fun b P X o ev ob nb k => k (.kb (nB b)) ob nb) (fun _ _ => aB) (fun _ => aB) (fun _ _ _ _ => aB) (fun _ _ _ _ => aB) (fun _ _ _ _ _ => aB) (fun _ => aB) PUnit.unit (fun _ _ _ _ => PUnit.unit) s
def Xk (x : Operand) : OpK := fun P X o ev ob nb k => unE (ev x) P X o ev ob nb k
structure OBox where
 f : OpK
def unB (op : UnOp) (x : Operand) : OBox := match op with
 | .not => ⟨Xk x⟩
 | _ => ⟨aB⟩
theorem WC (op : UnOp) (x : Operand) : (unB op x).f = kUn op x := by
 funext P X o ev ob nb k
 cases op
 case not =>
  show unE (ev x) P X o ev ob nb k = kUn .not x P X o ev ob nb k
  unfold kUn
  generalize ev x = s
  cases s <;> rfl
 all_goals
  show aB P X o ev ob nb k = kUn _ x P X o ev ob nb k
  unfold kUn
  generalize ev x = s
  cases s <;> rfl
def VN (b : Builtin) (as : List Operand) (ts : List TypeId) : OBox := match b, as, ts with
 | .len, [x], [t] => ⟨PE t x⟩
 | _, _, _ => ⟨aB⟩
theorem Ul (c : Call) (b : Builtin) : (VN b c.args.toList c.argTypes.toList).f = qD c b := by
 unfold VN qD
 split
 · rename_i x t _ _
   rw [Rp]
   funext P X o ev ob nb k
   simp_all
 · rename_i h
   funext P X o ev ob nb k
   split
   · rename_i h1 h2 h3
     exact (h _ _ rfl h2 h3).elim
   · rfl
def Rf (c : Call) : OBox := match c.callee with
 | .value f => ⟨Vk f c.args.toList⟩
 | .builtin b => VN b c.args.toList c.argTypes.toList
 | _ => ⟨aB⟩
theorem Rs (c : Call) : (Rf c).f = Js c := by
 unfold Rf Js
 cases c.callee <;> first | exact UE _ _ | exact Ul c _ | rfl
def opB (o : Oper) : OBox := match o.op with
 | .move x => ⟨EY x⟩
 | .assign x => ⟨EY x⟩
 | .pick c a b => ⟨Ld c a b⟩
 | .alloc t => ⟨KJ t⟩
 | .box t x => ⟨Vt t x⟩
 | .build t ps => ⟨KQ t ps⟩
 | .load t x => ⟨KO t x⟩
 | .store t p x => ⟨FV t p x⟩
 | .nilCheck x => ⟨PN x⟩
 | .binOp op t x y _ => ⟨Rj op x y⟩
 | .unOp op _ x => unB op x
 | .fieldAddr s x f => ⟨qC s x f⟩
 | .field t x f => ⟨KE t x f⟩
 | .indexAddr t x i => ⟨QC t x i⟩
 | .index t x i => ⟨KI t x i⟩
 | .lookup t x i ok => ⟨FH t x i ok⟩
 | .extract x i => ⟨Vw x i⟩
 | .call c => Rf c
 | .range t x => ⟨Li t x⟩
 | .entry x => ⟨Kz x⟩
 | .next _ _ => ⟨failK⟩
 | _ => ⟨aB⟩
def opS (o : Oper) : OpK := (opB o).f
theorem Vp (o : Oper) : opS o = opG o := by
 unfold opS opB opG
 cases o.op <;> first | rfl | exact Oz _ _ _ | exact NZ _ _ | exact K9 _ _ _ | exact P8 _ | exact QW _ _ _ | exact WC _ _ | exact AV _ _ _ | exact Qq _ _ _ | exact SB _ _ | exact Rs _
def brE (s : SV) : R -> R -> R -> R := @SV.rec (fun _ => R -> R -> R -> R) (fun _ => PUnit) (fun _ _ c => c) (fun _ => fun _ _ c => c) (fun _ _ => fun _ _ c => c) (fun _ _ => fun _ _ c => c) (fun _ _ => fun _ _ c => c) (fun _ _ => fun _ _ c => c) (fun _ _ _ => fun _ _ c => c) (fun q a b _ => BR q a b) (fun _ _ => fun _ _ c => c) (fun _ => fun _ _ c => c) (fun _ _ _ _ => fun _ _ c => c) (fun _ _ _ _ => fun _ _ c => c) (fun _ _ _ _ _ => fun _ _ c => c) (fun _ => fun _ _ c => c) PUnit.unit (fun _ _ _ _ => PUnit.unit) s
theorem Wi (s : SV) (a b c : R) : brE s a b c = match s with
 | .kb q => BR q a b
 | _ => c := by cases s <;> rfl
end
end Rx
set_option linter.unusedSectionVars false
set_option linter.unusedSimpArgs false
set_option linter.unusedVariables false
namespace Rx
open Go
variable [Glob]
noncomputable section
abbrev KS := Tr SV -> OB -> Nat -> R
def evG (fl : Nat) (sl : Tr SV) (lo : Lo) : Ev := @Operand.rec (fun _ => SV) (fun t => view fl sl lo t) (fun v => nK (ofConst v)) (fun g => TY g) (fun f => .fn f [])
theorem Kw (fl : Nat) (sl : Tr SV) (lo : Lo) : evG fl sl lo = evC (view fl sl lo) := by
 funext x
 cases x <;> rfl
abbrev IH := Tr SV -> Lo -> OB -> Nat -> KS -> R
def GQ (fl : Nat) (d : Option Tmp) (ih : IH) (sl : Tr SV) (lo : Lo) (s : SV) (ob : OB) (nb : Nat) (k : KS) : R :=
 @Option.rec Tmp (fun _ => R) (ih sl lo ob nb k) (fun d => NP s fun s => BR (fU fl d) (ih (rW sl d s) lo ob nb k) (ih sl (.cons d s lo) ob nb k)) d
def goG (P : Program) (X : EX) (fl : Nat) (o : Oper) (ih : IH) : IH := fun sl lo ob nb k =>
 opS o P X o (evG fl sl lo) ob nb fun s ob nb => GQ fl o.dst ih sl lo s ob nb k
def skG (fl : Nat) (o : Oper) (ih : IH) : IH := fun sl lo ob nb k => GQ fl o.dst ih sl lo d9 ob nb k
def gdR (P : Program) (X : EX) (fl : Nat) (o : Oper) (ih : IH) (s : SV) : IH := fun sl lo ob nb k =>
    match s with
     | .dt (.cell (.tuple _)) => skG fl o ih sl lo ob nb k
     | _ => .fail
def gdT (P : Program) (X : EX) (fl : Nat) (o : Oper) (ih : IH) (w : Bool) (t : Tmp) : IH := fun sl lo ob nb k =>
    brE (view fl sl lo t) (BR w (goG P X fl o ih sl lo ob nb k) (skG fl o ih sl lo ob nb k)) (BR w (skG fl o ih sl lo ob nb k) (goG P X fl o ih sl lo ob nb k)) (gdR P X fl o ih (view fl sl lo t) sl lo ob nb k)
def gdG (P : Program) (X : EX) (fl : Nat) (ops : Array Oper) (o : Oper) (ih : IH) (g : Nat × Bool) : IH :=
    @Option.rec Tmp (fun _ => IH) (fun _ _ _ _ _ => .fail) (gdT P X fl o ih g.2) ((ops[g.1]?).bind (·.dst))
theorem VY (P : Program) (X : EX) (fl : Nat) (o : Oper) (ih : IH) (w : Bool) (t : Tmp) (sl : Tr SV) (lo : Lo) (ob : OB) (nb : Nat) (k : KS) : gdT P X fl o ih w t sl lo ob nb k = match view fl sl lo t with
     | .kb b => BR b (BR w (goG P X fl o ih sl lo ob nb k) (skG fl o ih sl lo ob nb k)) (BR w (skG fl o ih sl lo ob nb k) (goG P X fl o ih sl lo ob nb k))
     | .dt (.cell (.tuple _)) => skG fl o ih sl lo ob nb k
     | _ => .fail := by
 unfold gdT
 generalize view fl sl lo t = s
 cases s with
 | dt d => cases d with
   | cell v => cases v <;> rfl
   | _ => rfl
 | _ => rfl
theorem WK (P : Program) (X : EX) (fl : Nat) (ops : Array Oper) (o : Oper) (ih : IH) (g : Nat × Bool) (sl : Tr SV) (lo : Lo) (ob : OB) (nb : Nat) (k : KS) : gdG P X fl ops o ih g sl lo ob nb k = match (ops[g.1]?).bind (·.dst) with
   | none => .fail
   | some t => match view fl sl lo t with
     | .kb b => BR b (BR g.2 (goG P X fl o ih sl lo ob nb k) (skG fl o ih sl lo ob nb k)) (BR g.2 (skG fl o ih sl lo ob nb k) (goG P X fl o ih sl lo ob nb k))
     | .dt (.cell (.tuple _)) => skG fl o ih sl lo ob nb k
     | _ => .fail := by
 unfold gdG
 cases (ops[g.1]?).bind (·.dst) with
 | none => rfl
 | some t => exact VY P X fl o ih g.2 t sl lo ob nb k
def stG (P : Program) (X : EX) (fl : Nat) (ops : Array Oper) (o : Oper) (ih : IH) : IH :=
    @Option.rec (Nat × Bool) (fun _ => IH) (goG P X fl o ih) (gdG P X fl ops o ih) o.guard
def Ph (P : Program) (X : EX) (fl : Nat) (ops : Array Oper) (l : List Oper) : IH :=
 @List.rec Oper (fun _ => IH) (fun sl lo ob nb k => k sl ob nb) (fun o _ ih => stG P X fl ops o ih) l
def okD (N : Nat) (ops : Array Oper) : Bool := ops.toList.all fun o => fT N o.dst
theorem Aw {fl : Nat} {sl : Tr SV} {lo : Lo} {d : Nat} {s : SV} (hd : d < 16777215) : (fU fl d = true -> view fl (rW sl d s) lo = putT (some d) s (view fl sl lo)) /\ (fU fl d = false -> view fl sl (.cons d s lo) = putT (some d) s (view fl sl lo)) := by
 constructor
 · intro hb
   funext j
   show BS (fU fl j) (gU (rW sl d s) j) (look lo j) = mD (some d) j s (BS (fU fl j) (gU sl j) (look lo j))
   rw [aX, wH j hd]
   by_cases e : j = d
   · subst e; rw [hb, if_pos rfl, if_pos rfl]; rfl
   · rw [if_neg e, if_neg e]
 · intro hb
   funext j
   show BS (fU fl j) (gU sl j) (BS (Nat.beq d j) s (look lo j)) = mD (some d) j s (BS (fU fl j) (gU sl j) (look lo j))
   rw [aX]
   by_cases e : j = d
   · subst e; rw [hb, if_pos rfl, Nat.beq_refl]; rfl
   · rw [if_neg e, dN (fun h => e h.symm)]; rfl
def KS1 (fl : Nat) (post : SV × HD -> Prop) (ih : IH) (k : KS) (σ : CS) : Prop :=
 ∃ sl lo ob, σ = ⟨view fl sl lo, ⟨aA ob, σ.h.nob⟩⟩ /\ (ih sl lo ob σ.h.nob k).holds post
section
variable {E : CEnv} {X : EX} {fl : Nat} {post : SV × HD -> Prop}
theorem JD {d : Option Tmp} {ih : IH} {sl : Tr SV} {lo : Lo} {s : SV} {ob : OB} {nb : Nat} {k : KS} (hd : fT E.N d = true) (hN : E.N <= 16777215) (h : (GQ fl d ih sl lo s ob nb k).holds post) :
  KS1 fl post ih k ⟨putT d s (view fl sl lo), ⟨aA ob, nb⟩⟩ := by
 cases d with
 | none => exact ⟨sl, lo, ob, rfl, h⟩
 | some d =>
   have hd : d < 16777215 := Nat.lt_of_lt_of_le (show d < E.N by simpa [fT, Nat.blt_eq] using hd) hN
   have h : (NP s fun s => BR (fU fl d) (ih (rW sl d s) lo ob nb k) (ih sl (.cons d s lo) ob nb k)).holds post := h
   rw [L6, dF] at h
   obtain ⟨h1, h2⟩ := Aw (fl := fl) (sl := sl) (lo := lo) (s := s) hd
   cases hb : fU fl d with
   | true => rw [hb] at h; exact ⟨_, lo, ob, by rw [← h1 hb], h⟩
   | false => rw [hb] at h; exact ⟨sl, _, ob, by rw [← h2 hb], h⟩
theorem FP {o : Oper} {ih : IH} {sl : Tr SV} {lo : Lo} {ob : OB} {nb : Nat} {k : KS} {rid i : Nat} (hX : XRef X E) (hd : fT E.N o.dst = true) (hN : E.N <= 16777215) (hT : dQ E.top nb) (hF : FOk ob nb)
  (h : (goG E.P X fl o ih sl lo ob nb k).holds post) : (bL E rid i (evC (view fl sl lo)) ⟨aA ob, nb⟩ o).holds fun y => KS1 fl post ih k ⟨putT o.dst y.1 (view fl sl lo), y.2⟩ := by
 unfold goG at h
 rw [Kw, Vp] at h
 refine T.aC (fun y hy => ?_) _ (Uq hX hT hF h)
 obtain ⟨ob', h1, h2⟩ := hy
 have := JD (E := E) hd hN h2
 have e : y.2 = ⟨aA ob', y.2.nob⟩ := by rw [← h1]
 rw [e]
 exact this
theorem F7 {ops : Array Oper} {o : Oper} {ih : IH} {sl : Tr SV} {lo : Lo} {ob : OB} {nb : Nat} {k : KS} {rid i : Nat} (hX : XRef X E) (hok : okD E.N ops = true) (hd : fT E.N o.dst = true) (hN : E.N <= 16777215) (hT : dQ E.top nb) (hF : FOk ob nb)
  (h : (stG E.P X fl ops o ih sl lo ob nb k).holds post) : (stC E ops rid i o ⟨view fl sl lo, ⟨aA ob, nb⟩⟩).holds fun y => KS1 fl post ih k ⟨putT o.dst y.1 (view fl sl lo), y.2⟩ := by
 unfold stC
 rw [hd, cond_true]
 unfold stG at h
 cases hg : o.guard with
 | none => rw [hg] at h; exact FP hX hd hN hT hF h
 | some g =>
   obtain ⟨j, want⟩ := g
   rw [hg] at h
   have h : (gdG E.P X fl ops o ih (j, want) sl lo ob nb k).holds post := h
   rw [WK] at h
   simp only at h ⊢
   have sk : (skG fl o ih sl lo ob nb k).holds post -> (T.ret (d9, (⟨aA ob, nb⟩ : HS)) : T (SV × HS)).holds fun y => KS1 fl post ih k ⟨putT o.dst y.1 (view fl sl lo), y.2⟩ := fun h => JD (E := E) hd hN h
   split at h
   · exact h.elim
   · rename_i t ht
     simp only [ht]
     have hdt : fT E.N (some t) = true := by
        cases hj : ops[j]? with
        | none => rw [hj] at ht; cases ht
        | some oj =>
          rw [hj] at ht
          have hm : oj ∈ ops.toList := by simpa using Array.mem_of_getElem? hj
          have := List.all_eq_true.1 hok oj hm
          rw [show oj.dst = some t from ht] at this
          exact this
     rw [hdt, cond_true]
     split at h
     · rename_i b hb
       simp only [hb]
       rw [dF] at h
       cases b with
       | true =>
         rw [cond_true, dF] at h
         cases want with
         | true => exact FP hX hd hN hT hF h
         | false => exact sk h
       | false =>
         rw [cond_false, dF] at h
         cases want with
         | true => exact sk h
         | false => exact FP hX hd hN hT hF h
     · rename_i x hx
       simp only [hx]
       exact sk h
     · exact h.elim
theorem wB (hE : E.Ok) {ops : Array Oper} {k : KS} {rid : Nat} (hX : XRef X E) (hok : okD E.N ops = true) (hN : E.N <= 16777215) : ∀ (l : List Oper) (i : Nat) (sl : Tr SV) (lo : Lo) (ob : OB) (nb : Nat), (∀ o ∈ l, fT E.N o.dst = true) -> dQ E.top nb -> FOk ob nb ->
  (Ph E.P X fl ops l sl lo ob nb k).holds post -> (mh E ops rid i l ⟨view fl sl lo, ⟨aA ob, nb⟩⟩).holds (KS1 fl post (fun sl _ ob nb k => k sl ob nb) k)
 | [], i, sl, lo, ob, nb, _, _, _, h => ⟨sl, lo, ob, rfl, h⟩
 | o :: l, i, sl, lo, ob, nb, hd, hT, hF, h => by
   simp only [mh, T.ay]
   have h1 := F7 (rid := rid) (i := i) hX hok (hd o (by simp)) hN hT hF (show (stG E.P X fl ops o (Ph E.P X fl ops l) sl lo ob nb k).holds post from h)
   have h2 := T.aZ (iD hE (ops := ops) (rid := rid) (i := i) o (σ := ⟨view fl sl lo, ⟨aA ob, nb⟩⟩) hF) h1
   refine T.aC (fun y hy => ?_) _ h2
   obtain ⟨⟨g1, g2, g3⟩, sl', lo', ob', e, hh⟩ := hy
   rw [e]
   have eh : y.2 = ⟨aA ob', y.2.nob⟩ := congrArg CS.h e
   have hT' : dQ E.top y.2.nob := by
     have g3 : y.2.nob <= max E.top nb := g3
     have := hT.1
     exact ⟨by omega, hT.2⟩
   exact wB hE hX hok hN l (i + 1) sl' lo' ob' y.2.nob (fun o ho => hd o (by simp [ho])) hT' (fun i hi => by
     have := g1 i hi
     rw [eh] at this
     exact this) hh
end
end
end Rx
