/- Rx, part Xb: slim eliminators for the kernel: all arms are closed, so nothing is copied. Printed by gen/slim.py. -/
import Derived.Test.YtcmnmceodhambaaGreatDoorRxX2
set_option linter.unusedSectionVars false
set_option linter.unusedSimpArgs false
set_option linter.unusedVariables false
namespace Rx
open Go
variable [Glob]
noncomputable section
def aT (a b : Bool) : Bool := @Bool.rec (fun _ => Bool) false b a
theorem gQ (a b : Bool) : aT a b = (a && b) := by cases a <;> rfl
def failK : OpK := fun _ _ _ _ _ _ _ => .fail
def nKS (s : SV) : SV := @SV.rec (fun _ => SV) (fun _ => PUnit) (.junk) (fun d => nK (.dt d)) (fun x0 _ => .agg x0) (fun x0 _ => .tup x0) (fun x0 x1 => .ptr x0 x1) (fun x0 x1 => .el x0 x1) (fun x0 x1 _ => .fn x0 x1) (fun x0 => .kb x0) (fun x0 x1 => .ki x0 x1) (fun x0 => .nm x0) (fun x0 x1 x2 x3 => .rp x0 x1 x2 x3) (fun x0 x1 x2 x3 => .ri x0 x1 x2 x3) (fun x0 x1 x2 x3 x4 => .sl x0 x1 x2 x3 x4) (fun x0 => .sy x0) PUnit.unit (fun _ _ _ _ => PUnit.unit) s
theorem uN (s : SV) : nKS s = nK s := by cases s <;> rfl
def V7 (s : SV) : Bool := @SV.rec (fun _ => Bool) (fun _ => PUnit) (false) (fun d => d9 (.dt d)) (fun _ _ => false) (fun _ _ => false) (fun _ _ => true) (fun _ _ => true) (fun _ _ _ => true) (fun _ => true) (fun _ _ => true) (fun _ => true) (fun _ _ _ _ => true) (fun _ _ _ _ => true) (fun _ _ _ _ _ => true) (fun _ => true) PUnit.unit (fun _ _ _ _ => PUnit.unit) s
theorem Rp (s : SV) : V7 s = d9 s := by cases s <;> rfl
def Xi (s : SV) : OpK := @SV.rec (fun _ => OpK) (fun _ => PUnit) (aC) (fun _ => aC) (fun _ _ => aC) (fun _ _ => aC) (fun i f P X o ev ob nb k => k (.ptr i f) ob nb) (fun _ _ => aC) (fun _ _ _ => aC) (fun _ => aC) (fun _ _ => aC) (fun _ => aC) (fun i y z f P X o ev ob nb k => k (.rp i y z f) ob nb) (fun _ _ _ _ => aC) (fun _ _ _ _ _ => aC) (fun _ => aC) PUnit.unit (fun _ _ _ _ => PUnit.unit) s
def OC (x : Operand) : OpK := fun P X o ev ob nb k => Xi (ev x) P X o ev ob nb k
theorem OW (x : Operand) : OC x = Nq x := by
 funext P X o ev ob nb k
 unfold OC Nq
 generalize ev x = s
 cases s <;> rfl
def Ww (s : SV) : Operand -> Operand -> OpK := @SV.rec (fun _ => Operand -> Operand -> OpK) (fun _ => PUnit) (fun _ _ => aC) (fun _ => fun _ _ => aC) (fun _ _ => fun _ _ => aC) (fun _ _ => fun _ _ => aC) (fun _ _ => fun _ _ => aC) (fun _ _ => fun _ _ => aC) (fun _ _ _ => fun _ _ => aC) (fun q a b P X o ev ob nb k => BR q (k (ev a) ob nb) (k (ev b) ob nb)) (fun _ _ => fun _ _ => aC) (fun _ => fun _ _ => aC) (fun _ _ _ _ => fun _ _ => aC) (fun _ _ _ _ => fun _ _ => aC) (fun _ _ _ _ _ => fun _ _ => aC) (fun _ => fun _ _ => aC) PUnit.unit (fun _ _ _ _ => PUnit.unit) s
def IJ (c a b : Operand) : OpK := fun P X o ev ob nb k => Ww (ev c) a b P X o ev ob nb k
theorem MG (c a b : Operand) : IJ c a b = Ik c a b := by
 funext P X o ev ob nb k
 unfold IJ Ik
 generalize ev c = s
 cases s <;> rfl
def Vs (b : Ob) : TypeId -> Nat -> OpK := @Ob.rec (fun _ => TypeId -> Nat -> OpK) (fun _ cs t off P X o ev ob nb k => oB (ldK P t) .fail (aC P X o ev ob nb k) (H6 cs off .fail fun s => k (nKS s) ob nb)) (fun _ _ _ _ => fun _ _ => failK) (fun _ => fun _ _ => failK) (fun _ _ _ => fun _ _ => failK) (fun _ _ _ => fun _ _ => failK) (fun _ _ _ _ _ => fun _ _ => failK) (fun _ _ _ => fun _ _ => failK) b
def Pb (x : Option Ob) : TypeId -> Nat -> OpK := @Option.rec Ob (fun _ => TypeId -> Nat -> OpK) (fun _ _ => failK) Vs x
def Ti (b : Ob) : TypeId -> Nat -> Nat -> Nat -> OpK := @Ob.rec (fun _ => TypeId -> Nat -> Nat -> Nat -> OpK) (fun _ _ => fun _ _ _ _ => aC) (fun _ _ _ _ => fun _ _ _ _ => aC) (fun _ => fun _ _ _ _ => aC) (fun _ _ _ => fun _ _ _ _ => aC) (fun _ _ _ => fun _ _ _ _ => aC) (fun _ sz' len tr _ t idx sz off P X o ev ob nb k => oB (ldK P t) .fail (szK P t fun n => BR (aT (Nat.beq sz sz') (aT (Nat.ble (Nat.add off n) sz) (Nat.blt idx len))) (k (.agg (mZ tr n (Nat.add (Nat.mul idx sz) off))) ob nb) .fail) (BR (aT (Nat.beq sz sz') (aT (Nat.blt off sz) (Nat.blt idx len))) (k (nKS (iB tr (Nat.add (Nat.mul idx sz) off))) ob nb) .fail)) (fun _ _ _ => fun _ _ _ _ => aC) b
def UW (x : Option Ob) : TypeId -> Nat -> Nat -> Nat -> OpK := @Option.rec Ob (fun _ => TypeId -> Nat -> Nat -> Nat -> OpK) (fun _ _ _ _ => aC) Ti x
def Vw (s : SV) : TypeId -> OpK := @SV.rec (fun _ => TypeId -> OpK) (fun _ => PUnit) (fun _ => aC) (fun _ => fun _ => aC) (fun _ _ => fun _ => aC) (fun _ _ => fun _ => aC) (fun i off t P X o ev ob nb k => Pb (aB ob i) t off P X o ev ob nb k) (fun _ _ => fun _ => aC) (fun _ _ _ => fun _ => aC) (fun _ => fun _ => aC) (fun _ _ => fun _ => aC) (fun _ => fun _ => aC) (fun i idx sz off t P X o ev ob nb k => UW (aB ob i) t idx sz off P X o ev ob nb k) (fun _ _ _ _ => fun _ => aC) (fun _ _ _ _ _ => fun _ => aC) (fun _ => fun _ => aC) PUnit.unit (fun _ _ _ _ => PUnit.unit) s
def JE (t : TypeId) (x : Operand) : OpK := fun P X o ev ob nb k => Vw (ev x) t P X o ev ob nb k
theorem MI (t : TypeId) (x : Operand) : JE t x = Cy t x := by
 funext P X o ev ob nb k
 unfold JE Cy
 generalize ev x = s
 cases s with
 | ptr i off =>
   show Pb (aB ob i) t off P X o ev ob nb k = _
   simp only
   generalize aB ob i = y
   cases y with
   | none => rfl
   | some b => cases b <;> first | rfl | (simp only [Pb, Vs, uN])
 | rp i idx sz off =>
   show UW (aB ob i) t idx sz off P X o ev ob nb k = _
   simp only
   generalize aB ob i = y
   cases y with
   | none => rfl
   | some b => cases b <;> first | rfl | (simp only [UW, Ti, uN, gQ, Nat.add_eq])
 | _ => rfl
def Ws (b : Ob) : TypeId -> Nat -> Nat -> SV -> OpK := @Ob.rec (fun _ => TypeId -> Nat -> Nat -> SV -> OpK) (fun t' cs t i off xv P X o ev ob nb k => BR (J9 P t) (BR (V7 xv) (BR (aT (Nat.ble X.base i) (Nat.ble (Nat.succ off) cs.length)) (k .junk (lJ ob i (some (.cells t' (Sj cs off xv)))) nb) .fail) (aC P X o ev ob nb k)) (aC P X o ev ob nb k)) (fun _ _ _ _ => fun _ _ _ _ => failK) (fun _ => fun _ _ _ _ => failK) (fun _ _ _ => fun _ _ _ _ => failK) (fun _ _ _ => fun _ _ _ _ => failK) (fun _ _ _ _ _ => fun _ _ _ _ => failK) (fun _ _ _ => fun _ _ _ _ => failK) b
def Ns (x : Option Ob) : TypeId -> Nat -> Nat -> SV -> OpK := @Option.rec Ob (fun _ => TypeId -> Nat -> Nat -> SV -> OpK) (fun _ _ _ _ => failK) Ws x
def UQ (s : SV) : TypeId -> Operand -> OpK := @SV.rec (fun _ => TypeId -> Operand -> OpK) (fun _ => PUnit) (fun _ _ => aC) (fun _ => fun _ _ => aC) (fun _ _ => fun _ _ => aC) (fun _ _ => fun _ _ => aC) (fun i off t x P X o ev ob nb k => Ns (aB ob i) t i off (ev x) P X o ev ob nb k) (fun _ _ => fun _ _ => aC) (fun _ _ _ => fun _ _ => aC) (fun _ => fun _ _ => aC) (fun _ _ => fun _ _ => aC) (fun _ => fun _ _ => aC) (fun _ _ _ _ => fun _ _ => aC) (fun _ _ _ _ => fun _ _ => aC) (fun _ _ _ _ _ => fun _ _ => aC) (fun _ => fun _ _ => aC) PUnit.unit (fun _ _ _ _ => PUnit.unit) s
def EH (t : TypeId) (p x : Operand) : OpK := fun P X o ev ob nb k => UQ (ev p) t x P X o ev ob nb k
theorem JQ (t : TypeId) (p x : Operand) : EH t p x = uU t p x := by
 funext P X o ev ob nb k
 unfold EH uU
 generalize ev p = s
 cases s with
 | ptr i off =>
   show Ns (aB ob i) t i off (ev x) P X o ev ob nb k = _
   simp only
   generalize aB ob i = y
   cases y with
   | none => rfl
   | some b => cases b <;> first | rfl | (simp only [Ns, Ws, Rp, gQ, Nat.succ_eq_add_one])
 | _ => rfl
def faE (s : SV) : TypeId -> Nat -> OpK := @SV.rec (fun _ => TypeId -> Nat -> OpK) (fun _ => PUnit) (fun _ _ => aC) (fun _ => fun _ _ => aC) (fun _ _ => fun _ _ => aC) (fun _ _ => fun _ _ => aC) (fun i off s f P X o ev ob nb k => oN (faK P s f) .fail fun d => fN (Nat.add off d) fun a => k (.ptr i a) ob nb) (fun _ _ => fun _ _ => aC) (fun _ _ _ => fun _ _ => aC) (fun _ => fun _ _ => aC) (fun _ _ => fun _ _ => aC) (fun _ => fun _ _ => aC) (fun i idx sz off s f P X o ev ob nb k => oN (faK P s f) .fail fun d => fN (Nat.add off d) fun a => k (.rp i idx sz a) ob nb) (fun _ _ _ _ => fun _ _ => aC) (fun _ _ _ _ _ => fun _ _ => aC) (fun _ => fun _ _ => aC) PUnit.unit (fun _ _ _ _ => PUnit.unit) s
def oH (s : TypeId) (x : Operand) (f : Nat) : OpK := fun P X o ev ob nb k => faE (ev x) s f P X o ev ob nb k
theorem zm (s : TypeId) (x : Operand) (f : Nat) : oH s x f = kL s x f := by
 funext P X o ev ob nb k
 unfold oH kL
 generalize ev x = s
 cases s <;> rfl
def Uf (op : BinOp) : IntKind -> Int -> Int -> R -> (SV -> R) -> R := @BinOp.rec (fun _ => IntKind -> Int -> Int -> R -> (SV -> R) -> R) (fun k x y _ c => Mv k (Int.add x y) c) (fun k x y _ c => Mv k (Int.sub x y) c) (fun _ _ _ g _ => g) (fun _ _ _ g _ => g) (fun _ _ _ g _ => g) (fun _ _ _ g _ => g) (fun _ _ _ g _ => g) (fun _ _ _ g _ => g) (fun _ _ _ g _ => g) (fun _ _ _ g _ => g) (fun _ _ _ g _ => g) (fun _ x y _ c => c (.kb (eqI x y))) (fun _ x y _ c => c (.kb (nB (eqI x y)))) (fun _ x y _ c => c (.kb (AP x y))) (fun _ x y _ c => c (.kb (nB (AP y x)))) (fun _ x y _ c => c (.kb (AP y x))) (fun _ x y _ c => c (.kb (nB (AP x y)))) op
theorem RA (op : BinOp) (k : IntKind) (x y : Int) (g : R) (c : SV -> R) : Uf op k x y g c = Lj op k x y g c := by cases op <;> rfl
def VN (s : SV) : IntKind -> Int -> BinOp -> OpK := @SV.rec (fun _ => IntKind -> Int -> BinOp -> OpK) (fun _ => PUnit) (fun _ _ _ => aC) (fun _ => fun _ _ _ => aC) (fun _ _ => fun _ _ _ => aC) (fun _ _ => fun _ _ _ => aC) (fun _ _ => fun _ _ _ => aC) (fun _ _ => fun _ _ _ => aC) (fun _ _ _ => fun _ _ _ => aC) (fun _ => fun _ _ _ => aC) (fun kk' b kk a op P X o ev ob nb k => BR (dQ kk kk') (Uf op kk a b (aC P X o ev ob nb k) fun s => k s ob nb) .fail) (fun _ => fun _ _ _ => aC) (fun _ _ _ _ => fun _ _ _ => aC) (fun _ _ _ _ => fun _ _ _ => aC) (fun _ _ _ _ _ => fun _ _ _ => aC) (fun _ => fun _ _ _ => aC) PUnit.unit (fun _ _ _ _ => PUnit.unit) s
def WR (s : SV) : BinOp -> Operand -> OpK := @SV.rec (fun _ => BinOp -> Operand -> OpK) (fun _ => PUnit) (fun _ _ => aC) (fun _ => fun _ _ => aC) (fun _ _ => fun _ _ => aC) (fun _ _ => fun _ _ => aC) (fun _ _ => fun _ _ => aC) (fun _ _ => fun _ _ => aC) (fun _ _ _ => fun _ _ => aC) (fun _ => fun _ _ => aC) (fun kk a op y P X o ev ob nb k => VN (ev y) kk a op P X o ev ob nb k) (fun _ => fun _ _ => aC) (fun _ _ _ _ => fun _ _ => aC) (fun _ _ _ _ => fun _ _ => aC) (fun _ _ _ _ _ => fun _ _ => aC) (fun _ => fun _ _ => aC) PUnit.unit (fun _ _ _ _ => PUnit.unit) s
def O5 (op : BinOp) (x y : Operand) : OpK := fun P X o ev ob nb k => BR (QG y) (aC P X o ev ob nb k) (WR (ev x) op y P X o ev ob nb k)
theorem OM (op : BinOp) (x y : Operand) : O5 op x y = Ot op x y := by
 funext P X o ev ob nb k
 unfold O5 Ot
 congr 1
 generalize ev x = s
 cases s with
 | ki kk a =>
   show VN (ev y) kk a op P X o ev ob nb k = _
   generalize ev y = r
   cases r with
   | ki kk' b => show BR _ (Uf _ _ _ _ _ _) _ = _; rw [RA]
   | _ => rfl
 | _ => rfl
def fnX (s : SV) : List Operand -> OpK := @SV.rec (fun _ => List Operand -> OpK) (fun _ => PUnit) (fun _ => failK) (fun _ => fun _ => failK) (fun _ _ => fun _ => failK) (fun _ _ => fun _ => failK) (fun _ _ => fun _ => failK) (fun _ _ => fun _ => failK) (fun fk caps _ args P X o ev ob nb k => X.I X.top X.base fk (KX args ev caps) ob nb k) (fun _ => fun _ => failK) (fun _ _ => fun _ => failK) (fun _ => fun _ => failK) (fun _ _ _ _ => fun _ => failK) (fun _ _ _ _ => fun _ => failK) (fun _ _ _ _ _ => fun _ => failK) (fun _ => fun _ => failK) PUnit.unit (fun _ _ _ _ => PUnit.unit) s
def Uq (f : Operand) (args : List Operand) : OpK := fun P X o ev ob nb k => fnX (ev f) args P X o ev ob nb k
theorem RN (f : Operand) (args : List Operand) : Uq f args = kFn f args := by
 funext P X o ev ob nb k
 unfold Uq kFn
 generalize ev f = s
 cases s <;> rfl
def Wu (s : SV) : Nat -> Nat -> Nat -> Nat -> TypeId -> OpK := @SV.rec (fun _ => Nat -> Nat -> Nat -> Nat -> TypeId -> OpK) (fun _ => PUnit) (fun _ _ _ _ _ => aC) (fun _ => fun _ _ _ _ _ => aC) (fun _ _ => fun _ _ _ _ _ => aC) (fun _ _ => fun _ _ _ _ _ => aC) (fun _ _ => fun _ _ _ _ _ => aC) (fun _ _ => fun _ _ _ _ _ => aC) (fun _ _ _ => fun _ _ _ _ _ => aC) (fun _ => fun _ _ _ _ _ => aC) (fun _ iv q z o' n t P X o ev ob nb k => oN (iaK P t) .fail fun z' => BR (Nat.beq z' z) (ltI iv n fun m => fN (Nat.add o' m) fun a => k (.rp q a z 0) ob nb) .fail) (fun _ => fun _ _ _ _ _ => aC) (fun _ _ _ _ => fun _ _ _ _ _ => aC) (fun _ _ _ _ => fun _ _ _ _ _ => aC) (fun _ _ _ _ _ => fun _ _ _ _ _ => aC) (fun _ => fun _ _ _ _ _ => aC) PUnit.unit (fun _ _ _ _ => PUnit.unit) s
def Xj (s : SV) : TypeId -> Operand -> OpK := @SV.rec (fun _ => TypeId -> Operand -> OpK) (fun _ => PUnit) (fun _ _ => aC) (fun _ => fun _ _ => aC) (fun _ _ => fun _ _ => aC) (fun _ _ => fun _ _ => aC) (fun _ _ => fun _ _ => aC) (fun _ _ => fun _ _ => aC) (fun _ _ _ => fun _ _ => aC) (fun _ => fun _ _ => aC) (fun _ _ => fun _ _ => aC) (fun _ => fun _ _ => aC) (fun _ _ _ _ => fun _ _ => aC) (fun _ _ _ _ => fun _ _ => aC) (fun q z o' n _ t i P X o ev ob nb k => Wu (ev i) q z o' n t P X o ev ob nb k) (fun _ => fun _ _ => aC) PUnit.unit (fun _ _ _ _ => PUnit.unit) s
def OH (t : TypeId) (x i : Operand) : OpK := fun P X o ev ob nb k => Xj (ev x) t i P X o ev ob nb k
theorem PY (t : TypeId) (x i : Operand) : OH t x i = GJ t x i := by
 funext P X o ev ob nb k
 unfold OH GJ
 generalize ev x = s
 cases s with
 | sl q z o' n c =>
   show Wu (ev i) q z o' n t P X o ev ob nb k = _
   generalize ev i = r
   cases r <;> rfl
 | _ => rfl
def WV (s : SV) : TypeId -> OpK := @SV.rec (fun _ => TypeId -> OpK) (fun _ => PUnit) (fun _ => aC) (fun _ => fun _ => aC) (fun _ _ => fun _ => aC) (fun _ _ => fun _ => aC) (fun _ _ => fun _ => aC) (fun _ _ => fun _ => aC) (fun _ _ _ => fun _ => aC) (fun _ => fun _ => aC) (fun _ _ => fun _ => aC) (fun _ => fun _ => aC) (fun _ _ _ _ => fun _ => aC) (fun _ _ _ _ => fun _ => aC) (fun _ _ _ n _ t P X o ev ob nb k => BR (RX P t) (k (.ki .i64 (.ofNat n)) ob nb) .fail) (fun _ => fun _ => aC) PUnit.unit (fun _ _ _ _ => PUnit.unit) s
def NW (t : TypeId) (x : Operand) : OpK := fun P X o ev ob nb k => WV (ev x) t P X o ev ob nb k
theorem Od (t : TypeId) (x : Operand) : NW t x = Ro t x := by
 funext P X o ev ob nb k
 unfold NW Ro
 generalize ev x = s
 cases s <;> rfl
def exE (s : SV) : Nat -> OpK := @SV.rec (fun _ => Nat -> OpK) (fun _ => PUnit) (fun _ => aC) (fun _ => fun _ => aC) (fun _ _ => fun _ => aC) (fun l _ i P X o ev ob nb k => H6 l i .fail fun s => k (nKS s) ob nb) (fun _ _ => fun _ => aC) (fun _ _ => fun _ => aC) (fun _ _ _ => fun _ => aC) (fun _ => fun _ => aC) (fun _ _ => fun _ => aC) (fun _ => fun _ => aC) (fun _ _ _ _ => fun _ => aC) (fun _ _ _ _ => fun _ => aC) (fun _ _ _ _ _ => fun _ => aC) (fun _ => fun _ => aC) PUnit.unit (fun _ _ _ _ => PUnit.unit) s
def UA (x : Operand) (i : Nat) : OpK := fun P X o ev ob nb k => exE (ev x) i P X o ev ob nb k
theorem RP (x : Operand) (i : Nat) : UA x i = pW x i := by
 funext P X o ev ob nb k
 unfold UA pW
 generalize ev x = s
 cases s <;> first | rfl | (simp only [exE, uN])
def unE (s : SV) : OpK := @SV.rec (fun _ => OpK) (fun _ => PUnit) (aC) (fun _ => aC) (fun _ _ => aC) (fun _ _ => aC) (fun _ _ => aC) (fun _ _ => aC) (fun _ _ _ => aC) (fun b P X o ev ob nb k => k (.kb (nB b)) ob nb) (fun _ _ => aC) (fun _ => aC) (fun _ _ _ _ => aC) (fun _ _ _ _ => aC) (fun _ _ _ _ _ => aC) (fun _ => aC) PUnit.unit (fun _ _ _ _ => PUnit.unit) s
def Wt (x : Operand) : OpK := fun P X o ev ob nb k => unE (ev x) P X o ev ob nb k
structure OBox where
 f : OpK
def unB (op : UnOp) (x : Operand) : OBox := match op with
 | .not => ⟨Wt x⟩
 | _ => ⟨aC⟩
theorem Ue (op : UnOp) (x : Operand) : (unB op x).f = kUn op x := by
 funext P X o ev ob nb k
 cases op
 case not =>
  show unE (ev x) P X o ev ob nb k = kUn .not x P X o ev ob nb k
  unfold kUn
  generalize ev x = s
  cases s <;> rfl
 all_goals
  show aC P X o ev ob nb k = kUn _ x P X o ev ob nb k
  unfold kUn
  generalize ev x = s
  cases s <;> rfl
def UL (b : Builtin) (as : List Operand) (ts : List TypeId) : OBox := match b, as, ts with
 | .len, [x], [t] => ⟨NW t x⟩
 | _, _, _ => ⟨aC⟩
theorem Sc (c : Call) (b : Builtin) : (UL b c.args.toList c.argTypes.toList).f = oJ c b := by
 unfold UL oJ
 split
 · rename_i x t _ _
   rw [Od]
   funext P X o ev ob nb k
   simp_all
 · rename_i h
   funext P X o ev ob nb k
   split
   · rename_i h1 h2 h3
     exact (h _ _ rfl h2 h3).elim
   · rfl
def NG (c : Call) : OBox := match c.callee with
 | .value f => ⟨Uq f c.args.toList⟩
 | .builtin b => UL b c.args.toList c.argTypes.toList
 | _ => ⟨aC⟩
theorem OL (c : Call) : (NG c).f = Gi c := by
 unfold NG Gi
 cases c.callee <;> first | exact RN _ _ | exact Sc c _ | rfl
def opB (o : Oper) : OBox := match o.op with
 | .move x => ⟨Dp x⟩
 | .assign x => ⟨Dp x⟩
 | .pick c a b => ⟨IJ c a b⟩
 | .alloc t => ⟨JB t⟩
 | .box t x => ⟨Tz t x⟩
 | .build t ps => ⟨Jo t ps⟩
 | .load t x => ⟨JE t x⟩
 | .store t p x => ⟨EH t p x⟩
 | .nilCheck x => ⟨OC x⟩
 | .binOp op t x y _ => ⟨O5 op x y⟩
 | .unOp op _ x => unB op x
 | .fieldAddr s x f => ⟨oH s x f⟩
 | .field t x f => ⟨Jc t x f⟩
 | .indexAddr t x i => ⟨OH t x i⟩
 | .index t x i => ⟨I5 t x i⟩
 | .lookup t x i ok => ⟨FB t x i ok⟩
 | .extract x i => ⟨UA x i⟩
 | .call c => NG c
 | .range t x => ⟨IZ t x⟩
 | .entry x => ⟨I7 x⟩
 | .next _ _ => ⟨failK⟩
 | _ => ⟨aC⟩
def opS (o : Oper) : OpK := (opB o).f
theorem UJ (o : Oper) : opS o = opG o := by
 unfold opS opB opG
 cases o.op <;> first | rfl | exact MG _ _ _ | exact MI _ _ | exact JQ _ _ _ | exact OW _ | exact OM _ _ _ | exact Ue _ _ | exact zm _ _ _ | exact PY _ _ _ | exact RP _ _ | exact OL _
def brE (s : SV) : R -> R -> R -> R := @SV.rec (fun _ => R -> R -> R -> R) (fun _ => PUnit) (fun _ _ c => c) (fun _ => fun _ _ c => c) (fun _ _ => fun _ _ c => c) (fun _ _ => fun _ _ c => c) (fun _ _ => fun _ _ c => c) (fun _ _ => fun _ _ c => c) (fun _ _ _ => fun _ _ c => c) (fun q a b _ => BR q a b) (fun _ _ => fun _ _ c => c) (fun _ => fun _ _ c => c) (fun _ _ _ _ => fun _ _ c => c) (fun _ _ _ _ => fun _ _ c => c) (fun _ _ _ _ _ => fun _ _ c => c) (fun _ => fun _ _ c => c) PUnit.unit (fun _ _ _ _ => PUnit.unit) s
theorem Uo (s : SV) (a b c : R) : brE s a b c = match s with
 | .kb q => BR q a b
 | _ => c := by cases s <;> rfl
end
end Rx
set_option linter.unusedSectionVars false
set_option linter.unusedSimpArgs false
set_option linter.unusedVariables false
namespace Rx
open Go
variable [Glob]
noncomputable section
abbrev KS := Tr SV -> OB -> Nat -> R
def evG (fl : Nat) (sl : Tr SV) (lo : Lo) : Ev := @Operand.rec (fun _ => SV) (fun t => view fl sl lo t) (fun v => nK (ofConst v)) (fun g => Q5 g) (fun f => .fn f [])
theorem JJ (fl : Nat) (sl : Tr SV) (lo : Lo) : evG fl sl lo = evC (view fl sl lo) := by
 funext x
 cases x <;> rfl
abbrev IH := Tr SV -> Lo -> OB -> Nat -> KS -> R
def Ei (fl : Nat) (d : Option Tmp) (ih : IH) (sl : Tr SV) (lo : Lo) (s : SV) (ob : OB) (nb : Nat) (k : KS) : R :=
 @Option.rec Tmp (fun _ => R) (ih sl lo ob nb k) (fun d => M6 s fun s => BR (gG fl d) (ih (qo sl d s) lo ob nb k) (ih sl (.cons d s lo) ob nb k)) d
def goG (P : Program) (X : EX) (fl : Nat) (o : Oper) (ih : IH) : IH := fun sl lo ob nb k =>
 opS o P X o (evG fl sl lo) ob nb fun s ob nb => Ei fl o.dst ih sl lo s ob nb k
def skG (fl : Nat) (o : Oper) (ih : IH) : IH := fun sl lo ob nb k => Ei fl o.dst ih sl lo dY ob nb k
def gdR (P : Program) (X : EX) (fl : Nat) (o : Oper) (ih : IH) (s : SV) : IH := fun sl lo ob nb k =>
    match s with
     | .dt (.cell (.tuple _)) => skG fl o ih sl lo ob nb k
     | _ => .fail
def gdT (P : Program) (X : EX) (fl : Nat) (o : Oper) (ih : IH) (w : Bool) (t : Tmp) : IH := fun sl lo ob nb k =>
    brE (view fl sl lo t) (BR w (goG P X fl o ih sl lo ob nb k) (skG fl o ih sl lo ob nb k)) (BR w (skG fl o ih sl lo ob nb k) (goG P X fl o ih sl lo ob nb k)) (gdR P X fl o ih (view fl sl lo t) sl lo ob nb k)
def gdG (P : Program) (X : EX) (fl : Nat) (ops : Array Oper) (o : Oper) (ih : IH) (g : Nat × Bool) : IH :=
    @Option.rec Tmp (fun _ => IH) (fun _ _ _ _ _ => .fail) (gdT P X fl o ih g.2) ((ops[g.1]?).bind (·.dst))
theorem UU (P : Program) (X : EX) (fl : Nat) (o : Oper) (ih : IH) (w : Bool) (t : Tmp) (sl : Tr SV) (lo : Lo) (ob : OB) (nb : Nat) (k : KS) : gdT P X fl o ih w t sl lo ob nb k = match view fl sl lo t with
     | .kb b => BR b (BR w (goG P X fl o ih sl lo ob nb k) (skG fl o ih sl lo ob nb k)) (BR w (skG fl o ih sl lo ob nb k) (goG P X fl o ih sl lo ob nb k))
     | .dt (.cell (.tuple _)) => skG fl o ih sl lo ob nb k
     | _ => .fail := by
 unfold gdT
 generalize view fl sl lo t = s
 cases s with
 | dt d => cases d with
   | cell v => cases v <;> rfl
   | _ => rfl
 | _ => rfl
theorem UG (P : Program) (X : EX) (fl : Nat) (ops : Array Oper) (o : Oper) (ih : IH) (g : Nat × Bool) (sl : Tr SV) (lo : Lo) (ob : OB) (nb : Nat) (k : KS) : gdG P X fl ops o ih g sl lo ob nb k = match (ops[g.1]?).bind (·.dst) with
   | none => .fail
   | some t => match view fl sl lo t with
     | .kb b => BR b (BR g.2 (goG P X fl o ih sl lo ob nb k) (skG fl o ih sl lo ob nb k)) (BR g.2 (skG fl o ih sl lo ob nb k) (goG P X fl o ih sl lo ob nb k))
     | .dt (.cell (.tuple _)) => skG fl o ih sl lo ob nb k
     | _ => .fail := by
 unfold gdG
 cases (ops[g.1]?).bind (·.dst) with
 | none => rfl
 | some t => exact UU P X fl o ih g.2 t sl lo ob nb k
def stG (P : Program) (X : EX) (fl : Nat) (ops : Array Oper) (o : Oper) (ih : IH) : IH :=
    @Option.rec (Nat × Bool) (fun _ => IH) (goG P X fl o ih) (gdG P X fl ops o ih) o.guard
def P9 (P : Program) (X : EX) (fl : Nat) (ops : Array Oper) (l : List Oper) : IH :=
 @List.rec Oper (fun _ => IH) (fun sl lo ob nb k => k sl ob nb) (fun o _ ih => stG P X fl ops o ih) l
def okD (N : Nat) (ops : Array Oper) : Bool := ops.toList.all fun o => fH N o.dst
theorem Ad {fl : Nat} {sl : Tr SV} {lo : Lo} {d : Nat} {s : SV} (hd : d < 16777215) : (gG fl d = true -> view fl (qo sl d s) lo = putT (some d) s (view fl sl lo)) /\ (gG fl d = false -> view fl sl (.cons d s lo) = putT (some d) s (view fl sl lo)) := by
 constructor
 · intro hb
   funext j
   show BS (gG fl j) (iB (qo sl d s) j) (look lo j) = lg (some d) j s (BS (gG fl j) (iB sl j) (look lo j))
   rw [aX, sw j hd]
   by_cases e : j = d
   · subst e; rw [hb, if_pos rfl, if_pos rfl]; rfl
   · rw [if_neg e, if_neg e]
 · intro hb
   funext j
   show BS (gG fl j) (iB sl j) (BS (Nat.beq d j) s (look lo j)) = lg (some d) j s (BS (gG fl j) (iB sl j) (look lo j))
   rw [aX]
   by_cases e : j = d
   · subst e; rw [hb, if_pos rfl, Nat.beq_refl]; rfl
   · rw [if_neg e, dM (fun h => e h.symm)]; rfl
def KS1 (fl : Nat) (post : SV × HD -> Prop) (ih : IH) (k : KS) (σ : CS) : Prop :=
 ∃ sl lo ob, σ = ⟨view fl sl lo, ⟨aB ob, σ.h.nob⟩⟩ /\ (ih sl lo ob σ.h.nob k).holds post
section
variable {E : CEnv} {X : EX} {fl : Nat} {post : SV × HD -> Prop}
theorem GQ {d : Option Tmp} {ih : IH} {sl : Tr SV} {lo : Lo} {s : SV} {ob : OB} {nb : Nat} {k : KS} (hd : fH E.N d = true) (hN : E.N <= 16777215) (h : (Ei fl d ih sl lo s ob nb k).holds post) :
  KS1 fl post ih k ⟨putT d s (view fl sl lo), ⟨aB ob, nb⟩⟩ := by
 cases d with
 | none => exact ⟨sl, lo, ob, rfl, h⟩
 | some d =>
   have hd : d < 16777215 := Nat.lt_of_lt_of_le (show d < E.N by simpa [fH, Nat.blt_eq] using hd) hN
   have h : (M6 s fun s => BR (gG fl d) (ih (qo sl d s) lo ob nb k) (ih sl (.cons d s lo) ob nb k)).holds post := h
   rw [Lm, dG] at h
   obtain ⟨h1, h2⟩ := Ad (fl := fl) (sl := sl) (lo := lo) (s := s) hd
   cases hb : gG fl d with
   | true => rw [hb] at h; exact ⟨_, lo, ob, by rw [← h1 hb], h⟩
   | false => rw [hb] at h; exact ⟨sl, _, ob, by rw [← h2 hb], h⟩
theorem Ec {o : Oper} {ih : IH} {sl : Tr SV} {lo : Lo} {ob : OB} {nb : Nat} {k : KS} {rid i : Nat} (hX : XRef X E) (hd : fH E.N o.dst = true) (hN : E.N <= 16777215) (hT : eU E.top nb) (hF : FOk ob nb)
  (h : (goG E.P X fl o ih sl lo ob nb k).holds post) : (bK E rid i (evC (view fl sl lo)) ⟨aB ob, nb⟩ o).holds fun y => KS1 fl post ih k ⟨putT o.dst y.1 (view fl sl lo), y.2⟩ := by
 unfold goG at h
 rw [JJ, UJ] at h
 refine T.aG (fun y hy => ?_) _ (QD hX hT hF h)
 obtain ⟨ob', h1, h2⟩ := hy
 have := GQ (E := E) hd hN h2
 have e : y.2 = ⟨aB ob', y.2.nob⟩ := by rw [← h1]
 rw [e]
 exact this
theorem Ea {ops : Array Oper} {o : Oper} {ih : IH} {sl : Tr SV} {lo : Lo} {ob : OB} {nb : Nat} {k : KS} {rid i : Nat} (hX : XRef X E) (hok : okD E.N ops = true) (hd : fH E.N o.dst = true) (hN : E.N <= 16777215) (hT : eU E.top nb) (hF : FOk ob nb)
  (h : (stG E.P X fl ops o ih sl lo ob nb k).holds post) : (stC E ops rid i o ⟨view fl sl lo, ⟨aB ob, nb⟩⟩).holds fun y => KS1 fl post ih k ⟨putT o.dst y.1 (view fl sl lo), y.2⟩ := by
 unfold stC
 rw [hd, cond_true]
 unfold stG at h
 cases hg : o.guard with
 | none => rw [hg] at h; exact Ec hX hd hN hT hF h
 | some g =>
   obtain ⟨j, want⟩ := g
   rw [hg] at h
   have h : (gdG E.P X fl ops o ih (j, want) sl lo ob nb k).holds post := h
   rw [UG] at h
   simp only at h ⊢
   have sk : (skG fl o ih sl lo ob nb k).holds post -> (T.ret (dY, (⟨aB ob, nb⟩ : HS)) : T (SV × HS)).holds fun y => KS1 fl post ih k ⟨putT o.dst y.1 (view fl sl lo), y.2⟩ := fun h => GQ (E := E) hd hN h
   split at h
   · exact h.elim
   · rename_i t ht
     simp only [ht]
     have hdt : fH E.N (some t) = true := by
        cases hj : ops[j]? with
        | none => rw [hj] at ht; cases ht
        | some oj =>
          rw [hj] at ht
          have hm : oj ∈ ops.toList := by simpa using Array.mem_of_getElem? hj
          have := List.all_eq_true.1 hok oj hm
          rw [show oj.dst = some t from ht] at this
          exact this
     rw [hdt, cond_true]
     split at h
     · rename_i b hb
       simp only [hb]
       rw [dG] at h
       cases b with
       | true =>
         rw [cond_true, dG] at h
         cases want with
         | true => exact Ec hX hd hN hT hF h
         | false => exact sk h
       | false =>
         rw [cond_false, dG] at h
         cases want with
         | true => exact sk h
         | false => exact Ec hX hd hN hT hF h
     · rename_i x hx
       simp only [hx]
       exact sk h
     · exact h.elim
theorem tJ (hE : E.Ok) {ops : Array Oper} {k : KS} {rid : Nat} (hX : XRef X E) (hok : okD E.N ops = true) (hN : E.N <= 16777215) : ∀ (l : List Oper) (i : Nat) (sl : Tr SV) (lo : Lo) (ob : OB) (nb : Nat), (∀ o ∈ l, fH E.N o.dst = true) -> eU E.top nb -> FOk ob nb ->
  (P9 E.P X fl ops l sl lo ob nb k).holds post -> (kX E ops rid i l ⟨view fl sl lo, ⟨aB ob, nb⟩⟩).holds (KS1 fl post (fun sl _ ob nb k => k sl ob nb) k)
 | [], i, sl, lo, ob, nb, _, _, _, h => ⟨sl, lo, ob, rfl, h⟩
 | o :: l, i, sl, lo, ob, nb, hd, hT, hF, h => by
   simp only [kX, T.ay]
   have h1 := Ea (rid := rid) (i := i) hX hok (hd o (by simp)) hN hT hF (show (stG E.P X fl ops o (P9 E.P X fl ops l) sl lo ob nb k).holds post from h)
   have h2 := T.bM (gU hE (ops := ops) (rid := rid) (i := i) o (σ := ⟨view fl sl lo, ⟨aB ob, nb⟩⟩) hF) h1
   refine T.aG (fun y hy => ?_) _ h2
   obtain ⟨⟨g1, g2, g3⟩, sl', lo', ob', e, hh⟩ := hy
   rw [e]
   have eh : y.2 = ⟨aB ob', y.2.nob⟩ := congrArg CS.h e
   have hT' : eU E.top y.2.nob := by
     have g3 : y.2.nob <= max E.top nb := g3
     have := hT.1
     exact ⟨by omega, hT.2⟩
   exact tJ hE hX hok hN l (i + 1) sl' lo' ob' y.2.nob (fun o ho => hd o (by simp [ho])) hT' (fun i hi => by
     have := g1 i hi
     rw [eh] at this
     exact this) hh
end
end
end Rx
