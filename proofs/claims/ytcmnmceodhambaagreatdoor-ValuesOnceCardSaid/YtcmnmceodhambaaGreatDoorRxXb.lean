/- Rx, part Xb: slim eliminators for the kernel: all arms are closed, so nothing is copied. Printed by gen/slim.py. -/
import Derived.Test.YtcmnmceodhambaaGreatDoorRxX2
set_option linter.unusedSectionVars false
set_option linter.unusedSimpArgs false
set_option linter.unusedVariables false
namespace Rx
open Go
variable [Glob]
noncomputable section
def andB (a b : Bool) : Bool := @Bool.rec (fun _ => Bool) false b a
theorem andB_eq (a b : Bool) : andB a b = (a && b) := by cases a <;> rfl
def failK : OpK := fun _ _ _ _ _ _ _ => .fail
def nKS (s : SV) : SV := @SV.rec (fun _ => SV) (fun _ => PUnit) (.junk) (fun d => nK (.dt d)) (fun x0 _ => .agg x0) (fun x0 _ => .tup x0) (fun x0 x1 => .ptr x0 x1) (fun x0 x1 => .el x0 x1) (fun x0 x1 _ => .fn x0 x1) (fun x0 => .kb x0) (fun x0 x1 => .ki x0 x1) (fun x0 => .nm x0) (fun x0 x1 x2 x3 => .rp x0 x1 x2 x3) (fun x0 x1 x2 x3 => .ri x0 x1 x2 x3) (fun x0 x1 x2 x3 x4 => .sl x0 x1 x2 x3 x4) (fun x0 => .sy x0) PUnit.unit (fun _ _ _ _ => PUnit.unit) s
theorem nKS_eq (s : SV) : nKS s = nK s := by cases s <;> rfl
def oneS (s : SV) : Bool := @SV.rec (fun _ => Bool) (fun _ => PUnit) (false) (fun d => oneSV (.dt d)) (fun _ _ => false) (fun _ _ => false) (fun _ _ => true) (fun _ _ => true) (fun _ _ _ => true) (fun _ => true) (fun _ _ => true) (fun _ => true) (fun _ _ _ _ => true) (fun _ _ _ _ => true) (fun _ _ _ _ _ => true) (fun _ => true) PUnit.unit (fun _ _ _ _ => PUnit.unit) s
theorem oneS_eq (s : SV) : oneS s = oneSV s := by cases s <;> rfl
def nilE (s : SV) : OpK := @SV.rec (fun _ => OpK) (fun _ => PUnit) (kGen) (fun _ => kGen) (fun _ _ => kGen) (fun _ _ => kGen) (fun i f P X o ev ob nb k => k (.ptr i f) ob nb) (fun _ _ => kGen) (fun _ _ _ => kGen) (fun _ => kGen) (fun _ _ => kGen) (fun _ => kGen) (fun i y z f P X o ev ob nb k => k (.rp i y z f) ob nb) (fun _ _ _ _ => kGen) (fun _ _ _ _ _ => kGen) (fun _ => kGen) PUnit.unit (fun _ _ _ _ => PUnit.unit) s
def kNilS (x : Operand) : OpK := fun P X o ev ob nb k => nilE (ev x) P X o ev ob nb k
theorem kNilS_eq (x : Operand) : kNilS x = kNil x := by
 funext P X o ev ob nb k
 unfold kNilS kNil
 generalize ev x = s
 cases s <;> rfl
def pickE (s : SV) : Operand → Operand → OpK := @SV.rec (fun _ => Operand → Operand → OpK) (fun _ => PUnit) (fun _ _ => kGen) (fun _ => fun _ _ => kGen) (fun _ _ => fun _ _ => kGen) (fun _ _ => fun _ _ => kGen) (fun _ _ => fun _ _ => kGen) (fun _ _ => fun _ _ => kGen) (fun _ _ _ => fun _ _ => kGen) (fun q a b P X o ev ob nb k => BR q (k (ev a) ob nb) (k (ev b) ob nb)) (fun _ _ => fun _ _ => kGen) (fun _ => fun _ _ => kGen) (fun _ _ _ _ => fun _ _ => kGen) (fun _ _ _ _ => fun _ _ => kGen) (fun _ _ _ _ _ => fun _ _ => kGen) (fun _ => fun _ _ => kGen) PUnit.unit (fun _ _ _ _ => PUnit.unit) s
def kPickS (c a b : Operand) : OpK := fun P X o ev ob nb k => pickE (ev c) a b P X o ev ob nb k
theorem kPickS_eq (c a b : Operand) : kPickS c a b = kPick c a b := by
 funext P X o ev ob nb k
 unfold kPickS kPick
 generalize ev c = s
 cases s <;> rfl
def ldOb (b : Ob) : TypeId → Nat → OpK := @Ob.rec (fun _ => TypeId → Nat → OpK) (fun _ cs t off P X o ev ob nb k => oB (ldK P t) .fail (kGen P X o ev ob nb k) (nthR cs off .fail fun s => k (nKS s) ob nb)) (fun _ _ _ _ => fun _ _ => failK) (fun _ => fun _ _ => failK) (fun _ _ _ => fun _ _ => failK) (fun _ _ _ => fun _ _ => failK) (fun _ _ _ _ _ => fun _ _ => failK) (fun _ _ _ => fun _ _ => failK) b
def ldPtr (x : Option Ob) : TypeId → Nat → OpK := @Option.rec Ob (fun _ => TypeId → Nat → OpK) (fun _ _ => failK) ldOb x
def ldRow (b : Ob) : TypeId → Nat → Nat → Nat → OpK := @Ob.rec (fun _ => TypeId → Nat → Nat → Nat → OpK) (fun _ _ => fun _ _ _ _ => kGen) (fun _ _ _ _ => fun _ _ _ _ => kGen) (fun _ => fun _ _ _ _ => kGen) (fun _ _ _ => fun _ _ _ _ => kGen) (fun _ _ _ => fun _ _ _ _ => kGen) (fun _ sz' len tr _ t idx sz off P X o ev ob nb k => oB (ldK P t) .fail (szK P t fun n => BR (andB (Nat.beq sz sz') (andB (Nat.ble (Nat.add off n) sz) (Nat.blt idx len))) (k (.agg (trListF tr n (Nat.add (Nat.mul idx sz) off))) ob nb) .fail) (BR (andB (Nat.beq sz sz') (andB (Nat.blt off sz) (Nat.blt idx len))) (k (nKS (getS tr (Nat.add (Nat.mul idx sz) off))) ob nb) .fail)) (fun _ _ _ => fun _ _ _ _ => kGen) b
def ldRp (x : Option Ob) : TypeId → Nat → Nat → Nat → OpK := @Option.rec Ob (fun _ => TypeId → Nat → Nat → Nat → OpK) (fun _ _ _ _ => kGen) ldRow x
def loadE (s : SV) : TypeId → OpK := @SV.rec (fun _ => TypeId → OpK) (fun _ => PUnit) (fun _ => kGen) (fun _ => fun _ => kGen) (fun _ _ => fun _ => kGen) (fun _ _ => fun _ => kGen) (fun i off t P X o ev ob nb k => ldPtr (getO ob i) t off P X o ev ob nb k) (fun _ _ => fun _ => kGen) (fun _ _ _ => fun _ => kGen) (fun _ => fun _ => kGen) (fun _ _ => fun _ => kGen) (fun _ => fun _ => kGen) (fun i idx sz off t P X o ev ob nb k => ldRp (getO ob i) t idx sz off P X o ev ob nb k) (fun _ _ _ _ => fun _ => kGen) (fun _ _ _ _ _ => fun _ => kGen) (fun _ => fun _ => kGen) PUnit.unit (fun _ _ _ _ => PUnit.unit) s
def kLoadS (t : TypeId) (x : Operand) : OpK := fun P X o ev ob nb k => loadE (ev x) t P X o ev ob nb k
theorem kLoadS_eq (t : TypeId) (x : Operand) : kLoadS t x = kLoad t x := by
 funext P X o ev ob nb k
 unfold kLoadS kLoad
 generalize ev x = s
 cases s with
 | ptr i off =>
   show ldPtr (getO ob i) t off P X o ev ob nb k = _
   simp only
   generalize getO ob i = y
   cases y with
   | none => rfl
   | some b => cases b <;> first | rfl | (simp only [ldPtr, ldOb, nKS_eq])
 | rp i idx sz off =>
   show ldRp (getO ob i) t idx sz off P X o ev ob nb k = _
   simp only
   generalize getO ob i = y
   cases y with
   | none => rfl
   | some b => cases b <;> first | rfl | (simp only [ldRp, ldRow, nKS_eq, andB_eq, Nat.add_eq])
 | _ => rfl
def stOb (b : Ob) : TypeId → Nat → Nat → SV → OpK := @Ob.rec (fun _ => TypeId → Nat → Nat → SV → OpK) (fun t' cs t i off xv P X o ev ob nb k => BR (isOne P t) (BR (oneS xv) (BR (andB (Nat.ble X.base i) (Nat.ble (Nat.succ off) cs.length)) (k .junk (setO ob i (some (.cells t' (lset cs off xv)))) nb) .fail) (kGen P X o ev ob nb k)) (kGen P X o ev ob nb k)) (fun _ _ _ _ => fun _ _ _ _ => failK) (fun _ => fun _ _ _ _ => failK) (fun _ _ _ => fun _ _ _ _ => failK) (fun _ _ _ => fun _ _ _ _ => failK) (fun _ _ _ _ _ => fun _ _ _ _ => failK) (fun _ _ _ => fun _ _ _ _ => failK) b
def stPtr (x : Option Ob) : TypeId → Nat → Nat → SV → OpK := @Option.rec Ob (fun _ => TypeId → Nat → Nat → SV → OpK) (fun _ _ _ _ => failK) stOb x
def storeE (s : SV) : TypeId → Operand → OpK := @SV.rec (fun _ => TypeId → Operand → OpK) (fun _ => PUnit) (fun _ _ => kGen) (fun _ => fun _ _ => kGen) (fun _ _ => fun _ _ => kGen) (fun _ _ => fun _ _ => kGen) (fun i off t x P X o ev ob nb k => stPtr (getO ob i) t i off (ev x) P X o ev ob nb k) (fun _ _ => fun _ _ => kGen) (fun _ _ _ => fun _ _ => kGen) (fun _ => fun _ _ => kGen) (fun _ _ => fun _ _ => kGen) (fun _ => fun _ _ => kGen) (fun _ _ _ _ => fun _ _ => kGen) (fun _ _ _ _ => fun _ _ => kGen) (fun _ _ _ _ _ => fun _ _ => kGen) (fun _ => fun _ _ => kGen) PUnit.unit (fun _ _ _ _ => PUnit.unit) s
def kStoreS (t : TypeId) (p x : Operand) : OpK := fun P X o ev ob nb k => storeE (ev p) t x P X o ev ob nb k
theorem kStoreS_eq (t : TypeId) (p x : Operand) : kStoreS t p x = kStore t p x := by
 funext P X o ev ob nb k
 unfold kStoreS kStore
 generalize ev p = s
 cases s with
 | ptr i off =>
   show stPtr (getO ob i) t i off (ev x) P X o ev ob nb k = _
   simp only
   generalize getO ob i = y
   cases y with
   | none => rfl
   | some b => cases b <;> first | rfl | (simp only [stPtr, stOb, oneS_eq, andB_eq, Nat.succ_eq_add_one])
 | _ => rfl
def faE (s : SV) : TypeId → Nat → OpK := @SV.rec (fun _ => TypeId → Nat → OpK) (fun _ => PUnit) (fun _ _ => kGen) (fun _ => fun _ _ => kGen) (fun _ _ => fun _ _ => kGen) (fun _ _ => fun _ _ => kGen) (fun i off s f P X o ev ob nb k => oN (faK P s f) .fail fun d => fN (Nat.add off d) fun a => k (.ptr i a) ob nb) (fun _ _ => fun _ _ => kGen) (fun _ _ _ => fun _ _ => kGen) (fun _ => fun _ _ => kGen) (fun _ _ => fun _ _ => kGen) (fun _ => fun _ _ => kGen) (fun i idx sz off s f P X o ev ob nb k => oN (faK P s f) .fail fun d => fN (Nat.add off d) fun a => k (.rp i idx sz a) ob nb) (fun _ _ _ _ => fun _ _ => kGen) (fun _ _ _ _ _ => fun _ _ => kGen) (fun _ => fun _ _ => kGen) PUnit.unit (fun _ _ _ _ => PUnit.unit) s
def kFieldAddrS (s : TypeId) (x : Operand) (f : Nat) : OpK := fun P X o ev ob nb k => faE (ev x) s f P X o ev ob nb k
theorem kFieldAddrS_eq (s : TypeId) (x : Operand) (f : Nat) : kFieldAddrS s x f = kFieldAddr s x f := by
 funext P X o ev ob nb k
 unfold kFieldAddrS kFieldAddr
 generalize ev x = s
 cases s <;> rfl
def binE (op : BinOp) : IntKind → Int → Int → R → (SV → R) → R := @BinOp.rec (fun _ => IntKind → Int → Int → R → (SV → R) → R) (fun k x y _ c => ariK k (Int.add x y) c) (fun k x y _ c => ariK k (Int.sub x y) c) (fun _ _ _ g _ => g) (fun _ _ _ g _ => g) (fun _ _ _ g _ => g) (fun _ _ _ g _ => g) (fun _ _ _ g _ => g) (fun _ _ _ g _ => g) (fun _ _ _ g _ => g) (fun _ _ _ g _ => g) (fun _ _ _ g _ => g) (fun _ x y _ c => c (.kb (eqI x y))) (fun _ x y _ c => c (.kb (nB (eqI x y)))) (fun _ x y _ c => c (.kb (lssI x y))) (fun _ x y _ c => c (.kb (nB (lssI y x)))) (fun _ x y _ c => c (.kb (lssI y x))) (fun _ x y _ c => c (.kb (nB (lssI x y)))) op
theorem binE_eq (op : BinOp) (k : IntKind) (x y : Int) (g : R) (c : SV → R) : binE op k x y g c = binK2 op k x y g c := by cases op <;> rfl
def binB (s : SV) : IntKind → Int → BinOp → OpK := @SV.rec (fun _ => IntKind → Int → BinOp → OpK) (fun _ => PUnit) (fun _ _ _ => kGen) (fun _ => fun _ _ _ => kGen) (fun _ _ => fun _ _ _ => kGen) (fun _ _ => fun _ _ _ => kGen) (fun _ _ => fun _ _ _ => kGen) (fun _ _ => fun _ _ _ => kGen) (fun _ _ _ => fun _ _ _ => kGen) (fun _ => fun _ _ _ => kGen) (fun kk' b kk a op P X o ev ob nb k => BR (sameK kk kk') (binE op kk a b (kGen P X o ev ob nb k) fun s => k s ob nb) .fail) (fun _ => fun _ _ _ => kGen) (fun _ _ _ _ => fun _ _ _ => kGen) (fun _ _ _ _ => fun _ _ _ => kGen) (fun _ _ _ _ _ => fun _ _ _ => kGen) (fun _ => fun _ _ _ => kGen) PUnit.unit (fun _ _ _ _ => PUnit.unit) s
def binA (s : SV) : BinOp → Operand → OpK := @SV.rec (fun _ => BinOp → Operand → OpK) (fun _ => PUnit) (fun _ _ => kGen) (fun _ => fun _ _ => kGen) (fun _ _ => fun _ _ => kGen) (fun _ _ => fun _ _ => kGen) (fun _ _ => fun _ _ => kGen) (fun _ _ => fun _ _ => kGen) (fun _ _ _ => fun _ _ => kGen) (fun _ => fun _ _ => kGen) (fun kk a op y P X o ev ob nb k => binB (ev y) kk a op P X o ev ob nb k) (fun _ => fun _ _ => kGen) (fun _ _ _ _ => fun _ _ => kGen) (fun _ _ _ _ => fun _ _ => kGen) (fun _ _ _ _ _ => fun _ _ => kGen) (fun _ => fun _ _ => kGen) PUnit.unit (fun _ _ _ _ => PUnit.unit) s
def kBinS (op : BinOp) (x y : Operand) : OpK := fun P X o ev ob nb k => BR (isNK y) (kGen P X o ev ob nb k) (binA (ev x) op y P X o ev ob nb k)
theorem kBinS_eq (op : BinOp) (x y : Operand) : kBinS op x y = kBin op x y := by
 funext P X o ev ob nb k
 unfold kBinS kBin
 congr 1
 generalize ev x = s
 cases s with
 | ki kk a =>
   show binB (ev y) kk a op P X o ev ob nb k = _
   generalize ev y = r
   cases r with
   | ki kk' b => show BR _ (binE _ _ _ _ _ _) _ = _; rw [binE_eq]
   | _ => rfl
 | _ => rfl
def fnX (s : SV) : List Operand → OpK := @SV.rec (fun _ => List Operand → OpK) (fun _ => PUnit) (fun _ => failK) (fun _ => fun _ => failK) (fun _ _ => fun _ => failK) (fun _ _ => fun _ => failK) (fun _ _ => fun _ => failK) (fun _ _ => fun _ => failK) (fun fk caps _ args P X o ev ob nb k => X.I X.top X.base fk (mapEv args ev caps) ob nb k) (fun _ => fun _ => failK) (fun _ _ => fun _ => failK) (fun _ => fun _ => failK) (fun _ _ _ _ => fun _ => failK) (fun _ _ _ _ => fun _ => failK) (fun _ _ _ _ _ => fun _ => failK) (fun _ => fun _ => failK) PUnit.unit (fun _ _ _ _ => PUnit.unit) s
def kFnS (f : Operand) (args : List Operand) : OpK := fun P X o ev ob nb k => fnX (ev f) args P X o ev ob nb k
theorem kFnS_eq (f : Operand) (args : List Operand) : kFnS f args = kFn f args := by
 funext P X o ev ob nb k
 unfold kFnS kFn
 generalize ev f = s
 cases s <;> rfl
def idxB (s : SV) : Nat → Nat → Nat → Nat → TypeId → OpK := @SV.rec (fun _ => Nat → Nat → Nat → Nat → TypeId → OpK) (fun _ => PUnit) (fun _ _ _ _ _ => kGen) (fun _ => fun _ _ _ _ _ => kGen) (fun _ _ => fun _ _ _ _ _ => kGen) (fun _ _ => fun _ _ _ _ _ => kGen) (fun _ _ => fun _ _ _ _ _ => kGen) (fun _ _ => fun _ _ _ _ _ => kGen) (fun _ _ _ => fun _ _ _ _ _ => kGen) (fun _ => fun _ _ _ _ _ => kGen) (fun _ iv q z o' n t P X o ev ob nb k => oN (iaK P t) .fail fun z' => BR (Nat.beq z' z) (ltI iv n fun m => fN (Nat.add o' m) fun a => k (.rp q a z 0) ob nb) .fail) (fun _ => fun _ _ _ _ _ => kGen) (fun _ _ _ _ => fun _ _ _ _ _ => kGen) (fun _ _ _ _ => fun _ _ _ _ _ => kGen) (fun _ _ _ _ _ => fun _ _ _ _ _ => kGen) (fun _ => fun _ _ _ _ _ => kGen) PUnit.unit (fun _ _ _ _ => PUnit.unit) s
def idxA (s : SV) : TypeId → Operand → OpK := @SV.rec (fun _ => TypeId → Operand → OpK) (fun _ => PUnit) (fun _ _ => kGen) (fun _ => fun _ _ => kGen) (fun _ _ => fun _ _ => kGen) (fun _ _ => fun _ _ => kGen) (fun _ _ => fun _ _ => kGen) (fun _ _ => fun _ _ => kGen) (fun _ _ _ => fun _ _ => kGen) (fun _ => fun _ _ => kGen) (fun _ _ => fun _ _ => kGen) (fun _ => fun _ _ => kGen) (fun _ _ _ _ => fun _ _ => kGen) (fun _ _ _ _ => fun _ _ => kGen) (fun q z o' n _ t i P X o ev ob nb k => idxB (ev i) q z o' n t P X o ev ob nb k) (fun _ => fun _ _ => kGen) PUnit.unit (fun _ _ _ _ => PUnit.unit) s
def kIdxS (t : TypeId) (x i : Operand) : OpK := fun P X o ev ob nb k => idxA (ev x) t i P X o ev ob nb k
theorem kIdxS_eq (t : TypeId) (x i : Operand) : kIdxS t x i = kIdxA t x i := by
 funext P X o ev ob nb k
 unfold kIdxS kIdxA
 generalize ev x = s
 cases s with
 | sl q z o' n c =>
   show idxB (ev i) q z o' n t P X o ev ob nb k = _
   generalize ev i = r
   cases r <;> rfl
 | _ => rfl
def lenE (s : SV) : TypeId → OpK := @SV.rec (fun _ => TypeId → OpK) (fun _ => PUnit) (fun _ => kGen) (fun _ => fun _ => kGen) (fun _ _ => fun _ => kGen) (fun _ _ => fun _ => kGen) (fun _ _ => fun _ => kGen) (fun _ _ => fun _ => kGen) (fun _ _ _ => fun _ => kGen) (fun _ => fun _ => kGen) (fun _ _ => fun _ => kGen) (fun _ => fun _ => kGen) (fun _ _ _ _ => fun _ => kGen) (fun _ _ _ _ => fun _ => kGen) (fun _ _ _ n _ t P X o ev ob nb k => BR (isSl P t) (k (.ki .i64 (.ofNat n)) ob nb) .fail) (fun _ => fun _ => kGen) PUnit.unit (fun _ _ _ _ => PUnit.unit) s
def kLenS (t : TypeId) (x : Operand) : OpK := fun P X o ev ob nb k => lenE (ev x) t P X o ev ob nb k
theorem kLenS_eq (t : TypeId) (x : Operand) : kLenS t x = kLen t x := by
 funext P X o ev ob nb k
 unfold kLenS kLen
 generalize ev x = s
 cases s <;> rfl
def exE (s : SV) : Nat → OpK := @SV.rec (fun _ => Nat → OpK) (fun _ => PUnit) (fun _ => kGen) (fun _ => fun _ => kGen) (fun _ _ => fun _ => kGen) (fun l _ i P X o ev ob nb k => nthR l i .fail fun s => k (nKS s) ob nb) (fun _ _ => fun _ => kGen) (fun _ _ => fun _ => kGen) (fun _ _ _ => fun _ => kGen) (fun _ => fun _ => kGen) (fun _ _ => fun _ => kGen) (fun _ => fun _ => kGen) (fun _ _ _ _ => fun _ => kGen) (fun _ _ _ _ => fun _ => kGen) (fun _ _ _ _ _ => fun _ => kGen) (fun _ => fun _ => kGen) PUnit.unit (fun _ _ _ _ => PUnit.unit) s
def kExS (x : Operand) (i : Nat) : OpK := fun P X o ev ob nb k => exE (ev x) i P X o ev ob nb k
theorem kExS_eq (x : Operand) (i : Nat) : kExS x i = kExtract x i := by
 funext P X o ev ob nb k
 unfold kExS kExtract
 generalize ev x = s
 cases s <;> first | rfl | (simp only [exE, nKS_eq])
def unE (s : SV) : OpK := @SV.rec (fun _ => OpK) (fun _ => PUnit) (kGen) (fun _ => kGen) (fun _ _ => kGen) (fun _ _ => kGen) (fun _ _ => kGen) (fun _ _ => kGen) (fun _ _ _ => kGen) (fun b P X o ev ob nb k => k (.kb (nB b)) ob nb) (fun _ _ => kGen) (fun _ => kGen) (fun _ _ _ _ => kGen) (fun _ _ _ _ => kGen) (fun _ _ _ _ _ => kGen) (fun _ => kGen) PUnit.unit (fun _ _ _ _ => PUnit.unit) s
def kNotS (x : Operand) : OpK := fun P X o ev ob nb k => unE (ev x) P X o ev ob nb k
structure OBox where
 f : OpK
def unB (op : UnOp) (x : Operand) : OBox := match op with
 | .not => ⟨kNotS x⟩
 | _ => ⟨kGen⟩
theorem unB_eq (op : UnOp) (x : Operand) : (unB op x).f = kUn op x := by
 funext P X o ev ob nb k
 cases op
 case not =>
  show unE (ev x) P X o ev ob nb k = kUn .not x P X o ev ob nb k
  unfold kUn
  generalize ev x = s
  cases s <;> rfl
 all_goals
  show kGen P X o ev ob nb k = kUn _ x P X o ev ob nb k
  unfold kUn
  generalize ev x = s
  cases s <;> rfl
def bltB (b : Builtin) (as : List Operand) (ts : List TypeId) : OBox := match b, as, ts with
 | .len, [x], [t] => ⟨kLenS t x⟩
 | _, _, _ => ⟨kGen⟩
theorem bltB_eq (c : Call) (b : Builtin) : (bltB b c.args.toList c.argTypes.toList).f = kBuiltin c b := by
 unfold bltB kBuiltin
 split
 · rename_i x t _ _
   rw [kLenS_eq]
   funext P X o ev ob nb k
   simp_all
 · rename_i h
   funext P X o ev ob nb k
   split
   · rename_i h1 h2 h3
     exact (h _ _ rfl h2 h3).elim
   · rfl
def callB (c : Call) : OBox := match c.callee with
 | .value f => ⟨kFnS f c.args.toList⟩
 | .builtin b => bltB b c.args.toList c.argTypes.toList
 | _ => ⟨kGen⟩
theorem callB_eq (c : Call) : (callB c).f = kCall c := by
 unfold callB kCall
 cases c.callee <;> first | exact kFnS_eq _ _ | exact bltB_eq c _ | rfl
def opB (o : Oper) : OBox := match o.op with
 | .move x => ⟨kMove x⟩
 | .assign x => ⟨kMove x⟩
 | .pick c a b => ⟨kPickS c a b⟩
 | .alloc t => ⟨kAlloc t⟩
 | .box t x => ⟨kBox t x⟩
 | .build t ps => ⟨kBuild t ps⟩
 | .load t x => ⟨kLoadS t x⟩
 | .store t p x => ⟨kStoreS t p x⟩
 | .nilCheck x => ⟨kNilS x⟩
 | .binOp op t x y _ => ⟨kBinS op x y⟩
 | .unOp op _ x => unB op x
 | .fieldAddr s x f => ⟨kFieldAddrS s x f⟩
 | .field t x f => ⟨kField t x f⟩
 | .indexAddr t x i => ⟨kIdxS t x i⟩
 | .index t x i => ⟨kIndex t x i⟩
 | .lookup t x i ok => ⟨kLookup t x i ok⟩
 | .extract x i => ⟨kExS x i⟩
 | .call c => callB c
 | .range t x => ⟨kRange t x⟩
 | .entry x => ⟨kEntry x⟩
 | .next _ _ => ⟨failK⟩
 | _ => ⟨kGen⟩
def opS (o : Oper) : OpK := (opB o).f
theorem opS_eq (o : Oper) : opS o = opG o := by
 unfold opS opB opG
 cases o.op <;> first | rfl | exact kPickS_eq _ _ _ | exact kLoadS_eq _ _ | exact kStoreS_eq _ _ _ | exact kNilS_eq _ | exact kBinS_eq _ _ _ | exact unB_eq _ _ | exact kFieldAddrS_eq _ _ _ | exact kIdxS_eq _ _ _ | exact kExS_eq _ _ | exact callB_eq _
def brE (s : SV) : R → R → R → R := @SV.rec (fun _ => R → R → R → R) (fun _ => PUnit) (fun _ _ c => c) (fun _ => fun _ _ c => c) (fun _ _ => fun _ _ c => c) (fun _ _ => fun _ _ c => c) (fun _ _ => fun _ _ c => c) (fun _ _ => fun _ _ c => c) (fun _ _ _ => fun _ _ c => c) (fun q a b _ => BR q a b) (fun _ _ => fun _ _ c => c) (fun _ => fun _ _ c => c) (fun _ _ _ _ => fun _ _ c => c) (fun _ _ _ _ => fun _ _ c => c) (fun _ _ _ _ _ => fun _ _ c => c) (fun _ => fun _ _ c => c) PUnit.unit (fun _ _ _ _ => PUnit.unit) s
theorem brE_eq (s : SV) (a b c : R) : brE s a b c = match s with
 | .kb q => BR q a b
 | _ => c := by cases s <;> rfl
end
end Rx
set_option linter.unusedSectionVars false
set_option linter.unusedSimpArgs false
set_option linter.unusedVariables false
namespace Rx
open Go
variable [Glob]
noncomputable section
abbrev KS := Tr SV → OB → Nat → R
def evG (fl : Nat) (sl : Tr SV) (lo : Lo) : Ev := @Operand.rec (fun _ => SV) (fun t => view fl sl lo t) (fun v => nK (ofConst v)) (fun g => glSV g) (fun f => .fn f [])
theorem evG_eq (fl : Nat) (sl : Tr SV) (lo : Lo) : evG fl sl lo = evC (view fl sl lo) := by
 funext x
 cases x <;> rfl
abbrev IH := Tr SV → Lo → OB → Nat → KS → R
def putG (fl : Nat) (d : Option Tmp) (ih : IH) (sl : Tr SV) (lo : Lo) (s : SV) (ob : OB) (nb : Nat) (k : KS) : R :=
 @Option.rec Tmp (fun _ => R) (ih sl lo ob nb k) (fun d => frcS s fun s => BR (bitC fl d) (ih (setS sl d s) lo ob nb k) (ih sl (.cons d s lo) ob nb k)) d
def goG (P : Program) (X : EX) (fl : Nat) (o : Oper) (ih : IH) : IH := fun sl lo ob nb k =>
 opS o P X o (evG fl sl lo) ob nb fun s ob nb => putG fl o.dst ih sl lo s ob nb k
def skG (fl : Nat) (o : Oper) (ih : IH) : IH := fun sl lo ob nb k => putG fl o.dst ih sl lo undefSV ob nb k
def gdR (P : Program) (X : EX) (fl : Nat) (o : Oper) (ih : IH) (s : SV) : IH := fun sl lo ob nb k =>
    match s with
     | .dt (.cell (.tuple _)) => skG fl o ih sl lo ob nb k
     | _ => .fail
def gdT (P : Program) (X : EX) (fl : Nat) (o : Oper) (ih : IH) (w : Bool) (t : Tmp) : IH := fun sl lo ob nb k =>
    brE (view fl sl lo t) (BR w (goG P X fl o ih sl lo ob nb k) (skG fl o ih sl lo ob nb k)) (BR w (skG fl o ih sl lo ob nb k) (goG P X fl o ih sl lo ob nb k)) (gdR P X fl o ih (view fl sl lo t) sl lo ob nb k)
def gdG (P : Program) (X : EX) (fl : Nat) (ops : Array Oper) (o : Oper) (ih : IH) (g : Nat × Bool) : IH :=
    @Option.rec Tmp (fun _ => IH) (fun _ _ _ _ _ => .fail) (gdT P X fl o ih g.2) ((ops[g.1]?).bind (·.dst))
theorem gdT_eq (P : Program) (X : EX) (fl : Nat) (o : Oper) (ih : IH) (w : Bool) (t : Tmp) (sl : Tr SV) (lo : Lo) (ob : OB) (nb : Nat) (k : KS) : gdT P X fl o ih w t sl lo ob nb k = match view fl sl lo t with
     | .kb b => BR b (BR w (goG P X fl o ih sl lo ob nb k) (skG fl o ih sl lo ob nb k)) (BR w (skG fl o ih sl lo ob nb k) (goG P X fl o ih sl lo ob nb k))
     | .dt (.cell (.tuple _)) => skG fl o ih sl lo ob nb k
     | _ => .fail := by
 unfold gdT
 generalize view fl sl lo t = s
 cases s with
 | dt d => cases d with
   | cell v => cases v <;> rfl
   | _ => rfl
 | _ => rfl
theorem gdG_eq (P : Program) (X : EX) (fl : Nat) (ops : Array Oper) (o : Oper) (ih : IH) (g : Nat × Bool) (sl : Tr SV) (lo : Lo) (ob : OB) (nb : Nat) (k : KS) : gdG P X fl ops o ih g sl lo ob nb k = match (ops[g.1]?).bind (·.dst) with
   | none => .fail
   | some t => match view fl sl lo t with
     | .kb b => BR b (BR g.2 (goG P X fl o ih sl lo ob nb k) (skG fl o ih sl lo ob nb k)) (BR g.2 (skG fl o ih sl lo ob nb k) (goG P X fl o ih sl lo ob nb k))
     | .dt (.cell (.tuple _)) => skG fl o ih sl lo ob nb k
     | _ => .fail := by
 unfold gdG
 cases (ops[g.1]?).bind (·.dst) with
 | none => rfl
 | some t => exact gdT_eq P X fl o ih g.2 t sl lo ob nb k
def stG (P : Program) (X : EX) (fl : Nat) (ops : Array Oper) (o : Oper) (ih : IH) : IH :=
    @Option.rec (Nat × Bool) (fun _ => IH) (goG P X fl o ih) (gdG P X fl ops o ih) o.guard
def opsG (P : Program) (X : EX) (fl : Nat) (ops : Array Oper) (l : List Oper) : IH :=
 @List.rec Oper (fun _ => IH) (fun sl lo ob nb k => k sl ob nb) (fun o _ ih => stG P X fl ops o ih) l
def okD (N : Nat) (ops : Array Oper) : Bool := ops.toList.all fun o => dstN N o.dst
theorem pickD_view {fl : Nat} {sl : Tr SV} {lo : Lo} {d : Nat} {s : SV} (hd : d < 16777215) : (bitC fl d = true → view fl (setS sl d s) lo = putT (some d) s (view fl sl lo)) ∧ (bitC fl d = false → view fl sl (.cons d s lo) = putT (some d) s (view fl sl lo)) := by
 constructor
 · intro hb
   funext j
   show BS (bitC fl j) (getS (setS sl d s) j) (look lo j) = pickD (some d) j s (BS (bitC fl j) (getS sl j) (look lo j))
   rw [pickD_some, getS_set j hd]
   by_cases e : j = d
   · subst e; rw [hb, if_pos rfl, if_pos rfl]; rfl
   · rw [if_neg e, if_neg e]
 · intro hb
   funext j
   show BS (bitC fl j) (getS sl j) (BS (Nat.beq d j) s (look lo j)) = pickD (some d) j s (BS (bitC fl j) (getS sl j) (look lo j))
   rw [pickD_some]
   by_cases e : j = d
   · subst e; rw [hb, if_pos rfl, Nat.beq_refl]; rfl
   · rw [if_neg e, beq_f (fun h => e h.symm)]; rfl
def KS1 (fl : Nat) (post : SV × HD → Prop) (ih : IH) (k : KS) (σ : CS) : Prop :=
 ∃ sl lo ob, σ = ⟨view fl sl lo, ⟨getO ob, σ.h.nob⟩⟩ ∧ (ih sl lo ob σ.h.nob k).holds post
section
variable {E : CEnv} {X : EX} {fl : Nat} {post : SV × HD → Prop}
theorem putG_ref {d : Option Tmp} {ih : IH} {sl : Tr SV} {lo : Lo} {s : SV} {ob : OB} {nb : Nat} {k : KS} (hd : dstN E.N d = true) (hN : E.N ≤ 16777215) (h : (putG fl d ih sl lo s ob nb k).holds post) :
  KS1 fl post ih k ⟨putT d s (view fl sl lo), ⟨getO ob, nb⟩⟩ := by
 cases d with
 | none => exact ⟨sl, lo, ob, rfl, h⟩
 | some d =>
   have hd : d < 16777215 := Nat.lt_of_lt_of_le (show d < E.N by simpa [dstN, Nat.blt_eq] using hd) hN
   have h : (frcS s fun s => BR (bitC fl d) (ih (setS sl d s) lo ob nb k) (ih sl (.cons d s lo) ob nb k)).holds post := h
   rw [frcS_eq, BR_eq] at h
   obtain ⟨h1, h2⟩ := pickD_view (fl := fl) (sl := sl) (lo := lo) (s := s) hd
   cases hb : bitC fl d with
   | true => rw [hb] at h; exact ⟨_, lo, ob, by rw [← h1 hb], h⟩
   | false => rw [hb] at h; exact ⟨sl, _, ob, by rw [← h2 hb], h⟩
theorem goG_ref {o : Oper} {ih : IH} {sl : Tr SV} {lo : Lo} {ob : OB} {nb : Nat} {k : KS} {rid i : Nat} (hX : XRef X E) (hd : dstN E.N o.dst = true) (hN : E.N ≤ 16777215) (hT : TopOk E.top nb) (hF : FOk ob nb)
  (h : (goG E.P X fl o ih sl lo ob nb k).holds post) : (cxOp E rid i (evC (view fl sl lo)) ⟨getO ob, nb⟩ o).holds fun y => KS1 fl post ih k ⟨putT o.dst y.1 (view fl sl lo), y.2⟩ := by
 unfold goG at h
 rw [evG_eq, opS_eq] at h
 refine T.holds_mono (fun y hy => ?_) _ (opG_ref hX hT hF h)
 obtain ⟨ob', h1, h2⟩ := hy
 have := putG_ref (E := E) hd hN h2
 have e : y.2 = ⟨getO ob', y.2.nob⟩ := by rw [← h1]
 rw [e]
 exact this
theorem stG_ref {ops : Array Oper} {o : Oper} {ih : IH} {sl : Tr SV} {lo : Lo} {ob : OB} {nb : Nat} {k : KS} {rid i : Nat} (hX : XRef X E) (hok : okD E.N ops = true) (hd : dstN E.N o.dst = true) (hN : E.N ≤ 16777215) (hT : TopOk E.top nb) (hF : FOk ob nb)
  (h : (stG E.P X fl ops o ih sl lo ob nb k).holds post) : (stC E ops rid i o ⟨view fl sl lo, ⟨getO ob, nb⟩⟩).holds fun y => KS1 fl post ih k ⟨putT o.dst y.1 (view fl sl lo), y.2⟩ := by
 unfold stC
 rw [hd, cond_true]
 unfold stG at h
 cases hg : o.guard with
 | none => rw [hg] at h; exact goG_ref hX hd hN hT hF h
 | some g =>
   obtain ⟨j, want⟩ := g
   rw [hg] at h
   have h : (gdG E.P X fl ops o ih (j, want) sl lo ob nb k).holds post := h
   rw [gdG_eq] at h
   simp only at h ⊢
   have sk : (skG fl o ih sl lo ob nb k).holds post → (T.ret (undefSV, (⟨getO ob, nb⟩ : HS)) : T (SV × HS)).holds fun y => KS1 fl post ih k ⟨putT o.dst y.1 (view fl sl lo), y.2⟩ := fun h => putG_ref (E := E) hd hN h
   split at h
   · exact h.elim
   · rename_i t ht
     simp only [ht]
     have hdt : dstN E.N (some t) = true := by
        cases hj : ops[j]? with
        | none => rw [hj] at ht; cases ht
        | some oj =>
          rw [hj] at ht
          have hm : oj ∈ ops.toList := by simpa using Array.mem_of_getElem? hj
          have := List.all_eq_true.1 hok oj hm
          rw [show oj.dst = some t from ht] at this
          exact this
     rw [hdt, cond_true]
     split at h
     · rename_i b hb
       simp only [hb]
       rw [BR_eq] at h
       cases b with
       | true =>
         rw [cond_true, BR_eq] at h
         cases want with
         | true => exact goG_ref hX hd hN hT hF h
         | false => exact sk h
       | false =>
         rw [cond_false, BR_eq] at h
         cases want with
         | true => exact sk h
         | false => exact goG_ref hX hd hN hT hF h
     · rename_i x hx
       simp only [hx]
       exact sk h
     · exact h.elim
theorem opsG_ref (hE : E.Ok) {ops : Array Oper} {k : KS} {rid : Nat} (hX : XRef X E) (hok : okD E.N ops = true) (hN : E.N ≤ 16777215) : ∀ (l : List Oper) (i : Nat) (sl : Tr SV) (lo : Lo) (ob : OB) (nb : Nat), (∀ o ∈ l, dstN E.N o.dst = true) → TopOk E.top nb → FOk ob nb →
  (opsG E.P X fl ops l sl lo ob nb k).holds post → (cxOps E ops rid i l ⟨view fl sl lo, ⟨getO ob, nb⟩⟩).holds (KS1 fl post (fun sl _ ob nb k => k sl ob nb) k)
 | [], i, sl, lo, ob, nb, _, _, _, h => ⟨sl, lo, ob, rfl, h⟩
 | o :: l, i, sl, lo, ob, nb, hd, hT, hF, h => by
   simp only [cxOps, T.holds_bind]
   have h1 := stG_ref (rid := rid) (i := i) hX hok (hd o (by simp)) hN hT hF (show (stG E.P X fl ops o (opsG E.P X fl ops l) sl lo ob nb k).holds post from h)
   have h2 := T.holds_good (stC_good hE (ops := ops) (rid := rid) (i := i) o (σ := ⟨view fl sl lo, ⟨getO ob, nb⟩⟩) hF) h1
   refine T.holds_mono (fun y hy => ?_) _ h2
   obtain ⟨⟨g1, g2, g3⟩, sl', lo', ob', e, hh⟩ := hy
   rw [e]
   have eh : y.2 = ⟨getO ob', y.2.nob⟩ := congrArg CS.h e
   have hT' : TopOk E.top y.2.nob := by
     have g3 : y.2.nob ≤ max E.top nb := g3
     have := hT.1
     exact ⟨by omega, hT.2⟩
   exact opsG_ref hE hX hok hN l (i + 1) sl' lo' ob' y.2.nob (fun o ho => hd o (by simp [ho])) hT' (fun i hi => by
     have := g1 i hi
     rw [eh] at this
     exact this) hh
end
end
end Rx
