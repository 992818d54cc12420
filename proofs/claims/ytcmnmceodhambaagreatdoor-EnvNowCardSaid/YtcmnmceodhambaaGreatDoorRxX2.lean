/- Rx, part X2: operations, for the kernel. -/
import Derived.Test.YtcmnmceodhambaaGreatDoorRxX1
set_option linter.unusedSectionVars false
set_option linter.unusedSimpArgs false
set_option linter.unusedVariables false
namespace Rx
open Go
variable [Glob]
noncomputable section
def Jh (l : List SV) : Nat -> R -> (SV -> R) -> R := @List.rec SV (fun _ => Nat -> R -> (SV -> R) -> R) (fun _ f _ => f) (fun s _ ih n f k => @Nat.rec (fun _ => R) (k s) (fun m _ => ih m f k) n) l
theorem yC : ∀ (l : List SV) (n : Nat) (f : R) (k : SV -> R), Jh l n f k = match l[n]? with
  | some s => k s
  | none => f
 | [], _, _, _ => rfl
 | s :: l, 0, _, _ => rfl
 | s :: l, n + 1, f, k => by
   show Jh l n f k = _
   rw [yC l n f k]
   simp
theorem yU {α : Type} (d : α) : ∀ (t : Tr α) (n : Nat), xu d t n = t.get d n
 | .nil, n => rfl
 | .node l v r, n => by
   rw [eD]
   simp only [Tr.get]
   by_cases h : n = 0
   · subst h; rfl
   · rw [dN h, cond_false, if_neg h]
     by_cases h2 : n % 2 = 1
     · rw [mq h2, cond_true, if_pos h2, yU d l]
     · rw [dN h2, cond_false, if_neg h2, yU d r]
theorem zL (t : Tr SV) (n : Nat) : iB t n = t.get .junk n := by rw [PK]; exact yU _ t n
def mX (tr : Tr SV) (n : Nat) : Nat -> List SV := @Nat.rec (fun _ => Nat -> List SV) (fun _ => []) (fun _ ih k => iB tr k :: ih (Nat.succ k)) n
theorem mQ (tr : Tr SV) : ∀ (n k : Nat), mX tr n k = dX tr k n
 | 0, _ => rfl
 | n + 1, k => by
   show iB tr k :: mX tr n (Nat.succ k) = _
   rw [mQ tr n, zL]
   rfl
theorem zN {α : Type} (d : α) : ∀ (a b n : Nat) (v : α), n < 2 ^ a - 1 -> n < 2 ^ b - 1 -> BJ d a n v = Tr.set d b .nil n v
 | 0, _, n, _, h, _ => by simp at h
 | _ + 1, 0, n, _, _, h => by simp at h
 | a + 1, b + 1, n, v, h1, h2 => by
   have hp : 2 ^ (a + 1) = 2 * 2 ^ a := by rw [Nat.pow_succ, Nat.mul_comm]
   have hq : 2 ^ (b + 1) = 2 * 2 ^ b := by rw [Nat.pow_succ, Nat.mul_comm]
   rw [CX]
   simp only [Tr.set]
   by_cases h : n = 0
   · subst h; rfl
   · rw [dN h, cond_false, if_neg h]
     by_cases h3 : n % 2 = 1
     · rw [mq h3, cond_true, if_pos h3, zN d a b (n / 2) v (by omega) (by omega)]
     · rw [dN h3, cond_false, if_neg h3, zN d a b (n / 2 - 1) v (by omega) (by omega)]
theorem AJ {α : Type} (d : α) : ∀ (t : Tr α) (b n : Nat) (v : α), n < 2 ^ b - 1 -> b <= 24 -> zx d t n v = Tr.set d b t n v
 | .nil, b, n, v, h, hb => zN d 24 b n v (by
   have : 2 ^ b <= 2 ^ 24 := Nat.pow_le_pow_right (by omega) hb
   omega) h
 | .node l x r, 0, n, v, h, _ => by simp at h
 | .node l x r, b + 1, n, v, h, hb => by
   have hq : 2 ^ (b + 1) = 2 * 2 ^ b := by rw [Nat.pow_succ, Nat.mul_comm]
   rw [Dc]
   simp only [Tr.set]
   by_cases h0 : n = 0
   · subst h0; rfl
   · rw [dN h0, cond_false, if_neg h0]
     by_cases h3 : n % 2 = 1
     · rw [mq h3, cond_true, if_pos h3, AJ d l b (n / 2) v (by omega) (by omega)]
     · rw [dN h3, cond_false, if_neg h3, AJ d r b (n / 2 - 1) v (by omega) (by omega)]
theorem Qr {t : Tr SV} {n : Nat} {v : SV} (h : n < 65535) : oF t n v = Tr.set .junk CAP t n v := by
 rw [Ph]; exact AJ _ t CAP n v (by simpa [CAP] using h) (by simp [CAP])
def Qc (l : List SV) : Tr SV -> Nat -> Tr SV := @List.rec SV (fun _ => Tr SV -> Nat -> Tr SV) (fun t _ => t) (fun s _ ih t k => ih (oF t k s) (Nat.succ k)) l
theorem Nl : ∀ (l : List SV) (t : Tr SV) (k : Nat), k + l.length <= 65535 -> Qc l t k = jc t k l
 | [], _, _, _ => rfl
 | s :: l, t, k, h => by
   simp only [List.length_cons] at h
   show Qc l (oF t k s) (Nat.succ k) = jc (t.set .junk CAP k s) (k + 1) l
   rw [Nl l _ _ (by omega), Qr (by omega)]
def Rv (l : List SV) : Nat -> SV -> List SV := @List.rec SV (fun _ => Nat -> SV -> List SV) (fun _ _ => []) (fun x l ih n v => @Nat.rec (fun _ => List SV) (v :: l) (fun m _ => x :: ih m v) n) l
theorem K9 : ∀ (l : List SV) (n : Nat) (v : SV), n + 1 <= l.length -> Rv l n v = splice l n [v]
 | [], _, _, h => by simp at h
 | x :: l, 0, v, _ => by simp [splice]; rfl
 | x :: l, n + 1, v, h => by
   show x :: Rv l n v = _
   rw [K9 l n v (by simpa using h)]
   simp [splice]
def oB (o : Option Bool) (n a b : R) : R := @Option.rec Bool (fun _ => R) n (fun q => BR q a b) o
theorem MF (o : Option Bool) (n a b : R) : oB o n a b = match o with
  | none => n
  | some q => bif q then a else b := by
 cases o
 · rfl
 · exact dI _ _ _
def oN (o : Option Nat) (n : R) (f : Nat -> R) : R := @Option.rec Nat (fun _ => R) n f o
theorem Pw (o : Option Nat) (n : R) (f : Nat -> R) : oN o n f = match o with
  | none => n
  | some q => f q := by cases o <;> rfl
def ldK (P : Program) (t : TypeId) : Option Bool := match nP P t, bD P t with
 | some b, some _ => some b
 | _, _ => none
def Lx (P : Program) (t : TypeId) : Bool := match bD P t with
 | some n => Nat.beq n 1
 | none => false
def aB : OpK := fun P X o ev ob nb k => vQ X (cxE P ev (aA ob) nb o) ob nb k
def CW (x : Operand) : OpK := fun P X o ev ob nb k => k (ev x) ob nb
def Oe (x : Operand) : OpK := fun P X o ev ob nb k => match ev x with
 | .ptr i f => k (.ptr i f) ob nb
 | .rp i y z f => k (.rp i y z f) ob nb
 | _ => aB P X o ev ob nb k
def Jk (c a b : Operand) : OpK := fun P X o ev ob nb k => match ev c with
 | .kb q => BR q (k (ev a) ob nb) (k (ev b) ob nb)
 | _ => aB P X o ev ob nb k
def szK (P : Program) (t : TypeId) (f : Nat -> R) : R := match bD P t with
 | some n => f n
 | none => .fail
def Cq (t : TypeId) (x : Operand) : OpK := fun P X o ev ob nb k => match ev x with
 | .ptr i off => match aA ob i with
   | some (.cells _ cs) => oB (ldK P t) .fail (aB P X o ev ob nb k) (Jh cs off .fail fun s => k (nK s) ob nb)
   | _ => .fail
 | .rp i idx sz off => match aA ob i with
   | some (.vec _ sz' len tr _) => oB (ldK P t) .fail
       (szK P t fun n => BR (Nat.beq sz sz' && (Nat.ble (off + n) sz && Nat.blt idx len)) (k (.agg (mX tr n (Nat.add (Nat.mul idx sz) off))) ob nb) .fail)
       (BR (Nat.beq sz sz' && (Nat.blt off sz && Nat.blt idx len)) (k (nK (iB tr (Nat.add (Nat.mul idx sz) off))) ob nb) .fail)
   | _ => aB P X o ev ob nb k
 | _ => aB P X o ev ob nb k
def uI (t : TypeId) (p x : Operand) : OpK := fun P X o ev ob nb k => match ev p with
 | .ptr i off => match aA ob i with
   | some (.cells t' cs) => BR (Lx P t) (BR (d9 (ev x)) (BR (Nat.ble X.base i && Nat.ble (off + 1) cs.length) (k .junk (lV ob i (some (.cells t' (Rv cs off (ev x))))) nb) .fail) (aB P X o ev ob nb k)) (aB P X o ev ob nb k)
   | _ => .fail
 | _ => aB P X o ev ob nb k
def faK (P : Program) (s : TypeId) (f : Nat) : Option Nat := match kR P s f with
 | some fl => (match bD P fl.type with
   | some (_ + 1) => some fl.offset
   | _ => none)
 | none => none
def kL (s : TypeId) (x : Operand) (f : Nat) : OpK := fun P X o ev ob nb k => match ev x with
 | .ptr i off => oN (faK P s f) .fail fun d => fN (Nat.add off d) fun a => k (.ptr i a) ob nb
 | .rp i idx sz off => oN (faK P s f) .fail fun d => fN (Nat.add off d) fun a => k (.rp i idx sz a) ob nb
 | _ => aB P X o ev ob nb k
def Aq (x y : Int) : Bool := @Int.rec (fun _ => Bool) (fun m => @Int.rec (fun _ => Bool) (fun n => Nat.ble (Nat.succ m) n) (fun _ => false) y) (fun m => @Int.rec (fun _ => Bool) (fun _ => true) (fun n => Nat.ble (Nat.succ n) m) y) x
theorem qz (x y : Int) : Aq x y = decide (x < y) := by
 cases x with
 | ofNat m => cases y with
   | ofNat n =>
     show Nat.ble (m + 1) n = _
     rw [Bool.eq_iff_iff, decide_eq_true_eq]
     constructor
     · intro h; have := Nat.le_of_ble_eq_true h; simp; omega
     · intro h; apply Nat.ble_eq_true_of_le; simp at h; omega
   | negSucc n => show false = _; simp; omega
 | negSucc m => cases y with
   | ofNat n => show true = _; simp; omega
   | negSucc n =>
     show Nat.ble (n + 1) m = _
     rw [Bool.eq_iff_iff, decide_eq_true_eq]
     constructor
     · intro h; have := Nat.le_of_ble_eq_true h; omega
     · intro h; apply Nat.ble_eq_true_of_le; omega
def eqI (x y : Int) : Bool := @Int.rec (fun _ => Bool) (fun m => @Int.rec (fun _ => Bool) (fun n => Nat.beq m n) (fun _ => false) y) (fun m => @Int.rec (fun _ => Bool) (fun _ => false) (fun n => Nat.beq m n) y) x
theorem vL (x y : Int) : eqI x y = decide (x = y) := by
 cases x with
 | ofNat m => cases y with
   | ofNat n =>
     show Nat.beq m n = _
     by_cases h : m = n
     · subst h; simp [Nat.beq_refl]
     · rw [dN h]; simp; omega
   | negSucc n => show false = _; simp
 | negSucc m => cases y with
   | ofNat n => show false = _; simp
   | negSucc n =>
     show Nat.beq m n = _
     by_cases h : m = n
     · subst h; simp [Nat.beq_refl]
     · rw [dN h]; simp; omega
def nB (b : Bool) : Bool := @Bool.rec (fun _ => Bool) true false b
theorem K6 (b : Bool) : nB b = !b := by cases b <;> rfl
def M6 (k : IntKind) (z : Int) (c : SV -> R) : R := fI z fun z => BR (Aq z (lo k)) .fail (BR (Aq (hi k) z) .fail (c (.ki k z)))
def dR (a b : IntKind) : Bool := decide (a = b)
def K8 (op : BinOp) (k : IntKind) (x y : Int) (gen : R) (c : SV -> R) : R := match op with
 | .add => M6 k (Int.add x y) c
 | .sub => M6 k (Int.sub x y) c
 | .eql => c (.kb (eqI x y))
 | .neq => c (.kb (nB (eqI x y)))
 | .lss => c (.kb (Aq x y))
 | .gtr => c (.kb (Aq y x))
 | .leq => c (.kb (nB (Aq y x)))
 | .geq => c (.kb (nB (Aq x y)))
 | _ => gen
def Sq (y : Operand) : Bool := match Eb y with
 | some _ => true
 | none => false
def Om (op : BinOp) (x y : Operand) : OpK := fun P X o ev ob nb k => BR (Sq y) (aB P X o ev ob nb k) (match ev x, ev y with
 | .ki kk a, .ki kk' b => BR (dR kk kk') (K8 op kk a b (aB P X o ev ob nb k) fun s => k s ob nb) .fail
 | _, _ => aB P X o ev ob nb k)
def LZ (l : List Operand) (ev : Ev) (c : List SV) : List SV := @List.rec Operand (fun _ => List SV) c (fun x _ ih => ev x :: ih) l
theorem H6 (ev : Ev) (c : List SV) : ∀ l : List Operand, LZ l ev c = l.map ev ++ c
 | [] => rfl
 | x :: l => by
   show ev x :: LZ l ev c = _
   rw [H6 ev c l]; rfl
def kFn (f : Operand) (args : List Operand) : OpK := fun P X o ev ob nb k => match ev f with
 | .fn fk caps => X.I X.top X.base fk (LZ args ev caps) ob nb k
 | _ => .fail
def iaK (P : Program) (t : TypeId) : Option Nat := match P.underlying t with
 | some (.slice e) => bD P e
 | _ => none
def ltI (i : Int) (n : Nat) (f : Nat -> R) : R := @Int.rec (fun _ => R) (fun m => BR (Nat.ble (Nat.succ m) n) (f m) .fail) (fun _ => .fail) i
theorem U0 (i : Int) (n : Nat) (f : Nat -> R) : ltI i n f = bif decide (0 <= i) && decide (i < (n : Int)) then f i.toNat else .fail := by
 cases i with
 | ofNat m =>
   show BR (Nat.ble (m + 1) n) (f m) .fail = _
   rw [dI]
   have h1 : decide (0 <= Int.ofNat m) = true := by simp
   rw [h1, Bool.true_and]
   congr 1
   rw [Bool.eq_iff_iff, decide_eq_true_eq]
   constructor
   · intro h; have := Nat.le_of_ble_eq_true h; simp; omega
   · intro h; apply Nat.ble_eq_true_of_le; simp at h; omega
 | negSucc m => rfl
def I4 (t : TypeId) (x i : Operand) : OpK := fun P X o ev ob nb k => match ev x, ev i with
 | .sl q z o' n c, .ki _ iv => oN (iaK P t) .fail fun z' => BR (Nat.beq z' z) (ltI iv n fun m => fN (Nat.add o' m) fun a => k (.rp q a z 0) ob nb) .fail
 | _, _ => aB P X o ev ob nb k
def Sc (P : Program) (t : TypeId) : Bool := match P.underlying t with
 | some (.slice _) => true
 | _ => false
def YL (P : Program) (t : TypeId) : Bool := match P.underlying t with
 | some .string => true
 | _ => false
def Ta (t : TypeId) (x : Operand) : OpK := fun P X o ev ob nb k => match ev x with
 | .sl _ _ _ n _ => BR (Sc P t) (k (.ki .i64 (.ofNat n)) ob nb) .fail
 | _ => aB P X o ev ob nb k
def pG (x : Operand) (i : Nat) : OpK := fun P X o ev ob nb k => match ev x with
 | .tup l => Jh l i .fail fun s => k (nK s) ob nb
 | _ => aB P X o ev ob nb k
def JE (t : TypeId) : OpK := fun P X o ev ob nb k => vQ X (match zeroOf P t with
    | some cs => .ret ⟨.ptr nb 0, ⟨[(nb, some (.cells t cs))], [nb]⟩⟩
    | none => .fail) ob nb k
def UO (t : TypeId) (x : Operand) : OpK := fun P X o ev ob nb k => vQ X (match dA (nrm (ev x)) with
    | some cs => .ret ⟨.ptr nb 0, ⟨[(nb, some (.cells t cs))], [nb]⟩⟩
    | none => .fail) ob nb k
def JR (t : TypeId) (ps : Array (Nat × Operand)) : OpK := fun P X o ev ob nb k => vQ X ((jJ P t (ps.toList.map fun p => (p.1, nrm (ev p.2)))).bind fun s => .ret ⟨s, .none⟩) ob nb k
def kUn (op : UnOp) (x : Operand) : OpK := fun P X o ev ob nb k => match op, ev x with
 | .not, .kb b => k (.kb (nB b)) ob nb
 | _, _ => aB P X o ev ob nb k
def JG (t : TypeId) (x : Operand) (f : Nat) : OpK := fun P X o ev ob nb k => vQ X ((mZ P t (ev x) f).bind jH) ob nb k
def Ju (t : TypeId) (x i : Operand) : OpK := fun P X o ev ob nb k => vQ X ((vk P t (ev x) (ev i)).bind jH) ob nb k
def Gl (t : TypeId) (x i : Operand) (ok : Bool) : OpK := fun P X o ev ob nb k => vQ X ((fO P (aA ob) t (ev x) (nrm (ev i)) ok).bind jH) ob nb k
def oQ (c : Call) (b : Builtin) : OpK := fun P X o ev ob nb k => match b, c.args.toList, c.argTypes.toList with
 | .len, [x], [t] => Ta t x P X o ev ob nb k
 | _, _, _ => aB P X o ev ob nb k
def Im (c : Call) : OpK := match c.callee with
 | .value f => kFn f c.args.toList
 | .builtin b => oQ c b
 | _ => aB
def Jr (t : TypeId) (x : Operand) : OpK := fun P X o ev ob nb k => vQ X (uR P (aA ob) nb t (ev x)) ob nb k
def Jw (x : Operand) : OpK := fun P X o ev ob nb k => vQ X (Az (aA ob) (ev x)) ob nb k
def opG (o : Oper) : OpK := match o.op with
 | .move x => CW x
 | .assign x => CW x
 | .pick c a b => Jk c a b
 | .alloc t => JE t
 | .box t x => UO t x
 | .build t ps => JR t ps
 | .load t x => Cq t x
 | .store t p x => uI t p x
 | .nilCheck x => Oe x
 | .binOp op t x y _ => Om op x y
 | .unOp op _ x => kUn op x
 | .fieldAddr s x f => kL s x f
 | .field t x f => JG t x f
 | .indexAddr t x i => I4 t x i
 | .index t x i => Ju t x i
 | .lookup t x i ok => Gl t x i ok
 | .extract x i => pG x i
 | .call c => Im c
 | .range t x => Jr t x
 | .entry x => Jw x
 | .next _ _ => fun _ _ _ _ _ _ _ => .fail
 | _ => aB
def IRef (I : II) (J : Nat -> Nat -> FuncId -> List SV -> HS -> T (SV × HS)) : Prop :=
 ∀ top base f al ob nb k post, FOk ob nb -> eP top nb -> (I top base f al ob nb k).holds post -> (J top base f al ⟨aA ob, nb⟩).holds (KP post k)
structure XRef (X : EX) (E : CEnv) : Prop where
 I : IRef X.I E.I
 top : X.top = E.top
 base : X.base = E.base
 W : X.W = E.win
 K : ∀ rid i, E.K rid i = none
theorem dM {E : CEnv} {ob : OB} {nb : Nat} {k : KK} {post : SV × HD -> Prop} (hT : eP E.top nb) {s : SV} (h : (k s ob nb).holds post) : (lift E ⟨aA ob, nb⟩ (.ret ⟨s, .none⟩)).holds (KP post k) := by
 have hc : jF E ⟨aA ob, nb⟩ Eff.none = true := vN E (h := ⟨aA ob, nb⟩) hT.1
 show T.holds _ (bif jF E ⟨aA ob, nb⟩ Eff.none then T.ret (s, (⟨aA ob, nb⟩ : HS).eff .none) else .fail)
 rw [hc]
 exact ⟨ob, rfl, h⟩
section
variable {E : CEnv} {X : EX} {o : Oper} {ev : Ev} {ob : OB} {nb : Nat} {k : KK} {post : SV × HD -> Prop} {rid i : Nat}
theorem zS (hX : XRef X E) (hT : eP E.top nb) (h : (aB E.P X o ev ob nb k).holds post) : (lift E ⟨aA ob, nb⟩ (cxE E.P ev (aA ob) nb o)).holds (KP post k) :=
 fM hX.top hX.base hT h
theorem Ni (hX : XRef X E) (hT : eP E.top nb) {t : TypeId} {x : Operand} (ho : o.op = .load t x) (h : (Cq t x E.P X o ev ob nb k).holds post) : (lift E ⟨aA ob, nb⟩ (cxE E.P ev (aA ob) nb o)).holds (KP post k) := by
 have gen := zS (o := o) (ev := ev) (ob := ob) (k := k) (post := post) hX hT
 have eC : cxE E.P ev (aA ob) nb o = (fC E.P (aA ob) t (ev x)).bind jH := by unfold cxE; simp only [ho]
 have fin : ∀ s, fC E.P (aA ob) t (ev x) = .ret s -> (k (nK s) ob nb).holds post -> (lift E ⟨aA ob, nb⟩ (cxE E.P ev (aA ob) nb o)).holds (KP post k) := by
  intro s hs hk
  rw [eC, hs]
  exact dM hT hk
 unfold Cq at h
 split at h
 · rename_i i off hx
   split at h
   · rename_i t' cs hg
     rw [MF] at h
     unfold ldK at h
     cases ha : nP E.P t with
     | none => simp only [ha] at h; exact h.elim
     | some b =>
       cases hz : bD E.P t with
       | none => simp only [ha, hz] at h; exact h.elim
       | some n =>
         simp only [ha, hz] at h
         cases b with
         | true => exact gen h
         | false =>
           rw [cond_false, yC] at h
           split at h
           · rename_i s hs
             exact fin s (by simp only [fC, hx, fJ, ha, hz, hg, hs]) h
           · exact h.elim
   · exact h.elim
 · rename_i i idx sz off hx
   split at h
   · rename_i t' sz' len tr ex hg
     rw [MF] at h
     unfold ldK at h
     cases ha : nP E.P t with
     | none => simp only [ha] at h; exact h.elim
     | some b =>
       cases hz : bD E.P t with
       | none => simp only [ha, hz] at h; exact h.elim
       | some n =>
         simp only [ha, hz] at h
         cases b with
         | true =>
           unfold szK at h
           simp only [hz, cond_true] at h
           rw [dI] at h
           cases hb : (Nat.beq sz sz' && (Nat.ble (off + n) sz && Nat.blt idx len)) with
           | false => rw [hb] at h; exact h.elim
           | true =>
             rw [hb, cond_true, mQ] at h
             exact fin (.agg (dX tr (idx * sz + off) n)) (by simp only [fC, hx, ha, hz, hg, hb]; rfl) h
         | false =>
           rw [cond_false, dI] at h
           cases hb : (Nat.beq sz sz' && (Nat.blt off sz && Nat.blt idx len)) with
           | false => rw [hb] at h; exact h.elim
           | true =>
             rw [hb, cond_true, zL] at h
             exact fin _ (by simp only [fC, hx, ha, hz, hg, hb]; rfl) h
   · exact gen h
 · exact gen h
theorem KF (hX : XRef X E) (hT : eP E.top nb) (hF : FOk ob nb) {t : TypeId} {p x : Operand} (ho : o.op = .store t p x) (h : (uI t p x E.P X o ev ob nb k).holds post) : (lift E ⟨aA ob, nb⟩ (cxE E.P ev (aA ob) nb o)).holds (KP post k) := by
 have gen := zS (o := o) (ev := ev) (ob := ob) (k := k) (post := post) hX hT
 have eC : cxE E.P ev (aA ob) nb o = rF E.P (aA ob) t (ev p) (ev x) := by unfold cxE; simp only [ho]
 unfold uI at h
 split at h
 · rename_i i off hp
   split at h
   · rename_i t' cs hg
     rw [dI] at h
     cases h1 : Lx E.P t with
     | false => rw [h1] at h; exact gen h
     | true =>
       rw [h1, cond_true, dI] at h
       cases h2 : d9 (ev x) with
       | false => rw [h2] at h; exact gen h
       | true =>
         rw [h2, cond_true, dI] at h
         cases h3 : (Nat.ble X.base i && Nat.ble (off + 1) cs.length) with
         | false => rw [h3] at h; exact h.elim
         | true =>
           rw [h3, cond_true] at h
           simp only [Bool.and_eq_true] at h3
           have hz : bD E.P t = some 1 := by
            unfold Lx at h1
            split at h1
            · rename_i n hn; rw [hn, Nat.eq_of_beq_eq_true h1]
            · cases h1
           have hc : dA (ev x) = some [ev x] := by
            unfold dA
            split
            · rename_i l hl; rw [hl] at h2; cases h2
            · rw [h2]; rfl
           have hle : off + 1 <= cs.length := Nat.le_of_ble_eq_true h3.2
           have hs : rF E.P (aA ob) t (ev p) (ev x) = .ret ⟨.junk, ⟨[(i, some (.cells t' (splice cs off [ev x])))], []⟩⟩ := by
            simp only [rF, hp, iQ, hz, hc, hg, List.length_singleton, List.all_cons, List.all_nil, Bool.and_true, h2, h3.2]
            rfl
           rw [eC, hs]
           have hi : i < nb := by
            rcases Nat.lt_or_ge i nb with h | h
            · exact h
            · rw [hF i h] at hg; cases hg
           have hef : jF E ⟨aA ob, nb⟩ ⟨[(i, some (.cells t' (splice cs off [ev x])))], []⟩ = true := by
            simp only [jF, gT, List.length_nil, Nat.add_zero, List.all_cons, List.all_nil, Bool.and_true, Bool.true_and, Bool.and_eq_true]
            refine ⟨Nat.ble_eq_true_of_le hT.1, ?_, ?_⟩
            · rw [Nat.blt_eq]; exact hi
            · rw [← hX.base]; exact h3.1
           show T.holds _ (bif jF E ⟨aA ob, nb⟩ ⟨[(i, some (.cells t' (splice cs off [ev x])))], []⟩ then T.ret (SV.junk, (⟨aA ob, nb⟩ : HS).eff ⟨[(i, some (.cells t' (splice cs off [ev x])))], []⟩) else .fail)
           rw [hef]
           refine ⟨_, ?_, h⟩
           funext j
           have := hT.1
           have := hT.2
           rw [qd j (by omega), K9 cs off _ hle]
           show (List.lookup j [(i, some (Ob.cells t' (splice cs off [ev x])))]).getD (aA ob j) = _
           by_cases e : j = i
           · subst e; simp [List.lookup]
           · have : (j == i) = false := by simpa using e
             simp [List.lookup, this, e]
   · exact h.elim
 · exact gen h
theorem MW {op : BinOp} {kk : IntKind} {a b : Int} {gen : R} {c : SV -> R} (h : (K8 op kk a b gen c).holds post) : gen.holds post ∨ ∃ s, kiV op kk a b = .ret s /\ (c s).holds post := by
 have ari : ∀ z : Int, (M6 kk z c).holds post -> (decide (lo kk <= z) && decide (z <= hi kk)) = true /\ (c (.ki kk z)).holds post := by
  intro z h
  unfold M6 at h
  rw [NW, dI, qz] at h
  cases h1 : decide (z < lo kk) with
  | true => rw [h1] at h; exact h.elim
  | false =>
    rw [h1, cond_false, dI, qz] at h
    cases h2 : decide (hi kk < z) with
    | true => rw [h2] at h; exact h.elim
    | false =>
      rw [h2, cond_false] at h
      simp only [decide_eq_false_iff_not, Int.not_lt] at h1 h2
      exact ⟨by simp [h1, h2], h⟩
 unfold K8 at h
 split at h
 · obtain ⟨h1, h2⟩ := ari _ h
   right
   refine ⟨_, ?_, h2⟩
   have h1 : (decide (lo kk <= a + b) && decide (a + b <= hi kk)) = true := h1
   simp only [kiV, h1]; rfl
 · obtain ⟨h1, h2⟩ := ari _ h
   right
   refine ⟨_, ?_, h2⟩
   have h1 : (decide (lo kk <= a - b) && decide (a - b <= hi kk)) = true := h1
   simp only [kiV, h1]; rfl
 · right; exact ⟨_, by rw [vL]; rfl, h⟩
 · right; exact ⟨_, by rw [K6, vL]; rfl, h⟩
 · right; exact ⟨_, by rw [qz]; rfl, h⟩
 · right; exact ⟨_, by rw [qz]; rfl, h⟩
 · right
   refine ⟨_, ?_, h⟩
   rw [K6, qz]
   simp only [kiV]
   congr 2
   rw [Bool.eq_iff_iff]; simp
 · right
   refine ⟨_, ?_, h⟩
   rw [K6, qz]
   simp only [kiV]
   congr 2
   rw [Bool.eq_iff_iff]; simp
 · exact .inl h
theorem Sb (hX : XRef X E) (hT : eP E.top nb) (hF : FOk ob nb) (h : (opG o E.P X o ev ob nb k).holds post) : (bJ E rid i ev ⟨aA ob, nb⟩ o).holds (KP post k) := by
 have gen := zS (o := o) (ev := ev) (ob := ob) (k := k) (post := post) hX hT
 cases ho : o.op
 case move x =>
  have h : (CW x E.P X o ev ob nb k).holds post := by simpa only [opG, ho] using h
  have e : bJ E rid i ev ⟨aA ob, nb⟩ o = lift E ⟨aA ob, nb⟩ (.ret ⟨ev x, .none⟩) := by simp only [bJ, ho, cxE, sxE, iH]
  rw [e]; exact dM hT h
 case assign x =>
  have h : (CW x E.P X o ev ob nb k).holds post := by simpa only [opG, ho] using h
  have e : bJ E rid i ev ⟨aA ob, nb⟩ o = lift E ⟨aA ob, nb⟩ (.ret ⟨ev x, .none⟩) := by simp only [bJ, ho, cxE, sxE, iH]
  rw [e]; exact dM hT h
 case pick c a b =>
  have h : (Jk c a b E.P X o ev ob nb k).holds post := by simpa only [opG, ho] using h
  have e : bJ E rid i ev ⟨aA ob, nb⟩ o = lift E ⟨aA ob, nb⟩ (cxE E.P ev (aA ob) nb o) := by simp only [bJ, ho]
  unfold Jk at h
  split at h
  · rename_i q hq
    have e2 : cxE E.P ev (aA ob) nb o = .ret ⟨bif q then ev a else ev b, .none⟩ := by
        simp only [cxE, ho, sxE, iH, hq]
        cases q <;> rfl
    rw [e, e2]
    rw [dI] at h
    refine dM hT ?_
    cases q <;> exact h
  · rw [e]; exact gen h
 case alloc t =>
  have h : (JE t E.P X o ev ob nb k).holds post := by simpa only [opG, ho] using h
  have e : bJ E rid i ev ⟨aA ob, nb⟩ o = lift E ⟨aA ob, nb⟩ (match zeroOf E.P t with
   | some cs => .ret ⟨.ptr nb 0, ⟨[(nb, some (.cells t cs))], [nb]⟩⟩
   | none => .fail) := by
   simp only [bJ, ho, cxE, sxE, iH]
   rfl
  rw [e]; exact fM hX.top hX.base hT h
 case box t x =>
  have h : (UO t x E.P X o ev ob nb k).holds post := by simpa only [opG, ho] using h
  have e : bJ E rid i ev ⟨aA ob, nb⟩ o = lift E ⟨aA ob, nb⟩ (match dA (nrm (ev x)) with
   | some cs => .ret ⟨.ptr nb 0, ⟨[(nb, some (.cells t cs))], [nb]⟩⟩
   | none => .fail) := by
   simp only [bJ, ho, cxE, sxE, iH]
   rfl
  rw [e]; exact fM hX.top hX.base hT h
 case build t ps =>
  have h : (JR t ps E.P X o ev ob nb k).holds post := by simpa only [opG, ho] using h
  have e : bJ E rid i ev ⟨aA ob, nb⟩ o = lift E ⟨aA ob, nb⟩ ((jJ E.P t (ps.toList.map fun p => (p.1, nrm (ev p.2)))).bind fun s => .ret ⟨s, .none⟩) := by simp only [bJ, ho, cxE, sxE, iH]
  rw [e]; exact fM hX.top hX.base hT h
 case load t x =>
  have h : (Cq t x E.P X o ev ob nb k).holds post := by simpa only [opG, ho] using h
  have e : bJ E rid i ev ⟨aA ob, nb⟩ o = lift E ⟨aA ob, nb⟩ (cxE E.P ev (aA ob) nb o) := by simp only [bJ, ho]
  rw [e]; exact Ni hX hT ho h
 case store t p x =>
  have h : (uI t p x E.P X o ev ob nb k).holds post := by simpa only [opG, ho] using h
  have e : bJ E rid i ev ⟨aA ob, nb⟩ o = lift E ⟨aA ob, nb⟩ (cxE E.P ev (aA ob) nb o) := by simp only [bJ, ho]
  rw [e]; exact KF hX hT hF ho h
 case nilCheck x =>
  have h : (Oe x E.P X o ev ob nb k).holds post := by simpa only [opG, ho] using h
  have e : bJ E rid i ev ⟨aA ob, nb⟩ o = lift E ⟨aA ob, nb⟩ (cxE E.P ev (aA ob) nb o) := by simp only [bJ, ho]
  rw [e]
  unfold Oe at h
  split at h
  · rename_i q f hx
    have e2 : cxE E.P ev (aA ob) nb o = .ret ⟨.ptr q f, .none⟩ := by simp only [cxE, ho, sxE, hx]
    rw [e2]; exact dM hT h
  · rename_i q y z f hx
    have e2 : cxE E.P ev (aA ob) nb o = .ret ⟨.rp q y z f, .none⟩ := by simp only [cxE, ho, sxE, hx]
    rw [e2]; exact dM hT h
  · exact gen h
 case binOp op t x y ty =>
  have h : (Om op x y E.P X o ev ob nb k).holds post := by simpa only [opG, ho] using h
  have e : bJ E rid i ev ⟨aA ob, nb⟩ o = lift E ⟨aA ob, nb⟩ (cxE E.P ev (aA ob) nb o) := by simp only [bJ, ho]
  rw [e]
  unfold Om at h
  rw [dI] at h
  cases hn : Sq y with
  | true => rw [hn] at h; exact gen h
  | false =>
    rw [hn, cond_false] at h
    have hnil : Eb y = none := by
     unfold Sq at hn
     split at hn
     · cases hn
     · assumption
    split at h
    · rename_i kk a kk' b hx hy
      rw [dI] at h
      cases hk : dR kk kk' with
      | false => rw [hk] at h; exact h.elim
      | true =>
        rw [hk, cond_true] at h
        have hk : kk = kk' := by simpa [dR] using hk
        subst hk
        rcases MW h with h | ⟨s, hs, h⟩
        · exact gen h
        · have e2 : cxE E.P ev (aA ob) nb o = .ret ⟨nK s, .none⟩ := by
           simp only [cxE, ho, hnil, hx, hy, Qd, if_true, hs]
           rfl
          have e3 : nK s = s := by
           unfold kiV at hs
           split at hs <;> (try simp only [Bool.cond_eq_ite] at hs) <;> (try split at hs) <;> first | (cases hs; done) | (injection hs with hs; subst hs; rfl)
          rw [e2, e3]; exact dM hT h
    · exact gen h
 case unOp op t x =>
  have h : (kUn op x E.P X o ev ob nb k).holds post := by simpa only [opG, ho] using h
  have e : bJ E rid i ev ⟨aA ob, nb⟩ o = lift E ⟨aA ob, nb⟩ (cxE E.P ev (aA ob) nb o) := by simp only [bJ, ho]
  rw [e]
  unfold kUn at h
  split at h
  · rename_i b hx
    have e2 : cxE E.P ev (aA ob) nb o = .ret ⟨.kb (!b), .none⟩ := by
     simp only [cxE, ho, sxE, iH, hx, P6]
     rfl
    rw [e2]
    rw [K6] at h
    exact dM hT h
  · exact gen h
 case fieldAddr s x f =>
  have h : (kL s x f E.P X o ev ob nb k).holds post := by simpa only [opG, ho] using h
  have e : bJ E rid i ev ⟨aA ob, nb⟩ o = lift E ⟨aA ob, nb⟩ (cxE E.P ev (aA ob) nb o) := by simp only [bJ, ho]
  rw [e]
  have eC : cxE E.P ev (aA ob) nb o = (eX E.P s f (nrm (ev x))).bind fun s => .ret ⟨s, .none⟩ := by simp only [cxE, ho, sxE, iH]
  have hfa : ∀ d, faK E.P s f = some d -> ∃ fl n, kR E.P s f = some fl /\ bD E.P fl.type = some (n + 1) /\ fl.offset = d := by
   intro d hd
   unfold faK at hd
   split at hd
   · rename_i fl hfl
     split at hd
     · rename_i n hn
       injection hd with hd
       exact ⟨fl, n, hfl, hn, hd⟩
     · cases hd
   · cases hd
  unfold kL at h
  split at h
  · rename_i q off hx
    rw [Pw] at h
    split at h
    · exact h.elim
    · rename_i d hd
      obtain ⟨fl, n, h1, h2, rfl⟩ := hfa d hd
      rw [pF] at h
      have e2 : cxE E.P ev (aA ob) nb o = .ret ⟨.ptr q (off + fl.offset), .none⟩ := by
       rw [eC, hx]
       simp only [nrm, eX, h1, h2]
       rfl
      rw [e2]; exact dM hT h
  · rename_i q idx sz off hx
    rw [Pw] at h
    split at h
    · exact h.elim
    · rename_i d hd
      obtain ⟨fl, n, h1, h2, rfl⟩ := hfa d hd
      rw [pF] at h
      have e2 : cxE E.P ev (aA ob) nb o = .ret ⟨.rp q idx sz (off + fl.offset), .none⟩ := by
       rw [eC, hx]
       simp only [nrm, eX, h1, h2]
       rfl
      rw [e2]; exact dM hT h
  · exact gen h
 case field t x f =>
  have h : (JG t x f E.P X o ev ob nb k).holds post := by simpa only [opG, ho] using h
  have e : bJ E rid i ev ⟨aA ob, nb⟩ o = lift E ⟨aA ob, nb⟩ ((mZ E.P t (ev x) f).bind jH) := by simp only [bJ, ho, cxE]
  rw [e]; exact fM hX.top hX.base hT h
 case indexAddr t x j =>
  have h : (I4 t x j E.P X o ev ob nb k).holds post := by simpa only [opG, ho] using h
  have e : bJ E rid i ev ⟨aA ob, nb⟩ o = lift E ⟨aA ob, nb⟩ (cxE E.P ev (aA ob) nb o) := by simp only [bJ, ho]
  rw [e]
  unfold I4 at h
  split at h
  · rename_i q z o' n c kk iv hx hi
    rw [Pw] at h
    split at h
    · exact h.elim
    · rename_i z' hz'
      rw [dI] at h
      cases hz : Nat.beq z' z with
      | false => rw [hz] at h; exact h.elim
      | true =>
        rw [hz, cond_true, U0] at h
        cases hb : (decide (0 <= iv) && decide (iv < (n : Int))) with
        | false => rw [hb] at h; exact h.elim
        | true =>
          rw [hb, cond_true, pF] at h
          have e2 : cxE E.P ev (aA ob) nb o = .ret ⟨.rp q (o' + iv.toNat) z 0, .none⟩ := by
           unfold iaK at hz'
           split at hz'
           · rename_i et hu
             have : kG E.P t (ev x) (ev j) = some (.ret (.rp q (o' + iv.toNat) z 0)) := by
              simp only [kG, hx, hi, Fz, hu, hz', hz, hb]
              rfl
             simp only [cxE, ho, this]
             rfl
           · cases hz'
          rw [e2]; exact dM hT h
  · exact gen h
 case index t x j =>
  have h : (Ju t x j E.P X o ev ob nb k).holds post := by simpa only [opG, ho] using h
  have e : bJ E rid i ev ⟨aA ob, nb⟩ o = lift E ⟨aA ob, nb⟩ ((vk E.P t (ev x) (ev j)).bind jH) := by simp only [bJ, ho, cxE]
  rw [e]; exact fM hX.top hX.base hT h
 case lookup t x j ok =>
  have h : (Gl t x j ok E.P X o ev ob nb k).holds post := by simpa only [opG, ho] using h
  have e : bJ E rid i ev ⟨aA ob, nb⟩ o = lift E ⟨aA ob, nb⟩ ((fO E.P (aA ob) t (ev x) (nrm (ev j)) ok).bind jH) := by simp only [bJ, ho, cxE]
  rw [e]; exact fM hX.top hX.base hT h
 case extract x j =>
  have h : (pG x j E.P X o ev ob nb k).holds post := by simpa only [opG, ho] using h
  have e : bJ E rid i ev ⟨aA ob, nb⟩ o = lift E ⟨aA ob, nb⟩ (cxE E.P ev (aA ob) nb o) := by simp only [bJ, ho]
  rw [e]
  unfold pG at h
  split at h
  · rename_i l hx
    rw [yC] at h
    split at h
    · rename_i s hs
      have e2 : cxE E.P ev (aA ob) nb o = .ret ⟨nK s, .none⟩ := by
       simp only [cxE, ho, hx, iI, hs]
       rfl
      rw [e2]; exact dM hT h
    · exact h.elim
  · exact gen h
 case call c =>
  have h : (Im c E.P X o ev ob nb k).holds post := by simpa only [opG, ho] using h
  unfold Im at h
  obtain ⟨callee, args, argTypes⟩ := c
  cases callee with
  | value f =>
    have h : (kFn f args.toList E.P X o ev ob nb k).holds post := h
    unfold kFn at h
    simp only [bJ, ho, hX.K]
    split at h
    · rename_i fk caps hf
      rw [H6] at h
      simp only [hf]
      rw [hX.top, hX.base] at h
      exact hX.I _ _ _ _ _ _ _ _ hF hT h
    · exact h.elim
  | invoke r m =>
    have e : bJ E rid i ev ⟨aA ob, nb⟩ o = lift E ⟨aA ob, nb⟩ (cxE E.P ev (aA ob) nb o) := by simp only [bJ, ho]
    rw [e]; exact gen h
  | builtin b =>
    have e : bJ E rid i ev ⟨aA ob, nb⟩ o = lift E ⟨aA ob, nb⟩ (cxE E.P ev (aA ob) nb o) := by simp only [bJ, ho]
    rw [e]
    have h : (oQ ⟨.builtin b, args, argTypes⟩ b E.P X o ev ob nb k).holds post := h
    unfold oQ at h
    split at h
    · rename_i x t hb ha ht
      have ha : args.toList = [x] := ha
      have ht : argTypes.toList = [t] := ht
      unfold Ta at h
      split at h
      · rename_i q z o' n c hx
        rw [dI] at h
        cases hs : Sc E.P t with
        | false => rw [hs] at h; exact h.elim
        | true =>
          rw [hs, cond_true] at h
          have e2 : cxE E.P ev (aA ob) nb o = .ret ⟨.ki .i64 n, .none⟩ := by
           unfold Sc at hs
           split at hs
           · rename_i et hu
             have h1 : args = ⟨[x]⟩ := Array.toList_inj.1 ha
             have h2 : argTypes = ⟨[t]⟩ := Array.toList_inj.1 ht
             subst h1; subst h2
             simp only [cxE, ho, RX, hu, hx]
           · cases hs
          rw [e2]; exact dM hT h
      · exact gen h
    · exact gen h
 case range t x =>
  have h : (Jr t x E.P X o ev ob nb k).holds post := by simpa only [opG, ho] using h
  have e : bJ E rid i ev ⟨aA ob, nb⟩ o = lift E ⟨aA ob, nb⟩ (uR E.P (aA ob) nb t (ev x)) := by simp only [bJ, ho]
  rw [e]; exact fM hX.top hX.base hT h
 case entry x =>
  have h : (Jw x E.P X o ev ob nb k).holds post := by simpa only [opG, ho] using h
  have e : bJ E rid i ev ⟨aA ob, nb⟩ o = lift E ⟨aA ob, nb⟩ (Az (aA ob) (ev x)) := by simp only [bJ, ho]
  rw [e]; exact fM hX.top hX.base hT h
 case next a b =>
  have h : (T.fail : R).holds post := by simpa only [opG, ho] using h
  exact h.elim
 all_goals
  have h : (aB E.P X o ev ob nb k).holds post := by simpa only [opG, ho] using h
  have e : bJ E rid i ev ⟨aA ob, nb⟩ o = lift E ⟨aA ob, nb⟩ (cxE E.P ev (aA ob) nb o) := by simp only [bJ, ho]
  rw [e]
  exact gen h
end
end
end Rx
