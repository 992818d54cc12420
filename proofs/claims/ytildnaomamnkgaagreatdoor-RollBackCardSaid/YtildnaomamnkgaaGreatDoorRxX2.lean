/- Rx, part X2: operations, for the kernel. -/
import Derived.Test.YtildnaomamnkgaaGreatDoorRxX1
set_option linter.unusedSectionVars false
set_option linter.unusedSimpArgs false
set_option linter.unusedVariables false
namespace Rx
open Go
variable [Glob]
noncomputable section
def I6 (l : List SV) : Nat -> R -> (SV -> R) -> R := @List.rec SV (fun _ => Nat -> R -> (SV -> R) -> R) (fun _ f _ => f) (fun s _ ih n f k => @Nat.rec (fun _ => R) (k s) (fun m _ => ih m f k) n) l
theorem yF : ∀ (l : List SV) (n : Nat) (f : R) (k : SV -> R), I6 l n f k = match l[n]? with
  | some s => k s
  | none => f
 | [], _, _, _ => rfl
 | s :: l, 0, _, _ => rfl
 | s :: l, n + 1, f, k => by
   show I6 l n f k = _
   rw [yF l n f k]
   simp
theorem zX {α : Type} (d : α) : ∀ (t : Tr α) (n : Nat), xU d t n = t.get d n
 | .nil, n => rfl
 | .node l v r, n => by
   rw [eP]
   simp only [Tr.get]
   by_cases h : n = 0
   · subst h; rfl
   · rw [dO h, cond_false, if_neg h]
     by_cases h2 : n % 2 = 1
     · rw [mD h2, cond_true, if_pos h2, zX d l]
     · rw [dO h2, cond_false, if_neg h2, zX d r]
theorem Ah (t : Tr SV) (n : Nat) : gP t n = t.get .junk n := by rw [OU]; exact zX _ t n
def nU (tr : Tr SV) (n : Nat) : Nat -> List SV := @Nat.rec (fun _ => Nat -> List SV) (fun _ => []) (fun _ ih k => gP tr k :: ih (Nat.succ k)) n
theorem mW (tr : Tr SV) : ∀ (n k : Nat), nU tr n k = eu tr k n
 | 0, _ => rfl
 | n + 1, k => by
   show gP tr k :: nU tr n (Nat.succ k) = _
   rw [mW tr n, Ah]
   rfl
theorem BK {α : Type} (d : α) : ∀ (a b n : Nat) (v : α), n < 2 ^ a - 1 -> n < 2 ^ b - 1 -> Cw d a n v = Tr.set d b .nil n v
 | 0, _, n, _, h, _ => by simp at h
 | _ + 1, 0, n, _, _, h => by simp at h
 | a + 1, b + 1, n, v, h1, h2 => by
   have hp : 2 ^ (a + 1) = 2 * 2 ^ a := by rw [Nat.pow_succ, Nat.mul_comm]
   have hq : 2 ^ (b + 1) = 2 * 2 ^ b := by rw [Nat.pow_succ, Nat.mul_comm]
   rw [Dk]
   simp only [Tr.set]
   by_cases h : n = 0
   · subst h; rfl
   · rw [dO h, cond_false, if_neg h]
     by_cases h3 : n % 2 = 1
     · rw [mD h3, cond_true, if_pos h3, BK d a b (n / 2) v (by omega) (by omega)]
     · rw [dO h3, cond_false, if_neg h3, BK d a b (n / 2 - 1) v (by omega) (by omega)]
theorem yZ {α : Type} (d : α) : ∀ (t : Tr α) (b n : Nat) (v : α), n < 2 ^ b - 1 -> b <= 24 -> BJ d t n v = Tr.set d b t n v
 | .nil, b, n, v, h, hb => BK d 24 b n v (by
   have : 2 ^ b <= 2 ^ 24 := Nat.pow_le_pow_right (by omega) hb
   omega) h
 | .node l x r, 0, n, v, h, _ => by simp at h
 | .node l x r, b + 1, n, v, h, hb => by
   have hq : 2 ^ (b + 1) = 2 * 2 ^ b := by rw [Nat.pow_succ, Nat.mul_comm]
   rw [C8]
   simp only [Tr.set]
   by_cases h0 : n = 0
   · subst h0; rfl
   · rw [dO h0, cond_false, if_neg h0]
     by_cases h3 : n % 2 = 1
     · rw [mD h3, cond_true, if_pos h3, yZ d l b (n / 2) v (by omega) (by omega)]
     · rw [dO h3, cond_false, if_neg h3, yZ d r b (n / 2 - 1) v (by omega) (by omega)]
theorem PD {t : Tr SV} {n : Nat} {v : SV} (h : n < 65535) : qy t n v = Tr.set .junk CAP t n v := by
 rw [QH]; exact yZ _ t CAP n v (by simpa [CAP] using h) (by simp [CAP])
def Pm (l : List SV) : Tr SV -> Nat -> Tr SV := @List.rec SV (fun _ => Tr SV -> Nat -> Tr SV) (fun t _ => t) (fun s _ ih t k => ih (qy t k s) (Nat.succ k)) l
theorem Oe : ∀ (l : List SV) (t : Tr SV) (k : Nat), k + l.length <= 65535 -> Pm l t k = jc t k l
 | [], _, _, _ => rfl
 | s :: l, t, k, h => by
   simp only [List.length_cons] at h
   show Pm l (qy t k s) (Nat.succ k) = jc (t.set .junk CAP k s) (k + 1) l
   rw [Oe l _ _ (by omega), PD (by omega)]
def Tj (l : List SV) : Nat -> SV -> List SV := @List.rec SV (fun _ => Nat -> SV -> List SV) (fun _ _ => []) (fun x l ih n v => @Nat.rec (fun _ => List SV) (v :: l) (fun m _ => x :: ih m v) n) l
theorem MQ : ∀ (l : List SV) (n : Nat) (v : SV), n + 1 <= l.length -> Tj l n v = splice l n [v]
 | [], _, _, h => by simp at h
 | x :: l, 0, v, _ => by simp [splice]; rfl
 | x :: l, n + 1, v, h => by
   show x :: Tj l n v = _
   rw [MQ l n v (by simpa using h)]
   simp [splice]
def oB (o : Option Bool) (n a b : R) : R := @Option.rec Bool (fun _ => R) n (fun q => BR q a b) o
theorem Lc (o : Option Bool) (n a b : R) : oB o n a b = match o with
  | none => n
  | some q => bif q then a else b := by
 cases o
 · rfl
 · exact dF _ _ _
def oN (o : Option Nat) (n : R) (f : Nat -> R) : R := @Option.rec Nat (fun _ => R) n f o
theorem OE (o : Option Nat) (n : R) (f : Nat -> R) : oN o n f = match o with
  | none => n
  | some q => f q := by cases o <;> rfl
def ldK (P : Program) (t : TypeId) : Option Bool := match ou P t, bA P t with
 | some b, some _ => some b
 | _, _ => none
def K7 (P : Program) (t : TypeId) : Bool := match bA P t with
 | some n => Nat.beq n 1
 | none => false
def av : OpK := fun P X o ev ob nb k => ow X (cxE P ev (au ob) nb o) ob nb k
def DW (x : Operand) : OpK := fun P X o ev ob nb k => k (ev x) ob nb
def PL (x : Operand) : OpK := fun P X o ev ob nb k => match ev x with
 | .ptr i f => k (.ptr i f) ob nb
 | .rp i y z f => k (.rp i y z f) ob nb
 | _ => av P X o ev ob nb k
def Jp (c a b : Operand) : OpK := fun P X o ev ob nb k => match ev c with
 | .kb q => BR q (k (ev a) ob nb) (k (ev b) ob nb)
 | _ => av P X o ev ob nb k
def szK (P : Program) (t : TypeId) (f : Nat -> R) : R := match bA P t with
 | some n => f n
 | none => .fail
def DL (t : TypeId) (x : Operand) : OpK := fun P X o ev ob nb k => match ev x with
 | .ptr i off => match au ob i with
   | some (.cells _ cs) => oB (ldK P t) .fail (av P X o ev ob nb k) (I6 cs off .fail fun s => k (nK s) ob nb)
   | _ => .fail
 | .rp i idx sz off => match au ob i with
   | some (.vec _ sz' len tr _) => oB (ldK P t) .fail
       (szK P t fun n => BR (Nat.beq sz sz' && (Nat.ble (off + n) sz && Nat.blt idx len)) (k (.agg (nU tr n (Nat.add (Nat.mul idx sz) off))) ob nb) .fail)
       (BR (Nat.beq sz sz' && (Nat.blt off sz && Nat.blt idx len)) (k (nK (gP tr (Nat.add (Nat.mul idx sz) off))) ob nb) .fail)
   | _ => av P X o ev ob nb k
 | _ => av P X o ev ob nb k
def vG (t : TypeId) (p x : Operand) : OpK := fun P X o ev ob nb k => match ev p with
 | .ptr i off => match au ob i with
   | some (.cells t' cs) => BR (K7 P t) (BR (eG (ev x)) (BR (Nat.ble X.base i && Nat.ble (off + 1) cs.length) (k .junk (lV ob i (some (.cells t' (Tj cs off (ev x))))) nb) .fail) (av P X o ev ob nb k)) (av P X o ev ob nb k)
   | _ => .fail
 | _ => av P X o ev ob nb k
def faK (P : Program) (s : TypeId) (f : Nat) : Option Nat := match lK P s f with
 | some fl => (match bA P fl.type with
   | some (_ + 1) => some fl.offset
   | _ => none)
 | none => none
def j5 (s : TypeId) (x : Operand) (f : Nat) : OpK := fun P X o ev ob nb k => match ev x with
 | .ptr i off => oN (faK P s f) .fail fun d => fN (Nat.add off d) fun a => k (.ptr i a) ob nb
 | .rp i idx sz off => oN (faK P s f) .fail fun d => fN (Nat.add off d) fun a => k (.rp i idx sz a) ob nb
 | _ => av P X o ev ob nb k
def zq (x y : Int) : Bool := @Int.rec (fun _ => Bool) (fun m => @Int.rec (fun _ => Bool) (fun n => Nat.ble (Nat.succ m) n) (fun _ => false) y) (fun m => @Int.rec (fun _ => Bool) (fun _ => true) (fun n => Nat.ble (Nat.succ n) m) y) x
theorem rz (x y : Int) : zq x y = decide (x < y) := by
 cases x with
 | ofNat m => cases y with
   | ofNat n =>
     show Nat.ble (m + 1) n = _
     rw [Bool.eq_iff_iff, decide_eq_true_eq]
     constructor
     · intro h; have := Nat.le_of_ble_eq_true h; simp; omega
     · intro h; apply Nat.ble_eq_true_of_le; simp at h; omega
   | negSucc n => show false = _; simp; omega
 | negSucc m => cases y with
   | ofNat n => show true = _; simp; omega
   | negSucc n =>
     show Nat.ble (n + 1) m = _
     rw [Bool.eq_iff_iff, decide_eq_true_eq]
     constructor
     · intro h; have := Nat.le_of_ble_eq_true h; omega
     · intro h; apply Nat.ble_eq_true_of_le; omega
def eqI (x y : Int) : Bool := @Int.rec (fun _ => Bool) (fun m => @Int.rec (fun _ => Bool) (fun n => Nat.beq m n) (fun _ => false) y) (fun m => @Int.rec (fun _ => Bool) (fun _ => false) (fun n => Nat.beq m n) y) x
theorem vR (x y : Int) : eqI x y = decide (x = y) := by
 cases x with
 | ofNat m => cases y with
   | ofNat n =>
     show Nat.beq m n = _
     by_cases h : m = n
     · subst h; simp [Nat.beq_refl]
     · rw [dO h]; simp; omega
   | negSucc n => show false = _; simp
 | negSucc m => cases y with
   | ofNat n => show false = _; simp
   | negSucc n =>
     show Nat.beq m n = _
     by_cases h : m = n
     · subst h; simp [Nat.beq_refl]
     · rw [dO h]; simp; omega
def nB (b : Bool) : Bool := @Bool.rec (fun _ => Bool) true false b
theorem Ld (b : Bool) : nB b = !b := by cases b <;> rfl
def Nw (k : IntKind) (z : Int) (c : SV -> R) : R := fI z fun z => BR (zq z (lo k)) .fail (BR (zq (hi k) z) .fail (c (.ki k z)))
def dW (a b : IntKind) : Bool := decide (a = b)
def Mc (op : BinOp) (k : IntKind) (x y : Int) (gen : R) (c : SV -> R) : R := match op with
 | .add => Nw k (Int.add x y) c
 | .sub => Nw k (Int.sub x y) c
 | .eql => c (.kb (eqI x y))
 | .neq => c (.kb (nB (eqI x y)))
 | .lss => c (.kb (zq x y))
 | .gtr => c (.kb (zq y x))
 | .leq => c (.kb (nB (zq y x)))
 | .geq => c (.kb (nB (zq x y)))
 | _ => gen
def RL (y : Operand) : Bool := match Gn y with
 | some _ => true
 | none => false
def O9 (op : BinOp) (x y : Operand) : OpK := fun P X o ev ob nb k => BR (RL y) (av P X o ev ob nb k) (match ev x, ev y with
 | .ki kk a, .ki kk' b => BR (dW kk kk') (Mc op kk a b (av P X o ev ob nb k) fun s => k s ob nb) .fail
 | _, _ => av P X o ev ob nb k)
def Mi (l : List Operand) (ev : Ev) (c : List SV) : List SV := @List.rec Operand (fun _ => List SV) c (fun x _ ih => ev x :: ih) l
theorem Iq (ev : Ev) (c : List SV) : ∀ l : List Operand, Mi l ev c = l.map ev ++ c
 | [] => rfl
 | x :: l => by
   show ev x :: Mi l ev c = _
   rw [Iq ev c l]; rfl
def kFn (f : Operand) (args : List Operand) : OpK := fun P X o ev ob nb k => match ev f with
 | .fn fk caps => X.I X.top X.base fk (Mi args ev caps) ob nb k
 | _ => .fail
def iaK (P : Program) (t : TypeId) : Option Nat := match P.underlying t with
 | some (.slice e) => bA P e
 | _ => none
def ltI (i : Int) (n : Nat) (f : Nat -> R) : R := @Int.rec (fun _ => R) (fun m => BR (Nat.ble (Nat.succ m) n) (f m) .fail) (fun _ => .fail) i
theorem Vz (i : Int) (n : Nat) (f : Nat -> R) : ltI i n f = bif decide (0 <= i) && decide (i < (n : Int)) then f i.toNat else .fail := by
 cases i with
 | ofNat m =>
   show BR (Nat.ble (m + 1) n) (f m) .fail = _
   rw [dF]
   have h1 : decide (0 <= Int.ofNat m) = true := by simp
   rw [h1, Bool.true_and]
   congr 1
   rw [Bool.eq_iff_iff, decide_eq_true_eq]
   constructor
   · intro h; have := Nat.le_of_ble_eq_true h; simp; omega
   · intro h; apply Nat.ble_eq_true_of_le; simp at h; omega
 | negSucc m => rfl
def GQ (t : TypeId) (x i : Operand) : OpK := fun P X o ev ob nb k => match ev x, ev i with
 | .sl q z o' n c, .ki _ iv => oN (iaK P t) .fail fun z' => BR (Nat.beq z' z) (ltI iv n fun m => fN (Nat.add o' m) fun a => k (.rp q a z 0) ob nb) .fail
 | _, _ => av P X o ev ob nb k
def Si (P : Program) (t : TypeId) : Bool := match P.underlying t with
 | some (.slice _) => true
 | _ => false
def Y2 (P : Program) (t : TypeId) : Bool := match P.underlying t with
 | some .string => true
 | _ => false
def TT (t : TypeId) (x : Operand) : OpK := fun P X o ev ob nb k => match ev x with
 | .sl _ _ _ n _ => BR (Si P t) (k (.ki .i64 (.ofNat n)) ob nb) .fail
 | _ => av P X o ev ob nb k
def oK (x : Operand) (i : Nat) : OpK := fun P X o ev ob nb k => match ev x with
 | .tup l => I6 l i .fail fun s => k (nK s) ob nb
 | _ => av P X o ev ob nb k
def Kz (t : TypeId) : OpK := fun P X o ev ob nb k => ow X (match zeroOf P t with
    | some cs => .ret ⟨.ptr nb 0, ⟨[(nb, some (.cells t cs))], [nb]⟩⟩
    | none => .fail) ob nb k
def V8 (t : TypeId) (x : Operand) : OpK := fun P X o ev ob nb k => ow X (match dK (nrm (ev x)) with
    | some cs => .ret ⟨.ptr nb 0, ⟨[(nb, some (.cells t cs))], [nb]⟩⟩
    | none => .fail) ob nb k
def Ku (t : TypeId) (ps : Array (Nat × Operand)) : OpK := fun P X o ev ob nb k => ow X ((jQ P t (ps.toList.map fun p => (p.1, nrm (ev p.2)))).bind fun s => .ret ⟨s, .none⟩) ob nb k
def kUn (op : UnOp) (x : Operand) : OpK := fun P X o ev ob nb k => match op, ev x with
 | .not, .kb b => k (.kb (nB b)) ob nb
 | _, _ => av P X o ev ob nb k
def Jz (t : TypeId) (x : Operand) (f : Nat) : OpK := fun P X o ev ob nb k => ow X ((mU P t (ev x) f).bind jL) ob nb k
def JU (t : TypeId) (x i : Operand) : OpK := fun P X o ev ob nb k => ow X ((vY P t (ev x) (ev i)).bind jL) ob nb k
def E8 (t : TypeId) (x i : Operand) (ok : Bool) : OpK := fun P X o ev ob nb k => ow X ((gu P (au ob) t (ev x) (nrm (ev i)) ok).bind jL) ob nb k
def oQ (c : Call) (b : Builtin) : OpK := fun P X o ev ob nb k => match b, c.args.toList, c.argTypes.toList with
 | .len, [x], [t] => TT t x P X o ev ob nb k
 | _, _, _ => av P X o ev ob nb k
def Hg (c : Call) : OpK := match c.callee with
 | .value f => kFn f c.args.toList
 | .builtin b => oQ c b
 | _ => av
def JE (t : TypeId) (x : Operand) : OpK := fun P X o ev ob nb k => ow X (wC P (au ob) nb t (ev x)) ob nb k
def KG (x : Operand) : OpK := fun P X o ev ob nb k => ow X (Aw (au ob) (ev x)) ob nb k
def opG (o : Oper) : OpK := match o.op with
 | .move x => DW x
 | .assign x => DW x
 | .pick c a b => Jp c a b
 | .alloc t => Kz t
 | .box t x => V8 t x
 | .build t ps => Ku t ps
 | .load t x => DL t x
 | .store t p x => vG t p x
 | .nilCheck x => PL x
 | .binOp op t x y _ => O9 op x y
 | .unOp op _ x => kUn op x
 | .fieldAddr s x f => j5 s x f
 | .field t x f => Jz t x f
 | .indexAddr t x i => GQ t x i
 | .index t x i => JU t x i
 | .lookup t x i ok => E8 t x i ok
 | .extract x i => oK x i
 | .call c => Hg c
 | .range t x => JE t x
 | .entry x => KG x
 | .next _ _ => fun _ _ _ _ _ _ _ => .fail
 | _ => av
def IRef (I : II) (J : Nat -> Nat -> FuncId -> List SV -> HS -> T (SV × HS)) : Prop :=
 ∀ top base f al ob nb k post, FOk ob nb -> dN top nb -> (I top base f al ob nb k).holds post -> (J top base f al ⟨au ob, nb⟩).holds (KP post k)
structure XRef (X : EX) (E : CEnv) : Prop where
 I : IRef X.I E.I
 top : X.top = E.top
 base : X.base = E.base
 W : X.W = E.win
 K : ∀ rid i, E.K rid i = none
theorem dS {E : CEnv} {ob : OB} {nb : Nat} {k : KK} {post : SV × HD -> Prop} (hT : dN E.top nb) {s : SV} (h : (k s ob nb).holds post) : (lift E ⟨au ob, nb⟩ (.ret ⟨s, .none⟩)).holds (KP post k) := by
 have hc : jk E ⟨au ob, nb⟩ Eff.none = true := vT E (h := ⟨au ob, nb⟩) hT.1
 show T.holds _ (bif jk E ⟨au ob, nb⟩ Eff.none then T.ret (s, (⟨au ob, nb⟩ : HS).eff .none) else .fail)
 rw [hc]
 exact ⟨ob, rfl, h⟩
section
variable {E : CEnv} {X : EX} {o : Oper} {ev : Ev} {ob : OB} {nb : Nat} {k : KK} {post : SV × HD -> Prop} {rid i : Nat}
theorem AX (hX : XRef X E) (hT : dN E.top nb) (h : (av E.P X o ev ob nb k).holds post) : (lift E ⟨au ob, nb⟩ (cxE E.P ev (au ob) nb o)).holds (KP post k) :=
 eH hX.top hX.base hT h
theorem Nt (hX : XRef X E) (hT : dN E.top nb) {t : TypeId} {x : Operand} (ho : o.op = .load t x) (h : (DL t x E.P X o ev ob nb k).holds post) : (lift E ⟨au ob, nb⟩ (cxE E.P ev (au ob) nb o)).holds (KP post k) := by
 have gen := AX (o := o) (ev := ev) (ob := ob) (k := k) (post := post) hX hT
 have eC : cxE E.P ev (au ob) nb o = (fH E.P (au ob) t (ev x)).bind jL := by unfold cxE; simp only [ho]
 have fin : ∀ s, fH E.P (au ob) t (ev x) = .ret s -> (k (nK s) ob nb).holds post -> (lift E ⟨au ob, nb⟩ (cxE E.P ev (au ob) nb o)).holds (KP post k) := by
  intro s hs hk
  rw [eC, hs]
  exact dS hT hk
 unfold DL at h
 split at h
 · rename_i i off hx
   split at h
   · rename_i t' cs hg
     rw [Lc] at h
     unfold ldK at h
     cases ha : ou E.P t with
     | none => simp only [ha] at h; exact h.elim
     | some b =>
       cases hz : bA E.P t with
       | none => simp only [ha, hz] at h; exact h.elim
       | some n =>
         simp only [ha, hz] at h
         cases b with
         | true => exact gen h
         | false =>
           rw [cond_false, yF] at h
           split at h
           · rename_i s hs
             exact fin s (by simp only [fH, hx, fP, ha, hz, hg, hs]) h
           · exact h.elim
   · exact h.elim
 · rename_i i idx sz off hx
   split at h
   · rename_i t' sz' len tr ex hg
     rw [Lc] at h
     unfold ldK at h
     cases ha : ou E.P t with
     | none => simp only [ha] at h; exact h.elim
     | some b =>
       cases hz : bA E.P t with
       | none => simp only [ha, hz] at h; exact h.elim
       | some n =>
         simp only [ha, hz] at h
         cases b with
         | true =>
           unfold szK at h
           simp only [hz, cond_true] at h
           rw [dF] at h
           cases hb : (Nat.beq sz sz' && (Nat.ble (off + n) sz && Nat.blt idx len)) with
           | false => rw [hb] at h; exact h.elim
           | true =>
             rw [hb, cond_true, mW] at h
             exact fin (.agg (eu tr (idx * sz + off) n)) (by simp only [fH, hx, ha, hz, hg, hb]; rfl) h
         | false =>
           rw [cond_false, dF] at h
           cases hb : (Nat.beq sz sz' && (Nat.blt off sz && Nat.blt idx len)) with
           | false => rw [hb] at h; exact h.elim
           | true =>
             rw [hb, cond_true, Ah] at h
             exact fin _ (by simp only [fH, hx, ha, hz, hg, hb]; rfl) h
   · exact gen h
 · exact gen h
theorem JZ (hX : XRef X E) (hT : dN E.top nb) (hF : FOk ob nb) {t : TypeId} {p x : Operand} (ho : o.op = .store t p x) (h : (vG t p x E.P X o ev ob nb k).holds post) : (lift E ⟨au ob, nb⟩ (cxE E.P ev (au ob) nb o)).holds (KP post k) := by
 have gen := AX (o := o) (ev := ev) (ob := ob) (k := k) (post := post) hX hT
 have eC : cxE E.P ev (au ob) nb o = rZ E.P (au ob) t (ev p) (ev x) := by unfold cxE; simp only [ho]
 unfold vG at h
 split at h
 · rename_i i off hp
   split at h
   · rename_i t' cs hg
     rw [dF] at h
     cases h1 : K7 E.P t with
     | false => rw [h1] at h; exact gen h
     | true =>
       rw [h1, cond_true, dF] at h
       cases h2 : eG (ev x) with
       | false => rw [h2] at h; exact gen h
       | true =>
         rw [h2, cond_true, dF] at h
         cases h3 : (Nat.ble X.base i && Nat.ble (off + 1) cs.length) with
         | false => rw [h3] at h; exact h.elim
         | true =>
           rw [h3, cond_true] at h
           simp only [Bool.and_eq_true] at h3
           have hz : bA E.P t = some 1 := by
            unfold K7 at h1
            split at h1
            · rename_i n hn; rw [hn, Nat.eq_of_beq_eq_true h1]
            · cases h1
           have hc : dK (ev x) = some [ev x] := by
            unfold dK
            split
            · rename_i l hl; rw [hl] at h2; cases h2
            · rw [h2]; rfl
           have hle : off + 1 <= cs.length := Nat.le_of_ble_eq_true h3.2
           have hs : rZ E.P (au ob) t (ev p) (ev x) = .ret ⟨.junk, ⟨[(i, some (.cells t' (splice cs off [ev x])))], []⟩⟩ := by
            simp only [rZ, hp, iR, hz, hc, hg, List.length_singleton, List.all_cons, List.all_nil, Bool.and_true, h2, h3.2]
            rfl
           rw [eC, hs]
           have hi : i < nb := by
            rcases Nat.lt_or_ge i nb with h | h
            · exact h
            · rw [hF i h] at hg; cases hg
           have hef : jk E ⟨au ob, nb⟩ ⟨[(i, some (.cells t' (splice cs off [ev x])))], []⟩ = true := by
            simp only [jk, iy, List.length_nil, Nat.add_zero, List.all_cons, List.all_nil, Bool.and_true, Bool.true_and, Bool.and_eq_true]
            refine ⟨Nat.ble_eq_true_of_le hT.1, ?_, ?_⟩
            · rw [Nat.blt_eq]; exact hi
            · rw [← hX.base]; exact h3.1
           show T.holds _ (bif jk E ⟨au ob, nb⟩ ⟨[(i, some (.cells t' (splice cs off [ev x])))], []⟩ then T.ret (SV.junk, (⟨au ob, nb⟩ : HS).eff ⟨[(i, some (.cells t' (splice cs off [ev x])))], []⟩) else .fail)
           rw [hef]
           refine ⟨_, ?_, h⟩
           funext j
           have := hT.1
           have := hT.2
           rw [oU j (by omega), MQ cs off _ hle]
           show (List.lookup j [(i, some (Ob.cells t' (splice cs off [ev x])))]).getD (au ob j) = _
           by_cases e : j = i
           · subst e; simp [List.lookup]
           · have : (j == i) = false := by simpa using e
             simp [List.lookup, this, e]
   · exact h.elim
 · exact gen h
theorem NP {op : BinOp} {kk : IntKind} {a b : Int} {gen : R} {c : SV -> R} (h : (Mc op kk a b gen c).holds post) : gen.holds post ∨ ∃ s, kiV op kk a b = .ret s /\ (c s).holds post := by
 have ari : ∀ z : Int, (Nw kk z c).holds post -> (decide (lo kk <= z) && decide (z <= hi kk)) = true /\ (c (.ki kk z)).holds post := by
  intro z h
  unfold Nw at h
  rw [Qd, dF, rz] at h
  cases h1 : decide (z < lo kk) with
  | true => rw [h1] at h; exact h.elim
  | false =>
    rw [h1, cond_false, dF, rz] at h
    cases h2 : decide (hi kk < z) with
    | true => rw [h2] at h; exact h.elim
    | false =>
      rw [h2, cond_false] at h
      simp only [decide_eq_false_iff_not, Int.not_lt] at h1 h2
      exact ⟨by simp [h1, h2], h⟩
 unfold Mc at h
 split at h
 · obtain ⟨h1, h2⟩ := ari _ h
   right
   refine ⟨_, ?_, h2⟩
   have h1 : (decide (lo kk <= a + b) && decide (a + b <= hi kk)) = true := h1
   simp only [kiV, h1]; rfl
 · obtain ⟨h1, h2⟩ := ari _ h
   right
   refine ⟨_, ?_, h2⟩
   have h1 : (decide (lo kk <= a - b) && decide (a - b <= hi kk)) = true := h1
   simp only [kiV, h1]; rfl
 · right; exact ⟨_, by rw [vR]; rfl, h⟩
 · right; exact ⟨_, by rw [Ld, vR]; rfl, h⟩
 · right; exact ⟨_, by rw [rz]; rfl, h⟩
 · right; exact ⟨_, by rw [rz]; rfl, h⟩
 · right
   refine ⟨_, ?_, h⟩
   rw [Ld, rz]
   simp only [kiV]
   congr 2
   rw [Bool.eq_iff_iff]; simp
 · right
   refine ⟨_, ?_, h⟩
   rw [Ld, rz]
   simp only [kiV]
   congr 2
   rw [Bool.eq_iff_iff]; simp
 · exact .inl h
theorem TQ (hX : XRef X E) (hT : dN E.top nb) (hF : FOk ob nb) (h : (opG o E.P X o ev ob nb k).holds post) : (bK E rid i ev ⟨au ob, nb⟩ o).holds (KP post k) := by
 have gen := AX (o := o) (ev := ev) (ob := ob) (k := k) (post := post) hX hT
 cases ho : o.op
 case move x =>
  have h : (DW x E.P X o ev ob nb k).holds post := by simpa only [opG, ho] using h
  have e : bK E rid i ev ⟨au ob, nb⟩ o = lift E ⟨au ob, nb⟩ (.ret ⟨ev x, .none⟩) := by simp only [bK, ho, cxE, sxE, iI]
  rw [e]; exact dS hT h
 case assign x =>
  have h : (DW x E.P X o ev ob nb k).holds post := by simpa only [opG, ho] using h
  have e : bK E rid i ev ⟨au ob, nb⟩ o = lift E ⟨au ob, nb⟩ (.ret ⟨ev x, .none⟩) := by simp only [bK, ho, cxE, sxE, iI]
  rw [e]; exact dS hT h
 case pick c a b =>
  have h : (Jp c a b E.P X o ev ob nb k).holds post := by simpa only [opG, ho] using h
  have e : bK E rid i ev ⟨au ob, nb⟩ o = lift E ⟨au ob, nb⟩ (cxE E.P ev (au ob) nb o) := by simp only [bK, ho]
  unfold Jp at h
  split at h
  · rename_i q hq
    have e2 : cxE E.P ev (au ob) nb o = .ret ⟨bif q then ev a else ev b, .none⟩ := by
        simp only [cxE, ho, sxE, iI, hq]
        cases q <;> rfl
    rw [e, e2]
    rw [dF] at h
    refine dS hT ?_
    cases q <;> exact h
  · rw [e]; exact gen h
 case alloc t =>
  have h : (Kz t E.P X o ev ob nb k).holds post := by simpa only [opG, ho] using h
  have e : bK E rid i ev ⟨au ob, nb⟩ o = lift E ⟨au ob, nb⟩ (match zeroOf E.P t with
   | some cs => .ret ⟨.ptr nb 0, ⟨[(nb, some (.cells t cs))], [nb]⟩⟩
   | none => .fail) := by
   simp only [bK, ho, cxE, sxE, iI]
   rfl
  rw [e]; exact eH hX.top hX.base hT h
 case box t x =>
  have h : (V8 t x E.P X o ev ob nb k).holds post := by simpa only [opG, ho] using h
  have e : bK E rid i ev ⟨au ob, nb⟩ o = lift E ⟨au ob, nb⟩ (match dK (nrm (ev x)) with
   | some cs => .ret ⟨.ptr nb 0, ⟨[(nb, some (.cells t cs))], [nb]⟩⟩
   | none => .fail) := by
   simp only [bK, ho, cxE, sxE, iI]
   rfl
  rw [e]; exact eH hX.top hX.base hT h
 case build t ps =>
  have h : (Ku t ps E.P X o ev ob nb k).holds post := by simpa only [opG, ho] using h
  have e : bK E rid i ev ⟨au ob, nb⟩ o = lift E ⟨au ob, nb⟩ ((jQ E.P t (ps.toList.map fun p => (p.1, nrm (ev p.2)))).bind fun s => .ret ⟨s, .none⟩) := by simp only [bK, ho, cxE, sxE, iI]
  rw [e]; exact eH hX.top hX.base hT h
 case load t x =>
  have h : (DL t x E.P X o ev ob nb k).holds post := by simpa only [opG, ho] using h
  have e : bK E rid i ev ⟨au ob, nb⟩ o = lift E ⟨au ob, nb⟩ (cxE E.P ev (au ob) nb o) := by simp only [bK, ho]
  rw [e]; exact Nt hX hT ho h
 case store t p x =>
  have h : (vG t p x E.P X o ev ob nb k).holds post := by simpa only [opG, ho] using h
  have e : bK E rid i ev ⟨au ob, nb⟩ o = lift E ⟨au ob, nb⟩ (cxE E.P ev (au ob) nb o) := by simp only [bK, ho]
  rw [e]; exact JZ hX hT hF ho h
 case nilCheck x =>
  have h : (PL x E.P X o ev ob nb k).holds post := by simpa only [opG, ho] using h
  have e : bK E rid i ev ⟨au ob, nb⟩ o = lift E ⟨au ob, nb⟩ (cxE E.P ev (au ob) nb o) := by simp only [bK, ho]
  rw [e]
  unfold PL at h
  split at h
  · rename_i q f hx
    have e2 : cxE E.P ev (au ob) nb o = .ret ⟨.ptr q f, .none⟩ := by simp only [cxE, ho, sxE, hx]
    rw [e2]; exact dS hT h
  · rename_i q y z f hx
    have e2 : cxE E.P ev (au ob) nb o = .ret ⟨.rp q y z f, .none⟩ := by simp only [cxE, ho, sxE, hx]
    rw [e2]; exact dS hT h
  · exact gen h
 case binOp op t x y ty =>
  have h : (O9 op x y E.P X o ev ob nb k).holds post := by simpa only [opG, ho] using h
  have e : bK E rid i ev ⟨au ob, nb⟩ o = lift E ⟨au ob, nb⟩ (cxE E.P ev (au ob) nb o) := by simp only [bK, ho]
  rw [e]
  unfold O9 at h
  rw [dF] at h
  cases hn : RL y with
  | true => rw [hn] at h; exact gen h
  | false =>
    rw [hn, cond_false] at h
    have hnil : Gn y = none := by
     unfold RL at hn
     split at hn
     · cases hn
     · assumption
    split at h
    · rename_i kk a kk' b hx hy
      rw [dF] at h
      cases hk : dW kk kk' with
      | false => rw [hk] at h; exact h.elim
      | true =>
        rw [hk, cond_true] at h
        have hk : kk = kk' := by simpa [dW] using hk
        subst hk
        rcases NP h with h | ⟨s, hs, h⟩
        · exact gen h
        · have e2 : cxE E.P ev (au ob) nb o = .ret ⟨nK s, .none⟩ := by
           simp only [cxE, ho, hnil, hx, hy, QG, if_true, hs]
           rfl
          have e3 : nK s = s := by
           unfold kiV at hs
           split at hs <;> (try simp only [Bool.cond_eq_ite] at hs) <;> (try split at hs) <;> first | (cases hs; done) | (injection hs with hs; subst hs; rfl)
          rw [e2, e3]; exact dS hT h
    · exact gen h
 case unOp op t x =>
  have h : (kUn op x E.P X o ev ob nb k).holds post := by simpa only [opG, ho] using h
  have e : bK E rid i ev ⟨au ob, nb⟩ o = lift E ⟨au ob, nb⟩ (cxE E.P ev (au ob) nb o) := by simp only [bK, ho]
  rw [e]
  unfold kUn at h
  split at h
  · rename_i b hx
    have e2 : cxE E.P ev (au ob) nb o = .ret ⟨.kb (!b), .none⟩ := by
     simp only [cxE, ho, sxE, iI, hx, Rt]
     rfl
    rw [e2]
    rw [Ld] at h
    exact dS hT h
  · exact gen h
 case fieldAddr s x f =>
  have h : (j5 s x f E.P X o ev ob nb k).holds post := by simpa only [opG, ho] using h
  have e : bK E rid i ev ⟨au ob, nb⟩ o = lift E ⟨au ob, nb⟩ (cxE E.P ev (au ob) nb o) := by simp only [bK, ho]
  rw [e]
  have eC : cxE E.P ev (au ob) nb o = (fE E.P s f (nrm (ev x))).bind fun s => .ret ⟨s, .none⟩ := by simp only [cxE, ho, sxE, iI]
  have hfa : ∀ d, faK E.P s f = some d -> ∃ fl n, lK E.P s f = some fl /\ bA E.P fl.type = some (n + 1) /\ fl.offset = d := by
   intro d hd
   unfold faK at hd
   split at hd
   · rename_i fl hfl
     split at hd
     · rename_i n hn
       injection hd with hd
       exact ⟨fl, n, hfl, hn, hd⟩
     · cases hd
   · cases hd
  unfold j5 at h
  split at h
  · rename_i q off hx
    rw [OE] at h
    split at h
    · exact h.elim
    · rename_i d hd
      obtain ⟨fl, n, h1, h2, rfl⟩ := hfa d hd
      rw [pW] at h
      have e2 : cxE E.P ev (au ob) nb o = .ret ⟨.ptr q (off + fl.offset), .none⟩ := by
       rw [eC, hx]
       simp only [nrm, fE, h1, h2]
       rfl
      rw [e2]; exact dS hT h
  · rename_i q idx sz off hx
    rw [OE] at h
    split at h
    · exact h.elim
    · rename_i d hd
      obtain ⟨fl, n, h1, h2, rfl⟩ := hfa d hd
      rw [pW] at h
      have e2 : cxE E.P ev (au ob) nb o = .ret ⟨.rp q idx sz (off + fl.offset), .none⟩ := by
       rw [eC, hx]
       simp only [nrm, fE, h1, h2]
       rfl
      rw [e2]; exact dS hT h
  · exact gen h
 case field t x f =>
  have h : (Jz t x f E.P X o ev ob nb k).holds post := by simpa only [opG, ho] using h
  have e : bK E rid i ev ⟨au ob, nb⟩ o = lift E ⟨au ob, nb⟩ ((mU E.P t (ev x) f).bind jL) := by simp only [bK, ho, cxE]
  rw [e]; exact eH hX.top hX.base hT h
 case indexAddr t x j =>
  have h : (GQ t x j E.P X o ev ob nb k).holds post := by simpa only [opG, ho] using h
  have e : bK E rid i ev ⟨au ob, nb⟩ o = lift E ⟨au ob, nb⟩ (cxE E.P ev (au ob) nb o) := by simp only [bK, ho]
  rw [e]
  unfold GQ at h
  split at h
  · rename_i q z o' n c kk iv hx hi
    rw [OE] at h
    split at h
    · exact h.elim
    · rename_i z' hz'
      rw [dF] at h
      cases hz : Nat.beq z' z with
      | false => rw [hz] at h; exact h.elim
      | true =>
        rw [hz, cond_true, Vz] at h
        cases hb : (decide (0 <= iv) && decide (iv < (n : Int))) with
        | false => rw [hb] at h; exact h.elim
        | true =>
          rw [hb, cond_true, pW] at h
          have e2 : cxE E.P ev (au ob) nb o = .ret ⟨.rp q (o' + iv.toNat) z 0, .none⟩ := by
           unfold iaK at hz'
           split at hz'
           · rename_i et hu
             have : kG E.P t (ev x) (ev j) = some (.ret (.rp q (o' + iv.toNat) z 0)) := by
              simp only [kG, hx, hi, Gz, hu, hz', hz, hb]
              rfl
             simp only [cxE, ho, this]
             rfl
           · cases hz'
          rw [e2]; exact dS hT h
  · exact gen h
 case index t x j =>
  have h : (JU t x j E.P X o ev ob nb k).holds post := by simpa only [opG, ho] using h
  have e : bK E rid i ev ⟨au ob, nb⟩ o = lift E ⟨au ob, nb⟩ ((vY E.P t (ev x) (ev j)).bind jL) := by simp only [bK, ho, cxE]
  rw [e]; exact eH hX.top hX.base hT h
 case lookup t x j ok =>
  have h : (E8 t x j ok E.P X o ev ob nb k).holds post := by simpa only [opG, ho] using h
  have e : bK E rid i ev ⟨au ob, nb⟩ o = lift E ⟨au ob, nb⟩ ((gu E.P (au ob) t (ev x) (nrm (ev j)) ok).bind jL) := by simp only [bK, ho, cxE]
  rw [e]; exact eH hX.top hX.base hT h
 case extract x j =>
  have h : (oK x j E.P X o ev ob nb k).holds post := by simpa only [opG, ho] using h
  have e : bK E rid i ev ⟨au ob, nb⟩ o = lift E ⟨au ob, nb⟩ (cxE E.P ev (au ob) nb o) := by simp only [bK, ho]
  rw [e]
  unfold oK at h
  split at h
  · rename_i l hx
    rw [yF] at h
    split at h
    · rename_i s hs
      have e2 : cxE E.P ev (au ob) nb o = .ret ⟨nK s, .none⟩ := by
       simp only [cxE, ho, hx, iH, hs]
       rfl
      rw [e2]; exact dS hT h
    · exact h.elim
  · exact gen h
 case call c =>
  have h : (Hg c E.P X o ev ob nb k).holds post := by simpa only [opG, ho] using h
  unfold Hg at h
  obtain ⟨callee, args, argTypes⟩ := c
  cases callee with
  | value f =>
    have h : (kFn f args.toList E.P X o ev ob nb k).holds post := h
    unfold kFn at h
    simp only [bK, ho, hX.K]
    split at h
    · rename_i fk caps hf
      rw [Iq] at h
      simp only [hf]
      rw [hX.top, hX.base] at h
      exact hX.I _ _ _ _ _ _ _ _ hF hT h
    · exact h.elim
  | invoke r m =>
    have e : bK E rid i ev ⟨au ob, nb⟩ o = lift E ⟨au ob, nb⟩ (cxE E.P ev (au ob) nb o) := by simp only [bK, ho]
    rw [e]; exact gen h
  | builtin b =>
    have e : bK E rid i ev ⟨au ob, nb⟩ o = lift E ⟨au ob, nb⟩ (cxE E.P ev (au ob) nb o) := by simp only [bK, ho]
    rw [e]
    have h : (oQ ⟨.builtin b, args, argTypes⟩ b E.P X o ev ob nb k).holds post := h
    unfold oQ at h
    split at h
    · rename_i x t hb ha ht
      have ha : args.toList = [x] := ha
      have ht : argTypes.toList = [t] := ht
      unfold TT at h
      split at h
      · rename_i q z o' n c hx
        rw [dF] at h
        cases hs : Si E.P t with
        | false => rw [hs] at h; exact h.elim
        | true =>
          rw [hs, cond_true] at h
          have e2 : cxE E.P ev (au ob) nb o = .ret ⟨.ki .i64 n, .none⟩ := by
           unfold Si at hs
           split at hs
           · rename_i et hu
             have h1 : args = ⟨[x]⟩ := Array.toList_inj.1 ha
             have h2 : argTypes = ⟨[t]⟩ := Array.toList_inj.1 ht
             subst h1; subst h2
             simp only [cxE, ho, RZ, hu, hx]
           · cases hs
          rw [e2]; exact dS hT h
      · exact gen h
    · exact gen h
 case range t x =>
  have h : (JE t x E.P X o ev ob nb k).holds post := by simpa only [opG, ho] using h
  have e : bK E rid i ev ⟨au ob, nb⟩ o = lift E ⟨au ob, nb⟩ (wC E.P (au ob) nb t (ev x)) := by simp only [bK, ho]
  rw [e]; exact eH hX.top hX.base hT h
 case entry x =>
  have h : (KG x E.P X o ev ob nb k).holds post := by simpa only [opG, ho] using h
  have e : bK E rid i ev ⟨au ob, nb⟩ o = lift E ⟨au ob, nb⟩ (Aw (au ob) (ev x)) := by simp only [bK, ho]
  rw [e]; exact eH hX.top hX.base hT h
 case next a b =>
  have h : (T.fail : R).holds post := by simpa only [opG, ho] using h
  exact h.elim
 all_goals
  have h : (av E.P X o ev ob nb k).holds post := by simpa only [opG, ho] using h
  have e : bK E rid i ev ⟨au ob, nb⟩ o = lift E ⟨au ob, nb⟩ (cxE E.P ev (au ob) nb o) := by simp only [bK, ho]
  rw [e]
  exact gen h
end
end
end Rx
