/- Rx, part X2: operations, for the kernel. -/
import Derived.Test.YtcmnmceodhambaaGreatDoorRxX1
set_option linter.unusedSectionVars false
set_option linter.unusedSimpArgs false
set_option linter.unusedVariables false
namespace Rx
open Go
variable [Glob]
noncomputable section
def Gc (l : List SV) : Nat -> R -> (SV -> R) -> R := @List.rec SV (fun _ => Nat -> R -> (SV -> R) -> R) (fun _ f _ => f) (fun s _ ih n f k => @Nat.rec (fun _ => R) (k s) (fun m _ => ih m f k) n) l
theorem xS : ∀ (l : List SV) (n : Nat) (f : R) (k : SV -> R), Gc l n f k = match l[n]? with
  | some s => k s
  | none => f
 | [], _, _, _ => rfl
 | s :: l, 0, _, _ => rfl
 | s :: l, n + 1, f, k => by
   show Gc l n f k = _
   rw [xS l n f k]
   simp
theorem zT {α : Type} (d : α) : ∀ (t : Tr α) (n : Nat), xE d t n = t.get d n
 | .nil, n => rfl
 | .node l v r, n => by
   rw [eP]
   simp only [Tr.get]
   by_cases h : n = 0
   · subst h; rfl
   · rw [dN h, cond_false, if_neg h]
     by_cases h2 : n % 2 = 1
     · rw [mD h2, cond_true, if_pos h2, zT d l]
     · rw [dN h2, cond_false, if_neg h2, zT d r]
theorem AP (t : Tr SV) (n : Nat) : iE t n = t.get .junk n := by rw [NM]; exact zT _ t n
def iq (tr : Tr SV) (n : Nat) : Nat -> List SV := @Nat.rec (fun _ => Nat -> List SV) (fun _ => []) (fun _ ih k => iE tr k :: ih (Nat.succ k)) n
theorem dI (tr : Tr SV) : ∀ (n k : Nat), iq tr n k = dW tr k n
 | 0, _ => rfl
 | n + 1, k => by
   show iE tr k :: iq tr n (Nat.succ k) = _
   rw [dI tr n, AP]
   rfl
theorem zP {α : Type} (d : α) : ∀ (a b n : Nat) (v : α), n < 2 ^ a - 1 -> n < 2 ^ b - 1 -> BG d a n v = Tr.set d b .nil n v
 | 0, _, n, _, h, _ => by simp at h
 | _ + 1, 0, n, _, _, h => by simp at h
 | a + 1, b + 1, n, v, h1, h2 => by
   have hp : 2 ^ (a + 1) = 2 * 2 ^ a := by rw [Nat.pow_succ, Nat.mul_comm]
   have hq : 2 ^ (b + 1) = 2 * 2 ^ b := by rw [Nat.pow_succ, Nat.mul_comm]
   rw [C9]
   simp only [Tr.set]
   by_cases h : n = 0
   · subst h; rfl
   · rw [dN h, cond_false, if_neg h]
     by_cases h3 : n % 2 = 1
     · rw [mD h3, cond_true, if_pos h3, zP d a b (n / 2) v (by omega) (by omega)]
     · rw [dN h3, cond_false, if_neg h3, zP d a b (n / 2 - 1) v (by omega) (by omega)]
theorem zU {α : Type} (d : α) : ∀ (t : Tr α) (b n : Nat) (v : α), n < 2 ^ b - 1 -> b <= 24 -> yI d t n v = Tr.set d b t n v
 | .nil, b, n, v, h, hb => zP d 24 b n v (by
   have : 2 ^ b <= 2 ^ 24 := Nat.pow_le_pow_right (by omega) hb
   omega) h
 | .node l x r, 0, n, v, h, _ => by simp at h
 | .node l x r, b + 1, n, v, h, hb => by
   have hq : 2 ^ (b + 1) = 2 * 2 ^ b := by rw [Nat.pow_succ, Nat.mul_comm]
   rw [Ce]
   simp only [Tr.set]
   by_cases h0 : n = 0
   · subst h0; rfl
   · rw [dN h0, cond_false, if_neg h0]
     by_cases h3 : n % 2 = 1
     · rw [mD h3, cond_true, if_pos h3, zU d l b (n / 2) v (by omega) (by omega)]
     · rw [dN h3, cond_false, if_neg h3, zU d r b (n / 2 - 1) v (by omega) (by omega)]
theorem Pp {t : Tr SV} {n : Nat} {v : SV} (h : n < 65535) : pq t n v = Tr.set .junk CAP t n v := by
 rw [Pv]; exact zU _ t CAP n v (by simpa [CAP] using h) (by simp [CAP])
def EL (l : List SV) : Tr SV -> Nat -> Tr SV := @List.rec SV (fun _ => Tr SV -> Nat -> Tr SV) (fun t _ => t) (fun s _ ih t k => ih (pq t k s) (Nat.succ k)) l
theorem Df : ∀ (l : List SV) (t : Tr SV) (k : Nat), k + l.length <= 65535 -> EL l t k = jg t k l
 | [], _, _, _ => rfl
 | s :: l, t, k, h => by
   simp only [List.length_cons] at h
   show EL l (pq t k s) (Nat.succ k) = jg (t.set .junk CAP k s) (k + 1) l
   rw [Df l _ _ (by omega), Pp (by omega)]
def Sc (l : List SV) : Nat -> SV -> List SV := @List.rec SV (fun _ => Nat -> SV -> List SV) (fun _ _ => []) (fun x l ih n v => @Nat.rec (fun _ => List SV) (v :: l) (fun m _ => x :: ih m v) n) l
theorem LU : ∀ (l : List SV) (n : Nat) (v : SV), n + 1 <= l.length -> Sc l n v = splice l n [v]
 | [], _, _, h => by simp at h
 | x :: l, 0, v, _ => by simp [splice]; rfl
 | x :: l, n + 1, v, h => by
   show x :: Sc l n v = _
   rw [LU l n v (by simpa using h)]
   simp [splice]
def oB (o : Option Bool) (n a b : R) : R := @Option.rec Bool (fun _ => R) n (fun q => BR q a b) o
theorem KH (o : Option Bool) (n a b : R) : oB o n a b = match o with
  | none => n
  | some q => bif q then a else b := by
 cases o
 · rfl
 · exact dA _ _ _
def oN (o : Option Nat) (n : R) (f : Nat -> R) : R := @Option.rec Nat (fun _ => R) n f o
theorem Nr (o : Option Nat) (n : R) (f : Nat -> R) : oN o n f = match o with
  | none => n
  | some q => f q := by cases o <;> rfl
def ldK (P : Program) (t : TypeId) : Option Bool := match nO P t, bF P t with
 | some b, some _ => some b
 | _, _ => none
def Km (P : Program) (t : TypeId) : Bool := match bF P t with
 | some n => Nat.beq n 1
 | none => false
def aD : OpK := fun P X o ev ob nb k => vP X (cxE P ev (aC ob) nb o) ob nb k
def DN (x : Operand) : OpK := fun P X o ev ob nb k => k (ev x) ob nb
def Oo (x : Operand) : OpK := fun P X o ev ob nb k => match ev x with
 | .ptr i f => k (.ptr i f) ob nb
 | .rp i y z f => k (.rp i y z f) ob nb
 | _ => aD P X o ev ob nb k
def Ig (c a b : Operand) : OpK := fun P X o ev ob nb k => match ev c with
 | .kb q => BR q (k (ev a) ob nb) (k (ev b) ob nb)
 | _ => aD P X o ev ob nb k
def szK (P : Program) (t : TypeId) (f : Nat -> R) : R := match bF P t with
 | some n => f n
 | none => .fail
def Ca (t : TypeId) (x : Operand) : OpK := fun P X o ev ob nb k => match ev x with
 | .ptr i off => match aC ob i with
   | some (.cells _ cs) => oB (ldK P t) .fail (aD P X o ev ob nb k) (Gc cs off .fail fun s => k (nK s) ob nb)
   | _ => .fail
 | .rp i idx sz off => match aC ob i with
   | some (.vec _ sz' len tr _) => oB (ldK P t) .fail
       (szK P t fun n => BR (Nat.beq sz sz' && (Nat.ble (off + n) sz && Nat.blt idx len)) (k (.agg (iq tr n (Nat.add (Nat.mul idx sz) off))) ob nb) .fail)
       (BR (Nat.beq sz sz' && (Nat.blt off sz && Nat.blt idx len)) (k (nK (iE tr (Nat.add (Nat.mul idx sz) off))) ob nb) .fail)
   | _ => aD P X o ev ob nb k
 | _ => aD P X o ev ob nb k
def uR (t : TypeId) (p x : Operand) : OpK := fun P X o ev ob nb k => match ev p with
 | .ptr i off => match aC ob i with
   | some (.cells t' cs) => BR (Km P t) (BR (eB (ev x)) (BR (Nat.ble X.base i && Nat.ble (off + 1) cs.length) (k .junk (lG ob i (some (.cells t' (Sc cs off (ev x))))) nb) .fail) (aD P X o ev ob nb k)) (aD P X o ev ob nb k)
   | _ => .fail
 | _ => aD P X o ev ob nb k
def faK (P : Program) (s : TypeId) (f : Nat) : Option Nat := match lD P s f with
 | some fl => (match bF P fl.type with
   | some (_ + 1) => some fl.offset
   | _ => none)
 | none => none
def jW (s : TypeId) (x : Operand) (f : Nat) : OpK := fun P X o ev ob nb k => match ev x with
 | .ptr i off => oN (faK P s f) .fail fun d => fN (Nat.add off d) fun a => k (.ptr i a) ob nb
 | .rp i idx sz off => oN (faK P s f) .fail fun d => fN (Nat.add off d) fun a => k (.rp i idx sz a) ob nb
 | _ => aD P X o ev ob nb k
def zY (x y : Int) : Bool := @Int.rec (fun _ => Bool) (fun m => @Int.rec (fun _ => Bool) (fun n => Nat.ble (Nat.succ m) n) (fun _ => false) y) (fun m => @Int.rec (fun _ => Bool) (fun _ => true) (fun n => Nat.ble (Nat.succ n) m) y) x
theorem qI (x y : Int) : zY x y = decide (x < y) := by
 cases x with
 | ofNat m => cases y with
   | ofNat n =>
     show Nat.ble (m + 1) n = _
     rw [Bool.eq_iff_iff, decide_eq_true_eq]
     constructor
     · intro h; have := Nat.le_of_ble_eq_true h; simp; omega
     · intro h; apply Nat.ble_eq_true_of_le; simp at h; omega
   | negSucc n => show false = _; simp; omega
 | negSucc m => cases y with
   | ofNat n => show true = _; simp; omega
   | negSucc n =>
     show Nat.ble (n + 1) m = _
     rw [Bool.eq_iff_iff, decide_eq_true_eq]
     constructor
     · intro h; have := Nat.le_of_ble_eq_true h; omega
     · intro h; apply Nat.ble_eq_true_of_le; omega
def eqI (x y : Int) : Bool := @Int.rec (fun _ => Bool) (fun m => @Int.rec (fun _ => Bool) (fun n => Nat.beq m n) (fun _ => false) y) (fun m => @Int.rec (fun _ => Bool) (fun _ => false) (fun n => Nat.beq m n) y) x
theorem vT (x y : Int) : eqI x y = decide (x = y) := by
 cases x with
 | ofNat m => cases y with
   | ofNat n =>
     show Nat.beq m n = _
     by_cases h : m = n
     · subst h; simp [Nat.beq_refl]
     · rw [dN h]; simp; omega
   | negSucc n => show false = _; simp
 | negSucc m => cases y with
   | ofNat n => show false = _; simp
   | negSucc n =>
     show Nat.beq m n = _
     by_cases h : m = n
     · subst h; simp [Nat.beq_refl]
     · rw [dN h]; simp; omega
def nB (b : Bool) : Bool := @Bool.rec (fun _ => Bool) true false b
theorem KW (b : Bool) : nB b = !b := by cases b <;> rfl
def Nb (k : IntKind) (z : Int) (c : SV -> R) : R := fI z fun z => BR (zY z (lo k)) .fail (BR (zY (hi k) z) .fail (c (.ki k z)))
def dS (a b : IntKind) : Bool := decide (a = b)
def Ku (op : BinOp) (k : IntKind) (x y : Int) (gen : R) (c : SV -> R) : R := match op with
 | .add => Nb k (Int.add x y) c
 | .sub => Nb k (Int.sub x y) c
 | .eql => c (.kb (eqI x y))
 | .neq => c (.kb (nB (eqI x y)))
 | .lss => c (.kb (zY x y))
 | .gtr => c (.kb (zY y x))
 | .leq => c (.kb (nB (zY y x)))
 | .geq => c (.kb (nB (zY x y)))
 | _ => gen
def Qv (y : Operand) : Bool := match FD y with
 | some _ => true
 | none => false
def OE (op : BinOp) (x y : Operand) : OpK := fun P X o ev ob nb k => BR (Qv y) (aD P X o ev ob nb k) (match ev x, ev y with
 | .ki kk a, .ki kk' b => BR (dS kk kk') (Ku op kk a b (aD P X o ev ob nb k) fun s => k s ob nb) .fail
 | _, _ => aD P X o ev ob nb k)
def Ki (l : List Operand) (ev : Ev) (c : List SV) : List SV := @List.rec Operand (fun _ => List SV) c (fun x _ ih => ev x :: ih) l
theorem He (ev : Ev) (c : List SV) : ∀ l : List Operand, Ki l ev c = l.map ev ++ c
 | [] => rfl
 | x :: l => by
   show ev x :: Ki l ev c = _
   rw [He ev c l]; rfl
def kFn (f : Operand) (args : List Operand) : OpK := fun P X o ev ob nb k => match ev f with
 | .fn fk caps => X.I X.top X.base fk (Ki args ev caps) ob nb k
 | _ => .fail
def iaK (P : Program) (t : TypeId) : Option Nat := match P.underlying t with
 | some (.slice e) => bF P e
 | _ => none
def ltI (i : Int) (n : Nat) (f : Nat -> R) : R := @Int.rec (fun _ => R) (fun m => BR (Nat.ble (Nat.succ m) n) (f m) .fail) (fun _ => .fail) i
theorem TQ (i : Int) (n : Nat) (f : Nat -> R) : ltI i n f = bif decide (0 <= i) && decide (i < (n : Int)) then f i.toNat else .fail := by
 cases i with
 | ofNat m =>
   show BR (Nat.ble (m + 1) n) (f m) .fail = _
   rw [dA]
   have h1 : decide (0 <= Int.ofNat m) = true := by simp
   rw [h1, Bool.true_and]
   congr 1
   rw [Bool.eq_iff_iff, decide_eq_true_eq]
   constructor
   · intro h; have := Nat.le_of_ble_eq_true h; simp; omega
   · intro h; apply Nat.ble_eq_true_of_le; simp at h; omega
 | negSucc m => rfl
def Im (t : TypeId) (x i : Operand) : OpK := fun P X o ev ob nb k => match ev x, ev i with
 | .sl q z o' n c, .ki _ iv => oN (iaK P t) .fail fun z' => BR (Nat.beq z' z) (ltI iv n fun m => fN (Nat.add o' m) fun a => k (.rp q a z 0) ob nb) .fail
 | _, _ => aD P X o ev ob nb k
def QU (P : Program) (t : TypeId) : Bool := match P.underlying t with
 | some (.slice _) => true
 | _ => false
def YN (P : Program) (t : TypeId) : Bool := match P.underlying t with
 | some .string => true
 | _ => false
def QG (t : TypeId) (x : Operand) : OpK := fun P X o ev ob nb k => match ev x with
 | .sl _ _ _ n _ => BR (QU P t) (k (.ki .i64 (.ofNat n)) ob nb) .fail
 | _ => aD P X o ev ob nb k
def ow (x : Operand) (i : Nat) : OpK := fun P X o ev ob nb k => match ev x with
 | .tup l => Gc l i .fail fun s => k (nK s) ob nb
 | _ => aD P X o ev ob nb k
def Js (t : TypeId) : OpK := fun P X o ev ob nb k => vP X (match zeroOf P t with
    | some cs => .ret ⟨.ptr nb 0, ⟨[(nb, some (.cells t cs))], [nb]⟩⟩
    | none => .fail) ob nb k
def Uk (t : TypeId) (x : Operand) : OpK := fun P X o ev ob nb k => vP X (match dz (nrm (ev x)) with
    | some cs => .ret ⟨.ptr nb 0, ⟨[(nb, some (.cells t cs))], [nb]⟩⟩
    | none => .fail) ob nb k
def IX (t : TypeId) (ps : Array (Nat × Operand)) : OpK := fun P X o ev ob nb k => vP X ((jN P t (ps.toList.map fun p => (p.1, nrm (ev p.2)))).bind fun s => .ret ⟨s, .none⟩) ob nb k
def kUn (op : UnOp) (x : Operand) : OpK := fun P X o ev ob nb k => match op, ev x with
 | .not, .kb b => k (.kb (nB b)) ob nb
 | _, _ => aD P X o ev ob nb k
def J5 (t : TypeId) (x : Operand) (f : Nat) : OpK := fun P X o ev ob nb k => vP X ((nk P t (ev x) f).bind jF) ob nb k
def JB (t : TypeId) (x i : Operand) : OpK := fun P X o ev ob nb k => vP X ((vE P t (ev x) (ev i)).bind jF) ob nb k
def EN (t : TypeId) (x i : Operand) (ok : Bool) : OpK := fun P X o ev ob nb k => vP X ((fP P (aC ob) t (ev x) (nrm (ev i)) ok).bind jF) ob nb k
def oO (c : Call) (b : Builtin) : OpK := fun P X o ev ob nb k => match b, c.args.toList, c.argTypes.toList with
 | .len, [x], [t] => QG t x P X o ev ob nb k
 | _, _, _ => aD P X o ev ob nb k
def Ij (c : Call) : OpK := match c.callee with
 | .value f => kFn f c.args.toList
 | .builtin b => oO c b
 | _ => aD
def I5 (t : TypeId) (x : Operand) : OpK := fun P X o ev ob nb k => vP X (wB P (aC ob) nb t (ev x)) ob nb k
def Jw (x : Operand) : OpK := fun P X o ev ob nb k => vP X (zG (aC ob) (ev x)) ob nb k
def opG (o : Oper) : OpK := match o.op with
 | .move x => DN x
 | .assign x => DN x
 | .pick c a b => Ig c a b
 | .alloc t => Js t
 | .box t x => Uk t x
 | .build t ps => IX t ps
 | .load t x => Ca t x
 | .store t p x => uR t p x
 | .nilCheck x => Oo x
 | .binOp op t x y _ => OE op x y
 | .unOp op _ x => kUn op x
 | .fieldAddr s x f => jW s x f
 | .field t x f => J5 t x f
 | .indexAddr t x i => Im t x i
 | .index t x i => JB t x i
 | .lookup t x i ok => EN t x i ok
 | .extract x i => ow x i
 | .call c => Ij c
 | .range t x => I5 t x
 | .entry x => Jw x
 | .next _ _ => fun _ _ _ _ _ _ _ => .fail
 | _ => aD
def IRef (I : II) (J : Nat -> Nat -> FuncId -> List SV -> HS -> T (SV × HS)) : Prop :=
 ∀ top base f al ob nb k post, FOk ob nb -> eX top nb -> (I top base f al ob nb k).holds post -> (J top base f al ⟨aC ob, nb⟩).holds (KP post k)
structure XRef (X : EX) (E : CEnv) : Prop where
 I : IRef X.I E.I
 top : X.top = E.top
 base : X.base = E.base
 W : X.W = E.win
 K : ∀ rid i, E.K rid i = none
theorem dO {E : CEnv} {ob : OB} {nb : Nat} {k : KK} {post : SV × HD -> Prop} (hT : eX E.top nb) {s : SV} (h : (k s ob nb).holds post) : (lift E ⟨aC ob, nb⟩ (.ret ⟨s, .none⟩)).holds (KP post k) := by
 have hc : jH E ⟨aC ob, nb⟩ Eff.none = true := vk E (h := ⟨aC ob, nb⟩) hT.1
 show T.holds _ (bif jH E ⟨aC ob, nb⟩ Eff.none then T.ret (s, (⟨aC ob, nb⟩ : HS).eff .none) else .fail)
 rw [hc]
 exact ⟨ob, rfl, h⟩
section
variable {E : CEnv} {X : EX} {o : Oper} {ev : Ev} {ob : OB} {nb : Nat} {k : KK} {post : SV × HD -> Prop} {rid i : Nat}
theorem Az (hX : XRef X E) (hT : eX E.top nb) (h : (aD E.P X o ev ob nb k).holds post) : (lift E ⟨aC ob, nb⟩ (cxE E.P ev (aC ob) nb o)).holds (KP post k) :=
 fV hX.top hX.base hT h
theorem Mh (hX : XRef X E) (hT : eX E.top nb) {t : TypeId} {x : Operand} (ho : o.op = .load t x) (h : (Ca t x E.P X o ev ob nb k).holds post) : (lift E ⟨aC ob, nb⟩ (cxE E.P ev (aC ob) nb o)).holds (KP post k) := by
 have gen := Az (o := o) (ev := ev) (ob := ob) (k := k) (post := post) hX hT
 have eC : cxE E.P ev (aC ob) nb o = (fC E.P (aC ob) t (ev x)).bind jF := by unfold cxE; simp only [ho]
 have fin : ∀ s, fC E.P (aC ob) t (ev x) = .ret s -> (k (nK s) ob nb).holds post -> (lift E ⟨aC ob, nb⟩ (cxE E.P ev (aC ob) nb o)).holds (KP post k) := by
  intro s hs hk
  rw [eC, hs]
  exact dO hT hk
 unfold Ca at h
 split at h
 · rename_i i off hx
   split at h
   · rename_i t' cs hg
     rw [KH] at h
     unfold ldK at h
     cases ha : nO E.P t with
     | none => simp only [ha] at h; exact h.elim
     | some b =>
       cases hz : bF E.P t with
       | none => simp only [ha, hz] at h; exact h.elim
       | some n =>
         simp only [ha, hz] at h
         cases b with
         | true => exact gen h
         | false =>
           rw [cond_false, xS] at h
           split at h
           · rename_i s hs
             exact fin s (by simp only [fC, hx, fK, ha, hz, hg, hs]) h
           · exact h.elim
   · exact h.elim
 · rename_i i idx sz off hx
   split at h
   · rename_i t' sz' len tr ex hg
     rw [KH] at h
     unfold ldK at h
     cases ha : nO E.P t with
     | none => simp only [ha] at h; exact h.elim
     | some b =>
       cases hz : bF E.P t with
       | none => simp only [ha, hz] at h; exact h.elim
       | some n =>
         simp only [ha, hz] at h
         cases b with
         | true =>
           unfold szK at h
           simp only [hz, cond_true] at h
           rw [dA] at h
           cases hb : (Nat.beq sz sz' && (Nat.ble (off + n) sz && Nat.blt idx len)) with
           | false => rw [hb] at h; exact h.elim
           | true =>
             rw [hb, cond_true, dI] at h
             exact fin (.agg (dW tr (idx * sz + off) n)) (by simp only [fC, hx, ha, hz, hg, hb]; rfl) h
         | false =>
           rw [cond_false, dA] at h
           cases hb : (Nat.beq sz sz' && (Nat.blt off sz && Nat.blt idx len)) with
           | false => rw [hb] at h; exact h.elim
           | true =>
             rw [hb, cond_true, AP] at h
             exact fin _ (by simp only [fC, hx, ha, hz, hg, hb]; rfl) h
   · exact gen h
 · exact gen h
theorem JI (hX : XRef X E) (hT : eX E.top nb) (hF : FOk ob nb) {t : TypeId} {p x : Operand} (ho : o.op = .store t p x) (h : (uR t p x E.P X o ev ob nb k).holds post) : (lift E ⟨aC ob, nb⟩ (cxE E.P ev (aC ob) nb o)).holds (KP post k) := by
 have gen := Az (o := o) (ev := ev) (ob := ob) (k := k) (post := post) hX hT
 have eC : cxE E.P ev (aC ob) nb o = sD E.P (aC ob) t (ev p) (ev x) := by unfold cxE; simp only [ho]
 unfold uR at h
 split at h
 · rename_i i off hp
   split at h
   · rename_i t' cs hg
     rw [dA] at h
     cases h1 : Km E.P t with
     | false => rw [h1] at h; exact gen h
     | true =>
       rw [h1, cond_true, dA] at h
       cases h2 : eB (ev x) with
       | false => rw [h2] at h; exact gen h
       | true =>
         rw [h2, cond_true, dA] at h
         cases h3 : (Nat.ble X.base i && Nat.ble (off + 1) cs.length) with
         | false => rw [h3] at h; exact h.elim
         | true =>
           rw [h3, cond_true] at h
           simp only [Bool.and_eq_true] at h3
           have hz : bF E.P t = some 1 := by
            unfold Km at h1
            split at h1
            · rename_i n hn; rw [hn, Nat.eq_of_beq_eq_true h1]
            · cases h1
           have hc : dz (ev x) = some [ev x] := by
            unfold dz
            split
            · rename_i l hl; rw [hl] at h2; cases h2
            · rw [h2]; rfl
           have hle : off + 1 <= cs.length := Nat.le_of_ble_eq_true h3.2
           have hs : sD E.P (aC ob) t (ev p) (ev x) = .ret ⟨.junk, ⟨[(i, some (.cells t' (splice cs off [ev x])))], []⟩⟩ := by
            simp only [sD, hp, iQ, hz, hc, hg, List.length_singleton, List.all_cons, List.all_nil, Bool.and_true, h2, h3.2]
            rfl
           rw [eC, hs]
           have hi : i < nb := by
            rcases Nat.lt_or_ge i nb with h | h
            · exact h
            · rw [hF i h] at hg; cases hg
           have hef : jH E ⟨aC ob, nb⟩ ⟨[(i, some (.cells t' (splice cs off [ev x])))], []⟩ = true := by
            simp only [jH, gW, List.length_nil, Nat.add_zero, List.all_cons, List.all_nil, Bool.and_true, Bool.true_and, Bool.and_eq_true]
            refine ⟨Nat.ble_eq_true_of_le hT.1, ?_, ?_⟩
            · rw [Nat.blt_eq]; exact hi
            · rw [← hX.base]; exact h3.1
           show T.holds _ (bif jH E ⟨aC ob, nb⟩ ⟨[(i, some (.cells t' (splice cs off [ev x])))], []⟩ then T.ret (SV.junk, (⟨aC ob, nb⟩ : HS).eff ⟨[(i, some (.cells t' (splice cs off [ev x])))], []⟩) else .fail)
           rw [hef]
           refine ⟨_, ?_, h⟩
           funext j
           have := hT.1
           have := hT.2
           rw [oC j (by omega), LU cs off _ hle]
           show (List.lookup j [(i, some (Ob.cells t' (splice cs off [ev x])))]).getD (aC ob j) = _
           by_cases e : j = i
           · subst e; simp [List.lookup]
           · have : (j == i) = false := by simpa using e
             simp [List.lookup, this, e]
   · exact h.elim
 · exact gen h
theorem Mr {op : BinOp} {kk : IntKind} {a b : Int} {gen : R} {c : SV -> R} (h : (Ku op kk a b gen c).holds post) : gen.holds post ∨ ∃ s, kiV op kk a b = .ret s /\ (c s).holds post := by
 have ari : ∀ z : Int, (Nb kk z c).holds post -> (decide (lo kk <= z) && decide (z <= hi kk)) = true /\ (c (.ki kk z)).holds post := by
  intro z h
  unfold Nb at h
  rw [NT, dA, qI] at h
  cases h1 : decide (z < lo kk) with
  | true => rw [h1] at h; exact h.elim
  | false =>
    rw [h1, cond_false, dA, qI] at h
    cases h2 : decide (hi kk < z) with
    | true => rw [h2] at h; exact h.elim
    | false =>
      rw [h2, cond_false] at h
      simp only [decide_eq_false_iff_not, Int.not_lt] at h1 h2
      exact ⟨by simp [h1, h2], h⟩
 unfold Ku at h
 split at h
 · obtain ⟨h1, h2⟩ := ari _ h
   right
   refine ⟨_, ?_, h2⟩
   have h1 : (decide (lo kk <= a + b) && decide (a + b <= hi kk)) = true := h1
   simp only [kiV, h1]; rfl
 · obtain ⟨h1, h2⟩ := ari _ h
   right
   refine ⟨_, ?_, h2⟩
   have h1 : (decide (lo kk <= a - b) && decide (a - b <= hi kk)) = true := h1
   simp only [kiV, h1]; rfl
 · right; exact ⟨_, by rw [vT]; rfl, h⟩
 · right; exact ⟨_, by rw [KW, vT]; rfl, h⟩
 · right; exact ⟨_, by rw [qI]; rfl, h⟩
 · right; exact ⟨_, by rw [qI]; rfl, h⟩
 · right
   refine ⟨_, ?_, h⟩
   rw [KW, qI]
   simp only [kiV]
   congr 2
   rw [Bool.eq_iff_iff]; simp
 · right
   refine ⟨_, ?_, h⟩
   rw [KW, qI]
   simp only [kiV]
   congr 2
   rw [Bool.eq_iff_iff]; simp
 · exact .inl h
theorem Q0 (hX : XRef X E) (hT : eX E.top nb) (hF : FOk ob nb) (h : (opG o E.P X o ev ob nb k).holds post) : (bJ E rid i ev ⟨aC ob, nb⟩ o).holds (KP post k) := by
 have gen := Az (o := o) (ev := ev) (ob := ob) (k := k) (post := post) hX hT
 cases ho : o.op
 case move x =>
  have h : (DN x E.P X o ev ob nb k).holds post := by simpa only [opG, ho] using h
  have e : bJ E rid i ev ⟨aC ob, nb⟩ o = lift E ⟨aC ob, nb⟩ (.ret ⟨ev x, .none⟩) := by simp only [bJ, ho, cxE, sxE, iN]
  rw [e]; exact dO hT h
 case assign x =>
  have h : (DN x E.P X o ev ob nb k).holds post := by simpa only [opG, ho] using h
  have e : bJ E rid i ev ⟨aC ob, nb⟩ o = lift E ⟨aC ob, nb⟩ (.ret ⟨ev x, .none⟩) := by simp only [bJ, ho, cxE, sxE, iN]
  rw [e]; exact dO hT h
 case pick c a b =>
  have h : (Ig c a b E.P X o ev ob nb k).holds post := by simpa only [opG, ho] using h
  have e : bJ E rid i ev ⟨aC ob, nb⟩ o = lift E ⟨aC ob, nb⟩ (cxE E.P ev (aC ob) nb o) := by simp only [bJ, ho]
  unfold Ig at h
  split at h
  · rename_i q hq
    have e2 : cxE E.P ev (aC ob) nb o = .ret ⟨bif q then ev a else ev b, .none⟩ := by
        simp only [cxE, ho, sxE, iN, hq]
        cases q <;> rfl
    rw [e, e2]
    rw [dA] at h
    refine dO hT ?_
    cases q <;> exact h
  · rw [e]; exact gen h
 case alloc t =>
  have h : (Js t E.P X o ev ob nb k).holds post := by simpa only [opG, ho] using h
  have e : bJ E rid i ev ⟨aC ob, nb⟩ o = lift E ⟨aC ob, nb⟩ (match zeroOf E.P t with
   | some cs => .ret ⟨.ptr nb 0, ⟨[(nb, some (.cells t cs))], [nb]⟩⟩
   | none => .fail) := by
   simp only [bJ, ho, cxE, sxE, iN]
   rfl
  rw [e]; exact fV hX.top hX.base hT h
 case box t x =>
  have h : (Uk t x E.P X o ev ob nb k).holds post := by simpa only [opG, ho] using h
  have e : bJ E rid i ev ⟨aC ob, nb⟩ o = lift E ⟨aC ob, nb⟩ (match dz (nrm (ev x)) with
   | some cs => .ret ⟨.ptr nb 0, ⟨[(nb, some (.cells t cs))], [nb]⟩⟩
   | none => .fail) := by
   simp only [bJ, ho, cxE, sxE, iN]
   rfl
  rw [e]; exact fV hX.top hX.base hT h
 case build t ps =>
  have h : (IX t ps E.P X o ev ob nb k).holds post := by simpa only [opG, ho] using h
  have e : bJ E rid i ev ⟨aC ob, nb⟩ o = lift E ⟨aC ob, nb⟩ ((jN E.P t (ps.toList.map fun p => (p.1, nrm (ev p.2)))).bind fun s => .ret ⟨s, .none⟩) := by simp only [bJ, ho, cxE, sxE, iN]
  rw [e]; exact fV hX.top hX.base hT h
 case load t x =>
  have h : (Ca t x E.P X o ev ob nb k).holds post := by simpa only [opG, ho] using h
  have e : bJ E rid i ev ⟨aC ob, nb⟩ o = lift E ⟨aC ob, nb⟩ (cxE E.P ev (aC ob) nb o) := by simp only [bJ, ho]
  rw [e]; exact Mh hX hT ho h
 case store t p x =>
  have h : (uR t p x E.P X o ev ob nb k).holds post := by simpa only [opG, ho] using h
  have e : bJ E rid i ev ⟨aC ob, nb⟩ o = lift E ⟨aC ob, nb⟩ (cxE E.P ev (aC ob) nb o) := by simp only [bJ, ho]
  rw [e]; exact JI hX hT hF ho h
 case nilCheck x =>
  have h : (Oo x E.P X o ev ob nb k).holds post := by simpa only [opG, ho] using h
  have e : bJ E rid i ev ⟨aC ob, nb⟩ o = lift E ⟨aC ob, nb⟩ (cxE E.P ev (aC ob) nb o) := by simp only [bJ, ho]
  rw [e]
  unfold Oo at h
  split at h
  · rename_i q f hx
    have e2 : cxE E.P ev (aC ob) nb o = .ret ⟨.ptr q f, .none⟩ := by simp only [cxE, ho, sxE, hx]
    rw [e2]; exact dO hT h
  · rename_i q y z f hx
    have e2 : cxE E.P ev (aC ob) nb o = .ret ⟨.rp q y z f, .none⟩ := by simp only [cxE, ho, sxE, hx]
    rw [e2]; exact dO hT h
  · exact gen h
 case binOp op t x y ty =>
  have h : (OE op x y E.P X o ev ob nb k).holds post := by simpa only [opG, ho] using h
  have e : bJ E rid i ev ⟨aC ob, nb⟩ o = lift E ⟨aC ob, nb⟩ (cxE E.P ev (aC ob) nb o) := by simp only [bJ, ho]
  rw [e]
  unfold OE at h
  rw [dA] at h
  cases hn : Qv y with
  | true => rw [hn] at h; exact gen h
  | false =>
    rw [hn, cond_false] at h
    have hnil : FD y = none := by
     unfold Qv at hn
     split at hn
     · cases hn
     · assumption
    split at h
    · rename_i kk a kk' b hx hy
      rw [dA] at h
      cases hk : dS kk kk' with
      | false => rw [hk] at h; exact h.elim
      | true =>
        rw [hk, cond_true] at h
        have hk : kk = kk' := by simpa [dS] using hk
        subst hk
        rcases Mr h with h | ⟨s, hs, h⟩
        · exact gen h
        · have e2 : cxE E.P ev (aC ob) nb o = .ret ⟨nK s, .none⟩ := by
           simp only [cxE, ho, hnil, hx, hy, N9, if_true, hs]
           rfl
          have e3 : nK s = s := by
           unfold kiV at hs
           split at hs <;> (try simp only [Bool.cond_eq_ite] at hs) <;> (try split at hs) <;> first | (cases hs; done) | (injection hs with hs; subst hs; rfl)
          rw [e2, e3]; exact dO hT h
    · exact gen h
 case unOp op t x =>
  have h : (kUn op x E.P X o ev ob nb k).holds post := by simpa only [opG, ho] using h
  have e : bJ E rid i ev ⟨aC ob, nb⟩ o = lift E ⟨aC ob, nb⟩ (cxE E.P ev (aC ob) nb o) := by simp only [bJ, ho]
  rw [e]
  unfold kUn at h
  split at h
  · rename_i b hx
    have e2 : cxE E.P ev (aC ob) nb o = .ret ⟨.kb (!b), .none⟩ := by
     simp only [cxE, ho, sxE, iN, hx, N7]
     rfl
    rw [e2]
    rw [KW] at h
    exact dO hT h
  · exact gen h
 case fieldAddr s x f =>
  have h : (jW s x f E.P X o ev ob nb k).holds post := by simpa only [opG, ho] using h
  have e : bJ E rid i ev ⟨aC ob, nb⟩ o = lift E ⟨aC ob, nb⟩ (cxE E.P ev (aC ob) nb o) := by simp only [bJ, ho]
  rw [e]
  have eC : cxE E.P ev (aC ob) nb o = (eY E.P s f (nrm (ev x))).bind fun s => .ret ⟨s, .none⟩ := by simp only [cxE, ho, sxE, iN]
  have hfa : ∀ d, faK E.P s f = some d -> ∃ fl n, lD E.P s f = some fl /\ bF E.P fl.type = some (n + 1) /\ fl.offset = d := by
   intro d hd
   unfold faK at hd
   split at hd
   · rename_i fl hfl
     split at hd
     · rename_i n hn
       injection hd with hd
       exact ⟨fl, n, hfl, hn, hd⟩
     · cases hd
   · cases hd
  unfold jW at h
  split at h
  · rename_i q off hx
    rw [Nr] at h
    split at h
    · exact h.elim
    · rename_i d hd
      obtain ⟨fl, n, h1, h2, rfl⟩ := hfa d hd
      rw [oH] at h
      have e2 : cxE E.P ev (aC ob) nb o = .ret ⟨.ptr q (off + fl.offset), .none⟩ := by
       rw [eC, hx]
       simp only [nrm, eY, h1, h2]
       rfl
      rw [e2]; exact dO hT h
  · rename_i q idx sz off hx
    rw [Nr] at h
    split at h
    · exact h.elim
    · rename_i d hd
      obtain ⟨fl, n, h1, h2, rfl⟩ := hfa d hd
      rw [oH] at h
      have e2 : cxE E.P ev (aC ob) nb o = .ret ⟨.rp q idx sz (off + fl.offset), .none⟩ := by
       rw [eC, hx]
       simp only [nrm, eY, h1, h2]
       rfl
      rw [e2]; exact dO hT h
  · exact gen h
 case field t x f =>
  have h : (J5 t x f E.P X o ev ob nb k).holds post := by simpa only [opG, ho] using h
  have e : bJ E rid i ev ⟨aC ob, nb⟩ o = lift E ⟨aC ob, nb⟩ ((nk E.P t (ev x) f).bind jF) := by simp only [bJ, ho, cxE]
  rw [e]; exact fV hX.top hX.base hT h
 case indexAddr t x j =>
  have h : (Im t x j E.P X o ev ob nb k).holds post := by simpa only [opG, ho] using h
  have e : bJ E rid i ev ⟨aC ob, nb⟩ o = lift E ⟨aC ob, nb⟩ (cxE E.P ev (aC ob) nb o) := by simp only [bJ, ho]
  rw [e]
  unfold Im at h
  split at h
  · rename_i q z o' n c kk iv hx hi
    rw [Nr] at h
    split at h
    · exact h.elim
    · rename_i z' hz'
      rw [dA] at h
      cases hz : Nat.beq z' z with
      | false => rw [hz] at h; exact h.elim
      | true =>
        rw [hz, cond_true, TQ] at h
        cases hb : (decide (0 <= iv) && decide (iv < (n : Int))) with
        | false => rw [hb] at h; exact h.elim
        | true =>
          rw [hb, cond_true, oH] at h
          have e2 : cxE E.P ev (aC ob) nb o = .ret ⟨.rp q (o' + iv.toNat) z 0, .none⟩ := by
           unfold iaK at hz'
           split at hz'
           · rename_i et hu
             have : j5 E.P t (ev x) (ev j) = some (.ret (.rp q (o' + iv.toNat) z 0)) := by
              simp only [j5, hx, hi, FB, hu, hz', hz, hb]
              rfl
             simp only [cxE, ho, this]
             rfl
           · cases hz'
          rw [e2]; exact dO hT h
  · exact gen h
 case index t x j =>
  have h : (JB t x j E.P X o ev ob nb k).holds post := by simpa only [opG, ho] using h
  have e : bJ E rid i ev ⟨aC ob, nb⟩ o = lift E ⟨aC ob, nb⟩ ((vE E.P t (ev x) (ev j)).bind jF) := by simp only [bJ, ho, cxE]
  rw [e]; exact fV hX.top hX.base hT h
 case lookup t x j ok =>
  have h : (EN t x j ok E.P X o ev ob nb k).holds post := by simpa only [opG, ho] using h
  have e : bJ E rid i ev ⟨aC ob, nb⟩ o = lift E ⟨aC ob, nb⟩ ((fP E.P (aC ob) t (ev x) (nrm (ev j)) ok).bind jF) := by simp only [bJ, ho, cxE]
  rw [e]; exact fV hX.top hX.base hT h
 case extract x j =>
  have h : (ow x j E.P X o ev ob nb k).holds post := by simpa only [opG, ho] using h
  have e : bJ E rid i ev ⟨aC ob, nb⟩ o = lift E ⟨aC ob, nb⟩ (cxE E.P ev (aC ob) nb o) := by simp only [bJ, ho]
  rw [e]
  unfold ow at h
  split at h
  · rename_i l hx
    rw [xS] at h
    split at h
    · rename_i s hs
      have e2 : cxE E.P ev (aC ob) nb o = .ret ⟨nK s, .none⟩ := by
       simp only [cxE, ho, hx, iG, hs]
       rfl
      rw [e2]; exact dO hT h
    · exact h.elim
  · exact gen h
 case call c =>
  have h : (Ij c E.P X o ev ob nb k).holds post := by simpa only [opG, ho] using h
  unfold Ij at h
  obtain ⟨callee, args, argTypes⟩ := c
  cases callee with
  | value f =>
    have h : (kFn f args.toList E.P X o ev ob nb k).holds post := h
    unfold kFn at h
    simp only [bJ, ho, hX.K]
    split at h
    · rename_i fk caps hf
      rw [He] at h
      simp only [hf]
      rw [hX.top, hX.base] at h
      exact hX.I _ _ _ _ _ _ _ _ hF hT h
    · exact h.elim
  | invoke r m =>
    have e : bJ E rid i ev ⟨aC ob, nb⟩ o = lift E ⟨aC ob, nb⟩ (cxE E.P ev (aC ob) nb o) := by simp only [bJ, ho]
    rw [e]; exact gen h
  | builtin b =>
    have e : bJ E rid i ev ⟨aC ob, nb⟩ o = lift E ⟨aC ob, nb⟩ (cxE E.P ev (aC ob) nb o) := by simp only [bJ, ho]
    rw [e]
    have h : (oO ⟨.builtin b, args, argTypes⟩ b E.P X o ev ob nb k).holds post := h
    unfold oO at h
    split at h
    · rename_i x t hb ha ht
      have ha : args.toList = [x] := ha
      have ht : argTypes.toList = [t] := ht
      unfold QG at h
      split at h
      · rename_i q z o' n c hx
        rw [dA] at h
        cases hs : QU E.P t with
        | false => rw [hs] at h; exact h.elim
        | true =>
          rw [hs, cond_true] at h
          have e2 : cxE E.P ev (aC ob) nb o = .ret ⟨.ki .i64 n, .none⟩ := by
           unfold QU at hs
           split at hs
           · rename_i et hu
             have h1 : args = ⟨[x]⟩ := Array.toList_inj.1 ha
             have h2 : argTypes = ⟨[t]⟩ := Array.toList_inj.1 ht
             subst h1; subst h2
             simp only [cxE, ho, Rs, hu, hx]
           · cases hs
          rw [e2]; exact dO hT h
      · exact gen h
    · exact gen h
 case range t x =>
  have h : (I5 t x E.P X o ev ob nb k).holds post := by simpa only [opG, ho] using h
  have e : bJ E rid i ev ⟨aC ob, nb⟩ o = lift E ⟨aC ob, nb⟩ (wB E.P (aC ob) nb t (ev x)) := by simp only [bJ, ho]
  rw [e]; exact fV hX.top hX.base hT h
 case entry x =>
  have h : (Jw x E.P X o ev ob nb k).holds post := by simpa only [opG, ho] using h
  have e : bJ E rid i ev ⟨aC ob, nb⟩ o = lift E ⟨aC ob, nb⟩ (zG (aC ob) (ev x)) := by simp only [bJ, ho]
  rw [e]; exact fV hX.top hX.base hT h
 case next a b =>
  have h : (T.fail : R).holds post := by simpa only [opG, ho] using h
  exact h.elim
 all_goals
  have h : (aD E.P X o ev ob nb k).holds post := by simpa only [opG, ho] using h
  have e : bJ E rid i ev ⟨aC ob, nb⟩ o = lift E ⟨aC ob, nb⟩ (cxE E.P ev (aC ob) nb o) := by simp only [bJ, ho]
  rw [e]
  exact gen h
end
end
end Rx
