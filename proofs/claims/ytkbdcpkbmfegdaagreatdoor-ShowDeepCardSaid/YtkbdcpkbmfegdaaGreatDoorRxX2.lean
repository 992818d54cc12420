/- Rx, part X2: operations, for the kernel. -/
import Derived.Test.YtkbdcpkbmfegdaaGreatDoorRxX1
set_option linter.unusedSectionVars false
set_option linter.unusedSimpArgs false
set_option linter.unusedVariables false
namespace Rx
open Go
variable [Glob]
noncomputable section
def KI (l : List SV) : Nat -> R -> (SV -> R) -> R := @List.rec SV (fun _ => Nat -> R -> (SV -> R) -> R) (fun _ f _ => f) (fun s _ ih n f k => @Nat.rec (fun _ => R) (k s) (fun m _ => ih m f k) n) l
theorem Bo : ∀ (l : List SV) (n : Nat) (f : R) (k : SV -> R), KI l n f k = match l[n]? with
  | some s => k s
  | none => f
 | [], _, _, _ => rfl
 | s :: l, 0, _, _ => rfl
 | s :: l, n + 1, f, k => by
   show KI l n f k = _
   rw [Bo l n f k]
   simp
theorem Ce {α : Type} (d : α) : ∀ (t : Tr α) (n : Nat), Ai d t n = t.get d n
 | .nil, n => rfl
 | .node l v r, n => by
   rw [fG]
   simp only [Tr.get]
   by_cases h : n = 0
   · subst h; rfl
   · rw [d9 h, cond_false, if_neg h]
     by_cases h2 : n % 2 = 1
     · rw [nk h2, cond_true, if_pos h2, Ce d l]
     · rw [d9 h2, cond_false, if_neg h2, Ce d r]
theorem DR (t : Tr SV) (n : Nat) : gZ t n = t.get .junk n := by rw [Sn]; exact Ce _ t n
def oO (tr : Tr SV) (n : Nat) : Nat -> List SV := @Nat.rec (fun _ => Nat -> List SV) (fun _ => []) (fun _ ih k => gZ tr k :: ih (Nat.succ k)) n
theorem oK (tr : Tr SV) : ∀ (n k : Nat), oO tr n k = eP tr k n
 | 0, _ => rfl
 | n + 1, k => by
   show gZ tr k :: oO tr n (Nat.succ k) = _
   rw [oK tr n, DR]
   rfl
theorem Cv {α : Type} (d : α) : ∀ (a b n : Nat) (v : α), n < 2 ^ a - 1 -> n < 2 ^ b - 1 -> FP d a n v = Tr.set d b .nil n v
 | 0, _, n, _, h, _ => by simp at h
 | _ + 1, 0, n, _, _, h => by simp at h
 | a + 1, b + 1, n, v, h1, h2 => by
   have hp : 2 ^ (a + 1) = 2 * 2 ^ a := by rw [Nat.pow_succ, Nat.mul_comm]
   have hq : 2 ^ (b + 1) = 2 * 2 ^ b := by rw [Nat.pow_succ, Nat.mul_comm]
   rw [Hl]
   simp only [Tr.set]
   by_cases h : n = 0
   · subst h; rfl
   · rw [d9 h, cond_false, if_neg h]
     by_cases h3 : n % 2 = 1
     · rw [nk h3, cond_true, if_pos h3, Cv d a b (n / 2) v (by omega) (by omega)]
     · rw [d9 h3, cond_false, if_neg h3, Cv d a b (n / 2 - 1) v (by omega) (by omega)]
theorem EB {α : Type} (d : α) : ∀ (t : Tr α) (b n : Nat) (v : α), n < 2 ^ b - 1 -> b <= 24 -> Em d t n v = Tr.set d b t n v
 | .nil, b, n, v, h, hb => Cv d 24 b n v (by
   have : 2 ^ b <= 2 ^ 24 := Nat.pow_le_pow_right (by omega) hb
   omega) h
 | .node l x r, 0, n, v, h, _ => by simp at h
 | .node l x r, b + 1, n, v, h, hb => by
   have hq : 2 ^ (b + 1) = 2 * 2 ^ b := by rw [Nat.pow_succ, Nat.mul_comm]
   rw [GV]
   simp only [Tr.set]
   by_cases h0 : n = 0
   · subst h0; rfl
   · rw [d9 h0, cond_false, if_neg h0]
     by_cases h3 : n % 2 = 1
     · rw [nk h3, cond_true, if_pos h3, EB d l b (n / 2) v (by omega) (by omega)]
     · rw [d9 h3, cond_false, if_neg h3, EB d r b (n / 2 - 1) v (by omega) (by omega)]
theorem SQ {t : Tr SV} {n : Nat} {v : SV} (h : n < 65535) : qG t n v = Tr.set .junk CAP t n v := by
 rw [TB]; exact EB _ t CAP n v (by simpa [CAP] using h) (by simp [CAP])
def RZ (l : List SV) : Tr SV -> Nat -> Tr SV := @List.rec SV (fun _ => Tr SV -> Nat -> Tr SV) (fun t _ => t) (fun s _ ih t k => ih (qG t k s) (Nat.succ k)) l
theorem Rf : ∀ (l : List SV) (t : Tr SV) (k : Nat), k + l.length <= 65535 -> RZ l t k = jB t k l
 | [], _, _, _ => rfl
 | s :: l, t, k, h => by
   simp only [List.length_cons] at h
   show RZ l (qG t k s) (Nat.succ k) = jB (t.set .junk CAP k s) (k + 1) l
   rw [Rf l _ _ (by omega), SQ (by omega)]
def WE (l : List SV) : Nat -> SV -> List SV := @List.rec SV (fun _ => Nat -> SV -> List SV) (fun _ _ => []) (fun x l ih n v => @Nat.rec (fun _ => List SV) (v :: l) (fun m _ => x :: ih m v) n) l
theorem OT : ∀ (l : List SV) (n : Nat) (v : SV), n + 1 <= l.length -> WE l n v = splice l n [v]
 | [], _, _, h => by simp at h
 | x :: l, 0, v, _ => by simp [splice]; rfl
 | x :: l, n + 1, v, h => by
   show x :: WE l n v = _
   rw [OT l n v (by simpa using h)]
   simp [splice]
def oB (o : Option Bool) (n a b : R) : R := @Option.rec Bool (fun _ => R) n (fun q => BR q a b) o
theorem Ox (o : Option Bool) (n a b : R) : oB o n a b = match o with
  | none => n
  | some q => bif q then a else b := by
 cases o
 · rfl
 · exact dN _ _ _
def oN (o : Option Nat) (n : R) (f : Nat -> R) : R := @Option.rec Nat (fun _ => R) n f o
theorem UD (o : Option Nat) (n : R) (f : Nat -> R) : oN o n f = match o with
  | none => n
  | some q => f q := by cases o <;> rfl
def ldK (P : Program) (t : TypeId) : Option Bool := match pW P t, bG P t with
 | some b, some _ => some b
 | _, _ => none
def OL (P : Program) (t : TypeId) : Bool := match bG P t with
 | some n => Nat.beq n 1
 | none => false
def aA : OpK := fun P X o ev ob nb k => pX X (cxE P ev (av ob) nb o) ob nb k
def G8 (x : Operand) : OpK := fun P X o ev ob nb k => k (ev x) ob nb
def Um (x : Operand) : OpK := fun P X o ev ob nb k => match ev x with
 | .ptr i f => k (.ptr i f) ob nb
 | .rp i y z f => k (.rp i y z f) ob nb
 | _ => aA P X o ev ob nb k
def Lc (c a b : Operand) : OpK := fun P X o ev ob nb k => match ev c with
 | .kb q => BR q (k (ev a) ob nb) (k (ev b) ob nb)
 | _ => aA P X o ev ob nb k
def szK (P : Program) (t : TypeId) (f : Nat -> R) : R := match bG P t with
 | some n => f n
 | none => .fail
def GX (t : TypeId) (x : Operand) : OpK := fun P X o ev ob nb k => match ev x with
 | .ptr i off => match av ob i with
   | some (.cells _ cs) => oB (ldK P t) .fail (aA P X o ev ob nb k) (KI cs off .fail fun s => k (nK s) ob nb)
   | _ => .fail
 | .rp i idx sz off => match av ob i with
   | some (.vec _ sz' len tr _) => oB (ldK P t) .fail
       (szK P t fun n => BR (Nat.beq sz sz' && (Nat.ble (off + n) sz && Nat.blt idx len)) (k (.agg (oO tr n (Nat.add (Nat.mul idx sz) off))) ob nb) .fail)
       (BR (Nat.beq sz sz' && (Nat.blt off sz && Nat.blt idx len)) (k (nK (gZ tr (Nat.add (Nat.mul idx sz) off))) ob nb) .fail)
   | _ => aA P X o ev ob nb k
 | _ => aA P X o ev ob nb k
def xS (t : TypeId) (p x : Operand) : OpK := fun P X o ev ob nb k => match ev p with
 | .ptr i off => match av ob i with
   | some (.cells t' cs) => BR (OL P t) (BR (fA (ev x)) (BR (Nat.ble X.base i && Nat.ble (off + 1) cs.length) (k .junk (mH ob i (some (.cells t' (WE cs off (ev x))))) nb) .fail) (aA P X o ev ob nb k)) (aA P X o ev ob nb k)
   | _ => .fail
 | _ => aA P X o ev ob nb k
def faK (P : Program) (s : TypeId) (f : Nat) : Option Nat := match lW P s f with
 | some fl => (match bG P fl.type with
   | some (_ + 1) => some fl.offset
   | _ => none)
 | none => none
def kZ (s : TypeId) (x : Operand) (f : Nat) : OpK := fun P X o ev ob nb k => match ev x with
 | .ptr i off => oN (faK P s f) .fail fun d => fN (Nat.add off d) fun a => k (.ptr i a) ob nb
 | .rp i idx sz off => oN (faK P s f) .fail fun d => fN (Nat.add off d) fun a => k (.rp i idx sz a) ob nb
 | _ => aA P X o ev ob nb k
def Cj (x y : Int) : Bool := @Int.rec (fun _ => Bool) (fun m => @Int.rec (fun _ => Bool) (fun n => Nat.ble (Nat.succ m) n) (fun _ => false) y) (fun m => @Int.rec (fun _ => Bool) (fun _ => true) (fun n => Nat.ble (Nat.succ n) m) y) x
theorem sZ (x y : Int) : Cj x y = decide (x < y) := by
 cases x with
 | ofNat m => cases y with
   | ofNat n =>
     show Nat.ble (m + 1) n = _
     rw [Bool.eq_iff_iff, decide_eq_true_eq]
     constructor
     · intro h; have := Nat.le_of_ble_eq_true h; simp; omega
     · intro h; apply Nat.ble_eq_true_of_le; simp at h; omega
   | negSucc n => show false = _; simp; omega
 | negSucc m => cases y with
   | ofNat n => show true = _; simp; omega
   | negSucc n =>
     show Nat.ble (n + 1) m = _
     rw [Bool.eq_iff_iff, decide_eq_true_eq]
     constructor
     · intro h; have := Nat.le_of_ble_eq_true h; omega
     · intro h; apply Nat.ble_eq_true_of_le; omega
def eqI (x y : Int) : Bool := @Int.rec (fun _ => Bool) (fun m => @Int.rec (fun _ => Bool) (fun n => Nat.beq m n) (fun _ => false) y) (fun m => @Int.rec (fun _ => Bool) (fun _ => false) (fun n => Nat.beq m n) y) x
theorem y9 (x y : Int) : eqI x y = decide (x = y) := by
 cases x with
 | ofNat m => cases y with
   | ofNat n =>
     show Nat.beq m n = _
     by_cases h : m = n
     · subst h; simp [Nat.beq_refl]
     · rw [d9 h]; simp; omega
   | negSucc n => show false = _; simp
 | negSucc m => cases y with
   | ofNat n => show false = _; simp
   | negSucc n =>
     show Nat.beq m n = _
     by_cases h : m = n
     · subst h; simp [Nat.beq_refl]
     · rw [d9 h]; simp; omega
def nB (b : Bool) : Bool := @Bool.rec (fun _ => Bool) true false b
theorem PD (b : Bool) : nB b = !b := by cases b <;> rfl
def Qf (k : IntKind) (z : Int) (c : SV -> R) : R := fI z fun z => BR (Cj z (lo k)) .fail (BR (Cj (hi k) z) .fail (c (.ki k z)))
def eG (a b : IntKind) : Bool := decide (a = b)
def OZ (op : BinOp) (k : IntKind) (x y : Int) (gen : R) (c : SV -> R) : R := match op with
 | .add => Qf k (Int.add x y) c
 | .sub => Qf k (Int.sub x y) c
 | .eql => c (.kb (eqI x y))
 | .neq => c (.kb (nB (eqI x y)))
 | .lss => c (.kb (Cj x y))
 | .gtr => c (.kb (Cj y x))
 | .leq => c (.kb (nB (Cj y x)))
 | .geq => c (.kb (nB (Cj x y)))
 | _ => gen
def Vd (y : Operand) : Bool := match HV y with
 | some _ => true
 | none => false
def UJ (op : BinOp) (x y : Operand) : OpK := fun P X o ev ob nb k => BR (Vd y) (aA P X o ev ob nb k) (match ev x, ev y with
 | .ki kk a, .ki kk' b => BR (eG kk kk') (OZ op kk a b (aA P X o ev ob nb k) fun s => k s ob nb) .fail
 | _, _ => aA P X o ev ob nb k)
def Oe (l : List Operand) (ev : Ev) (c : List SV) : List SV := @List.rec Operand (fun _ => List SV) c (fun x _ ih => ev x :: ih) l
theorem Lx (ev : Ev) (c : List SV) : ∀ l : List Operand, Oe l ev c = l.map ev ++ c
 | [] => rfl
 | x :: l => by
   show ev x :: Oe l ev c = _
   rw [Lx ev c l]; rfl
def kFn (f : Operand) (args : List Operand) : OpK := fun P X o ev ob nb k => match ev f with
 | .fn fk caps => X.I X.top X.base fk (Oe args ev caps) ob nb k
 | _ => .fail
def iaK (P : Program) (t : TypeId) : Option Nat := match P.underlying t with
 | some (.slice e) => bG P e
 | _ => none
def ltI (i : Int) (n : Nat) (f : Nat -> R) : R := @Int.rec (fun _ => R) (fun m => BR (Nat.ble (Nat.succ m) n) (f m) .fail) (fun _ => .fail) i
theorem Zm (i : Int) (n : Nat) (f : Nat -> R) : ltI i n f = bif decide (0 <= i) && decide (i < (n : Int)) then f i.toNat else .fail := by
 cases i with
 | ofNat m =>
   show BR (Nat.ble (m + 1) n) (f m) .fail = _
   rw [dN]
   have h1 : decide (0 <= Int.ofNat m) = true := by simp
   rw [h1, Bool.true_and]
   congr 1
   rw [Bool.eq_iff_iff, decide_eq_true_eq]
   constructor
   · intro h; have := Nat.le_of_ble_eq_true h; simp; omega
   · intro h; apply Nat.ble_eq_true_of_le; simp at h; omega
 | negSucc m => rfl
def Lp (t : TypeId) (x i : Operand) : OpK := fun P X o ev ob nb k => match ev x, ev i with
 | .sl q z o' n c, .ki _ iv => oN (iaK P t) .fail fun z' => BR (Nat.beq z' z) (ltI iv n fun m => fN (Nat.add o' m) fun a => k (.rp q a z 0) ob nb) .fail
 | _, _ => aA P X o ev ob nb k
def VT (P : Program) (t : TypeId) : Bool := match P.underlying t with
 | some (.slice _) => true
 | _ => false
def ady (P : Program) (t : TypeId) : Bool := match P.underlying t with
 | some .string => true
 | _ => false
def VK (t : TypeId) (x : Operand) : OpK := fun P X o ev ob nb k => match ev x with
 | .sl _ _ _ n _ => BR (VT P t) (k (.ki .i64 (.ofNat n)) ob nb) .fail
 | _ => aA P X o ev ob nb k
def qE (x : Operand) (i : Nat) : OpK := fun P X o ev ob nb k => match ev x with
 | .tup l => KI l i .fail fun s => k (nK s) ob nb
 | _ => aA P X o ev ob nb k
def Nb (t : TypeId) : OpK := fun P X o ev ob nb k => pX X (match zeroOf P t with
    | some cs => .ret ⟨.ptr nb 0, ⟨[(nb, some (.cells t cs))], [nb]⟩⟩
    | none => .fail) ob nb k
def YQ (t : TypeId) (x : Operand) : OpK := fun P X o ev ob nb k => pX X (match dO (nrm (ev x)) with
    | some cs => .ret ⟨.ptr nb 0, ⟨[(nb, some (.cells t cs))], [nb]⟩⟩
    | none => .fail) ob nb k
def Np (t : TypeId) (ps : Array (Nat × Operand)) : OpK := fun P X o ev ob nb k => pX X ((jS P t (ps.toList.map fun p => (p.1, nrm (ev p.2)))).bind fun s => .ret ⟨s, .none⟩) ob nb k
def kUn (op : UnOp) (x : Operand) : OpK := fun P X o ev ob nb k => match op, ev x with
 | .not, .kb b => k (.kb (nB b)) ob nb
 | _, _ => aA P X o ev ob nb k
def MU (t : TypeId) (x : Operand) (f : Nat) : OpK := fun P X o ev ob nb k => pX X ((oL P t (ev x) f).bind j5) ob nb k
def NK (t : TypeId) (x i : Operand) : OpK := fun P X o ev ob nb k => pX X ((xU P t (ev x) (ev i)).bind j5) ob nb k
def JE (t : TypeId) (x i : Operand) (ok : Bool) : OpK := fun P X o ev ob nb k => pX X ((gL P (av ob) t (ev x) (nrm (ev i)) ok).bind j5) ob nb k
def qo (c : Call) (b : Builtin) : OpK := fun P X o ev ob nb k => match b, c.args.toList, c.argTypes.toList with
 | .len, [x], [t] => VK t x P X o ev ob nb k
 | _, _, _ => aA P X o ev ob nb k
def Mc (c : Call) : OpK := match c.callee with
 | .value f => kFn f c.args.toList
 | .builtin b => qo c b
 | _ => aA
def M0 (t : TypeId) (x : Operand) : OpK := fun P X o ev ob nb k => pX X (yR P (av ob) nb t (ev x)) ob nb k
def MW (x : Operand) : OpK := fun P X o ev ob nb k => pX X (BU (av ob) (ev x)) ob nb k
def opG (o : Oper) : OpK := match o.op with
 | .move x => G8 x
 | .assign x => G8 x
 | .pick c a b => Lc c a b
 | .alloc t => Nb t
 | .box t x => YQ t x
 | .build t ps => Np t ps
 | .load t x => GX t x
 | .store t p x => xS t p x
 | .nilCheck x => Um x
 | .binOp op t x y _ => UJ op x y
 | .unOp op _ x => kUn op x
 | .fieldAddr s x f => kZ s x f
 | .field t x f => MU t x f
 | .indexAddr t x i => Lp t x i
 | .index t x i => NK t x i
 | .lookup t x i ok => JE t x i ok
 | .extract x i => qE x i
 | .call c => Mc c
 | .range t x => M0 t x
 | .entry x => MW x
 | .next _ _ => fun _ _ _ _ _ _ _ => .fail
 | _ => aA
def IRef (I : II) (J : Nat -> Nat -> FuncId -> List SV -> HS -> T (SV × HS)) : Prop :=
 ∀ top base f al ob nb k post, FOk ob nb -> dW top nb -> (I top base f al ob nb k).holds post -> (J top base f al ⟨av ob, nb⟩).holds (KP post k)
structure XRef (X : EX) (E : CEnv) : Prop where
 I : IRef X.I E.I
 top : X.top = E.top
 base : X.base = E.base
 W : X.W = E.win
 K : ∀ rid i, E.K rid i = none
theorem eB {E : CEnv} {ob : OB} {nb : Nat} {k : KK} {post : SV × HD -> Prop} (hT : dW E.top nb) {s : SV} (h : (k s ob nb).holds post) : (lift E ⟨av ob, nb⟩ (.ret ⟨s, .none⟩)).holds (KP post k) := by
 have hc : jy E ⟨av ob, nb⟩ Eff.none = true := ze E (h := ⟨av ob, nb⟩) hT.1
 show T.holds _ (bif jy E ⟨av ob, nb⟩ Eff.none then T.ret (s, (⟨av ob, nb⟩ : HS).eff .none) else .fail)
 rw [hc]
 exact ⟨ob, rfl, h⟩
section
variable {E : CEnv} {X : EX} {o : Oper} {ev : Ev} {ob : OB} {nb : Nat} {k : KK} {post : SV × HD -> Prop} {rid i : Nat}
theorem Ch (hX : XRef X E) (hT : dW E.top nb) (h : (aA E.P X o ev ob nb k).holds post) : (lift E ⟨av ob, nb⟩ (cxE E.P ev (av ob) nb o)).holds (KP post k) :=
 fq hX.top hX.base hT h
theorem Rc (hX : XRef X E) (hT : dW E.top nb) {t : TypeId} {x : Operand} (ho : o.op = .load t x) (h : (GX t x E.P X o ev ob nb k).holds post) : (lift E ⟨av ob, nb⟩ (cxE E.P ev (av ob) nb o)).holds (KP post k) := by
 have gen := Ch (o := o) (ev := ev) (ob := ob) (k := k) (post := post) hX hT
 have eC : cxE E.P ev (av ob) nb o = (fT E.P (av ob) t (ev x)).bind j5 := by unfold cxE; simp only [ho]
 have fin : ∀ s, fT E.P (av ob) t (ev x) = .ret s -> (k (nK s) ob nb).holds post -> (lift E ⟨av ob, nb⟩ (cxE E.P ev (av ob) nb o)).holds (KP post k) := by
  intro s hs hk
  rw [eC, hs]
  exact eB hT hk
 unfold GX at h
 split at h
 · rename_i i off hx
   split at h
   · rename_i t' cs hg
     rw [Ox] at h
     unfold ldK at h
     cases ha : pW E.P t with
     | none => simp only [ha] at h; exact h.elim
     | some b =>
       cases hz : bG E.P t with
       | none => simp only [ha, hz] at h; exact h.elim
       | some n =>
         simp only [ha, hz] at h
         cases b with
         | true => exact gen h
         | false =>
           rw [cond_false, Bo] at h
           split at h
           · rename_i s hs
             exact fin s (by simp only [fT, hx, gD, ha, hz, hg, hs]) h
           · exact h.elim
   · exact h.elim
 · rename_i i idx sz off hx
   split at h
   · rename_i t' sz' len tr ex hg
     rw [Ox] at h
     unfold ldK at h
     cases ha : pW E.P t with
     | none => simp only [ha] at h; exact h.elim
     | some b =>
       cases hz : bG E.P t with
       | none => simp only [ha, hz] at h; exact h.elim
       | some n =>
         simp only [ha, hz] at h
         cases b with
         | true =>
           unfold szK at h
           simp only [hz, cond_true] at h
           rw [dN] at h
           cases hb : (Nat.beq sz sz' && (Nat.ble (off + n) sz && Nat.blt idx len)) with
           | false => rw [hb] at h; exact h.elim
           | true =>
             rw [hb, cond_true, oK] at h
             exact fin (.agg (eP tr (idx * sz + off) n)) (by simp only [fT, hx, ha, hz, hg, hb]; rfl) h
         | false =>
           rw [cond_false, dN] at h
           cases hb : (Nat.beq sz sz' && (Nat.blt off sz && Nat.blt idx len)) with
           | false => rw [hb] at h; exact h.elim
           | true =>
             rw [hb, cond_true, DR] at h
             exact fin _ (by simp only [fT, hx, ha, hz, hg, hb]; rfl) h
   · exact gen h
 · exact gen h
theorem NP (hX : XRef X E) (hT : dW E.top nb) (hF : FOk ob nb) {t : TypeId} {p x : Operand} (ho : o.op = .store t p x) (h : (xS t p x E.P X o ev ob nb k).holds post) : (lift E ⟨av ob, nb⟩ (cxE E.P ev (av ob) nb o)).holds (KP post k) := by
 have gen := Ch (o := o) (ev := ev) (ob := ob) (k := k) (post := post) hX hT
 have eC : cxE E.P ev (av ob) nb o = uU E.P (av ob) t (ev p) (ev x) := by unfold cxE; simp only [ho]
 unfold xS at h
 split at h
 · rename_i i off hp
   split at h
   · rename_i t' cs hg
     rw [dN] at h
     cases h1 : OL E.P t with
     | false => rw [h1] at h; exact gen h
     | true =>
       rw [h1, cond_true, dN] at h
       cases h2 : fA (ev x) with
       | false => rw [h2] at h; exact gen h
       | true =>
         rw [h2, cond_true, dN] at h
         cases h3 : (Nat.ble X.base i && Nat.ble (off + 1) cs.length) with
         | false => rw [h3] at h; exact h.elim
         | true =>
           rw [h3, cond_true] at h
           simp only [Bool.and_eq_true] at h3
           have hz : bG E.P t = some 1 := by
            unfold OL at h1
            split at h1
            · rename_i n hn; rw [hn, Nat.eq_of_beq_eq_true h1]
            · cases h1
           have hc : dO (ev x) = some [ev x] := by
            unfold dO
            split
            · rename_i l hl; rw [hl] at h2; cases h2
            · rw [h2]; rfl
           have hle : off + 1 <= cs.length := Nat.le_of_ble_eq_true h3.2
           have hs : uU E.P (av ob) t (ev p) (ev x) = .ret ⟨.junk, ⟨[(i, some (.cells t' (splice cs off [ev x])))], []⟩⟩ := by
            simp only [uU, hp, jc, hz, hc, hg, List.length_singleton, List.all_cons, List.all_nil, Bool.and_true, h2, h3.2]
            rfl
           rw [eC, hs]
           have hi : i < nb := by
            rcases Nat.lt_or_ge i nb with h | h
            · exact h
            · rw [hF i h] at hg; cases hg
           have hef : jy E ⟨av ob, nb⟩ ⟨[(i, some (.cells t' (splice cs off [ev x])))], []⟩ = true := by
            simp only [jy, iy, List.length_nil, Nat.add_zero, List.all_cons, List.all_nil, Bool.and_true, Bool.true_and, Bool.and_eq_true]
            refine ⟨Nat.ble_eq_true_of_le hT.1, ?_, ?_⟩
            · rw [Nat.blt_eq]; exact hi
            · rw [← hX.base]; exact h3.1
           show T.holds _ (bif jy E ⟨av ob, nb⟩ ⟨[(i, some (.cells t' (splice cs off [ev x])))], []⟩ then T.ret (SV.junk, (⟨av ob, nb⟩ : HS).eff ⟨[(i, some (.cells t' (splice cs off [ev x])))], []⟩) else .fail)
           rw [hef]
           refine ⟨_, ?_, h⟩
           funext j
           have := hT.1
           have := hT.2
           rw [qz j (by omega), OT cs off _ hle]
           show (List.lookup j [(i, some (Ob.cells t' (splice cs off [ev x])))]).getD (av ob j) = _
           by_cases e : j = i
           · subst e; simp [List.lookup]
           · have : (j == i) = false := by simpa using e
             simp [List.lookup, this, e]
   · exact h.elim
 · exact gen h
theorem Qr {op : BinOp} {kk : IntKind} {a b : Int} {gen : R} {c : SV -> R} (h : (OZ op kk a b gen c).holds post) : gen.holds post ∨ ∃ s, kiV op kk a b = .ret s /\ (c s).holds post := by
 have ari : ∀ z : Int, (Qf kk z c).holds post -> (decide (lo kk <= z) && decide (z <= hi kk)) = true /\ (c (.ki kk z)).holds post := by
  intro z h
  unfold Qf at h
  rw [RH, dN, sZ] at h
  cases h1 : decide (z < lo kk) with
  | true => rw [h1] at h; exact h.elim
  | false =>
    rw [h1, cond_false, dN, sZ] at h
    cases h2 : decide (hi kk < z) with
    | true => rw [h2] at h; exact h.elim
    | false =>
      rw [h2, cond_false] at h
      simp only [decide_eq_false_iff_not, Int.not_lt] at h1 h2
      exact ⟨by simp [h1, h2], h⟩
 unfold OZ at h
 split at h
 · obtain ⟨h1, h2⟩ := ari _ h
   right
   refine ⟨_, ?_, h2⟩
   have h1 : (decide (lo kk <= a + b) && decide (a + b <= hi kk)) = true := h1
   simp only [kiV, h1]; rfl
 · obtain ⟨h1, h2⟩ := ari _ h
   right
   refine ⟨_, ?_, h2⟩
   have h1 : (decide (lo kk <= a - b) && decide (a - b <= hi kk)) = true := h1
   simp only [kiV, h1]; rfl
 · right; exact ⟨_, by rw [y9]; rfl, h⟩
 · right; exact ⟨_, by rw [PD, y9]; rfl, h⟩
 · right; exact ⟨_, by rw [sZ]; rfl, h⟩
 · right; exact ⟨_, by rw [sZ]; rfl, h⟩
 · right
   refine ⟨_, ?_, h⟩
   rw [PD, sZ]
   simp only [kiV]
   congr 2
   rw [Bool.eq_iff_iff]; simp
 · right
   refine ⟨_, ?_, h⟩
   rw [PD, sZ]
   simp only [kiV]
   congr 2
   rw [Bool.eq_iff_iff]; simp
 · exact .inl h
theorem WZ (hX : XRef X E) (hT : dW E.top nb) (hF : FOk ob nb) (h : (opG o E.P X o ev ob nb k).holds post) : (bS E rid i ev ⟨av ob, nb⟩ o).holds (KP post k) := by
 have gen := Ch (o := o) (ev := ev) (ob := ob) (k := k) (post := post) hX hT
 cases ho : o.op
 case move x =>
  have h : (G8 x E.P X o ev ob nb k).holds post := by simpa only [opG, ho] using h
  have e : bS E rid i ev ⟨av ob, nb⟩ o = lift E ⟨av ob, nb⟩ (.ret ⟨ev x, .none⟩) := by simp only [bS, ho, cxE, sxE, iQ]
  rw [e]; exact eB hT h
 case assign x =>
  have h : (G8 x E.P X o ev ob nb k).holds post := by simpa only [opG, ho] using h
  have e : bS E rid i ev ⟨av ob, nb⟩ o = lift E ⟨av ob, nb⟩ (.ret ⟨ev x, .none⟩) := by simp only [bS, ho, cxE, sxE, iQ]
  rw [e]; exact eB hT h
 case pick c a b =>
  have h : (Lc c a b E.P X o ev ob nb k).holds post := by simpa only [opG, ho] using h
  have e : bS E rid i ev ⟨av ob, nb⟩ o = lift E ⟨av ob, nb⟩ (cxE E.P ev (av ob) nb o) := by simp only [bS, ho]
  unfold Lc at h
  split at h
  · rename_i q hq
    have e2 : cxE E.P ev (av ob) nb o = .ret ⟨bif q then ev a else ev b, .none⟩ := by
        simp only [cxE, ho, sxE, iQ, hq]
        cases q <;> rfl
    rw [e, e2]
    rw [dN] at h
    refine eB hT ?_
    cases q <;> exact h
  · rw [e]; exact gen h
 case alloc t =>
  have h : (Nb t E.P X o ev ob nb k).holds post := by simpa only [opG, ho] using h
  have e : bS E rid i ev ⟨av ob, nb⟩ o = lift E ⟨av ob, nb⟩ (match zeroOf E.P t with
   | some cs => .ret ⟨.ptr nb 0, ⟨[(nb, some (.cells t cs))], [nb]⟩⟩
   | none => .fail) := by
   simp only [bS, ho, cxE, sxE, iQ]
   rfl
  rw [e]; exact fq hX.top hX.base hT h
 case box t x =>
  have h : (YQ t x E.P X o ev ob nb k).holds post := by simpa only [opG, ho] using h
  have e : bS E rid i ev ⟨av ob, nb⟩ o = lift E ⟨av ob, nb⟩ (match dO (nrm (ev x)) with
   | some cs => .ret ⟨.ptr nb 0, ⟨[(nb, some (.cells t cs))], [nb]⟩⟩
   | none => .fail) := by
   simp only [bS, ho, cxE, sxE, iQ]
   rfl
  rw [e]; exact fq hX.top hX.base hT h
 case build t ps =>
  have h : (Np t ps E.P X o ev ob nb k).holds post := by simpa only [opG, ho] using h
  have e : bS E rid i ev ⟨av ob, nb⟩ o = lift E ⟨av ob, nb⟩ ((jS E.P t (ps.toList.map fun p => (p.1, nrm (ev p.2)))).bind fun s => .ret ⟨s, .none⟩) := by simp only [bS, ho, cxE, sxE, iQ]
  rw [e]; exact fq hX.top hX.base hT h
 case load t x =>
  have h : (GX t x E.P X o ev ob nb k).holds post := by simpa only [opG, ho] using h
  have e : bS E rid i ev ⟨av ob, nb⟩ o = lift E ⟨av ob, nb⟩ (cxE E.P ev (av ob) nb o) := by simp only [bS, ho]
  rw [e]; exact Rc hX hT ho h
 case store t p x =>
  have h : (xS t p x E.P X o ev ob nb k).holds post := by simpa only [opG, ho] using h
  have e : bS E rid i ev ⟨av ob, nb⟩ o = lift E ⟨av ob, nb⟩ (cxE E.P ev (av ob) nb o) := by simp only [bS, ho]
  rw [e]; exact NP hX hT hF ho h
 case nilCheck x =>
  have h : (Um x E.P X o ev ob nb k).holds post := by simpa only [opG, ho] using h
  have e : bS E rid i ev ⟨av ob, nb⟩ o = lift E ⟨av ob, nb⟩ (cxE E.P ev (av ob) nb o) := by simp only [bS, ho]
  rw [e]
  unfold Um at h
  split at h
  · rename_i q f hx
    have e2 : cxE E.P ev (av ob) nb o = .ret ⟨.ptr q f, .none⟩ := by simp only [cxE, ho, sxE, hx]
    rw [e2]; exact eB hT h
  · rename_i q y z f hx
    have e2 : cxE E.P ev (av ob) nb o = .ret ⟨.rp q y z f, .none⟩ := by simp only [cxE, ho, sxE, hx]
    rw [e2]; exact eB hT h
  · exact gen h
 case binOp op t x y ty =>
  have h : (UJ op x y E.P X o ev ob nb k).holds post := by simpa only [opG, ho] using h
  have e : bS E rid i ev ⟨av ob, nb⟩ o = lift E ⟨av ob, nb⟩ (cxE E.P ev (av ob) nb o) := by simp only [bS, ho]
  rw [e]
  unfold UJ at h
  rw [dN] at h
  cases hn : Vd y with
  | true => rw [hn] at h; exact gen h
  | false =>
    rw [hn, cond_false] at h
    have hnil : HV y = none := by
     unfold Vd at hn
     split at hn
     · cases hn
     · assumption
    split at h
    · rename_i kk a kk' b hx hy
      rw [dN] at h
      cases hk : eG kk kk' with
      | false => rw [hk] at h; exact h.elim
      | true =>
        rw [hk, cond_true] at h
        have hk : kk = kk' := by simpa [eG] using hk
        subst hk
        rcases Qr h with h | ⟨s, hs, h⟩
        · exact gen h
        · have e2 : cxE E.P ev (av ob) nb o = .ret ⟨nK s, .none⟩ := by
           simp only [cxE, ho, hnil, hx, hy, UZ, if_true, hs]
           rfl
          have e3 : nK s = s := by
           unfold kiV at hs
           split at hs <;> (try simp only [Bool.cond_eq_ite] at hs) <;> (try split at hs) <;> first | (cases hs; done) | (injection hs with hs; subst hs; rfl)
          rw [e2, e3]; exact eB hT h
    · exact gen h
 case unOp op t x =>
  have h : (kUn op x E.P X o ev ob nb k).holds post := by simpa only [opG, ho] using h
  have e : bS E rid i ev ⟨av ob, nb⟩ o = lift E ⟨av ob, nb⟩ (cxE E.P ev (av ob) nb o) := by simp only [bS, ho]
  rw [e]
  unfold kUn at h
  split at h
  · rename_i b hx
    have e2 : cxE E.P ev (av ob) nb o = .ret ⟨.kb (!b), .none⟩ := by
     simp only [cxE, ho, sxE, iQ, hx, Uv]
     rfl
    rw [e2]
    rw [PD] at h
    exact eB hT h
  · exact gen h
 case fieldAddr s x f =>
  have h : (kZ s x f E.P X o ev ob nb k).holds post := by simpa only [opG, ho] using h
  have e : bS E rid i ev ⟨av ob, nb⟩ o = lift E ⟨av ob, nb⟩ (cxE E.P ev (av ob) nb o) := by simp only [bS, ho]
  rw [e]
  have eC : cxE E.P ev (av ob) nb o = (fQ E.P s f (nrm (ev x))).bind fun s => .ret ⟨s, .none⟩ := by simp only [cxE, ho, sxE, iQ]
  have hfa : ∀ d, faK E.P s f = some d -> ∃ fl n, lW E.P s f = some fl /\ bG E.P fl.type = some (n + 1) /\ fl.offset = d := by
   intro d hd
   unfold faK at hd
   split at hd
   · rename_i fl hfl
     split at hd
     · rename_i n hn
       injection hd with hd
       exact ⟨fl, n, hfl, hn, hd⟩
     · cases hd
   · cases hd
  unfold kZ at h
  split at h
  · rename_i q off hx
    rw [UD] at h
    split at h
    · exact h.elim
    · rename_i d hd
      obtain ⟨fl, n, h1, h2, rfl⟩ := hfa d hd
      rw [qD] at h
      have e2 : cxE E.P ev (av ob) nb o = .ret ⟨.ptr q (off + fl.offset), .none⟩ := by
       rw [eC, hx]
       simp only [nrm, fQ, h1, h2]
       rfl
      rw [e2]; exact eB hT h
  · rename_i q idx sz off hx
    rw [UD] at h
    split at h
    · exact h.elim
    · rename_i d hd
      obtain ⟨fl, n, h1, h2, rfl⟩ := hfa d hd
      rw [qD] at h
      have e2 : cxE E.P ev (av ob) nb o = .ret ⟨.rp q idx sz (off + fl.offset), .none⟩ := by
       rw [eC, hx]
       simp only [nrm, fQ, h1, h2]
       rfl
      rw [e2]; exact eB hT h
  · exact gen h
 case field t x f =>
  have h : (MU t x f E.P X o ev ob nb k).holds post := by simpa only [opG, ho] using h
  have e : bS E rid i ev ⟨av ob, nb⟩ o = lift E ⟨av ob, nb⟩ ((oL E.P t (ev x) f).bind j5) := by simp only [bS, ho, cxE]
  rw [e]; exact fq hX.top hX.base hT h
 case indexAddr t x j =>
  have h : (Lp t x j E.P X o ev ob nb k).holds post := by simpa only [opG, ho] using h
  have e : bS E rid i ev ⟨av ob, nb⟩ o = lift E ⟨av ob, nb⟩ (cxE E.P ev (av ob) nb o) := by simp only [bS, ho]
  rw [e]
  unfold Lp at h
  split at h
  · rename_i q z o' n c kk iv hx hi
    rw [UD] at h
    split at h
    · exact h.elim
    · rename_i z' hz'
      rw [dN] at h
      cases hz : Nat.beq z' z with
      | false => rw [hz] at h; exact h.elim
      | true =>
        rw [hz, cond_true, Zm] at h
        cases hb : (decide (0 <= iv) && decide (iv < (n : Int))) with
        | false => rw [hb] at h; exact h.elim
        | true =>
          rw [hb, cond_true, qD] at h
          have e2 : cxE E.P ev (av ob) nb o = .ret ⟨.rp q (o' + iv.toNat) z 0, .none⟩ := by
           unfold iaK at hz'
           split at hz'
           · rename_i et hu
             have : kT E.P t (ev x) (ev j) = some (.ret (.rp q (o' + iv.toNat) z 0)) := by
              simp only [kT, hx, hi, Jd, hu, hz', hz, hb]
              rfl
             simp only [cxE, ho, this]
             rfl
           · cases hz'
          rw [e2]; exact eB hT h
  · exact gen h
 case index t x j =>
  have h : (NK t x j E.P X o ev ob nb k).holds post := by simpa only [opG, ho] using h
  have e : bS E rid i ev ⟨av ob, nb⟩ o = lift E ⟨av ob, nb⟩ ((xU E.P t (ev x) (ev j)).bind j5) := by simp only [bS, ho, cxE]
  rw [e]; exact fq hX.top hX.base hT h
 case lookup t x j ok =>
  have h : (JE t x j ok E.P X o ev ob nb k).holds post := by simpa only [opG, ho] using h
  have e : bS E rid i ev ⟨av ob, nb⟩ o = lift E ⟨av ob, nb⟩ ((gL E.P (av ob) t (ev x) (nrm (ev j)) ok).bind j5) := by simp only [bS, ho, cxE]
  rw [e]; exact fq hX.top hX.base hT h
 case extract x j =>
  have h : (qE x j E.P X o ev ob nb k).holds post := by simpa only [opG, ho] using h
  have e : bS E rid i ev ⟨av ob, nb⟩ o = lift E ⟨av ob, nb⟩ (cxE E.P ev (av ob) nb o) := by simp only [bS, ho]
  rw [e]
  unfold qE at h
  split at h
  · rename_i l hx
    rw [Bo] at h
    split at h
    · rename_i s hs
      have e2 : cxE E.P ev (av ob) nb o = .ret ⟨nK s, .none⟩ := by
       simp only [cxE, ho, hx, iV, hs]
       rfl
      rw [e2]; exact eB hT h
    · exact h.elim
  · exact gen h
 case call c =>
  have h : (Mc c E.P X o ev ob nb k).holds post := by simpa only [opG, ho] using h
  unfold Mc at h
  obtain ⟨callee, args, argTypes⟩ := c
  cases callee with
  | value f =>
    have h : (kFn f args.toList E.P X o ev ob nb k).holds post := h
    unfold kFn at h
    simp only [bS, ho, hX.K]
    split at h
    · rename_i fk caps hf
      rw [Lx] at h
      simp only [hf]
      rw [hX.top, hX.base] at h
      exact hX.I _ _ _ _ _ _ _ _ hF hT h
    · exact h.elim
  | invoke r m =>
    have e : bS E rid i ev ⟨av ob, nb⟩ o = lift E ⟨av ob, nb⟩ (cxE E.P ev (av ob) nb o) := by simp only [bS, ho]
    rw [e]; exact gen h
  | builtin b =>
    have e : bS E rid i ev ⟨av ob, nb⟩ o = lift E ⟨av ob, nb⟩ (cxE E.P ev (av ob) nb o) := by simp only [bS, ho]
    rw [e]
    have h : (qo ⟨.builtin b, args, argTypes⟩ b E.P X o ev ob nb k).holds post := h
    unfold qo at h
    split at h
    · rename_i x t hb ha ht
      have ha : args.toList = [x] := ha
      have ht : argTypes.toList = [t] := ht
      unfold VK at h
      split at h
      · rename_i q z o' n c hx
        rw [dN] at h
        cases hs : VT E.P t with
        | false => rw [hs] at h; exact h.elim
        | true =>
          rw [hs, cond_true] at h
          have e2 : cxE E.P ev (av ob) nb o = .ret ⟨.ki .i64 n, .none⟩ := by
           unfold VT at hs
           split at hs
           · rename_i et hu
             have h1 : args = ⟨[x]⟩ := Array.toList_inj.1 ha
             have h2 : argTypes = ⟨[t]⟩ := Array.toList_inj.1 ht
             subst h1; subst h2
             simp only [cxE, ho, VO, hu, hx]
           · cases hs
          rw [e2]; exact eB hT h
      · exact gen h
    · exact gen h
 case range t x =>
  have h : (M0 t x E.P X o ev ob nb k).holds post := by simpa only [opG, ho] using h
  have e : bS E rid i ev ⟨av ob, nb⟩ o = lift E ⟨av ob, nb⟩ (yR E.P (av ob) nb t (ev x)) := by simp only [bS, ho]
  rw [e]; exact fq hX.top hX.base hT h
 case entry x =>
  have h : (MW x E.P X o ev ob nb k).holds post := by simpa only [opG, ho] using h
  have e : bS E rid i ev ⟨av ob, nb⟩ o = lift E ⟨av ob, nb⟩ (BU (av ob) (ev x)) := by simp only [bS, ho]
  rw [e]; exact fq hX.top hX.base hT h
 case next a b =>
  have h : (T.fail : R).holds post := by simpa only [opG, ho] using h
  exact h.elim
 all_goals
  have h : (aA E.P X o ev ob nb k).holds post := by simpa only [opG, ho] using h
  have e : bS E rid i ev ⟨av ob, nb⟩ o = lift E ⟨av ob, nb⟩ (cxE E.P ev (av ob) nb o) := by simp only [bS, ho]
  rw [e]
  exact gen h
end
end
end Rx
