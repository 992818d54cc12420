/- Rx, part X2: operations, for the kernel. -/
import Derived.Test.YtcmnmceodhambaaGreatDoorRxX1
set_option linter.unusedSectionVars false
set_option linter.unusedSimpArgs false
set_option linter.unusedVariables false
namespace Rx
open Go
variable [Glob]
noncomputable section
def JB (l : List SV) : Nat -> R -> (SV -> R) -> R := @List.rec SV (fun _ => Nat -> R -> (SV -> R) -> R) (fun _ f _ => f) (fun s _ ih n f k => @Nat.rec (fun _ => R) (k s) (fun m _ => ih m f k) n) l
theorem zP : ∀ (l : List SV) (n : Nat) (f : R) (k : SV -> R), JB l n f k = match l[n]? with
  | some s => k s
  | none => f
 | [], _, _, _ => rfl
 | s :: l, 0, _, _ => rfl
 | s :: l, n + 1, f, k => by
   show JB l n f k = _
   rw [zP l n f k]
   simp
theorem Bc {α : Type} (d : α) : ∀ (t : Tr α) (n : Nat), zw d t n = t.get d n
 | .nil, n => rfl
 | .node l v r, n => by
   rw [eP]
   simp only [Tr.get]
   by_cases h : n = 0
   · subst h; rfl
   · rw [dN h, cond_false, if_neg h]
     by_cases h2 : n % 2 = 1
     · rw [ny h2, cond_true, if_pos h2, Bc d l]
     · rw [dN h2, cond_false, if_neg h2, Bc d r]
theorem BP (t : Tr SV) (n : Nat) : gU t n = t.get .junk n := by rw [RP]; exact Bc _ t n
def oP (tr : Tr SV) (n : Nat) : Nat -> List SV := @Nat.rec (fun _ => Nat -> List SV) (fun _ => []) (fun _ ih k => gU tr k :: ih (Nat.succ k)) n
theorem oK (tr : Tr SV) : ∀ (n k : Nat), oP tr n k = eB tr k n
 | 0, _ => rfl
 | n + 1, k => by
   show gU tr k :: oP tr n (Nat.succ k) = _
   rw [oK tr n, BP]
   rfl
theorem Db {α : Type} (d : α) : ∀ (a b n : Nat) (v : α), n < 2 ^ a - 1 -> n < 2 ^ b - 1 -> Dk d a n v = Tr.set d b .nil n v
 | 0, _, n, _, h, _ => by simp at h
 | _ + 1, 0, n, _, _, h => by simp at h
 | a + 1, b + 1, n, v, h1, h2 => by
   have hp : 2 ^ (a + 1) = 2 * 2 ^ a := by rw [Nat.pow_succ, Nat.mul_comm]
   have hq : 2 ^ (b + 1) = 2 * 2 ^ b := by rw [Nat.pow_succ, Nat.mul_comm]
   rw [Ey]
   simp only [Tr.set]
   by_cases h : n = 0
   · subst h; rfl
   · rw [dN h, cond_false, if_neg h]
     by_cases h3 : n % 2 = 1
     · rw [ny h3, cond_true, if_pos h3, Db d a b (n / 2) v (by omega) (by omega)]
     · rw [dN h3, cond_false, if_neg h3, Db d a b (n / 2 - 1) v (by omega) (by omega)]
theorem C9 {α : Type} (d : α) : ∀ (t : Tr α) (b n : Nat) (v : α), n < 2 ^ b - 1 -> b <= 24 -> AP d t n v = Tr.set d b t n v
 | .nil, b, n, v, h, hb => Db d 24 b n v (by
   have : 2 ^ b <= 2 ^ 24 := Nat.pow_le_pow_right (by omega) hb
   omega) h
 | .node l x r, 0, n, v, h, _ => by simp at h
 | .node l x r, b + 1, n, v, h, hb => by
   have hq : 2 ^ (b + 1) = 2 * 2 ^ b := by rw [Nat.pow_succ, Nat.mul_comm]
   rw [EB]
   simp only [Tr.set]
   by_cases h0 : n = 0
   · subst h0; rfl
   · rw [dN h0, cond_false, if_neg h0]
     by_cases h3 : n % 2 = 1
     · rw [ny h3, cond_true, if_pos h3, C9 d l b (n / 2) v (by omega) (by omega)]
     · rw [dN h3, cond_false, if_neg h3, C9 d r b (n / 2 - 1) v (by omega) (by omega)]
theorem Pe {t : Tr SV} {n : Nat} {v : SV} (h : n < 65535) : rW t n v = Tr.set .junk CAP t n v := by
 rw [QU]; exact C9 _ t CAP n v (by simpa [CAP] using h) (by simp [CAP])
def Qh (l : List SV) : Tr SV -> Nat -> Tr SV := @List.rec SV (fun _ => Tr SV -> Nat -> Tr SV) (fun t _ => t) (fun s _ ih t k => ih (rW t k s) (Nat.succ k)) l
theorem N8 : ∀ (l : List SV) (t : Tr SV) (k : Nat), k + l.length <= 65535 -> Qh l t k = jg t k l
 | [], _, _, _ => rfl
 | s :: l, t, k, h => by
   simp only [List.length_cons] at h
   show Qh l (rW t k s) (Nat.succ k) = jg (t.set .junk CAP k s) (k + 1) l
   rw [N8 l _ _ (by omega), Pe (by omega)]
def Tm (l : List SV) : Nat -> SV -> List SV := @List.rec SV (fun _ => Nat -> SV -> List SV) (fun _ _ => []) (fun x l ih n v => @Nat.rec (fun _ => List SV) (v :: l) (fun m _ => x :: ih m v) n) l
theorem M8 : ∀ (l : List SV) (n : Nat) (v : SV), n + 1 <= l.length -> Tm l n v = splice l n [v]
 | [], _, _, h => by simp at h
 | x :: l, 0, v, _ => by simp [splice]; rfl
 | x :: l, n + 1, v, h => by
   show x :: Tm l n v = _
   rw [M8 l n v (by simpa using h)]
   simp [splice]
def oB (o : Option Bool) (n a b : R) : R := @Option.rec Bool (fun _ => R) n (fun q => BR q a b) o
theorem Nh (o : Option Bool) (n a b : R) : oB o n a b = match o with
  | none => n
  | some q => bif q then a else b := by
 cases o
 · rfl
 · exact dF _ _ _
def oN (o : Option Nat) (n : R) (f : Nat -> R) : R := @Option.rec Nat (fun _ => R) n f o
theorem Rc (o : Option Nat) (n : R) (f : Nat -> R) : oN o n f = match o with
  | none => n
  | some q => f q := by cases o <;> rfl
def ldK (P : Program) (t : TypeId) : Option Bool := match pJ P t, bE P t with
 | some b, some _ => some b
 | _, _ => none
def Nu (P : Program) (t : TypeId) : Bool := match bE P t with
 | some n => Nat.beq n 1
 | none => false
def aB : OpK := fun P X o ev ob nb k => tu X (cxE P ev (aA ob) nb o) ob nb k
def EY (x : Operand) : OpK := fun P X o ev ob nb k => k (ev x) ob nb
def Rq (x : Operand) : OpK := fun P X o ev ob nb k => match ev x with
 | .ptr i f => k (.ptr i f) ob nb
 | .rp i y z f => k (.rp i y z f) ob nb
 | _ => aB P X o ev ob nb k
def Ij (c a b : Operand) : OpK := fun P X o ev ob nb k => match ev c with
 | .kb q => BR q (k (ev a) ob nb) (k (ev b) ob nb)
 | _ => aB P X o ev ob nb k
def szK (P : Program) (t : TypeId) (f : Nat -> R) : R := match bE P t with
 | some n => f n
 | none => .fail
def Fj (t : TypeId) (x : Operand) : OpK := fun P X o ev ob nb k => match ev x with
 | .ptr i off => match aA ob i with
   | some (.cells _ cs) => oB (ldK P t) .fail (aB P X o ev ob nb k) (JB cs off .fail fun s => k (nK s) ob nb)
   | _ => .fail
 | .rp i idx sz off => match aA ob i with
   | some (.vec _ sz' len tr _) => oB (ldK P t) .fail
       (szK P t fun n => BR (Nat.beq sz sz' && (Nat.ble (off + n) sz && Nat.blt idx len)) (k (.agg (oP tr n (Nat.add (Nat.mul idx sz) off))) ob nb) .fail)
       (BR (Nat.beq sz sz' && (Nat.blt off sz && Nat.blt idx len)) (k (nK (gU tr (Nat.add (Nat.mul idx sz) off))) ob nb) .fail)
   | _ => aB P X o ev ob nb k
 | _ => aB P X o ev ob nb k
def xS (t : TypeId) (p x : Operand) : OpK := fun P X o ev ob nb k => match ev p with
 | .ptr i off => match aA ob i with
   | some (.cells t' cs) => BR (Nu P t) (BR (eH (ev x)) (BR (Nat.ble X.base i && Nat.ble (off + 1) cs.length) (k .junk (mG ob i (some (.cells t' (Tm cs off (ev x))))) nb) .fail) (aB P X o ev ob nb k)) (aB P X o ev ob nb k)
   | _ => .fail
 | _ => aB P X o ev ob nb k
def faK (P : Program) (s : TypeId) (f : Nat) : Option Nat := match mF P s f with
 | some fl => (match bE P fl.type with
   | some (_ + 1) => some fl.offset
   | _ => none)
 | none => none
def kV (s : TypeId) (x : Operand) (f : Nat) : OpK := fun P X o ev ob nb k => match ev x with
 | .ptr i off => oN (faK P s f) .fail fun d => fN (Nat.add off d) fun a => k (.ptr i a) ob nb
 | .rp i idx sz off => oN (faK P s f) .fail fun d => fN (Nat.add off d) fun a => k (.rp i idx sz a) ob nb
 | _ => aB P X o ev ob nb k
def BI (x y : Int) : Bool := @Int.rec (fun _ => Bool) (fun m => @Int.rec (fun _ => Bool) (fun n => Nat.ble (Nat.succ m) n) (fun _ => false) y) (fun m => @Int.rec (fun _ => Bool) (fun _ => true) (fun n => Nat.ble (Nat.succ n) m) y) x
theorem sU (x y : Int) : BI x y = decide (x < y) := by
 cases x with
 | ofNat m => cases y with
   | ofNat n =>
     show Nat.ble (m + 1) n = _
     rw [Bool.eq_iff_iff, decide_eq_true_eq]
     constructor
     · intro h; have := Nat.le_of_ble_eq_true h; simp; omega
     · intro h; apply Nat.ble_eq_true_of_le; simp at h; omega
   | negSucc n => show false = _; simp; omega
 | negSucc m => cases y with
   | ofNat n => show true = _; simp; omega
   | negSucc n =>
     show Nat.ble (n + 1) m = _
     rw [Bool.eq_iff_iff, decide_eq_true_eq]
     constructor
     · intro h; have := Nat.le_of_ble_eq_true h; omega
     · intro h; apply Nat.ble_eq_true_of_le; omega
def eqI (x y : Int) : Bool := @Int.rec (fun _ => Bool) (fun m => @Int.rec (fun _ => Bool) (fun n => Nat.beq m n) (fun _ => false) y) (fun m => @Int.rec (fun _ => Bool) (fun _ => false) (fun n => Nat.beq m n) y) x
theorem w9 (x y : Int) : eqI x y = decide (x = y) := by
 cases x with
 | ofNat m => cases y with
   | ofNat n =>
     show Nat.beq m n = _
     by_cases h : m = n
     · subst h; simp [Nat.beq_refl]
     · rw [dN h]; simp; omega
   | negSucc n => show false = _; simp
 | negSucc m => cases y with
   | ofNat n => show false = _; simp
   | negSucc n =>
     show Nat.beq m n = _
     by_cases h : m = n
     · subst h; simp [Nat.beq_refl]
     · rw [dN h]; simp; omega
def nB (b : Bool) : Bool := @Bool.rec (fun _ => Bool) true false b
theorem LY (b : Bool) : nB b = !b := by cases b <;> rfl
def OI (k : IntKind) (z : Int) (c : SV -> R) : R := fI z fun z => BR (BI z (lo k)) .fail (BR (BI (hi k) z) .fail (c (.ki k z)))
def dW (a b : IntKind) : Bool := decide (a = b)
def LG (op : BinOp) (k : IntKind) (x y : Int) (gen : R) (c : SV -> R) : R := match op with
 | .add => OI k (Int.add x y) c
 | .sub => OI k (Int.sub x y) c
 | .eql => c (.kb (eqI x y))
 | .neq => c (.kb (nB (eqI x y)))
 | .lss => c (.kb (BI x y))
 | .gtr => c (.kb (BI y x))
 | .leq => c (.kb (nB (BI y x)))
 | .geq => c (.kb (nB (BI x y)))
 | _ => gen
def Sz (y : Operand) : Bool := match GR y with
 | some _ => true
 | none => false
def R4 (op : BinOp) (x y : Operand) : OpK := fun P X o ev ob nb k => BR (Sz y) (aB P X o ev ob nb k) (match ev x, ev y with
 | .ki kk a, .ki kk' b => BR (dW kk kk') (LG op kk a b (aB P X o ev ob nb k) fun s => k s ob nb) .fail
 | _, _ => aB P X o ev ob nb k)
def Mj (l : List Operand) (ev : Ev) (c : List SV) : List SV := @List.rec Operand (fun _ => List SV) c (fun x _ ih => ev x :: ih) l
theorem JK (ev : Ev) (c : List SV) : ∀ l : List Operand, Mj l ev c = l.map ev ++ c
 | [] => rfl
 | x :: l => by
   show ev x :: Mj l ev c = _
   rw [JK ev c l]; rfl
def kFn (f : Operand) (args : List Operand) : OpK := fun P X o ev ob nb k => match ev f with
 | .fn fk caps => X.I X.top X.base fk (Mj args ev caps) ob nb k
 | _ => .fail
def iaK (P : Program) (t : TypeId) : Option Nat := match P.underlying t with
 | some (.slice e) => bE P e
 | _ => none
def ltI (i : Int) (n : Nat) (f : Nat -> R) : R := @Int.rec (fun _ => R) (fun m => BR (Nat.ble (Nat.succ m) n) (f m) .fail) (fun _ => .fail) i
theorem VT (i : Int) (n : Nat) (f : Nat -> R) : ltI i n f = bif decide (0 <= i) && decide (i < (n : Int)) then f i.toNat else .fail := by
 cases i with
 | ofNat m =>
   show BR (Nat.ble (m + 1) n) (f m) .fail = _
   rw [dF]
   have h1 : decide (0 <= Int.ofNat m) = true := by simp
   rw [h1, Bool.true_and]
   congr 1
   rw [Bool.eq_iff_iff, decide_eq_true_eq]
   constructor
   · intro h; have := Nat.le_of_ble_eq_true h; simp; omega
   · intro h; apply Nat.ble_eq_true_of_le; simp at h; omega
 | negSucc m => rfl
def Ir (t : TypeId) (x i : Operand) : OpK := fun P X o ev ob nb k => match ev x, ev i with
 | .sl q z o' n c, .ki _ iv => oN (iaK P t) .fail fun z' => BR (Nat.beq z' z) (ltI iv n fun m => fN (Nat.add o' m) fun a => k (.rp q a z 0) ob nb) .fail
 | _, _ => aB P X o ev ob nb k
def Tf (P : Program) (t : TypeId) : Bool := match P.underlying t with
 | some (.slice _) => true
 | _ => false
def Z6 (P : Program) (t : TypeId) : Bool := match P.underlying t with
 | some .string => true
 | _ => false
def Uh (t : TypeId) (x : Operand) : OpK := fun P X o ev ob nb k => match ev x with
 | .sl _ _ _ n _ => BR (Tf P t) (k (.ki .i64 (.ofNat n)) ob nb) .fail
 | _ => aB P X o ev ob nb k
def pU (x : Operand) (i : Nat) : OpK := fun P X o ev ob nb k => match ev x with
 | .tup l => JB l i .fail fun s => k (nK s) ob nb
 | _ => aB P X o ev ob nb k
def KJ (t : TypeId) : OpK := fun P X o ev ob nb k => tu X (match zeroOf P t with
    | some cs => .ret ⟨.ptr nb 0, ⟨[(nb, some (.cells t cs))], [nb]⟩⟩
    | none => .fail) ob nb k
def Vt (t : TypeId) (x : Operand) : OpK := fun P X o ev ob nb k => tu X (match dB (nrm (ev x)) with
    | some cs => .ret ⟨.ptr nb 0, ⟨[(nb, some (.cells t cs))], [nb]⟩⟩
    | none => .fail) ob nb k
def KQ (t : TypeId) (ps : Array (Nat × Operand)) : OpK := fun P X o ev ob nb k => tu X ((kJ P t (ps.toList.map fun p => (p.1, nrm (ev p.2)))).bind fun s => .ret ⟨s, .none⟩) ob nb k
def kUn (op : UnOp) (x : Operand) : OpK := fun P X o ev ob nb k => match op, ev x with
 | .not, .kb b => k (.kb (nB b)) ob nb
 | _, _ => aB P X o ev ob nb k
def KE (t : TypeId) (x : Operand) (f : Nat) : OpK := fun P X o ev ob nb k => tu X ((oI P t (ev x) f).bind kE) ob nb k
def KI (t : TypeId) (x i : Operand) : OpK := fun P X o ev ob nb k => tu X ((wW P t (ev x) (ev i)).bind kE) ob nb k
def FH (t : TypeId) (x i : Operand) (ok : Bool) : OpK := fun P X o ev ob nb k => tu X ((gu P (aA ob) t (ev x) (nrm (ev i)) ok).bind kE) ob nb k
def qD (c : Call) (b : Builtin) : OpK := fun P X o ev ob nb k => match b, c.args.toList, c.argTypes.toList with
 | .len, [x], [t] => Uh t x P X o ev ob nb k
 | _, _, _ => aB P X o ev ob nb k
def Js (c : Call) : OpK := match c.callee with
 | .value f => kFn f c.args.toList
 | .builtin b => qD c b
 | _ => aB
def Li (t : TypeId) (x : Operand) : OpK := fun P X o ev ob nb k => tu X (yh P (aA ob) nb t (ev x)) ob nb k
def Kz (x : Operand) : OpK := fun P X o ev ob nb k => tu X (AY (aA ob) (ev x)) ob nb k
def opG (o : Oper) : OpK := match o.op with
 | .move x => EY x
 | .assign x => EY x
 | .pick c a b => Ij c a b
 | .alloc t => KJ t
 | .box t x => Vt t x
 | .build t ps => KQ t ps
 | .load t x => Fj t x
 | .store t p x => xS t p x
 | .nilCheck x => Rq x
 | .binOp op t x y _ => R4 op x y
 | .unOp op _ x => kUn op x
 | .fieldAddr s x f => kV s x f
 | .field t x f => KE t x f
 | .indexAddr t x i => Ir t x i
 | .index t x i => KI t x i
 | .lookup t x i ok => FH t x i ok
 | .extract x i => pU x i
 | .call c => Js c
 | .range t x => Li t x
 | .entry x => Kz x
 | .next _ _ => fun _ _ _ _ _ _ _ => .fail
 | _ => aB
def IRef (I : II) (J : Nat -> Nat -> FuncId -> List SV -> HS -> T (SV × HS)) : Prop :=
 ∀ top base f al ob nb k post, FOk ob nb -> dQ top nb -> (I top base f al ob nb k).holds post -> (J top base f al ⟨aA ob, nb⟩).holds (KP post k)
structure XRef (X : EX) (E : CEnv) : Prop where
 I : IRef X.I E.I
 top : X.top = E.top
 base : X.base = E.base
 W : X.W = E.win
 K : ∀ rid i, E.K rid i = none
theorem dU {E : CEnv} {ob : OB} {nb : Nat} {k : KK} {post : SV × HD -> Prop} (hT : dQ E.top nb) {s : SV} (h : (k s ob nb).holds post) : (lift E ⟨aA ob, nb⟩ (.ret ⟨s, .none⟩)).holds (KP post k) := by
 have hc : jc E ⟨aA ob, nb⟩ Eff.none = true := xP E (h := ⟨aA ob, nb⟩) hT.1
 show T.holds _ (bif jc E ⟨aA ob, nb⟩ Eff.none then T.ret (s, (⟨aA ob, nb⟩ : HS).eff .none) else .fail)
 rw [hc]
 exact ⟨ob, rfl, h⟩
section
variable {E : CEnv} {X : EX} {o : Oper} {ev : Ev} {ob : OB} {nb : Nat} {k : KK} {post : SV × HD -> Prop} {rid i : Nat}
theorem A8 (hX : XRef X E) (hT : dQ E.top nb) (h : (aB E.P X o ev ob nb k).holds post) : (lift E ⟨aA ob, nb⟩ (cxE E.P ev (aA ob) nb o)).holds (KP post k) :=
 fK hX.top hX.base hT h
theorem OY (hX : XRef X E) (hT : dQ E.top nb) {t : TypeId} {x : Operand} (ho : o.op = .load t x) (h : (Fj t x E.P X o ev ob nb k).holds post) : (lift E ⟨aA ob, nb⟩ (cxE E.P ev (aA ob) nb o)).holds (KP post k) := by
 have gen := A8 (o := o) (ev := ev) (ob := ob) (k := k) (post := post) hX hT
 have eC : cxE E.P ev (aA ob) nb o = (fF E.P (aA ob) t (ev x)).bind kE := by unfold cxE; simp only [ho]
 have fin : ∀ s, fF E.P (aA ob) t (ev x) = .ret s -> (k (nK s) ob nb).holds post -> (lift E ⟨aA ob, nb⟩ (cxE E.P ev (aA ob) nb o)).holds (KP post k) := by
  intro s hs hk
  rw [eC, hs]
  exact dU hT hk
 unfold Fj at h
 split at h
 · rename_i i off hx
   split at h
   · rename_i t' cs hg
     rw [Nh] at h
     unfold ldK at h
     cases ha : pJ E.P t with
     | none => simp only [ha] at h; exact h.elim
     | some b =>
       cases hz : bE E.P t with
       | none => simp only [ha, hz] at h; exact h.elim
       | some n =>
         simp only [ha, hz] at h
         cases b with
         | true => exact gen h
         | false =>
           rw [cond_false, zP] at h
           split at h
           · rename_i s hs
             exact fin s (by simp only [fF, hx, fV, ha, hz, hg, hs]) h
           · exact h.elim
   · exact h.elim
 · rename_i i idx sz off hx
   split at h
   · rename_i t' sz' len tr ex hg
     rw [Nh] at h
     unfold ldK at h
     cases ha : pJ E.P t with
     | none => simp only [ha] at h; exact h.elim
     | some b =>
       cases hz : bE E.P t with
       | none => simp only [ha, hz] at h; exact h.elim
       | some n =>
         simp only [ha, hz] at h
         cases b with
         | true =>
           unfold szK at h
           simp only [hz, cond_true] at h
           rw [dF] at h
           cases hb : (Nat.beq sz sz' && (Nat.ble (off + n) sz && Nat.blt idx len)) with
           | false => rw [hb] at h; exact h.elim
           | true =>
             rw [hb, cond_true, oK] at h
             exact fin (.agg (eB tr (idx * sz + off) n)) (by simp only [fF, hx, ha, hz, hg, hb]; rfl) h
         | false =>
           rw [cond_false, dF] at h
           cases hb : (Nat.beq sz sz' && (Nat.blt off sz && Nat.blt idx len)) with
           | false => rw [hb] at h; exact h.elim
           | true =>
             rw [hb, cond_true, BP] at h
             exact fin _ (by simp only [fF, hx, ha, hz, hg, hb]; rfl) h
   · exact gen h
 · exact gen h
theorem LB (hX : XRef X E) (hT : dQ E.top nb) (hF : FOk ob nb) {t : TypeId} {p x : Operand} (ho : o.op = .store t p x) (h : (xS t p x E.P X o ev ob nb k).holds post) : (lift E ⟨aA ob, nb⟩ (cxE E.P ev (aA ob) nb o)).holds (KP post k) := by
 have gen := A8 (o := o) (ev := ev) (ob := ob) (k := k) (post := post) hX hT
 have eC : cxE E.P ev (aA ob) nb o = uo E.P (aA ob) t (ev p) (ev x) := by unfold cxE; simp only [ho]
 unfold xS at h
 split at h
 · rename_i i off hp
   split at h
   · rename_i t' cs hg
     rw [dF] at h
     cases h1 : Nu E.P t with
     | false => rw [h1] at h; exact gen h
     | true =>
       rw [h1, cond_true, dF] at h
       cases h2 : eH (ev x) with
       | false => rw [h2] at h; exact gen h
       | true =>
         rw [h2, cond_true, dF] at h
         cases h3 : (Nat.ble X.base i && Nat.ble (off + 1) cs.length) with
         | false => rw [h3] at h; exact h.elim
         | true =>
           rw [h3, cond_true] at h
           simp only [Bool.and_eq_true] at h3
           have hz : bE E.P t = some 1 := by
            unfold Nu at h1
            split at h1
            · rename_i n hn; rw [hn, Nat.eq_of_beq_eq_true h1]
            · cases h1
           have hc : dB (ev x) = some [ev x] := by
            unfold dB
            split
            · rename_i l hl; rw [hl] at h2; cases h2
            · rw [h2]; rfl
           have hle : off + 1 <= cs.length := Nat.le_of_ble_eq_true h3.2
           have hs : uo E.P (aA ob) t (ev p) (ev x) = .ret ⟨.junk, ⟨[(i, some (.cells t' (splice cs off [ev x])))], []⟩⟩ := by
            simp only [uo, hp, iU, hz, hc, hg, List.length_singleton, List.all_cons, List.all_nil, Bool.and_true, h2, h3.2]
            rfl
           rw [eC, hs]
           have hi : i < nb := by
            rcases Nat.lt_or_ge i nb with h | h
            · exact h
            · rw [hF i h] at hg; cases hg
           have hef : jc E ⟨aA ob, nb⟩ ⟨[(i, some (.cells t' (splice cs off [ev x])))], []⟩ = true := by
            simp only [jc, gV, List.length_nil, Nat.add_zero, List.all_cons, List.all_nil, Bool.and_true, Bool.true_and, Bool.and_eq_true]
            refine ⟨Nat.ble_eq_true_of_le hT.1, ?_, ?_⟩
            · rw [Nat.blt_eq]; exact hi
            · rw [← hX.base]; exact h3.1
           show T.holds _ (bif jc E ⟨aA ob, nb⟩ ⟨[(i, some (.cells t' (splice cs off [ev x])))], []⟩ then T.ret (SV.junk, (⟨aA ob, nb⟩ : HS).eff ⟨[(i, some (.cells t' (splice cs off [ev x])))], []⟩) else .fail)
           rw [hef]
           refine ⟨_, ?_, h⟩
           funext j
           have := hT.1
           have := hT.2
           rw [rO j (by omega), M8 cs off _ hle]
           show (List.lookup j [(i, some (Ob.cells t' (splice cs off [ev x])))]).getD (aA ob j) = _
           by_cases e : j = i
           · subst e; simp [List.lookup]
           · have : (j == i) = false := by simpa using e
             simp [List.lookup, this, e]
   · exact h.elim
 · exact gen h
theorem OU {op : BinOp} {kk : IntKind} {a b : Int} {gen : R} {c : SV -> R} (h : (LG op kk a b gen c).holds post) : gen.holds post ∨ ∃ s, kiV op kk a b = .ret s /\ (c s).holds post := by
 have ari : ∀ z : Int, (OI kk z c).holds post -> (decide (lo kk <= z) && decide (z <= hi kk)) = true /\ (c (.ki kk z)).holds post := by
  intro z h
  unfold OI at h
  rw [Si, dF, sU] at h
  cases h1 : decide (z < lo kk) with
  | true => rw [h1] at h; exact h.elim
  | false =>
    rw [h1, cond_false, dF, sU] at h
    cases h2 : decide (hi kk < z) with
    | true => rw [h2] at h; exact h.elim
    | false =>
      rw [h2, cond_false] at h
      simp only [decide_eq_false_iff_not, Int.not_lt] at h1 h2
      exact ⟨by simp [h1, h2], h⟩
 unfold LG at h
 split at h
 · obtain ⟨h1, h2⟩ := ari _ h
   right
   refine ⟨_, ?_, h2⟩
   have h1 : (decide (lo kk <= a + b) && decide (a + b <= hi kk)) = true := h1
   simp only [kiV, h1]; rfl
 · obtain ⟨h1, h2⟩ := ari _ h
   right
   refine ⟨_, ?_, h2⟩
   have h1 : (decide (lo kk <= a - b) && decide (a - b <= hi kk)) = true := h1
   simp only [kiV, h1]; rfl
 · right; exact ⟨_, by rw [w9]; rfl, h⟩
 · right; exact ⟨_, by rw [LY, w9]; rfl, h⟩
 · right; exact ⟨_, by rw [sU]; rfl, h⟩
 · right; exact ⟨_, by rw [sU]; rfl, h⟩
 · right
   refine ⟨_, ?_, h⟩
   rw [LY, sU]
   simp only [kiV]
   congr 2
   rw [Bool.eq_iff_iff]; simp
 · right
   refine ⟨_, ?_, h⟩
   rw [LY, sU]
   simp only [kiV]
   congr 2
   rw [Bool.eq_iff_iff]; simp
 · exact .inl h
theorem Uq (hX : XRef X E) (hT : dQ E.top nb) (hF : FOk ob nb) (h : (opG o E.P X o ev ob nb k).holds post) : (bL E rid i ev ⟨aA ob, nb⟩ o).holds (KP post k) := by
 have gen := A8 (o := o) (ev := ev) (ob := ob) (k := k) (post := post) hX hT
 cases ho : o.op
 case move x =>
  have h : (EY x E.P X o ev ob nb k).holds post := by simpa only [opG, ho] using h
  have e : bL E rid i ev ⟨aA ob, nb⟩ o = lift E ⟨aA ob, nb⟩ (.ret ⟨ev x, .none⟩) := by simp only [bL, ho, cxE, sxE, iN]
  rw [e]; exact dU hT h
 case assign x =>
  have h : (EY x E.P X o ev ob nb k).holds post := by simpa only [opG, ho] using h
  have e : bL E rid i ev ⟨aA ob, nb⟩ o = lift E ⟨aA ob, nb⟩ (.ret ⟨ev x, .none⟩) := by simp only [bL, ho, cxE, sxE, iN]
  rw [e]; exact dU hT h
 case pick c a b =>
  have h : (Ij c a b E.P X o ev ob nb k).holds post := by simpa only [opG, ho] using h
  have e : bL E rid i ev ⟨aA ob, nb⟩ o = lift E ⟨aA ob, nb⟩ (cxE E.P ev (aA ob) nb o) := by simp only [bL, ho]
  unfold Ij at h
  split at h
  · rename_i q hq
    have e2 : cxE E.P ev (aA ob) nb o = .ret ⟨bif q then ev a else ev b, .none⟩ := by
        simp only [cxE, ho, sxE, iN, hq]
        cases q <;> rfl
    rw [e, e2]
    rw [dF] at h
    refine dU hT ?_
    cases q <;> exact h
  · rw [e]; exact gen h
 case alloc t =>
  have h : (KJ t E.P X o ev ob nb k).holds post := by simpa only [opG, ho] using h
  have e : bL E rid i ev ⟨aA ob, nb⟩ o = lift E ⟨aA ob, nb⟩ (match zeroOf E.P t with
   | some cs => .ret ⟨.ptr nb 0, ⟨[(nb, some (.cells t cs))], [nb]⟩⟩
   | none => .fail) := by
   simp only [bL, ho, cxE, sxE, iN]
   rfl
  rw [e]; exact fK hX.top hX.base hT h
 case box t x =>
  have h : (Vt t x E.P X o ev ob nb k).holds post := by simpa only [opG, ho] using h
  have e : bL E rid i ev ⟨aA ob, nb⟩ o = lift E ⟨aA ob, nb⟩ (match dB (nrm (ev x)) with
   | some cs => .ret ⟨.ptr nb 0, ⟨[(nb, some (.cells t cs))], [nb]⟩⟩
   | none => .fail) := by
   simp only [bL, ho, cxE, sxE, iN]
   rfl
  rw [e]; exact fK hX.top hX.base hT h
 case build t ps =>
  have h : (KQ t ps E.P X o ev ob nb k).holds post := by simpa only [opG, ho] using h
  have e : bL E rid i ev ⟨aA ob, nb⟩ o = lift E ⟨aA ob, nb⟩ ((kJ E.P t (ps.toList.map fun p => (p.1, nrm (ev p.2)))).bind fun s => .ret ⟨s, .none⟩) := by simp only [bL, ho, cxE, sxE, iN]
  rw [e]; exact fK hX.top hX.base hT h
 case load t x =>
  have h : (Fj t x E.P X o ev ob nb k).holds post := by simpa only [opG, ho] using h
  have e : bL E rid i ev ⟨aA ob, nb⟩ o = lift E ⟨aA ob, nb⟩ (cxE E.P ev (aA ob) nb o) := by simp only [bL, ho]
  rw [e]; exact OY hX hT ho h
 case store t p x =>
  have h : (xS t p x E.P X o ev ob nb k).holds post := by simpa only [opG, ho] using h
  have e : bL E rid i ev ⟨aA ob, nb⟩ o = lift E ⟨aA ob, nb⟩ (cxE E.P ev (aA ob) nb o) := by simp only [bL, ho]
  rw [e]; exact LB hX hT hF ho h
 case nilCheck x =>
  have h : (Rq x E.P X o ev ob nb k).holds post := by simpa only [opG, ho] using h
  have e : bL E rid i ev ⟨aA ob, nb⟩ o = lift E ⟨aA ob, nb⟩ (cxE E.P ev (aA ob) nb o) := by simp only [bL, ho]
  rw [e]
  unfold Rq at h
  split at h
  · rename_i q f hx
    have e2 : cxE E.P ev (aA ob) nb o = .ret ⟨.ptr q f, .none⟩ := by simp only [cxE, ho, sxE, hx]
    rw [e2]; exact dU hT h
  · rename_i q y z f hx
    have e2 : cxE E.P ev (aA ob) nb o = .ret ⟨.rp q y z f, .none⟩ := by simp only [cxE, ho, sxE, hx]
    rw [e2]; exact dU hT h
  · exact gen h
 case binOp op t x y ty =>
  have h : (R4 op x y E.P X o ev ob nb k).holds post := by simpa only [opG, ho] using h
  have e : bL E rid i ev ⟨aA ob, nb⟩ o = lift E ⟨aA ob, nb⟩ (cxE E.P ev (aA ob) nb o) := by simp only [bL, ho]
  rw [e]
  unfold R4 at h
  rw [dF] at h
  cases hn : Sz y with
  | true => rw [hn] at h; exact gen h
  | false =>
    rw [hn, cond_false] at h
    have hnil : GR y = none := by
     unfold Sz at hn
     split at hn
     · cases hn
     · assumption
    split at h
    · rename_i kk a kk' b hx hy
      rw [dF] at h
      cases hk : dW kk kk' with
      | false => rw [hk] at h; exact h.elim
      | true =>
        rw [hk, cond_true] at h
        have hk : kk = kk' := by simpa [dW] using hk
        subst hk
        rcases OU h with h | ⟨s, hs, h⟩
        · exact gen h
        · have e2 : cxE E.P ev (aA ob) nb o = .ret ⟨nK s, .none⟩ := by
           simp only [cxE, ho, hnil, hx, hy, RA, if_true, hs]
           rfl
          have e3 : nK s = s := by
           unfold kiV at hs
           split at hs <;> (try simp only [Bool.cond_eq_ite] at hs) <;> (try split at hs) <;> first | (cases hs; done) | (injection hs with hs; subst hs; rfl)
          rw [e2, e3]; exact dU hT h
    · exact gen h
 case unOp op t x =>
  have h : (kUn op x E.P X o ev ob nb k).holds post := by simpa only [opG, ho] using h
  have e : bL E rid i ev ⟨aA ob, nb⟩ o = lift E ⟨aA ob, nb⟩ (cxE E.P ev (aA ob) nb o) := by simp only [bL, ho]
  rw [e]
  unfold kUn at h
  split at h
  · rename_i b hx
    have e2 : cxE E.P ev (aA ob) nb o = .ret ⟨.kb (!b), .none⟩ := by
     simp only [cxE, ho, sxE, iN, hx, O5]
     rfl
    rw [e2]
    rw [LY] at h
    exact dU hT h
  · exact gen h
 case fieldAddr s x f =>
  have h : (kV s x f E.P X o ev ob nb k).holds post := by simpa only [opG, ho] using h
  have e : bL E rid i ev ⟨aA ob, nb⟩ o = lift E ⟨aA ob, nb⟩ (cxE E.P ev (aA ob) nb o) := by simp only [bL, ho]
  rw [e]
  have eC : cxE E.P ev (aA ob) nb o = (fJ E.P s f (nrm (ev x))).bind fun s => .ret ⟨s, .none⟩ := by simp only [cxE, ho, sxE, iN]
  have hfa : ∀ d, faK E.P s f = some d -> ∃ fl n, mF E.P s f = some fl /\ bE E.P fl.type = some (n + 1) /\ fl.offset = d := by
   intro d hd
   unfold faK at hd
   split at hd
   · rename_i fl hfl
     split at hd
     · rename_i n hn
       injection hd with hd
       exact ⟨fl, n, hfl, hn, hd⟩
     · cases hd
   · cases hd
  unfold kV at h
  split at h
  · rename_i q off hx
    rw [Rc] at h
    split at h
    · exact h.elim
    · rename_i d hd
      obtain ⟨fl, n, h1, h2, rfl⟩ := hfa d hd
      rw [qo] at h
      have e2 : cxE E.P ev (aA ob) nb o = .ret ⟨.ptr q (off + fl.offset), .none⟩ := by
       rw [eC, hx]
       simp only [nrm, fJ, h1, h2]
       rfl
      rw [e2]; exact dU hT h
  · rename_i q idx sz off hx
    rw [Rc] at h
    split at h
    · exact h.elim
    · rename_i d hd
      obtain ⟨fl, n, h1, h2, rfl⟩ := hfa d hd
      rw [qo] at h
      have e2 : cxE E.P ev (aA ob) nb o = .ret ⟨.rp q idx sz (off + fl.offset), .none⟩ := by
       rw [eC, hx]
       simp only [nrm, fJ, h1, h2]
       rfl
      rw [e2]; exact dU hT h
  · exact gen h
 case field t x f =>
  have h : (KE t x f E.P X o ev ob nb k).holds post := by simpa only [opG, ho] using h
  have e : bL E rid i ev ⟨aA ob, nb⟩ o = lift E ⟨aA ob, nb⟩ ((oI E.P t (ev x) f).bind kE) := by simp only [bL, ho, cxE]
  rw [e]; exact fK hX.top hX.base hT h
 case indexAddr t x j =>
  have h : (Ir t x j E.P X o ev ob nb k).holds post := by simpa only [opG, ho] using h
  have e : bL E rid i ev ⟨aA ob, nb⟩ o = lift E ⟨aA ob, nb⟩ (cxE E.P ev (aA ob) nb o) := by simp only [bL, ho]
  rw [e]
  unfold Ir at h
  split at h
  · rename_i q z o' n c kk iv hx hi
    rw [Rc] at h
    split at h
    · exact h.elim
    · rename_i z' hz'
      rw [dF] at h
      cases hz : Nat.beq z' z with
      | false => rw [hz] at h; exact h.elim
      | true =>
        rw [hz, cond_true, VT] at h
        cases hb : (decide (0 <= iv) && decide (iv < (n : Int))) with
        | false => rw [hb] at h; exact h.elim
        | true =>
          rw [hb, cond_true, qo] at h
          have e2 : cxE E.P ev (aA ob) nb o = .ret ⟨.rp q (o' + iv.toNat) z 0, .none⟩ := by
           unfold iaK at hz'
           split at hz'
           · rename_i et hu
             have : kY E.P t (ev x) (ev j) = some (.ret (.rp q (o' + iv.toNat) z 0)) := by
              simp only [kY, hx, hi, FQ, hu, hz', hz, hb]
              rfl
             simp only [cxE, ho, this]
             rfl
           · cases hz'
          rw [e2]; exact dU hT h
  · exact gen h
 case index t x j =>
  have h : (KI t x j E.P X o ev ob nb k).holds post := by simpa only [opG, ho] using h
  have e : bL E rid i ev ⟨aA ob, nb⟩ o = lift E ⟨aA ob, nb⟩ ((wW E.P t (ev x) (ev j)).bind kE) := by simp only [bL, ho, cxE]
  rw [e]; exact fK hX.top hX.base hT h
 case lookup t x j ok =>
  have h : (FH t x j ok E.P X o ev ob nb k).holds post := by simpa only [opG, ho] using h
  have e : bL E rid i ev ⟨aA ob, nb⟩ o = lift E ⟨aA ob, nb⟩ ((gu E.P (aA ob) t (ev x) (nrm (ev j)) ok).bind kE) := by simp only [bL, ho, cxE]
  rw [e]; exact fK hX.top hX.base hT h
 case extract x j =>
  have h : (pU x j E.P X o ev ob nb k).holds post := by simpa only [opG, ho] using h
  have e : bL E rid i ev ⟨aA ob, nb⟩ o = lift E ⟨aA ob, nb⟩ (cxE E.P ev (aA ob) nb o) := by simp only [bL, ho]
  rw [e]
  unfold pU at h
  split at h
  · rename_i l hx
    rw [zP] at h
    split at h
    · rename_i s hs
      have e2 : cxE E.P ev (aA ob) nb o = .ret ⟨nK s, .none⟩ := by
       simp only [cxE, ho, hx, iR, hs]
       rfl
      rw [e2]; exact dU hT h
    · exact h.elim
  · exact gen h
 case call c =>
  have h : (Js c E.P X o ev ob nb k).holds post := by simpa only [opG, ho] using h
  unfold Js at h
  obtain ⟨callee, args, argTypes⟩ := c
  cases callee with
  | value f =>
    have h : (kFn f args.toList E.P X o ev ob nb k).holds post := h
    unfold kFn at h
    simp only [bL, ho, hX.K]
    split at h
    · rename_i fk caps hf
      rw [JK] at h
      simp only [hf]
      rw [hX.top, hX.base] at h
      exact hX.I _ _ _ _ _ _ _ _ hF hT h
    · exact h.elim
  | invoke r m =>
    have e : bL E rid i ev ⟨aA ob, nb⟩ o = lift E ⟨aA ob, nb⟩ (cxE E.P ev (aA ob) nb o) := by simp only [bL, ho]
    rw [e]; exact gen h
  | builtin b =>
    have e : bL E rid i ev ⟨aA ob, nb⟩ o = lift E ⟨aA ob, nb⟩ (cxE E.P ev (aA ob) nb o) := by simp only [bL, ho]
    rw [e]
    have h : (qD ⟨.builtin b, args, argTypes⟩ b E.P X o ev ob nb k).holds post := h
    unfold qD at h
    split at h
    · rename_i x t hb ha ht
      have ha : args.toList = [x] := ha
      have ht : argTypes.toList = [t] := ht
      unfold Uh at h
      split at h
      · rename_i q z o' n c hx
        rw [dF] at h
        cases hs : Tf E.P t with
        | false => rw [hs] at h; exact h.elim
        | true =>
          rw [hs, cond_true] at h
          have e2 : cxE E.P ev (aA ob) nb o = .ret ⟨.ki .i64 n, .none⟩ := by
           unfold Tf at hs
           split at hs
           · rename_i et hu
             have h1 : args = ⟨[x]⟩ := Array.toList_inj.1 ha
             have h2 : argTypes = ⟨[t]⟩ := Array.toList_inj.1 ht
             subst h1; subst h2
             simp only [cxE, ho, Tw, hu, hx]
           · cases hs
          rw [e2]; exact dU hT h
      · exact gen h
    · exact gen h
 case range t x =>
  have h : (Li t x E.P X o ev ob nb k).holds post := by simpa only [opG, ho] using h
  have e : bL E rid i ev ⟨aA ob, nb⟩ o = lift E ⟨aA ob, nb⟩ (yh E.P (aA ob) nb t (ev x)) := by simp only [bL, ho]
  rw [e]; exact fK hX.top hX.base hT h
 case entry x =>
  have h : (Kz x E.P X o ev ob nb k).holds post := by simpa only [opG, ho] using h
  have e : bL E rid i ev ⟨aA ob, nb⟩ o = lift E ⟨aA ob, nb⟩ (AY (aA ob) (ev x)) := by simp only [bL, ho]
  rw [e]; exact fK hX.top hX.base hT h
 case next a b =>
  have h : (T.fail : R).holds post := by simpa only [opG, ho] using h
  exact h.elim
 all_goals
  have h : (aB E.P X o ev ob nb k).holds post := by simpa only [opG, ho] using h
  have e : bL E rid i ev ⟨aA ob, nb⟩ o = lift E ⟨aA ob, nb⟩ (cxE E.P ev (aA ob) nb o) := by simp only [bL, ho]
  rw [e]
  exact gen h
end
end
end Rx
