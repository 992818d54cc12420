/- Rx, part X2: operations, for the kernel. -/
import Derived.Test.YtildnaomamnkgaaGreatDoorRxX1
set_option linter.unusedSectionVars false
set_option linter.unusedSimpArgs false
set_option linter.unusedVariables false
namespace Rx
open Go
variable [Glob]
noncomputable section
def IZ (l : List SV) : Nat -> R -> (SV -> R) -> R := @List.rec SV (fun _ => Nat -> R -> (SV -> R) -> R) (fun _ f _ => f) (fun s _ ih n f k => @Nat.rec (fun _ => R) (k s) (fun m _ => ih m f k) n) l
theorem yS : ∀ (l : List SV) (n : Nat) (f : R) (k : SV -> R), IZ l n f k = match l[n]? with
  | some s => k s
  | none => f
 | [], _, _, _ => rfl
 | s :: l, 0, _, _ => rfl
 | s :: l, n + 1, f, k => by
   show IZ l n f k = _
   rw [yS l n f k]
   simp
theorem zI {α : Type} (d : α) : ∀ (t : Tr α) (n : Nat), xV d t n = t.get d n
 | .nil, n => rfl
 | .node l v r, n => by
   rw [eX]
   simp only [Tr.get]
   by_cases h : n = 0
   · subst h; rfl
   · rw [dU h, cond_false, if_neg h]
     by_cases h2 : n % 2 = 1
     · rw [mI h2, cond_true, if_pos h2, zI d l]
     · rw [dU h2, cond_false, if_neg h2, zI d r]
theorem zf (t : Tr SV) (n : Nat) : gU t n = t.get .junk n := by rw [Pg]; exact zI _ t n
def nA (tr : Tr SV) (n : Nat) : Nat -> List SV := @Nat.rec (fun _ => Nat -> List SV) (fun _ => []) (fun _ ih k => gU tr k :: ih (Nat.succ k)) n
theorem nT (tr : Tr SV) : ∀ (n k : Nat), nA tr n k = eD tr k n
 | 0, _ => rfl
 | n + 1, k => by
   show gU tr k :: nA tr n (Nat.succ k) = _
   rw [nT tr n, zf]
   rfl
theorem AL {α : Type} (d : α) : ∀ (a b n : Nat) (v : α), n < 2 ^ a - 1 -> n < 2 ^ b - 1 -> Cu d a n v = Tr.set d b .nil n v
 | 0, _, n, _, h, _ => by simp at h
 | _ + 1, 0, n, _, _, h => by simp at h
 | a + 1, b + 1, n, v, h1, h2 => by
   have hp : 2 ^ (a + 1) = 2 * 2 ^ a := by rw [Nat.pow_succ, Nat.mul_comm]
   have hq : 2 ^ (b + 1) = 2 * 2 ^ b := by rw [Nat.pow_succ, Nat.mul_comm]
   rw [El]
   simp only [Tr.set]
   by_cases h : n = 0
   · subst h; rfl
   · rw [dU h, cond_false, if_neg h]
     by_cases h3 : n % 2 = 1
     · rw [mI h3, cond_true, if_pos h3, AL d a b (n / 2) v (by omega) (by omega)]
     · rw [dU h3, cond_false, if_neg h3, AL d a b (n / 2 - 1) v (by omega) (by omega)]
theorem Am {α : Type} (d : α) : ∀ (t : Tr α) (b n : Nat) (v : α), n < 2 ^ b - 1 -> b <= 24 -> zl d t n v = Tr.set d b t n v
 | .nil, b, n, v, h, hb => AL d 24 b n v (by
   have : 2 ^ b <= 2 ^ 24 := Nat.pow_le_pow_right (by omega) hb
   omega) h
 | .node l x r, 0, n, v, h, _ => by simp at h
 | .node l x r, b + 1, n, v, h, hb => by
   have hq : 2 ^ (b + 1) = 2 * 2 ^ b := by rw [Nat.pow_succ, Nat.mul_comm]
   rw [Em]
   simp only [Tr.set]
   by_cases h0 : n = 0
   · subst h0; rfl
   · rw [dU h0, cond_false, if_neg h0]
     by_cases h3 : n % 2 = 1
     · rw [mI h3, cond_true, if_pos h3, Am d l b (n / 2) v (by omega) (by omega)]
     · rw [dU h3, cond_false, if_neg h3, Am d r b (n / 2 - 1) v (by omega) (by omega)]
theorem Rb {t : Tr SV} {n : Nat} {v : SV} (h : n < 65535) : qj t n v = Tr.set .junk CAP t n v := by
 rw [OV]; exact Am _ t CAP n v (by simpa [CAP] using h) (by simp [CAP])
def RD (l : List SV) : Tr SV -> Nat -> Tr SV := @List.rec SV (fun _ => Tr SV -> Nat -> Tr SV) (fun t _ => t) (fun s _ ih t k => ih (qj t k s) (Nat.succ k)) l
theorem Oy : ∀ (l : List SV) (t : Tr SV) (k : Nat), k + l.length <= 65535 -> RD l t k = ji t k l
 | [], _, _, _ => rfl
 | s :: l, t, k, h => by
   simp only [List.length_cons] at h
   show RD l (qj t k s) (Nat.succ k) = ji (t.set .junk CAP k s) (k + 1) l
   rw [Oy l _ _ (by omega), Rb (by omega)]
def Sz (l : List SV) : Nat -> SV -> List SV := @List.rec SV (fun _ => Nat -> SV -> List SV) (fun _ _ => []) (fun x l ih n v => @Nat.rec (fun _ => List SV) (v :: l) (fun m _ => x :: ih m v) n) l
theorem MS : ∀ (l : List SV) (n : Nat) (v : SV), n + 1 <= l.length -> Sz l n v = splice l n [v]
 | [], _, _, h => by simp at h
 | x :: l, 0, v, _ => by simp [splice]; rfl
 | x :: l, n + 1, v, h => by
   show x :: Sz l n v = _
   rw [MS l n v (by simpa using h)]
   simp [splice]
def oB (o : Option Bool) (n a b : R) : R := @Option.rec Bool (fun _ => R) n (fun q => BR q a b) o
theorem Li (o : Option Bool) (n a b : R) : oB o n a b = match o with
  | none => n
  | some q => bif q then a else b := by
 cases o
 · rfl
 · exact dH _ _ _
def oN (o : Option Nat) (n : R) (f : Nat -> R) : R := @Option.rec Nat (fun _ => R) n f o
theorem OW (o : Option Nat) (n : R) (f : Nat -> R) : oN o n f = match o with
  | none => n
  | some q => f q := by cases o <;> rfl
def ldK (P : Program) (t : TypeId) : Option Bool := match ow P t, bA P t with
 | some b, some _ => some b
 | _, _ => none
def Ma (P : Program) (t : TypeId) : Bool := match bA P t with
 | some n => Nat.beq n 1
 | none => false
def av : OpK := fun P X o ev ob nb k => oz X (cxE P ev (au ob) nb o) ob nb k
def DW (x : Operand) : OpK := fun P X o ev ob nb k => k (ev x) ob nb
def PX (x : Operand) : OpK := fun P X o ev ob nb k => match ev x with
 | .ptr i f => k (.ptr i f) ob nb
 | .rp i y z f => k (.rp i y z f) ob nb
 | _ => av P X o ev ob nb k
def JG (c a b : Operand) : OpK := fun P X o ev ob nb k => match ev c with
 | .kb q => BR q (k (ev a) ob nb) (k (ev b) ob nb)
 | _ => av P X o ev ob nb k
def szK (P : Program) (t : TypeId) (f : Nat -> R) : R := match bA P t with
 | some n => f n
 | none => .fail
def Eo (t : TypeId) (x : Operand) : OpK := fun P X o ev ob nb k => match ev x with
 | .ptr i off => match au ob i with
   | some (.cells _ cs) => oB (ldK P t) .fail (av P X o ev ob nb k) (IZ cs off .fail fun s => k (nK s) ob nb)
   | _ => .fail
 | .rp i idx sz off => match au ob i with
   | some (.vec _ sz' len tr _) => oB (ldK P t) .fail
       (szK P t fun n => BR (Nat.beq sz sz' && (Nat.ble (off + n) sz && Nat.blt idx len)) (k (.agg (nA tr n (Nat.add (Nat.mul idx sz) off))) ob nb) .fail)
       (BR (Nat.beq sz sz' && (Nat.blt off sz && Nat.blt idx len)) (k (nK (gU tr (Nat.add (Nat.mul idx sz) off))) ob nb) .fail)
   | _ => av P X o ev ob nb k
 | _ => av P X o ev ob nb k
def vT (t : TypeId) (p x : Operand) : OpK := fun P X o ev ob nb k => match ev p with
 | .ptr i off => match au ob i with
   | some (.cells t' cs) => BR (Ma P t) (BR (eO (ev x)) (BR (Nat.ble X.base i && Nat.ble (off + 1) cs.length) (k .junk (lZ ob i (some (.cells t' (Sz cs off (ev x))))) nb) .fail) (av P X o ev ob nb k)) (av P X o ev ob nb k)
   | _ => .fail
 | _ => av P X o ev ob nb k
def faK (P : Program) (s : TypeId) (f : Nat) : Option Nat := match lH P s f with
 | some fl => (match bA P fl.type with
   | some (_ + 1) => some fl.offset
   | _ => none)
 | none => none
def kg (s : TypeId) (x : Operand) (f : Nat) : OpK := fun P X o ev ob nb k => match ev x with
 | .ptr i off => oN (faK P s f) .fail fun d => fN (Nat.add off d) fun a => k (.ptr i a) ob nb
 | .rp i idx sz off => oN (faK P s f) .fail fun d => fN (Nat.add off d) fun a => k (.rp i idx sz a) ob nb
 | _ => av P X o ev ob nb k
def zN (x y : Int) : Bool := @Int.rec (fun _ => Bool) (fun m => @Int.rec (fun _ => Bool) (fun n => Nat.ble (Nat.succ m) n) (fun _ => false) y) (fun m => @Int.rec (fun _ => Bool) (fun _ => true) (fun n => Nat.ble (Nat.succ n) m) y) x
theorem qQ (x y : Int) : zN x y = decide (x < y) := by
 cases x with
 | ofNat m => cases y with
   | ofNat n =>
     show Nat.ble (m + 1) n = _
     rw [Bool.eq_iff_iff, decide_eq_true_eq]
     constructor
     · intro h; have := Nat.le_of_ble_eq_true h; simp; omega
     · intro h; apply Nat.ble_eq_true_of_le; simp at h; omega
   | negSucc n => show false = _; simp; omega
 | negSucc m => cases y with
   | ofNat n => show true = _; simp; omega
   | negSucc n =>
     show Nat.ble (n + 1) m = _
     rw [Bool.eq_iff_iff, decide_eq_true_eq]
     constructor
     · intro h; have := Nat.le_of_ble_eq_true h; omega
     · intro h; apply Nat.ble_eq_true_of_le; omega
def eqI (x y : Int) : Bool := @Int.rec (fun _ => Bool) (fun m => @Int.rec (fun _ => Bool) (fun n => Nat.beq m n) (fun _ => false) y) (fun m => @Int.rec (fun _ => Bool) (fun _ => false) (fun n => Nat.beq m n) y) x
theorem wC (x y : Int) : eqI x y = decide (x = y) := by
 cases x with
 | ofNat m => cases y with
   | ofNat n =>
     show Nat.beq m n = _
     by_cases h : m = n
     · subst h; simp [Nat.beq_refl]
     · rw [dU h]; simp; omega
   | negSucc n => show false = _; simp
 | negSucc m => cases y with
   | ofNat n => show false = _; simp
   | negSucc n =>
     show Nat.beq m n = _
     by_cases h : m = n
     · subst h; simp [Nat.beq_refl]
     · rw [dU h]; simp; omega
def nB (b : Bool) : Bool := @Bool.rec (fun _ => Bool) true false b
theorem Lr (b : Bool) : nB b = !b := by cases b <;> rfl
def Om (k : IntKind) (z : Int) (c : SV -> R) : R := fI z fun z => BR (zN z (lo k)) .fail (BR (zN (hi k) z) .fail (c (.ki k z)))
def dX (a b : IntKind) : Bool := decide (a = b)
def LH (op : BinOp) (k : IntKind) (x y : Int) (gen : R) (c : SV -> R) : R := match op with
 | .add => Om k (Int.add x y) c
 | .sub => Om k (Int.sub x y) c
 | .eql => c (.kb (eqI x y))
 | .neq => c (.kb (nB (eqI x y)))
 | .lss => c (.kb (zN x y))
 | .gtr => c (.kb (zN y x))
 | .leq => c (.kb (nB (zN y x)))
 | .geq => c (.kb (nB (zN x y)))
 | _ => gen
def R6 (y : Operand) : Bool := match GX y with
 | some _ => true
 | none => false
def QJ (op : BinOp) (x y : Operand) : OpK := fun P X o ev ob nb k => BR (R6 y) (av P X o ev ob nb k) (match ev x, ev y with
 | .ki kk a, .ki kk' b => BR (dX kk kk') (LH op kk a b (av P X o ev ob nb k) fun s => k s ob nb) .fail
 | _, _ => av P X o ev ob nb k)
def MJ (l : List Operand) (ev : Ev) (c : List SV) : List SV := @List.rec Operand (fun _ => List SV) c (fun x _ ih => ev x :: ih) l
theorem Jz (ev : Ev) (c : List SV) : ∀ l : List Operand, MJ l ev c = l.map ev ++ c
 | [] => rfl
 | x :: l => by
   show ev x :: MJ l ev c = _
   rw [Jz ev c l]; rfl
def kFn (f : Operand) (args : List Operand) : OpK := fun P X o ev ob nb k => match ev f with
 | .fn fk caps => X.I X.top X.base fk (MJ args ev caps) ob nb k
 | _ => .fail
def iaK (P : Program) (t : TypeId) : Option Nat := match P.underlying t with
 | some (.slice e) => bA P e
 | _ => none
def ltI (i : Int) (n : Nat) (f : Nat -> R) : R := @Int.rec (fun _ => R) (fun m => BR (Nat.ble (Nat.succ m) n) (f m) .fail) (fun _ => .fail) i
theorem Ww (i : Int) (n : Nat) (f : Nat -> R) : ltI i n f = bif decide (0 <= i) && decide (i < (n : Int)) then f i.toNat else .fail := by
 cases i with
 | ofNat m =>
   show BR (Nat.ble (m + 1) n) (f m) .fail = _
   rw [dH]
   have h1 : decide (0 <= Int.ofNat m) = true := by simp
   rw [h1, Bool.true_and]
   congr 1
   rw [Bool.eq_iff_iff, decide_eq_true_eq]
   constructor
   · intro h; have := Nat.le_of_ble_eq_true h; simp; omega
   · intro h; apply Nat.ble_eq_true_of_le; simp at h; omega
 | negSucc m => rfl
def Ju (t : TypeId) (x i : Operand) : OpK := fun P X o ev ob nb k => match ev x, ev i with
 | .sl q z o' n c, .ki _ iv => oN (iaK P t) .fail fun z' => BR (Nat.beq z' z) (ltI iv n fun m => fN (Nat.add o' m) fun a => k (.rp q a z 0) ob nb) .fail
 | _, _ => av P X o ev ob nb k
def Sk (P : Program) (t : TypeId) : Bool := match P.underlying t with
 | some (.slice _) => true
 | _ => false
def afY (P : Program) (t : TypeId) : Bool := match P.underlying t with
 | some .string => true
 | _ => false
def TW (t : TypeId) (x : Operand) : OpK := fun P X o ev ob nb k => match ev x with
 | .sl _ _ _ n _ => BR (Sk P t) (k (.ki .i64 (.ofNat n)) ob nb) .fail
 | _ => av P X o ev ob nb k
def pO (x : Operand) (i : Nat) : OpK := fun P X o ev ob nb k => match ev x with
 | .tup l => IZ l i .fail fun s => k (nK s) ob nb
 | _ => av P X o ev ob nb k
def Ky (t : TypeId) : OpK := fun P X o ev ob nb k => oz X (match zeroOf P t with
    | some cs => .ret ⟨.ptr nb 0, ⟨[(nb, some (.cells t cs))], [nb]⟩⟩
    | none => .fail) ob nb k
def Wu (t : TypeId) (x : Operand) : OpK := fun P X o ev ob nb k => oz X (match dG (nrm (ev x)) with
    | some cs => .ret ⟨.ptr nb 0, ⟨[(nb, some (.cells t cs))], [nb]⟩⟩
    | none => .fail) ob nb k
def JW (t : TypeId) (ps : Array (Nat × Operand)) : OpK := fun P X o ev ob nb k => oz X ((jM P t (ps.toList.map fun p => (p.1, nrm (ev p.2)))).bind fun s => .ret ⟨s, .none⟩) ob nb k
def kUn (op : UnOp) (x : Operand) : OpK := fun P X o ev ob nb k => match op, ev x with
 | .not, .kb b => k (.kb (nB b)) ob nb
 | _, _ => av P X o ev ob nb k
def KZ (t : TypeId) (x : Operand) (f : Nat) : OpK := fun P X o ev ob nb k => oz X ((nC P t (ev x) f).bind jI) ob nb k
def Ko (t : TypeId) (x i : Operand) : OpK := fun P X o ev ob nb k => oz X ((wI P t (ev x) (ev i)).bind jI) ob nb k
def GZ (t : TypeId) (x i : Operand) (ok : Bool) : OpK := fun P X o ev ob nb k => oz X ((gF P (au ob) t (ev x) (nrm (ev i)) ok).bind jI) ob nb k
def qC (c : Call) (b : Builtin) : OpK := fun P X o ev ob nb k => match b, c.args.toList, c.argTypes.toList with
 | .len, [x], [t] => TW t x P X o ev ob nb k
 | _, _, _ => av P X o ev ob nb k
def HZ (c : Call) : OpK := match c.callee with
 | .value f => kFn f c.args.toList
 | .builtin b => qC c b
 | _ => av
def Ku (t : TypeId) (x : Operand) : OpK := fun P X o ev ob nb k => oz X (vJ P (au ob) nb t (ev x)) ob nb k
def Lf (x : Operand) : OpK := fun P X o ev ob nb k => oz X (Bf (au ob) (ev x)) ob nb k
def opG (o : Oper) : OpK := match o.op with
 | .move x => DW x
 | .assign x => DW x
 | .pick c a b => JG c a b
 | .alloc t => Ky t
 | .box t x => Wu t x
 | .build t ps => JW t ps
 | .load t x => Eo t x
 | .store t p x => vT t p x
 | .nilCheck x => PX x
 | .binOp op t x y _ => QJ op x y
 | .unOp op _ x => kUn op x
 | .fieldAddr s x f => kg s x f
 | .field t x f => KZ t x f
 | .indexAddr t x i => Ju t x i
 | .index t x i => Ko t x i
 | .lookup t x i ok => GZ t x i ok
 | .extract x i => pO x i
 | .call c => HZ c
 | .range t x => Ku t x
 | .entry x => Lf x
 | .next _ _ => fun _ _ _ _ _ _ _ => .fail
 | _ => av
def IRef (I : II) (J : Nat -> Nat -> FuncId -> List SV -> HS -> T (SV × HS)) : Prop :=
 ∀ top base f al ob nb k post, FOk ob nb -> dN top nb -> (I top base f al ob nb k).holds post -> (J top base f al ⟨au ob, nb⟩).holds (KP post k)
structure XRef (X : EX) (E : CEnv) : Prop where
 I : IRef X.I E.I
 top : X.top = E.top
 base : X.base = E.base
 W : X.W = E.win
 K : ∀ rid i, E.K rid i = none
theorem dR {E : CEnv} {ob : OB} {nb : Nat} {k : KK} {post : SV × HD -> Prop} (hT : dN E.top nb) {s : SV} (h : (k s ob nb).holds post) : (lift E ⟨au ob, nb⟩ (.ret ⟨s, .none⟩)).holds (KP post k) := by
 have hc : je E ⟨au ob, nb⟩ Eff.none = true := wu E (h := ⟨au ob, nb⟩) hT.1
 show T.holds _ (bif je E ⟨au ob, nb⟩ Eff.none then T.ret (s, (⟨au ob, nb⟩ : HS).eff .none) else .fail)
 rw [hc]
 exact ⟨ob, rfl, h⟩
section
variable {E : CEnv} {X : EX} {o : Oper} {ev : Ev} {ob : OB} {nb : Nat} {k : KK} {post : SV × HD -> Prop} {rid i : Nat}
theorem zy (hX : XRef X E) (hT : dN E.top nb) (h : (av E.P X o ev ob nb k).holds post) : (lift E ⟨au ob, nb⟩ (cxE E.P ev (au ob) nb o)).holds (KP post k) :=
 eU hX.top hX.base hT h
theorem NY (hX : XRef X E) (hT : dN E.top nb) {t : TypeId} {x : Operand} (ho : o.op = .load t x) (h : (Eo t x E.P X o ev ob nb k).holds post) : (lift E ⟨au ob, nb⟩ (cxE E.P ev (au ob) nb o)).holds (KP post k) := by
 have gen := zy (o := o) (ev := ev) (ob := ob) (k := k) (post := post) hX hT
 have eC : cxE E.P ev (au ob) nb o = (fH E.P (au ob) t (ev x)).bind jI := by unfold cxE; simp only [ho]
 have fin : ∀ s, fH E.P (au ob) t (ev x) = .ret s -> (k (nK s) ob nb).holds post -> (lift E ⟨au ob, nb⟩ (cxE E.P ev (au ob) nb o)).holds (KP post k) := by
  intro s hs hk
  rw [eC, hs]
  exact dR hT hk
 unfold Eo at h
 split at h
 · rename_i i off hx
   split at h
   · rename_i t' cs hg
     rw [Li] at h
     unfold ldK at h
     cases ha : ow E.P t with
     | none => simp only [ha] at h; exact h.elim
     | some b =>
       cases hz : bA E.P t with
       | none => simp only [ha, hz] at h; exact h.elim
       | some n =>
         simp only [ha, hz] at h
         cases b with
         | true => exact gen h
         | false =>
           rw [cond_false, yS] at h
           split at h
           · rename_i s hs
             exact fin s (by simp only [fH, hx, fQ, ha, hz, hg, hs]) h
           · exact h.elim
   · exact h.elim
 · rename_i i idx sz off hx
   split at h
   · rename_i t' sz' len tr ex hg
     rw [Li] at h
     unfold ldK at h
     cases ha : ow E.P t with
     | none => simp only [ha] at h; exact h.elim
     | some b =>
       cases hz : bA E.P t with
       | none => simp only [ha, hz] at h; exact h.elim
       | some n =>
         simp only [ha, hz] at h
         cases b with
         | true =>
           unfold szK at h
           simp only [hz, cond_true] at h
           rw [dH] at h
           cases hb : (Nat.beq sz sz' && (Nat.ble (off + n) sz && Nat.blt idx len)) with
           | false => rw [hb] at h; exact h.elim
           | true =>
             rw [hb, cond_true, nT] at h
             exact fin (.agg (eD tr (idx * sz + off) n)) (by simp only [fH, hx, ha, hz, hg, hb]; rfl) h
         | false =>
           rw [cond_false, dH] at h
           cases hb : (Nat.beq sz sz' && (Nat.blt off sz && Nat.blt idx len)) with
           | false => rw [hb] at h; exact h.elim
           | true =>
             rw [hb, cond_true, zf] at h
             exact fin _ (by simp only [fH, hx, ha, hz, hg, hb]; rfl) h
   · exact gen h
 · exact gen h
theorem JQ (hX : XRef X E) (hT : dN E.top nb) (hF : FOk ob nb) {t : TypeId} {p x : Operand} (ho : o.op = .store t p x) (h : (vT t p x E.P X o ev ob nb k).holds post) : (lift E ⟨au ob, nb⟩ (cxE E.P ev (au ob) nb o)).holds (KP post k) := by
 have gen := zy (o := o) (ev := ev) (ob := ob) (k := k) (post := post) hX hT
 have eC : cxE E.P ev (au ob) nb o = sQ E.P (au ob) t (ev p) (ev x) := by unfold cxE; simp only [ho]
 unfold vT at h
 split at h
 · rename_i i off hp
   split at h
   · rename_i t' cs hg
     rw [dH] at h
     cases h1 : Ma E.P t with
     | false => rw [h1] at h; exact gen h
     | true =>
       rw [h1, cond_true, dH] at h
       cases h2 : eO (ev x) with
       | false => rw [h2] at h; exact gen h
       | true =>
         rw [h2, cond_true, dH] at h
         cases h3 : (Nat.ble X.base i && Nat.ble (off + 1) cs.length) with
         | false => rw [h3] at h; exact h.elim
         | true =>
           rw [h3, cond_true] at h
           simp only [Bool.and_eq_true] at h3
           have hz : bA E.P t = some 1 := by
            unfold Ma at h1
            split at h1
            · rename_i n hn; rw [hn, Nat.eq_of_beq_eq_true h1]
            · cases h1
           have hc : dG (ev x) = some [ev x] := by
            unfold dG
            split
            · rename_i l hl; rw [hl] at h2; cases h2
            · rw [h2]; rfl
           have hle : off + 1 <= cs.length := Nat.le_of_ble_eq_true h3.2
           have hs : sQ E.P (au ob) t (ev p) (ev x) = .ret ⟨.junk, ⟨[(i, some (.cells t' (splice cs off [ev x])))], []⟩⟩ := by
            simp only [sQ, hp, iU, hz, hc, hg, List.length_singleton, List.all_cons, List.all_nil, Bool.and_true, h2, h3.2]
            rfl
           rw [eC, hs]
           have hi : i < nb := by
            rcases Nat.lt_or_ge i nb with h | h
            · exact h
            · rw [hF i h] at hg; cases hg
           have hef : je E ⟨au ob, nb⟩ ⟨[(i, some (.cells t' (splice cs off [ev x])))], []⟩ = true := by
            simp only [je, iE, List.length_nil, Nat.add_zero, List.all_cons, List.all_nil, Bool.and_true, Bool.true_and, Bool.and_eq_true]
            refine ⟨Nat.ble_eq_true_of_le hT.1, ?_, ?_⟩
            · rw [Nat.blt_eq]; exact hi
            · rw [← hX.base]; exact h3.1
           show T.holds _ (bif je E ⟨au ob, nb⟩ ⟨[(i, some (.cells t' (splice cs off [ev x])))], []⟩ then T.ret (SV.junk, (⟨au ob, nb⟩ : HS).eff ⟨[(i, some (.cells t' (splice cs off [ev x])))], []⟩) else .fail)
           rw [hef]
           refine ⟨_, ?_, h⟩
           funext j
           have := hT.1
           have := hT.2
           rw [oO j (by omega), MS cs off _ hle]
           show (List.lookup j [(i, some (Ob.cells t' (splice cs off [ev x])))]).getD (au ob j) = _
           by_cases e : j = i
           · subst e; simp [List.lookup]
           · have : (j == i) = false := by simpa using e
             simp [List.lookup, this, e]
   · exact h.elim
 · exact gen h
theorem Nz {op : BinOp} {kk : IntKind} {a b : Int} {gen : R} {c : SV -> R} (h : (LH op kk a b gen c).holds post) : gen.holds post ∨ ∃ s, kiV op kk a b = .ret s /\ (c s).holds post := by
 have ari : ∀ z : Int, (Om kk z c).holds post -> (decide (lo kk <= z) && decide (z <= hi kk)) = true /\ (c (.ki kk z)).holds post := by
  intro z h
  unfold Om at h
  rw [Pf, dH, qQ] at h
  cases h1 : decide (z < lo kk) with
  | true => rw [h1] at h; exact h.elim
  | false =>
    rw [h1, cond_false, dH, qQ] at h
    cases h2 : decide (hi kk < z) with
    | true => rw [h2] at h; exact h.elim
    | false =>
      rw [h2, cond_false] at h
      simp only [decide_eq_false_iff_not, Int.not_lt] at h1 h2
      exact ⟨by simp [h1, h2], h⟩
 unfold LH at h
 split at h
 · obtain ⟨h1, h2⟩ := ari _ h
   right
   refine ⟨_, ?_, h2⟩
   have h1 : (decide (lo kk <= a + b) && decide (a + b <= hi kk)) = true := h1
   simp only [kiV, h1]; rfl
 · obtain ⟨h1, h2⟩ := ari _ h
   right
   refine ⟨_, ?_, h2⟩
   have h1 : (decide (lo kk <= a - b) && decide (a - b <= hi kk)) = true := h1
   simp only [kiV, h1]; rfl
 · right; exact ⟨_, by rw [wC]; rfl, h⟩
 · right; exact ⟨_, by rw [Lr, wC]; rfl, h⟩
 · right; exact ⟨_, by rw [qQ]; rfl, h⟩
 · right; exact ⟨_, by rw [qQ]; rfl, h⟩
 · right
   refine ⟨_, ?_, h⟩
   rw [Lr, qQ]
   simp only [kiV]
   congr 2
   rw [Bool.eq_iff_iff]; simp
 · right
   refine ⟨_, ?_, h⟩
   rw [Lr, qQ]
   simp only [kiV]
   congr 2
   rw [Bool.eq_iff_iff]; simp
 · exact .inl h
theorem SL (hX : XRef X E) (hT : dN E.top nb) (hF : FOk ob nb) (h : (opG o E.P X o ev ob nb k).holds post) : (bJ E rid i ev ⟨au ob, nb⟩ o).holds (KP post k) := by
 have gen := zy (o := o) (ev := ev) (ob := ob) (k := k) (post := post) hX hT
 cases ho : o.op
 case move x =>
  have h : (DW x E.P X o ev ob nb k).holds post := by simpa only [opG, ho] using h
  have e : bJ E rid i ev ⟨au ob, nb⟩ o = lift E ⟨au ob, nb⟩ (.ret ⟨ev x, .none⟩) := by simp only [bJ, ho, cxE, sxE, iT]
  rw [e]; exact dR hT h
 case assign x =>
  have h : (DW x E.P X o ev ob nb k).holds post := by simpa only [opG, ho] using h
  have e : bJ E rid i ev ⟨au ob, nb⟩ o = lift E ⟨au ob, nb⟩ (.ret ⟨ev x, .none⟩) := by simp only [bJ, ho, cxE, sxE, iT]
  rw [e]; exact dR hT h
 case pick c a b =>
  have h : (JG c a b E.P X o ev ob nb k).holds post := by simpa only [opG, ho] using h
  have e : bJ E rid i ev ⟨au ob, nb⟩ o = lift E ⟨au ob, nb⟩ (cxE E.P ev (au ob) nb o) := by simp only [bJ, ho]
  unfold JG at h
  split at h
  · rename_i q hq
    have e2 : cxE E.P ev (au ob) nb o = .ret ⟨bif q then ev a else ev b, .none⟩ := by
        simp only [cxE, ho, sxE, iT, hq]
        cases q <;> rfl
    rw [e, e2]
    rw [dH] at h
    refine dR hT ?_
    cases q <;> exact h
  · rw [e]; exact gen h
 case alloc t =>
  have h : (Ky t E.P X o ev ob nb k).holds post := by simpa only [opG, ho] using h
  have e : bJ E rid i ev ⟨au ob, nb⟩ o = lift E ⟨au ob, nb⟩ (match zeroOf E.P t with
   | some cs => .ret ⟨.ptr nb 0, ⟨[(nb, some (.cells t cs))], [nb]⟩⟩
   | none => .fail) := by
   simp only [bJ, ho, cxE, sxE, iT]
   rfl
  rw [e]; exact eU hX.top hX.base hT h
 case box t x =>
  have h : (Wu t x E.P X o ev ob nb k).holds post := by simpa only [opG, ho] using h
  have e : bJ E rid i ev ⟨au ob, nb⟩ o = lift E ⟨au ob, nb⟩ (match dG (nrm (ev x)) with
   | some cs => .ret ⟨.ptr nb 0, ⟨[(nb, some (.cells t cs))], [nb]⟩⟩
   | none => .fail) := by
   simp only [bJ, ho, cxE, sxE, iT]
   rfl
  rw [e]; exact eU hX.top hX.base hT h
 case build t ps =>
  have h : (JW t ps E.P X o ev ob nb k).holds post := by simpa only [opG, ho] using h
  have e : bJ E rid i ev ⟨au ob, nb⟩ o = lift E ⟨au ob, nb⟩ ((jM E.P t (ps.toList.map fun p => (p.1, nrm (ev p.2)))).bind fun s => .ret ⟨s, .none⟩) := by simp only [bJ, ho, cxE, sxE, iT]
  rw [e]; exact eU hX.top hX.base hT h
 case load t x =>
  have h : (Eo t x E.P X o ev ob nb k).holds post := by simpa only [opG, ho] using h
  have e : bJ E rid i ev ⟨au ob, nb⟩ o = lift E ⟨au ob, nb⟩ (cxE E.P ev (au ob) nb o) := by simp only [bJ, ho]
  rw [e]; exact NY hX hT ho h
 case store t p x =>
  have h : (vT t p x E.P X o ev ob nb k).holds post := by simpa only [opG, ho] using h
  have e : bJ E rid i ev ⟨au ob, nb⟩ o = lift E ⟨au ob, nb⟩ (cxE E.P ev (au ob) nb o) := by simp only [bJ, ho]
  rw [e]; exact JQ hX hT hF ho h
 case nilCheck x =>
  have h : (PX x E.P X o ev ob nb k).holds post := by simpa only [opG, ho] using h
  have e : bJ E rid i ev ⟨au ob, nb⟩ o = lift E ⟨au ob, nb⟩ (cxE E.P ev (au ob) nb o) := by simp only [bJ, ho]
  rw [e]
  unfold PX at h
  split at h
  · rename_i q f hx
    have e2 : cxE E.P ev (au ob) nb o = .ret ⟨.ptr q f, .none⟩ := by simp only [cxE, ho, sxE, hx]
    rw [e2]; exact dR hT h
  · rename_i q y z f hx
    have e2 : cxE E.P ev (au ob) nb o = .ret ⟨.rp q y z f, .none⟩ := by simp only [cxE, ho, sxE, hx]
    rw [e2]; exact dR hT h
  · exact gen h
 case binOp op t x y ty =>
  have h : (QJ op x y E.P X o ev ob nb k).holds post := by simpa only [opG, ho] using h
  have e : bJ E rid i ev ⟨au ob, nb⟩ o = lift E ⟨au ob, nb⟩ (cxE E.P ev (au ob) nb o) := by simp only [bJ, ho]
  rw [e]
  unfold QJ at h
  rw [dH] at h
  cases hn : R6 y with
  | true => rw [hn] at h; exact gen h
  | false =>
    rw [hn, cond_false] at h
    have hnil : GX y = none := by
     unfold R6 at hn
     split at hn
     · cases hn
     · assumption
    split at h
    · rename_i kk a kk' b hx hy
      rw [dH] at h
      cases hk : dX kk kk' with
      | false => rw [hk] at h; exact h.elim
      | true =>
        rw [hk, cond_true] at h
        have hk : kk = kk' := by simpa [dX] using hk
        subst hk
        rcases Nz h with h | ⟨s, hs, h⟩
        · exact gen h
        · have e2 : cxE E.P ev (au ob) nb o = .ret ⟨nK s, .none⟩ := by
           simp only [cxE, ho, hnil, hx, hy, PK, if_true, hs]
           rfl
          have e3 : nK s = s := by
           unfold kiV at hs
           split at hs <;> (try simp only [Bool.cond_eq_ite] at hs) <;> (try split at hs) <;> first | (cases hs; done) | (injection hs with hs; subst hs; rfl)
          rw [e2, e3]; exact dR hT h
    · exact gen h
 case unOp op t x =>
  have h : (kUn op x E.P X o ev ob nb k).holds post := by simpa only [opG, ho] using h
  have e : bJ E rid i ev ⟨au ob, nb⟩ o = lift E ⟨au ob, nb⟩ (cxE E.P ev (au ob) nb o) := by simp only [bJ, ho]
  rw [e]
  unfold kUn at h
  split at h
  · rename_i b hx
    have e2 : cxE E.P ev (au ob) nb o = .ret ⟨.kb (!b), .none⟩ := by
     simp only [cxE, ho, sxE, iT, hx, Qp]
     rfl
    rw [e2]
    rw [Lr] at h
    exact dR hT h
  · exact gen h
 case fieldAddr s x f =>
  have h : (kg s x f E.P X o ev ob nb k).holds post := by simpa only [opG, ho] using h
  have e : bJ E rid i ev ⟨au ob, nb⟩ o = lift E ⟨au ob, nb⟩ (cxE E.P ev (au ob) nb o) := by simp only [bJ, ho]
  rw [e]
  have eC : cxE E.P ev (au ob) nb o = (fJ E.P s f (nrm (ev x))).bind fun s => .ret ⟨s, .none⟩ := by simp only [cxE, ho, sxE, iT]
  have hfa : ∀ d, faK E.P s f = some d -> ∃ fl n, lH E.P s f = some fl /\ bA E.P fl.type = some (n + 1) /\ fl.offset = d := by
   intro d hd
   unfold faK at hd
   split at hd
   · rename_i fl hfl
     split at hd
     · rename_i n hn
       injection hd with hd
       exact ⟨fl, n, hfl, hn, hd⟩
     · cases hd
   · cases hd
  unfold kg at h
  split at h
  · rename_i q off hx
    rw [OW] at h
    split at h
    · exact h.elim
    · rename_i d hd
      obtain ⟨fl, n, h1, h2, rfl⟩ := hfa d hd
      rw [qF] at h
      have e2 : cxE E.P ev (au ob) nb o = .ret ⟨.ptr q (off + fl.offset), .none⟩ := by
       rw [eC, hx]
       simp only [nrm, fJ, h1, h2]
       rfl
      rw [e2]; exact dR hT h
  · rename_i q idx sz off hx
    rw [OW] at h
    split at h
    · exact h.elim
    · rename_i d hd
      obtain ⟨fl, n, h1, h2, rfl⟩ := hfa d hd
      rw [qF] at h
      have e2 : cxE E.P ev (au ob) nb o = .ret ⟨.rp q idx sz (off + fl.offset), .none⟩ := by
       rw [eC, hx]
       simp only [nrm, fJ, h1, h2]
       rfl
      rw [e2]; exact dR hT h
  · exact gen h
 case field t x f =>
  have h : (KZ t x f E.P X o ev ob nb k).holds post := by simpa only [opG, ho] using h
  have e : bJ E rid i ev ⟨au ob, nb⟩ o = lift E ⟨au ob, nb⟩ ((nC E.P t (ev x) f).bind jI) := by simp only [bJ, ho, cxE]
  rw [e]; exact eU hX.top hX.base hT h
 case indexAddr t x j =>
  have h : (Ju t x j E.P X o ev ob nb k).holds post := by simpa only [opG, ho] using h
  have e : bJ E rid i ev ⟨au ob, nb⟩ o = lift E ⟨au ob, nb⟩ (cxE E.P ev (au ob) nb o) := by simp only [bJ, ho]
  rw [e]
  unfold Ju at h
  split at h
  · rename_i q z o' n c kk iv hx hi
    rw [OW] at h
    split at h
    · exact h.elim
    · rename_i z' hz'
      rw [dH] at h
      cases hz : Nat.beq z' z with
      | false => rw [hz] at h; exact h.elim
      | true =>
        rw [hz, cond_true, Ww] at h
        cases hb : (decide (0 <= iv) && decide (iv < (n : Int))) with
        | false => rw [hb] at h; exact h.elim
        | true =>
          rw [hb, cond_true, qF] at h
          have e2 : cxE E.P ev (au ob) nb o = .ret ⟨.rp q (o' + iv.toNat) z 0, .none⟩ := by
           unfold iaK at hz'
           split at hz'
           · rename_i et hu
             have : kR E.P t (ev x) (ev j) = some (.ret (.rp q (o' + iv.toNat) z 0)) := by
              simp only [kR, hx, hi, Gy, hu, hz', hz, hb]
              rfl
             simp only [cxE, ho, this]
             rfl
           · cases hz'
          rw [e2]; exact dR hT h
  · exact gen h
 case index t x j =>
  have h : (Ko t x j E.P X o ev ob nb k).holds post := by simpa only [opG, ho] using h
  have e : bJ E rid i ev ⟨au ob, nb⟩ o = lift E ⟨au ob, nb⟩ ((wI E.P t (ev x) (ev j)).bind jI) := by simp only [bJ, ho, cxE]
  rw [e]; exact eU hX.top hX.base hT h
 case lookup t x j ok =>
  have h : (GZ t x j ok E.P X o ev ob nb k).holds post := by simpa only [opG, ho] using h
  have e : bJ E rid i ev ⟨au ob, nb⟩ o = lift E ⟨au ob, nb⟩ ((gF E.P (au ob) t (ev x) (nrm (ev j)) ok).bind jI) := by simp only [bJ, ho, cxE]
  rw [e]; exact eU hX.top hX.base hT h
 case extract x j =>
  have h : (pO x j E.P X o ev ob nb k).holds post := by simpa only [opG, ho] using h
  have e : bJ E rid i ev ⟨au ob, nb⟩ o = lift E ⟨au ob, nb⟩ (cxE E.P ev (au ob) nb o) := by simp only [bJ, ho]
  rw [e]
  unfold pO at h
  split at h
  · rename_i l hx
    rw [yS] at h
    split at h
    · rename_i s hs
      have e2 : cxE E.P ev (au ob) nb o = .ret ⟨nK s, .none⟩ := by
       simp only [cxE, ho, hx, iL, hs]
       rfl
      rw [e2]; exact dR hT h
    · exact h.elim
  · exact gen h
 case call c =>
  have h : (HZ c E.P X o ev ob nb k).holds post := by simpa only [opG, ho] using h
  unfold HZ at h
  obtain ⟨callee, args, argTypes⟩ := c
  cases callee with
  | value f =>
    have h : (kFn f args.toList E.P X o ev ob nb k).holds post := h
    unfold kFn at h
    simp only [bJ, ho, hX.K]
    split at h
    · rename_i fk caps hf
      rw [Jz] at h
      simp only [hf]
      rw [hX.top, hX.base] at h
      exact hX.I _ _ _ _ _ _ _ _ hF hT h
    · exact h.elim
  | invoke r m =>
    have e : bJ E rid i ev ⟨au ob, nb⟩ o = lift E ⟨au ob, nb⟩ (cxE E.P ev (au ob) nb o) := by simp only [bJ, ho]
    rw [e]; exact gen h
  | builtin b =>
    have e : bJ E rid i ev ⟨au ob, nb⟩ o = lift E ⟨au ob, nb⟩ (cxE E.P ev (au ob) nb o) := by simp only [bJ, ho]
    rw [e]
    have h : (qC ⟨.builtin b, args, argTypes⟩ b E.P X o ev ob nb k).holds post := h
    unfold qC at h
    split at h
    · rename_i x t hb ha ht
      have ha : args.toList = [x] := ha
      have ht : argTypes.toList = [t] := ht
      unfold TW at h
      split at h
      · rename_i q z o' n c hx
        rw [dH] at h
        cases hs : Sk E.P t with
        | false => rw [hs] at h; exact h.elim
        | true =>
          rw [hs, cond_true] at h
          have e2 : cxE E.P ev (au ob) nb o = .ret ⟨.ki .i64 n, .none⟩ := by
           unfold Sk at hs
           split at hs
           · rename_i et hu
             have h1 : args = ⟨[x]⟩ := Array.toList_inj.1 ha
             have h2 : argTypes = ⟨[t]⟩ := Array.toList_inj.1 ht
             subst h1; subst h2
             simp only [cxE, ho, SF, hu, hx]
           · cases hs
          rw [e2]; exact dR hT h
      · exact gen h
    · exact gen h
 case range t x =>
  have h : (Ku t x E.P X o ev ob nb k).holds post := by simpa only [opG, ho] using h
  have e : bJ E rid i ev ⟨au ob, nb⟩ o = lift E ⟨au ob, nb⟩ (vJ E.P (au ob) nb t (ev x)) := by simp only [bJ, ho]
  rw [e]; exact eU hX.top hX.base hT h
 case entry x =>
  have h : (Lf x E.P X o ev ob nb k).holds post := by simpa only [opG, ho] using h
  have e : bJ E rid i ev ⟨au ob, nb⟩ o = lift E ⟨au ob, nb⟩ (Bf (au ob) (ev x)) := by simp only [bJ, ho]
  rw [e]; exact eU hX.top hX.base hT h
 case next a b =>
  have h : (T.fail : R).holds post := by simpa only [opG, ho] using h
  exact h.elim
 all_goals
  have h : (av E.P X o ev ob nb k).holds post := by simpa only [opG, ho] using h
  have e : bJ E rid i ev ⟨au ob, nb⟩ o = lift E ⟨au ob, nb⟩ (cxE E.P ev (au ob) nb o) := by simp only [bJ, ho]
  rw [e]
  exact gen h
end
end
end Rx
