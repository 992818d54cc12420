/- Rx, part X2: operations, for the kernel. -/
import Derived.Test.YtcmnmceodhambaaGreatDoorRxX1
set_option linter.unusedSectionVars false
set_option linter.unusedSimpArgs false
set_option linter.unusedVariables false
namespace Rx
open Go
variable [Glob]
noncomputable section
def nthR (l : List SV) : Nat → R → (SV → R) → R := @List.rec SV (fun _ => Nat → R → (SV → R) → R) (fun _ f _ => f) (fun s _ ih n f k => @Nat.rec (fun _ => R) (k s) (fun m _ => ih m f k) n) l
theorem nthR_eq : ∀ (l : List SV) (n : Nat) (f : R) (k : SV → R), nthR l n f k = match l[n]? with
  | some s => k s
  | none => f
 | [], _, _, _ => rfl
 | s :: l, 0, _, _ => rfl
 | s :: l, n + 1, f, k => by
   show nthR l n f k = _
   rw [nthR_eq l n f k]
   simp
theorem gGet_get {α : Type} (d : α) : ∀ (t : Tr α) (n : Nat), gGet d t n = t.get d n
 | .nil, n => rfl
 | .node l v r, n => by
   rw [gGet_node]
   simp only [Tr.get]
   by_cases h : n = 0
   · subst h; rfl
   · rw [beq_f h, cond_false, if_neg h]
     by_cases h2 : n % 2 = 1
     · rw [beq_t h2, cond_true, if_pos h2, gGet_get d l]
     · rw [beq_f h2, cond_false, if_neg h2, gGet_get d r]
theorem getS_get (t : Tr SV) (n : Nat) : getS t n = t.get .junk n := by rw [getS_g]; exact gGet_get _ t n
def trListF (tr : Tr SV) (n : Nat) : Nat → List SV := @Nat.rec (fun _ => Nat → List SV) (fun _ => []) (fun _ ih k => getS tr k :: ih (Nat.succ k)) n
theorem trListF_eq (tr : Tr SV) : ∀ (n k : Nat), trListF tr n k = trList tr k n
 | 0, _ => rfl
 | n + 1, k => by
   show getS tr k :: trListF tr n (Nat.succ k) = _
   rw [trListF_eq tr n, getS_get]
   rfl
theorem gNew_set {α : Type} (d : α) : ∀ (a b n : Nat) (v : α), n < 2 ^ a - 1 → n < 2 ^ b - 1 → gNew d a n v = Tr.set d b .nil n v
 | 0, _, n, _, h, _ => by simp at h
 | _ + 1, 0, n, _, _, h => by simp at h
 | a + 1, b + 1, n, v, h1, h2 => by
   have hp : 2 ^ (a + 1) = 2 * 2 ^ a := by rw [Nat.pow_succ, Nat.mul_comm]
   have hq : 2 ^ (b + 1) = 2 * 2 ^ b := by rw [Nat.pow_succ, Nat.mul_comm]
   rw [gNew_succ]
   simp only [Tr.set]
   by_cases h : n = 0
   · subst h; rfl
   · rw [beq_f h, cond_false, if_neg h]
     by_cases h3 : n % 2 = 1
     · rw [beq_t h3, cond_true, if_pos h3, gNew_set d a b (n / 2) v (by omega) (by omega)]
     · rw [beq_f h3, cond_false, if_neg h3, gNew_set d a b (n / 2 - 1) v (by omega) (by omega)]
theorem gSet_set {α : Type} (d : α) : ∀ (t : Tr α) (b n : Nat) (v : α), n < 2 ^ b - 1 → b ≤ 24 → gSet d t n v = Tr.set d b t n v
 | .nil, b, n, v, h, hb => gNew_set d 24 b n v (by
   have : 2 ^ b ≤ 2 ^ 24 := Nat.pow_le_pow_right (by omega) hb
   omega) h
 | .node l x r, 0, n, v, h, _ => by simp at h
 | .node l x r, b + 1, n, v, h, hb => by
   have hq : 2 ^ (b + 1) = 2 * 2 ^ b := by rw [Nat.pow_succ, Nat.mul_comm]
   rw [gSet_node]
   simp only [Tr.set]
   by_cases h0 : n = 0
   · subst h0; rfl
   · rw [beq_f h0, cond_false, if_neg h0]
     by_cases h3 : n % 2 = 1
     · rw [beq_t h3, cond_true, if_pos h3, gSet_set d l b (n / 2) v (by omega) (by omega)]
     · rw [beq_f h3, cond_false, if_neg h3, gSet_set d r b (n / 2 - 1) v (by omega) (by omega)]
theorem setS_set {t : Tr SV} {n : Nat} {v : SV} (h : n < 65535) : setS t n v = Tr.set .junk CAP t n v := by
 rw [setS_g]; exact gSet_set _ t CAP n v (by simpa [CAP] using h) (by simp [CAP])
def trPutF (l : List SV) : Tr SV → Nat → Tr SV := @List.rec SV (fun _ => Tr SV → Nat → Tr SV) (fun t _ => t) (fun s _ ih t k => ih (setS t k s) (Nat.succ k)) l
theorem trPutF_eq : ∀ (l : List SV) (t : Tr SV) (k : Nat), k + l.length ≤ 65535 → trPutF l t k = trPut t k l
 | [], _, _, _ => rfl
 | s :: l, t, k, h => by
   simp only [List.length_cons] at h
   show trPutF l (setS t k s) (Nat.succ k) = trPut (t.set .junk CAP k s) (k + 1) l
   rw [trPutF_eq l _ _ (by omega), setS_set (by omega)]
def lset (l : List SV) : Nat → SV → List SV := @List.rec SV (fun _ => Nat → SV → List SV) (fun _ _ => []) (fun x l ih n v => @Nat.rec (fun _ => List SV) (v :: l) (fun m _ => x :: ih m v) n) l
theorem lset_eq : ∀ (l : List SV) (n : Nat) (v : SV), n + 1 ≤ l.length → lset l n v = splice l n [v]
 | [], _, _, h => by simp at h
 | x :: l, 0, v, _ => by simp [splice]; rfl
 | x :: l, n + 1, v, h => by
   show x :: lset l n v = _
   rw [lset_eq l n v (by simpa using h)]
   simp [splice]
def oB (o : Option Bool) (n a b : R) : R := @Option.rec Bool (fun _ => R) n (fun q => BR q a b) o
theorem oB_eq (o : Option Bool) (n a b : R) : oB o n a b = match o with
  | none => n
  | some q => bif q then a else b := by
 cases o
 · rfl
 · exact BR_eq _ _ _
def oN (o : Option Nat) (n : R) (f : Nat → R) : R := @Option.rec Nat (fun _ => R) n f o
theorem oN_eq (o : Option Nat) (n : R) (f : Nat → R) : oN o n f = match o with
  | none => n
  | some q => f q := by cases o <;> rfl
def ldK (P : Program) (t : TypeId) : Option Bool := match aggT P t, szOf P t with
 | some b, some _ => some b
 | _, _ => none
def isOne (P : Program) (t : TypeId) : Bool := match szOf P t with
 | some n => Nat.beq n 1
 | none => false
def kGen : OpK := fun P X o ev ob nb k => kRes X (cxE P ev (getO ob) nb o) ob nb k
def kMove (x : Operand) : OpK := fun P X o ev ob nb k => k (ev x) ob nb
def kNil (x : Operand) : OpK := fun P X o ev ob nb k => match ev x with
 | .ptr i f => k (.ptr i f) ob nb
 | .rp i y z f => k (.rp i y z f) ob nb
 | _ => kGen P X o ev ob nb k
def kPick (c a b : Operand) : OpK := fun P X o ev ob nb k => match ev c with
 | .kb q => BR q (k (ev a) ob nb) (k (ev b) ob nb)
 | _ => kGen P X o ev ob nb k
def szK (P : Program) (t : TypeId) (f : Nat → R) : R := match szOf P t with
 | some n => f n
 | none => .fail
def kLoad (t : TypeId) (x : Operand) : OpK := fun P X o ev ob nb k => match ev x with
 | .ptr i off => match getO ob i with
   | some (.cells _ cs) => oB (ldK P t) .fail (kGen P X o ev ob nb k) (nthR cs off .fail fun s => k (nK s) ob nb)
   | _ => .fail
 | .rp i idx sz off => match getO ob i with
   | some (.vec _ sz' len tr _) => oB (ldK P t) .fail
       (szK P t fun n => BR (Nat.beq sz sz' && (Nat.ble (off + n) sz && Nat.blt idx len)) (k (.agg (trListF tr n (Nat.add (Nat.mul idx sz) off))) ob nb) .fail)
       (BR (Nat.beq sz sz' && (Nat.blt off sz && Nat.blt idx len)) (k (nK (getS tr (Nat.add (Nat.mul idx sz) off))) ob nb) .fail)
   | _ => kGen P X o ev ob nb k
 | _ => kGen P X o ev ob nb k
def kStore (t : TypeId) (p x : Operand) : OpK := fun P X o ev ob nb k => match ev p with
 | .ptr i off => match getO ob i with
   | some (.cells t' cs) => BR (isOne P t) (BR (oneSV (ev x)) (BR (Nat.ble X.base i && Nat.ble (off + 1) cs.length) (k .junk (setO ob i (some (.cells t' (lset cs off (ev x))))) nb) .fail) (kGen P X o ev ob nb k)) (kGen P X o ev ob nb k)
   | _ => .fail
 | _ => kGen P X o ev ob nb k
def faK (P : Program) (s : TypeId) (f : Nat) : Option Nat := match fieldOf P s f with
 | some fl => (match szOf P fl.type with
   | some (_ + 1) => some fl.offset
   | _ => none)
 | none => none
def kFieldAddr (s : TypeId) (x : Operand) (f : Nat) : OpK := fun P X o ev ob nb k => match ev x with
 | .ptr i off => oN (faK P s f) .fail fun d => fN (Nat.add off d) fun a => k (.ptr i a) ob nb
 | .rp i idx sz off => oN (faK P s f) .fail fun d => fN (Nat.add off d) fun a => k (.rp i idx sz a) ob nb
 | _ => kGen P X o ev ob nb k
def lssI (x y : Int) : Bool := @Int.rec (fun _ => Bool) (fun m => @Int.rec (fun _ => Bool) (fun n => Nat.ble (Nat.succ m) n) (fun _ => false) y) (fun m => @Int.rec (fun _ => Bool) (fun _ => true) (fun n => Nat.ble (Nat.succ n) m) y) x
theorem lssI_eq (x y : Int) : lssI x y = decide (x < y) := by
 cases x with
 | ofNat m => cases y with
   | ofNat n =>
     show Nat.ble (m + 1) n = _
     rw [Bool.eq_iff_iff, decide_eq_true_eq]
     constructor
     · intro h; have := Nat.le_of_ble_eq_true h; simp; omega
     · intro h; apply Nat.ble_eq_true_of_le; simp at h; omega
   | negSucc n => show false = _; simp; omega
 | negSucc m => cases y with
   | ofNat n => show true = _; simp; omega
   | negSucc n =>
     show Nat.ble (n + 1) m = _
     rw [Bool.eq_iff_iff, decide_eq_true_eq]
     constructor
     · intro h; have := Nat.le_of_ble_eq_true h; omega
     · intro h; apply Nat.ble_eq_true_of_le; omega
def eqI (x y : Int) : Bool := @Int.rec (fun _ => Bool) (fun m => @Int.rec (fun _ => Bool) (fun n => Nat.beq m n) (fun _ => false) y) (fun m => @Int.rec (fun _ => Bool) (fun _ => false) (fun n => Nat.beq m n) y) x
theorem eqI_eq (x y : Int) : eqI x y = decide (x = y) := by
 cases x with
 | ofNat m => cases y with
   | ofNat n =>
     show Nat.beq m n = _
     by_cases h : m = n
     · subst h; simp [Nat.beq_refl]
     · rw [beq_f h]; simp; omega
   | negSucc n => show false = _; simp
 | negSucc m => cases y with
   | ofNat n => show false = _; simp
   | negSucc n =>
     show Nat.beq m n = _
     by_cases h : m = n
     · subst h; simp [Nat.beq_refl]
     · rw [beq_f h]; simp; omega
def nB (b : Bool) : Bool := @Bool.rec (fun _ => Bool) true false b
theorem nB_eq (b : Bool) : nB b = !b := by cases b <;> rfl
def ariK (k : IntKind) (z : Int) (c : SV → R) : R := fI z fun z => BR (lssI z (lo k)) .fail (BR (lssI (hi k) z) .fail (c (.ki k z)))
def sameK (a b : IntKind) : Bool := decide (a = b)
def binK2 (op : BinOp) (k : IntKind) (x y : Int) (gen : R) (c : SV → R) : R := match op with
 | .add => ariK k (Int.add x y) c
 | .sub => ariK k (Int.sub x y) c
 | .eql => c (.kb (eqI x y))
 | .neq => c (.kb (nB (eqI x y)))
 | .lss => c (.kb (lssI x y))
 | .gtr => c (.kb (lssI y x))
 | .leq => c (.kb (nB (lssI y x)))
 | .geq => c (.kb (nB (lssI x y)))
 | _ => gen
def isNK (y : Operand) : Bool := match isNilC y with
 | some _ => true
 | none => false
def kBin (op : BinOp) (x y : Operand) : OpK := fun P X o ev ob nb k => BR (isNK y) (kGen P X o ev ob nb k) (match ev x, ev y with
 | .ki kk a, .ki kk' b => BR (sameK kk kk') (binK2 op kk a b (kGen P X o ev ob nb k) fun s => k s ob nb) .fail
 | _, _ => kGen P X o ev ob nb k)
def mapEv (l : List Operand) (ev : Ev) (c : List SV) : List SV := @List.rec Operand (fun _ => List SV) c (fun x _ ih => ev x :: ih) l
theorem mapEv_eq (ev : Ev) (c : List SV) : ∀ l : List Operand, mapEv l ev c = l.map ev ++ c
 | [] => rfl
 | x :: l => by
   show ev x :: mapEv l ev c = _
   rw [mapEv_eq ev c l]; rfl
def kFn (f : Operand) (args : List Operand) : OpK := fun P X o ev ob nb k => match ev f with
 | .fn fk caps => X.I X.top X.base fk (mapEv args ev caps) ob nb k
 | _ => .fail
def iaK (P : Program) (t : TypeId) : Option Nat := match P.underlying t with
 | some (.slice e) => szOf P e
 | _ => none
def ltI (i : Int) (n : Nat) (f : Nat → R) : R := @Int.rec (fun _ => R) (fun m => BR (Nat.ble (Nat.succ m) n) (f m) .fail) (fun _ => .fail) i
theorem ltI_eq (i : Int) (n : Nat) (f : Nat → R) : ltI i n f = bif decide (0 ≤ i) && decide (i < (n : Int)) then f i.toNat else .fail := by
 cases i with
 | ofNat m =>
   show BR (Nat.ble (m + 1) n) (f m) .fail = _
   rw [BR_eq]
   have h1 : decide (0 ≤ Int.ofNat m) = true := by simp
   rw [h1, Bool.true_and]
   congr 1
   rw [Bool.eq_iff_iff, decide_eq_true_eq]
   constructor
   · intro h; have := Nat.le_of_ble_eq_true h; simp; omega
   · intro h; apply Nat.ble_eq_true_of_le; simp at h; omega
 | negSucc m => rfl
def kIdxA (t : TypeId) (x i : Operand) : OpK := fun P X o ev ob nb k => match ev x, ev i with
 | .sl q z o' n c, .ki _ iv => oN (iaK P t) .fail fun z' => BR (Nat.beq z' z) (ltI iv n fun m => fN (Nat.add o' m) fun a => k (.rp q a z 0) ob nb) .fail
 | _, _ => kGen P X o ev ob nb k
def isSl (P : Program) (t : TypeId) : Bool := match P.underlying t with
 | some (.slice _) => true
 | _ => false
def isSt (P : Program) (t : TypeId) : Bool := match P.underlying t with
 | some .string => true
 | _ => false
def kLen (t : TypeId) (x : Operand) : OpK := fun P X o ev ob nb k => match ev x with
 | .sl _ _ _ n _ => BR (isSl P t) (k (.ki .i64 (.ofNat n)) ob nb) .fail
 | _ => kGen P X o ev ob nb k
def kExtract (x : Operand) (i : Nat) : OpK := fun P X o ev ob nb k => match ev x with
 | .tup l => nthR l i .fail fun s => k (nK s) ob nb
 | _ => kGen P X o ev ob nb k
def kAlloc (t : TypeId) : OpK := fun P X o ev ob nb k => kRes X (match zeroOf P t with
    | some cs => .ret ⟨.ptr nb 0, ⟨[(nb, some (.cells t cs))], [nb]⟩⟩
    | none => .fail) ob nb k
def kBox (t : TypeId) (x : Operand) : OpK := fun P X o ev ob nb k => kRes X (match cellsSV (nrm (ev x)) with
    | some cs => .ret ⟨.ptr nb 0, ⟨[(nb, some (.cells t cs))], [nb]⟩⟩
    | none => .fail) ob nb k
def kBuild (t : TypeId) (ps : Array (Nat × Operand)) : OpK := fun P X o ev ob nb k => kRes X ((buildSV P t (ps.toList.map fun p => (p.1, nrm (ev p.2)))).bind fun s => .ret ⟨s, .none⟩) ob nb k
def kUn (op : UnOp) (x : Operand) : OpK := fun P X o ev ob nb k => match op, ev x with
 | .not, .kb b => k (.kb (nB b)) ob nb
 | _, _ => kGen P X o ev ob nb k
def kField (t : TypeId) (x : Operand) (f : Nat) : OpK := fun P X o ev ob nb k => kRes X ((fieldSV P t (ev x) f).bind retN) ob nb k
def kIndex (t : TypeId) (x i : Operand) : OpK := fun P X o ev ob nb k => kRes X ((indexV P t (ev x) (ev i)).bind retN) ob nb k
def kLookup (t : TypeId) (x i : Operand) (ok : Bool) : OpK := fun P X o ev ob nb k => kRes X ((lookupSV P (getO ob) t (ev x) (nrm (ev i)) ok).bind retN) ob nb k
def kBuiltin (c : Call) (b : Builtin) : OpK := fun P X o ev ob nb k => match b, c.args.toList, c.argTypes.toList with
 | .len, [x], [t] => kLen t x P X o ev ob nb k
 | _, _, _ => kGen P X o ev ob nb k
def kCall (c : Call) : OpK := match c.callee with
 | .value f => kFn f c.args.toList
 | .builtin b => kBuiltin c b
 | _ => kGen
def kRange (t : TypeId) (x : Operand) : OpK := fun P X o ev ob nb k => kRes X (rangeC P (getO ob) nb t (ev x)) ob nb k
def kEntry (x : Operand) : OpK := fun P X o ev ob nb k => kRes X (entryC (getO ob) (ev x)) ob nb k
def opG (o : Oper) : OpK := match o.op with
 | .move x => kMove x
 | .assign x => kMove x
 | .pick c a b => kPick c a b
 | .alloc t => kAlloc t
 | .box t x => kBox t x
 | .build t ps => kBuild t ps
 | .load t x => kLoad t x
 | .store t p x => kStore t p x
 | .nilCheck x => kNil x
 | .binOp op t x y _ => kBin op x y
 | .unOp op _ x => kUn op x
 | .fieldAddr s x f => kFieldAddr s x f
 | .field t x f => kField t x f
 | .indexAddr t x i => kIdxA t x i
 | .index t x i => kIndex t x i
 | .lookup t x i ok => kLookup t x i ok
 | .extract x i => kExtract x i
 | .call c => kCall c
 | .range t x => kRange t x
 | .entry x => kEntry x
 | .next _ _ => fun _ _ _ _ _ _ _ => .fail
 | _ => kGen
def IRef (I : II) (J : Nat → Nat → FuncId → List SV → HS → T (SV × HS)) : Prop :=
 ∀ top base f al ob nb k post, FOk ob nb → TopOk top nb → (I top base f al ob nb k).holds post → (J top base f al ⟨getO ob, nb⟩).holds (KP post k)
structure XRef (X : EX) (E : CEnv) : Prop where
 I : IRef X.I E.I
 top : X.top = E.top
 base : X.base = E.base
 W : X.W = E.win
 K : ∀ rid i, E.K rid i = none
theorem lift_ret {E : CEnv} {ob : OB} {nb : Nat} {k : KK} {post : SV × HD → Prop} (hT : TopOk E.top nb) {s : SV} (h : (k s ob nb).holds post) : (lift E ⟨getO ob, nb⟩ (.ret ⟨s, .none⟩)).holds (KP post k) := by
 have hc : effC E ⟨getO ob, nb⟩ Eff.none = true := effC_none E (h := ⟨getO ob, nb⟩) hT.1
 show T.holds _ (bif effC E ⟨getO ob, nb⟩ Eff.none then T.ret (s, (⟨getO ob, nb⟩ : HS).eff .none) else .fail)
 rw [hc]
 exact ⟨ob, rfl, h⟩
section
variable {E : CEnv} {X : EX} {o : Oper} {ev : Ev} {ob : OB} {nb : Nat} {k : KK} {post : SV × HD → Prop} {rid i : Nat}
theorem kGen_ref (hX : XRef X E) (hT : TopOk E.top nb) (h : (kGen E.P X o ev ob nb k).holds post) : (lift E ⟨getO ob, nb⟩ (cxE E.P ev (getO ob) nb o)).holds (KP post k) :=
 kRes_ref hX.top hX.base hT h
theorem kLoad_ref (hX : XRef X E) (hT : TopOk E.top nb) {t : TypeId} {x : Operand} (ho : o.op = .load t x) (h : (kLoad t x E.P X o ev ob nb k).holds post) : (lift E ⟨getO ob, nb⟩ (cxE E.P ev (getO ob) nb o)).holds (KP post k) := by
 have gen := kGen_ref (o := o) (ev := ev) (ob := ob) (k := k) (post := post) hX hT
 have eC : cxE E.P ev (getO ob) nb o = (loadV E.P (getO ob) t (ev x)).bind retN := by unfold cxE; simp only [ho]
 have fin : ∀ s, loadV E.P (getO ob) t (ev x) = .ret s → (k (nK s) ob nb).holds post → (lift E ⟨getO ob, nb⟩ (cxE E.P ev (getO ob) nb o)).holds (KP post k) := by
  intro s hs hk
  rw [eC, hs]
  exact lift_ret hT hk
 unfold kLoad at h
 split at h
 · rename_i i off hx
   split at h
   · rename_i t' cs hg
     rw [oB_eq] at h
     unfold ldK at h
     cases ha : aggT E.P t with
     | none => simp only [ha] at h; exact h.elim
     | some b =>
       cases hz : szOf E.P t with
       | none => simp only [ha, hz] at h; exact h.elim
       | some n =>
         simp only [ha, hz] at h
         cases b with
         | true => exact gen h
         | false =>
           rw [cond_false, nthR_eq] at h
           split at h
           · rename_i s hs
             exact fin s (by simp only [loadV, hx, loadSV, ha, hz, hg, hs]) h
           · exact h.elim
   · exact h.elim
 · rename_i i idx sz off hx
   split at h
   · rename_i t' sz' len tr ex hg
     rw [oB_eq] at h
     unfold ldK at h
     cases ha : aggT E.P t with
     | none => simp only [ha] at h; exact h.elim
     | some b =>
       cases hz : szOf E.P t with
       | none => simp only [ha, hz] at h; exact h.elim
       | some n =>
         simp only [ha, hz] at h
         cases b with
         | true =>
           unfold szK at h
           simp only [hz, cond_true] at h
           rw [BR_eq] at h
           cases hb : (Nat.beq sz sz' && (Nat.ble (off + n) sz && Nat.blt idx len)) with
           | false => rw [hb] at h; exact h.elim
           | true =>
             rw [hb, cond_true, trListF_eq] at h
             exact fin (.agg (trList tr (idx * sz + off) n)) (by simp only [loadV, hx, ha, hz, hg, hb]; rfl) h
         | false =>
           rw [cond_false, BR_eq] at h
           cases hb : (Nat.beq sz sz' && (Nat.blt off sz && Nat.blt idx len)) with
           | false => rw [hb] at h; exact h.elim
           | true =>
             rw [hb, cond_true, getS_get] at h
             exact fin _ (by simp only [loadV, hx, ha, hz, hg, hb]; rfl) h
   · exact gen h
 · exact gen h
theorem kStore_ref (hX : XRef X E) (hT : TopOk E.top nb) (hF : FOk ob nb) {t : TypeId} {p x : Operand} (ho : o.op = .store t p x) (h : (kStore t p x E.P X o ev ob nb k).holds post) : (lift E ⟨getO ob, nb⟩ (cxE E.P ev (getO ob) nb o)).holds (KP post k) := by
 have gen := kGen_ref (o := o) (ev := ev) (ob := ob) (k := k) (post := post) hX hT
 have eC : cxE E.P ev (getO ob) nb o = storeV E.P (getO ob) t (ev p) (ev x) := by unfold cxE; simp only [ho]
 unfold kStore at h
 split at h
 · rename_i i off hp
   split at h
   · rename_i t' cs hg
     rw [BR_eq] at h
     cases h1 : isOne E.P t with
     | false => rw [h1] at h; exact gen h
     | true =>
       rw [h1, cond_true, BR_eq] at h
       cases h2 : oneSV (ev x) with
       | false => rw [h2] at h; exact gen h
       | true =>
         rw [h2, cond_true, BR_eq] at h
         cases h3 : (Nat.ble X.base i && Nat.ble (off + 1) cs.length) with
         | false => rw [h3] at h; exact h.elim
         | true =>
           rw [h3, cond_true] at h
           simp only [Bool.and_eq_true] at h3
           have hz : szOf E.P t = some 1 := by
            unfold isOne at h1
            split at h1
            · rename_i n hn; rw [hn, Nat.eq_of_beq_eq_true h1]
            · cases h1
           have hc : cellsSV (ev x) = some [ev x] := by
            unfold cellsSV
            split
            · rename_i l hl; rw [hl] at h2; cases h2
            · rw [h2]; rfl
           have hle : off + 1 ≤ cs.length := Nat.le_of_ble_eq_true h3.2
           have hs : storeV E.P (getO ob) t (ev p) (ev x) = .ret ⟨.junk, ⟨[(i, some (.cells t' (splice cs off [ev x])))], []⟩⟩ := by
            simp only [storeV, hp, storeSV, hz, hc, hg, List.length_singleton, List.all_cons, List.all_nil, Bool.and_true, h2, h3.2]
            rfl
           rw [eC, hs]
           have hi : i < nb := by
            rcases Nat.lt_or_ge i nb with h | h
            · exact h
            · rw [hF i h] at hg; cases hg
           have hef : effC E ⟨getO ob, nb⟩ ⟨[(i, some (.cells t' (splice cs off [ev x])))], []⟩ = true := by
            simp only [effC, seqFrom, List.length_nil, Nat.add_zero, List.all_cons, List.all_nil, Bool.and_true, Bool.true_and, Bool.and_eq_true]
            refine ⟨Nat.ble_eq_true_of_le hT.1, ?_, ?_⟩
            · rw [Nat.blt_eq]; exact hi
            · rw [← hX.base]; exact h3.1
           show T.holds _ (bif effC E ⟨getO ob, nb⟩ ⟨[(i, some (.cells t' (splice cs off [ev x])))], []⟩ then T.ret (SV.junk, (⟨getO ob, nb⟩ : HS).eff ⟨[(i, some (.cells t' (splice cs off [ev x])))], []⟩) else .fail)
           rw [hef]
           refine ⟨_, ?_, h⟩
           funext j
           have := hT.1
           have := hT.2
           rw [getO_set j (by omega), lset_eq cs off _ hle]
           show (List.lookup j [(i, some (Ob.cells t' (splice cs off [ev x])))]).getD (getO ob j) = _
           by_cases e : j = i
           · subst e; simp [List.lookup]
           · have : (j == i) = false := by simpa using e
             simp [List.lookup, this, e]
   · exact h.elim
 · exact gen h
theorem binK2_ref {op : BinOp} {kk : IntKind} {a b : Int} {gen : R} {c : SV → R} (h : (binK2 op kk a b gen c).holds post) : gen.holds post ∨ ∃ s, kiV op kk a b = .ret s ∧ (c s).holds post := by
 have ari : ∀ z : Int, (ariK kk z c).holds post → (decide (lo kk ≤ z) && decide (z ≤ hi kk)) = true ∧ (c (.ki kk z)).holds post := by
  intro z h
  unfold ariK at h
  rw [fI_eq, BR_eq, lssI_eq] at h
  cases h1 : decide (z < lo kk) with
  | true => rw [h1] at h; exact h.elim
  | false =>
    rw [h1, cond_false, BR_eq, lssI_eq] at h
    cases h2 : decide (hi kk < z) with
    | true => rw [h2] at h; exact h.elim
    | false =>
      rw [h2, cond_false] at h
      simp only [decide_eq_false_iff_not, Int.not_lt] at h1 h2
      exact ⟨by simp [h1, h2], h⟩
 unfold binK2 at h
 split at h
 · obtain ⟨h1, h2⟩ := ari _ h
   right
   refine ⟨_, ?_, h2⟩
   have h1 : (decide (lo kk ≤ a + b) && decide (a + b ≤ hi kk)) = true := h1
   simp only [kiV, h1]; rfl
 · obtain ⟨h1, h2⟩ := ari _ h
   right
   refine ⟨_, ?_, h2⟩
   have h1 : (decide (lo kk ≤ a - b) && decide (a - b ≤ hi kk)) = true := h1
   simp only [kiV, h1]; rfl
 · right; exact ⟨_, by rw [eqI_eq]; rfl, h⟩
 · right; exact ⟨_, by rw [nB_eq, eqI_eq]; rfl, h⟩
 · right; exact ⟨_, by rw [lssI_eq]; rfl, h⟩
 · right; exact ⟨_, by rw [lssI_eq]; rfl, h⟩
 · right
   refine ⟨_, ?_, h⟩
   rw [nB_eq, lssI_eq]
   simp only [kiV]
   congr 2
   rw [Bool.eq_iff_iff]; simp
 · right
   refine ⟨_, ?_, h⟩
   rw [nB_eq, lssI_eq]
   simp only [kiV]
   congr 2
   rw [Bool.eq_iff_iff]; simp
 · exact .inl h
theorem opG_ref (hX : XRef X E) (hT : TopOk E.top nb) (hF : FOk ob nb) (h : (opG o E.P X o ev ob nb k).holds post) : (cxOp E rid i ev ⟨getO ob, nb⟩ o).holds (KP post k) := by
 have gen := kGen_ref (o := o) (ev := ev) (ob := ob) (k := k) (post := post) hX hT
 cases ho : o.op
 case move x =>
  have h : (kMove x E.P X o ev ob nb k).holds post := by simpa only [opG, ho] using h
  have e : cxOp E rid i ev ⟨getO ob, nb⟩ o = lift E ⟨getO ob, nb⟩ (.ret ⟨ev x, .none⟩) := by simp only [cxOp, ho, cxE, sxE, sxOp]
  rw [e]; exact lift_ret hT h
 case assign x =>
  have h : (kMove x E.P X o ev ob nb k).holds post := by simpa only [opG, ho] using h
  have e : cxOp E rid i ev ⟨getO ob, nb⟩ o = lift E ⟨getO ob, nb⟩ (.ret ⟨ev x, .none⟩) := by simp only [cxOp, ho, cxE, sxE, sxOp]
  rw [e]; exact lift_ret hT h
 case pick c a b =>
  have h : (kPick c a b E.P X o ev ob nb k).holds post := by simpa only [opG, ho] using h
  have e : cxOp E rid i ev ⟨getO ob, nb⟩ o = lift E ⟨getO ob, nb⟩ (cxE E.P ev (getO ob) nb o) := by simp only [cxOp, ho]
  unfold kPick at h
  split at h
  · rename_i q hq
    have e2 : cxE E.P ev (getO ob) nb o = .ret ⟨bif q then ev a else ev b, .none⟩ := by
        simp only [cxE, ho, sxE, sxOp, hq]
        cases q <;> rfl
    rw [e, e2]
    rw [BR_eq] at h
    refine lift_ret hT ?_
    cases q <;> exact h
  · rw [e]; exact gen h
 case alloc t =>
  have h : (kAlloc t E.P X o ev ob nb k).holds post := by simpa only [opG, ho] using h
  have e : cxOp E rid i ev ⟨getO ob, nb⟩ o = lift E ⟨getO ob, nb⟩ (match zeroOf E.P t with
   | some cs => .ret ⟨.ptr nb 0, ⟨[(nb, some (.cells t cs))], [nb]⟩⟩
   | none => .fail) := by
   simp only [cxOp, ho, cxE, sxE, sxOp]
   rfl
  rw [e]; exact kRes_ref hX.top hX.base hT h
 case box t x =>
  have h : (kBox t x E.P X o ev ob nb k).holds post := by simpa only [opG, ho] using h
  have e : cxOp E rid i ev ⟨getO ob, nb⟩ o = lift E ⟨getO ob, nb⟩ (match cellsSV (nrm (ev x)) with
   | some cs => .ret ⟨.ptr nb 0, ⟨[(nb, some (.cells t cs))], [nb]⟩⟩
   | none => .fail) := by
   simp only [cxOp, ho, cxE, sxE, sxOp]
   rfl
  rw [e]; exact kRes_ref hX.top hX.base hT h
 case build t ps =>
  have h : (kBuild t ps E.P X o ev ob nb k).holds post := by simpa only [opG, ho] using h
  have e : cxOp E rid i ev ⟨getO ob, nb⟩ o = lift E ⟨getO ob, nb⟩ ((buildSV E.P t (ps.toList.map fun p => (p.1, nrm (ev p.2)))).bind fun s => .ret ⟨s, .none⟩) := by simp only [cxOp, ho, cxE, sxE, sxOp]
  rw [e]; exact kRes_ref hX.top hX.base hT h
 case load t x =>
  have h : (kLoad t x E.P X o ev ob nb k).holds post := by simpa only [opG, ho] using h
  have e : cxOp E rid i ev ⟨getO ob, nb⟩ o = lift E ⟨getO ob, nb⟩ (cxE E.P ev (getO ob) nb o) := by simp only [cxOp, ho]
  rw [e]; exact kLoad_ref hX hT ho h
 case store t p x =>
  have h : (kStore t p x E.P X o ev ob nb k).holds post := by simpa only [opG, ho] using h
  have e : cxOp E rid i ev ⟨getO ob, nb⟩ o = lift E ⟨getO ob, nb⟩ (cxE E.P ev (getO ob) nb o) := by simp only [cxOp, ho]
  rw [e]; exact kStore_ref hX hT hF ho h
 case nilCheck x =>
  have h : (kNil x E.P X o ev ob nb k).holds post := by simpa only [opG, ho] using h
  have e : cxOp E rid i ev ⟨getO ob, nb⟩ o = lift E ⟨getO ob, nb⟩ (cxE E.P ev (getO ob) nb o) := by simp only [cxOp, ho]
  rw [e]
  unfold kNil at h
  split at h
  · rename_i q f hx
    have e2 : cxE E.P ev (getO ob) nb o = .ret ⟨.ptr q f, .none⟩ := by simp only [cxE, ho, sxE, hx]
    rw [e2]; exact lift_ret hT h
  · rename_i q y z f hx
    have e2 : cxE E.P ev (getO ob) nb o = .ret ⟨.rp q y z f, .none⟩ := by simp only [cxE, ho, sxE, hx]
    rw [e2]; exact lift_ret hT h
  · exact gen h
 case binOp op t x y ty =>
  have h : (kBin op x y E.P X o ev ob nb k).holds post := by simpa only [opG, ho] using h
  have e : cxOp E rid i ev ⟨getO ob, nb⟩ o = lift E ⟨getO ob, nb⟩ (cxE E.P ev (getO ob) nb o) := by simp only [cxOp, ho]
  rw [e]
  unfold kBin at h
  rw [BR_eq] at h
  cases hn : isNK y with
  | true => rw [hn] at h; exact gen h
  | false =>
    rw [hn, cond_false] at h
    have hnil : isNilC y = none := by
     unfold isNK at hn
     split at hn
     · cases hn
     · assumption
    split at h
    · rename_i kk a kk' b hx hy
      rw [BR_eq] at h
      cases hk : sameK kk kk' with
      | false => rw [hk] at h; exact h.elim
      | true =>
        rw [hk, cond_true] at h
        have hk : kk = kk' := by simpa [sameK] using hk
        subst hk
        rcases binK2_ref h with h | ⟨s, hs, h⟩
        · exact gen h
        · have e2 : cxE E.P ev (getO ob) nb o = .ret ⟨nK s, .none⟩ := by
           simp only [cxE, ho, hnil, hx, hy, binV, if_true, hs]
           rfl
          have e3 : nK s = s := by
           unfold kiV at hs
           split at hs <;> (try simp only [Bool.cond_eq_ite] at hs) <;> (try split at hs) <;> first | (cases hs; done) | (injection hs with hs; subst hs; rfl)
          rw [e2, e3]; exact lift_ret hT h
    · exact gen h
 case unOp op t x =>
  have h : (kUn op x E.P X o ev ob nb k).holds post := by simpa only [opG, ho] using h
  have e : cxOp E rid i ev ⟨getO ob, nb⟩ o = lift E ⟨getO ob, nb⟩ (cxE E.P ev (getO ob) nb o) := by simp only [cxOp, ho]
  rw [e]
  unfold kUn at h
  split at h
  · rename_i b hx
    have e2 : cxE E.P ev (getO ob) nb o = .ret ⟨.kb (!b), .none⟩ := by
     simp only [cxE, ho, sxE, sxOp, hx, unSV]
     rfl
    rw [e2]
    rw [nB_eq] at h
    exact lift_ret hT h
  · exact gen h
 case fieldAddr s x f =>
  have h : (kFieldAddr s x f E.P X o ev ob nb k).holds post := by simpa only [opG, ho] using h
  have e : cxOp E rid i ev ⟨getO ob, nb⟩ o = lift E ⟨getO ob, nb⟩ (cxE E.P ev (getO ob) nb o) := by simp only [cxOp, ho]
  rw [e]
  have eC : cxE E.P ev (getO ob) nb o = (fieldAddrSV E.P s f (nrm (ev x))).bind fun s => .ret ⟨s, .none⟩ := by simp only [cxE, ho, sxE, sxOp]
  have hfa : ∀ d, faK E.P s f = some d → ∃ fl n, fieldOf E.P s f = some fl ∧ szOf E.P fl.type = some (n + 1) ∧ fl.offset = d := by
   intro d hd
   unfold faK at hd
   split at hd
   · rename_i fl hfl
     split at hd
     · rename_i n hn
       injection hd with hd
       exact ⟨fl, n, hfl, hn, hd⟩
     · cases hd
   · cases hd
  unfold kFieldAddr at h
  split at h
  · rename_i q off hx
    rw [oN_eq] at h
    split at h
    · exact h.elim
    · rename_i d hd
      obtain ⟨fl, n, h1, h2, rfl⟩ := hfa d hd
      rw [fN_eq] at h
      have e2 : cxE E.P ev (getO ob) nb o = .ret ⟨.ptr q (off + fl.offset), .none⟩ := by
       rw [eC, hx]
       simp only [nrm, fieldAddrSV, h1, h2]
       rfl
      rw [e2]; exact lift_ret hT h
  · rename_i q idx sz off hx
    rw [oN_eq] at h
    split at h
    · exact h.elim
    · rename_i d hd
      obtain ⟨fl, n, h1, h2, rfl⟩ := hfa d hd
      rw [fN_eq] at h
      have e2 : cxE E.P ev (getO ob) nb o = .ret ⟨.rp q idx sz (off + fl.offset), .none⟩ := by
       rw [eC, hx]
       simp only [nrm, fieldAddrSV, h1, h2]
       rfl
      rw [e2]; exact lift_ret hT h
  · exact gen h
 case field t x f =>
  have h : (kField t x f E.P X o ev ob nb k).holds post := by simpa only [opG, ho] using h
  have e : cxOp E rid i ev ⟨getO ob, nb⟩ o = lift E ⟨getO ob, nb⟩ ((fieldSV E.P t (ev x) f).bind retN) := by simp only [cxOp, ho, cxE]
  rw [e]; exact kRes_ref hX.top hX.base hT h
 case indexAddr t x j =>
  have h : (kIdxA t x j E.P X o ev ob nb k).holds post := by simpa only [opG, ho] using h
  have e : cxOp E rid i ev ⟨getO ob, nb⟩ o = lift E ⟨getO ob, nb⟩ (cxE E.P ev (getO ob) nb o) := by simp only [cxOp, ho]
  rw [e]
  unfold kIdxA at h
  split at h
  · rename_i q z o' n c kk iv hx hi
    rw [oN_eq] at h
    split at h
    · exact h.elim
    · rename_i z' hz'
      rw [BR_eq] at h
      cases hz : Nat.beq z' z with
      | false => rw [hz] at h; exact h.elim
      | true =>
        rw [hz, cond_true, ltI_eq] at h
        cases hb : (decide (0 ≤ iv) && decide (iv < (n : Int))) with
        | false => rw [hb] at h; exact h.elim
        | true =>
          rw [hb, cond_true, fN_eq] at h
          have e2 : cxE E.P ev (getO ob) nb o = .ret ⟨.rp q (o' + iv.toNat) z 0, .none⟩ := by
           unfold iaK at hz'
           split at hz'
           · rename_i et hu
             have : indexAddrV E.P t (ev x) (ev j) = some (.ret (.rp q (o' + iv.toNat) z 0)) := by
              simp only [indexAddrV, hx, hi, ixOf, hu, hz', hz, hb]
              rfl
             simp only [cxE, ho, this]
             rfl
           · cases hz'
          rw [e2]; exact lift_ret hT h
  · exact gen h
 case index t x j =>
  have h : (kIndex t x j E.P X o ev ob nb k).holds post := by simpa only [opG, ho] using h
  have e : cxOp E rid i ev ⟨getO ob, nb⟩ o = lift E ⟨getO ob, nb⟩ ((indexV E.P t (ev x) (ev j)).bind retN) := by simp only [cxOp, ho, cxE]
  rw [e]; exact kRes_ref hX.top hX.base hT h
 case lookup t x j ok =>
  have h : (kLookup t x j ok E.P X o ev ob nb k).holds post := by simpa only [opG, ho] using h
  have e : cxOp E rid i ev ⟨getO ob, nb⟩ o = lift E ⟨getO ob, nb⟩ ((lookupSV E.P (getO ob) t (ev x) (nrm (ev j)) ok).bind retN) := by simp only [cxOp, ho, cxE]
  rw [e]; exact kRes_ref hX.top hX.base hT h
 case extract x j =>
  have h : (kExtract x j E.P X o ev ob nb k).holds post := by simpa only [opG, ho] using h
  have e : cxOp E rid i ev ⟨getO ob, nb⟩ o = lift E ⟨getO ob, nb⟩ (cxE E.P ev (getO ob) nb o) := by simp only [cxOp, ho]
  rw [e]
  unfold kExtract at h
  split at h
  · rename_i l hx
    rw [nthR_eq] at h
    split at h
    · rename_i s hs
      have e2 : cxE E.P ev (getO ob) nb o = .ret ⟨nK s, .none⟩ := by
       simp only [cxE, ho, hx, extractSV, hs]
       rfl
      rw [e2]; exact lift_ret hT h
    · exact h.elim
  · exact gen h
 case call c =>
  have h : (kCall c E.P X o ev ob nb k).holds post := by simpa only [opG, ho] using h
  unfold kCall at h
  obtain ⟨callee, args, argTypes⟩ := c
  cases callee with
  | value f =>
    have h : (kFn f args.toList E.P X o ev ob nb k).holds post := h
    unfold kFn at h
    simp only [cxOp, ho, hX.K]
    split at h
    · rename_i fk caps hf
      rw [mapEv_eq] at h
      simp only [hf]
      rw [hX.top, hX.base] at h
      exact hX.I _ _ _ _ _ _ _ _ hF hT h
    · exact h.elim
  | invoke r m =>
    have e : cxOp E rid i ev ⟨getO ob, nb⟩ o = lift E ⟨getO ob, nb⟩ (cxE E.P ev (getO ob) nb o) := by simp only [cxOp, ho]
    rw [e]; exact gen h
  | builtin b =>
    have e : cxOp E rid i ev ⟨getO ob, nb⟩ o = lift E ⟨getO ob, nb⟩ (cxE E.P ev (getO ob) nb o) := by simp only [cxOp, ho]
    rw [e]
    have h : (kBuiltin ⟨.builtin b, args, argTypes⟩ b E.P X o ev ob nb k).holds post := h
    unfold kBuiltin at h
    split at h
    · rename_i x t hb ha ht
      have ha : args.toList = [x] := ha
      have ht : argTypes.toList = [t] := ht
      unfold kLen at h
      split at h
      · rename_i q z o' n c hx
        rw [BR_eq] at h
        cases hs : isSl E.P t with
        | false => rw [hs] at h; exact h.elim
        | true =>
          rw [hs, cond_true] at h
          have e2 : cxE E.P ev (getO ob) nb o = .ret ⟨.ki .i64 n, .none⟩ := by
           unfold isSl at hs
           split at hs
           · rename_i et hu
             have h1 : args = ⟨[x]⟩ := Array.toList_inj.1 ha
             have h2 : argTypes = ⟨[t]⟩ := Array.toList_inj.1 ht
             subst h1; subst h2
             simp only [cxE, ho, lenV, hu, hx]
           · cases hs
          rw [e2]; exact lift_ret hT h
      · exact gen h
    · exact gen h
 case range t x =>
  have h : (kRange t x E.P X o ev ob nb k).holds post := by simpa only [opG, ho] using h
  have e : cxOp E rid i ev ⟨getO ob, nb⟩ o = lift E ⟨getO ob, nb⟩ (rangeC E.P (getO ob) nb t (ev x)) := by simp only [cxOp, ho]
  rw [e]; exact kRes_ref hX.top hX.base hT h
 case entry x =>
  have h : (kEntry x E.P X o ev ob nb k).holds post := by simpa only [opG, ho] using h
  have e : cxOp E rid i ev ⟨getO ob, nb⟩ o = lift E ⟨getO ob, nb⟩ (entryC (getO ob) (ev x)) := by simp only [cxOp, ho]
  rw [e]; exact kRes_ref hX.top hX.base hT h
 case next a b =>
  have h : (T.fail : R).holds post := by simpa only [opG, ho] using h
  exact h.elim
 all_goals
  have h : (kGen E.P X o ev ob nb k).holds post := by simpa only [opG, ho] using h
  have e : cxOp E rid i ev ⟨getO ob, nb⟩ o = lift E ⟨getO ob, nb⟩ (cxE E.P ev (getO ob) nb o) := by simp only [cxOp, ho]
  rw [e]
  exact gen h
end
end
end Rx
