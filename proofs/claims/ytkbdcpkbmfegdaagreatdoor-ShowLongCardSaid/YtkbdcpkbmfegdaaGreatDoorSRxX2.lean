/- Rx, part X2: operations, for the kernel. -/
import Derived.Test.YtkbdcpkbmfegdaaGreatDoorSRxX1
set_option linter.unusedSectionVars false
set_option linter.unusedSimpArgs false
set_option linter.unusedVariables false
namespace Rx
open Go
variable [Glob]
noncomputable section
def Je (l : List SV) : Nat -> R -> (SV -> R) -> R := @List.rec SV (fun _ => Nat -> R -> (SV -> R) -> R) (fun _ f _ => f) (fun s _ ih n f k => @Nat.rec (fun _ => R) (k s) (fun m _ => ih m f k) n) l
theorem xS : ∀ (l : List SV) (n : Nat) (f : R) (k : SV -> R), Je l n f k = match l[n]? with
  | some s => k s
  | none => f
 | [], _, _, _ => rfl
 | s :: l, 0, _, _ => rfl
 | s :: l, n + 1, f, k => by
   show Je l n f k = _
   rw [xS l n f k]
   simp
theorem y9 {α : Type} (d : α) : ∀ (t : Tr α) (n : Nat), xk d t n = t.get d n
 | .nil, n => rfl
 | .node l v r, n => by
   rw [eG]
   simp only [Tr.get]
   by_cases h : n = 0
   · subst h; rfl
   · rw [eU h, cond_false, if_neg h]
     by_cases h2 : n % 2 = 1
     · rw [nW h2, cond_true, if_pos h2, y9 d l]
     · rw [eU h2, cond_false, if_neg h2, y9 d r]
theorem ze (t : Tr SV) (n : Nat) : gX t n = t.get .junk n := by rw [RB]; exact y9 _ t n
def nH (tr : Tr SV) (n : Nat) : Nat -> List SV := @Nat.rec (fun _ => Nat -> List SV) (fun _ => []) (fun _ ih k => gX tr k :: ih (Nat.succ k)) n
theorem nI (tr : Tr SV) : ∀ (n k : Nat), nH tr n k = dY tr k n
 | 0, _ => rfl
 | n + 1, k => by
   show gX tr k :: nH tr n (Nat.succ k) = _
   rw [nI tr n, ze]
   rfl
def Wy (l : List SV) : Nat -> SV -> List SV := @List.rec SV (fun _ => Nat -> SV -> List SV) (fun _ _ => []) (fun x l ih n v => @Nat.rec (fun _ => List SV) (v :: l) (fun m _ => x :: ih m v) n) l
theorem Ot : ∀ (l : List SV) (n : Nat) (v : SV), n + 1 <= l.length -> Wy l n v = splice l n [v]
 | [], _, _, h => by simp at h
 | x :: l, 0, v, _ => by simp [splice]; rfl
 | x :: l, n + 1, v, h => by
   show x :: Wy l n v = _
   rw [Ot l n v (by simpa using h)]
   simp [splice]
def oB (o : Option Bool) (n a b : R) : R := @Option.rec Bool (fun _ => R) n (fun q => BR q a b) o
theorem OC (o : Option Bool) (n a b : R) : oB o n a b = match o with
  | none => n
  | some q => bif q then a else b := by
 cases o
 · rfl
 · exact dh _ _ _
def oN (o : Option Nat) (n : R) (f : Nat -> R) : R := @Option.rec Nat (fun _ => R) n f o
theorem SG (o : Option Nat) (n : R) (f : Nat -> R) : oN o n f = match o with
  | none => n
  | some q => f q := by cases o <;> rfl
def ldK (P : Program) (t : TypeId) : Option Bool := match nQ P t, bg P t with
 | some b, some _ => some b
 | _, _ => none
def Oj (P : Program) (t : TypeId) : Bool := match bg P t with
 | some n => Nat.beq n 1
 | none => false
def aA : OpK := fun P X o ev ob nb k => qR X (cxE P ev (ay ob) nb o) ob nb k
def Dq (x : Operand) : OpK := fun P X o ev ob nb k => k (ev x) ob nb
def RY (x : Operand) : OpK := fun P X o ev ob nb k => match ev x with
 | .ptr i f => k (.ptr i f) ob nb
 | .rp i y z f => k (.rp i y z f) ob nb
 | _ => aA P X o ev ob nb k
def IL (c a b : Operand) : OpK := fun P X o ev ob nb k => match ev c with
 | .kb q => BR q (k (ev a) ob nb) (k (ev b) ob nb)
 | _ => aA P X o ev ob nb k
def szK (P : Program) (t : TypeId) (f : Nat -> R) : R := match bg P t with
 | some n => f n
 | none => .fail
def Dp (t : TypeId) (x : Operand) : OpK := fun P X o ev ob nb k => match ev x with
 | .ptr i off => match ay ob i with
   | some (.cells _ cs) => oB (ldK P t) .fail (aA P X o ev ob nb k) (Je cs off .fail fun s => k (nK s) ob nb)
   | _ => .fail
 | .rp i idx sz off => match ay ob i with
   | some (.vec _ sz' len tr _) => oB (ldK P t) .fail
       (szK P t fun n => BR (Nat.beq sz sz' && (Nat.ble (off + n) sz && Nat.blt idx len)) (k (.agg (nH tr n (Nat.add (Nat.mul idx sz) off))) ob nb) .fail)
       (BR (Nat.beq sz sz' && (Nat.blt off sz && Nat.blt idx len)) (k (nK (gX tr (Nat.add (Nat.mul idx sz) off))) ob nb) .fail)
   | _ => aA P X o ev ob nb k
 | _ => aA P X o ev ob nb k
def uZ (t : TypeId) (p x : Operand) : OpK := fun P X o ev ob nb k => match ev p with
 | .ptr i off => match ay ob i with
   | some (.cells t' cs) => BR (Oj P t) (BR (eB (ev x)) (BR (Nat.ble X.base i && Nat.ble (off + 1) cs.length) (k .junk (lX ob i (some (.cells t' (Wy cs off (ev x))))) nb) .fail) (aA P X o ev ob nb k)) (aA P X o ev ob nb k)
   | _ => .fail
 | _ => aA P X o ev ob nb k
def faK (P : Program) (s : TypeId) (f : Nat) : Option Nat := match kW P s f with
 | some fl => (match bg P fl.type with
   | some (_ + 1) => some fl.offset
   | _ => none)
 | none => none
def ko (s : TypeId) (x : Operand) (f : Nat) : OpK := fun P X o ev ob nb k => match ev x with
 | .ptr i off => oN (faK P s f) .fail fun d => fN (Nat.add off d) fun a => k (.ptr i a) ob nb
 | .rp i idx sz off => oN (faK P s f) .fail fun d => fN (Nat.add off d) fun a => k (.rp i idx sz a) ob nb
 | _ => aA P X o ev ob nb k
def zD (x y : Int) : Bool := @Int.rec (fun _ => Bool) (fun m => @Int.rec (fun _ => Bool) (fun n => Nat.ble (Nat.succ m) n) (fun _ => false) y) (fun m => @Int.rec (fun _ => Bool) (fun _ => true) (fun n => Nat.ble (Nat.succ n) m) y) x
theorem qB (x y : Int) : zD x y = decide (x < y) := by
 cases x with
 | ofNat m => cases y with
   | ofNat n =>
     show Nat.ble (m + 1) n = _
     rw [Bool.eq_iff_iff, decide_eq_true_eq]
     constructor
     · intro h; have := Nat.le_of_ble_eq_true h; simp; omega
     · intro h; apply Nat.ble_eq_true_of_le; simp at h; omega
   | negSucc n => show false = _; simp; omega
 | negSucc m => cases y with
   | ofNat n => show true = _; simp; omega
   | negSucc n =>
     show Nat.ble (n + 1) m = _
     rw [Bool.eq_iff_iff, decide_eq_true_eq]
     constructor
     · intro h; have := Nat.le_of_ble_eq_true h; omega
     · intro h; apply Nat.ble_eq_true_of_le; omega
def eqI (x y : Int) : Bool := @Int.rec (fun _ => Bool) (fun m => @Int.rec (fun _ => Bool) (fun n => Nat.beq m n) (fun _ => false) y) (fun m => @Int.rec (fun _ => Bool) (fun _ => false) (fun n => Nat.beq m n) y) x
theorem uR (x y : Int) : eqI x y = decide (x = y) := by
 cases x with
 | ofNat m => cases y with
   | ofNat n =>
     show Nat.beq m n = _
     by_cases h : m = n
     · subst h; simp [Nat.beq_refl]
     · rw [eU h]; simp; omega
   | negSucc n => show false = _; simp
 | negSucc m => cases y with
   | ofNat n => show false = _; simp
   | negSucc n =>
     show Nat.beq m n = _
     by_cases h : m = n
     · subst h; simp [Nat.beq_refl]
     · rw [eU h]; simp; omega
def nB (b : Bool) : Bool := @Bool.rec (fun _ => Bool) true false b
theorem Ox (b : Bool) : nB b = !b := by cases b <;> rfl
def Pg (k : IntKind) (z : Int) (c : SV -> R) : R := fI z fun z => BR (zD z (lo k)) .fail (BR (zD (hi k) z) .fail (c (.ki k z)))
def dR (a b : IntKind) : Bool := decide (a = b)
def NA (op : BinOp) (k : IntKind) (x y : Int) (gen : R) (c : SV -> R) : R := match op with
 | .add => Pg k (Int.add x y) c
 | .sub => Pg k (Int.sub x y) c
 | .eql => c (.kb (eqI x y))
 | .neq => c (.kb (nB (eqI x y)))
 | .lss => c (.kb (zD x y))
 | .gtr => c (.kb (zD y x))
 | .leq => c (.kb (nB (zD y x)))
 | .geq => c (.kb (nB (zD x y)))
 | _ => gen
def Wm (y : Operand) : Bool := match FV y with
 | some _ => true
 | none => false
def RL (op : BinOp) (x y : Operand) : OpK := fun P X o ev ob nb k => BR (Wm y) (aA P X o ev ob nb k) (match ev x, ev y with
 | .ki kk a, .ki kk' b => BR (dR kk kk') (NA op kk a b (aA P X o ev ob nb k) fun s => k s ob nb) .fail
 | _, _ => aA P X o ev ob nb k)
def Ou (l : List Operand) (ev : Ev) (c : List SV) : List SV := @List.rec Operand (fun _ => List SV) c (fun x _ ih => ev x :: ih) l
theorem I7 (ev : Ev) (c : List SV) : ∀ l : List Operand, Ou l ev c = l.map ev ++ c
 | [] => rfl
 | x :: l => by
   show ev x :: Ou l ev c = _
   rw [I7 ev c l]; rfl
def kFn (f : Operand) (args : List Operand) : OpK := fun P X o ev ob nb k => match ev f with
 | .fn fk caps => X.I X.top X.base fk (Ou args ev caps) ob nb k
 | _ => .fail
def iaK (P : Program) (t : TypeId) : Option Nat := match P.underlying t with
 | some (.slice e) => bg P e
 | _ => none
def ltI (i : Int) (n : Nat) (f : Nat -> R) : R := @Int.rec (fun _ => R) (fun m => BR (Nat.ble (Nat.succ m) n) (f m) .fail) (fun _ => .fail) i
theorem aad (i : Int) (n : Nat) (f : Nat -> R) : ltI i n f = bif decide (0 <= i) && decide (i < (n : Int)) then f i.toNat else .fail := by
 cases i with
 | ofNat m =>
   show BR (Nat.ble (m + 1) n) (f m) .fail = _
   rw [dh]
   have h1 : decide (0 <= Int.ofNat m) = true := by simp
   rw [h1, Bool.true_and]
   congr 1
   rw [Bool.eq_iff_iff, decide_eq_true_eq]
   constructor
   · intro h; have := Nat.le_of_ble_eq_true h; simp; omega
   · intro h; apply Nat.ble_eq_true_of_le; simp at h; omega
 | negSucc m => rfl
def IK (t : TypeId) (x i : Operand) : OpK := fun P X o ev ob nb k => match ev x, ev i with
 | .sl q z o' n c, .ki _ iv => oN (iaK P t) .fail fun z' => BR (Nat.beq z' z) (ltI iv n fun m => fN (Nat.add o' m) fun a => k (.rp q a z 0) ob nb) .fail
 | _, _ => aA P X o ev ob nb k
def Wn (P : Program) (t : TypeId) : Bool := match P.underlying t with
 | some (.slice _) => true
 | _ => false
def Wq (t : TypeId) (x : Operand) : OpK := fun P X o ev ob nb k => match ev x with
 | .sl _ _ _ n _ => BR (Wn P t) (k (.ki .i64 (.ofNat n)) ob nb) .fail
 | _ => aA P X o ev ob nb k
def oV (x : Operand) (i : Nat) : OpK := fun P X o ev ob nb k => match ev x with
 | .tup l => Je l i .fail fun s => k (nK s) ob nb
 | _ => aA P X o ev ob nb k
def KD (t : TypeId) : OpK := fun P X o ev ob nb k => qR X (match zeroOf P t with
    | some cs => .ret ⟨.ptr nb 0, ⟨[(nb, some (.cells t cs))], [nb]⟩⟩
    | none => .fail) ob nb k
def YL (t : TypeId) (x : Operand) : OpK := fun P X o ev ob nb k => qR X (match dz (nrm (ev x)) with
    | some cs => .ret ⟨.ptr nb 0, ⟨[(nb, some (.cells t cs))], [nb]⟩⟩
    | none => .fail) ob nb k
def KE (t : TypeId) (ps : Array (Nat × Operand)) : OpK := fun P X o ev ob nb k => qR X ((jD P t (ps.toList.map fun p => (p.1, nrm (ev p.2)))).bind fun s => .ret ⟨s, .none⟩) ob nb k
def kUn (op : UnOp) (x : Operand) : OpK := fun P X o ev ob nb k => match op, ev x with
 | .not, .kb b => k (.kb (nB b)) ob nb
 | _, _ => aA P X o ev ob nb k
def KG (t : TypeId) (x : Operand) (f : Nat) : OpK := fun P X o ev ob nb k => qR X ((mQ P t (ev x) f).bind jK) ob nb k
def KH (t : TypeId) (x i : Operand) : OpK := fun P X o ev ob nb k => qR X ((uY P t (ev x) (ev i)).bind jK) ob nb k
def FY (t : TypeId) (x i : Operand) (ok : Bool) : OpK := fun P X o ev ob nb k => qR X ((gu P (ay ob) t (ev x) (nrm (ev i)) ok).bind jK) ob nb k
def oU (c : Call) (b : Builtin) : OpK := fun P X o ev ob nb k => match b, c.args.toList, c.argTypes.toList with
 | .len, [x], [t] => Wq t x P X o ev ob nb k
 | _, _, _ => aA P X o ev ob nb k
def IJ (c : Call) : OpK := match c.callee with
 | .value f => kFn f c.args.toList
 | .builtin b => oU c b
 | _ => aA
def KL (t : TypeId) (x : Operand) : OpK := fun P X o ev ob nb k => qR X (vG P (ay ob) nb t (ev x)) ob nb k
def KF (x : Operand) : OpK := fun P X o ev ob nb k => qR X (yP (ay ob) (ev x)) ob nb k
def opG (o : Oper) : OpK := match o.op with
 | .move x => Dq x
 | .assign x => Dq x
 | .pick c a b => IL c a b
 | .alloc t => KD t
 | .box t x => YL t x
 | .build t ps => KE t ps
 | .load t x => Dp t x
 | .store t p x => uZ t p x
 | .nilCheck x => RY x
 | .binOp op t x y _ => RL op x y
 | .unOp op _ x => kUn op x
 | .fieldAddr s x f => ko s x f
 | .field t x f => KG t x f
 | .indexAddr t x i => IK t x i
 | .index t x i => KH t x i
 | .lookup t x i ok => FY t x i ok
 | .extract x i => oV x i
 | .call c => IJ c
 | .range t x => KL t x
 | .entry x => KF x
 | .next _ _ => fun _ _ _ _ _ _ _ => .fail
 | _ => aA
def IRef (I : II) (J : Nat -> Nat -> FuncId -> List SV -> HS -> T (SV × HS)) : Prop :=
 ∀ top base f al ob nb k post, FOk ob nb -> dJ top nb -> (I top base f al ob nb k).holds post -> (J top base f al ⟨ay ob, nb⟩).holds (KP post k)
structure XRef (X : EX) (E : CEnv) : Prop where
 I : IRef X.I E.I
 top : X.top = E.top
 base : X.base = E.base
 W : X.W = E.win
 K : ∀ rid i, E.K rid i = none
theorem dO {E : CEnv} {ob : OB} {nb : Nat} {k : KK} {post : SV × HD -> Prop} (hT : dJ E.top nb) {s : SV} (h : (k s ob nb).holds post) : (lift E ⟨ay ob, nb⟩ (.ret ⟨s, .none⟩)).holds (KP post k) := by
 have hc : jf E ⟨ay ob, nb⟩ Eff.none = true := uQ E (h := ⟨ay ob, nb⟩) hT.1
 show T.holds _ (bif jf E ⟨ay ob, nb⟩ Eff.none then T.ret (s, (⟨ay ob, nb⟩ : HS).eff .none) else .fail)
 rw [hc]
 exact ⟨ob, rfl, h⟩
section
variable {E : CEnv} {X : EX} {o : Oper} {ev : Ev} {ob : OB} {nb : Nat} {k : KK} {post : SV × HD -> Prop} {rid i : Nat}
theorem zk (hX : XRef X E) (hT : dJ E.top nb) (h : (aA E.P X o ev ob nb k).holds post) : (lift E ⟨ay ob, nb⟩ (cxE E.P ev (ay ob) nb o)).holds (KP post k) :=
 fq hX.top hX.base hT h
theorem PS (hX : XRef X E) (hT : dJ E.top nb) {t : TypeId} {x : Operand} (ho : o.op = .load t x) (h : (Dp t x E.P X o ev ob nb k).holds post) : (lift E ⟨ay ob, nb⟩ (cxE E.P ev (ay ob) nb o)).holds (KP post k) := by
 have gen := zk (o := o) (ev := ev) (ob := ob) (k := k) (post := post) hX hT
 have eC : cxE E.P ev (ay ob) nb o = (fA E.P (ay ob) t (ev x)).bind jK := by unfold cxE; simp only [ho]
 have fin : ∀ s, fA E.P (ay ob) t (ev x) = .ret s -> (k (nK s) ob nb).holds post -> (lift E ⟨ay ob, nb⟩ (cxE E.P ev (ay ob) nb o)).holds (KP post k) := by
  intro s hs hk
  rw [eC, hs]
  exact dO hT hk
 unfold Dp at h
 split at h
 · rename_i i off hx
   split at h
   · rename_i t' cs hg
     rw [OC] at h
     unfold ldK at h
     cases ha : nQ E.P t with
     | none => simp only [ha] at h; exact h.elim
     | some b =>
       cases hz : bg E.P t with
       | none => simp only [ha, hz] at h; exact h.elim
       | some n =>
         simp only [ha, hz] at h
         cases b with
         | true => exact gen h
         | false =>
           rw [cond_false, xS] at h
           split at h
           · rename_i s hs
             exact fin s (by simp only [fA, hx, fU, ha, hz, hg, hs]) h
           · exact h.elim
   · exact h.elim
 · rename_i i idx sz off hx
   split at h
   · rename_i t' sz' len tr ex hg
     rw [OC] at h
     unfold ldK at h
     cases ha : nQ E.P t with
     | none => simp only [ha] at h; exact h.elim
     | some b =>
       cases hz : bg E.P t with
       | none => simp only [ha, hz] at h; exact h.elim
       | some n =>
         simp only [ha, hz] at h
         cases b with
         | true =>
           unfold szK at h
           simp only [hz, cond_true] at h
           rw [dh] at h
           cases hb : (Nat.beq sz sz' && (Nat.ble (off + n) sz && Nat.blt idx len)) with
           | false => rw [hb] at h; exact h.elim
           | true =>
             rw [hb, cond_true, nI] at h
             exact fin (.agg (dY tr (idx * sz + off) n)) (by simp only [fA, hx, ha, hz, hg, hb]; rfl) h
         | false =>
           rw [cond_false, dh] at h
           cases hb : (Nat.beq sz sz' && (Nat.blt off sz && Nat.blt idx len)) with
           | false => rw [hb] at h; exact h.elim
           | true =>
             rw [hb, cond_true, ze] at h
             exact fin _ (by simp only [fA, hx, ha, hz, hg, hb]; rfl) h
   · exact gen h
 · exact gen h
theorem KN (hX : XRef X E) (hT : dJ E.top nb) (hF : FOk ob nb) {t : TypeId} {p x : Operand} (ho : o.op = .store t p x) (h : (uZ t p x E.P X o ev ob nb k).holds post) : (lift E ⟨ay ob, nb⟩ (cxE E.P ev (ay ob) nb o)).holds (KP post k) := by
 have gen := zk (o := o) (ev := ev) (ob := ob) (k := k) (post := post) hX hT
 have eC : cxE E.P ev (ay ob) nb o = rU E.P (ay ob) t (ev p) (ev x) := by unfold cxE; simp only [ho]
 unfold uZ at h
 split at h
 · rename_i i off hp
   split at h
   · rename_i t' cs hg
     rw [dh] at h
     cases h1 : Oj E.P t with
     | false => rw [h1] at h; exact gen h
     | true =>
       rw [h1, cond_true, dh] at h
       cases h2 : eB (ev x) with
       | false => rw [h2] at h; exact gen h
       | true =>
         rw [h2, cond_true, dh] at h
         cases h3 : (Nat.ble X.base i && Nat.ble (off + 1) cs.length) with
         | false => rw [h3] at h; exact h.elim
         | true =>
           rw [h3, cond_true] at h
           simp only [Bool.and_eq_true] at h3
           have hz : bg E.P t = some 1 := by
            unfold Oj at h1
            split at h1
            · rename_i n hn; rw [hn, Nat.eq_of_beq_eq_true h1]
            · cases h1
           have hc : dz (ev x) = some [ev x] := by
            unfold dz
            split
            · rename_i l hl; rw [hl] at h2; cases h2
            · rw [h2]; rfl
           have hle : off + 1 <= cs.length := Nat.le_of_ble_eq_true h3.2
           have hs : rU E.P (ay ob) t (ev p) (ev x) = .ret ⟨.junk, ⟨[(i, some (.cells t' (splice cs off [ev x])))], []⟩⟩ := by
            simp only [rU, hp, iZ, hz, hc, hg, List.length_singleton, List.all_cons, List.all_nil, Bool.and_true, h2, h3.2]
            rfl
           rw [eC, hs]
           have hi : i < nb := by
            rcases Nat.lt_or_ge i nb with h | h
            · exact h
            · rw [hF i h] at hg; cases hg
           have hef : jf E ⟨ay ob, nb⟩ ⟨[(i, some (.cells t' (splice cs off [ev x])))], []⟩ = true := by
            simp only [jf, iG, List.length_nil, Nat.add_zero, List.all_cons, List.all_nil, Bool.and_true, Bool.true_and, Bool.and_eq_true]
            refine ⟨Nat.ble_eq_true_of_le hT.1, ?_, ?_⟩
            · rw [Nat.blt_eq]; exact hi
            · rw [← hX.base]; exact h3.1
           show T.holds _ (bif jf E ⟨ay ob, nb⟩ ⟨[(i, some (.cells t' (splice cs off [ev x])))], []⟩ then T.ret (SV.junk, (⟨ay ob, nb⟩ : HS).eff ⟨[(i, some (.cells t' (splice cs off [ev x])))], []⟩) else .fail)
           rw [hef]
           refine ⟨_, ?_, h⟩
           funext j
           have := hT.1
           have := hT.2
           rw [oM j (by omega), Ot cs off _ hle]
           show (List.lookup j [(i, some (Ob.cells t' (splice cs off [ev x])))]).getD (ay ob j) = _
           by_cases e : j = i
           · subst e; simp [List.lookup]
           · have : (j == i) = false := by simpa using e
             simp [List.lookup, this, e]
   · exact h.elim
 · exact gen h
theorem Pj {op : BinOp} {kk : IntKind} {a b : Int} {gen : R} {c : SV -> R} (h : (NA op kk a b gen c).holds post) : gen.holds post ∨ ∃ s, kiV op kk a b = .ret s /\ (c s).holds post := by
 have ari : ∀ z : Int, (Pg kk z c).holds post -> (decide (lo kk <= z) && decide (z <= hi kk)) = true /\ (c (.ki kk z)).holds post := by
  intro z h
  unfold Pg at h
  rw [Rs, dh, qB] at h
  cases h1 : decide (z < lo kk) with
  | true => rw [h1] at h; exact h.elim
  | false =>
    rw [h1, cond_false, dh, qB] at h
    cases h2 : decide (hi kk < z) with
    | true => rw [h2] at h; exact h.elim
    | false =>
      rw [h2, cond_false] at h
      simp only [decide_eq_false_iff_not, Int.not_lt] at h1 h2
      exact ⟨by simp [h1, h2], h⟩
 unfold NA at h
 split at h
 · obtain ⟨h1, h2⟩ := ari _ h
   right
   refine ⟨_, ?_, h2⟩
   have h1 : (decide (lo kk <= a + b) && decide (a + b <= hi kk)) = true := h1
   simp only [kiV, h1]; rfl
 · obtain ⟨h1, h2⟩ := ari _ h
   right
   refine ⟨_, ?_, h2⟩
   have h1 : (decide (lo kk <= a - b) && decide (a - b <= hi kk)) = true := h1
   simp only [kiV, h1]; rfl
 · right; exact ⟨_, by rw [uR]; rfl, h⟩
 · right; exact ⟨_, by rw [Ox, uR]; rfl, h⟩
 · right; exact ⟨_, by rw [qB]; rfl, h⟩
 · right; exact ⟨_, by rw [qB]; rfl, h⟩
 · right
   refine ⟨_, ?_, h⟩
   rw [Ox, qB]
   simp only [kiV]
   congr 2
   rw [Bool.eq_iff_iff]; simp
 · right
   refine ⟨_, ?_, h⟩
   rw [Ox, qB]
   simp only [kiV]
   congr 2
   rw [Bool.eq_iff_iff]; simp
 · exact .inl h
theorem WH (hX : XRef X E) (hT : dJ E.top nb) (hF : FOk ob nb) (h : (opG o E.P X o ev ob nb k).holds post) : (bG E rid i ev ⟨ay ob, nb⟩ o).holds (KP post k) := by
 have gen := zk (o := o) (ev := ev) (ob := ob) (k := k) (post := post) hX hT
 cases ho : o.op
 case move x =>
  have h : (Dq x E.P X o ev ob nb k).holds post := by simpa only [opG, ho] using h
  have e : bG E rid i ev ⟨ay ob, nb⟩ o = lift E ⟨ay ob, nb⟩ (.ret ⟨ev x, .none⟩) := by simp only [bG, ho, cxE, sxE, iT]
  rw [e]; exact dO hT h
 case assign x =>
  have h : (Dq x E.P X o ev ob nb k).holds post := by simpa only [opG, ho] using h
  have e : bG E rid i ev ⟨ay ob, nb⟩ o = lift E ⟨ay ob, nb⟩ (.ret ⟨ev x, .none⟩) := by simp only [bG, ho, cxE, sxE, iT]
  rw [e]; exact dO hT h
 case pick c a b =>
  have h : (IL c a b E.P X o ev ob nb k).holds post := by simpa only [opG, ho] using h
  have e : bG E rid i ev ⟨ay ob, nb⟩ o = lift E ⟨ay ob, nb⟩ (cxE E.P ev (ay ob) nb o) := by simp only [bG, ho]
  unfold IL at h
  split at h
  · rename_i q hq
    have e2 : cxE E.P ev (ay ob) nb o = .ret ⟨bif q then ev a else ev b, .none⟩ := by
        simp only [cxE, ho, sxE, iT, hq]
        cases q <;> rfl
    rw [e, e2]
    rw [dh] at h
    refine dO hT ?_
    cases q <;> exact h
  · rw [e]; exact gen h
 case alloc t =>
  have h : (KD t E.P X o ev ob nb k).holds post := by simpa only [opG, ho] using h
  have e : bG E rid i ev ⟨ay ob, nb⟩ o = lift E ⟨ay ob, nb⟩ (match zeroOf E.P t with
   | some cs => .ret ⟨.ptr nb 0, ⟨[(nb, some (.cells t cs))], [nb]⟩⟩
   | none => .fail) := by
   simp only [bG, ho, cxE, sxE, iT]
   rfl
  rw [e]; exact fq hX.top hX.base hT h
 case box t x =>
  have h : (YL t x E.P X o ev ob nb k).holds post := by simpa only [opG, ho] using h
  have e : bG E rid i ev ⟨ay ob, nb⟩ o = lift E ⟨ay ob, nb⟩ (match dz (nrm (ev x)) with
   | some cs => .ret ⟨.ptr nb 0, ⟨[(nb, some (.cells t cs))], [nb]⟩⟩
   | none => .fail) := by
   simp only [bG, ho, cxE, sxE, iT]
   rfl
  rw [e]; exact fq hX.top hX.base hT h
 case build t ps =>
  have h : (KE t ps E.P X o ev ob nb k).holds post := by simpa only [opG, ho] using h
  have e : bG E rid i ev ⟨ay ob, nb⟩ o = lift E ⟨ay ob, nb⟩ ((jD E.P t (ps.toList.map fun p => (p.1, nrm (ev p.2)))).bind fun s => .ret ⟨s, .none⟩) := by simp only [bG, ho, cxE, sxE, iT]
  rw [e]; exact fq hX.top hX.base hT h
 case load t x =>
  have h : (Dp t x E.P X o ev ob nb k).holds post := by simpa only [opG, ho] using h
  have e : bG E rid i ev ⟨ay ob, nb⟩ o = lift E ⟨ay ob, nb⟩ (cxE E.P ev (ay ob) nb o) := by simp only [bG, ho]
  rw [e]; exact PS hX hT ho h
 case store t p x =>
  have h : (uZ t p x E.P X o ev ob nb k).holds post := by simpa only [opG, ho] using h
  have e : bG E rid i ev ⟨ay ob, nb⟩ o = lift E ⟨ay ob, nb⟩ (cxE E.P ev (ay ob) nb o) := by simp only [bG, ho]
  rw [e]; exact KN hX hT hF ho h
 case nilCheck x =>
  have h : (RY x E.P X o ev ob nb k).holds post := by simpa only [opG, ho] using h
  have e : bG E rid i ev ⟨ay ob, nb⟩ o = lift E ⟨ay ob, nb⟩ (cxE E.P ev (ay ob) nb o) := by simp only [bG, ho]
  rw [e]
  unfold RY at h
  split at h
  · rename_i q f hx
    have e2 : cxE E.P ev (ay ob) nb o = .ret ⟨.ptr q f, .none⟩ := by simp only [cxE, ho, sxE, hx]
    rw [e2]; exact dO hT h
  · rename_i q y z f hx
    have e2 : cxE E.P ev (ay ob) nb o = .ret ⟨.rp q y z f, .none⟩ := by simp only [cxE, ho, sxE, hx]
    rw [e2]; exact dO hT h
  · exact gen h
 case binOp op t x y ty =>
  have h : (RL op x y E.P X o ev ob nb k).holds post := by simpa only [opG, ho] using h
  have e : bG E rid i ev ⟨ay ob, nb⟩ o = lift E ⟨ay ob, nb⟩ (cxE E.P ev (ay ob) nb o) := by simp only [bG, ho]
  rw [e]
  unfold RL at h
  rw [dh] at h
  cases hn : Wm y with
  | true => rw [hn] at h; exact gen h
  | false =>
    rw [hn, cond_false] at h
    have hnil : FV y = none := by
     unfold Wm at hn
     split at hn
     · cases hn
     · assumption
    split at h
    · rename_i kk a kk' b hx hy
      rw [dh] at h
      cases hk : dR kk kk' with
      | false => rw [hk] at h; exact h.elim
      | true =>
        rw [hk, cond_true] at h
        have hk : kk = kk' := by simpa [dR] using hk
        subst hk
        rcases Pj h with h | ⟨s, hs, h⟩
        · exact gen h
        · have e2 : cxE E.P ev (ay ob) nb o = .ret ⟨nK s, .none⟩ := by
           simp only [cxE, ho, hnil, hx, hy, QU, if_true, hs]
           rfl
          have e3 : nK s = s := by
           unfold kiV at hs
           split at hs <;> (try simp only [Bool.cond_eq_ite] at hs) <;> (try split at hs) <;> first | (cases hs; done) | (injection hs with hs; subst hs; rfl)
          rw [e2, e3]; exact dO hT h
    · exact gen h
 case unOp op t x =>
  have h : (kUn op x E.P X o ev ob nb k).holds post := by simpa only [opG, ho] using h
  have e : bG E rid i ev ⟨ay ob, nb⟩ o = lift E ⟨ay ob, nb⟩ (cxE E.P ev (ay ob) nb o) := by simp only [bG, ho]
  rw [e]
  unfold kUn at h
  split at h
  · rename_i b hx
    have e2 : cxE E.P ev (ay ob) nb o = .ret ⟨.kb (!b), .none⟩ := by
     simp only [cxE, ho, sxE, iT, hx, Vp]
     rfl
    rw [e2]
    rw [Ox] at h
    exact dO hT h
  · exact gen h
 case fieldAddr s x f =>
  have h : (ko s x f E.P X o ev ob nb k).holds post := by simpa only [opG, ho] using h
  have e : bG E rid i ev ⟨ay ob, nb⟩ o = lift E ⟨ay ob, nb⟩ (cxE E.P ev (ay ob) nb o) := by simp only [bG, ho]
  rw [e]
  have eC : cxE E.P ev (ay ob) nb o = (eY E.P s f (nrm (ev x))).bind fun s => .ret ⟨s, .none⟩ := by simp only [cxE, ho, sxE, iT]
  have hfa : ∀ d, faK E.P s f = some d -> ∃ fl n, kW E.P s f = some fl /\ bg E.P fl.type = some (n + 1) /\ fl.offset = d := by
   intro d hd
   unfold faK at hd
   split at hd
   · rename_i fl hfl
     split at hd
     · rename_i n hn
       injection hd with hd
       exact ⟨fl, n, hfl, hn, hd⟩
     · cases hd
   · cases hd
  unfold ko at h
  split at h
  · rename_i q off hx
    rw [SG] at h
    split at h
    · exact h.elim
    · rename_i d hd
      obtain ⟨fl, n, h1, h2, rfl⟩ := hfa d hd
      rw [oG] at h
      have e2 : cxE E.P ev (ay ob) nb o = .ret ⟨.ptr q (off + fl.offset), .none⟩ := by
       rw [eC, hx]
       simp only [nrm, eY, h1, h2]
       rfl
      rw [e2]; exact dO hT h
  · rename_i q idx sz off hx
    rw [SG] at h
    split at h
    · exact h.elim
    · rename_i d hd
      obtain ⟨fl, n, h1, h2, rfl⟩ := hfa d hd
      rw [oG] at h
      have e2 : cxE E.P ev (ay ob) nb o = .ret ⟨.rp q idx sz (off + fl.offset), .none⟩ := by
       rw [eC, hx]
       simp only [nrm, eY, h1, h2]
       rfl
      rw [e2]; exact dO hT h
  · exact gen h
 case field t x f =>
  have h : (KG t x f E.P X o ev ob nb k).holds post := by simpa only [opG, ho] using h
  have e : bG E rid i ev ⟨ay ob, nb⟩ o = lift E ⟨ay ob, nb⟩ ((mQ E.P t (ev x) f).bind jK) := by simp only [bG, ho, cxE]
  rw [e]; exact fq hX.top hX.base hT h
 case indexAddr t x j =>
  have h : (IK t x j E.P X o ev ob nb k).holds post := by simpa only [opG, ho] using h
  have e : bG E rid i ev ⟨ay ob, nb⟩ o = lift E ⟨ay ob, nb⟩ (cxE E.P ev (ay ob) nb o) := by simp only [bG, ho]
  rw [e]
  unfold IK at h
  split at h
  · rename_i q z o' n c kk iv hx hi
    rw [SG] at h
    split at h
    · exact h.elim
    · rename_i z' hz'
      rw [dh] at h
      cases hz : Nat.beq z' z with
      | false => rw [hz] at h; exact h.elim
      | true =>
        rw [hz, cond_true, aad] at h
        cases hb : (decide (0 <= iv) && decide (iv < (n : Int))) with
        | false => rw [hb] at h; exact h.elim
        | true =>
          rw [hb, cond_true, oG] at h
          have e2 : cxE E.P ev (ay ob) nb o = .ret ⟨.rp q (o' + iv.toNat) z 0, .none⟩ := by
           unfold iaK at hz'
           split at hz'
           · rename_i et hu
             have : kg E.P t (ev x) (ev j) = some (.ret (.rp q (o' + iv.toNat) z 0)) := by
              simp only [kg, hx, hi, FX, hu, hz', hz, hb]
              rfl
             simp only [cxE, ho, this]
             rfl
           · cases hz'
          rw [e2]; exact dO hT h
  · exact gen h
 case index t x j =>
  have h : (KH t x j E.P X o ev ob nb k).holds post := by simpa only [opG, ho] using h
  have e : bG E rid i ev ⟨ay ob, nb⟩ o = lift E ⟨ay ob, nb⟩ ((uY E.P t (ev x) (ev j)).bind jK) := by simp only [bG, ho, cxE]
  rw [e]; exact fq hX.top hX.base hT h
 case lookup t x j ok =>
  have h : (FY t x j ok E.P X o ev ob nb k).holds post := by simpa only [opG, ho] using h
  have e : bG E rid i ev ⟨ay ob, nb⟩ o = lift E ⟨ay ob, nb⟩ ((gu E.P (ay ob) t (ev x) (nrm (ev j)) ok).bind jK) := by simp only [bG, ho, cxE]
  rw [e]; exact fq hX.top hX.base hT h
 case extract x j =>
  have h : (oV x j E.P X o ev ob nb k).holds post := by simpa only [opG, ho] using h
  have e : bG E rid i ev ⟨ay ob, nb⟩ o = lift E ⟨ay ob, nb⟩ (cxE E.P ev (ay ob) nb o) := by simp only [bG, ho]
  rw [e]
  unfold oV at h
  split at h
  · rename_i l hx
    rw [xS] at h
    split at h
    · rename_i s hs
      have e2 : cxE E.P ev (ay ob) nb o = .ret ⟨nK s, .none⟩ := by
       simp only [cxE, ho, hx, iN, hs]
       rfl
      rw [e2]; exact dO hT h
    · exact h.elim
  · exact gen h
 case call c =>
  have h : (IJ c E.P X o ev ob nb k).holds post := by simpa only [opG, ho] using h
  unfold IJ at h
  obtain ⟨callee, args, argTypes⟩ := c
  cases callee with
  | value f =>
    have h : (kFn f args.toList E.P X o ev ob nb k).holds post := h
    unfold kFn at h
    simp only [bG, ho, hX.K]
    split at h
    · rename_i fk caps hf
      rw [I7] at h
      simp only [hf]
      rw [hX.top, hX.base] at h
      exact hX.I _ _ _ _ _ _ _ _ hF hT h
    · exact h.elim
  | invoke r m =>
    have e : bG E rid i ev ⟨ay ob, nb⟩ o = lift E ⟨ay ob, nb⟩ (cxE E.P ev (ay ob) nb o) := by simp only [bG, ho]
    rw [e]; exact gen h
  | builtin b =>
    have e : bG E rid i ev ⟨ay ob, nb⟩ o = lift E ⟨ay ob, nb⟩ (cxE E.P ev (ay ob) nb o) := by simp only [bG, ho]
    rw [e]
    have h : (oU ⟨.builtin b, args, argTypes⟩ b E.P X o ev ob nb k).holds post := h
    unfold oU at h
    split at h
    · rename_i x t hb ha ht
      have ha : args.toList = [x] := ha
      have ht : argTypes.toList = [t] := ht
      unfold Wq at h
      split at h
      · rename_i q z o' n c hx
        rw [dh] at h
        cases hs : Wn E.P t with
        | false => rw [hs] at h; exact h.elim
        | true =>
          rw [hs, cond_true] at h
          have e2 : cxE E.P ev (ay ob) nb o = .ret ⟨.ki .i64 n, .none⟩ := by
           unfold Wn at hs
           split at hs
           · rename_i et hu
             have h1 : args = ⟨[x]⟩ := Array.toList_inj.1 ha
             have h2 : argTypes = ⟨[t]⟩ := Array.toList_inj.1 ht
             subst h1; subst h2
             simp only [cxE, ho, Ww, hu, hx]
           · cases hs
          rw [e2]; exact dO hT h
      · exact gen h
    · exact gen h
 case range t x =>
  have h : (KL t x E.P X o ev ob nb k).holds post := by simpa only [opG, ho] using h
  have e : bG E rid i ev ⟨ay ob, nb⟩ o = lift E ⟨ay ob, nb⟩ (vG E.P (ay ob) nb t (ev x)) := by simp only [bG, ho]
  rw [e]; exact fq hX.top hX.base hT h
 case entry x =>
  have h : (KF x E.P X o ev ob nb k).holds post := by simpa only [opG, ho] using h
  have e : bG E rid i ev ⟨ay ob, nb⟩ o = lift E ⟨ay ob, nb⟩ (yP (ay ob) (ev x)) := by simp only [bG, ho]
  rw [e]; exact fq hX.top hX.base hT h
 case next a b =>
  have h : (T.fail : R).holds post := by simpa only [opG, ho] using h
  exact h.elim
 all_goals
  have h : (aA E.P X o ev ob nb k).holds post := by simpa only [opG, ho] using h
  have e : bG E rid i ev ⟨ay ob, nb⟩ o = lift E ⟨ay ob, nb⟩ (cxE E.P ev (ay ob) nb o) := by simp only [bG, ho]
  rw [e]
  exact gen h
end
end
end Rx
