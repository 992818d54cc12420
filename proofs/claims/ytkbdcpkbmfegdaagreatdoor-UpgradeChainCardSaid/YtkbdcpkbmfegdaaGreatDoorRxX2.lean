/- Rx, part X2: operations, for the kernel. -/
import Derived.Test.YtkbdcpkbmfegdaaGreatDoorRxX1
set_option linter.unusedSectionVars false
set_option linter.unusedSimpArgs false
set_option linter.unusedVariables false
namespace Rx
open Go
variable [Glob]
noncomputable section
def Kt (l : List SV) : Nat -> R -> (SV -> R) -> R := @List.rec SV (fun _ => Nat -> R -> (SV -> R) -> R) (fun _ f _ => f) (fun s _ ih n f k => @Nat.rec (fun _ => R) (k s) (fun m _ => ih m f k) n) l
theorem Ak : ∀ (l : List SV) (n : Nat) (f : R) (k : SV -> R), Kt l n f k = match l[n]? with
  | some s => k s
  | none => f
 | [], _, _, _ => rfl
 | s :: l, 0, _, _ => rfl
 | s :: l, n + 1, f, k => by
   show Kt l n f k = _
   rw [Ak l n f k]
   simp
theorem Bz {α : Type} (d : α) : ∀ (t : Tr α) (n : Nat), zM d t n = t.get d n
 | .nil, n => rfl
 | .node l v r, n => by
   rw [fE]
   simp only [Tr.get]
   by_cases h : n = 0
   · subst h; rfl
   · rw [fO h, cond_false, if_neg h]
     by_cases h2 : n % 2 = 1
     · rw [pQ h2, cond_true, if_pos h2, Bz d l]
     · rw [fO h2, cond_false, if_neg h2, Bz d r]
theorem BD (t : Tr SV) (n : Nat) : iF t n = t.get .junk n := by rw [Tm]; exact Bz _ t n
def oP (tr : Tr SV) (n : Nat) : Nat -> List SV := @Nat.rec (fun _ => Nat -> List SV) (fun _ => []) (fun _ ih k => iF tr k :: ih (Nat.succ k)) n
theorem oQ (tr : Tr SV) : ∀ (n k : Nat), oP tr n k = eY tr k n
 | 0, _ => rfl
 | n + 1, k => by
   show iF tr k :: oP tr n (Nat.succ k) = _
   rw [oQ tr n, BD]
   rfl
def WC (l : List SV) : Nat -> SV -> List SV := @List.rec SV (fun _ => Nat -> SV -> List SV) (fun _ _ => []) (fun x l ih n v => @Nat.rec (fun _ => List SV) (v :: l) (fun m _ => x :: ih m v) n) l
theorem OA : ∀ (l : List SV) (n : Nat) (v : SV), n + 1 <= l.length -> WC l n v = splice l n [v]
 | [], _, _, h => by simp at h
 | x :: l, 0, v, _ => by simp [splice]; rfl
 | x :: l, n + 1, v, h => by
   show x :: WC l n v = _
   rw [OA l n v (by simpa using h)]
   simp [splice]
def oB (o : Option Bool) (n a b : R) : R := @Option.rec Bool (fun _ => R) n (fun q => BR q a b) o
theorem OJ (o : Option Bool) (n a b : R) : oB o n a b = match o with
  | none => n
  | some q => bif q then a else b := by
 cases o
 · rfl
 · exact dI _ _ _
def oN (o : Option Nat) (n : R) (f : Nat -> R) : R := @Option.rec Nat (fun _ => R) n f o
theorem Ur (o : Option Nat) (n : R) (f : Nat -> R) : oN o n f = match o with
  | none => n
  | some q => f q := by cases o <;> rfl
def ldK (P : Program) (t : TypeId) : Option Bool := match pE P t, bF P t with
 | some b, some _ => some b
 | _, _ => none
def Ov (P : Program) (t : TypeId) : Bool := match bF P t with
 | some n => Nat.beq n 1
 | none => false
def aB : OpK := fun P X o ev ob nb k => tX X (cxE P ev (av ob) nb o) ob nb k
def EM (x : Operand) : OpK := fun P X o ev ob nb k => k (ev x) ob nb
def TI (x : Operand) : OpK := fun P X o ev ob nb k => match ev x with
 | .ptr i f => k (.ptr i f) ob nb
 | .rp i y z f => k (.rp i y z f) ob nb
 | _ => aB P X o ev ob nb k
def J5 (c a b : Operand) : OpK := fun P X o ev ob nb k => match ev c with
 | .kb q => BR q (k (ev a) ob nb) (k (ev b) ob nb)
 | _ => aB P X o ev ob nb k
def szK (P : Program) (t : TypeId) (f : Nat -> R) : R := match bF P t with
 | some n => f n
 | none => .fail
def EL (t : TypeId) (x : Operand) : OpK := fun P X o ev ob nb k => match ev x with
 | .ptr i off => match av ob i with
   | some (.cells _ cs) => oB (ldK P t) .fail (aB P X o ev ob nb k) (Kt cs off .fail fun s => k (nK s) ob nb)
   | _ => .fail
 | .rp i idx sz off => match av ob i with
   | some (.vec _ sz' len tr _) => oB (ldK P t) .fail
       (szK P t fun n => BR (Nat.beq sz sz' && (Nat.ble (off + n) sz && Nat.blt idx len)) (k (.agg (oP tr n (Nat.add (Nat.mul idx sz) off))) ob nb) .fail)
       (BR (Nat.beq sz sz' && (Nat.blt off sz && Nat.blt idx len)) (k (nK (iF tr (Nat.add (Nat.mul idx sz) off))) ob nb) .fail)
   | _ => aB P X o ev ob nb k
 | _ => aB P X o ev ob nb k
def xW (t : TypeId) (p x : Operand) : OpK := fun P X o ev ob nb k => match ev p with
 | .ptr i off => match av ob i with
   | some (.cells t' cs) => BR (Ov P t) (BR (fC (ev x)) (BR (Nat.ble X.base i && Nat.ble (off + 1) cs.length) (k .junk (mO ob i (some (.cells t' (WC cs off (ev x))))) nb) .fail) (aB P X o ev ob nb k)) (aB P X o ev ob nb k)
   | _ => .fail
 | _ => aB P X o ev ob nb k
def faK (P : Program) (s : TypeId) (f : Nat) : Option Nat := match lU P s f with
 | some fl => (match bF P fl.type with
   | some (_ + 1) => some fl.offset
   | _ => none)
 | none => none
def kW (s : TypeId) (x : Operand) (f : Nat) : OpK := fun P X o ev ob nb k => match ev x with
 | .ptr i off => oN (faK P s f) .fail fun d => fN (Nat.add off d) fun a => k (.ptr i a) ob nb
 | .rp i idx sz off => oN (faK P s f) .fail fun d => fN (Nat.add off d) fun a => k (.rp i idx sz a) ob nb
 | _ => aB P X o ev ob nb k
def Cb (x y : Int) : Bool := @Int.rec (fun _ => Bool) (fun m => @Int.rec (fun _ => Bool) (fun n => Nat.ble (Nat.succ m) n) (fun _ => false) y) (fun m => @Int.rec (fun _ => Bool) (fun _ => true) (fun n => Nat.ble (Nat.succ n) m) y) x
theorem sj (x y : Int) : Cb x y = decide (x < y) := by
 cases x with
 | ofNat m => cases y with
   | ofNat n =>
     show Nat.ble (m + 1) n = _
     rw [Bool.eq_iff_iff, decide_eq_true_eq]
     constructor
     · intro h; have := Nat.le_of_ble_eq_true h; simp; omega
     · intro h; apply Nat.ble_eq_true_of_le; simp at h; omega
   | negSucc n => show false = _; simp; omega
 | negSucc m => cases y with
   | ofNat n => show true = _; simp; omega
   | negSucc n =>
     show Nat.ble (n + 1) m = _
     rw [Bool.eq_iff_iff, decide_eq_true_eq]
     constructor
     · intro h; have := Nat.le_of_ble_eq_true h; omega
     · intro h; apply Nat.ble_eq_true_of_le; omega
def eqI (x y : Int) : Bool := @Int.rec (fun _ => Bool) (fun m => @Int.rec (fun _ => Bool) (fun n => Nat.beq m n) (fun _ => false) y) (fun m => @Int.rec (fun _ => Bool) (fun _ => false) (fun n => Nat.beq m n) y) x
theorem xM (x y : Int) : eqI x y = decide (x = y) := by
 cases x with
 | ofNat m => cases y with
   | ofNat n =>
     show Nat.beq m n = _
     by_cases h : m = n
     · subst h; simp [Nat.beq_refl]
     · rw [fO h]; simp; omega
   | negSucc n => show false = _; simp
 | negSucc m => cases y with
   | ofNat n => show false = _; simp
   | negSucc n =>
     show Nat.beq m n = _
     by_cases h : m = n
     · subst h; simp [Nat.beq_refl]
     · rw [fO h]; simp; omega
def nB (b : Bool) : Bool := @Bool.rec (fun _ => Bool) true false b
theorem OG (b : Bool) : nB b = !b := by cases b <;> rfl
def PW (k : IntKind) (z : Int) (c : SV -> R) : R := fI z fun z => BR (Cb z (lo k)) .fail (BR (Cb (hi k) z) .fail (c (.ki k z)))
def eG (a b : IntKind) : Bool := decide (a = b)
def NK (op : BinOp) (k : IntKind) (x y : Int) (gen : R) (c : SV -> R) : R := match op with
 | .add => PW k (Int.add x y) c
 | .sub => PW k (Int.sub x y) c
 | .eql => c (.kb (eqI x y))
 | .neq => c (.kb (nB (eqI x y)))
 | .lss => c (.kb (Cb x y))
 | .gtr => c (.kb (Cb y x))
 | .leq => c (.kb (nB (Cb y x)))
 | .geq => c (.kb (nB (Cb x y)))
 | _ => gen
def Wq (y : Operand) : Bool := match Hz y with
 | some _ => true
 | none => false
def Tw (op : BinOp) (x y : Operand) : OpK := fun P X o ev ob nb k => BR (Wq y) (aB P X o ev ob nb k) (match ev x, ev y with
 | .ki kk a, .ki kk' b => BR (eG kk kk') (NK op kk a b (aB P X o ev ob nb k) fun s => k s ob nb) .fail
 | _, _ => aB P X o ev ob nb k)
def OC (l : List Operand) (ev : Ev) (c : List SV) : List SV := @List.rec Operand (fun _ => List SV) c (fun x _ ih => ev x :: ih) l
theorem Kk (ev : Ev) (c : List SV) : ∀ l : List Operand, OC l ev c = l.map ev ++ c
 | [] => rfl
 | x :: l => by
   show ev x :: OC l ev c = _
   rw [Kk ev c l]; rfl
def kFn (f : Operand) (args : List Operand) : OpK := fun P X o ev ob nb k => match ev f with
 | .fn fk caps => X.I X.top X.base fk (OC args ev caps) ob nb k
 | _ => .fail
def iaK (P : Program) (t : TypeId) : Option Nat := match P.underlying t with
 | some (.slice e) => bF P e
 | _ => none
def ltI (i : Int) (n : Nat) (f : Nat -> R) : R := @Int.rec (fun _ => R) (fun m => BR (Nat.ble (Nat.succ m) n) (f m) .fail) (fun _ => .fail) i
theorem aaD (i : Int) (n : Nat) (f : Nat -> R) : ltI i n f = bif decide (0 <= i) && decide (i < (n : Int)) then f i.toNat else .fail := by
 cases i with
 | ofNat m =>
   show BR (Nat.ble (m + 1) n) (f m) .fail = _
   rw [dI]
   have h1 : decide (0 <= Int.ofNat m) = true := by simp
   rw [h1, Bool.true_and]
   congr 1
   rw [Bool.eq_iff_iff, decide_eq_true_eq]
   constructor
   · intro h; have := Nat.le_of_ble_eq_true h; simp; omega
   · intro h; apply Nat.ble_eq_true_of_le; simp at h; omega
 | negSucc m => rfl
def J4 (t : TypeId) (x i : Operand) : OpK := fun P X o ev ob nb k => match ev x, ev i with
 | .sl q z o' n c, .ki _ iv => oN (iaK P t) .fail fun z' => BR (Nat.beq z' z) (ltI iv n fun m => fN (Nat.add o' m) fun a => k (.rp q a z 0) ob nb) .fail
 | _, _ => aB P X o ev ob nb k
def Ws (P : Program) (t : TypeId) : Bool := match P.underlying t with
 | some (.slice _) => true
 | _ => false
def Wv (t : TypeId) (x : Operand) : OpK := fun P X o ev ob nb k => match ev x with
 | .sl _ _ _ n _ => BR (Ws P t) (k (.ki .i64 (.ofNat n)) ob nb) .fail
 | _ => aB P X o ev ob nb k
def qH (x : Operand) (i : Nat) : OpK := fun P X o ev ob nb k => match ev x with
 | .tup l => Kt l i .fail fun s => k (nK s) ob nb
 | _ => aB P X o ev ob nb k
def Ml (t : TypeId) : OpK := fun P X o ev ob nb k => tX X (match zeroOf P t with
    | some cs => .ret ⟨.ptr nb 0, ⟨[(nb, some (.cells t cs))], [nb]⟩⟩
    | none => .fail) ob nb k
def aav (t : TypeId) (x : Operand) : OpK := fun P X o ev ob nb k => tX X (match dL (nrm (ev x)) with
    | some cs => .ret ⟨.ptr nb 0, ⟨[(nb, some (.cells t cs))], [nb]⟩⟩
    | none => .fail) ob nb k
def Mq (t : TypeId) (ps : Array (Nat × Operand)) : OpK := fun P X o ev ob nb k => tX X ((jU P t (ps.toList.map fun p => (p.1, nrm (ev p.2)))).bind fun s => .ret ⟨s, .none⟩) ob nb k
def kUn (op : UnOp) (x : Operand) : OpK := fun P X o ev ob nb k => match op, ev x with
 | .not, .kb b => k (.kb (nB b)) ob nb
 | _, _ => aB P X o ev ob nb k
def Ms (t : TypeId) (x : Operand) (f : Nat) : OpK := fun P X o ev ob nb k => tX X ((oo P t (ev x) f).bind kg) ob nb k
def Mt (t : TypeId) (x i : Operand) : OpK := fun P X o ev ob nb k => tX X ((xV P t (ev x) (ev i)).bind kg) ob nb k
def HZ (t : TypeId) (x i : Operand) (ok : Bool) : OpK := fun P X o ev ob nb k => tX X ((gP P (av ob) t (ev x) (nrm (ev i)) ok).bind kg) ob nb k
def qG (c : Call) (b : Builtin) : OpK := fun P X o ev ob nb k => match b, c.args.toList, c.argTypes.toList with
 | .len, [x], [t] => Wv t x P X o ev ob nb k
 | _, _, _ => aB P X o ev ob nb k
def J3 (c : Call) : OpK := match c.callee with
 | .value f => kFn f c.args.toList
 | .builtin b => qG c b
 | _ => aB
def Mx (t : TypeId) (x : Operand) : OpK := fun P X o ev ob nb k => tX X (yt P (av ob) nb t (ev x)) ob nb k
def Mr (x : Operand) : OpK := fun P X o ev ob nb k => tX X (Bn (av ob) (ev x)) ob nb k
def opG (o : Oper) : OpK := match o.op with
 | .move x => EM x
 | .assign x => EM x
 | .pick c a b => J5 c a b
 | .alloc t => Ml t
 | .box t x => aav t x
 | .build t ps => Mq t ps
 | .load t x => EL t x
 | .store t p x => xW t p x
 | .nilCheck x => TI x
 | .binOp op t x y _ => Tw op x y
 | .unOp op _ x => kUn op x
 | .fieldAddr s x f => kW s x f
 | .field t x f => Ms t x f
 | .indexAddr t x i => J4 t x i
 | .index t x i => Mt t x i
 | .lookup t x i ok => HZ t x i ok
 | .extract x i => qH x i
 | .call c => J3 c
 | .range t x => Mx t x
 | .entry x => Mr x
 | .next _ _ => fun _ _ _ _ _ _ _ => .fail
 | _ => aB
def IRef (I : II) (J : Nat -> Nat -> FuncId -> List SV -> HS -> T (SV × HS)) : Prop :=
 ∀ top base f al ob nb k post, FOk ob nb -> dJ top nb -> (I top base f al ob nb k).holds post -> (J top base f al ⟨av ob, nb⟩).holds (KP post k)
structure XRef (X : EX) (E : CEnv) : Prop where
 I : IRef X.I E.I
 top : X.top = E.top
 base : X.base = E.base
 W : X.W = E.win
 K : ∀ rid i, E.K rid i = none
theorem dZ {E : CEnv} {ob : OB} {nb : Nat} {k : KK} {post : SV × HD -> Prop} (hT : dJ E.top nb) {s : SV} (h : (k s ob nb).holds post) : (lift E ⟨av ob, nb⟩ (.ret ⟨s, .none⟩)).holds (KP post k) := by
 have hc : jC E ⟨av ob, nb⟩ Eff.none = true := xL E (h := ⟨av ob, nb⟩) hT.1
 show T.holds _ (bif jC E ⟨av ob, nb⟩ Eff.none then T.ret (s, (⟨av ob, nb⟩ : HS).eff .none) else .fail)
 rw [hc]
 exact ⟨ob, rfl, h⟩
section
variable {E : CEnv} {X : EX} {o : Oper} {ev : Ev} {ob : OB} {nb : Nat} {k : KK} {post : SV × HD -> Prop} {rid i : Nat}
theorem BH (hX : XRef X E) (hT : dJ E.top nb) (h : (aB E.P X o ev ob nb k).holds post) : (lift E ⟨av ob, nb⟩ (cxE E.P ev (av ob) nb o)).holds (KP post k) :=
 fU hX.top hX.base hT h
theorem Qr (hX : XRef X E) (hT : dJ E.top nb) {t : TypeId} {x : Operand} (ho : o.op = .load t x) (h : (EL t x E.P X o ev ob nb k).holds post) : (lift E ⟨av ob, nb⟩ (cxE E.P ev (av ob) nb o)).holds (KP post k) := by
 have gen := BH (o := o) (ev := ev) (ob := ob) (k := k) (post := post) hX hT
 have eC : cxE E.P ev (av ob) nb o = (fV E.P (av ob) t (ev x)).bind kg := by unfold cxE; simp only [ho]
 have fin : ∀ s, fV E.P (av ob) t (ev x) = .ret s -> (k (nK s) ob nb).holds post -> (lift E ⟨av ob, nb⟩ (cxE E.P ev (av ob) nb o)).holds (KP post k) := by
  intro s hs hk
  rw [eC, hs]
  exact dZ hT hk
 unfold EL at h
 split at h
 · rename_i i off hx
   split at h
   · rename_i t' cs hg
     rw [OJ] at h
     unfold ldK at h
     cases ha : pE E.P t with
     | none => simp only [ha] at h; exact h.elim
     | some b =>
       cases hz : bF E.P t with
       | none => simp only [ha, hz] at h; exact h.elim
       | some n =>
         simp only [ha, hz] at h
         cases b with
         | true => exact gen h
         | false =>
           rw [cond_false, Ak] at h
           split at h
           · rename_i s hs
             exact fin s (by simp only [fV, hx, gJ, ha, hz, hg, hs]) h
           · exact h.elim
   · exact h.elim
 · rename_i i idx sz off hx
   split at h
   · rename_i t' sz' len tr ex hg
     rw [OJ] at h
     unfold ldK at h
     cases ha : pE E.P t with
     | none => simp only [ha] at h; exact h.elim
     | some b =>
       cases hz : bF E.P t with
       | none => simp only [ha, hz] at h; exact h.elim
       | some n =>
         simp only [ha, hz] at h
         cases b with
         | true =>
           unfold szK at h
           simp only [hz, cond_true] at h
           rw [dI] at h
           cases hb : (Nat.beq sz sz' && (Nat.ble (off + n) sz && Nat.blt idx len)) with
           | false => rw [hb] at h; exact h.elim
           | true =>
             rw [hb, cond_true, oQ] at h
             exact fin (.agg (eY tr (idx * sz + off) n)) (by simp only [fV, hx, ha, hz, hg, hb]; rfl) h
         | false =>
           rw [cond_false, dI] at h
           cases hb : (Nat.beq sz sz' && (Nat.blt off sz && Nat.blt idx len)) with
           | false => rw [hb] at h; exact h.elim
           | true =>
             rw [hb, cond_true, BD] at h
             exact fin _ (by simp only [fV, hx, ha, hz, hg, hb]; rfl) h
   · exact gen h
 · exact gen h
theorem MC (hX : XRef X E) (hT : dJ E.top nb) (hF : FOk ob nb) {t : TypeId} {p x : Operand} (ho : o.op = .store t p x) (h : (xW t p x E.P X o ev ob nb k).holds post) : (lift E ⟨av ob, nb⟩ (cxE E.P ev (av ob) nb o)).holds (KP post k) := by
 have gen := BH (o := o) (ev := ev) (ob := ob) (k := k) (post := post) hX hT
 have eC : cxE E.P ev (av ob) nb o = uW E.P (av ob) t (ev p) (ev x) := by unfold cxE; simp only [ho]
 unfold xW at h
 split at h
 · rename_i i off hp
   split at h
   · rename_i t' cs hg
     rw [dI] at h
     cases h1 : Ov E.P t with
     | false => rw [h1] at h; exact gen h
     | true =>
       rw [h1, cond_true, dI] at h
       cases h2 : fC (ev x) with
       | false => rw [h2] at h; exact gen h
       | true =>
         rw [h2, cond_true, dI] at h
         cases h3 : (Nat.ble X.base i && Nat.ble (off + 1) cs.length) with
         | false => rw [h3] at h; exact h.elim
         | true =>
           rw [h3, cond_true] at h
           simp only [Bool.and_eq_true] at h3
           have hz : bF E.P t = some 1 := by
            unfold Ov at h1
            split at h1
            · rename_i n hn; rw [hn, Nat.eq_of_beq_eq_true h1]
            · cases h1
           have hc : dL (ev x) = some [ev x] := by
            unfold dL
            split
            · rename_i l hl; rw [hl] at h2; cases h2
            · rw [h2]; rfl
           have hle : off + 1 <= cs.length := Nat.le_of_ble_eq_true h3.2
           have hs : uW E.P (av ob) t (ev p) (ev x) = .ret ⟨.junk, ⟨[(i, some (.cells t' (splice cs off [ev x])))], []⟩⟩ := by
            simp only [uW, hp, jv, hz, hc, hg, List.length_singleton, List.all_cons, List.all_nil, Bool.and_true, h2, h3.2]
            rfl
           rw [eC, hs]
           have hi : i < nb := by
            rcases Nat.lt_or_ge i nb with h | h
            · exact h
            · rw [hF i h] at hg; cases hg
           have hef : jC E ⟨av ob, nb⟩ ⟨[(i, some (.cells t' (splice cs off [ev x])))], []⟩ = true := by
            simp only [jC, iR, List.length_nil, Nat.add_zero, List.all_cons, List.all_nil, Bool.and_true, Bool.true_and, Bool.and_eq_true]
            refine ⟨Nat.ble_eq_true_of_le hT.1, ?_, ?_⟩
            · rw [Nat.blt_eq]; exact hi
            · rw [← hX.base]; exact h3.1
           show T.holds _ (bif jC E ⟨av ob, nb⟩ ⟨[(i, some (.cells t' (splice cs off [ev x])))], []⟩ then T.ret (SV.junk, (⟨av ob, nb⟩ : HS).eff ⟨[(i, some (.cells t' (splice cs off [ev x])))], []⟩) else .fail)
           rw [hef]
           refine ⟨_, ?_, h⟩
           funext j
           have := hT.1
           have := hT.2
           rw [qC j (by omega), OA cs off _ hle]
           show (List.lookup j [(i, some (Ob.cells t' (splice cs off [ev x])))]).getD (av ob j) = _
           by_cases e : j = i
           · subst e; simp [List.lookup]
           · have : (j == i) = false := by simpa using e
             simp [List.lookup, this, e]
   · exact h.elim
 · exact gen h
theorem PY {op : BinOp} {kk : IntKind} {a b : Int} {gen : R} {c : SV -> R} (h : (NK op kk a b gen c).holds post) : gen.holds post ∨ ∃ s, kiV op kk a b = .ret s /\ (c s).holds post := by
 have ari : ∀ z : Int, (PW kk z c).holds post -> (decide (lo kk <= z) && decide (z <= hi kk)) = true /\ (c (.ki kk z)).holds post := by
  intro z h
  unfold PW at h
  rw [Tc, dI, sj] at h
  cases h1 : decide (z < lo kk) with
  | true => rw [h1] at h; exact h.elim
  | false =>
    rw [h1, cond_false, dI, sj] at h
    cases h2 : decide (hi kk < z) with
    | true => rw [h2] at h; exact h.elim
    | false =>
      rw [h2, cond_false] at h
      simp only [decide_eq_false_iff_not, Int.not_lt] at h1 h2
      exact ⟨by simp [h1, h2], h⟩
 unfold NK at h
 split at h
 · obtain ⟨h1, h2⟩ := ari _ h
   right
   refine ⟨_, ?_, h2⟩
   have h1 : (decide (lo kk <= a + b) && decide (a + b <= hi kk)) = true := h1
   simp only [kiV, h1]; rfl
 · obtain ⟨h1, h2⟩ := ari _ h
   right
   refine ⟨_, ?_, h2⟩
   have h1 : (decide (lo kk <= a - b) && decide (a - b <= hi kk)) = true := h1
   simp only [kiV, h1]; rfl
 · right; exact ⟨_, by rw [xM]; rfl, h⟩
 · right; exact ⟨_, by rw [OG, xM]; rfl, h⟩
 · right; exact ⟨_, by rw [sj]; rfl, h⟩
 · right; exact ⟨_, by rw [sj]; rfl, h⟩
 · right
   refine ⟨_, ?_, h⟩
   rw [OG, sj]
   simp only [kiV]
   congr 2
   rw [Bool.eq_iff_iff]; simp
 · right
   refine ⟨_, ?_, h⟩
   rw [OG, sj]
   simp only [kiV]
   congr 2
   rw [Bool.eq_iff_iff]; simp
 · exact .inl h
theorem WV (hX : XRef X E) (hT : dJ E.top nb) (hF : FOk ob nb) (h : (opG o E.P X o ev ob nb k).holds post) : (bL E rid i ev ⟨av ob, nb⟩ o).holds (KP post k) := by
 have gen := BH (o := o) (ev := ev) (ob := ob) (k := k) (post := post) hX hT
 cases ho : o.op
 case move x =>
  have h : (EM x E.P X o ev ob nb k).holds post := by simpa only [opG, ho] using h
  have e : bL E rid i ev ⟨av ob, nb⟩ o = lift E ⟨av ob, nb⟩ (.ret ⟨ev x, .none⟩) := by simp only [bL, ho, cxE, sxE, ji]
  rw [e]; exact dZ hT h
 case assign x =>
  have h : (EM x E.P X o ev ob nb k).holds post := by simpa only [opG, ho] using h
  have e : bL E rid i ev ⟨av ob, nb⟩ o = lift E ⟨av ob, nb⟩ (.ret ⟨ev x, .none⟩) := by simp only [bL, ho, cxE, sxE, ji]
  rw [e]; exact dZ hT h
 case pick c a b =>
  have h : (J5 c a b E.P X o ev ob nb k).holds post := by simpa only [opG, ho] using h
  have e : bL E rid i ev ⟨av ob, nb⟩ o = lift E ⟨av ob, nb⟩ (cxE E.P ev (av ob) nb o) := by simp only [bL, ho]
  unfold J5 at h
  split at h
  · rename_i q hq
    have e2 : cxE E.P ev (av ob) nb o = .ret ⟨bif q then ev a else ev b, .none⟩ := by
        simp only [cxE, ho, sxE, ji, hq]
        cases q <;> rfl
    rw [e, e2]
    rw [dI] at h
    refine dZ hT ?_
    cases q <;> exact h
  · rw [e]; exact gen h
 case alloc t =>
  have h : (Ml t E.P X o ev ob nb k).holds post := by simpa only [opG, ho] using h
  have e : bL E rid i ev ⟨av ob, nb⟩ o = lift E ⟨av ob, nb⟩ (match zeroOf E.P t with
   | some cs => .ret ⟨.ptr nb 0, ⟨[(nb, some (.cells t cs))], [nb]⟩⟩
   | none => .fail) := by
   simp only [bL, ho, cxE, sxE, ji]
   rfl
  rw [e]; exact fU hX.top hX.base hT h
 case box t x =>
  have h : (aav t x E.P X o ev ob nb k).holds post := by simpa only [opG, ho] using h
  have e : bL E rid i ev ⟨av ob, nb⟩ o = lift E ⟨av ob, nb⟩ (match dL (nrm (ev x)) with
   | some cs => .ret ⟨.ptr nb 0, ⟨[(nb, some (.cells t cs))], [nb]⟩⟩
   | none => .fail) := by
   simp only [bL, ho, cxE, sxE, ji]
   rfl
  rw [e]; exact fU hX.top hX.base hT h
 case build t ps =>
  have h : (Mq t ps E.P X o ev ob nb k).holds post := by simpa only [opG, ho] using h
  have e : bL E rid i ev ⟨av ob, nb⟩ o = lift E ⟨av ob, nb⟩ ((jU E.P t (ps.toList.map fun p => (p.1, nrm (ev p.2)))).bind fun s => .ret ⟨s, .none⟩) := by simp only [bL, ho, cxE, sxE, ji]
  rw [e]; exact fU hX.top hX.base hT h
 case load t x =>
  have h : (EL t x E.P X o ev ob nb k).holds post := by simpa only [opG, ho] using h
  have e : bL E rid i ev ⟨av ob, nb⟩ o = lift E ⟨av ob, nb⟩ (cxE E.P ev (av ob) nb o) := by simp only [bL, ho]
  rw [e]; exact Qr hX hT ho h
 case store t p x =>
  have h : (xW t p x E.P X o ev ob nb k).holds post := by simpa only [opG, ho] using h
  have e : bL E rid i ev ⟨av ob, nb⟩ o = lift E ⟨av ob, nb⟩ (cxE E.P ev (av ob) nb o) := by simp only [bL, ho]
  rw [e]; exact MC hX hT hF ho h
 case nilCheck x =>
  have h : (TI x E.P X o ev ob nb k).holds post := by simpa only [opG, ho] using h
  have e : bL E rid i ev ⟨av ob, nb⟩ o = lift E ⟨av ob, nb⟩ (cxE E.P ev (av ob) nb o) := by simp only [bL, ho]
  rw [e]
  unfold TI at h
  split at h
  · rename_i q f hx
    have e2 : cxE E.P ev (av ob) nb o = .ret ⟨.ptr q f, .none⟩ := by simp only [cxE, ho, sxE, hx]
    rw [e2]; exact dZ hT h
  · rename_i q y z f hx
    have e2 : cxE E.P ev (av ob) nb o = .ret ⟨.rp q y z f, .none⟩ := by simp only [cxE, ho, sxE, hx]
    rw [e2]; exact dZ hT h
  · exact gen h
 case binOp op t x y ty =>
  have h : (Tw op x y E.P X o ev ob nb k).holds post := by simpa only [opG, ho] using h
  have e : bL E rid i ev ⟨av ob, nb⟩ o = lift E ⟨av ob, nb⟩ (cxE E.P ev (av ob) nb o) := by simp only [bL, ho]
  rw [e]
  unfold Tw at h
  rw [dI] at h
  cases hn : Wq y with
  | true => rw [hn] at h; exact gen h
  | false =>
    rw [hn, cond_false] at h
    have hnil : Hz y = none := by
     unfold Wq at hn
     split at hn
     · cases hn
     · assumption
    split at h
    · rename_i kk a kk' b hx hy
      rw [dI] at h
      cases hk : eG kk kk' with
      | false => rw [hk] at h; exact h.elim
      | true =>
        rw [hk, cond_true] at h
        have hk : kk = kk' := by simpa [eG] using hk
        subst hk
        rcases PY h with h | ⟨s, hs, h⟩
        · exact gen h
        · have e2 : cxE E.P ev (av ob) nb o = .ret ⟨nK s, .none⟩ := by
           simp only [cxE, ho, hnil, hx, hy, Sd, if_true, hs]
           rfl
          have e3 : nK s = s := by
           unfold kiV at hs
           split at hs <;> (try simp only [Bool.cond_eq_ite] at hs) <;> (try split at hs) <;> first | (cases hs; done) | (injection hs with hs; subst hs; rfl)
          rw [e2, e3]; exact dZ hT h
    · exact gen h
 case unOp op t x =>
  have h : (kUn op x E.P X o ev ob nb k).holds post := by simpa only [opG, ho] using h
  have e : bL E rid i ev ⟨av ob, nb⟩ o = lift E ⟨av ob, nb⟩ (cxE E.P ev (av ob) nb o) := by simp only [bL, ho]
  rw [e]
  unfold kUn at h
  split at h
  · rename_i b hx
    have e2 : cxE E.P ev (av ob) nb o = .ret ⟨.kb (!b), .none⟩ := by
     simp only [cxE, ho, sxE, ji, hx, Vm]
     rfl
    rw [e2]
    rw [OG] at h
    exact dZ hT h
  · exact gen h
 case fieldAddr s x f =>
  have h : (kW s x f E.P X o ev ob nb k).holds post := by simpa only [opG, ho] using h
  have e : bL E rid i ev ⟨av ob, nb⟩ o = lift E ⟨av ob, nb⟩ (cxE E.P ev (av ob) nb o) := by simp only [bL, ho]
  rw [e]
  have eC : cxE E.P ev (av ob) nb o = (fQ E.P s f (nrm (ev x))).bind fun s => .ret ⟨s, .none⟩ := by simp only [cxE, ho, sxE, ji]
  have hfa : ∀ d, faK E.P s f = some d -> ∃ fl n, lU E.P s f = some fl /\ bF E.P fl.type = some (n + 1) /\ fl.offset = d := by
   intro d hd
   unfold faK at hd
   split at hd
   · rename_i fl hfl
     split at hd
     · rename_i n hn
       injection hd with hd
       exact ⟨fl, n, hfl, hn, hd⟩
     · cases hd
   · cases hd
  unfold kW at h
  split at h
  · rename_i q off hx
    rw [Ur] at h
    split at h
    · exact h.elim
    · rename_i d hd
      obtain ⟨fl, n, h1, h2, rfl⟩ := hfa d hd
      rw [qp] at h
      have e2 : cxE E.P ev (av ob) nb o = .ret ⟨.ptr q (off + fl.offset), .none⟩ := by
       rw [eC, hx]
       simp only [nrm, fQ, h1, h2]
       rfl
      rw [e2]; exact dZ hT h
  · rename_i q idx sz off hx
    rw [Ur] at h
    split at h
    · exact h.elim
    · rename_i d hd
      obtain ⟨fl, n, h1, h2, rfl⟩ := hfa d hd
      rw [qp] at h
      have e2 : cxE E.P ev (av ob) nb o = .ret ⟨.rp q idx sz (off + fl.offset), .none⟩ := by
       rw [eC, hx]
       simp only [nrm, fQ, h1, h2]
       rfl
      rw [e2]; exact dZ hT h
  · exact gen h
 case field t x f =>
  have h : (Ms t x f E.P X o ev ob nb k).holds post := by simpa only [opG, ho] using h
  have e : bL E rid i ev ⟨av ob, nb⟩ o = lift E ⟨av ob, nb⟩ ((oo E.P t (ev x) f).bind kg) := by simp only [bL, ho, cxE]
  rw [e]; exact fU hX.top hX.base hT h
 case indexAddr t x j =>
  have h : (J4 t x j E.P X o ev ob nb k).holds post := by simpa only [opG, ho] using h
  have e : bL E rid i ev ⟨av ob, nb⟩ o = lift E ⟨av ob, nb⟩ (cxE E.P ev (av ob) nb o) := by simp only [bL, ho]
  rw [e]
  unfold J4 at h
  split at h
  · rename_i q z o' n c kk iv hx hi
    rw [Ur] at h
    split at h
    · exact h.elim
    · rename_i z' hz'
      rw [dI] at h
      cases hz : Nat.beq z' z with
      | false => rw [hz] at h; exact h.elim
      | true =>
        rw [hz, cond_true, aaD] at h
        cases hb : (decide (0 <= iv) && decide (iv < (n : Int))) with
        | false => rw [hb] at h; exact h.elim
        | true =>
          rw [hb, cond_true, qp] at h
          have e2 : cxE E.P ev (av ob) nb o = .ret ⟨.rp q (o' + iv.toNat) z 0, .none⟩ := by
           unfold iaK at hz'
           split at hz'
           · rename_i et hu
             have : kV E.P t (ev x) (ev j) = some (.ret (.rp q (o' + iv.toNat) z 0)) := by
              simp only [kV, hx, hi, HY, hu, hz', hz, hb]
              rfl
             simp only [cxE, ho, this]
             rfl
           · cases hz'
          rw [e2]; exact dZ hT h
  · exact gen h
 case index t x j =>
  have h : (Mt t x j E.P X o ev ob nb k).holds post := by simpa only [opG, ho] using h
  have e : bL E rid i ev ⟨av ob, nb⟩ o = lift E ⟨av ob, nb⟩ ((xV E.P t (ev x) (ev j)).bind kg) := by simp only [bL, ho, cxE]
  rw [e]; exact fU hX.top hX.base hT h
 case lookup t x j ok =>
  have h : (HZ t x j ok E.P X o ev ob nb k).holds post := by simpa only [opG, ho] using h
  have e : bL E rid i ev ⟨av ob, nb⟩ o = lift E ⟨av ob, nb⟩ ((gP E.P (av ob) t (ev x) (nrm (ev j)) ok).bind kg) := by simp only [bL, ho, cxE]
  rw [e]; exact fU hX.top hX.base hT h
 case extract x j =>
  have h : (qH x j E.P X o ev ob nb k).holds post := by simpa only [opG, ho] using h
  have e : bL E rid i ev ⟨av ob, nb⟩ o = lift E ⟨av ob, nb⟩ (cxE E.P ev (av ob) nb o) := by simp only [bL, ho]
  rw [e]
  unfold qH at h
  split at h
  · rename_i l hx
    rw [Ak] at h
    split at h
    · rename_i s hs
      have e2 : cxE E.P ev (av ob) nb o = .ret ⟨nK s, .none⟩ := by
       simp only [cxE, ho, hx, jd, hs]
       rfl
      rw [e2]; exact dZ hT h
    · exact h.elim
  · exact gen h
 case call c =>
  have h : (J3 c E.P X o ev ob nb k).holds post := by simpa only [opG, ho] using h
  unfold J3 at h
  obtain ⟨callee, args, argTypes⟩ := c
  cases callee with
  | value f =>
    have h : (kFn f args.toList E.P X o ev ob nb k).holds post := h
    unfold kFn at h
    simp only [bL, ho, hX.K]
    split at h
    · rename_i fk caps hf
      rw [Kk] at h
      simp only [hf]
      rw [hX.top, hX.base] at h
      exact hX.I _ _ _ _ _ _ _ _ hF hT h
    · exact h.elim
  | invoke r m =>
    have e : bL E rid i ev ⟨av ob, nb⟩ o = lift E ⟨av ob, nb⟩ (cxE E.P ev (av ob) nb o) := by simp only [bL, ho]
    rw [e]; exact gen h
  | builtin b =>
    have e : bL E rid i ev ⟨av ob, nb⟩ o = lift E ⟨av ob, nb⟩ (cxE E.P ev (av ob) nb o) := by simp only [bL, ho]
    rw [e]
    have h : (qG ⟨.builtin b, args, argTypes⟩ b E.P X o ev ob nb k).holds post := h
    unfold qG at h
    split at h
    · rename_i x t hb ha ht
      have ha : args.toList = [x] := ha
      have ht : argTypes.toList = [t] := ht
      unfold Wv at h
      split at h
      · rename_i q z o' n c hx
        rw [dI] at h
        cases hs : Ws E.P t with
        | false => rw [hs] at h; exact h.elim
        | true =>
          rw [hs, cond_true] at h
          have e2 : cxE E.P ev (av ob) nb o = .ret ⟨.ki .i64 n, .none⟩ := by
           unfold Ws at hs
           split at hs
           · rename_i et hu
             have h1 : args = ⟨[x]⟩ := Array.toList_inj.1 ha
             have h2 : argTypes = ⟨[t]⟩ := Array.toList_inj.1 ht
             subst h1; subst h2
             simp only [cxE, ho, WA, hu, hx]
           · cases hs
          rw [e2]; exact dZ hT h
      · exact gen h
    · exact gen h
 case range t x =>
  have h : (Mx t x E.P X o ev ob nb k).holds post := by simpa only [opG, ho] using h
  have e : bL E rid i ev ⟨av ob, nb⟩ o = lift E ⟨av ob, nb⟩ (yt E.P (av ob) nb t (ev x)) := by simp only [bL, ho]
  rw [e]; exact fU hX.top hX.base hT h
 case entry x =>
  have h : (Mr x E.P X o ev ob nb k).holds post := by simpa only [opG, ho] using h
  have e : bL E rid i ev ⟨av ob, nb⟩ o = lift E ⟨av ob, nb⟩ (Bn (av ob) (ev x)) := by simp only [bL, ho]
  rw [e]; exact fU hX.top hX.base hT h
 case next a b =>
  have h : (T.fail : R).holds post := by simpa only [opG, ho] using h
  exact h.elim
 all_goals
  have h : (aB E.P X o ev ob nb k).holds post := by simpa only [opG, ho] using h
  have e : bL E rid i ev ⟨av ob, nb⟩ o = lift E ⟨av ob, nb⟩ (cxE E.P ev (av ob) nb o) := by simp only [bL, ho]
  rw [e]
  exact gen h
end
end
end Rx
