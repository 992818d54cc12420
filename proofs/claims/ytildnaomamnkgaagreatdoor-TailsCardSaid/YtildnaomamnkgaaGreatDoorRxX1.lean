/- Rx, part X1: the evaluator for the kernel: trees, values that are made ready, one way on. -/
import Derived.Test.YtildnaomamnkgaaGreatDoorRxW9
set_option linter.unusedSectionVars false
set_option linter.unusedSimpArgs false
set_option linter.unusedVariables false
namespace Rx
open Go
variable [Glob]
noncomputable section
abbrev OB := Tr (Option Ob)
structure HD where
 ob : OB
 nb : Nat
abbrev R := T (SV × HD)
inductive Lo where
 | nil
 | cons (d : Nat) (s : SV) (r : Lo)
def BR (b : Bool) (x y : R) : R := @Bool.rec (fun _ => R) y x b
def BS (b : Bool) (x y : SV) : SV := @Bool.rec (fun _ => SV) y x b
def BO (b : Bool) (x y : Option Ob) : Option Ob := @Bool.rec (fun _ => Option Ob) y x b
def BTS (b : Bool) (x y : Tr SV) : Tr SV := @Bool.rec (fun _ => Tr SV) y x b
def BTO (b : Bool) (x y : OB) : OB := @Bool.rec (fun _ => OB) y x b
theorem dH (b : Bool) (x y : R) : BR b x y = bif b then x else y := by cases b <;> rfl
def fN (n : Nat) (f : Nat -> R) : R := @Nat.rec (fun _ => R) (f (nat_lit 0)) (fun m _ => f (Nat.succ m)) n
def fB (b : Bool) (f : Bool -> R) : R := @Bool.rec (fun _ => R) (f false) (f true) b
def fI (n : Int) (f : Int -> R) : R := @Int.rec (fun _ => R) (fun m => fN m fun m => f (.ofNat m)) (fun m => fN m fun m => f (.negSucc m)) n
theorem qF (n : Nat) (f : Nat -> R) : fN n f = f n := by cases n <;> rfl
theorem Vf (b : Bool) (f : Bool -> R) : fB b f = f b := by cases b <;> rfl
theorem Pf (n : Int) (f : Int -> R) : fI n f = f n := by
 cases n with
 | ofNat m => exact qF m fun m => f (.ofNat m)
 | negSucc m => exact qF m fun m => f (.negSucc m)
def ev2 (n : Nat) : Bool := Nat.beq (Nat.land n (nat_lit 1)) (nat_lit 1)
theorem K5 (n : Nat) : ev2 n = (n % 2).beq 1 := by
 show Nat.beq (Nat.land n 1) 1 = _
 have : Nat.land n 1 = n % 2 := Nat.and_one_is_mod n
 rw [this]
def hf (n : Nat) : Nat := Nat.shiftRight n (nat_lit 1)
theorem P8 (n : Nat) : hf n = n / 2 := by
 show n >>> 1 = _
 rw [Nat.shiftRight_eq_div_pow]
def gU (t : Tr SV) : Nat -> SV := @Tr.rec SV (fun _ => Nat -> SV) (fun _ => .junk) (fun _ v _ gl gr n => BS (Nat.beq n (nat_lit 0)) v (BS (ev2 n) (gl (Nat.shiftRight n (nat_lit 1))) (gr (Nat.pred (Nat.shiftRight n (nat_lit 1)))))) t
def au (t : OB) : Nat -> Option Ob := @Tr.rec (Option Ob) (fun _ => Nat -> Option Ob) (fun _ => none) (fun _ v _ gl gr n => BO (Nat.beq n (nat_lit 0)) v (BO (ev2 n) (gl (Nat.shiftRight n (nat_lit 1))) (gr (Nat.pred (Nat.shiftRight n (nat_lit 1)))))) t
def newS (k : Nat) : Nat -> SV -> Tr SV := @Nat.rec (fun _ => Nat -> SV -> Tr SV) (fun _ _ => .nil)
 (fun _ ih n v => BTS (Nat.beq n (nat_lit 0)) (.node .nil v .nil) (BTS (ev2 n) (.node (ih (Nat.shiftRight n (nat_lit 1)) v) .junk .nil) (.node .nil .junk (ih (Nat.pred (Nat.shiftRight n (nat_lit 1))) v)))) k
def qj (t : Tr SV) : Nat -> SV -> Tr SV := @Tr.rec SV (fun _ => Nat -> SV -> Tr SV) (fun n v => newS (nat_lit 24) n v)
 (fun l x r sl sr n v => BTS (Nat.beq n (nat_lit 0)) (.node l v r) (BTS (ev2 n) (.node (sl (Nat.shiftRight n (nat_lit 1)) v) x r) (.node l x (sr (Nat.pred (Nat.shiftRight n (nat_lit 1))) v)))) t
def YJ (k : Nat) : Nat -> Option Ob -> OB := @Nat.rec (fun _ => Nat -> Option Ob -> OB) (fun _ _ => .nil)
 (fun _ ih n v => BTO (Nat.beq n (nat_lit 0)) (.node .nil v .nil) (BTO (ev2 n) (.node (ih (Nat.shiftRight n (nat_lit 1)) v) none .nil) (.node .nil none (ih (Nat.pred (Nat.shiftRight n (nat_lit 1))) v)))) k
def lZ (t : OB) : Nat -> Option Ob -> OB := @Tr.rec (Option Ob) (fun _ => Nat -> Option Ob -> OB) (fun n v => YJ (nat_lit 24) n v)
 (fun l x r sl sr n v => BTO (Nat.beq n (nat_lit 0)) (.node l v r) (BTO (ev2 n) (.node (sl (Nat.shiftRight n (nat_lit 1)) v) x r) (.node l x (sr (Nat.pred (Nat.shiftRight n (nat_lit 1))) v)))) t
def gB {α : Type} (b : Bool) (x y : α) : α := @Bool.rec (fun _ => α) y x b
def xV {α : Type} (d : α) (t : Tr α) : Nat -> α := @Tr.rec α (fun _ => Nat -> α) (fun _ => d) (fun _ v _ gl gr n => gB (Nat.beq n (nat_lit 0)) v (gB (ev2 n) (gl (Nat.shiftRight n (nat_lit 1))) (gr (Nat.pred (Nat.shiftRight n (nat_lit 1)))))) t
def Cu {α : Type} (d : α) (k : Nat) : Nat -> α -> Tr α := @Nat.rec (fun _ => Nat -> α -> Tr α) (fun _ _ => .nil)
 (fun _ ih n v => gB (Nat.beq n (nat_lit 0)) (.node .nil v .nil) (gB (ev2 n) (.node (ih (Nat.shiftRight n (nat_lit 1)) v) d .nil) (.node .nil d (ih (Nat.pred (Nat.shiftRight n (nat_lit 1))) v)))) k
def zl {α : Type} (d : α) (t : Tr α) : Nat -> α -> Tr α := @Tr.rec α (fun _ => Nat -> α -> Tr α) (fun n v => Cu d (nat_lit 24) n v)
 (fun l x r sl sr n v => gB (Nat.beq n (nat_lit 0)) (.node l v r) (gB (ev2 n) (.node (sl (Nat.shiftRight n (nat_lit 1)) v) x r) (.node l x (sr (Nat.pred (Nat.shiftRight n (nat_lit 1))) v)))) t
theorem D6 {α : Type} (b : Bool) (x y : α) : gB b x y = bif b then x else y := by cases b <;> rfl
theorem Pg : gU = xV .junk := rfl
theorem WI : au = xV none := rfl
theorem XJ : BTS = gB := rfl
theorem XO : BTO = gB := rfl
theorem VJ : newS = Cu .junk := by funext k; rfl
theorem Vr : YJ = Cu none := by funext k; rfl
theorem OV : qj = zl .junk := by
 funext t
 unfold qj zl
 simp only [VJ, XJ]
theorem WJ : lZ = zl none := by
 funext t
 unfold lZ zl
 simp only [Vr, XO]
theorem eX {α : Type} (d : α) (l : Tr α) (v : α) (r : Tr α) (n : Nat) : xV d (.node l v r) n = if n = 0 then v else if n % 2 = 1 then xV d l (n / 2) else xV d r (n / 2 - 1) := by
 show gB (Nat.beq n 0) v (gB (ev2 n) (xV d l (hf n)) (xV d r (Nat.pred (hf n)))) = _
 rw [D6, D6, K5, P8]
 by_cases h : n = 0
 · subst h; rfl
 · rw [dU h, cond_false, if_neg h]
   by_cases h2 : n % 2 = 1
   · rw [mI h2, cond_true, if_pos h2]
   · rw [dU h2, cond_false, if_neg h2]
     rfl
theorem El {α : Type} (d : α) (k n : Nat) (v : α) : Cu d (k + 1) n v = if n = 0 then .node .nil v .nil else if n % 2 = 1 then .node (Cu d k (n / 2) v) d .nil else .node .nil d (Cu d k (n / 2 - 1) v) := by
 show gB (Nat.beq n 0) (Tr.node .nil v .nil) (gB (ev2 n) (.node (Cu d k (hf n) v) d .nil) (.node .nil d (Cu d k (Nat.pred (hf n)) v))) = _
 rw [D6, D6, K5, P8]
 by_cases h : n = 0
 · subst h; rfl
 · rw [dU h, cond_false, if_neg h]
   by_cases h2 : n % 2 = 1
   · rw [mI h2, cond_true, if_pos h2]
   · rw [dU h2, cond_false, if_neg h2]
     rfl
theorem Em {α : Type} (d : α) (l : Tr α) (x : α) (r : Tr α) (n : Nat) (v : α) : zl d (.node l x r) n v = if n = 0 then .node l v r else if n % 2 = 1 then .node (zl d l (n / 2) v) x r else .node l x (zl d r (n / 2 - 1) v) := by
 show gB (Nat.beq n 0) (Tr.node l v r) (gB (ev2 n) (.node (zl d l (hf n) v) x r) (.node l x (zl d r (Nat.pred (hf n)) v))) = _
 rw [D6, D6, K5, P8]
 by_cases h : n = 0
 · subst h; rfl
 · rw [dU h, cond_false, if_neg h]
   by_cases h2 : n % 2 = 1
   · rw [mI h2, cond_true, if_pos h2]
   · rw [dU h2, cond_false, if_neg h2]
     rfl
theorem uq {α : Type} (d : α) (n : Nat) : xV d .nil n = d := rfl
theorem A8 {α : Type} (d : α) : ∀ (k n : Nat) (v : α) (j : Nat), n < 2 ^ k - 1 -> xV d (Cu d k n v) j = if j = n then v else d
 | 0, n, v, j, h => by simp at h
 | k + 1, n, v, j, h => by
   have hp : 2 ^ (k + 1) = 2 * 2 ^ k := by rw [Nat.pow_succ, Nat.mul_comm]
   have hpos : 0 < 2 ^ k := Nat.two_pow_pos k
   rw [El]
   by_cases h0 : n = 0
   · subst h0
     rw [if_pos rfl, eX]
     by_cases hj : j = 0
     · rw [if_pos hj, if_pos hj]
     · rw [if_neg hj, if_neg hj, uq, uq]; split <;> rfl
   · rw [if_neg h0]
     by_cases h1 : n % 2 = 1
     · rw [if_pos h1, eX]
       by_cases hj : j = 0
       · subst hj; rw [if_pos rfl, if_neg (by omega)]
       · rw [if_neg hj]
         by_cases hj1 : j % 2 = 1
         · rw [if_pos hj1, A8 d k (n / 2) v (j / 2) (by omega)]
           by_cases e : j = n
           · subst e; rw [if_pos rfl, if_pos rfl]
           · rw [if_neg (by omega), if_neg e]
         · rw [if_neg hj1, uq, if_neg (by omega)]
     · rw [if_neg h1, eX]
       by_cases hj : j = 0
       · subst hj; rw [if_pos rfl, if_neg (by omega)]
       · rw [if_neg hj]
         by_cases hj1 : j % 2 = 1
         · rw [if_pos hj1, uq, if_neg (by omega)]
         · rw [if_neg hj1, A8 d k (n / 2 - 1) v (j / 2 - 1) (by omega)]
           by_cases e : j = n
           · subst e; rw [if_pos rfl, if_pos rfl]
           · rw [if_neg (by omega), if_neg e]
theorem uz {α : Type} (d : α) : ∀ (t : Tr α) (n : Nat) (v : α) (j : Nat), n < 16777215 -> xV d (zl d t n v) j = if j = n then v else xV d t j
 | .nil, n, v, j, h => A8 d 24 n v j (by simpa using h)
 | .node l x r, n, v, j, h => by
   rw [Em]
   by_cases h0 : n = 0
   · subst h0
     rw [if_pos rfl, eX, eX]
     by_cases hj : j = 0
     · rw [if_pos hj, if_pos hj]
     · rw [if_neg hj, if_neg hj, if_neg hj]
   · rw [if_neg h0]
     by_cases h1 : n % 2 = 1
     · rw [if_pos h1, eX, eX]
       by_cases hj : j = 0
       · subst hj; rw [if_pos rfl, if_neg (by omega), if_pos rfl]
       · rw [if_neg hj, if_neg hj]
         by_cases hj1 : j % 2 = 1
         · rw [if_pos hj1, if_pos hj1, uz d l (n / 2) v (j / 2) (by omega)]
           by_cases e : j = n
           · subst e; rw [if_pos rfl, if_pos rfl]
           · rw [if_neg (by omega), if_neg e]
         · rw [if_neg hj1, if_neg hj1, if_neg (by omega)]
     · rw [if_neg h1, eX, eX]
       by_cases hj : j = 0
       · subst hj; rw [if_pos rfl, if_neg (by omega), if_pos rfl]
       · rw [if_neg hj, if_neg hj]
         by_cases hj1 : j % 2 = 1
         · rw [if_pos hj1, if_pos hj1, if_neg (by omega)]
         · rw [if_neg hj1, if_neg hj1, uz d r (n / 2 - 1) v (j / 2 - 1) (by omega)]
           by_cases e : j = n
           · subst e; rw [if_pos rfl, if_pos rfl]
           · rw [if_neg (by omega), if_neg e]
theorem vo {t : Tr SV} {n : Nat} {v : SV} (j : Nat) (h : n < 16777215) : gU (qj t n v) j = if j = n then v else gU t j := by
 rw [Pg, OV]; exact uz _ t n v j h
theorem oO {t : OB} {n : Nat} {v : Option Ob} (j : Nat) (h : n < 16777215) : au (lZ t n v) j = if j = n then v else au t j := by
 rw [WI, WJ]; exact uz _ t n v j h
def look (l : Lo) (j : Nat) : SV := @Lo.rec (fun _ => SV) .junk (fun d s _ ih => BS (Nat.beq d j) s ih) l
def view (fl : Nat) (sl : Tr SV) (lo : Lo) (j : Nat) : SV := BS (fU fl j) (gU sl j) (look lo j)
def Mk (c : Option Nat) : Nat -> Nat -> Nat -> Nat -> (SV -> R) -> R := @Option.rec Nat (fun _ => Nat -> Nat -> Nat -> Nat -> (SV -> R) -> R) (fun i z o n f => f (.sl i z o n none)) (fun c i z o n f => fN c fun c => f (.sl i z o n (some c))) c
def Ri (s : SV) : (SV -> R) -> R := @SV.rec (fun _ => (SV -> R) -> R) (fun _ => PUnit) (fun f => f .junk) (fun d f => f (.dt d)) (fun l _ f => f (.agg l)) (fun l _ f => f (.tup l)) (fun i a f => fN a fun a => f (.ptr i a)) (fun m g f => f (.el m g)) (fun m c _ f => f (.fn m c)) (fun b f => fB b fun b => f (.kb b)) (fun k n f => fI n fun n => f (.ki k n)) (fun i f => f (.nm i)) (fun i a z o f => fN a fun a => fN o fun o => f (.rp i a z o)) (fun k a b n f => fI a fun a => fI b fun b => f (.ri k a b n)) (fun i z o n c f => fN o fun o => fN n fun n => Mk c i z o n f) (fun s f => f (.sy s)) PUnit.unit (fun _ _ _ _ => PUnit.unit) s
theorem SX (s : SV) (f : SV -> R) : Ri s f = f s := by
 cases s with
 | sl i z o n c => cases c <;> simp only [Ri, Mk, qF]
 | _ => simp only [Ri, Pf, Vf, qF]
def Ui (l : List SV) : (List SV -> R) -> R := @List.rec SV (fun _ => (List SV -> R) -> R) (fun f => f []) (fun s _ ih f => Ri s fun s => ih fun l => f (s :: l)) l
theorem M5 : ∀ (l : List SV) (f : List SV -> R), Ui l f = f l
 | [], _ => rfl
 | s :: l, f => by
   show Ri s (fun s => Ui l fun l => f (s :: l)) = _
   rw [SX, M5 l]
def Nq (s : SV) : (SV -> R) -> R := @SV.rec (fun _ => (SV -> R) -> R) (fun _ => PUnit) (fun f => f .junk) (fun d f => f (.dt d)) (fun l _ f => Ui l fun l => f (.agg l)) (fun l _ f => Ui l fun l => f (.tup l)) (fun i a f => fN a fun a => f (.ptr i a)) (fun m g f => f (.el m g)) (fun m c _ f => f (.fn m c)) (fun b f => fB b fun b => f (.kb b)) (fun k n f => fI n fun n => f (.ki k n)) (fun i f => f (.nm i)) (fun i a z o f => fN a fun a => fN o fun o => f (.rp i a z o)) (fun k a b n f => fI a fun a => fI b fun b => f (.ri k a b n)) (fun i z o n c f => fN o fun o => fN n fun n => Mk c i z o n f) (fun s f => f (.sy s)) PUnit.unit (fun _ _ _ _ => PUnit.unit) s
theorem MG (s : SV) (f : SV -> R) : Nq s f = f s := by
 cases s with
 | sl i z o n c => cases c <;> simp only [Nq, Mk, qF]
 | _ => simp only [Nq, M5, Pf, Vf, qF]
abbrev KK := SV -> OB -> Nat -> R
abbrev II := Nat -> Nat -> FuncId -> List SV -> OB -> Nat -> KK -> R
structure EX where
 I : II
 top : Nat
 base : Nat
 W : Nat -> Nat
abbrev Ev := Operand -> SV
abbrev OpK := Program -> EX -> Oper -> Ev -> OB -> Nat -> KK -> R
def Td {α : Type} (t : T α) : Bool := @T.rec α (fun _ => Bool) (fun _ => true) (fun _ _ _ a b => @Bool.rec (fun _ => Bool) false b a) (fun _ _ a => a) (fun _ _ _ _ => false) (fun _ _ _ => false) true t
theorem yg {α : Type} : ∀ t : T α, Td t = t.det
 | .ret _ => rfl
 | .ite _ t e => by
   show @Bool.rec (fun _ => Bool) false (Td e) (Td t) = (t.det && e.det)
   rw [yg t, yg e]
   cases t.det <;> rfl
 | .need _ t => yg t
 | .both _ _ => rfl
 | .all _ _ => rfl
 | .fail => rfl
def zY {α : Type} (t : T α) (k : α -> R) : R := @T.rec α (fun _ => R) k (fun b _ _ x y => .ite b x y) (fun p _ x => .need p x) (fun _ _ _ _ => .fail) (fun _ _ _ => .fail) .fail t
theorem pY {α : Type} {k : α -> R} : ∀ t : T α, t.det = true -> zY t k = t.bind k
 | .ret _, _ => rfl
 | .ite b t e, h => by
   simp only [T.det, Bool.and_eq_true] at h
   show T.ite b (zY t k) (zY e k) = .ite b (t.bind k) (e.bind k)
   rw [pY t h.1, pY e h.2]
 | .need p t, h => by
   show T.need p (zY t k) = .need p (t.bind k)
   rw [pY t h]
 | .both _ _, h => by cases h
 | .all _ _, h => by cases h
 | .fail, _ => rfl
def R9 (ob : OB) (us : List (Nat × Option Ob)) : OB := @List.rec (Nat × Option Ob) (fun _ => OB) ob (fun x _ ih => lZ ih x.1 x.2) us
def ZP (top base nb : Nat) (e : Eff) : Bool := iE nb e.new && (Nat.ble (nb + e.new.length) top && (e.us.all fun x => Nat.blt x.1 (nb + e.new.length) && Nat.ble base x.1))
def WY (X : EX) (ob : OB) (nb : Nat) (e : Eff) (c : OB -> Nat -> R) : R :=
 match e with
 | ⟨[], []⟩ => c ob nb
 | e => BR (ZP X.top X.base nb e) (fN (nb + e.new.length) fun nb' => c (R9 ob e.us) nb') .fail
def oz (X : EX) (t : T Res) (ob : OB) (nb : Nat) (k : KK) : R :=
 BR (Td t) (zY t fun r => WY X ob nb r.eff fun ob nb => k r.sv ob nb) .fail
def KP (post : SV × HD -> Prop) (k : KK) (y : SV × HS) : Prop := ∃ ob', y.2.obj = au ob' /\ (k y.1 ob' y.2.nob).holds post
theorem IC : ∀ (us : List (Nat × Option Ob)) (ob : OB) (j : Nat), (∀ x ∈ us, x.1 < 16777215) -> au (R9 ob us) j = (us.lookup j).getD (au ob j)
 | [], _, _, _ => rfl
 | (i, x) :: l, ob, j, h => by
   show au (lZ (R9 ob l) i x) j = _
   rw [oO j (show i < 16777215 from h (i, x) (by simp)), IC l ob j fun y hy => h y (by simp [hy])]
   by_cases e : j = i
   · subst e; simp [List.lookup]
   · have : (j == i) = false := by simpa using e
     simp [List.lookup, this, e]
def dN (top nb : Nat) : Prop := nb <= top /\ top <= 16777215
def FOk (ob : OB) (nb : Nat) : Prop := ∀ i, nb <= i -> au ob i = none
theorem QI {E : CEnv} {X : EX} {ob : OB} {nb : Nat} {e : Eff} {c : OB -> Nat -> R} {post : SV × HD -> Prop} (ht : X.top = E.top) (hb : X.base = E.base) (hT : dN E.top nb) (h : (WY X ob nb e c).holds post) :
  je E ⟨au ob, nb⟩ e = true /\ ∃ ob', ((⟨au ob, nb⟩ : HS).eff e).obj = au ob' /\ (c ob' (nb + e.new.length)).holds post := by
 unfold WY at h
 split at h
 · refine ⟨?_, ob, by funext j; rfl, h⟩
   simp only [je, iE, List.length_nil, Nat.add_zero, List.all_nil, Bool.and_true, Bool.true_and]
   exact Nat.ble_eq_true_of_le hT.1
 · rw [dH] at h
   cases he : ZP X.top X.base nb e with
   | false => rw [he] at h; exact h.elim
   | true =>
     rw [he, cond_true, qF] at h
     have hc : je E ⟨au ob, nb⟩ e = true := by rw [ht, hb] at he; exact he
     refine ⟨hc, R9 ob e.us, ?_, h⟩
     obtain ⟨_, h2, h3⟩ := nQ hc
     have h2 : nb + e.new.length <= E.top := h2
     funext j
     rw [IC]
     · rfl
     · intro x hx
       have : x.1 < nb + e.new.length := (h3 x hx).1
       have := hT.2
       omega
theorem eU {E : CEnv} {X : EX} {t : T Res} {ob : OB} {nb : Nat} {k : KK} {post : SV × HD -> Prop} (ht : X.top = E.top) (hb : X.base = E.base) (hT : dN E.top nb) (h : (oz X t ob nb k).holds post) :
  (lift E ⟨au ob, nb⟩ t).holds (KP post k) := by
 unfold oz at h
 rw [dH, yg] at h
 unfold lift
 cases hd : t.det with
 | false => rw [hd] at h; exact h.elim
 | true =>
   rw [hd, cond_true, pY t hd, T.aj] at h
   rw [cond_true, T.aj]
   refine T.ay (fun r hr => ?_) _ h
   obtain ⟨h1, ob', h2, h3⟩ := QI ht hb hT hr
   rw [h1]
   exact ⟨ob', h2, h3⟩
end
end Rx
