/- Rx, part X1: the evaluator for the kernel: trees, values that are made ready, one way on. -/
import Derived.Test.YtkbdcpkbmfegdaaGreatDoorSRxW8
set_option linter.unusedSectionVars false
set_option linter.unusedSimpArgs false
set_option linter.unusedVariables false
namespace Rx
open Go
variable [Glob]
noncomputable section
abbrev OB := Tr (Option Ob)
structure HD where
 ob : OB
 nb : Nat
abbrev R := T (SV × HD)
inductive Lo where
 | nil
 | cons (d : Nat) (s : SV) (r : Lo)
def BR (b : Bool) (x y : R) : R := @Bool.rec (fun _ => R) y x b
def BS (b : Bool) (x y : SV) : SV := @Bool.rec (fun _ => SV) y x b
def BO (b : Bool) (x y : Option Ob) : Option Ob := @Bool.rec (fun _ => Option Ob) y x b
def BTS (b : Bool) (x y : Tr SV) : Tr SV := @Bool.rec (fun _ => Tr SV) y x b
def BTO (b : Bool) (x y : OB) : OB := @Bool.rec (fun _ => OB) y x b
theorem dh (b : Bool) (x y : R) : BR b x y = bif b then x else y := by cases b <;> rfl
def fN (n : Nat) (f : Nat -> R) : R := @Nat.rec (fun _ => R) (f (nat_lit 0)) (fun m _ => f (Nat.succ m)) n
def fB (b : Bool) (f : Bool -> R) : R := @Bool.rec (fun _ => R) (f false) (f true) b
def fI (n : Int) (f : Int -> R) : R := @Int.rec (fun _ => R) (fun m => fN m fun m => f (.ofNat m)) (fun m => fN m fun m => f (.negSucc m)) n
theorem oG (n : Nat) (f : Nat -> R) : fN n f = f n := by cases n <;> rfl
theorem XC (b : Bool) (f : Bool -> R) : fB b f = f b := by cases b <;> rfl
theorem Rs (n : Int) (f : Int -> R) : fI n f = f n := by
 cases n with
 | ofNat m => exact oG m fun m => f (.ofNat m)
 | negSucc m => exact oG m fun m => f (.negSucc m)
def ev2 (n : Nat) : Bool := Nat.beq (Nat.land n (nat_lit 1)) (nat_lit 1)
theorem Kl (n : Nat) : ev2 n = (n % 2).beq 1 := by
 show Nat.beq (Nat.land n 1) 1 = _
 have : Nat.land n 1 = n % 2 := Nat.and_one_is_mod n
 rw [this]
def hf (n : Nat) : Nat := Nat.shiftRight n (nat_lit 1)
theorem RD (n : Nat) : hf n = n / 2 := by
 show n >>> 1 = _
 rw [Nat.shiftRight_eq_div_pow]
def gX (t : Tr SV) : Nat -> SV := @Tr.rec SV (fun _ => Nat -> SV) (fun _ => .junk) (fun _ v _ gl gr n => BS (Nat.beq n (nat_lit 0)) v (BS (ev2 n) (gl (Nat.shiftRight n (nat_lit 1))) (gr (Nat.pred (Nat.shiftRight n (nat_lit 1)))))) t
def ay (t : OB) : Nat -> Option Ob := @Tr.rec (Option Ob) (fun _ => Nat -> Option Ob) (fun _ => none) (fun _ v _ gl gr n => BO (Nat.beq n (nat_lit 0)) v (BO (ev2 n) (gl (Nat.shiftRight n (nat_lit 1))) (gr (Nat.pred (Nat.shiftRight n (nat_lit 1)))))) t
def newS (k : Nat) : Nat -> SV -> Tr SV := @Nat.rec (fun _ => Nat -> SV -> Tr SV) (fun _ _ => .nil)
 (fun _ ih n v => BTS (Nat.beq n (nat_lit 0)) (.node .nil v .nil) (BTS (ev2 n) (.node (ih (Nat.shiftRight n (nat_lit 1)) v) .junk .nil) (.node .nil .junk (ih (Nat.pred (Nat.shiftRight n (nat_lit 1))) v)))) k
def uq (t : Tr SV) : Nat -> SV -> Tr SV := @Tr.rec SV (fun _ => Nat -> SV -> Tr SV) (fun n v => newS (nat_lit 24) n v)
 (fun l x r sl sr n v => BTS (Nat.beq n (nat_lit 0)) (.node l v r) (BTS (ev2 n) (.node (sl (Nat.shiftRight n (nat_lit 1)) v) x r) (.node l x (sr (Nat.pred (Nat.shiftRight n (nat_lit 1))) v)))) t
def afc (k : Nat) : Nat -> Option Ob -> OB := @Nat.rec (fun _ => Nat -> Option Ob -> OB) (fun _ _ => .nil)
 (fun _ ih n v => BTO (Nat.beq n (nat_lit 0)) (.node .nil v .nil) (BTO (ev2 n) (.node (ih (Nat.shiftRight n (nat_lit 1)) v) none .nil) (.node .nil none (ih (Nat.pred (Nat.shiftRight n (nat_lit 1))) v)))) k
def lX (t : OB) : Nat -> Option Ob -> OB := @Tr.rec (Option Ob) (fun _ => Nat -> Option Ob -> OB) (fun n v => afc (nat_lit 24) n v)
 (fun l x r sl sr n v => BTO (Nat.beq n (nat_lit 0)) (.node l v r) (BTO (ev2 n) (.node (sl (Nat.shiftRight n (nat_lit 1)) v) x r) (.node l x (sr (Nat.pred (Nat.shiftRight n (nat_lit 1))) v)))) t
def gB {α : Type} (b : Bool) (x y : α) : α := @Bool.rec (fun _ => α) y x b
def xk {α : Type} (d : α) (t : Tr α) : Nat -> α := @Tr.rec α (fun _ => Nat -> α) (fun _ => d) (fun _ v _ gl gr n => gB (Nat.beq n (nat_lit 0)) v (gB (ev2 n) (gl (Nat.shiftRight n (nat_lit 1))) (gr (Nat.pred (Nat.shiftRight n (nat_lit 1)))))) t
def FJ {α : Type} (d : α) (k : Nat) : Nat -> α -> Tr α := @Nat.rec (fun _ => Nat -> α -> Tr α) (fun _ _ => .nil)
 (fun _ ih n v => gB (Nat.beq n (nat_lit 0)) (.node .nil v .nil) (gB (ev2 n) (.node (ih (Nat.shiftRight n (nat_lit 1)) v) d .nil) (.node .nil d (ih (Nat.pred (Nat.shiftRight n (nat_lit 1))) v)))) k
def Cm {α : Type} (d : α) (t : Tr α) : Nat -> α -> Tr α := @Tr.rec α (fun _ => Nat -> α -> Tr α) (fun n v => FJ d (nat_lit 24) n v)
 (fun l x r sl sr n v => gB (Nat.beq n (nat_lit 0)) (.node l v r) (gB (ev2 n) (.node (sl (Nat.shiftRight n (nat_lit 1)) v) x r) (.node l x (sr (Nat.pred (Nat.shiftRight n (nat_lit 1))) v)))) t
theorem Dk {α : Type} (b : Bool) (x y : α) : gB b x y = bif b then x else y := by cases b <;> rfl
theorem RB : gX = xk .junk := rfl
theorem YG : ay = xk none := rfl
theorem aer : BTS = gB := rfl
theorem aep : BTO = gB := rfl
theorem aag : newS = FJ .junk := by funext k; rfl
theorem aaf : afc = FJ none := by funext k; rfl
theorem aaw : uq = Cm .junk := by
 funext t
 unfold uq Cm
 simp only [aag, aer]
theorem aav : lX = Cm none := by
 funext t
 unfold lX Cm
 simp only [aaf, aep]
theorem eG {α : Type} (d : α) (l : Tr α) (v : α) (r : Tr α) (n : Nat) : xk d (.node l v r) n = if n = 0 then v else if n % 2 = 1 then xk d l (n / 2) else xk d r (n / 2 - 1) := by
 show gB (Nat.beq n 0) v (gB (ev2 n) (xk d l (hf n)) (xk d r (Nat.pred (hf n)))) = _
 rw [Dk, Dk, Kl, RD]
 by_cases h : n = 0
 · subst h; rfl
 · rw [eU h, cond_false, if_neg h]
   by_cases h2 : n % 2 = 1
   · rw [nW h2, cond_true, if_pos h2]
   · rw [eU h2, cond_false, if_neg h2]
     rfl
theorem PG {α : Type} (d : α) (k n : Nat) (v : α) : FJ d (k + 1) n v = if n = 0 then .node .nil v .nil else if n % 2 = 1 then .node (FJ d k (n / 2) v) d .nil else .node .nil d (FJ d k (n / 2 - 1) v) := by
 show gB (Nat.beq n 0) (Tr.node .nil v .nil) (gB (ev2 n) (.node (FJ d k (hf n) v) d .nil) (.node .nil d (FJ d k (Nat.pred (hf n)) v))) = _
 rw [Dk, Dk, Kl, RD]
 by_cases h : n = 0
 · subst h; rfl
 · rw [eU h, cond_false, if_neg h]
   by_cases h2 : n % 2 = 1
   · rw [nW h2, cond_true, if_pos h2]
   · rw [eU h2, cond_false, if_neg h2]
     rfl
theorem PI {α : Type} (d : α) (l : Tr α) (x : α) (r : Tr α) (n : Nat) (v : α) : Cm d (.node l x r) n v = if n = 0 then .node l v r else if n % 2 = 1 then .node (Cm d l (n / 2) v) x r else .node l x (Cm d r (n / 2 - 1) v) := by
 show gB (Nat.beq n 0) (Tr.node l v r) (gB (ev2 n) (.node (Cm d l (hf n) v) x r) (.node l x (Cm d r (Nat.pred (hf n)) v))) = _
 rw [Dk, Dk, Kl, RD]
 by_cases h : n = 0
 · subst h; rfl
 · rw [eU h, cond_false, if_neg h]
   by_cases h2 : n % 2 = 1
   · rw [nW h2, cond_true, if_pos h2]
   · rw [eU h2, cond_false, if_neg h2]
     rfl
theorem tq {α : Type} (d : α) (n : Nat) : xk d .nil n = d := rfl
theorem za {α : Type} (d : α) : ∀ (k n : Nat) (v : α) (j : Nat), n < 2 ^ k - 1 -> xk d (FJ d k n v) j = if j = n then v else d
 | 0, n, v, j, h => by simp at h
 | k + 1, n, v, j, h => by
   have hp : 2 ^ (k + 1) = 2 * 2 ^ k := by rw [Nat.pow_succ, Nat.mul_comm]
   have hpos : 0 < 2 ^ k := Nat.two_pow_pos k
   rw [PG]
   by_cases h0 : n = 0
   · subst h0
     rw [if_pos rfl, eG]
     by_cases hj : j = 0
     · rw [if_pos hj, if_pos hj]
     · rw [if_neg hj, if_neg hj, tq, tq]; split <;> rfl
   · rw [if_neg h0]
     by_cases h1 : n % 2 = 1
     · rw [if_pos h1, eG]
       by_cases hj : j = 0
       · subst hj; rw [if_pos rfl, if_neg (by omega)]
       · rw [if_neg hj]
         by_cases hj1 : j % 2 = 1
         · rw [if_pos hj1, za d k (n / 2) v (j / 2) (by omega)]
           by_cases e : j = n
           · subst e; rw [if_pos rfl, if_pos rfl]
           · rw [if_neg (by omega), if_neg e]
         · rw [if_neg hj1, tq, if_neg (by omega)]
     · rw [if_neg h1, eG]
       by_cases hj : j = 0
       · subst hj; rw [if_pos rfl, if_neg (by omega)]
       · rw [if_neg hj]
         by_cases hj1 : j % 2 = 1
         · rw [if_pos hj1, tq, if_neg (by omega)]
         · rw [if_neg hj1, za d k (n / 2 - 1) v (j / 2 - 1) (by omega)]
           by_cases e : j = n
           · subst e; rw [if_pos rfl, if_pos rfl]
           · rw [if_neg (by omega), if_neg e]
theorem tu {α : Type} (d : α) : ∀ (t : Tr α) (n : Nat) (v : α) (j : Nat), n < 16777215 -> xk d (Cm d t n v) j = if j = n then v else xk d t j
 | .nil, n, v, j, h => za d 24 n v j (by simpa using h)
 | .node l x r, n, v, j, h => by
   rw [PI]
   by_cases h0 : n = 0
   · subst h0
     rw [if_pos rfl, eG, eG]
     by_cases hj : j = 0
     · rw [if_pos hj, if_pos hj]
     · rw [if_neg hj, if_neg hj, if_neg hj]
   · rw [if_neg h0]
     by_cases h1 : n % 2 = 1
     · rw [if_pos h1, eG, eG]
       by_cases hj : j = 0
       · subst hj; rw [if_pos rfl, if_neg (by omega), if_pos rfl]
       · rw [if_neg hj, if_neg hj]
         by_cases hj1 : j % 2 = 1
         · rw [if_pos hj1, if_pos hj1, tu d l (n / 2) v (j / 2) (by omega)]
           by_cases e : j = n
           · subst e; rw [if_pos rfl, if_pos rfl]
           · rw [if_neg (by omega), if_neg e]
         · rw [if_neg hj1, if_neg hj1, if_neg (by omega)]
     · rw [if_neg h1, eG, eG]
       by_cases hj : j = 0
       · subst hj; rw [if_pos rfl, if_neg (by omega), if_pos rfl]
       · rw [if_neg hj, if_neg hj]
         by_cases hj1 : j % 2 = 1
         · rw [if_pos hj1, if_pos hj1, if_neg (by omega)]
         · rw [if_neg hj1, if_neg hj1, tu d r (n / 2 - 1) v (j / 2 - 1) (by omega)]
           by_cases e : j = n
           · subst e; rw [if_pos rfl, if_pos rfl]
           · rw [if_neg (by omega), if_neg e]
theorem tC {t : Tr SV} {n : Nat} {v : SV} (j : Nat) (h : n < 16777215) : gX (uq t n v) j = if j = n then v else gX t j := by
 rw [RB, aaw]; exact tu _ t n v j h
theorem oM {t : OB} {n : Nat} {v : Option Ob} (j : Nat) (h : n < 16777215) : ay (lX t n v) j = if j = n then v else ay t j := by
 rw [YG, aav]; exact tu _ t n v j h
def look (l : Lo) (j : Nat) : SV := @Lo.rec (fun _ => SV) .junk (fun d s _ ih => BS (Nat.beq d j) s ih) l
def view (fl : Nat) (sl : Tr SV) (lo : Lo) (j : Nat) : SV := BS (fQ fl j) (gX sl j) (look lo j)
def Oi (c : Option Nat) : Nat -> Nat -> Nat -> Nat -> (SV -> R) -> R := @Option.rec Nat (fun _ => Nat -> Nat -> Nat -> Nat -> (SV -> R) -> R) (fun i z o n f => f (.sl i z o n none)) (fun c i z o n f => fN c fun c => f (.sl i z o n (some c))) c
def RA (s : SV) : (SV -> R) -> R := @SV.rec (fun _ => (SV -> R) -> R) (fun _ => PUnit) (fun f => f .junk) (fun d f => f (.dt d)) (fun l _ f => f (.agg l)) (fun l _ f => f (.tup l)) (fun i a f => fN a fun a => f (.ptr i a)) (fun m g f => f (.el m g)) (fun m c _ f => f (.fn m c)) (fun b f => fB b fun b => f (.kb b)) (fun k n f => fI n fun n => f (.ki k n)) (fun i f => f (.nm i)) (fun i a z o f => fN a fun a => fN o fun o => f (.rp i a z o)) (fun k a b n f => fI a fun a => fI b fun b => f (.ri k a b n)) (fun i z o n c f => fN o fun o => fN n fun n => Oi c i z o n f) (fun s f => f (.sy s)) PUnit.unit (fun _ _ _ _ => PUnit.unit) s
theorem V9 (s : SV) (f : SV -> R) : RA s f = f s := by
 cases s with
 | sl i z o n c => cases c <;> simp only [RA, Oi, oG]
 | _ => simp only [RA, Rs, XC, oG]
def Wd (l : List SV) : (List SV -> R) -> R := @List.rec SV (fun _ => (List SV -> R) -> R) (fun f => f []) (fun s _ ih f => RA s fun s => ih fun l => f (s :: l)) l
theorem Og : ∀ (l : List SV) (f : List SV -> R), Wd l f = f l
 | [], _ => rfl
 | s :: l, f => by
   show RA s (fun s => Wd l fun l => f (s :: l)) = _
   rw [V9, Og l]
def PE (s : SV) : (SV -> R) -> R := @SV.rec (fun _ => (SV -> R) -> R) (fun _ => PUnit) (fun f => f .junk) (fun d f => f (.dt d)) (fun l _ f => Wd l fun l => f (.agg l)) (fun l _ f => Wd l fun l => f (.tup l)) (fun i a f => fN a fun a => f (.ptr i a)) (fun m g f => f (.el m g)) (fun m c _ f => f (.fn m c)) (fun b f => fB b fun b => f (.kb b)) (fun k n f => fI n fun n => f (.ki k n)) (fun i f => f (.nm i)) (fun i a z o f => fN a fun a => fN o fun o => f (.rp i a z o)) (fun k a b n f => fI a fun a => fI b fun b => f (.ri k a b n)) (fun i z o n c f => fN o fun o => fN n fun n => Oi c i z o n f) (fun s f => f (.sy s)) PUnit.unit (fun _ _ _ _ => PUnit.unit) s
theorem Oh (s : SV) (f : SV -> R) : PE s f = f s := by
 cases s with
 | sl i z o n c => cases c <;> simp only [PE, Oi, oG]
 | _ => simp only [PE, Og, Rs, XC, oG]
abbrev KK := SV -> OB -> Nat -> R
abbrev II := Nat -> Nat -> FuncId -> List SV -> OB -> Nat -> KK -> R
structure EX where
 I : II
 top : Nat
 base : Nat
 W : Nat -> Nat
abbrev Ev := Operand -> SV
abbrev OpK := Program -> EX -> Oper -> Ev -> OB -> Nat -> KK -> R
def VT {α : Type} (t : T α) : Bool := @T.rec α (fun _ => Bool) (fun _ => true) (fun _ _ _ a b => @Bool.rec (fun _ => Bool) false b a) (fun _ _ a => a) (fun _ _ _ _ => false) (fun _ _ _ => false) true t
theorem xG {α : Type} : ∀ t : T α, VT t = t.det
 | .ret _ => rfl
 | .ite _ t e => by
   show @Bool.rec (fun _ => Bool) false (VT e) (VT t) = (t.det && e.det)
   rw [xG t, xG e]
   cases t.det <;> rfl
 | .need _ t => xG t
 | .both _ _ => rfl
 | .all _ _ => rfl
 | .fail => rfl
def yA {α : Type} (t : T α) (k : α -> R) : R := @T.rec α (fun _ => R) k (fun b _ _ x y => .ite b x y) (fun p _ x => .need p x) (fun _ _ _ _ => .fail) (fun _ _ _ => .fail) .fail t
theorem nY {α : Type} {k : α -> R} : ∀ t : T α, t.det = true -> yA t k = t.bind k
 | .ret _, _ => rfl
 | .ite b t e, h => by
   simp only [T.det, Bool.and_eq_true] at h
   show T.ite b (yA t k) (yA e k) = .ite b (t.bind k) (e.bind k)
   rw [nY t h.1, nY e h.2]
 | .need p t, h => by
   show T.need p (yA t k) = .need p (t.bind k)
   rw [nY t h]
 | .both _ _, h => by cases h
 | .all _ _, h => by cases h
 | .fail, _ => rfl
def V3 (ob : OB) (us : List (Nat × Option Ob)) : OB := @List.rec (Nat × Option Ob) (fun _ => OB) ob (fun x _ ih => lX ih x.1 x.2) us
def aez (top base nb : Nat) (e : Eff) : Bool := iG nb e.new && (Nat.ble (nb + e.new.length) top && (e.us.all fun x => Nat.blt x.1 (nb + e.new.length) && Nat.ble base x.1))
def YM (X : EX) (ob : OB) (nb : Nat) (e : Eff) (c : OB -> Nat -> R) : R :=
 match e with
 | ⟨[], []⟩ => c ob nb
 | e => BR (aez X.top X.base nb e) (fN (nb + e.new.length) fun nb' => c (V3 ob e.us) nb') .fail
def qR (X : EX) (t : T Res) (ob : OB) (nb : Nat) (k : KK) : R :=
 BR (VT t) (yA t fun r => YM X ob nb r.eff fun ob nb => k r.sv ob nb) .fail
def KP (post : SV × HD -> Prop) (k : KK) (y : SV × HS) : Prop := ∃ ob', y.2.obj = ay ob' /\ (k y.1 ob' y.2.nob).holds post
theorem Il : ∀ (us : List (Nat × Option Ob)) (ob : OB) (j : Nat), (∀ x ∈ us, x.1 < 16777215) -> ay (V3 ob us) j = (us.lookup j).getD (ay ob j)
 | [], _, _, _ => rfl
 | (i, x) :: l, ob, j, h => by
   show ay (lX (V3 ob l) i x) j = _
   rw [oM j (show i < 16777215 from h (i, x) (by simp)), Il l ob j fun y hy => h y (by simp [hy])]
   by_cases e : j = i
   · subst e; simp [List.lookup]
   · have : (j == i) = false := by simpa using e
     simp [List.lookup, this, e]
def dJ (top nb : Nat) : Prop := nb <= top /\ top <= 16777215
def FOk (ob : OB) (nb : Nat) : Prop := ∀ i, nb <= i -> ay ob i = none
theorem RP {E : CEnv} {X : EX} {ob : OB} {nb : Nat} {e : Eff} {c : OB -> Nat -> R} {post : SV × HD -> Prop} (ht : X.top = E.top) (hb : X.base = E.base) (hT : dJ E.top nb) (h : (YM X ob nb e c).holds post) :
  jf E ⟨ay ob, nb⟩ e = true /\ ∃ ob', ((⟨ay ob, nb⟩ : HS).eff e).obj = ay ob' /\ (c ob' (nb + e.new.length)).holds post := by
 unfold YM at h
 split at h
 · refine ⟨?_, ob, by funext j; rfl, h⟩
   simp only [jf, iG, List.length_nil, Nat.add_zero, List.all_nil, Bool.and_true, Bool.true_and]
   exact Nat.ble_eq_true_of_le hT.1
 · rw [dh] at h
   cases he : aez X.top X.base nb e with
   | false => rw [he] at h; exact h.elim
   | true =>
     rw [he, cond_true, oG] at h
     have hc : jf E ⟨ay ob, nb⟩ e = true := by rw [ht, hb] at he; exact he
     refine ⟨hc, V3 ob e.us, ?_, h⟩
     obtain ⟨_, h2, h3⟩ := mM hc
     have h2 : nb + e.new.length <= E.top := h2
     funext j
     rw [Il]
     · rfl
     · intro x hx
       have : x.1 < nb + e.new.length := (h3 x hx).1
       have := hT.2
       omega
theorem fq {E : CEnv} {X : EX} {t : T Res} {ob : OB} {nb : Nat} {k : KK} {post : SV × HD -> Prop} (ht : X.top = E.top) (hb : X.base = E.base) (hT : dJ E.top nb) (h : (qR X t ob nb k).holds post) :
  (lift E ⟨ay ob, nb⟩ t).holds (KP post k) := by
 unfold qR at h
 rw [dh, xG] at h
 unfold lift
 cases hd : t.det with
 | false => rw [hd] at h; exact h.elim
 | true =>
   rw [hd, cond_true, nY t hd, T.ak] at h
   rw [cond_true, T.ak]
   refine T.aD (fun r hr => ?_) _ h
   obtain ⟨h1, ob', h2, h3⟩ := RP ht hb hT hr
   rw [h1]
   exact ⟨ob', h2, h3⟩
end
end Rx
