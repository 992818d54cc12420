/- Rx, part X1: the evaluator for the kernel: trees, values that are made ready, one way on. -/
import Derived.Test.YtkbdcpkbmfegdaaGreatDoorRxW9
set_option linter.unusedSectionVars false
set_option linter.unusedSimpArgs false
set_option linter.unusedVariables false
namespace Rx
open Go
variable [Glob]
noncomputable section
abbrev OB := Tr (Option Ob)
structure HD where
 ob : OB
 nb : Nat
abbrev R := T (SV × HD)
inductive Lo where
 | nil
 | cons (d : Nat) (s : SV) (r : Lo)
def BR (b : Bool) (x y : R) : R := @Bool.rec (fun _ => R) y x b
def BS (b : Bool) (x y : SV) : SV := @Bool.rec (fun _ => SV) y x b
def BO (b : Bool) (x y : Option Ob) : Option Ob := @Bool.rec (fun _ => Option Ob) y x b
def BTS (b : Bool) (x y : Tr SV) : Tr SV := @Bool.rec (fun _ => Tr SV) y x b
def BTO (b : Bool) (x y : OB) : OB := @Bool.rec (fun _ => OB) y x b
theorem dN (b : Bool) (x y : R) : BR b x y = bif b then x else y := by cases b <;> rfl
def fN (n : Nat) (f : Nat -> R) : R := @Nat.rec (fun _ => R) (f (nat_lit 0)) (fun m _ => f (Nat.succ m)) n
def fB (b : Bool) (f : Bool -> R) : R := @Bool.rec (fun _ => R) (f false) (f true) b
def fI (n : Int) (f : Int -> R) : R := @Int.rec (fun _ => R) (fun m => fN m fun m => f (.ofNat m)) (fun m => fN m fun m => f (.negSucc m)) n
theorem qD (n : Nat) (f : Nat -> R) : fN n f = f n := by cases n <;> rfl
theorem Xq (b : Bool) (f : Bool -> R) : fB b f = f b := by cases b <;> rfl
theorem RH (n : Int) (f : Int -> R) : fI n f = f n := by
 cases n with
 | ofNat m => exact qD m fun m => f (.ofNat m)
 | negSucc m => exact qD m fun m => f (.negSucc m)
def ev2 (n : Nat) : Bool := Nat.beq (Nat.land n (nat_lit 1)) (nat_lit 1)
theorem NQ (n : Nat) : ev2 n = (n % 2).beq 1 := by
 show Nat.beq (Nat.land n 1) 1 = _
 have : Nat.land n 1 = n % 2 := Nat.and_one_is_mod n
 rw [this]
def hf (n : Nat) : Nat := Nat.shiftRight n (nat_lit 1)
theorem U7 (n : Nat) : hf n = n / 2 := by
 show n >>> 1 = _
 rw [Nat.shiftRight_eq_div_pow]
def gZ (t : Tr SV) : Nat -> SV := @Tr.rec SV (fun _ => Nat -> SV) (fun _ => .junk) (fun _ v _ gl gr n => BS (Nat.beq n (nat_lit 0)) v (BS (ev2 n) (gl (Nat.shiftRight n (nat_lit 1))) (gr (Nat.pred (Nat.shiftRight n (nat_lit 1)))))) t
def av (t : OB) : Nat -> Option Ob := @Tr.rec (Option Ob) (fun _ => Nat -> Option Ob) (fun _ => none) (fun _ v _ gl gr n => BO (Nat.beq n (nat_lit 0)) v (BO (ev2 n) (gl (Nat.shiftRight n (nat_lit 1))) (gr (Nat.pred (Nat.shiftRight n (nat_lit 1)))))) t
def newS (k : Nat) : Nat -> SV -> Tr SV := @Nat.rec (fun _ => Nat -> SV -> Tr SV) (fun _ _ => .nil)
 (fun _ ih n v => BTS (Nat.beq n (nat_lit 0)) (.node .nil v .nil) (BTS (ev2 n) (.node (ih (Nat.shiftRight n (nat_lit 1)) v) .junk .nil) (.node .nil .junk (ih (Nat.pred (Nat.shiftRight n (nat_lit 1))) v)))) k
def qG (t : Tr SV) : Nat -> SV -> Tr SV := @Tr.rec SV (fun _ => Nat -> SV -> Tr SV) (fun n v => newS (nat_lit 24) n v)
 (fun l x r sl sr n v => BTS (Nat.beq n (nat_lit 0)) (.node l v r) (BTS (ev2 n) (.node (sl (Nat.shiftRight n (nat_lit 1)) v) x r) (.node l x (sr (Nat.pred (Nat.shiftRight n (nat_lit 1))) v)))) t
def aaO (k : Nat) : Nat -> Option Ob -> OB := @Nat.rec (fun _ => Nat -> Option Ob -> OB) (fun _ _ => .nil)
 (fun _ ih n v => BTO (Nat.beq n (nat_lit 0)) (.node .nil v .nil) (BTO (ev2 n) (.node (ih (Nat.shiftRight n (nat_lit 1)) v) none .nil) (.node .nil none (ih (Nat.pred (Nat.shiftRight n (nat_lit 1))) v)))) k
def mH (t : OB) : Nat -> Option Ob -> OB := @Tr.rec (Option Ob) (fun _ => Nat -> Option Ob -> OB) (fun n v => aaO (nat_lit 24) n v)
 (fun l x r sl sr n v => BTO (Nat.beq n (nat_lit 0)) (.node l v r) (BTO (ev2 n) (.node (sl (Nat.shiftRight n (nat_lit 1)) v) x r) (.node l x (sr (Nat.pred (Nat.shiftRight n (nat_lit 1))) v)))) t
def gB {α : Type} (b : Bool) (x y : α) : α := @Bool.rec (fun _ => α) y x b
def Ai {α : Type} (d : α) (t : Tr α) : Nat -> α := @Tr.rec α (fun _ => Nat -> α) (fun _ => d) (fun _ v _ gl gr n => gB (Nat.beq n (nat_lit 0)) v (gB (ev2 n) (gl (Nat.shiftRight n (nat_lit 1))) (gr (Nat.pred (Nat.shiftRight n (nat_lit 1)))))) t
def FP {α : Type} (d : α) (k : Nat) : Nat -> α -> Tr α := @Nat.rec (fun _ => Nat -> α -> Tr α) (fun _ _ => .nil)
 (fun _ ih n v => gB (Nat.beq n (nat_lit 0)) (.node .nil v .nil) (gB (ev2 n) (.node (ih (Nat.shiftRight n (nat_lit 1)) v) d .nil) (.node .nil d (ih (Nat.pred (Nat.shiftRight n (nat_lit 1))) v)))) k
def Em {α : Type} (d : α) (t : Tr α) : Nat -> α -> Tr α := @Tr.rec α (fun _ => Nat -> α -> Tr α) (fun n v => FP d (nat_lit 24) n v)
 (fun l x r sl sr n v => gB (Nat.beq n (nat_lit 0)) (.node l v r) (gB (ev2 n) (.node (sl (Nat.shiftRight n (nat_lit 1)) v) x r) (.node l x (sr (Nat.pred (Nat.shiftRight n (nat_lit 1))) v)))) t
theorem GJ {α : Type} (b : Bool) (x y : α) : gB b x y = bif b then x else y := by cases b <;> rfl
theorem Sn : gZ = Ai .junk := rfl
theorem Zf : av = Ai none := rfl
theorem aaB : BTS = gB := rfl
theorem aa9 : BTO = gB := rfl
theorem Yo : newS = FP .junk := by funext k; rfl
theorem YA : aaO = FP none := by funext k; rfl
theorem TB : qG = Em .junk := by
 funext t
 unfold qG Em
 simp only [Yo, aaB]
theorem Yh : mH = Em none := by
 funext t
 unfold mH Em
 simp only [YA, aa9]
theorem fG {α : Type} (d : α) (l : Tr α) (v : α) (r : Tr α) (n : Nat) : Ai d (.node l v r) n = if n = 0 then v else if n % 2 = 1 then Ai d l (n / 2) else Ai d r (n / 2 - 1) := by
 show gB (Nat.beq n 0) v (gB (ev2 n) (Ai d l (hf n)) (Ai d r (Nat.pred (hf n)))) = _
 rw [GJ, GJ, NQ, U7]
 by_cases h : n = 0
 · subst h; rfl
 · rw [d9 h, cond_false, if_neg h]
   by_cases h2 : n % 2 = 1
   · rw [nk h2, cond_true, if_pos h2]
   · rw [d9 h2, cond_false, if_neg h2]
     rfl
theorem Hl {α : Type} (d : α) (k n : Nat) (v : α) : FP d (k + 1) n v = if n = 0 then .node .nil v .nil else if n % 2 = 1 then .node (FP d k (n / 2) v) d .nil else .node .nil d (FP d k (n / 2 - 1) v) := by
 show gB (Nat.beq n 0) (Tr.node .nil v .nil) (gB (ev2 n) (.node (FP d k (hf n) v) d .nil) (.node .nil d (FP d k (Nat.pred (hf n)) v))) = _
 rw [GJ, GJ, NQ, U7]
 by_cases h : n = 0
 · subst h; rfl
 · rw [d9 h, cond_false, if_neg h]
   by_cases h2 : n % 2 = 1
   · rw [nk h2, cond_true, if_pos h2]
   · rw [d9 h2, cond_false, if_neg h2]
     rfl
theorem GV {α : Type} (d : α) (l : Tr α) (x : α) (r : Tr α) (n : Nat) (v : α) : Em d (.node l x r) n v = if n = 0 then .node l v r else if n % 2 = 1 then .node (Em d l (n / 2) v) x r else .node l x (Em d r (n / 2 - 1) v) := by
 show gB (Nat.beq n 0) (Tr.node l v r) (gB (ev2 n) (.node (Em d l (hf n) v) x r) (.node l x (Em d r (Nat.pred (hf n)) v))) = _
 rw [GJ, GJ, NQ, U7]
 by_cases h : n = 0
 · subst h; rfl
 · rw [d9 h, cond_false, if_neg h]
   by_cases h2 : n % 2 = 1
   · rw [nk h2, cond_true, if_pos h2]
   · rw [d9 h2, cond_false, if_neg h2]
     rfl
theorem xu {α : Type} (d : α) (n : Nat) : Ai d .nil n = d := rfl
theorem Dw {α : Type} (d : α) : ∀ (k n : Nat) (v : α) (j : Nat), n < 2 ^ k - 1 -> Ai d (FP d k n v) j = if j = n then v else d
 | 0, n, v, j, h => by simp at h
 | k + 1, n, v, j, h => by
   have hp : 2 ^ (k + 1) = 2 * 2 ^ k := by rw [Nat.pow_succ, Nat.mul_comm]
   have hpos : 0 < 2 ^ k := Nat.two_pow_pos k
   rw [Hl]
   by_cases h0 : n = 0
   · subst h0
     rw [if_pos rfl, fG]
     by_cases hj : j = 0
     · rw [if_pos hj, if_pos hj]
     · rw [if_neg hj, if_neg hj, xu, xu]; split <;> rfl
   · rw [if_neg h0]
     by_cases h1 : n % 2 = 1
     · rw [if_pos h1, fG]
       by_cases hj : j = 0
       · subst hj; rw [if_pos rfl, if_neg (by omega)]
       · rw [if_neg hj]
         by_cases hj1 : j % 2 = 1
         · rw [if_pos hj1, Dw d k (n / 2) v (j / 2) (by omega)]
           by_cases e : j = n
           · subst e; rw [if_pos rfl, if_pos rfl]
           · rw [if_neg (by omega), if_neg e]
         · rw [if_neg hj1, xu, if_neg (by omega)]
     · rw [if_neg h1, fG]
       by_cases hj : j = 0
       · subst hj; rw [if_pos rfl, if_neg (by omega)]
       · rw [if_neg hj]
         by_cases hj1 : j % 2 = 1
         · rw [if_pos hj1, xu, if_neg (by omega)]
         · rw [if_neg hj1, Dw d k (n / 2 - 1) v (j / 2 - 1) (by omega)]
           by_cases e : j = n
           · subst e; rw [if_pos rfl, if_pos rfl]
           · rw [if_neg (by omega), if_neg e]
theorem wZ {α : Type} (d : α) : ∀ (t : Tr α) (n : Nat) (v : α) (j : Nat), n < 16777215 -> Ai d (Em d t n v) j = if j = n then v else Ai d t j
 | .nil, n, v, j, h => Dw d 24 n v j (by simpa using h)
 | .node l x r, n, v, j, h => by
   rw [GV]
   by_cases h0 : n = 0
   · subst h0
     rw [if_pos rfl, fG, fG]
     by_cases hj : j = 0
     · rw [if_pos hj, if_pos hj]
     · rw [if_neg hj, if_neg hj, if_neg hj]
   · rw [if_neg h0]
     by_cases h1 : n % 2 = 1
     · rw [if_pos h1, fG, fG]
       by_cases hj : j = 0
       · subst hj; rw [if_pos rfl, if_neg (by omega), if_pos rfl]
       · rw [if_neg hj, if_neg hj]
         by_cases hj1 : j % 2 = 1
         · rw [if_pos hj1, if_pos hj1, wZ d l (n / 2) v (j / 2) (by omega)]
           by_cases e : j = n
           · subst e; rw [if_pos rfl, if_pos rfl]
           · rw [if_neg (by omega), if_neg e]
         · rw [if_neg hj1, if_neg hj1, if_neg (by omega)]
     · rw [if_neg h1, fG, fG]
       by_cases hj : j = 0
       · subst hj; rw [if_pos rfl, if_neg (by omega), if_pos rfl]
       · rw [if_neg hj, if_neg hj]
         by_cases hj1 : j % 2 = 1
         · rw [if_pos hj1, if_pos hj1, if_neg (by omega)]
         · rw [if_neg hj1, if_neg hj1, wZ d r (n / 2 - 1) v (j / 2 - 1) (by omega)]
           by_cases e : j = n
           · subst e; rw [if_pos rfl, if_pos rfl]
           · rw [if_neg (by omega), if_neg e]
theorem vL {t : Tr SV} {n : Nat} {v : SV} (j : Nat) (h : n < 16777215) : gZ (qG t n v) j = if j = n then v else gZ t j := by
 rw [Sn, TB]; exact wZ _ t n v j h
theorem qz {t : OB} {n : Nat} {v : Option Ob} (j : Nat) (h : n < 16777215) : av (mH t n v) j = if j = n then v else av t j := by
 rw [Zf, Yh]; exact wZ _ t n v j h
def look (l : Lo) (j : Nat) : SV := @Lo.rec (fun _ => SV) .junk (fun d s _ ih => BS (Nat.beq d j) s ih) l
def view (fl : Nat) (sl : Tr SV) (lo : Lo) (j : Nat) : SV := BS (gG fl j) (gZ sl j) (look lo j)
def OH (c : Option Nat) : Nat -> Nat -> Nat -> Nat -> (SV -> R) -> R := @Option.rec Nat (fun _ => Nat -> Nat -> Nat -> Nat -> (SV -> R) -> R) (fun i z o n f => f (.sl i z o n none)) (fun c i z o n f => fN c fun c => f (.sl i z o n (some c))) c
def Ut (s : SV) : (SV -> R) -> R := @SV.rec (fun _ => (SV -> R) -> R) (fun _ => PUnit) (fun f => f .junk) (fun d f => f (.dt d)) (fun l _ f => f (.agg l)) (fun l _ f => f (.tup l)) (fun i a f => fN a fun a => f (.ptr i a)) (fun m g f => f (.el m g)) (fun m c _ f => f (.fn m c)) (fun b f => fB b fun b => f (.kb b)) (fun k n f => fI n fun n => f (.ki k n)) (fun i f => f (.nm i)) (fun i a z o f => fN a fun a => fN o fun o => f (.rp i a z o)) (fun k a b n f => fI a fun a => fI b fun b => f (.ri k a b n)) (fun i z o n c f => fN o fun o => fN n fun n => OH c i z o n f) (fun s f => f (.sy s)) PUnit.unit (fun _ _ _ _ => PUnit.unit) s
theorem Vx (s : SV) (f : SV -> R) : Ut s f = f s := by
 cases s with
 | sl i z o n c => cases c <;> simp only [Ut, OH, qD]
 | _ => simp only [Ut, RH, Xq, qD]
def U9 (l : List SV) : (List SV -> R) -> R := @List.rec SV (fun _ => (List SV -> R) -> R) (fun f => f []) (fun s _ ih f => Ut s fun s => ih fun l => f (s :: l)) l
theorem O4 : ∀ (l : List SV) (f : List SV -> R), U9 l f = f l
 | [], _ => rfl
 | s :: l, f => by
   show Ut s (fun s => U9 l fun l => f (s :: l)) = _
   rw [Vx, O4 l]
def QB (s : SV) : (SV -> R) -> R := @SV.rec (fun _ => (SV -> R) -> R) (fun _ => PUnit) (fun f => f .junk) (fun d f => f (.dt d)) (fun l _ f => U9 l fun l => f (.agg l)) (fun l _ f => U9 l fun l => f (.tup l)) (fun i a f => fN a fun a => f (.ptr i a)) (fun m g f => f (.el m g)) (fun m c _ f => f (.fn m c)) (fun b f => fB b fun b => f (.kb b)) (fun k n f => fI n fun n => f (.ki k n)) (fun i f => f (.nm i)) (fun i a z o f => fN a fun a => fN o fun o => f (.rp i a z o)) (fun k a b n f => fI a fun a => fI b fun b => f (.ri k a b n)) (fun i z o n c f => fN o fun o => fN n fun n => OH c i z o n f) (fun s f => f (.sy s)) PUnit.unit (fun _ _ _ _ => PUnit.unit) s
theorem PE (s : SV) (f : SV -> R) : QB s f = f s := by
 cases s with
 | sl i z o n c => cases c <;> simp only [QB, OH, qD]
 | _ => simp only [QB, O4, RH, Xq, qD]
abbrev KK := SV -> OB -> Nat -> R
abbrev II := Nat -> Nat -> FuncId -> List SV -> OB -> Nat -> KK -> R
structure EX where
 I : II
 top : Nat
 base : Nat
 W : Nat -> Nat
abbrev Ev := Operand -> SV
abbrev OpK := Program -> EX -> Oper -> Ev -> OB -> Nat -> KK -> R
def Vm {α : Type} (t : T α) : Bool := @T.rec α (fun _ => Bool) (fun _ => true) (fun _ _ _ a b => @Bool.rec (fun _ => Bool) false b a) (fun _ _ a => a) (fun _ _ _ _ => false) (fun _ _ _ => false) true t
theorem Bc {α : Type} : ∀ t : T α, Vm t = t.det
 | .ret _ => rfl
 | .ite _ t e => by
   show @Bool.rec (fun _ => Bool) false (Vm e) (Vm t) = (t.det && e.det)
   rw [Bc t, Bc e]
   cases t.det <;> rfl
 | .need _ t => Bc t
 | .both _ _ => rfl
 | .all _ _ => rfl
 | .fail => rfl
def CV {α : Type} (t : T α) (k : α -> R) : R := @T.rec α (fun _ => R) k (fun b _ _ x y => .ite b x y) (fun p _ x => .need p x) (fun _ _ _ _ => .fail) (fun _ _ _ => .fail) .fail t
theorem qQ {α : Type} {k : α -> R} : ∀ t : T α, t.det = true -> CV t k = t.bind k
 | .ret _, _ => rfl
 | .ite b t e, h => by
   simp only [T.det, Bool.and_eq_true] at h
   show T.ite b (CV t k) (CV e k) = .ite b (t.bind k) (e.bind k)
   rw [qQ t h.1, qQ e h.2]
 | .need p t, h => by
   show T.need p (CV t k) = .need p (t.bind k)
   rw [qQ t h]
 | .both _ _, h => by cases h
 | .all _ _, h => by cases h
 | .fail, _ => rfl
def VX (ob : OB) (us : List (Nat × Option Ob)) : OB := @List.rec (Nat × Option Ob) (fun _ => OB) ob (fun x _ ih => mH ih x.1 x.2) us
def aa4 (top base nb : Nat) (e : Eff) : Bool := iy nb e.new && (Nat.ble (nb + e.new.length) top && (e.us.all fun x => Nat.blt x.1 (nb + e.new.length) && Nat.ble base x.1))
def Zw (X : EX) (ob : OB) (nb : Nat) (e : Eff) (c : OB -> Nat -> R) : R :=
 match e with
 | ⟨[], []⟩ => c ob nb
 | e => BR (aa4 X.top X.base nb e) (fN (nb + e.new.length) fun nb' => c (VX ob e.us) nb') .fail
def pX (X : EX) (t : T Res) (ob : OB) (nb : Nat) (k : KK) : R :=
 BR (Vm t) (CV t fun r => Zw X ob nb r.eff fun ob nb => k r.sv ob nb) .fail
def KP (post : SV × HD -> Prop) (k : KK) (y : SV × HS) : Prop := ∃ ob', y.2.obj = av ob' /\ (k y.1 ob' y.2.nob).holds post
theorem Mh : ∀ (us : List (Nat × Option Ob)) (ob : OB) (j : Nat), (∀ x ∈ us, x.1 < 16777215) -> av (VX ob us) j = (us.lookup j).getD (av ob j)
 | [], _, _, _ => rfl
 | (i, x) :: l, ob, j, h => by
   show av (mH (VX ob l) i x) j = _
   rw [qz j (show i < 16777215 from h (i, x) (by simp)), Mh l ob j fun y hy => h y (by simp [hy])]
   by_cases e : j = i
   · subst e; simp [List.lookup]
   · have : (j == i) = false := by simpa using e
     simp [List.lookup, this, e]
def dW (top nb : Nat) : Prop := nb <= top /\ top <= 16777215
def FOk (ob : OB) (nb : Nat) : Prop := ∀ i, nb <= i -> av ob i = none
theorem TJ {E : CEnv} {X : EX} {ob : OB} {nb : Nat} {e : Eff} {c : OB -> Nat -> R} {post : SV × HD -> Prop} (ht : X.top = E.top) (hb : X.base = E.base) (hT : dW E.top nb) (h : (Zw X ob nb e c).holds post) :
  jy E ⟨av ob, nb⟩ e = true /\ ∃ ob', ((⟨av ob, nb⟩ : HS).eff e).obj = av ob' /\ (c ob' (nb + e.new.length)).holds post := by
 unfold Zw at h
 split at h
 · refine ⟨?_, ob, by funext j; rfl, h⟩
   simp only [jy, iy, List.length_nil, Nat.add_zero, List.all_nil, Bool.and_true, Bool.true_and]
   exact Nat.ble_eq_true_of_le hT.1
 · rw [dN] at h
   cases he : aa4 X.top X.base nb e with
   | false => rw [he] at h; exact h.elim
   | true =>
     rw [he, cond_true, qD] at h
     have hc : jy E ⟨av ob, nb⟩ e = true := by rw [ht, hb] at he; exact he
     refine ⟨hc, VX ob e.us, ?_, h⟩
     obtain ⟨_, h2, h3⟩ := oC hc
     have h2 : nb + e.new.length <= E.top := h2
     funext j
     rw [Mh]
     · rfl
     · intro x hx
       have : x.1 < nb + e.new.length := (h3 x hx).1
       have := hT.2
       omega
theorem fq {E : CEnv} {X : EX} {t : T Res} {ob : OB} {nb : Nat} {k : KK} {post : SV × HD -> Prop} (ht : X.top = E.top) (hb : X.base = E.base) (hT : dW E.top nb) (h : (pX X t ob nb k).holds post) :
  (lift E ⟨av ob, nb⟩ t).holds (KP post k) := by
 unfold pX at h
 rw [dN, Bc] at h
 unfold lift
 cases hd : t.det with
 | false => rw [hd] at h; exact h.elim
 | true =>
   rw [hd, cond_true, qQ t hd, T.ak] at h
   rw [cond_true, T.ak]
   refine T.aC (fun r hr => ?_) _ h
   obtain ⟨h1, ob', h2, h3⟩ := TJ ht hb hT hr
   rw [h1]
   exact ⟨ob', h2, h3⟩
end
end Rx
