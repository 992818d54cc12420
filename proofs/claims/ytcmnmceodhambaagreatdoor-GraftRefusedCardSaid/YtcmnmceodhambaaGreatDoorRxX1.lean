/- Rx, part X1: the evaluator for the kernel: trees, values that are made ready, one way on. -/
import Derived.Test.YtcmnmceodhambaaGreatDoorRxW9
set_option linter.unusedSectionVars false
set_option linter.unusedSimpArgs false
set_option linter.unusedVariables false
namespace Rx
open Go
variable [Glob]
noncomputable section
abbrev OB := Tr (Option Ob)
structure HD where
 ob : OB
 nb : Nat
abbrev R := T (SV × HD)
inductive Lo where
 | nil
 | cons (d : Nat) (s : SV) (r : Lo)
def BR (b : Bool) (x y : R) : R := @Bool.rec (fun _ => R) y x b
def BS (b : Bool) (x y : SV) : SV := @Bool.rec (fun _ => SV) y x b
def BO (b : Bool) (x y : Option Ob) : Option Ob := @Bool.rec (fun _ => Option Ob) y x b
def BTS (b : Bool) (x y : Tr SV) : Tr SV := @Bool.rec (fun _ => Tr SV) y x b
def BTO (b : Bool) (x y : OB) : OB := @Bool.rec (fun _ => OB) y x b
theorem dF (b : Bool) (x y : R) : BR b x y = bif b then x else y := by cases b <;> rfl
def fN (n : Nat) (f : Nat -> R) : R := @Nat.rec (fun _ => R) (f (nat_lit 0)) (fun m _ => f (Nat.succ m)) n
def fB (b : Bool) (f : Bool -> R) : R := @Bool.rec (fun _ => R) (f false) (f true) b
def fI (n : Int) (f : Int -> R) : R := @Int.rec (fun _ => R) (fun m => fN m fun m => f (.ofNat m)) (fun m => fN m fun m => f (.negSucc m)) n
theorem qo (n : Nat) (f : Nat -> R) : fN n f = f n := by cases n <;> rfl
theorem UM (b : Bool) (f : Bool -> R) : fB b f = f b := by cases b <;> rfl
theorem Si (n : Int) (f : Int -> R) : fI n f = f n := by
 cases n with
 | ofNat m => exact qo m fun m => f (.ofNat m)
 | negSucc m => exact qo m fun m => f (.negSucc m)
def ev2 (n : Nat) : Bool := Nat.beq (Nat.land n (nat_lit 1)) (nat_lit 1)
theorem KU (n : Nat) : ev2 n = (n % 2).beq 1 := by
 show Nat.beq (Nat.land n 1) 1 = _
 have : Nat.land n 1 = n % 2 := Nat.and_one_is_mod n
 rw [this]
def hf (n : Nat) : Nat := Nat.shiftRight n (nat_lit 1)
theorem PU (n : Nat) : hf n = n / 2 := by
 show n >>> 1 = _
 rw [Nat.shiftRight_eq_div_pow]
def gU (t : Tr SV) : Nat -> SV := @Tr.rec SV (fun _ => Nat -> SV) (fun _ => .junk) (fun _ v _ gl gr n => BS (Nat.beq n (nat_lit 0)) v (BS (ev2 n) (gl (Nat.shiftRight n (nat_lit 1))) (gr (Nat.pred (Nat.shiftRight n (nat_lit 1)))))) t
def aA (t : OB) : Nat -> Option Ob := @Tr.rec (Option Ob) (fun _ => Nat -> Option Ob) (fun _ => none) (fun _ v _ gl gr n => BO (Nat.beq n (nat_lit 0)) v (BO (ev2 n) (gl (Nat.shiftRight n (nat_lit 1))) (gr (Nat.pred (Nat.shiftRight n (nat_lit 1)))))) t
def newS (k : Nat) : Nat -> SV -> Tr SV := @Nat.rec (fun _ => Nat -> SV -> Tr SV) (fun _ _ => .nil)
 (fun _ ih n v => BTS (Nat.beq n (nat_lit 0)) (.node .nil v .nil) (BTS (ev2 n) (.node (ih (Nat.shiftRight n (nat_lit 1)) v) .junk .nil) (.node .nil .junk (ih (Nat.pred (Nat.shiftRight n (nat_lit 1))) v)))) k
def rW (t : Tr SV) : Nat -> SV -> Tr SV := @Tr.rec SV (fun _ => Nat -> SV -> Tr SV) (fun n v => newS (nat_lit 24) n v)
 (fun l x r sl sr n v => BTS (Nat.beq n (nat_lit 0)) (.node l v r) (BTS (ev2 n) (.node (sl (Nat.shiftRight n (nat_lit 1)) v) x r) (.node l x (sr (Nat.pred (Nat.shiftRight n (nat_lit 1))) v)))) t
def XZ (k : Nat) : Nat -> Option Ob -> OB := @Nat.rec (fun _ => Nat -> Option Ob -> OB) (fun _ _ => .nil)
 (fun _ ih n v => BTO (Nat.beq n (nat_lit 0)) (.node .nil v .nil) (BTO (ev2 n) (.node (ih (Nat.shiftRight n (nat_lit 1)) v) none .nil) (.node .nil none (ih (Nat.pred (Nat.shiftRight n (nat_lit 1))) v)))) k
def mG (t : OB) : Nat -> Option Ob -> OB := @Tr.rec (Option Ob) (fun _ => Nat -> Option Ob -> OB) (fun n v => XZ (nat_lit 24) n v)
 (fun l x r sl sr n v => BTO (Nat.beq n (nat_lit 0)) (.node l v r) (BTO (ev2 n) (.node (sl (Nat.shiftRight n (nat_lit 1)) v) x r) (.node l x (sr (Nat.pred (Nat.shiftRight n (nat_lit 1))) v)))) t
def gB {α : Type} (b : Bool) (x y : α) : α := @Bool.rec (fun _ => α) y x b
def zw {α : Type} (d : α) (t : Tr α) : Nat -> α := @Tr.rec α (fun _ => Nat -> α) (fun _ => d) (fun _ v _ gl gr n => gB (Nat.beq n (nat_lit 0)) v (gB (ev2 n) (gl (Nat.shiftRight n (nat_lit 1))) (gr (Nat.pred (Nat.shiftRight n (nat_lit 1)))))) t
def Dk {α : Type} (d : α) (k : Nat) : Nat -> α -> Tr α := @Nat.rec (fun _ => Nat -> α -> Tr α) (fun _ _ => .nil)
 (fun _ ih n v => gB (Nat.beq n (nat_lit 0)) (.node .nil v .nil) (gB (ev2 n) (.node (ih (Nat.shiftRight n (nat_lit 1)) v) d .nil) (.node .nil d (ih (Nat.pred (Nat.shiftRight n (nat_lit 1))) v)))) k
def AP {α : Type} (d : α) (t : Tr α) : Nat -> α -> Tr α := @Tr.rec α (fun _ => Nat -> α -> Tr α) (fun n v => Dk d (nat_lit 24) n v)
 (fun l x r sl sr n v => gB (Nat.beq n (nat_lit 0)) (.node l v r) (gB (ev2 n) (.node (sl (Nat.shiftRight n (nat_lit 1)) v) x r) (.node l x (sr (Nat.pred (Nat.shiftRight n (nat_lit 1))) v)))) t
theorem EK {α : Type} (b : Bool) (x y : α) : gB b x y = bif b then x else y := by cases b <;> rfl
theorem RP : gU = zw .junk := rfl
theorem VH : aA = zw none := rfl
theorem XA : BTS = gB := rfl
theorem Xb : BTO = gB := rfl
theorem Wz : newS = Dk .junk := by funext k; rfl
theorem V6 : XZ = Dk none := by funext k; rfl
theorem QU : rW = AP .junk := by
 funext t
 unfold rW AP
 simp only [Wz, XA]
theorem Vl : mG = AP none := by
 funext t
 unfold mG AP
 simp only [V6, Xb]
theorem eP {α : Type} (d : α) (l : Tr α) (v : α) (r : Tr α) (n : Nat) : zw d (.node l v r) n = if n = 0 then v else if n % 2 = 1 then zw d l (n / 2) else zw d r (n / 2 - 1) := by
 show gB (Nat.beq n 0) v (gB (ev2 n) (zw d l (hf n)) (zw d r (Nat.pred (hf n)))) = _
 rw [EK, EK, KU, PU]
 by_cases h : n = 0
 · subst h; rfl
 · rw [dN h, cond_false, if_neg h]
   by_cases h2 : n % 2 = 1
   · rw [ny h2, cond_true, if_pos h2]
   · rw [dN h2, cond_false, if_neg h2]
     rfl
theorem Ey {α : Type} (d : α) (k n : Nat) (v : α) : Dk d (k + 1) n v = if n = 0 then .node .nil v .nil else if n % 2 = 1 then .node (Dk d k (n / 2) v) d .nil else .node .nil d (Dk d k (n / 2 - 1) v) := by
 show gB (Nat.beq n 0) (Tr.node .nil v .nil) (gB (ev2 n) (.node (Dk d k (hf n) v) d .nil) (.node .nil d (Dk d k (Nat.pred (hf n)) v))) = _
 rw [EK, EK, KU, PU]
 by_cases h : n = 0
 · subst h; rfl
 · rw [dN h, cond_false, if_neg h]
   by_cases h2 : n % 2 = 1
   · rw [ny h2, cond_true, if_pos h2]
   · rw [dN h2, cond_false, if_neg h2]
     rfl
theorem EB {α : Type} (d : α) (l : Tr α) (x : α) (r : Tr α) (n : Nat) (v : α) : AP d (.node l x r) n v = if n = 0 then .node l v r else if n % 2 = 1 then .node (AP d l (n / 2) v) x r else .node l x (AP d r (n / 2 - 1) v) := by
 show gB (Nat.beq n 0) (Tr.node l v r) (gB (ev2 n) (.node (AP d l (hf n) v) x r) (.node l x (AP d r (Nat.pred (hf n)) v))) = _
 rw [EK, EK, KU, PU]
 by_cases h : n = 0
 · subst h; rfl
 · rw [dN h, cond_false, if_neg h]
   by_cases h2 : n % 2 = 1
   · rw [ny h2, cond_true, if_pos h2]
   · rw [dN h2, cond_false, if_neg h2]
     rfl
theorem vT {α : Type} (d : α) (n : Nat) : zw d .nil n = d := rfl
theorem BJ {α : Type} (d : α) : ∀ (k n : Nat) (v : α) (j : Nat), n < 2 ^ k - 1 -> zw d (Dk d k n v) j = if j = n then v else d
 | 0, n, v, j, h => by simp at h
 | k + 1, n, v, j, h => by
   have hp : 2 ^ (k + 1) = 2 * 2 ^ k := by rw [Nat.pow_succ, Nat.mul_comm]
   have hpos : 0 < 2 ^ k := Nat.two_pow_pos k
   rw [Ey]
   by_cases h0 : n = 0
   · subst h0
     rw [if_pos rfl, eP]
     by_cases hj : j = 0
     · rw [if_pos hj, if_pos hj]
     · rw [if_neg hj, if_neg hj, vT, vT]; split <;> rfl
   · rw [if_neg h0]
     by_cases h1 : n % 2 = 1
     · rw [if_pos h1, eP]
       by_cases hj : j = 0
       · subst hj; rw [if_pos rfl, if_neg (by omega)]
       · rw [if_neg hj]
         by_cases hj1 : j % 2 = 1
         · rw [if_pos hj1, BJ d k (n / 2) v (j / 2) (by omega)]
           by_cases e : j = n
           · subst e; rw [if_pos rfl, if_pos rfl]
           · rw [if_neg (by omega), if_neg e]
         · rw [if_neg hj1, vT, if_neg (by omega)]
     · rw [if_neg h1, eP]
       by_cases hj : j = 0
       · subst hj; rw [if_pos rfl, if_neg (by omega)]
       · rw [if_neg hj]
         by_cases hj1 : j % 2 = 1
         · rw [if_pos hj1, vT, if_neg (by omega)]
         · rw [if_neg hj1, BJ d k (n / 2 - 1) v (j / 2 - 1) (by omega)]
           by_cases e : j = n
           · subst e; rw [if_pos rfl, if_pos rfl]
           · rw [if_neg (by omega), if_neg e]
theorem wK {α : Type} (d : α) : ∀ (t : Tr α) (n : Nat) (v : α) (j : Nat), n < 16777215 -> zw d (AP d t n v) j = if j = n then v else zw d t j
 | .nil, n, v, j, h => BJ d 24 n v j (by simpa using h)
 | .node l x r, n, v, j, h => by
   rw [EB]
   by_cases h0 : n = 0
   · subst h0
     rw [if_pos rfl, eP, eP]
     by_cases hj : j = 0
     · rw [if_pos hj, if_pos hj]
     · rw [if_neg hj, if_neg hj, if_neg hj]
   · rw [if_neg h0]
     by_cases h1 : n % 2 = 1
     · rw [if_pos h1, eP, eP]
       by_cases hj : j = 0
       · subst hj; rw [if_pos rfl, if_neg (by omega), if_pos rfl]
       · rw [if_neg hj, if_neg hj]
         by_cases hj1 : j % 2 = 1
         · rw [if_pos hj1, if_pos hj1, wK d l (n / 2) v (j / 2) (by omega)]
           by_cases e : j = n
           · subst e; rw [if_pos rfl, if_pos rfl]
           · rw [if_neg (by omega), if_neg e]
         · rw [if_neg hj1, if_neg hj1, if_neg (by omega)]
     · rw [if_neg h1, eP, eP]
       by_cases hj : j = 0
       · subst hj; rw [if_pos rfl, if_neg (by omega), if_pos rfl]
       · rw [if_neg hj, if_neg hj]
         by_cases hj1 : j % 2 = 1
         · rw [if_pos hj1, if_pos hj1, if_neg (by omega)]
         · rw [if_neg hj1, if_neg hj1, wK d r (n / 2 - 1) v (j / 2 - 1) (by omega)]
           by_cases e : j = n
           · subst e; rw [if_pos rfl, if_pos rfl]
           · rw [if_neg (by omega), if_neg e]
theorem wH {t : Tr SV} {n : Nat} {v : SV} (j : Nat) (h : n < 16777215) : gU (rW t n v) j = if j = n then v else gU t j := by
 rw [RP, QU]; exact wK _ t n v j h
theorem rO {t : OB} {n : Nat} {v : Option Ob} (j : Nat) (h : n < 16777215) : aA (mG t n v) j = if j = n then v else aA t j := by
 rw [VH, Vl]; exact wK _ t n v j h
def look (l : Lo) (j : Nat) : SV := @Lo.rec (fun _ => SV) .junk (fun d s _ ih => BS (Nat.beq d j) s ih) l
def view (fl : Nat) (sl : Tr SV) (lo : Lo) (j : Nat) : SV := BS (fU fl j) (gU sl j) (look lo j)
def M9 (c : Option Nat) : Nat -> Nat -> Nat -> Nat -> (SV -> R) -> R := @Option.rec Nat (fun _ => Nat -> Nat -> Nat -> Nat -> (SV -> R) -> R) (fun i z o n f => f (.sl i z o n none)) (fun c i z o n f => fN c fun c => f (.sl i z o n (some c))) c
def Rw (s : SV) : (SV -> R) -> R := @SV.rec (fun _ => (SV -> R) -> R) (fun _ => PUnit) (fun f => f .junk) (fun d f => f (.dt d)) (fun l _ f => f (.agg l)) (fun l _ f => f (.tup l)) (fun i a f => fN a fun a => f (.ptr i a)) (fun m g f => f (.el m g)) (fun m c _ f => f (.fn m c)) (fun b f => fB b fun b => f (.kb b)) (fun k n f => fI n fun n => f (.ki k n)) (fun i f => f (.nm i)) (fun i a z o f => fN a fun a => fN o fun o => f (.rp i a z o)) (fun k a b n f => fI a fun a => fI b fun b => f (.ri k a b n)) (fun i z o n c f => fN o fun o => fN n fun n => M9 c i z o n f) (fun s f => f (.sy s)) PUnit.unit (fun _ _ _ _ => PUnit.unit) s
theorem TJ (s : SV) (f : SV -> R) : Rw s f = f s := by
 cases s with
 | sl i z o n c => cases c <;> simp only [Rw, M9, qo]
 | _ => simp only [Rw, Si, UM, qo]
def Sw (l : List SV) : (List SV -> R) -> R := @List.rec SV (fun _ => (List SV -> R) -> R) (fun f => f []) (fun s _ ih f => Rw s fun s => ih fun l => f (s :: l)) l
theorem Ny : ∀ (l : List SV) (f : List SV -> R), Sw l f = f l
 | [], _ => rfl
 | s :: l, f => by
   show Rw s (fun s => Sw l fun l => f (s :: l)) = _
   rw [TJ, Ny l]
def NP (s : SV) : (SV -> R) -> R := @SV.rec (fun _ => (SV -> R) -> R) (fun _ => PUnit) (fun f => f .junk) (fun d f => f (.dt d)) (fun l _ f => Sw l fun l => f (.agg l)) (fun l _ f => Sw l fun l => f (.tup l)) (fun i a f => fN a fun a => f (.ptr i a)) (fun m g f => f (.el m g)) (fun m c _ f => f (.fn m c)) (fun b f => fB b fun b => f (.kb b)) (fun k n f => fI n fun n => f (.ki k n)) (fun i f => f (.nm i)) (fun i a z o f => fN a fun a => fN o fun o => f (.rp i a z o)) (fun k a b n f => fI a fun a => fI b fun b => f (.ri k a b n)) (fun i z o n c f => fN o fun o => fN n fun n => M9 c i z o n f) (fun s f => f (.sy s)) PUnit.unit (fun _ _ _ _ => PUnit.unit) s
theorem L6 (s : SV) (f : SV -> R) : NP s f = f s := by
 cases s with
 | sl i z o n c => cases c <;> simp only [NP, M9, qo]
 | _ => simp only [NP, Ny, Si, UM, qo]
abbrev KK := SV -> OB -> Nat -> R
abbrev II := Nat -> Nat -> FuncId -> List SV -> OB -> Nat -> KK -> R
structure EX where
 I : II
 top : Nat
 base : Nat
 W : Nat -> Nat
abbrev Ev := Operand -> SV
abbrev OpK := Program -> EX -> Oper -> Ev -> OB -> Nat -> KK -> R
def Td {α : Type} (t : T α) : Bool := @T.rec α (fun _ => Bool) (fun _ => true) (fun _ _ _ a b => @Bool.rec (fun _ => Bool) false b a) (fun _ _ a => a) (fun _ _ _ _ => false) (fun _ _ _ => false) true t
theorem zV {α : Type} : ∀ t : T α, Td t = t.det
 | .ret _ => rfl
 | .ite _ t e => by
   show @Bool.rec (fun _ => Bool) false (Td e) (Td t) = (t.det && e.det)
   rw [zV t, zV e]
   cases t.det <;> rfl
 | .need _ t => zV t
 | .both _ _ => rfl
 | .all _ _ => rfl
 | .fail => rfl
def Bw {α : Type} (t : T α) (k : α -> R) : R := @T.rec α (fun _ => R) k (fun b _ _ x y => .ite b x y) (fun p _ x => .need p x) (fun _ _ _ _ => .fail) (fun _ _ _ => .fail) .fail t
theorem pX {α : Type} {k : α -> R} : ∀ t : T α, t.det = true -> Bw t k = t.bind k
 | .ret _, _ => rfl
 | .ite b t e, h => by
   simp only [T.det, Bool.and_eq_true] at h
   show T.ite b (Bw t k) (Bw e k) = .ite b (t.bind k) (e.bind k)
   rw [pX t h.1, pX e h.2]
 | .need p t, h => by
   show T.need p (Bw t k) = .need p (t.bind k)
   rw [pX t h]
 | .both _ _, h => by cases h
 | .all _ _, h => by cases h
 | .fail, _ => rfl
def Tj (ob : OB) (us : List (Nat × Option Ob)) : OB := @List.rec (Nat × Option Ob) (fun _ => OB) ob (fun x _ ih => mG ih x.1 x.2) us
def X4 (top base nb : Nat) (e : Eff) : Bool := gV nb e.new && (Nat.ble (nb + e.new.length) top && (e.us.all fun x => Nat.blt x.1 (nb + e.new.length) && Nat.ble base x.1))
def VG (X : EX) (ob : OB) (nb : Nat) (e : Eff) (c : OB -> Nat -> R) : R :=
 match e with
 | ⟨[], []⟩ => c ob nb
 | e => BR (X4 X.top X.base nb e) (fN (nb + e.new.length) fun nb' => c (Tj ob e.us) nb') .fail
def tu (X : EX) (t : T Res) (ob : OB) (nb : Nat) (k : KK) : R :=
 BR (Td t) (Bw t fun r => VG X ob nb r.eff fun ob nb => k r.sv ob nb) .fail
def KP (post : SV × HD -> Prop) (k : KK) (y : SV × HS) : Prop := ∃ ob', y.2.obj = aA ob' /\ (k y.1 ob' y.2.nob).holds post
theorem J2 : ∀ (us : List (Nat × Option Ob)) (ob : OB) (j : Nat), (∀ x ∈ us, x.1 < 16777215) -> aA (Tj ob us) j = (us.lookup j).getD (aA ob j)
 | [], _, _, _ => rfl
 | (i, x) :: l, ob, j, h => by
   show aA (mG (Tj ob l) i x) j = _
   rw [rO j (show i < 16777215 from h (i, x) (by simp)), J2 l ob j fun y hy => h y (by simp [hy])]
   by_cases e : j = i
   · subst e; simp [List.lookup]
   · have : (j == i) = false := by simpa using e
     simp [List.lookup, this, e]
def dQ (top nb : Nat) : Prop := nb <= top /\ top <= 16777215
def FOk (ob : OB) (nb : Nat) : Prop := ∀ i, nb <= i -> aA ob i = none
theorem Qo {E : CEnv} {X : EX} {ob : OB} {nb : Nat} {e : Eff} {c : OB -> Nat -> R} {post : SV × HD -> Prop} (ht : X.top = E.top) (hb : X.base = E.base) (hT : dQ E.top nb) (h : (VG X ob nb e c).holds post) :
  jc E ⟨aA ob, nb⟩ e = true /\ ∃ ob', ((⟨aA ob, nb⟩ : HS).eff e).obj = aA ob' /\ (c ob' (nb + e.new.length)).holds post := by
 unfold VG at h
 split at h
 · refine ⟨?_, ob, by funext j; rfl, h⟩
   simp only [jc, gV, List.length_nil, Nat.add_zero, List.all_nil, Bool.and_true, Bool.true_and]
   exact Nat.ble_eq_true_of_le hT.1
 · rw [dF] at h
   cases he : X4 X.top X.base nb e with
   | false => rw [he] at h; exact h.elim
   | true =>
     rw [he, cond_true, qo] at h
     have hc : jc E ⟨aA ob, nb⟩ e = true := by rw [ht, hb] at he; exact he
     refine ⟨hc, Tj ob e.us, ?_, h⟩
     obtain ⟨_, h2, h3⟩ := oG hc
     have h2 : nb + e.new.length <= E.top := h2
     funext j
     rw [J2]
     · rfl
     · intro x hx
       have : x.1 < nb + e.new.length := (h3 x hx).1
       have := hT.2
       omega
theorem fK {E : CEnv} {X : EX} {t : T Res} {ob : OB} {nb : Nat} {k : KK} {post : SV × HD -> Prop} (ht : X.top = E.top) (hb : X.base = E.base) (hT : dQ E.top nb) (h : (tu X t ob nb k).holds post) :
  (lift E ⟨aA ob, nb⟩ t).holds (KP post k) := by
 unfold tu at h
 rw [dF, zV] at h
 unfold lift
 cases hd : t.det with
 | false => rw [hd] at h; exact h.elim
 | true =>
   rw [hd, cond_true, pX t hd, T.ay] at h
   rw [cond_true, T.ay]
   refine T.aC (fun r hr => ?_) _ h
   obtain ⟨h1, ob', h2, h3⟩ := Qo ht hb hT hr
   rw [h1]
   exact ⟨ob', h2, h3⟩
end
end Rx
