/- Rx, part N: a region that draws its order comes to what it comes to in the order of the text. -/
import Derived.Test.YtkbdcpkbmfegdaaGreatDoorSRxKn
set_option linter.unusedSectionVars false
set_option linter.unusedSimpArgs false
set_option linter.unusedVariables false
namespace Rx
open Go
variable [Glob]
def Yn : Value -> Option Bool
 | .bool b => some b
 | _ => none
def Wants (E : Env) (ops : Array Oper) (o : Oper) (σ : St) (q : Bool) : Prop :=
 (o.guard = none /\ q = true) ∨ ∃ j want t, o.guard = some (j, want) /\ (ops[j]?).bind (·.dst) = some t /\ dstOk E.N (some t) = true /\
    ∀ C w v, rel C w (σ.get t) v -> (Yn v == some want) = q
structure StepF (E : Env) (ops : Array Oper) (rid i : Nat) (o : Oper) (σ σ' : St) (r : Res) : Prop where
 get : ∀ s C w v, rel C w (σ.get s) v -> rel C w (σ'.get s) v
 obj : σ'.obj = σ.obj
 nob : σ'.nob = σ.nob
 eff : effOk r.eff = true
 dst : dstOk E.N o.dst = true
 new : newOk r.eff σ'.nob = true
 kind : (Wants E ops o σ' true /\ (sxK E rid i (evS σ') σ'.obj σ'.nob o).ok /\ (sxK E rid i (evS σ') σ'.obj σ'.nob o).val = some r) ∨ (Wants E ops o σ' false /\ r = skipRes)
theorem Jp {N : Nat} {σ : St} {t : Nat} {s : SV} (ht : dstOk N (some t) = true) (h : ∀ C w v, rel C w (σ.get t) v -> rel C w s v) : ∀ j C w v, rel C w (σ.get j) v -> rel C w ((σ.put (some t) s).get j) v := by
 intro j C w v hr
 have hcap : ∀ t', some t = some t' -> bU t' = true := fun t' e => by injection e with e; subst e; simp only [dstOk, Bool.and_eq_true] at ht; exact ht.2
 rw [ug _ _ _ _ hcap, aS]
 by_cases hj : j = t
 · subst hj; simpa using h C w v hr
 · simp only [hj, if_false]; exact hr
theorem xL {E : Env} {ops : Array Oper} {rid i : Nat} {o : Oper} {σ0 σ : St} {x : Res × St} (hok : (GX E rid i o σ).ok) (hv : (GX E rid i o σ).val = some x)
  (hget : ∀ s C w v, rel C w (σ0.get s) v -> rel C w (σ.get s) v) (hobj : σ.obj = σ0.obj) (hnob : σ.nob = σ0.nob) (hw : Wants E ops o σ true) : StepF E ops rid i o σ0 x.2 x.1 := by
 unfold GX at hok hv
 cases hdet : VR E rid i (sxK E rid i (evS σ) σ.obj σ.nob o) with
 | false => rw [hdet] at hv; cases hv
 | true =>
 rw [hdet, cond_true] at hok hv
 obtain ⟨r, hr, hv⟩ := T.bM hv
 obtain ⟨hok1, hok2⟩ := T.bind_ok hok
 have hok2 := hok2 r hr
 cases hb : (effOk r.eff && dstOk E.N o.dst && newOk r.eff σ.nob) with
 | false => rw [hb] at hv; cases hv
 | true =>
   rw [hb] at hv
   simp only [cond_true, T.val, Option.some.injEq] at hv
   subst hv
   simp only [Bool.and_eq_true] at hb
   exact ⟨hget, hobj, hnob, hb.1.1, hb.1.2, hb.2, .inl ⟨hw, hok1, hr⟩⟩
theorem qI {E : Env} {ops : Array Oper} {rid i : Nat} {o : Oper} {σ0 σ : St} {x : Res × St} (hv : (p8 E o σ).val = some x)
  (hget : ∀ s C w v, rel C w (σ0.get s) v -> rel C w (σ.get s) v) (hobj : σ.obj = σ0.obj) (hnob : σ.nob = σ0.nob) (hw : Wants E ops o σ false) : StepF E ops rid i o σ0 x.2 x.1 := by
 unfold p8 at hv
 cases hb : dstOk E.N o.dst with
 | false => rw [hb] at hv; cases hv
 | true =>
   rw [hb] at hv
   simp only [cond_true, T.val, Option.some.injEq] at hv
   subst hv
   exact ⟨hget, hobj, hnob, rfl, hb, rfl, .inr ⟨hw, rfl⟩⟩
theorem NK {α : Type} (conc q : Bool) (A B : T α) : (brq conc q A B).val = (if q = true then A.val else B.val) /\ (brq conc q A B).ok = (if q = true then A.ok else B.ok) := by
 cases conc <;> cases q <;> exact ⟨rfl, rfl⟩
theorem Ql {E : Env} {ops : Array Oper} {rid i : Nat} {o : Oper} {σ : St} {x : Res × St} (hok : (jA E ops rid i o σ).ok) (hv : (jA E ops rid i o σ).val = some x) : StepF E ops rid i o σ x.2 x.1 := by
 unfold jA at hok hv
 split at hok
 · rename_i hg
   simp only [hg] at hv
   exact xL hok hv (fun _ _ _ _ h => h) rfl rfl (.inl ⟨hg, rfl⟩)
 · rename_i j want hg
   simp only [hg] at hv
   split at hok
   · exact hok.elim
   · rename_i t hj
     simp only [hj] at hv
     cases hd : dstOk E.N (some t) with
     | false => rw [hd] at hok; exact hok.elim
     | true =>
       rw [hd, cond_true] at hok hv
       split at hok
       · rename_i b hs
         simp only [hs] at hv
         have hw : ∀ q, (bif b then want else !want) = q -> Wants E ops o σ q := fun q hq => .inr ⟨j, want, t, hg, hj, hd, fun C w v hr => by
          rw [hs] at hr
          have : v = .bool b := hr
          subst this
          rw [← hq]
          cases b <;> cases want <;> rfl⟩
         cases hq : (bif b then want else !want) with
         | true => rw [hq] at hok hv; exact xL hok hv (fun _ _ _ _ h => h) rfl rfl (hw _ hq)
         | false => rw [hq] at hv; exact qI hv (fun _ _ _ _ h => h) rfl rfl (hw _ hq)
       · rename_i q hs
         simp only [hs] at hv
         rw [(NK _ _ _ _).2] at hok
         rw [(NK _ _ _ _).1] at hv
         have hent : ∀ s C w v, rel C w (σ.get s) v -> rel C w ((σ.put (some t) (.kb q)).get s) v := Jp hd fun C w v hr => by
          rw [hs, aj] at hr; exact hr
         have hcap : ∀ t', some t = some t' -> bU t' = true := fun t' e => by injection e with e; subst e; simp only [dstOk, Bool.and_eq_true] at hd; exact hd.2
         have hw : Wants E ops o (σ.put (some t) (.kb q)) (q == want) := .inr ⟨j, want, t, hg, hj, hd, fun C w v hr => by
          rw [ug _ _ _ _ hcap, aS] at hr
          simp only [if_true] at hr
          have : v = .bool q := hr
          subst this
          cases q <;> cases want <;> rfl⟩
         cases q with
         | true =>
           simp only [if_true] at hok hv
           cases want with
           | true => exact xL hok hv hent (funext fun i => ni _ _ _ _) (lu _ _ _) hw
           | false => exact qI hv hent (funext fun i => ni _ _ _ _) (lu _ _ _) hw
         | false =>
           simp only [Bool.false_eq_true, if_false] at hok hv
           cases want with
           | true => exact qI hv hent (funext fun i => ni _ _ _ _) (lu _ _ _) hw
           | false => exact xL hok hv hent (funext fun i => ni _ _ _ _) (lu _ _ _) hw
       · rename_i vs hs
         simp only [hs] at hv
         refine qI hv (fun _ _ _ _ h => h) rfl rfl (.inr ⟨j, want, t, hg, hj, hd, fun C w v hr => ?_⟩)
         rw [hs, aj] at hr
         subst hr
         cases want <;> rfl
       · exact hok.elim
section
variable (ops : List Oper) (σ : St) (tr : List (Res × St)) (D : Nat -> Bool)
def slotF : Nat -> Nat -> SV
 | 0, s => σ.get s
 | k + 1, s => match D k, (ops[k]?).bind (·.dst), tr[k]? with
   | true, some d, some x => if s = d then x.1.sv else slotF k s
   | _, _, _ => slotF k s
def objF : Nat -> Nat -> Option Ob
 | 0, i => σ.obj i
 | k + 1, i => match D k, tr[k]? with
   | true, some x => x.1.eff.obs (objF k) i
   | _, _ => objF k i
end
theorem pW {ops : List Oper} {σ : St} {tr : List (Res × St)} {D D' : Nat -> Bool} {s : Nat} : ∀ k, (∀ j, j < k -> (ops[j]?).bind (·.dst) = some s -> D j = D' j) -> slotF ops σ tr D k s = slotF ops σ tr D' k s
 | 0, _ => rfl
 | k + 1, h => by
   have ih := pW (ops := ops) (σ := σ) (tr := tr) (D := D) (D' := D') (s := s) k (fun j hj => h j (by omega))
   by_cases hd : (ops[k]?).bind (·.dst) = some s
   · have := h k (by omega) hd
     simp only [slotF, this, hd]
     cases D' k <;> simp only [ih]
   · have e : ∀ F : Nat -> Bool, slotF ops σ tr F (k + 1) s = slotF ops σ tr F k s := by
       intro F
       simp only [slotF]
       split
       · rename_i d x _ hd' _
         have : ¬ s = d := fun e => hd (by rw [hd', e])
         rw [if_neg this]
       · rfl
     rw [e, e, ih]
theorem rT {ops : List Oper} {σ : St} {tr : List (Res × St)} {D : Nat -> Bool} {s : Nat} {k : Nat} : ∀ m, (∀ j, k <= j -> j < k + m -> D j = false ∨ (ops[j]?).bind (·.dst) ≠ some s) -> slotF ops σ tr D (k + m) s = slotF ops σ tr D k s
 | 0, _ => rfl
 | m + 1, h => by
   have ih := rT (ops := ops) (σ := σ) (tr := tr) (D := D) (s := s) (k := k) m (fun j h1 h2 => h j h1 (by omega))
   rw [← ih]
   show slotF ops σ tr D ((k + m) + 1) s = _
   simp only [slotF]
   rcases h (k + m) (by omega) (by omega) with h1 | h1
   · rw [h1]
   · split
     · rename_i d x _ hd' _
       have : ¬ s = d := fun e => h1 (by rw [hd', e])
       rw [if_neg this]
     · rfl
theorem mY {σ : St} {tr : List (Res × St)} {D D' : Nat -> Bool} {i : Nat} : ∀ k, (∀ j, j < k -> (∃ x, tr[j]? = some x /\ i ∈ x.1.eff.touched) -> D j = D' j) -> objF σ tr D k i = objF σ tr D' k i
 | 0, _ => rfl
 | k + 1, h => by
   have ih := mY (σ := σ) (tr := tr) (D := D) (D' := D') (i := i) k (fun j hj => h j (by omega))
   simp only [objF]
   cases ht : tr[k]? with
   | none => cases D k <;> cases D' k <;> exact ih
   | some x =>
     by_cases hx : i ∈ x.1.eff.touched
     · have := h k (by omega) ⟨x, ht, hx⟩
       rw [this]
       cases D' k
       · exact ih
       · exact vD _ _ _ _ ih
     · have e1 : ∀ F : Nat -> Bool, (match F k, some x with
         | true, some x => x.1.eff.obs (objF σ tr F k) i
         | _, _ => objF σ tr F k i) = objF σ tr F k i := by
        intro F
        cases F k
        · rfl
        · exact qE _ _ _ hx
       rw [e1, e1, ih]
theorem qD {σ : St} {tr : List (Res × St)} {D : Nat -> Bool} {i k : Nat} : ∀ m, (∀ j, k <= j -> j < k + m -> D j = false ∨ ∀ x, tr[j]? = some x -> i ∉ x.1.eff.touched) -> objF σ tr D (k + m) i = objF σ tr D k i
 | 0, _ => rfl
 | m + 1, h => by
   have ih := qD (σ := σ) (tr := tr) (D := D) (i := i) (k := k) m (fun j h1 h2 => h j h1 (by omega))
   rw [← ih]
   show objF σ tr D ((k + m) + 1) i = _
   simp only [objF]
   rcases h (k + m) (by omega) (by omega) with h1 | h1
   · rw [h1]
   · cases hd : D (k + m) with
     | false => rfl
     | true =>
       cases ht : tr[k + m]? with
       | none => rfl
       | some x => exact qE _ _ _ (h1 x ht)
end Rx
set_option linter.unusedSectionVars false
set_option linter.unusedSimpArgs false
set_option linter.unusedVariables false
namespace Rx
open Go
variable [Glob]
def tmpsOf (o : Oper) : List Nat := o.op.operands.toList.filterMap fun
 | .tmp t => some t
 | _ => none
def guardOf (ops : Array Oper) (o : Oper) : List Nat :=
 match o.guard with
 | some (j, _) => ((ops[j]?).bind (·.dst)).toList
 | none => []
structure Info where
 lk : List Nat
 dst : Option Nat
 ac : List Nat
 tc : List Nat
 mak : Bool
 st : Bool
def GU (E : Env) (rid k : Nat) : Bool :=
 match E.K rid k with
 | some s => s.strict
 | none => false
def bV (E : Env) (ops : Array Oper) (rid k : Nat) (o : Oper) (x : Res × St) : Info :=
 ⟨tmpsOf o ++ guardOf ops o, o.dst, Cc E rid k x.2 o ++ x.1.eff.touched, x.1.eff.touched, !x.1.eff.new.isEmpty, GU E rid k⟩
def hit (a b : List Nat) : Bool := a.any fun x => b.any fun y => Nat.beq x y
def Kv (d : Option Nat) (l : List Nat) : Bool :=
 match d with
 | some t => l.any fun y => Nat.beq t y
 | none => false
def clash (x y : Info) : Bool := Kv x.dst (y.lk ++ y.dst.toList) || Kv y.dst x.lk || hit x.tc y.ac || hit y.tc x.ac || (x.mak && y.st) || (y.mak && x.st)
def gJ (E : Env) (ops : Array Oper) (rid : Nat) : Nat -> List Oper -> List (Res × St) -> List Info
 | k, o :: l, x :: tr => bV E ops rid k o x :: gJ E ops rid (k + 1) l tr
 | _, _, _ => []
theorem bO {E : Env} {ops : Array Oper} {rid : Nat} : ∀ (l : List Oper) (tr : List (Res × St)) (i k : Nat) (o : Oper) (x : Res × St), l[k]? = some o -> tr[k]? = some x ->
  (gJ E ops rid i l tr)[k]? = some (bV E ops rid (i + k) o x)
 | o :: l, y :: tr, i, 0, _, _, h1, h2 => by simp at h1 h2; subst h1; subst h2; rfl
 | o :: l, y :: tr, i, k + 1, o', x, h1, h2 => by
   have := bO (E := E) (ops := ops) (rid := rid) l tr (i + 1) k o' x (by simpa using h1) (by simpa using h2)
   have e : i + (k + 1) = i + 1 + k := by omega
   rw [e, ← this]
   rfl
 | [], _, _, _, _, _, h, _ => by simp at h
 | _ :: _, [], _, _, _, _, _, h => by simp at h
def gK (ops : Array Oper) (inf : List Info) (mk : List Nat) : Bool :=
 (List.range ops.size).all fun j => (match ops[j]? with
   | some o => o.after.all fun e => !Region.binds .any e || Nat.blt e.on j
   | none => false) &&
    (List.range j).all fun i => match inf[i]?, inf[j]? with
     | some x, some y => !clash x y || (mk.getD j 0).testBit i
     | _, _ => false
theorem dU {ops : Array Oper} {inf : List Info} {mk : List Nat} (h : gK ops inf mk = true) {i j : Nat} {x y : Info} (hj : j < ops.size) (hij : i < j) (hx : inf[i]? = some x) (hy : inf[j]? = some y)
  (hc : clash x y = true) : (mk.getD j 0).testBit i = true := by
 have h1 := List.all_eq_true.1 h j (List.mem_range.2 hj)
 simp only [Bool.and_eq_true] at h1
 have h2 := List.all_eq_true.1 h1.2 i (List.mem_range.2 hij)
 simp only [hx, hy, hc, Bool.not_true, Bool.false_or] at h2
 exact h2
theorem Gj {ops : Array Oper} {inf : List Info} {mk : List Nat} (h : gK ops inf mk = true) {j : Nat} {o : Oper} (ho : ops[j]? = some o) : ∀ e ∈ o.after, Region.binds .any e = true -> e.on < j := by
 intro e he hb
 have hj : j < ops.size := (Array.getElem?_eq_some_iff.1 ho).1
 have h1 := List.all_eq_true.1 h j (List.mem_range.2 hj)
 simp only [Bool.and_eq_true, ho] at h1
 have h2 := Array.all_eq_true'.1 h1.1 e he
 simp only [hb, Bool.not_true, Bool.false_or] at h2
 simpa [Nat.blt_eq] using h2
theorem xM {d : Option Nat} {l : List Nat} {t : Nat} (hd : d = some t) (h : t ∈ l) : Kv d l = true := by
 subst hd
 exact List.any_eq_true.2 ⟨t, h, Nat.beq_refl t⟩
theorem RF {a b : List Nat} {t : Nat} (h : t ∈ a) (h' : t ∈ b) : hit a b = true :=
 List.any_eq_true.2 ⟨t, h, List.any_eq_true.2 ⟨t, h', Nat.beq_refl t⟩⟩
def LC (E : Env) (ops : Array Oper) (rid : Nat) (σ : St) : T St :=
 (lH E ops rid 0 ops.toList σ).bind fun tr =>
    bif gK ops (gJ E ops rid 0 ops.toList tr) (masks ops.toList []) then .ret (jM ops.toList σ tr ops.size) else .fail
theorem WZ {E : Env} {ops : Array Oper} {rid : Nat} {σ : St} {tr : List (Res × St)} {D : Nat -> Bool} (hord : gK ops (gJ E ops rid 0 ops.toList tr) (masks ops.toList []) = true)
  (htl : tr.length = ops.toList.length) (hcl : Closed ops D) {k : Nat} {o : Oper} (ho : ops[k]? = some o) (hdep : ∀ e ∈ o.after, Region.binds .any e = true -> D e.on = true) (hk : D k = false)
  {s : Nat} (hs : s ∈ tmpsOf o ++ guardOf ops o ++ o.dst.toList) : slotF ops.toList σ tr D ops.size s = slotF ops.toList σ tr (fun j => Nat.blt j k) k s := by
 have hkn : k < ops.size := (Array.getElem?_eq_some_iff.1 ho).1
 have hol : ops.toList[k]? = some o := by simpa using ho
 have hxk : tr[k]? = some (tr[k]'(by simp at htl; omega)) := List.getElem?_eq_getElem _
 have hik := bO (E := E) (ops := ops) (rid := rid) ops.toList tr 0 k o _ hol hxk
 have hw : ∀ j, j < ops.size -> (ops.toList[j]?).bind (·.dst) = some s -> (j < k -> D j = true) /\ (k < j -> D j = false) := by
  intro j hj hd
  have hoj : ops.toList[j]? = some (ops[j]) := by simp [hj]
  have hoj' : ops[j]? = some (ops[j]) := Array.getElem?_eq_getElem hj
  rw [hoj] at hd
  simp only [Option.bind_some] at hd
  have hxj : tr[j]? = some (tr[j]'(by simp at htl; omega)) := List.getElem?_eq_getElem _
  have hij := bO (E := E) (ops := ops) (rid := rid) ops.toList tr 0 j _ _ hoj hxj
  refine ⟨fun hlt => ?_, fun hlt => ?_⟩
  · have hc : clash (bV E ops rid (0 + j) ops[j] (tr[j]'(by simp at htl; omega))) (bV E ops rid (0 + k) o (tr[k]'(by simp at htl; omega))) = true := by
        have : Kv ops[j].dst ((tmpsOf o ++ guardOf ops o) ++ o.dst.toList) = true := xM hd hs
        simp only [clash, bV, this, Bool.true_or]
    exact dD hcl k o ho hdep j (dU hord hkn hlt hij hik hc)
  · have hc : clash (bV E ops rid (0 + k) o (tr[k]'(by simp at htl; omega))) (bV E ops rid (0 + j) ops[j] (tr[j]'(by simp at htl; omega))) = true := by
        rcases List.mem_append.1 hs with hs | hs
        · have : Kv ops[j].dst (tmpsOf o ++ guardOf ops o) = true := xM hd hs
          simp only [clash, bV, this, Bool.true_or, Bool.or_true]
        · have hdk : o.dst = some s := by simpa using hs
          have : Kv o.dst ((tmpsOf ops[j] ++ guardOf ops ops[j]) ++ ops[j].dst.toList) = true := xM hdk (by simp [hd])
          simp only [clash, bV, this, Bool.true_or]
    have hb := dU hord hj hlt hik hij hc
    cases hDj : D j with
    | false => rfl
    | true =>
      have := dD hcl j _ hoj' (fun e he hbb => hcl j _ hoj' hDj e he hbb) k hb
      rw [hk] at this; cases this
 have h1 : slotF ops.toList σ tr D ops.size s = slotF ops.toList σ tr (fun j => Nat.blt j k) ops.size s := by
  apply pW
  intro j hj hd
  obtain ⟨a1, a2⟩ := hw j hj hd
  rcases Nat.lt_trichotomy j k with h | h | h
  · rw [a1 h]; simp [Nat.blt_eq, h]
  · subst h; rw [hk]; cases hb : Nat.blt j j with
    | false => rfl
    | true => rw [Nat.blt_eq] at hb; omega
  · rw [a2 h]; cases hb : Nat.blt j k with
    | false => rfl
    | true => rw [Nat.blt_eq] at hb; omega
 rw [h1]
 have e : ops.size = k + (ops.size - k) := by omega
 rw [e]
 apply rT
 intro j h2 _
 left
 cases hb : Nat.blt j k with
 | false => rfl
 | true => rw [Nat.blt_eq] at hb; omega
theorem aak {E : Env} {ops : Array Oper} {rid : Nat} {σ : St} {tr : List (Res × St)} {D : Nat -> Bool} (hord : gK ops (gJ E ops rid 0 ops.toList tr) (masks ops.toList []) = true)
  (htl : tr.length = ops.toList.length) (hcl : Closed ops D) {k : Nat} {o : Oper} {x : Res × St} (ho : ops[k]? = some o) (hx : tr[k]? = some x) (hdep : ∀ e ∈ o.after, Region.binds .any e = true -> D e.on = true) (hk : D k = false)
  {s : Nat} (hs : s ∈ Cc E rid k x.2 o ++ x.1.eff.touched) : objF σ tr D ops.size s = objF σ tr (fun j => Nat.blt j k) k s := by
 have hkn : k < ops.size := (Array.getElem?_eq_some_iff.1 ho).1
 have hol : ops.toList[k]? = some o := by simpa using ho
 have hik := bO (E := E) (ops := ops) (rid := rid) ops.toList tr 0 k o _ hol hx
 rw [Nat.zero_add] at hik
 have hw : ∀ j, j < ops.size -> (∃ y, tr[j]? = some y /\ s ∈ y.1.eff.touched) -> (j < k -> D j = true) /\ (k < j -> D j = false) := by
  intro j hj ⟨y, hy, hsy⟩
  have hoj : ops.toList[j]? = some (ops[j]) := by simp [hj]
  have hoj' : ops[j]? = some (ops[j]) := Array.getElem?_eq_getElem hj
  have hij := bO (E := E) (ops := ops) (rid := rid) ops.toList tr 0 j _ _ hoj hy
  rw [Nat.zero_add] at hij
  have hhit : hit y.1.eff.touched (Cc E rid k x.2 o ++ x.1.eff.touched) = true := RF hsy hs
  refine ⟨fun hlt => ?_, fun hlt => ?_⟩
  · have hc : clash (bV E ops rid j ops[j] y) (bV E ops rid k o x) = true := by
        simp only [clash, bV, hhit, Bool.or_true, Bool.true_or]
    exact dD hcl k o ho hdep j (dU hord hkn hlt hij hik hc)
  · have hc : clash (bV E ops rid k o x) (bV E ops rid j ops[j] y) = true := by
        simp only [clash, bV, hhit, Bool.or_true, Bool.true_or]
    have hb := dU hord hj hlt hik hij hc
    cases hDj : D j with
    | false => rfl
    | true =>
      have := dD hcl j _ hoj' (fun e he hbb => hcl j _ hoj' hDj e he hbb) k hb
      rw [hk] at this; cases this
 have h1 : objF σ tr D ops.size s = objF σ tr (fun j => Nat.blt j k) ops.size s := by
  apply mY
  intro j hj hd
  obtain ⟨a1, a2⟩ := hw j hj hd
  rcases Nat.lt_trichotomy j k with h | h | h
  · rw [a1 h]; simp [Nat.blt_eq, h]
  · subst h; rw [hk]; cases hb : Nat.blt j j with
    | false => rfl
    | true => rw [Nat.blt_eq] at hb; omega
  · rw [a2 h]; cases hb : Nat.blt j k with
    | false => rfl
    | true => rw [Nat.blt_eq] at hb; omega
 rw [h1]
 have e : ops.size = k + (ops.size - k) := by omega
 rw [e]
 apply qD
 intro j h2 _
 left
 cases hb : Nat.blt j k with
 | false => rfl
 | true => rw [Nat.blt_eq] at hb; omega
theorem Qn {E : Env} {ops : Array Oper} {rid : Nat} {tr : List (Res × St)} {D : Nat -> Bool} (hord : gK ops (gJ E ops rid 0 ops.toList tr) (masks ops.toList []) = true)
  (htl : tr.length = ops.toList.length) (hcl : Closed ops D) {k : Nat} {o : Oper} {x : Res × St} (ho : ops[k]? = some o) (hx : tr[k]? = some x) (hk : D k = false) (hs : GU E rid k = true)
  {j : Nat} (hj : j < ops.size) (hDj : D j = true) {y : Res × St} (hy : tr[j]? = some y) (hn : y.1.eff.new ≠ []) : j < k := by
 have hkn : k < ops.size := (Array.getElem?_eq_some_iff.1 ho).1
 have hol : ops.toList[k]? = some o := by simpa using ho
 have hik := bO (E := E) (ops := ops) (rid := rid) ops.toList tr 0 k o _ hol hx
 rw [Nat.zero_add] at hik
 rcases Nat.lt_trichotomy j k with h | h | h
 · exact h
 · subst h; rw [hk] at hDj; cases hDj
 · have hoj : ops.toList[j]? = some (ops[j]) := by simp [hj]
   have hoj' : ops[j]? = some (ops[j]) := Array.getElem?_eq_getElem hj
   have hij := bO (E := E) (ops := ops) (rid := rid) ops.toList tr 0 j _ _ hoj hy
   rw [Nat.zero_add] at hij
   have hmk : (!y.1.eff.new.isEmpty) = true := by
    cases hl : y.1.eff.new with
    | nil => exact absurd hl hn
    | cons a l => rfl
   have hc : clash (bV E ops rid k o x) (bV E ops rid j ops[j] y) = true := by
    simp only [clash, bV, hmk, hs, Bool.and_true, Bool.or_true]
   have hb := dU hord hj h hik hij hc
   have := dD hcl j _ hoj' (fun e he hbb => hcl j _ hoj' hDj e he hbb) k hb
   rw [hk] at this; cases this
theorem G8 {E : Env} {ops : Array Oper} {rid : Nat} {σ : St} {tr : List (Res × St)} (hf : ∀ (m : Nat) (o : Oper), ops.toList[m]? = some o -> ∃ x, tr[m]? = some x /\ StepF E ops rid m o (jM ops.toList σ tr m) x.2 x.1)
  (D : Nat -> Bool) : ∀ k, k <= ops.size -> (∀ j, j < k -> D j = true) ->
   (∀ s C w v, rel C w (slotF ops.toList σ tr D k s) v -> rel C w ((jM ops.toList σ tr k).get s) v) /\ (∀ i, objF σ tr D k i = (jM ops.toList σ tr k).obj i)
 | 0, _, _ => ⟨fun _ _ _ _ h => h, fun _ => rfl⟩
 | k + 1, hk, hD => by
   obtain ⟨h1, h2⟩ := G8 hf D k (by omega) (fun j hj => hD j (by omega))
   have ho : ops.toList[k]? = some (ops[k]'(by omega)) := by simp [show k < ops.size by omega]
   obtain ⟨x, hx, st⟩ := hf k _ ho
   have hDk := hD k (by omega)
   have hst : jM ops.toList σ tr (k + 1) = (x.2.eff x.1.eff).put (ops[k]'(by omega)).dst x.1.sv := by simp only [jM, hx, ho]
   have hcap : ∀ t, (ops[k]'(by omega)).dst = some t -> bU t = true := fun t e => by have := st.dst; rw [e] at this; simp only [dstOk, Bool.and_eq_true] at this; exact this.2
   refine ⟨fun s C w v hr => ?_, fun i => ?_⟩
   · rw [hst, ug _ _ _ _ hcap]
     simp only [slotF, hDk, ho, Option.bind_some, hx] at hr
     generalize (ops[k]'(by omega)).dst = d at hr hcap ⊢
     cases d with
     | none =>
       simp only [Lg]
       rw [xH]
       exact st.get s C w v (h1 s C w v hr)
     | some t =>
       simp only [aS]
       by_cases hs : s = t
       · simp only [hs, if_true] at hr ⊢; exact hr
       · simp only [hs, if_false] at hr ⊢
         rw [xH]
         exact st.get s C w v (h1 s C w v hr)
   · rw [hst, ni, N8 _ _ _ st.eff]
     simp only [objF, hDk, hx]
     refine vD _ _ _ _ ?_
     rw [h2 i, st.obj]
end Rx
set_option linter.unusedSectionVars false
set_option linter.unusedSimpArgs false
set_option linter.unusedVariables false
namespace Rx
open Go
variable [Glob]
theorem KQ {E : Env} {ops : Array Oper} {rid : Nat} {tr : List (Res × St)} {D : Nat -> Bool} (hord : gK ops (gJ E ops rid 0 ops.toList tr) (masks ops.toList []) = true)
  (htl : tr.length = ops.toList.length) (hcl : Closed ops D) {k : Nat} {o : Oper} (ho : ops[k]? = some o) (hk : D k = false)
  {s : Nat} (hs : o.dst = some s) : ∀ j, k < j -> j < ops.size -> (ops.toList[j]?).bind (·.dst) = some s -> D j = false := by
 intro j hlt hj hd
 have hkn : k < ops.size := by omega
 have hol : ops.toList[k]? = some o := by simpa using ho
 have hxk : tr[k]? = some (tr[k]'(by simp at htl; omega)) := List.getElem?_eq_getElem _
 have hik := bO (E := E) (ops := ops) (rid := rid) ops.toList tr 0 k o _ hol hxk
 have hoj : ops.toList[j]? = some (ops[j]) := by simp [hj]
 have hoj' : ops[j]? = some (ops[j]) := Array.getElem?_eq_getElem hj
 rw [hoj] at hd
 simp only [Option.bind_some] at hd
 have hxj : tr[j]? = some (tr[j]'(by simp at htl; omega)) := List.getElem?_eq_getElem _
 have hij := bO (E := E) (ops := ops) (rid := rid) ops.toList tr 0 j _ _ hoj hxj
 have hc : clash (bV E ops rid (0 + k) o (tr[k]'(by simp at htl; omega))) (bV E ops rid (0 + j) ops[j] (tr[j]'(by simp at htl; omega))) = true := by
  have : Kv o.dst ((tmpsOf ops[j] ++ guardOf ops ops[j]) ++ ops[j].dst.toList) = true := xM hs (by simp [hd])
  simp only [clash, bV, this, Bool.true_or]
 have hb := dU hord hj hlt hik hij hc
 cases hDj : D j with
 | false => rfl
 | true =>
   have := dD hcl j _ hoj' (fun e he hbb => hcl j _ hoj' hDj e he hbb) k hb
   rw [hk] at this; cases this
theorem PW {E : Env} {ops : Array Oper} {rid : Nat} {tr : List (Res × St)} {D : Nat -> Bool} (hord : gK ops (gJ E ops rid 0 ops.toList tr) (masks ops.toList []) = true)
  (htl : tr.length = ops.toList.length) (hcl : Closed ops D) {k : Nat} {o : Oper} {x : Res × St} (ho : ops[k]? = some o) (hx : tr[k]? = some x) (hk : D k = false)
  {s : Nat} (hs : s ∈ x.1.eff.touched) : ∀ j, k < j -> j < ops.size -> (∃ y, tr[j]? = some y /\ s ∈ y.1.eff.touched) -> D j = false := by
 intro j hlt hj ⟨y, hy, hsy⟩
 have hol : ops.toList[k]? = some o := by simpa using ho
 have hik := bO (E := E) (ops := ops) (rid := rid) ops.toList tr 0 k o _ hol hx
 have hoj : ops.toList[j]? = some (ops[j]) := by simp [hj]
 have hoj' : ops[j]? = some (ops[j]) := Array.getElem?_eq_getElem hj
 have hij := bO (E := E) (ops := ops) (rid := rid) ops.toList tr 0 j _ _ hoj hy
 have hc : clash (bV E ops rid (0 + k) o x) (bV E ops rid (0 + j) ops[j] y) = true := by
  have : hit x.1.eff.touched (Cc E rid (0 + j) y.2 ops[j] ++ y.1.eff.touched) = true := RF hs (List.mem_append_right _ hsy)
  simp only [clash, bV, this, Bool.or_true, Bool.true_or]
 have hb := dU hord hj hlt hik hij hc
 cases hDj : D j with
 | false => rfl
 | true =>
   have := dD hcl j _ hoj' (fun e he hbb => hcl j _ hoj' hDj e he hbb) k hb
   rw [hk] at this; cases this
theorem Tx {E : Env} {ops : Array Oper} {rid : Nat} {σ : St} {tr : List (Res × St)} {D D' : Nat -> Bool} (hord : gK ops (gJ E ops rid 0 ops.toList tr) (masks ops.toList []) = true)
  (htl : tr.length = ops.toList.length) (hcl : Closed ops D) {k : Nat} {o : Oper} {x : Res × St} (ho : ops[k]? = some o) (hx : tr[k]? = some x) (hk : D k = false)
  (hD : ∀ j, D' j = if j = k then true else D j) (s : Nat) : slotF ops.toList σ tr D' ops.size s = lq o.dst s x.1.sv (slotF ops.toList σ tr D ops.size s) := by
 have hkn : k < ops.size := (Array.getElem?_eq_some_iff.1 ho).1
 have hol : ops.toList[k]? = some o := by simpa using ho
 by_cases hd : o.dst = some s
 · rw [hd, aS, if_pos rfl]
   have e : ops.size = (k + 1) + (ops.size - (k + 1)) := by omega
   rw [e, rT]
   · have hDk : D' k = true := by rw [hD]; simp
     simp only [slotF, hDk, hol, Option.bind_some, hd, hx, if_true]
   · intro j h1 h2
     by_cases hj : (ops.toList[j]?).bind (·.dst) = some s
     · left
       rw [hD, if_neg (by omega)]
       exact KQ hord htl hcl ho hk hd j (by omega) (by omega) hj
     · right; exact hj
 · have e : lq o.dst s x.1.sv (slotF ops.toList σ tr D ops.size s) = slotF ops.toList σ tr D ops.size s := by
    cases hdd : o.dst with
    | none => rfl
    | some t =>
      rw [aS, if_neg]
      intro h; subst h; exact hd hdd
   rw [e]
   apply pW
   intro j hj hjs
   rw [hD]
   by_cases hjk : j = k
   · subst hjk
     rw [hol] at hjs
     exact absurd hjs hd
   · rw [if_neg hjk]
theorem WB {E : Env} {ops : Array Oper} {rid : Nat} {σ : St} {tr : List (Res × St)} {D D' : Nat -> Bool} (hord : gK ops (gJ E ops rid 0 ops.toList tr) (masks ops.toList []) = true)
  (htl : tr.length = ops.toList.length) (hcl : Closed ops D) {k : Nat} {o : Oper} {x : Res × St} (ho : ops[k]? = some o) (hx : tr[k]? = some x) (hk : D k = false)
  (hD : ∀ j, D' j = if j = k then true else D j) (i : Nat) : objF σ tr D' ops.size i = x.1.eff.obs (objF σ tr D ops.size) i := by
 have hkn : k < ops.size := (Array.getElem?_eq_some_iff.1 ho).1
 by_cases ht : i ∈ x.1.eff.touched
 · have hlater := PW hord htl hcl ho hx hk ht
   have e : ops.size = (k + 1) + (ops.size - (k + 1)) := by omega
   have e2 : ops.size = k + (ops.size - k) := by omega
   have a1 : objF σ tr D' ops.size i = objF σ tr D' (k + 1) i := by
    rw [e, qD]
    intro j h1 h2
    by_cases hj : ∃ y, tr[j]? = some y /\ i ∈ y.1.eff.touched
    · left
      rw [hD, if_neg (by omega)]
      exact hlater j (by omega) (by omega) hj
    · right; intro y hy hi; exact hj ⟨y, hy, hi⟩
   have a2 : objF σ tr D ops.size i = objF σ tr D k i := by
    rw [e2, qD]
    intro j h1 h2
    by_cases hjk : j = k
    · subst hjk; left; exact hk
    · by_cases hj : ∃ y, tr[j]? = some y /\ i ∈ y.1.eff.touched
      · left; exact hlater j (by omega) (by omega) hj
      · right; intro y hy hi; exact hj ⟨y, hy, hi⟩
   have a3 : objF σ tr D' k i = objF σ tr D k i := mY k fun j hj _ => by rw [hD, if_neg (by omega)]
   have hDk : D' k = true := by rw [hD]; simp
   rw [a1]
   simp only [objF, hDk, hx]
   exact vD _ _ _ _ (by rw [a3, a2])
 · rw [qE _ _ _ ht]
   apply mY
   rintro j hj ⟨y, hy, hi⟩
   rw [hD]
   by_cases hjk : j = k
   · subst hjk
     rw [hx] at hy
     injection hy with hy
     subst hy
     exact absurd hi ht
   · rw [if_neg hjk]
theorem vv {E : Env} {ops : Array Oper} {rid : Nat} {σ : St} {tr : List (Res × St)} (hf : ∀ (m : Nat) (o : Oper), ops.toList[m]? = some o -> ∃ x, tr[m]? = some x /\ StepF E ops rid m o (jM ops.toList σ tr m) x.2 x.1) :
  ∀ d k, k + d <= ops.size -> (jM ops.toList σ tr k).nob <= (jM ops.toList σ tr (k + d)).nob
 | 0, _, _ => Nat.le_refl _
 | d + 1, k, h => by
   have ih := vv hf d k (by omega)
   have ho : ops.toList[k + d]? = some (ops[k + d]'(by omega)) := by simp [show k + d < ops.size by omega]
   obtain ⟨x, hx, st⟩ := hf (k + d) _ ho
   have hst : jM ops.toList σ tr (k + d + 1) = (x.2.eff x.1.eff).put (ops[k + d]'(by omega)).dst x.1.sv := by simp only [jM, hx, ho]
   rw [← Nat.add_assoc, hst, lu, Fx]
   have hn := st.nob
   omega
theorem xQ {E : Env} {ops : Array Oper} {rid : Nat} {σ : St} {tr : List (Res × St)} (hf : ∀ (m : Nat) (o : Oper), ops.toList[m]? = some o -> ∃ x, tr[m]? = some x /\ StepF E ops rid m o (jM ops.toList σ tr m) x.2 x.1)
  {k : Nat} {x : Res × St} {i : Nat} (hk : k < ops.size) (hx : tr[k]? = some x) (hi : i ∈ x.1.eff.new) : (jM ops.toList σ tr k).nob <= i /\ i < (jM ops.toList σ tr (k + 1)).nob := by
 have ho : ops.toList[k]? = some (ops[k]'hk) := by simp [hk]
 obtain ⟨y, hy, st⟩ := hf k _ ho
 rw [hx] at hy; injection hy with hy; subst hy
 have hst : jM ops.toList σ tr (k + 1) = (x.2.eff x.1.eff).put (ops[k]'hk).dst x.1.sv := by simp only [jM, hx, ho]
 have := dF st.new hi
 rw [hst, lu, Fx, ← st.nob]
 exact this
theorem Qk (C : Ctx) (w : World) : Step Top C w C { w with drawn := w.drawn + 1 } :=
 ⟨fun _ _ h => h, rfl, fun j _ h => .inl ⟨j, h⟩, fun _ _ _ h => h, ⟨rfl, rfl, rfl, Nat.le_refl _, fun _ _ _ => rfl⟩⟩
end Rx
