/- Rx, part O: a region that draws its order: the check, and that it suffices. -/
import Derived.Test.YtnalaogenpicfaaDoorRxN
set_option linter.unusedSectionVars false
set_option linter.unusedSimpArgs false
set_option linter.unusedVariables false
namespace Rx
open Go
variable [Glob]

def tmpsOf (o : Oper) : List Nat := o.op.operands.toList.filterMap fun
  | .tmp t => some t
  | _ => none
def guardOf (ops : Array Oper) (o : Oper) : List Nat :=
  match o.guard with
  | some (j, _) => ((ops[j]?).bind (·.dst)).toList
  | none => []

structure Info where
  lk : List Nat
  dst : Option Nat
  ac : List Nat
  tc : List Nat
  mak : Bool
  st : Bool

def strictK (E : Env) (rid k : Nat) : Bool :=
  match E.K rid k with
  | some s => s.strict
  | none => false

def infoOf (E : Env) (ops : Array Oper) (rid k : Nat) (o : Oper) (x : Res × St) : Info :=
  ⟨tmpsOf o ++ guardOf ops o, o.dst, accK E rid k x.2 o ++ x.1.eff.touched, x.1.eff.touched, !x.1.eff.new.isEmpty, strictK E rid k⟩

def hit (a b : List Nat) : Bool := a.any fun x => b.any fun y => Nat.beq x y
def hasD (d : Option Nat) (l : List Nat) : Bool :=
  match d with
  | some t => l.any fun y => Nat.beq t y
  | none => false

def clash (x y : Info) : Bool := hasD x.dst (y.lk ++ y.dst.toList) || hasD y.dst x.lk || hit x.tc y.ac || hit y.tc x.ac || (x.mak && y.st) || (y.mak && x.st)

def infosOf (E : Env) (ops : Array Oper) (rid : Nat) : Nat → List Oper → List (Res × St) → List Info
  | k, o :: l, x :: tr => infoOf E ops rid k o x :: infosOf E ops rid (k + 1) l tr
  | _, _, _ => []

theorem infosOf_get {E : Env} {ops : Array Oper} {rid : Nat} : ∀ (l : List Oper) (tr : List (Res × St)) (i k : Nat) (o : Oper) (x : Res × St), l[k]? = some o → tr[k]? = some x →
    (infosOf E ops rid i l tr)[k]? = some (infoOf E ops rid (i + k) o x)
  | o :: l, y :: tr, i, 0, _, _, h1, h2 => by simp at h1 h2; subst h1; subst h2; rfl
  | o :: l, y :: tr, i, k + 1, o', x, h1, h2 => by
    have := infosOf_get (E := E) (ops := ops) (rid := rid) l tr (i + 1) k o' x (by simpa using h1) (by simpa using h2)
    have e : i + (k + 1) = i + 1 + k := by omega
    rw [e, ← this]
    rfl
  | [], _, _, _, _, _, h, _ => by simp at h
  | _ :: _, [], _, _, _, _, _, h => by simp at h

def orderOk (ops : Array Oper) (inf : List Info) (mk : List Nat) : Bool :=
  (List.range ops.size).all fun j => (match ops[j]? with
      | some o => o.after.all fun e => !Region.binds .any e || Nat.blt e.on j
      | none => false) &&
    (List.range j).all fun i => match inf[i]?, inf[j]? with
      | some x, some y => !clash x y || (mk.getD j 0).testBit i
      | _, _ => false

theorem orderOk_pair {ops : Array Oper} {inf : List Info} {mk : List Nat} (h : orderOk ops inf mk = true) {i j : Nat} {x y : Info} (hj : j < ops.size) (hij : i < j) (hx : inf[i]? = some x) (hy : inf[j]? = some y)
    (hc : clash x y = true) : (mk.getD j 0).testBit i = true := by
  have h1 := List.all_eq_true.1 h j (List.mem_range.2 hj)
  simp only [Bool.and_eq_true] at h1
  have h2 := List.all_eq_true.1 h1.2 i (List.mem_range.2 hij)
  simp only [hx, hy, hc, Bool.not_true, Bool.false_or] at h2
  exact h2

theorem orderOk_edge {ops : Array Oper} {inf : List Info} {mk : List Nat} (h : orderOk ops inf mk = true) {j : Nat} {o : Oper} (ho : ops[j]? = some o) : ∀ e ∈ o.after, Region.binds .any e = true → e.on < j := by
  intro e he hb
  have hj : j < ops.size := (Array.getElem?_eq_some_iff.1 ho).1
  have h1 := List.all_eq_true.1 h j (List.mem_range.2 hj)
  simp only [Bool.and_eq_true, ho] at h1
  have h2 := Array.all_eq_true'.1 h1.1 e he
  simp only [hb, Bool.not_true, Bool.false_or] at h2
  simpa [Nat.blt_eq] using h2

theorem hasD_of {d : Option Nat} {l : List Nat} {t : Nat} (hd : d = some t) (h : t ∈ l) : hasD d l = true := by
  subst hd
  exact List.any_eq_true.2 ⟨t, h, Nat.beq_refl t⟩

theorem hit_of {a b : List Nat} {t : Nat} (h : t ∈ a) (h' : t ∈ b) : hit a b = true :=
  List.any_eq_true.2 ⟨t, h, List.any_eq_true.2 ⟨t, h', Nat.beq_refl t⟩⟩

def sxDraw (E : Env) (ops : Array Oper) (rid : Nat) (σ : St) : T St :=
  (sxTrace E ops rid 0 ops.toList σ).bind fun tr =>
    bif orderOk ops (infosOf E ops rid 0 ops.toList tr) (masks ops.toList []) then .ret (stAt ops.toList σ tr ops.size) else .fail

/-- a resource of operation k is, behind D, what it is ahead of k in the text -/
theorem slot_at {E : Env} {ops : Array Oper} {rid : Nat} {σ : St} {tr : List (Res × St)} {D : Nat → Bool} (hord : orderOk ops (infosOf E ops rid 0 ops.toList tr) (masks ops.toList []) = true)
    (htl : tr.length = ops.toList.length) (hcl : Closed ops D) {k : Nat} {o : Oper} (ho : ops[k]? = some o) (hdep : ∀ e ∈ o.after, Region.binds .any e = true → D e.on = true) (hk : D k = false)
    {s : Nat} (hs : s ∈ tmpsOf o ++ guardOf ops o ++ o.dst.toList) : slotF ops.toList σ tr D ops.size s = slotF ops.toList σ tr (fun j => Nat.blt j k) k s := by
  have hkn : k < ops.size := (Array.getElem?_eq_some_iff.1 ho).1
  have hol : ops.toList[k]? = some o := by simpa using ho
  have hxk : tr[k]? = some (tr[k]'(by simp at htl; omega)) := List.getElem?_eq_getElem _
  have hik := infosOf_get (E := E) (ops := ops) (rid := rid) ops.toList tr 0 k o _ hol hxk
  have hw : ∀ j, j < ops.size → (ops.toList[j]?).bind (·.dst) = some s → (j < k → D j = true) ∧ (k < j → D j = false) := by
    intro j hj hd
    have hoj : ops.toList[j]? = some (ops[j]) := by simp [hj]
    have hoj' : ops[j]? = some (ops[j]) := Array.getElem?_eq_getElem hj
    rw [hoj] at hd
    simp only [Option.bind_some] at hd
    have hxj : tr[j]? = some (tr[j]'(by simp at htl; omega)) := List.getElem?_eq_getElem _
    have hij := infosOf_get (E := E) (ops := ops) (rid := rid) ops.toList tr 0 j _ _ hoj hxj
    refine ⟨fun hlt => ?_, fun hlt => ?_⟩
    · have hc : clash (infoOf E ops rid (0 + j) ops[j] (tr[j]'(by simp at htl; omega))) (infoOf E ops rid (0 + k) o (tr[k]'(by simp at htl; omega))) = true := by
        have : hasD ops[j].dst ((tmpsOf o ++ guardOf ops o) ++ o.dst.toList) = true := hasD_of hd hs
        simp only [clash, infoOf, this, Bool.true_or]
      exact mask_in hcl k o ho hdep j (orderOk_pair hord hkn hlt hij hik hc)
    · have hc : clash (infoOf E ops rid (0 + k) o (tr[k]'(by simp at htl; omega))) (infoOf E ops rid (0 + j) ops[j] (tr[j]'(by simp at htl; omega))) = true := by
        rcases List.mem_append.1 hs with hs | hs
        · have : hasD ops[j].dst (tmpsOf o ++ guardOf ops o) = true := hasD_of hd hs
          simp only [clash, infoOf, this, Bool.true_or, Bool.or_true]
        · have hdk : o.dst = some s := by simpa using hs
          have : hasD o.dst ((tmpsOf ops[j] ++ guardOf ops ops[j]) ++ ops[j].dst.toList) = true := hasD_of hdk (by simp [hd])
          simp only [clash, infoOf, this, Bool.true_or]
      have hb := orderOk_pair hord hj hlt hik hij hc
      cases hDj : D j with
      | false => rfl
      | true =>
        have := mask_in hcl j _ hoj' (fun e he hbb => hcl j _ hoj' hDj e he hbb) k hb
        rw [hk] at this; cases this
  have h1 : slotF ops.toList σ tr D ops.size s = slotF ops.toList σ tr (fun j => Nat.blt j k) ops.size s := by
    apply slotF_agree
    intro j hj hd
    obtain ⟨a1, a2⟩ := hw j hj hd
    rcases Nat.lt_trichotomy j k with h | h | h
    · rw [a1 h]; simp [Nat.blt_eq, h]
    · subst h; rw [hk]; cases hb : Nat.blt j j with
      | false => rfl
      | true => rw [Nat.blt_eq] at hb; omega
    · rw [a2 h]; cases hb : Nat.blt j k with
      | false => rfl
      | true => rw [Nat.blt_eq] at hb; omega
  rw [h1]
  have e : ops.size = k + (ops.size - k) := by omega
  rw [e]
  apply slotF_stop
  intro j h2 _
  left
  cases hb : Nat.blt j k with
  | false => rfl
  | true => rw [Nat.blt_eq] at hb; omega

theorem obj_at {E : Env} {ops : Array Oper} {rid : Nat} {σ : St} {tr : List (Res × St)} {D : Nat → Bool} (hord : orderOk ops (infosOf E ops rid 0 ops.toList tr) (masks ops.toList []) = true)
    (htl : tr.length = ops.toList.length) (hcl : Closed ops D) {k : Nat} {o : Oper} {x : Res × St} (ho : ops[k]? = some o) (hx : tr[k]? = some x) (hdep : ∀ e ∈ o.after, Region.binds .any e = true → D e.on = true) (hk : D k = false)
    {s : Nat} (hs : s ∈ accK E rid k x.2 o ++ x.1.eff.touched) : objF σ tr D ops.size s = objF σ tr (fun j => Nat.blt j k) k s := by
  have hkn : k < ops.size := (Array.getElem?_eq_some_iff.1 ho).1
  have hol : ops.toList[k]? = some o := by simpa using ho
  have hik := infosOf_get (E := E) (ops := ops) (rid := rid) ops.toList tr 0 k o _ hol hx
  rw [Nat.zero_add] at hik
  have hw : ∀ j, j < ops.size → (∃ y, tr[j]? = some y ∧ s ∈ y.1.eff.touched) → (j < k → D j = true) ∧ (k < j → D j = false) := by
    intro j hj ⟨y, hy, hsy⟩
    have hoj : ops.toList[j]? = some (ops[j]) := by simp [hj]
    have hoj' : ops[j]? = some (ops[j]) := Array.getElem?_eq_getElem hj
    have hij := infosOf_get (E := E) (ops := ops) (rid := rid) ops.toList tr 0 j _ _ hoj hy
    rw [Nat.zero_add] at hij
    have hhit : hit y.1.eff.touched (accK E rid k x.2 o ++ x.1.eff.touched) = true := hit_of hsy hs
    refine ⟨fun hlt => ?_, fun hlt => ?_⟩
    · have hc : clash (infoOf E ops rid j ops[j] y) (infoOf E ops rid k o x) = true := by
        simp only [clash, infoOf, hhit, Bool.or_true, Bool.true_or]
      exact mask_in hcl k o ho hdep j (orderOk_pair hord hkn hlt hij hik hc)
    · have hc : clash (infoOf E ops rid k o x) (infoOf E ops rid j ops[j] y) = true := by
        simp only [clash, infoOf, hhit, Bool.or_true, Bool.true_or]
      have hb := orderOk_pair hord hj hlt hik hij hc
      cases hDj : D j with
      | false => rfl
      | true =>
        have := mask_in hcl j _ hoj' (fun e he hbb => hcl j _ hoj' hDj e he hbb) k hb
        rw [hk] at this; cases this
  have h1 : objF σ tr D ops.size s = objF σ tr (fun j => Nat.blt j k) ops.size s := by
    apply objF_agree
    intro j hj hd
    obtain ⟨a1, a2⟩ := hw j hj hd
    rcases Nat.lt_trichotomy j k with h | h | h
    · rw [a1 h]; simp [Nat.blt_eq, h]
    · subst h; rw [hk]; cases hb : Nat.blt j j with
      | false => rfl
      | true => rw [Nat.blt_eq] at hb; omega
    · rw [a2 h]; cases hb : Nat.blt j k with
      | false => rfl
      | true => rw [Nat.blt_eq] at hb; omega
  rw [h1]
  have e : ops.size = k + (ops.size - k) := by omega
  rw [e]
  apply objF_stop
  intro j h2 _
  left
  cases hb : Nat.blt j k with
  | false => rfl
  | true => rw [Nat.blt_eq] at hb; omega

/-- where a call may make what it likes: what has come up makes nothing that the text makes later -/
theorem strict_at {E : Env} {ops : Array Oper} {rid : Nat} {tr : List (Res × St)} {D : Nat → Bool} (hord : orderOk ops (infosOf E ops rid 0 ops.toList tr) (masks ops.toList []) = true)
    (htl : tr.length = ops.toList.length) (hcl : Closed ops D) {k : Nat} {o : Oper} {x : Res × St} (ho : ops[k]? = some o) (hx : tr[k]? = some x) (hk : D k = false) (hs : strictK E rid k = true)
    {j : Nat} (hj : j < ops.size) (hDj : D j = true) {y : Res × St} (hy : tr[j]? = some y) (hn : y.1.eff.new ≠ []) : j < k := by
  have hkn : k < ops.size := (Array.getElem?_eq_some_iff.1 ho).1
  have hol : ops.toList[k]? = some o := by simpa using ho
  have hik := infosOf_get (E := E) (ops := ops) (rid := rid) ops.toList tr 0 k o _ hol hx
  rw [Nat.zero_add] at hik
  rcases Nat.lt_trichotomy j k with h | h | h
  · exact h
  · subst h; rw [hk] at hDj; cases hDj
  · have hoj : ops.toList[j]? = some (ops[j]) := by simp [hj]
    have hoj' : ops[j]? = some (ops[j]) := Array.getElem?_eq_getElem hj
    have hij := infosOf_get (E := E) (ops := ops) (rid := rid) ops.toList tr 0 j _ _ hoj hy
    rw [Nat.zero_add] at hij
    have hmk : (!y.1.eff.new.isEmpty) = true := by
      cases hl : y.1.eff.new with
      | nil => exact absurd hl hn
      | cons a l => rfl
    have hc : clash (infoOf E ops rid k o x) (infoOf E ops rid j ops[j] y) = true := by
      simp only [clash, infoOf, hmk, hs, Bool.and_true, Bool.or_true]
    have hb := orderOk_pair hord hj h hik hij hc
    have := mask_in hcl j _ hoj' (fun e he hbb => hcl j _ hoj' hDj e he hbb) k hb
    rw [hk] at this; cases this

/-- in the order of the text the two ways of saying it are one -/
theorem text_at {E : Env} {ops : Array Oper} {rid : Nat} {σ : St} {tr : List (Res × St)} (hf : ∀ (m : Nat) (o : Oper), ops.toList[m]? = some o → ∃ x, tr[m]? = some x ∧ StepF E ops rid m o (stAt ops.toList σ tr m) x.2 x.1)
    (D : Nat → Bool) : ∀ k, k ≤ ops.size → (∀ j, j < k → D j = true) →
      (∀ s C w v, rel C w (slotF ops.toList σ tr D k s) v → rel C w ((stAt ops.toList σ tr k).get s) v) ∧ (∀ i, objF σ tr D k i = (stAt ops.toList σ tr k).obj i)
  | 0, _, _ => ⟨fun _ _ _ _ h => h, fun _ => rfl⟩
  | k + 1, hk, hD => by
    obtain ⟨h1, h2⟩ := text_at hf D k (by omega) (fun j hj => hD j (by omega))
    have ho : ops.toList[k]? = some (ops[k]'(by omega)) := by simp [show k < ops.size by omega]
    obtain ⟨x, hx, st⟩ := hf k _ ho
    have hDk := hD k (by omega)
    have hst : stAt ops.toList σ tr (k + 1) = (x.2.eff x.1.eff).put (ops[k]'(by omega)).dst x.1.sv := by simp only [stAt, hx, ho]
    have hcap : ∀ t, (ops[k]'(by omega)).dst = some t → capOk t = true := fun t e => by have := st.dst; rw [e] at this; simp only [dstOk, Bool.and_eq_true] at this; exact this.2
    refine ⟨fun s C w v hr => ?_, fun i => ?_⟩
    · rw [hst, put_get _ _ _ _ hcap]
      simp only [slotF, hDk, ho, Option.bind_some, hx] at hr
      generalize (ops[k]'(by omega)).dst = d at hr hcap ⊢
      cases d with
      | none =>
        simp only [pickD_none]
        rw [eff_get]
        exact st.get s C w v (h1 s C w v hr)
      | some t =>
        simp only [pickD_some]
        by_cases hs : s = t
        · simp only [hs, if_true] at hr ⊢; exact hr
        · simp only [hs, if_false] at hr ⊢
          rw [eff_get]
          exact st.get s C w v (h1 s C w v hr)
    · rw [hst, put_obj, eff_obj _ _ _ st.eff]
      simp only [objF, hDk, hx]
      refine obs_local _ _ _ _ ?_
      rw [h2 i, st.obj]
end Rx
