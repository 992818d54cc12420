/- Rx, part P: a region that draws its order is sound. -/
import Derived.Test.YtnalaogenpicfaaDoorRxO
set_option linter.unusedSectionVars false
set_option linter.unusedSimpArgs false
set_option linter.unusedVariables false
namespace Rx
open Go
variable [Glob]

theorem later_slot {E : Env} {ops : Array Oper} {rid : Nat} {tr : List (Res × St)} {D : Nat → Bool} (hord : orderOk ops (infosOf E ops rid 0 ops.toList tr) (masks ops.toList []) = true)
    (htl : tr.length = ops.toList.length) (hcl : Closed ops D) {k : Nat} {o : Oper} (ho : ops[k]? = some o) (hk : D k = false)
    {s : Nat} (hs : o.dst = some s) : ∀ j, k < j → j < ops.size → (ops.toList[j]?).bind (·.dst) = some s → D j = false := by
  intro j hlt hj hd
  have hkn : k < ops.size := by omega
  have hol : ops.toList[k]? = some o := by simpa using ho
  have hxk : tr[k]? = some (tr[k]'(by simp at htl; omega)) := List.getElem?_eq_getElem _
  have hik := infosOf_get (E := E) (ops := ops) (rid := rid) ops.toList tr 0 k o _ hol hxk
  have hoj : ops.toList[j]? = some (ops[j]) := by simp [hj]
  have hoj' : ops[j]? = some (ops[j]) := Array.getElem?_eq_getElem hj
  rw [hoj] at hd
  simp only [Option.bind_some] at hd
  have hxj : tr[j]? = some (tr[j]'(by simp at htl; omega)) := List.getElem?_eq_getElem _
  have hij := infosOf_get (E := E) (ops := ops) (rid := rid) ops.toList tr 0 j _ _ hoj hxj
  have hc : clash (infoOf E ops rid (0 + k) o (tr[k]'(by simp at htl; omega))) (infoOf E ops rid (0 + j) ops[j] (tr[j]'(by simp at htl; omega))) = true := by
    have : hasD o.dst ((tmpsOf ops[j] ++ guardOf ops ops[j]) ++ ops[j].dst.toList) = true := hasD_of hs (by simp [hd])
    simp only [clash, infoOf, this, Bool.true_or]
  have hb := orderOk_pair hord hj hlt hik hij hc
  cases hDj : D j with
  | false => rfl
  | true =>
    have := mask_in hcl j _ hoj' (fun e he hbb => hcl j _ hoj' hDj e he hbb) k hb
    rw [hk] at this; cases this

theorem later_obj {E : Env} {ops : Array Oper} {rid : Nat} {tr : List (Res × St)} {D : Nat → Bool} (hord : orderOk ops (infosOf E ops rid 0 ops.toList tr) (masks ops.toList []) = true)
    (htl : tr.length = ops.toList.length) (hcl : Closed ops D) {k : Nat} {o : Oper} {x : Res × St} (ho : ops[k]? = some o) (hx : tr[k]? = some x) (hk : D k = false)
    {s : Nat} (hs : s ∈ x.1.eff.touched) : ∀ j, k < j → j < ops.size → (∃ y, tr[j]? = some y ∧ s ∈ y.1.eff.touched) → D j = false := by
  intro j hlt hj ⟨y, hy, hsy⟩
  have hol : ops.toList[k]? = some o := by simpa using ho
  have hik := infosOf_get (E := E) (ops := ops) (rid := rid) ops.toList tr 0 k o _ hol hx
  have hoj : ops.toList[j]? = some (ops[j]) := by simp [hj]
  have hoj' : ops[j]? = some (ops[j]) := Array.getElem?_eq_getElem hj
  have hij := infosOf_get (E := E) (ops := ops) (rid := rid) ops.toList tr 0 j _ _ hoj hy
  have hc : clash (infoOf E ops rid (0 + k) o x) (infoOf E ops rid (0 + j) ops[j] y) = true := by
    have : hit x.1.eff.touched (accK E rid (0 + j) y.2 ops[j] ++ y.1.eff.touched) = true := hit_of hs (List.mem_append_right _ hsy)
    simp only [clash, infoOf, this, Bool.or_true, Bool.true_or]
  have hb := orderOk_pair hord hj hlt hik hij hc
  cases hDj : D j with
  | false => rfl
  | true =>
    have := mask_in hcl j _ hoj' (fun e he hbb => hcl j _ hoj' hDj e he hbb) k hb
    rw [hk] at this; cases this

theorem slot_new {E : Env} {ops : Array Oper} {rid : Nat} {σ : St} {tr : List (Res × St)} {D D' : Nat → Bool} (hord : orderOk ops (infosOf E ops rid 0 ops.toList tr) (masks ops.toList []) = true)
    (htl : tr.length = ops.toList.length) (hcl : Closed ops D) {k : Nat} {o : Oper} {x : Res × St} (ho : ops[k]? = some o) (hx : tr[k]? = some x) (hk : D k = false)
    (hD : ∀ j, D' j = if j = k then true else D j) (s : Nat) : slotF ops.toList σ tr D' ops.size s = pickD o.dst s x.1.sv (slotF ops.toList σ tr D ops.size s) := by
  have hkn : k < ops.size := (Array.getElem?_eq_some_iff.1 ho).1
  have hol : ops.toList[k]? = some o := by simpa using ho
  by_cases hd : o.dst = some s
  · rw [hd, pickD_some, if_pos rfl]
    have e : ops.size = (k + 1) + (ops.size - (k + 1)) := by omega
    rw [e, slotF_stop]
    · have hDk : D' k = true := by rw [hD]; simp
      simp only [slotF, hDk, hol, Option.bind_some, hd, hx, if_true]
    · intro j h1 h2
      by_cases hj : (ops.toList[j]?).bind (·.dst) = some s
      · left
        rw [hD, if_neg (by omega)]
        exact later_slot hord htl hcl ho hk hd j (by omega) (by omega) hj
      · right; exact hj
  · have e : pickD o.dst s x.1.sv (slotF ops.toList σ tr D ops.size s) = slotF ops.toList σ tr D ops.size s := by
      cases hdd : o.dst with
      | none => rfl
      | some t =>
        rw [pickD_some, if_neg]
        intro h; subst h; exact hd hdd
    rw [e]
    apply slotF_agree
    intro j hj hjs
    rw [hD]
    by_cases hjk : j = k
    · subst hjk
      rw [hol] at hjs
      exact absurd hjs hd
    · rw [if_neg hjk]

theorem obj_new {E : Env} {ops : Array Oper} {rid : Nat} {σ : St} {tr : List (Res × St)} {D D' : Nat → Bool} (hord : orderOk ops (infosOf E ops rid 0 ops.toList tr) (masks ops.toList []) = true)
    (htl : tr.length = ops.toList.length) (hcl : Closed ops D) {k : Nat} {o : Oper} {x : Res × St} (ho : ops[k]? = some o) (hx : tr[k]? = some x) (hk : D k = false)
    (hD : ∀ j, D' j = if j = k then true else D j) (i : Nat) : objF σ tr D' ops.size i = x.1.eff.obs (objF σ tr D ops.size) i := by
  have hkn : k < ops.size := (Array.getElem?_eq_some_iff.1 ho).1
  by_cases ht : i ∈ x.1.eff.touched
  · have hlater := later_obj hord htl hcl ho hx hk ht
    have e : ops.size = (k + 1) + (ops.size - (k + 1)) := by omega
    have e2 : ops.size = k + (ops.size - k) := by omega
    have a1 : objF σ tr D' ops.size i = objF σ tr D' (k + 1) i := by
      rw [e, objF_stop]
      intro j h1 h2
      by_cases hj : ∃ y, tr[j]? = some y ∧ i ∈ y.1.eff.touched
      · left
        rw [hD, if_neg (by omega)]
        exact hlater j (by omega) (by omega) hj
      · right; intro y hy hi; exact hj ⟨y, hy, hi⟩
    have a2 : objF σ tr D ops.size i = objF σ tr D k i := by
      rw [e2, objF_stop]
      intro j h1 h2
      by_cases hjk : j = k
      · subst hjk; left; exact hk
      · by_cases hj : ∃ y, tr[j]? = some y ∧ i ∈ y.1.eff.touched
        · left; exact hlater j (by omega) (by omega) hj
        · right; intro y hy hi; exact hj ⟨y, hy, hi⟩
    have a3 : objF σ tr D' k i = objF σ tr D k i := objF_agree k fun j hj _ => by rw [hD, if_neg (by omega)]
    have hDk : D' k = true := by rw [hD]; simp
    rw [a1]
    simp only [objF, hDk, hx]
    exact obs_local _ _ _ _ (by rw [a3, a2])
  · rw [obs_other _ _ _ ht]
    apply objF_agree
    rintro j hj ⟨y, hy, hi⟩
    rw [hD]
    by_cases hjk : j = k
    · subst hjk
      rw [hx] at hy
      injection hy with hy
      subst hy
      exact absurd hi ht
    · rw [if_neg hjk]

theorem nob_le {E : Env} {ops : Array Oper} {rid : Nat} {σ : St} {tr : List (Res × St)} (hf : ∀ (m : Nat) (o : Oper), ops.toList[m]? = some o → ∃ x, tr[m]? = some x ∧ StepF E ops rid m o (stAt ops.toList σ tr m) x.2 x.1) :
    ∀ d k, k + d ≤ ops.size → (stAt ops.toList σ tr k).nob ≤ (stAt ops.toList σ tr (k + d)).nob
  | 0, _, _ => Nat.le_refl _
  | d + 1, k, h => by
    have ih := nob_le hf d k (by omega)
    have ho : ops.toList[k + d]? = some (ops[k + d]'(by omega)) := by simp [show k + d < ops.size by omega]
    obtain ⟨x, hx, st⟩ := hf (k + d) _ ho
    have hst : stAt ops.toList σ tr (k + d + 1) = (x.2.eff x.1.eff).put (ops[k + d]'(by omega)).dst x.1.sv := by simp only [stAt, hx, ho]
    rw [← Nat.add_assoc, hst, put_nob, eff_nob]
    have hn := st.nob
    omega

theorem nob_new {E : Env} {ops : Array Oper} {rid : Nat} {σ : St} {tr : List (Res × St)} (hf : ∀ (m : Nat) (o : Oper), ops.toList[m]? = some o → ∃ x, tr[m]? = some x ∧ StepF E ops rid m o (stAt ops.toList σ tr m) x.2 x.1)
    {k : Nat} {x : Res × St} {i : Nat} (hk : k < ops.size) (hx : tr[k]? = some x) (hi : i ∈ x.1.eff.new) : (stAt ops.toList σ tr k).nob ≤ i ∧ i < (stAt ops.toList σ tr (k + 1)).nob := by
  have ho : ops.toList[k]? = some (ops[k]'hk) := by simp [hk]
  obtain ⟨y, hy, st⟩ := hf k _ ho
  rw [hx] at hy; injection hy with hy; subst hy
  have hst : stAt ops.toList σ tr (k + 1) = (x.2.eff x.1.eff).put (ops[k]'hk).dst x.1.sv := by simp only [stAt, hx, ho]
  have := seqFrom_mem st.new hi
  rw [hst, put_nob, eff_nob, ← st.nob]
  exact this

theorem step_drew (C : Ctx) (w : World) : Step Top C w C { w with drawn := w.drawn + 1 } :=
  ⟨fun _ _ h => h, rfl, fun j _ h => .inl ⟨j, h⟩, fun _ _ _ h => h, ⟨rfl, rfl, rfl, Nat.le_refl _, fun _ _ _ => rfl⟩⟩
end Rx
