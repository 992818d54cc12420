/- Rx, part N: a region that draws its order comes to what it comes to in the order of the text. -/
import Derived.Test.YtnalaogenpicfaaDoorRxM
set_option linter.unusedSectionVars false
set_option linter.unusedSimpArgs false
set_option linter.unusedVariables false
namespace Rx
open Go
variable [Glob]

/-! ## what a step has decided -/
def boolOf : Value → Option Bool
  | .bool b => some b
  | _ => none

def Wants (E : Env) (ops : Array Oper) (o : Oper) (σ : St) (q : Bool) : Prop :=
  (o.guard = none ∧ q = true) ∨ ∃ j want t, o.guard = some (j, want) ∧ (ops[j]?).bind (·.dst) = some t ∧ dstOk E.N (some t) = true ∧
    ∀ C w v, rel C w (σ.get t) v → (boolOf v == some want) = q

structure StepF (E : Env) (ops : Array Oper) (rid i : Nat) (o : Oper) (σ σ' : St) (r : Res) : Prop where
  get : ∀ s C w v, rel C w (σ.get s) v → rel C w (σ'.get s) v
  obj : σ'.obj = σ.obj
  nob : σ'.nob = σ.nob
  eff : effOk r.eff = true
  dst : dstOk E.N o.dst = true
  new : newOk r.eff σ'.nob = true
  kind : (Wants E ops o σ' true ∧ (sxK E rid i (evS σ') σ'.obj σ'.nob o).ok ∧ (sxK E rid i (evS σ') σ'.obj σ'.nob o).val = some r) ∨ (Wants E ops o σ' false ∧ r = skipRes)

theorem put_entails {N : Nat} {σ : St} {t : Nat} {s : SV} (ht : dstOk N (some t) = true) (h : ∀ C w v, rel C w (σ.get t) v → rel C w s v) : ∀ j C w v, rel C w (σ.get j) v → rel C w ((σ.put (some t) s).get j) v := by
  intro j C w v hr
  have hcap : ∀ t', some t = some t' → capOk t' = true := fun t' e => by injection e with e; subst e; simp only [dstOk, Bool.and_eq_true] at ht; exact ht.2
  rw [put_get _ _ _ _ hcap, pickD_some]
  by_cases hj : j = t
  · subst hj; simpa using h C w v hr
  · simp only [hj, if_false]; exact hr

theorem go_fact {E : Env} {ops : Array Oper} {rid i : Nat} {o : Oper} {σ0 σ : St} {x : Res × St} (hok : (sxGo E rid i o σ).ok) (hv : (sxGo E rid i o σ).val = some x)
    (hget : ∀ s C w v, rel C w (σ0.get s) v → rel C w (σ.get s) v) (hobj : σ.obj = σ0.obj) (hnob : σ.nob = σ0.nob) (hw : Wants E ops o σ true) : StepF E ops rid i o σ0 x.2 x.1 := by
  unfold sxGo at hok hv
  cases hdet : detK E rid i (sxK E rid i (evS σ) σ.obj σ.nob o) with
  | false => rw [hdet] at hv; cases hv
  | true =>
  rw [hdet, cond_true] at hok hv
  obtain ⟨r, hr, hv⟩ := T.bind_val hv
  obtain ⟨hok1, hok2⟩ := T.bind_ok hok
  have hok2 := hok2 r hr
  cases hb : (effOk r.eff && dstOk E.N o.dst && newOk r.eff σ.nob) with
  | false => rw [hb] at hv; cases hv
  | true =>
    rw [hb] at hv
    simp only [cond_true, T.val, Option.some.injEq] at hv
    subst hv
    simp only [Bool.and_eq_true] at hb
    exact ⟨hget, hobj, hnob, hb.1.1, hb.1.2, hb.2, .inl ⟨hw, hok1, hr⟩⟩

theorem skip_fact {E : Env} {ops : Array Oper} {rid i : Nat} {o : Oper} {σ0 σ : St} {x : Res × St} (hv : (sxSkip E o σ).val = some x)
    (hget : ∀ s C w v, rel C w (σ0.get s) v → rel C w (σ.get s) v) (hobj : σ.obj = σ0.obj) (hnob : σ.nob = σ0.nob) (hw : Wants E ops o σ false) : StepF E ops rid i o σ0 x.2 x.1 := by
  unfold sxSkip at hv
  cases hb : dstOk E.N o.dst with
  | false => rw [hb] at hv; cases hv
  | true =>
    rw [hb] at hv
    simp only [cond_true, T.val, Option.some.injEq] at hv
    subst hv
    exact ⟨hget, hobj, hnob, rfl, hb, rfl, .inr ⟨hw, rfl⟩⟩

theorem brq_val {α : Type} (conc q : Bool) (A B : T α) : (brq conc q A B).val = (if q = true then A.val else B.val) ∧ (brq conc q A B).ok = (if q = true then A.ok else B.ok) := by
  cases conc <;> cases q <;> exact ⟨rfl, rfl⟩

theorem step_fact {E : Env} {ops : Array Oper} {rid i : Nat} {o : Oper} {σ : St} {x : Res × St} (hok : (sxStep E ops rid i o σ).ok) (hv : (sxStep E ops rid i o σ).val = some x) : StepF E ops rid i o σ x.2 x.1 := by
  unfold sxStep at hok hv
  split at hok
  · rename_i hg
    simp only [hg] at hv
    exact go_fact hok hv (fun _ _ _ _ h => h) rfl rfl (.inl ⟨hg, rfl⟩)
  · rename_i j want hg
    simp only [hg] at hv
    split at hok
    · exact hok.elim
    · rename_i t hj
      simp only [hj] at hv
      cases hd : dstOk E.N (some t) with
      | false => rw [hd] at hok; exact hok.elim
      | true =>
        rw [hd, cond_true] at hok hv
        split at hok
        · rename_i b hs
          simp only [hs] at hv
          have hw : ∀ q, (bif b then want else !want) = q → Wants E ops o σ q := fun q hq => .inr ⟨j, want, t, hg, hj, hd, fun C w v hr => by
            rw [hs] at hr
            have : v = .bool b := hr
            subst this
            rw [← hq]
            cases b <;> cases want <;> rfl⟩
          cases hq : (bif b then want else !want) with
          | true => rw [hq] at hok hv; exact go_fact hok hv (fun _ _ _ _ h => h) rfl rfl (hw _ hq)
          | false => rw [hq] at hv; exact skip_fact hv (fun _ _ _ _ h => h) rfl rfl (hw _ hq)
        · rename_i q hs
          simp only [hs] at hv
          rw [(brq_val _ _ _ _).2] at hok
          rw [(brq_val _ _ _ _).1] at hv
          have hent : ∀ s C w v, rel C w (σ.get s) v → rel C w ((σ.put (some t) (.kb q)).get s) v := put_entails hd fun C w v hr => by
            rw [hs, rel_cell] at hr; exact hr
          have hcap : ∀ t', some t = some t' → capOk t' = true := fun t' e => by injection e with e; subst e; simp only [dstOk, Bool.and_eq_true] at hd; exact hd.2
          have hw : Wants E ops o (σ.put (some t) (.kb q)) (q == want) := .inr ⟨j, want, t, hg, hj, hd, fun C w v hr => by
            rw [put_get _ _ _ _ hcap, pickD_some] at hr
            simp only [if_true] at hr
            have : v = .bool q := hr
            subst this
            cases q <;> cases want <;> rfl⟩
          cases q with
          | true =>
            simp only [if_true] at hok hv
            cases want with
            | true => exact go_fact hok hv hent (funext fun i => put_obj _ _ _ _) (put_nob _ _ _) hw
            | false => exact skip_fact hv hent (funext fun i => put_obj _ _ _ _) (put_nob _ _ _) hw
          | false =>
            simp only [Bool.false_eq_true, if_false] at hok hv
            cases want with
            | true => exact skip_fact hv hent (funext fun i => put_obj _ _ _ _) (put_nob _ _ _) hw
            | false => exact go_fact hok hv hent (funext fun i => put_obj _ _ _ _) (put_nob _ _ _) hw
        · rename_i vs hs
          simp only [hs] at hv
          refine skip_fact hv (fun _ _ _ _ h => h) rfl rfl (.inr ⟨j, want, t, hg, hj, hd, fun C w v hr => ?_⟩)
          rw [hs, rel_cell] at hr
          subst hr
          cases want <;> rfl
        · exact hok.elim

/-! ## slots and objects behind a set of operations -/
section
variable (ops : List Oper) (σ : St) (tr : List (Res × St)) (D : Nat → Bool)

def slotF : Nat → Nat → SV
  | 0, s => σ.get s
  | k + 1, s => match D k, (ops[k]?).bind (·.dst), tr[k]? with
    | true, some d, some x => if s = d then x.1.sv else slotF k s
    | _, _, _ => slotF k s

def objF : Nat → Nat → Option Ob
  | 0, i => σ.obj i
  | k + 1, i => match D k, tr[k]? with
    | true, some x => x.1.eff.obs (objF k) i
    | _, _ => objF k i
end

theorem slotF_agree {ops : List Oper} {σ : St} {tr : List (Res × St)} {D D' : Nat → Bool} {s : Nat} : ∀ k, (∀ j, j < k → (ops[j]?).bind (·.dst) = some s → D j = D' j) → slotF ops σ tr D k s = slotF ops σ tr D' k s
  | 0, _ => rfl
  | k + 1, h => by
    have ih := slotF_agree (ops := ops) (σ := σ) (tr := tr) (D := D) (D' := D') (s := s) k (fun j hj => h j (by omega))
    by_cases hd : (ops[k]?).bind (·.dst) = some s
    · have := h k (by omega) hd
      simp only [slotF, this, hd]
      cases D' k <;> simp only [ih]
    · have e : ∀ F : Nat → Bool, slotF ops σ tr F (k + 1) s = slotF ops σ tr F k s := by
        intro F
        simp only [slotF]
        split
        · rename_i d x _ hd' _
          have : ¬ s = d := fun e => hd (by rw [hd', e])
          rw [if_neg this]
        · rfl
      rw [e, e, ih]

theorem slotF_stop {ops : List Oper} {σ : St} {tr : List (Res × St)} {D : Nat → Bool} {s : Nat} {k : Nat} : ∀ m, (∀ j, k ≤ j → j < k + m → D j = false ∨ (ops[j]?).bind (·.dst) ≠ some s) → slotF ops σ tr D (k + m) s = slotF ops σ tr D k s
  | 0, _ => rfl
  | m + 1, h => by
    have ih := slotF_stop (ops := ops) (σ := σ) (tr := tr) (D := D) (s := s) (k := k) m (fun j h1 h2 => h j h1 (by omega))
    rw [← ih]
    show slotF ops σ tr D ((k + m) + 1) s = _
    simp only [slotF]
    rcases h (k + m) (by omega) (by omega) with h1 | h1
    · rw [h1]
    · split
      · rename_i d x _ hd' _
        have : ¬ s = d := fun e => h1 (by rw [hd', e])
        rw [if_neg this]
      · rfl

theorem objF_agree {σ : St} {tr : List (Res × St)} {D D' : Nat → Bool} {i : Nat} : ∀ k, (∀ j, j < k → (∃ x, tr[j]? = some x ∧ i ∈ x.1.eff.touched) → D j = D' j) → objF σ tr D k i = objF σ tr D' k i
  | 0, _ => rfl
  | k + 1, h => by
    have ih := objF_agree (σ := σ) (tr := tr) (D := D) (D' := D') (i := i) k (fun j hj => h j (by omega))
    simp only [objF]
    cases ht : tr[k]? with
    | none => cases D k <;> cases D' k <;> exact ih
    | some x =>
      by_cases hx : i ∈ x.1.eff.touched
      · have := h k (by omega) ⟨x, ht, hx⟩
        rw [this]
        cases D' k
        · exact ih
        · exact obs_local _ _ _ _ ih
      · have e1 : ∀ F : Nat → Bool, (match F k, some x with
            | true, some x => x.1.eff.obs (objF σ tr F k) i
            | _, _ => objF σ tr F k i) = objF σ tr F k i := by
          intro F
          cases F k
          · rfl
          · exact obs_other _ _ _ hx
        rw [e1, e1, ih]

theorem objF_stop {σ : St} {tr : List (Res × St)} {D : Nat → Bool} {i k : Nat} : ∀ m, (∀ j, k ≤ j → j < k + m → D j = false ∨ ∀ x, tr[j]? = some x → i ∉ x.1.eff.touched) → objF σ tr D (k + m) i = objF σ tr D k i
  | 0, _ => rfl
  | m + 1, h => by
    have ih := objF_stop (σ := σ) (tr := tr) (D := D) (i := i) (k := k) m (fun j h1 h2 => h j h1 (by omega))
    rw [← ih]
    show objF σ tr D ((k + m) + 1) i = _
    simp only [objF]
    rcases h (k + m) (by omega) (by omega) with h1 | h1
    · rw [h1]
    · cases hd : D (k + m) with
      | false => rfl
      | true =>
        cases ht : tr[k + m]? with
        | none => rfl
        | some x => exact obs_other _ _ _ (h1 x ht)
end Rx
