/- Rx, part M: a region that draws its order. -/
import Derived.Test.YtnalaogenpicfaaDoorRxL
set_option linter.unusedSectionVars false
set_option linter.unusedSimpArgs false
set_option linter.unusedVariables false
namespace Rx
open Go
variable [Glob]

/-! ## whatever order is drawn: an invariant over what has come up -/
theorem wpAny_inv {P : Program} {ops : Array Oper} {Q : Exit → Act → World → Prop} (S : Array Bool → Act → World → Prop)
    (hsz : ∀ listed a w, S listed a w → listed.size = ops.size)
    (hstep : ∀ listed a w i, i ∈ Region.ready .any ops listed → S listed a w → wpOp P ops Q i (S (listed.setIfInBounds i true)) a w)
    (hend : ∀ listed a w, S listed a w → Region.ready .any ops listed = [] → Q .normal a w) :
    ∀ (fuel : Nat) (listed : Array Bool) (a : Act) (w : World), (listed.toList.filter (fun b => !b)).length ≤ fuel → S listed a w → wpAny P .any ops Q fuel listed a w := by
  intro fuel
  induction fuel with
  | zero =>
    intro listed a w hc hS
    have hr : Region.ready .any ops listed = [] := by
      apply List.eq_nil_iff_forall_not_mem.2
      intro i hi
      obtain ⟨hun, o, ho, _⟩ := mem_ready.1 hi
      have hlt : i < ops.size := (Array.getElem?_eq_some_iff.1 ho).1
      have hlt' : i < listed.size := by rw [hsz _ _ _ hS]; exact hlt
      have hf : listed[i] = false := by
        rw [Array.getD_eq_getD_getElem?, Array.getElem?_eq_getElem hlt'] at hun
        simpa using hun
      have hm : listed[i] ∈ listed.toList.filter (fun b => !b) := by
        rw [List.mem_filter]
        exact ⟨by simp, by rw [hf]; rfl⟩
      have := List.length_pos_of_mem hm
      omega
    exact ⟨hr, hend _ _ _ hS hr⟩
  | succ fuel ih =>
    intro listed a w hc hS
    refine ⟨fun hr => hend _ _ _ hS hr, fun i hi => ?_⟩
    refine wpOp_mono (fun a' w' hS' => ih _ a' w' ?_ hS') (hstep _ _ _ i hi hS)
    obtain ⟨hun, o, ho, _⟩ := mem_ready.1 hi
    have hlt : i < ops.size := (Array.getElem?_eq_some_iff.1 ho).1
    have hlt' : i < listed.size := by rw [hsz _ _ _ hS]; exact hlt
    have hf : listed[i] = false := by
      rw [Array.getD_eq_getD_getElem?, Array.getElem?_eq_getElem hlt'] at hun
      simpa using hun
    have key : ∀ (l : List Bool) (k : Nat), l[k]? = some false → ((l.set k true).filter (fun b => !b)).length + 1 = (l.filter (fun b => !b)).length := by
      intro l
      induction l with
      | nil => intro k h; simp at h
      | cons b l ihl =>
        intro k h
        cases k with
        | zero => simp at h; subst h; simp
        | succ k =>
          have := ihl k (by simpa using h)
          cases b <;> simp [← this]
    have hk := key listed.toList i (by simp [hlt', hf])
    rw [Array.toList_setIfInBounds]
    omega

/-! ## who waits for whom -/
def maskOf (acc : List Nat) (o : Oper) : Nat :=
  o.after.toList.foldl (fun m e => bif Region.binds .any e then m ||| 2 ^ e.on ||| acc.getD e.on 0 else m) 0

def masks : List Oper → List Nat → List Nat
  | [], acc => acc
  | o :: l, acc => masks l (acc ++ [maskOf acc o])

theorem masks_get : ∀ (l : List Oper) (acc : List Nat) (i : Nat), (i < acc.length → (masks l acc)[i]? = acc[i]?) ∧
    (∀ o, l[i]? = some o → (masks l acc)[acc.length + i]? = some (maskOf ((masks l acc).take (acc.length + i)) o)) ∧ (masks l acc).length = acc.length + l.length
  | [], acc, i => ⟨fun _ => rfl, fun o h => by simp at h, by simp [masks]⟩
  | o :: l, acc, i => by
    simp only [masks]
    obtain ⟨h1, h2, h3⟩ := masks_get l (acc ++ [maskOf acc o]) i
    refine ⟨fun hi => ?_, fun o' ho' => ?_, by rw [h3]; simp; omega⟩
    · rw [h1 (by simp; omega), List.getElem?_append_left hi]
    · cases i with
      | zero =>
        simp only [List.getElem?_cons_zero, Option.some.injEq] at ho'
        subst ho'
        have h1' := (masks_get l (acc ++ [maskOf acc o]) acc.length).1 (by simp)
        rw [Nat.add_zero, h1']
        have htake : (masks l (acc ++ [maskOf acc o])).take acc.length = acc := by
          apply List.ext_getElem?
          intro j
          rw [List.getElem?_take]
          split
          · rename_i hj
            rw [(masks_get l (acc ++ [maskOf acc o]) j).1 (by simp; omega), List.getElem?_append_left hj]
          · rename_i hj
            rw [List.getElem?_eq_none (by omega)]
        rw [htake]
        simp
      | succ i =>
        simp only [List.getElem?_cons_succ] at ho'
        have h2' := (masks_get l (acc ++ [maskOf acc o]) i).2.1 o' ho'
        have e : (acc ++ [maskOf acc o]).length + i = acc.length + (i + 1) := by simp; omega
        rw [e] at h2'
        exact h2'

theorem maskOf_bit {acc : List Nat} {o : Oper} {j : Nat} (h : (maskOf acc o).testBit j = true) :
    ∃ e ∈ o.after, Region.binds .any e = true ∧ (e.on = j ∨ (acc.getD e.on 0).testBit j = true) := by
  unfold maskOf at h
  have key : ∀ (l : List Edge) (m : Nat), (l.foldl (fun m e => bif Region.binds .any e then m ||| 2 ^ e.on ||| acc.getD e.on 0 else m) m).testBit j = true →
      m.testBit j = true ∨ ∃ e ∈ l, Region.binds .any e = true ∧ (e.on = j ∨ (acc.getD e.on 0).testBit j = true) := by
    intro l
    induction l with
    | nil => intro m h; exact .inl h
    | cons e l ih =>
      intro m h
      simp only [List.foldl_cons] at h
      rcases ih _ h with h | ⟨e', he', h1, h2⟩
      · cases hb : Region.binds .any e with
        | false => rw [hb] at h; exact .inl h
        | true =>
          rw [hb, cond_true, Nat.testBit_or, Nat.testBit_or, Bool.or_eq_true, Bool.or_eq_true] at h
          rcases h with (h | h) | h
          · exact .inl h
          · rw [Nat.testBit_two_pow] at h
            exact .inr ⟨e, by simp, hb, .inl (by simpa using h)⟩
          · exact .inr ⟨e, by simp, hb, .inr h⟩
      · exact .inr ⟨e', by simp [he'], h1, h2⟩
  rcases key _ _ h with h | ⟨e, he, h1, h2⟩
  · simp at h
  · exact ⟨e, by simpa using he, h1, h2⟩

def Closed (ops : Array Oper) (D : Nat → Bool) : Prop :=
  ∀ (i : Nat) (o : Oper), ops[i]? = some o → D i = true → ∀ e ∈ o.after, Region.binds .any e = true → D e.on = true

theorem mask_in {ops : Array Oper} {D : Nat → Bool} (hD : Closed ops D) : ∀ (k : Nat) (o : Oper), ops[k]? = some o → (∀ e ∈ o.after, Region.binds .any e = true → D e.on = true) →
    ∀ j, ((masks ops.toList []).getD k 0).testBit j = true → D j = true := by
  intro k
  induction k using Nat.strongRecOn with
  | _ k ih =>
    intro o ho hd j hj
    have hg := (masks_get ops.toList [] k).2.1 o (by simpa using ho)
    simp only [List.length_nil, Nat.zero_add] at hg
    rw [List.getD_eq_getElem?_getD, hg, Option.getD_some] at hj
    obtain ⟨e, he, h1, h2⟩ := maskOf_bit hj
    rcases h2 with h2 | h2
    · rw [← h2]; exact hd e he h1
    · have hlt : e.on < k := by
        rcases Nat.lt_or_ge e.on k with h | h
        · exact h
        · rw [List.getD_eq_getElem?_getD, List.getElem?_take, if_neg (by omega)] at h2
          simp at h2
      have hkn : k < ops.size := (Array.getElem?_eq_some_iff.1 ho).1
      have hon : ops[e.on]? = some (ops[e.on]'(by omega)) := Array.getElem?_eq_getElem (by omega)
      refine ih e.on hlt _ hon (fun e' he' hb' => hD e.on _ hon (hd e he h1) e' he' hb') j ?_
      rw [List.getD_eq_getElem?_getD, List.getElem?_take, if_pos hlt] at h2
      rw [List.getD_eq_getElem?_getD]
      exact h2
end Rx
