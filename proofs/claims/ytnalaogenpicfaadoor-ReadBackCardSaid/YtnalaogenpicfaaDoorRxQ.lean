/- Rx, part Q: a region that draws its order, whole. -/
import Derived.Test.YtnalaogenpicfaaDoorRxP
set_option linter.unusedSectionVars false
set_option linter.unusedSimpArgs false
set_option linter.unusedVariables false
namespace Rx
open Go
variable [Glob]

/-- what holds when just the operations of D have come up -/
structure DI (E : Env) (ops : Array Oper) (σ : St) (tr : List (Res × St)) (C : Ctx) (w : World) (D : Nat → Bool) (a' : Act) (w' : World) (C' : Ctx) : Prop where
  wf : WF C' w'
  sz : a'.tmps.size = E.N
  df : a'.defers = []
  sl : ∀ s, rel C' w' (slotF ops.toList σ tr D ops.size s) (a'.tmps.getD s undef)
  ob : ObsOk C' w' (objF σ tr D ops.size)
  nw : ∀ i, C'.ν i ≠ none → C.ν i ≠ none ∨ ∃ k x, k < ops.size ∧ D k = true ∧ tr[k]? = some x ∧ i ∈ x.1.eff.new
  st : Step Top C w C' w'

theorem DI.next {E : Env} {ops : Array Oper} {rid : Nat} {σ : St} {tr : List (Res × St)} {C : Ctx} {w : World} {D D' : Nat → Bool} {a' : Act} {w' : World} {C' : Ctx} (h : DI E ops σ tr C w D a' w' C')
    (hord : orderOk ops (infosOf E ops rid 0 ops.toList tr) (masks ops.toList []) = true) (htl : tr.length = ops.toList.length) (hcl : Closed ops D)
    {k : Nat} {o : Oper} {x : Res × St} (ho : ops[k]? = some o) (hx : tr[k]? = some x) (hk : D k = false) (hD : ∀ j, D' j = if j = k then true else D j)
    {v : Value} {w'' : World} {C'' : Ctx} (hc : Came C' w' x.1 C'' w'' v) (hdst : dstOk E.N o.dst = true) :
    DI E ops σ tr C w D' (a'.put o.dst v) w'' C'' := by
  have hkn : k < ops.size := (Array.getElem?_eq_some_iff.1 ho).1
  have hlt : ∀ t, o.dst = some t → t < a'.tmps.size := fun t e => by rw [e] at hdst; simp only [dstOk, Bool.and_eq_true] at hdst; rw [h.sz]; simpa [Nat.blt_eq] using hdst.1
  refine ⟨hc.wf, ?_, ?_, fun s => ?_, fun i ob hob => ?_, fun i hi => ?_, Step.trans h.wf h.st (hc.step.mono fun _ _ => trivial)⟩
  · cases o.dst <;> simp [Act.put, h.sz]
  · cases o.dst <;> exact h.df
  · rw [slot_new hord htl hcl ho hx hk hD, getD_put _ _ _ _ hlt]
    cases o.dst with
    | none => exact rel_step hc.step _ _ (h.sl s)
    | some t =>
      simp only [pickD_some]
      by_cases hs : s = t
      · simp only [hs, if_true]; exact hc.rel
      · simp only [hs, if_false]; exact rel_step hc.step _ _ (h.sl s)
  · rw [obj_new hord htl hcl ho hx hk hD] at hob
    exact hc.obsOk h.wf h.ob i ob hob
  · rcases hc.new i hi with h1 | h1
    · rcases h.nw i h1 with h2 | ⟨k', y, h2, h3, h4, h5⟩
      · exact .inl h2
      · refine .inr ⟨k', y, h2, ?_, h4, h5⟩
        rw [hD]; split <;> first | rfl | exact h3
    · exact .inr ⟨k, x, hkn, by rw [hD]; simp, hx, h1⟩

theorem sxK_congr {E : Env} (hK : E.Kok) {rid i : Nat} {σ : St} {g : Nat → Option Ob} {o : Oper} (h : ∀ j ∈ accK E rid i σ o, g j = σ.obj j) : sxK E rid i (evS σ) g σ.nob o = sxK E rid i (evS σ) σ.obj σ.nob o := by
  unfold accK at h
  unfold sxK
  cases hk : E.K rid i with
  | some s =>
    simp only [hk] at h
    simp only
    unfold sxM
    split
    · rfl
    · rfl
    · rfl
    · rfl
    · rfl
    unfold sxCall
    unfold callArgs at h
    split
    · rename_i f args argTypes ho
      simp only [ho] at h
      split
      · rename_i k caps hf
        simp only [hf] at h
        exact ((hK _ _ s hk).congr σ.obj g _ _ _ fun j hj => (h j (List.mem_append_left _ hj)).symm).symm
      · rfl
    · rfl
  | none =>
    simp only [hk] at h
    refine sxE_congr (fun j hj => h j (List.mem_append_left _ hj)) fun j hj => h j (List.mem_append_right _ ?_)
    unfold allNm at hj
    rw [List.mem_flatMap] at hj ⊢
    obtain ⟨x, hx, hj⟩ := hj
    exact ⟨x, hx, evS_nm σ x j hj⟩

theorem wpOp_of {P : Program} {ops : Array Oper} {Q : Exit → Act → World → Prop} {i : Nat} {o : Oper} {K : Act → World → Prop} {a : Act} {w : World} (ho : ops[i]? = some o)
    (h1 : Region.wanted o (yielded ops a.tmps) = true → o.wp P a w K Q) (h2 : Region.wanted o (yielded ops a.tmps) = false → K (a.put o.dst undef) w) : wpOp P ops Q i K a w := by
  unfold wpOp
  rw [ho]
  simp only
  split
  · rename_i h; exact .inl (h1 h)
  · rename_i h; exact h2 (by simpa using h)

theorem wants_now {E : Env} {ops : Array Oper} {o : Oper} {σ : St} {q : Bool} {C : Ctx} {w : World} {a : Act} (h : Wants E ops o σ q) (hsz : a.tmps.size = E.N)
    (hs : ∀ t, t ∈ guardOf ops o → rel C w (σ.get t) (a.tmps.getD t undef)) : Region.wanted o (yielded ops a.tmps) = q := by
  rcases h with ⟨hg, rfl⟩ | ⟨j, want, t, hg, hj, hd, hr⟩
  · simp [Region.wanted, hg]
  · have hlt : t < a.tmps.size := by
      rw [hsz]
      simp only [dstOk, Bool.and_eq_true] at hd
      simpa [Nat.blt_eq] using hd.1
    have hy := yielded_of hj hlt
    have := hr C w _ (hs t (by simp [guardOf, hg, hj]))
    rw [← this]
    simp only [Region.wanted, hg, hy]
    cases a.tmps.getD t undef <;> rfl

theorem sxDraw_sound {E : Env} (hK : E.Kok) {ops : Array Oper} {rid : Nat} {Q : Exit → Act → World → Prop} {post : St → Prop} {σ : St} {C : Ctx} {a : Act} {w : World} (h : Inv E.N C σ a w)
    (hh : (sxDraw E ops rid σ).holds post) (hQ : ∀ C' σ' a' w', post σ' → Inv E.N C' σ' a' w' → Step Top C w C' w' → Q .normal a' w') (hm : E.P.follows .mixedOrders = true) :
    (Code.region rid ops true).wp E.P Q a w := by
  unfold sxDraw at hh
  rw [T.holds_bind, T.holds_iff _ (trace_det _ _ _)] at hh
  obtain ⟨hok, tr, hval, hp⟩ := hh
  cases hord : orderOk ops (infosOf E ops rid 0 ops.toList tr) (masks ops.toList []) with
  | false => rw [hord] at hp; exact hp.elim
  | true =>
  rw [hord] at hp
  have hp : post (stAt ops.toList σ tr ops.size) := hp
  obtain ⟨htl, htf⟩ := trace_fact ops.toList 0 σ tr hok hval
  have hf : ∀ (m : Nat) (o : Oper), ops.toList[m]? = some o → ∃ x, tr[m]? = some x ∧ StepF E ops rid m o (stAt ops.toList σ tr m) x.2 x.1 := by
    intro m o ho
    obtain ⟨x, hx, h1, h2⟩ := htf m o ho
    rw [Nat.zero_add] at h1 h2
    exact ⟨x, hx, step_fact h1 h2⟩
  refine wp_region_any hm ?_
  let Dl : Array Bool → Nat → Bool := fun l j => l.getD j false
  refine wpAny_inv (fun listed a' w' => listed.size = ops.size ∧ Closed ops (Dl listed) ∧ ∃ C', DI E ops σ tr C w (Dl listed) a' w' C') (fun l a w hS => hS.1) ?_ ?_ _ _ _ _ ?_ ?_
  · -- one more
    intro listed a' w' k hready ⟨hsz, hcl, C', hDI⟩
    obtain ⟨hun, o, ho, hdep⟩ := mem_ready.1 hready
    have hkn : k < ops.size := (Array.getElem?_eq_some_iff.1 ho).1
    have hol : ops.toList[k]? = some o := by simpa using ho
    have hk : Dl listed k = false := by
      show listed.getD k false = false
      rw [Array.getD_eq_getD_getElem?] at hun ⊢
      cases hlk : listed[k]? with
      | none => rfl
      | some b => rw [hlk] at hun; simpa using hun
    have hD : ∀ j, Dl (listed.setIfInBounds k true) j = if j = k then true else Dl listed j := by
      intro j
      show (listed.setIfInBounds k true).getD j false = if j = k then true else listed.getD j false
      rw [Array.getD_eq_getD_getElem?, Array.getD_eq_getD_getElem?, Array.getElem?_setIfInBounds]
      by_cases hj : j = k
      · subst hj; simp [show j < listed.size by omega]
      · have : ¬ k = j := fun e => hj e.symm
        simp [hj, this]
    have hcl' : Closed ops (Dl (listed.setIfInBounds k true)) := by
      intro i o' ho' hi e he hb
      rw [hD] at hi ⊢
      by_cases hik : i = k
      · subst hik
        rw [ho] at ho'; injection ho' with ho'; subst ho'
        have := hdep e he hb
        split
        · rfl
        · exact this
      · rw [if_neg hik] at hi
        have := hcl i o' ho' hi e he hb
        split
        · rfl
        · exact this
    obtain ⟨x, hx, st⟩ := hf k o hol
    obtain ⟨tx1, tx2⟩ := text_at hf (fun j => Nat.blt j k) k (by omega) (fun j hj => by rw [Nat.blt_eq]; exact hj)
    have hslot : ∀ s, s ∈ tmpsOf o ++ guardOf ops o → rel C' w' (x.2.get s) (a'.tmps.getD s undef) := by
      intro s hs
      refine st.get s _ _ _ (tx1 s _ _ _ ?_)
      rw [← slot_at hord htl hcl ho hdep hk (s := s) (by simp only [List.mem_append] at hs ⊢; exact .inl hs)]
      exact hDI.sl s
    have hacc : ∀ i, i ∈ accK E rid k x.2 o ++ x.1.eff.touched → x.2.obj i = objF σ tr (Dl listed) ops.size i := by
      intro i hi
      rw [obj_at hord htl hcl ho hx hdep hk hi, tx2 i, st.obj]
    refine wpOp_of ho (fun hw => ?_) (fun hw => ?_)
    · rcases st.kind with ⟨_, hok1, hval1⟩ | ⟨hwn, _⟩
      · let gR : Nat → Option Ob := fun i => if i ∈ accK E rid k x.2 o ++ x.1.eff.touched then x.2.obj i else none
        have hcong : sxK E rid k (evS x.2) gR x.2.nob o = sxK E rid k (evS x.2) x.2.obj x.2.nob o := sxK_congr hK fun i hi => by
          show (if i ∈ _ then _ else _) = _
          rw [if_pos (List.mem_append_left _ hi)]
        rw [← hcong] at hok1 hval1
        have hgR : ObsOk C' w' gR := by
          intro i ob hob
          have : (if i ∈ accK E rid k x.2 o ++ x.1.eff.touched then x.2.obj i else none) = some ob := hob
          split at this
          · rename_i hi
            rw [hacc i hi] at this
            exact hDI.ob i ob this
          · cases this
        have hbef : ∀ i, C'.ν i ≠ none → (stAt ops.toList σ tr k).nob ≤ i → ∃ k' y, k' < ops.size ∧ Dl listed k' = true ∧ tr[k']? = some y ∧ i ∈ y.1.eff.new ∧ k < k' := by
          intro i hc hle
          rcases hDI.nw i hc with h1 | ⟨k', y, h1, h2, h3, h4⟩
          · have := nob_le hf k 0 (by omega)
            rw [Nat.zero_add] at this
            exact absurd (h.nb i (Nat.le_trans this hle)) h1
          · refine ⟨k', y, h1, h2, h3, h4, ?_⟩
            obtain ⟨m1, m2⟩ := nob_new hf h1 h3 h4
            rcases Nat.lt_trichotomy k k' with hlt | heq | hgt
            · exact hlt
            · subst heq; rw [hk] at h2; cases h2
            · have := nob_le hf (k - (k' + 1)) (k' + 1) (by omega)
              rw [show k' + 1 + (k - (k' + 1)) = k by omega] at this
              omega
        have hnew : ∀ i, i ∈ x.1.eff.new → C'.ν i = none := by
          intro i hi
          obtain ⟨n1, n2⟩ := nob_new hf hkn hx hi
          cases hc : C'.ν i with
          | none => rfl
          | some b =>
            exfalso
            obtain ⟨k', y, h1, h2, h3, h4, h5⟩ := hbef i (by rw [hc]; simp) n1
            obtain ⟨m1, m2⟩ := nob_new hf h1 h3 h4
            have := nob_le hf (k' - (k + 1)) (k + 1) (by omega)
            rw [show k + 1 + (k' - (k + 1)) = k' by omega] at this
            omega
        have hstr : ∀ s, E.K rid k = some s → s.strict = true → ∀ i, x.2.nob ≤ i → C'.ν i = none := by
          intro s hs hst i hi
          rw [st.nob] at hi
          cases hc : C'.ν i with
          | none => rfl
          | some b =>
            exfalso
            obtain ⟨k', y, h1, h2, h3, h4, h5⟩ := hbef i (by rw [hc]; simp) hi
            have := strict_at hord htl hcl ho hx hk (by unfold strictK; rw [hs]; exact hst) h1 h2 h3 (fun e => by rw [e] at h4; simp at h4)
            omega
        have hgo := sxK_goes (post := fun r => r = x.1) hK hDI.wf hgR hstr (fun r hr i hi => hnew i (hr ▸ hi)) (fun y hy => evS_rel C' w' x.2 a' y (fun i hi ob hob => by
            have hm : i ∈ accK E rid k x.2 o ++ x.1.eff.touched := List.mem_append_left _ (List.mem_append_right _ (List.mem_flatMap.2 ⟨y, by simpa using hy, hi⟩))
            exact hDI.ob i ob (by rw [← hacc i hm]; exact hob)) (fun t ht => hslot t (List.mem_append_left _ (by
          subst ht
          exact List.mem_filterMap.2 ⟨.tmp t, by simpa using hy, rfl⟩)))) (T.holds_of (post := fun r => r = x.1) rfl _ hok1 hval1) (fun _ => ⟨x.1, hok1, hval1, rfl⟩)
        refine hgo _ Q fun r v w'' C'' hr hc => ⟨by simp [hsz], hcl', C'', ?_⟩
        subst hr
        exact hDI.next hord htl hcl ho hx hk hD hc st.dst
      · exfalso
        have := wants_now hwn hDI.sz (fun t ht => hslot t (List.mem_append_right _ ht))
        rw [hw] at this; cases this
    · rcases st.kind with ⟨hwn, _, _⟩ | ⟨_, hr⟩
      · exfalso
        have := wants_now hwn hDI.sz (fun t ht => hslot t (List.mem_append_right _ ht))
        rw [hw] at this; cases this
      · refine ⟨by simp [hsz], hcl', C', hDI.next hord htl hcl ho hx hk hD ?_ st.dst⟩
        rw [hr]
        exact Came.pure hDI.wf (rel_cell.2 rfl)
  · -- all have come up
    intro listed a' w' ⟨hsz, hcl, C', hDI⟩ hempty
    have hall : ∀ j, j < ops.size → Dl listed j = true := by
      intro j
      induction j using Nat.strongRecOn with
      | _ j ih =>
        intro hj
        cases hd : Dl listed j with
        | true => rfl
        | false =>
          exfalso
          have hoj : ops[j]? = some ops[j] := Array.getElem?_eq_getElem hj
          have : j ∈ Region.ready .any ops listed := by
            refine mem_ready.2 ⟨?_, ops[j], hoj, fun e he hb => ?_⟩
            · have hd : listed.getD j false = false := hd
              rw [Array.getD_eq_getD_getElem?] at hd ⊢
              rw [Array.getElem?_eq_getElem (by omega)] at hd ⊢
              simpa using hd
            · have hlt := orderOk_edge hord hoj e he hb
              exact ih e.on hlt (by omega)
          rw [hempty] at this
          cases this
    obtain ⟨t1, t2⟩ := text_at hf (Dl listed) ops.size (Nat.le_refl _) hall
    refine hQ C' _ a' w' hp ⟨hDI.wf, hDI.sz, hDI.df, fun s => t1 s _ _ _ (hDI.sl s), fun i ob hob => hDI.ob i ob (by rw [t2]; exact hob), fun i hi => ?_⟩ hDI.st
    cases hc : C'.ν i with
    | none => rfl
    | some b =>
      exfalso
      rcases hDI.nw i (by rw [hc]; simp) with h1 | ⟨k', y, h1, h2, h3, h4⟩
      · have := nob_le hf ops.size 0 (by omega)
        rw [Nat.zero_add] at this
        exact h1 (h.nb i (Nat.le_trans this hi))
      · obtain ⟨m1, m2⟩ := nob_new hf h1 h3 h4
        have := nob_le hf (ops.size - (k' + 1)) (k' + 1) (by omega)
        rw [show k' + 1 + (ops.size - (k' + 1)) = ops.size by omega] at this
        omega
  · have : (Array.replicate ops.size false).toList = List.replicate ops.size false := by simp
    rw [this]
    exact Nat.le_trans (List.length_filter_le _ _) (by simp)
  · have hz : ∀ j, Dl (Array.replicate ops.size false) j = false := by
      intro j
      show (Array.replicate ops.size false).getD j false = false
      rw [Array.getD_eq_getD_getElem?, Array.getElem?_replicate]
      split <;> rfl
    have hD0 : ∀ k s, slotF ops.toList σ tr (Dl (Array.replicate ops.size false)) k s = σ.get s := by
      intro k
      induction k with
      | zero => intro s; rfl
      | succ k ih => intro s; simp only [slotF, hz, ih]
    have hO0 : ∀ k i, objF σ tr (Dl (Array.replicate ops.size false)) k i = σ.obj i := by
      intro k
      induction k with
      | zero => intro s; rfl
      | succ k ih => intro s; simp only [objF, hz, ih]
    refine ⟨by simp, fun i o ho hi => ?_, C, ?_⟩
    · rw [hz] at hi; cases hi
    · have hs := step_drew C w
      exact ⟨wf_grown h.wf (w' := { w with drawn := w.drawn + 1 }) ⟨rfl, rfl, rfl, Nat.le_refl _, fun _ _ _ => rfl⟩, h.sz, h.df, fun s => (by rw [hD0]; exact rel_step hs _ _ (h.sl s)), fun i ob hob => ob_step h.wf (step_grown (X := fun _ => False) (w' := { w with drawn := w.drawn + 1 }) ⟨rfl, rfl, rfl, Nat.le_refl _, fun _ _ _ => rfl⟩) (fun h => h) ob (h.ob i ob (by rw [← hO0 ops.size i]; exact hob)), fun i hi => .inl hi, hs⟩
end Rx
