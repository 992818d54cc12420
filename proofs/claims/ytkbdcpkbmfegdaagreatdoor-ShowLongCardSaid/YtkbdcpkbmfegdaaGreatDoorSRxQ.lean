/- Rx, part Q: a region that draws its order, whole. -/
import Derived.Test.YtkbdcpkbmfegdaaGreatDoorSRxN
import Derived.Deep.LoopGhost
set_option linter.unusedSectionVars false
set_option linter.unusedSimpArgs false
set_option linter.unusedVariables false
namespace Rx
open Go
variable [Glob]
structure DI (E : Env) (ops : Array Oper) (σ : St) (tr : List (Res × St)) (C : Ctx) (w : World) (D : Nat -> Bool) (a' : Act) (w' : World) (C' : Ctx) : Prop where
 wf : WF C' w'
 sz : a'.tmps.size = E.N
 df : a'.defers = []
 sl : ∀ s, rel C' w' (slotF ops.toList σ tr D ops.size s) (a'.tmps.getD s undef)
 ob : ObsOk C' w' (objF σ tr D ops.size)
 nw : ∀ i, C'.ν i ≠ none -> C.ν i ≠ none ∨ ∃ k x, k < ops.size /\ D k = true /\ tr[k]? = some x /\ i ∈ x.1.eff.new
 st : Step Top C w C' w'
theorem DI.next {E : Env} {ops : Array Oper} {rid : Nat} {σ : St} {tr : List (Res × St)} {C : Ctx} {w : World} {D D' : Nat -> Bool} {a' : Act} {w' : World} {C' : Ctx} (h : DI E ops σ tr C w D a' w' C')
  (hord : gK ops (gJ E ops rid 0 ops.toList tr) (masks ops.toList []) = true) (htl : tr.length = ops.toList.length) (hcl : Closed ops D)
  {k : Nat} {o : Oper} {x : Res × St} (ho : ops[k]? = some o) (hx : tr[k]? = some x) (hk : D k = false) (hD : ∀ j, D' j = if j = k then true else D j)
  {v : Value} {w'' : World} {C'' : Ctx} (hc : Came C' w' x.1 C'' w'' v) (hdst : dstOk E.N o.dst = true) :
  DI E ops σ tr C w D' (a'.put o.dst v) w'' C'' := by
 have hkn : k < ops.size := (Array.getElem?_eq_some_iff.1 ho).1
 have hlt : ∀ t, o.dst = some t -> t < a'.tmps.size := fun t e => by rw [e] at hdst; simp only [dstOk, Bool.and_eq_true] at hdst; rw [h.sz]; simpa [Nat.blt_eq] using hdst.1
 refine ⟨hc.wf, ?_, ?_, fun s => ?_, fun i ob hob => ?_, fun i hi => ?_, Step.trans h.wf h.st (hc.step.mono fun _ _ => trivial)⟩
 · cases o.dst <;> simp [Act.put, h.sz]
 · cases o.dst <;> exact h.df
 · rw [Tx hord htl hcl ho hx hk hD, j5 _ _ _ _ hlt]
   cases o.dst with
   | none => exact aC hc.step _ _ (h.sl s)
   | some t =>
     simp only [aS]
     by_cases hs : s = t
     · simp only [hs, if_true]; exact hc.rel
     · simp only [hs, if_false]; exact aC hc.step _ _ (h.sl s)
 · rw [WB hord htl hcl ho hx hk hD] at hob
   exact hc.SK h.wf h.ob i ob hob
 · rcases hc.new i hi with h1 | h1
   · rcases h.nw i h1 with h2 | ⟨k', y, h2, h3, h4, h5⟩
     · exact .inl h2
     · refine .inr ⟨k', y, h2, ?_, h4, h5⟩
       rw [hD]; split <;> first | rfl | exact h3
   · exact .inr ⟨k, x, hkn, by rw [hD]; simp, hx, h1⟩
theorem Qp {E : Env} (hK : E.Kok) {rid i : Nat} {σ : St} {g : Nat -> Option Ob} {o : Oper} (h : ∀ j ∈ Cc E rid i σ o, g j = σ.obj j) : sxK E rid i (evS σ) g σ.nob o = sxK E rid i (evS σ) σ.obj σ.nob o := by
 unfold Cc at h
 unfold sxK
 cases hk : E.K rid i with
 | some s =>
   simp only [hk] at h
   simp only
   unfold sxM
   split
   · rfl
   · rfl
   · rfl
   · rfl
   · rfl
   unfold BH
   unfold callArgs at h
   split
   · rename_i f args argTypes ho
     simp only [ho] at h
     split
     · rename_i k caps hf
       simp only [hf] at h
       exact ((hK _ _ s hk).congr σ.obj g _ _ _ fun j hj => (h j (List.mem_append_left _ hj)).symm).symm
     · rfl
   · rfl
 | none =>
   simp only [hk] at h
   refine Qo (fun j hj => h j (List.mem_append_left _ hj)) fun j hj => h j (List.mem_append_right _ ?_)
   unfold CQ at hj
   rw [List.mem_flatMap] at hj ⊢
   obtain ⟨x, hx, hj⟩ := hj
   exact ⟨x, hx, YC σ x j hj⟩
theorem Pe {P : Program} {ops : Array Oper} {Q : Exit -> Act -> World -> Prop} {i : Nat} {o : Oper} {K : Act -> World -> Prop} {a : Act} {w : World} (ho : ops[i]? = some o)
  (h1 : Region.wanted o (yielded ops a.tmps) = true -> o.wp P a w K Q) (h2 : Region.wanted o (yielded ops a.tmps) = false -> K (a.put o.dst undef) w) : wpOp P ops Q i K a w := by
 unfold wpOp
 rw [ho]
 simp only
 split
 · rename_i h; exact .inl (h1 h)
 · rename_i h; exact h2 (by simpa using h)
theorem ES {E : Env} {ops : Array Oper} {o : Oper} {σ : St} {q : Bool} {C : Ctx} {w : World} {a : Act} (h : Wants E ops o σ q) (hsz : a.tmps.size = E.N)
  (hs : ∀ t, t ∈ guardOf ops o -> rel C w (σ.get t) (a.tmps.getD t undef)) : Region.wanted o (yielded ops a.tmps) = q := by
 rcases h with ⟨hg, rfl⟩ | ⟨j, want, t, hg, hj, hd, hr⟩
 · simp [Region.wanted, hg]
 · have hlt : t < a.tmps.size := by
    rw [hsz]
    simp only [dstOk, Bool.and_eq_true] at hd
    simpa [Nat.blt_eq] using hd.1
   have hy := rY hj hlt
   have := hr C w _ (hs t (by simp [guardOf, hg, hj]))
   rw [← this]
   simp only [Region.wanted, hg, hy]
   cases a.tmps.getD t undef <;> rfl
theorem GV {E : Env} (hK : E.Kok) {ops : Array Oper} {rid : Nat} {Q : Exit -> Act -> World -> Prop} {post : St -> Prop} {σ : St} {C : Ctx} {a : Act} {w : World} (h : Inv E.N C σ a w)
  (hh : (LC E ops rid σ).holds post) (hQ : ∀ C' σ' a' w', post σ' -> Inv E.N C' σ' a' w' -> Step Top C w C' w' -> Q .normal a' w') (hm : E.P.follows .mixedOrders = true) :
  (Code.region rid ops true).wp E.P Q a w := by
 unfold LC at hh
 rw [T.ak, T.bC _ (EO _ _ _)] at hh
 obtain ⟨hok, tr, hval, hp⟩ := hh
 cases hord : gK ops (gJ E ops rid 0 ops.toList tr) (masks ops.toList []) with
 | false => rw [hord] at hp; exact hp.elim
 | true =>
 rw [hord] at hp
 have hp : post (jM ops.toList σ tr ops.size) := hp
 obtain ⟨htl, htf⟩ := BU ops.toList 0 σ tr hok hval
 have hf : ∀ (m : Nat) (o : Oper), ops.toList[m]? = some o -> ∃ x, tr[m]? = some x /\ StepF E ops rid m o (jM ops.toList σ tr m) x.2 x.1 := by
  intro m o ho
  obtain ⟨x, hx, h1, h2⟩ := htf m o ho
  rw [Nat.zero_add] at h1 h2
  exact ⟨x, hx, Ql h1 h2⟩
 refine wp_region_any hm ?_
 let Dl : Array Bool -> Nat -> Bool := fun l j => l.getD j false
 refine ET (fun listed a' w' => listed.size = ops.size /\ Closed ops (Dl listed) /\ ∃ C', DI E ops σ tr C w (Dl listed) a' w' C') (fun l a w hS => hS.1) ?_ ?_ _ _ _ _ ?_ ?_
 ·
  intro listed a' w' k hready ⟨hsz, hcl, C', hDI⟩
  obtain ⟨hun, o, ho, hdep⟩ := mem_ready.1 hready
  have hkn : k < ops.size := (Array.getElem?_eq_some_iff.1 ho).1
  have hol : ops.toList[k]? = some o := by simpa using ho
  have hk : Dl listed k = false := by
   show listed.getD k false = false
   rw [Array.getD_eq_getD_getElem?] at hun ⊢
   cases hlk : listed[k]? with
   | none => rfl
   | some b => rw [hlk] at hun; simpa using hun
  have hD : ∀ j, Dl (listed.setIfInBounds k true) j = if j = k then true else Dl listed j := by
   intro j
   show (listed.setIfInBounds k true).getD j false = if j = k then true else listed.getD j false
   rw [Array.getD_eq_getD_getElem?, Array.getD_eq_getD_getElem?, Array.getElem?_setIfInBounds]
   by_cases hj : j = k
   · subst hj; simp [show j < listed.size by omega]
   · have : ¬ k = j := fun e => hj e.symm
     simp [hj, this]
  have hcl' : Closed ops (Dl (listed.setIfInBounds k true)) := by
   intro i o' ho' hi e he hb
   rw [hD] at hi ⊢
   by_cases hik : i = k
   · subst hik
     rw [ho] at ho'; injection ho' with ho'; subst ho'
     have := hdep e he hb
     split
     · rfl
     · exact this
   · rw [if_neg hik] at hi
     have := hcl i o' ho' hi e he hb
     split
     · rfl
     · exact this
  obtain ⟨x, hx, st⟩ := hf k o hol
  obtain ⟨tx1, tx2⟩ := G8 hf (fun j => Nat.blt j k) k (by omega) (fun j hj => by rw [Nat.blt_eq]; exact hj)
  have hslot : ∀ s, s ∈ tmpsOf o ++ guardOf ops o -> rel C' w' (x.2.get s) (a'.tmps.getD s undef) := by
   intro s hs
   refine st.get s _ _ _ (tx1 s _ _ _ ?_)
   rw [← WZ hord htl hcl ho hdep hk (s := s) (by simp only [List.mem_append] at hs ⊢; exact .inl hs)]
   exact hDI.sl s
  have hacc : ∀ i, i ∈ Cc E rid k x.2 o ++ x.1.eff.touched -> x.2.obj i = objF σ tr (Dl listed) ops.size i := by
   intro i hi
   rw [aak hord htl hcl ho hx hdep hk hi, tx2 i, st.obj]
  refine Pe ho (fun hw => ?_) (fun hw => ?_)
  · rcases st.kind with ⟨_, hok1, hval1⟩ | ⟨hwn, _⟩
    · let gR : Nat -> Option Ob := fun i => if i ∈ Cc E rid k x.2 o ++ x.1.eff.touched then x.2.obj i else none
      have hcong : sxK E rid k (evS x.2) gR x.2.nob o = sxK E rid k (evS x.2) x.2.obj x.2.nob o := Qp hK fun i hi => by
       show (if i ∈ _ then _ else _) = _
       rw [if_pos (List.mem_append_left _ hi)]
      rw [← hcong] at hok1 hval1
      have hgR : ObsOk C' w' gR := by
       intro i ob hob
       have : (if i ∈ Cc E rid k x.2 o ++ x.1.eff.touched then x.2.obj i else none) = some ob := hob
       split at this
       · rename_i hi
         rw [hacc i hi] at this
         exact hDI.ob i ob this
       · cases this
      have hbef : ∀ i, C'.ν i ≠ none -> (jM ops.toList σ tr k).nob <= i -> ∃ k' y, k' < ops.size /\ Dl listed k' = true /\ tr[k']? = some y /\ i ∈ y.1.eff.new /\ k < k' := by
       intro i hc hle
       rcases hDI.nw i hc with h1 | ⟨k', y, h1, h2, h3, h4⟩
       · have := vv hf k 0 (by omega)
         rw [Nat.zero_add] at this
         exact absurd (h.nb i (Nat.le_trans this hle)) h1
       · refine ⟨k', y, h1, h2, h3, h4, ?_⟩
         obtain ⟨m1, m2⟩ := xQ hf h1 h3 h4
         rcases Nat.lt_trichotomy k k' with hlt | heq | hgt
         · exact hlt
         · subst heq; rw [hk] at h2; cases h2
         · have := vv hf (k - (k' + 1)) (k' + 1) (by omega)
           rw [show k' + 1 + (k - (k' + 1)) = k by omega] at this
           omega
      have hnew : ∀ i, i ∈ x.1.eff.new -> C'.ν i = none := by
       intro i hi
       obtain ⟨n1, n2⟩ := xQ hf hkn hx hi
       cases hc : C'.ν i with
       | none => rfl
       | some b =>
         exfalso
         obtain ⟨k', y, h1, h2, h3, h4, h5⟩ := hbef i (by rw [hc]; simp) n1
         obtain ⟨m1, m2⟩ := xQ hf h1 h3 h4
         have := vv hf (k' - (k + 1)) (k + 1) (by omega)
         rw [show k + 1 + (k' - (k + 1)) = k' by omega] at this
         omega
      have hstr : ∀ s, E.K rid k = some s -> s.strict = true -> ∀ i, x.2.nob <= i -> C'.ν i = none := by
       intro s hs hst i hi
       rw [st.nob] at hi
       cases hc : C'.ν i with
       | none => rfl
       | some b =>
         exfalso
         obtain ⟨k', y, h1, h2, h3, h4, h5⟩ := hbef i (by rw [hc]; simp) hi
         have := Qn hord htl hcl ho hx hk (by unfold GU; rw [hs]; exact hst) h1 h2 h3 (fun e => by rw [e] at h4; simp at h4)
         omega
      have hgo := JI (post := fun r => r = x.1) hK hDI.wf hgR hstr (fun r hr i hi => hnew i (hr ▸ hi)) (fun y hy => mP C' w' x.2 a' y (fun i hi ob hob => by
        have hm : i ∈ Cc E rid k x.2 o ++ x.1.eff.touched := List.mem_append_left _ (List.mem_append_right _ (List.mem_flatMap.2 ⟨y, by simpa using hy, hi⟩))
        exact hDI.ob i ob (by rw [← hacc i hm]; exact hob)) (fun t ht => hslot t (List.mem_append_left _ (by
       subst ht
       exact List.mem_filterMap.2 ⟨.tmp t, by simpa using hy, rfl⟩)))) (T.holds_of (post := fun r => r = x.1) rfl _ hok1 hval1) (fun _ => ⟨x.1, hok1, hval1, rfl⟩)
      refine hgo _ Q fun r v w'' C'' hr hc => ⟨by simp [hsz], hcl', C'', ?_⟩
      subst hr
      exact hDI.next hord htl hcl ho hx hk hD hc st.dst
    · exfalso
      have := ES hwn hDI.sz (fun t ht => hslot t (List.mem_append_right _ ht))
      rw [hw] at this; cases this
  · rcases st.kind with ⟨hwn, _, _⟩ | ⟨_, hr⟩
    · exfalso
      have := ES hwn hDI.sz (fun t ht => hslot t (List.mem_append_right _ ht))
      rw [hw] at this; cases this
    · refine ⟨by simp [hsz], hcl', C', hDI.next hord htl hcl ho hx hk hD ?_ st.dst⟩
      rw [hr]
      exact Came.pure hDI.wf (aj.2 rfl)
 ·
  intro listed a' w' ⟨hsz, hcl, C', hDI⟩ hempty
  have hall : ∀ j, j < ops.size -> Dl listed j = true := by
   intro j
   induction j using Nat.strongRecOn with
   | _ j ih =>
     intro hj
     cases hd : Dl listed j with
     | true => rfl
     | false =>
       exfalso
       have hoj : ops[j]? = some ops[j] := Array.getElem?_eq_getElem hj
       have : j ∈ Region.ready .any ops listed := by
         refine mem_ready.2 ⟨?_, ops[j], hoj, fun e he hb => ?_⟩
         · have hd : listed.getD j false = false := hd
           rw [Array.getD_eq_getD_getElem?] at hd ⊢
           rw [Array.getElem?_eq_getElem (by omega)] at hd ⊢
           simpa using hd
         · have hlt := Gj hord hoj e he hb
           exact ih e.on hlt (by omega)
       rw [hempty] at this
       cases this
  obtain ⟨t1, t2⟩ := G8 hf (Dl listed) ops.size (Nat.le_refl _) hall
  refine hQ C' _ a' w' hp ⟨hDI.wf, hDI.sz, hDI.df, fun s => t1 s _ _ _ (hDI.sl s), fun i ob hob => hDI.ob i ob (by rw [t2]; exact hob), fun i hi => ?_⟩ hDI.st
  cases hc : C'.ν i with
  | none => rfl
  | some b =>
    exfalso
    rcases hDI.nw i (by rw [hc]; simp) with h1 | ⟨k', y, h1, h2, h3, h4⟩
    · have := vv hf ops.size 0 (by omega)
      rw [Nat.zero_add] at this
      exact h1 (h.nb i (Nat.le_trans this hi))
    · obtain ⟨m1, m2⟩ := xQ hf h1 h3 h4
      have := vv hf (ops.size - (k' + 1)) (k' + 1) (by omega)
      rw [show k' + 1 + (ops.size - (k' + 1)) = ops.size by omega] at this
      omega
 · have : (Array.replicate ops.size false).toList = List.replicate ops.size false := by simp
   rw [this]
   exact Nat.le_trans (List.length_filter_le _ _) (by simp)
 · have hz : ∀ j, Dl (Array.replicate ops.size false) j = false := by
    intro j
    show (Array.replicate ops.size false).getD j false = false
    rw [Array.getD_eq_getD_getElem?, Array.getElem?_replicate]
    split <;> rfl
   have hD0 : ∀ k s, slotF ops.toList σ tr (Dl (Array.replicate ops.size false)) k s = σ.get s := by
    intro k
    induction k with
    | zero => intro s; rfl
    | succ k ih => intro s; simp only [slotF, hz, ih]
   have hO0 : ∀ k i, objF σ tr (Dl (Array.replicate ops.size false)) k i = σ.obj i := by
    intro k
    induction k with
    | zero => intro s; rfl
    | succ k ih => intro s; simp only [objF, hz, ih]
   refine ⟨by simp, fun i o ho hi => ?_, C, ?_⟩
   · rw [hz] at hi; cases hi
   · have hs := Qk C w
     exact ⟨kP h.wf (w' := { w with drawn := w.drawn + 1 }) ⟨rfl, rfl, rfl, Nat.le_refl _, fun _ _ _ => rfl⟩, h.sz, h.df, fun s => (by rw [hD0]; exact aC hs _ _ (h.sl s)), fun i ob hob => bZ h.wf (dV (X := fun _ => False) (w' := { w with drawn := w.drawn + 1 }) ⟨rfl, rfl, rfl, Nat.le_refl _, fun _ _ _ => rfl⟩) (fun h => h) ob (h.ob i ob (by rw [← hO0 ops.size i]; exact hob)), fun i hi => .inl hi, hs⟩
end Rx
set_option linter.unusedSectionVars false
set_option linter.unusedSimpArgs false
set_option linter.unusedVariables false
namespace Rx
open Go
variable [Glob]
def Ex.BM : Ex -> Exit
 | .normal => .normal
 | .exit id => .exit id
 | .ret => .ret
def dB : Code -> Nat
 | .region id _ _ => id
 | .seq a b => match dB a with
   | 0 => dB b
   | n + 1 => n + 1
 | .cond _ a b => match dB a with
   | 0 => dB b
   | n + 1 => n + 1
 | .block _ c => dB c
 | .loop c => dB c
 | .scope c => dB c
 | _ => 0
def Sr : List (Nat × SV) -> Tr SV
 | [] => .nil
 | (j, s) :: l => (Sr l).set .junk CAP j s
def Cu : Nat -> List (Option Ob) -> Tr (Option Ob)
 | _, [] => .nil
 | i, some ob :: l => (Cu (i + 1) l).set none CAP i (some ob)
 | i, none :: l => Cu (i + 1) l
def jH (keep : List (Nat × SV)) (obs : List (Option Ob)) : St := ⟨Sr keep, Cu 0 obs, obs.length⟩
theorem Oz {α : Type} (d : α) (j : Nat) : (Tr.nil : Tr α).get d j = d := by cases j <;> rfl
theorem zI : ∀ (l : List (Nat × SV)) (j : Nat), (l.all fun x => bU x.1) = true -> (Sr l).get .junk j = (l.lookup j).getD .junk
 | [], j, _ => Oz _ _
 | (i, s) :: l, j, h => by
   simp only [List.all_cons, Bool.and_eq_true] at h
   simp only [Sr]
   rw [Tr.qw _ _ _ _ _ _ (oo h.1)]
   by_cases hj : j = i
   · subst hj; simp [List.lookup]
   · have : (j == i) = false := by simpa using hj
     simp only [hj, if_false, List.lookup, this]
     exact zI l j h.2
theorem zH : ∀ (l : List (Option Ob)) (i j : Nat), bU (i + l.length) = true -> (Cu i l).get none j = if i <= j then (l[j - i]?).bind id else none
 | [], i, j, _ => by rw [show Cu i [] = Tr.nil from rfl, Oz]; simp
 | x :: l, i, j, h => by
   have h' : bU (i + 1 + l.length) = true := by rw [← h]; congr 1; simp; omega
   have ih := zH l (i + 1) j h'
   have key : (Cu (i + 1) l).get none j = if i + 1 <= j then (l[j - (i + 1)]?).bind id else none := ih
   have hi : bU i = true := by
     simp only [bU, Nat.blt_eq] at h ⊢; simp at h; omega
   cases x with
   | none =>
     simp only [Cu]
     rw [key]
     by_cases h1 : i + 1 <= j
     · rw [if_pos h1, if_pos (by omega)]
       have : j - i = (j - (i + 1)) + 1 := by omega
       rw [this]; rfl
     · rw [if_neg h1]
       by_cases h2 : i <= j
       · have : j - i = 0 := by omega
         rw [if_pos h2, this]; rfl
       · rw [if_neg h2]
   | some ob =>
     simp only [Cu]
     rw [Tr.qw _ _ _ _ _ _ (oo hi)]
     by_cases hj : j = i
     · subst hj; simp
     · rw [if_neg hj, key]
       by_cases h1 : i + 1 <= j
       · rw [if_pos h1, if_pos (by omega)]
         have : j - i = (j - (i + 1)) + 1 := by omega
         rw [this]; rfl
       · rw [if_neg h1, if_neg (by omega)]
def obAt (g : Nat -> Option Ob) (ids : List Nat) (i : Nat) : Option Ob :=
 match g i with
 | some (.cells t cs) => some (.cells t (fF ids (ru g cs)))
 | some ob => iK ids ob
 | none => none
def leOO : List (Option Ob) -> List (Option Ob) -> Prop
 | [], l' => match l' with
   | [] => True
   | _ => False
 | o :: l, l' => match l' with
   | [] => False
   | o' :: l' => (match o' with
     | none => True
     | some b => match o with
       | none => False
       | some a => PX a b) /\ leOO l l'
theorem tO : ∀ {l l' : List (Option Ob)}, leOO l l' -> l.length = l'.length /\ ∀ (p : Nat) ob, l'[p]? = some (some ob) -> ∃ o, l[p]? = some (some o) /\ PX o ob
 | [], [], _ => ⟨rfl, fun p o' h => by simp at h⟩
 | [], _ :: _, h => by simp only [leOO] at h
 | _ :: _, [], h => by simp only [leOO] at h
 | o :: l, o' :: l', h => by
   simp only [leOO] at h
   obtain ⟨h1, h2⟩ := tO h.2
   refine ⟨by simp [h1], fun p q hp => ?_⟩
   cases p with
   | zero =>
     simp at hp; subst hp
     cases o with
     | none => exact h.1.elim
     | some a => exact ⟨a, rfl, h.1⟩
   | succ p => simpa using h2 p q (by simpa using hp)
mutual
theorem aI : ∀ s : SV, leS s s
 | .dt d => by simp only [leS]; exact dN d
 | .kb b => by simp only [leS]
 | .sy s => by simp only [leS]
 | .ki k n => by simp only [leS]; exact ⟨trivial, trivial⟩
 | .agg l => by simp only [leS]; exact aF l
 | .tup l => by simp only [leS]; exact aF l
 | .fn f l => by simp only [leS]; exact ⟨trivial, aF l⟩
 | .ptr i o => by simp only [leS]; exact ⟨trivial, trivial⟩
 | .nm i => by simp only [leS]
 | .rp i x z o => by simp only [leS]; exact ⟨trivial, trivial, trivial, trivial⟩
 | .ri k a b n => by simp only [leS]; exact ⟨trivial, trivial, Int.le_refl _, Int.le_refl _⟩
 | .sl i z o n c => by simp only [leS]; exact ⟨trivial, trivial, trivial, trivial, trivial⟩
 | .el m g => by simp only [leS]; exact ⟨trivial, fun j _ => dN _⟩
 | .junk => by simp only [leS]
theorem aF : ∀ l : List SV, leL l l
 | [] => by simp only [leL]
 | s :: l => by simp only [leL]; exact ⟨aI s, aF l⟩
end
theorem fO (o : Ob) : PX o o := by
 cases o with
 | cells t cs => exact ⟨rfl, aF cs⟩
 | row t sz n f => exact ⟨rfl, rfl, rfl, fun k _ j _ => dN _⟩
 | frz d => exact dN d
 | mp kt vt l => rfl
 | it m n s => rfl
 | vec t sz n tr ex => rfl
 | itx m n c => rfl
theorem aJ : ∀ l : List (Option Ob), leOO l l
 | [] => by simp only [leOO]
 | none :: l => by simp only [leOO]; exact ⟨trivial, aJ l⟩
 | some o :: l => by simp only [leOO]; exact ⟨fO o, aJ l⟩
theorem AV {g : Nat -> Option Ob} {ids : List Nat} {C1 C : Ctx} {w : World} (hg : ObsOk C w g) (u : Under ids C1 C) (hW : ∀ b, C1.W b -> C.W b) {p i : Nat} (hi : ids[p]? = some i) {ob : Ob} (h : obAt g ids i = some ob) : obHolds C1 w p ob := by
 unfold obAt at h
 split at h
 · rename_i t cs hgi
   simp only [Option.some.injEq] at h
   subst h
   obtain ⟨b, e1, e2, vs, e3, e4⟩ := hg i _ hgi
   exact ⟨b, (u.own p i b hi).2 e1, u.back p i _ hi e2, vs, e3, fG u hW _ vs (mI cs vs (fun j _ ob hj => hg j ob hj) e4)⟩
 · rename_i o _ hgi
   exact rz u hW hi h (hg i _ hgi)
 · cases h
def leK (ids : List Nat) (g : Nat -> Option Ob) : List (Nat × SV) -> St -> Prop
 | [], _ => True
 | (j, s) :: l, σ => leS (jB ids (nrm (thaw g (σ.get j)))) s /\ leK ids g l σ
theorem Oo {ids : List Nat} {g : Nat -> Option Ob} {σ : St} : ∀ {l : List (Nat × SV)} {j : Nat} {s : SV}, leK ids g l σ -> l.lookup j = some s -> leS (jB ids (nrm (thaw g (σ.get j)))) s
 | [], _, _, _, h => by simp at h
 | (i, t) :: l, j, s, h, hl => by
   simp only [List.lookup] at hl
   split at hl
   · rename_i hji
     have : j = i := by simpa using hji
     injection hl with hl
     subst hl; subst this
     exact h.1
   · exact Oo h.2 hl
def Lh : Nat -> List Nat
 | 0 => []
 | n + 1 => Lh n ++ [n]
def opens : Nat -> Nat -> List Nat -> Bool
 | _, 0, _ => true
 | i, n + 1, x :: l => Nat.beq x i && opens (i + 1) n l
 | _, _ + 1, [] => false
theorem vE : ∀ {n i : Nat} {l : List Nat}, opens i n l = true -> ∀ k, k < n -> l[k]? = some (i + k)
 | 0, _, _, _, k, hk => by omega
 | n + 1, i, x :: l, h, k, hk => by
   simp only [opens, Bool.and_eq_true] at h
   have := Nat.eq_of_beq_eq_true h.1
   subst this
   cases k with
   | zero => rfl
   | succ k =>
     have := vE h.2 k (by omega)
     simp only [List.getElem?_cons_succ, this]
     congr 1; omega
 | n + 1, i, [], h, _, _ => by cases h
def stChk (E : Env) (ids : List Nat) (keep : List (Nat × SV)) (obs : List (Option Ob)) : Bool :=
 (keep.all fun x => bU x.1) && Nat.beq ids.length obs.length && bU obs.length && opens 0 E.nb ids && nodup ids
structure Wk (E : Env) (σ : St) (ids : List Nat) (keep : List (Nat × SV)) (obs : List (Option Ob)) : Prop where
 chk : stChk E ids keep obs = true
 sl : leK ids σ.obj keep σ
 ob : leOO (ids.map (obAt σ.obj ids)) obs
theorem Inv.wk {E : Env} {C : Ctx} {σ : St} {a : Act} {w : World} {ids : List Nat} {keep : List (Nat × SV)} {obs : List (Option Ob)} (h : Inv E.N C σ a w) (hw : Wk E σ ids keep obs) :
  Inv E.N (C.sub ids C.W0) (jH keep obs) a w /\ ∀ C0 w0, (∀ i, E.nb <= i -> C0.ν i = none) -> Step Top C0 w0 C w -> Step Top C0 w0 (C.sub ids C.W0) w := by
 obtain ⟨hc, h1, h2⟩ := hw
 simp only [stChk, Bool.and_eq_true] at hc
 obtain ⟨⟨⟨⟨c1, c2⟩, c3⟩, c4⟩, c5⟩ := hc
 have c2 := Nat.eq_of_beq_eq_true c2
 have hu := vN C ids C.W0
 have hs : ∀ i b, (C.sub ids C.W0).ρ i = some b -> ∃ j, ids[i]? = some j /\ C.ρ j = some b := fun i b h => by
  obtain ⟨j, h1, h2⟩ := Option.bind_eq_some_iff.1 h
  exact ⟨j, h1, h2⟩
 have hW : ∀ b, (C.sub ids C.W0).W b -> C.W b := by
  rintro b (hb | ⟨i, hi⟩)
  · exact .inl hb
  · obtain ⟨j, _, hj⟩ := hs i b hi
    exact .inr ⟨j, hj⟩
 have hwf := LB h.wf c5 (W0 := C.W0) fun b hb => ⟨.inl hb, fun ⟨j, _, hj⟩ => h.wf.dis j b hj hb⟩
 refine ⟨⟨hwf, h.sz, h.df, fun j => ?_, fun i ob hob => ?_, fun i hi => LA (by rw [c2]; exact hi)⟩, fun C0 w0 h0 hst => ?_⟩
 · have hget : (jH keep obs).get j = (keep.lookup j).getD .junk := zI keep j c1
   rw [hget]
   cases hl : keep.lookup j with
   | none => trivial
   | some s => exact F7 _ _ _ (Oo h1 hl) (vP hu hW _ _ (aX (qc _ _ (fun i _ ob hob => h.ob i ob hob) (h.sl j))))
 · have hob' : (obs[i]?).bind id = some ob := by
    have := zH obs 0 i (by simpa using c3)
    rw [← show (jH keep obs).obj i = (obs[i]?).bind id from by show Tr.get none (Cu 0 obs) i = _; simpa using this]
    exact hob
   cases hoi : obs[i]? with
   | none => rw [hoi] at hob'; cases hob'
   | some x =>
     rw [hoi] at hob'
     have hx : x = some ob := hob'
     subst hx
     obtain ⟨o, o1, o2⟩ := (tO h2).2 i ob hoi
     rw [List.getElem?_map] at o1
     cases hid : ids[i]? with
     | none => rw [hid] at o1; cases o1
     | some j =>
       rw [hid] at o1
       simp only [Option.map_some, Option.some.injEq] at o1
       exact rO o2 (AV h.ob hu hW hid o1)
 · refine ⟨fun i v hi => ?_, hst.w0, fun j b hj => ?_, fun i b hx _ => absurd trivial hx, hst.ag⟩
   · have hlt : i < E.nb := by
      rcases Nat.lt_or_ge i E.nb with h | h
      · exact h
      · rw [h0 i h] at hi; cases hi
     have hid := vE c4 i hlt
     rw [Nat.zero_add] at hid
     show (ids[i]?).bind C.ν = some v
     rw [hid]
     exact hst.ext i v hi
   · obtain ⟨k, _, hk⟩ := hs j b hj
     exact hst.own k b hk
def dW (E : Env) : Code -> St -> T (Ex × St)
 | .skip, σ => .ret (.normal, σ)
 | .region rid ops false, σ => (OW E ops rid 0 ops.toList σ).bind fun σ' => .ret (.normal, σ')
 | .region rid ops true, σ => (LC E ops rid σ).bind fun σ' => .ret (.normal, σ')
 | .seq a b, σ => (dW E a σ).bind fun x => match x.1 with
   | .normal => dW E b x.2
   | e => .ret (e, x.2)
 | .cond c a b, σ => match evS σ c with
   | .kb q => bif q then dW E a σ else dW E b σ
   | .dt (.cell (.bool q)) => brq E.conc q (dW E a σ) (dW E b σ)
   | _ => .fail
 | .block id c, σ => (dW E c σ).bind fun x => match x.1 with
   | .exit k => bif Nat.beq k id then .ret (.normal, x.2) else .ret (.exit k, x.2)
   | e => .ret (e, x.2)
 | .loop c, σ => match E.L c σ with
   | some li => bif stChk E li.ids li.keep li.obs then .need (leK li.ids σ.obj li.keep σ) (.need (leOO (li.ids.map (obAt σ.obj li.ids)) li.obs) li.out) else .fail
   | none => .fail
 | .exit id, σ => .ret (.exit id, σ)
 | .ret, σ => .ret (.ret, σ)
 | _, _ => .fail
def Xq (E : Env) (C0 : Ctx) (w0 : World) (post : Ex × St -> Prop) (e : Exit) (a : Act) (w : World) : Prop :=
 ∃ x C, post x /\ e = x.1.BM /\ Inv E.N C x.2 a w /\ Step Top C0 w0 C w
def Sound (E : Env) (c : Code) (σ : St) (t : T (Ex × St)) : Prop :=
 ∀ (C0 : Ctx) (w0 : World), (∀ i, E.nb <= i -> C0.ν i = none) -> ∀ (post : Ex × St -> Prop), t.holds post -> ∀ C a w, Inv E.N C σ a w -> Step Top C0 w0 C w -> c.wp E.P (Xq E C0 w0 post) a w
def bH : Code -> List Code
 | .seq a b => bH a ++ bH b
 | .cond _ a b => bH a ++ bH b
 | .block _ c => bH c
 | .loop c => [c]
 | _ => []
def Env.Lok (E : Env) (l : List Code) : Prop := ∀ c ∈ l, ∀ σ li, E.L c σ = some li -> Sound E (.loop c) (jH li.keep li.obs) li.out
theorem Step.then {C0 C C' : Ctx} {w0 w w' : World} (hw : WF C w) (h : Step Top C0 w0 C w) (k : Step Top C w C' w') : Step Top C0 w0 C' w' := Step.trans hw h k
theorem dX {E : Env} (hK : E.Kok) (hm : E.P.follows .mixedOrders = true) : ∀ (c : Code) (σ : St), E.Lok (bH c) -> Sound E c σ (dW E c σ)
 | .skip, σ, _ => fun C0 w0 _ post h C a w hi hf => wp_skip ⟨_, C, h, rfl, hi, hf⟩
 | .exit id, σ, _ => fun C0 w0 _ post h C a w hi hf => wp_exit ⟨_, C, h, rfl, hi, hf⟩
 | .ret, σ, _ => fun C0 w0 _ post h C a w hi hf => wp_ret ⟨_, C, h, rfl, hi, hf⟩
 | .region rid ops false, σ, _ => fun C0 w0 _ post h C a w hi hf => by
   simp only [dW, T.ak] at h
   exact wp_region_list (wQ hK ops.toList 0 σ C a w hi h fun C' σ' a' w' p i s => ⟨_, C', p, rfl, i, hf.then hi.wf s⟩)
 | .region rid ops true, σ, _ => fun C0 w0 _ post h C a w hi hf => by
   simp only [dW, T.ak] at h
   exact GV hK hi h (fun C' σ' a' w' p i s => ⟨_, C', p, rfl, i, hf.then hi.wf s⟩) hm
 | .seq x y, σ, hL => fun C0 w0 h0 post h C a w hi hf => by
   simp only [dW, T.ak] at h
   have hx := dX hK hm x σ (fun c hc => hL c (List.mem_append_left _ hc)) C0 w0 h0 _ h C a w hi hf
   refine wp_seq (wp_mono hx ?_)
   rintro e a' w' ⟨⟨ex, σ'⟩, C', hp, rfl, hi', hf'⟩
   cases ex with
   | normal => exact dX hK hm y σ' (fun c hc => hL c (List.mem_append_right _ hc)) C0 w0 h0 post hp C' a' w' hi' hf'
   | exit id => exact ⟨_, C', hp, rfl, hi', hf'⟩
   | ret => exact ⟨_, C', hp, rfl, hi', hf'⟩
 | .cond c x y, σ, hL => fun C0 w0 h0 post h C a w hi hf => by
   have hc := mP C w σ a c (fun i _ ob hob => hi.ob i ob hob) (fun t _ => hi.sl t)
   have hx := dX hK hm x σ (fun c hc => hL c (List.mem_append_left _ hc)) C0 w0 h0 post
   have hy := dX hK hm y σ (fun c hc => hL c (List.mem_append_right _ hc)) C0 w0 h0 post
   simp only [dW] at h
   split at h
   · rename_i q hq
     rw [hq] at hc
     cases q with
     | true => exact wp_cond_true hc (hx h C a w hi hf)
     | false => exact wp_cond_false hc (hy h C a w hi hf)
   · rename_i q hq
     rw [hq, aj] at hc
     obtain ⟨h1, h2⟩ := CW _ _ _ _ h
     cases q with
     | true => exact wp_cond_true hc (hx (h1 rfl) C a w hi hf)
     | false => exact wp_cond_false hc (hy (h2 rfl) C a w hi hf)
   · exact h.elim
 | .block id c, σ, hL => fun C0 w0 h0 post h C a w hi hf => by
   simp only [dW, T.ak] at h
   refine wp_block (wp_mono (dX hK hm c σ hL C0 w0 h0 _ h C a w hi hf) ?_)
   rintro e a' w' ⟨⟨ex, σ'⟩, C', hp, rfl, hi', hf'⟩
   cases ex with
   | normal => exact ⟨_, C', hp, rfl, hi', hf'⟩
   | ret => exact ⟨_, C', hp, rfl, hi', hf'⟩
   | exit k =>
     simp only at hp
     show Exit.inBlock id _ (.exit k) a' w'
     simp only [Exit.inBlock]
     cases hk : Nat.beq k id with
     | true =>
       rw [hk] at hp
       rw [if_pos (Nat.eq_of_beq_eq_true hk)]
       exact ⟨_, C', hp, rfl, hi', hf'⟩
     | false =>
       rw [hk] at hp
       have : ¬ k = id := fun e => by rw [nW e] at hk; cases hk
       rw [if_neg this]
       exact ⟨_, C', hp, rfl, hi', hf'⟩
 | .loop c, σ, hL => fun C0 w0 h0 post h C a w hi hf => by
   simp only [dW] at h
   cases hl : E.L c σ with
   | none => rw [hl] at h; exact h.elim
   | some li =>
     rw [hl] at h
     simp only at h
     cases hc : stChk E li.ids li.keep li.obs with
     | false => rw [hc] at h; exact h.elim
     | true =>
       rw [hc] at h
       obtain ⟨h1, h2, h3⟩ := h
       obtain ⟨hi', hf'⟩ := hi.wk ⟨hc, h1, h2⟩
       exact hL c (by simp [bH]) σ li hl C0 w0 h0 post h3 _ a w hi' (hf' C0 w0 h0 hf)
 | .rangeFunc _ _ _ _, σ, _ => fun C0 w0 _ post h => h.elim
 | .scope _, σ, _ => fun C0 w0 _ post h => h.elim
 | .label _, σ, _ => fun C0 w0 _ post h => h.elim
 | .goto _, σ, _ => fun C0 w0 _ post h => h.elim
 | .refuse _, σ, _ => fun C0 w0 _ post h => h.elim
def X9 (g : Nat -> Option Ob) (i : Nat) : Option Ob :=
 match g i with
 | some (.cells t cs) => some (.cells t (ru g cs))
 | o => o
def Yp (nb : Nat) (g : Nat -> Option Ob) (svs : List SV) : List Nat :=
 reach (X9 g) 400 ((Lh nb).flatMap (fun i => SH (X9 g i)) ++ bW svs) (Lh nb)
structure View where
 ids : List Nat
 sv : List SV
 ob : List (Option Ob)
def aM (nb : Nat) (g : Nat -> Option Ob) (svs : List SV) : View :=
 let ids := Yp nb g svs
 ⟨ids, fF ids svs, ids.map (obAt g ids)⟩
def St.slots (σ : St) : List Nat -> List SV
 | [] => []
 | j :: l => nrm (thaw σ.obj (σ.get j)) :: σ.slots l
abbrev OutC := Ex × List SV × List (Option Ob)
structure Lv where
 h : List Nat
 x : List Nat
 r : List Nat
def Lv.of (v : Lv) : Ex -> List Nat
 | .normal => v.h
 | .exit _ => v.x
 | .ret => v.r
def OutC.st (v : Lv) (y : OutC) : Ex × St := (y.1, jH ((v.of y.1).zip y.2.1) y.2.2)
def T.map {α β : Type} (f : α -> β) (t : T α) : T β := t.bind fun a => .ret (f a)
theorem T.PK {α β : Type} {post : β -> Prop} (f : α -> β) (t : T α) : (t.map f).holds post ↔ t.holds fun a => post (f a) := by
 unfold T.map; rw [T.ak]; rfl
def yg (E : Env) (live : List Nat) (v : View) : Bool :=
 (live.all bU) && bU v.ob.length && opens 0 E.nb v.ids && nodup v.ids
theorem Sb {ids : List Nat} {σ : St} : ∀ {live : List Nat} {l' : List SV}, leL (fF ids (σ.slots live)) l' -> leK ids σ.obj (live.zip l') σ
 | [], _, _ => trivial
 | _ :: _, [], _ => trivial
 | j :: live, s :: l', h => by
   simp only [St.slots, fF, leL] at h
   exact ⟨h.1, Sb h.2⟩
theorem O9 {E : Env} {σ : St} {live : List Nat} {l' : List SV} {obs : List (Option Ob)} (hc : yg E live (aM E.nb σ.obj (σ.slots live)) = true)
  (h1 : leL (aM E.nb σ.obj (σ.slots live)).sv l') (h2 : leOO (aM E.nb σ.obj (σ.slots live)).ob obs) : Wk E σ (aM E.nb σ.obj (σ.slots live)).ids (live.zip l') obs := by
 simp only [yg, Bool.and_eq_true] at hc
 obtain ⟨⟨⟨c1, c2⟩, c3⟩, c4⟩ := hc
 have hl := (tO h2).1
 have hl2 : (aM E.nb σ.obj (σ.slots live)).ob.length = (aM E.nb σ.obj (σ.slots live)).ids.length := by simp [aM]
 refine ⟨?_, Sb h1, h2⟩
 simp only [stChk, Bool.and_eq_true]
 refine ⟨⟨⟨⟨List.all_eq_true.2 fun x hx => List.all_eq_true.1 c1 _ (List.of_mem_zip hx).1, nW (by omega)⟩, by rw [← hl]; exact c2⟩, c3⟩, c4⟩
def Sc (E : Env) (v : Lv) (Rn : List SV -> List (Option Ob) -> Prop) (Re : Ex -> List SV -> List (Option Ob) -> Prop) (y : Ex × St) : Prop :=
 bif yg E (v.of y.1) (aM E.nb y.2.obj (y.2.slots (v.of y.1))) then
    match y.1 with
    | .normal => Rn (aM E.nb y.2.obj (y.2.slots (v.of y.1))).sv (aM E.nb y.2.obj (y.2.slots (v.of y.1))).ob
    | e => Re e (aM E.nb y.2.obj (y.2.slots (v.of y.1))).sv (aM E.nb y.2.obj (y.2.slots (v.of y.1))).ob
 else False
def l5 (post : OutC -> Prop) (e : Ex) (sv : List SV) (ob : List (Option Ob)) : Prop :=
 ∃ sv' ob', leL sv sv' /\ leOO ob ob' /\ post (e, sv', ob')
theorem KV {E : Env} (hK : E.Kok) (hm : E.P.follows .mixedOrders = true) {c : Code} (hL : E.Lok (bH c)) (live : Lv) {X : Type} (args : X -> List SV) (obs : X -> List (Option Ob)) (out : X -> T OutC) (μ : X -> Nat)
  (hstep : ∀ x post, (out x).holds post -> (dW E c (jH (live.h.zip (args x)) (obs x))).holds
   (Sc E live (fun sv ob => ∃ x', μ x' < μ x /\ leL sv (args x') /\ leOO ob (obs x') /\ (out x').holds post) (l5 post))) (x : X) :
  Sound E (.loop c) (jH (live.h.zip (args x)) (obs x)) ((out x).map (OutC.st live)) := by
 intro C0 w0 h0 post0 hp C a w hi hf
 rw [T.PK] at hp
 let post : OutC -> Prop := fun y => post0 (OutC.st live y)
 refine wp_loop_ghost (fun n a w => ∃ x C, μ x = n /\ (out x).holds post /\ Inv E.N C (jH (live.h.zip (args x)) (obs x)) a w /\ Step Top C0 w0 C w) (μ x) ⟨x, C, rfl, hp, hi, hf⟩ ?_
 rintro n a w ⟨x, C, rfl, hp, hi, hf⟩
 refine wp_mono (dX hK hm c _ hL C0 w0 h0 _ (hstep x post hp) C a w hi hf) ?_
 rintro e a' w' ⟨⟨ex, σ'⟩, C', hy, rfl, hi', hf'⟩
 unfold Sc at hy
 cases hc : yg E (live.of ex) (aM E.nb σ'.obj (σ'.slots (live.of ex))) with
 | false => rw [hc] at hy; exact hy.elim
 | true =>
   rw [hc, cond_true] at hy
   have hout : l5 post ex (aM E.nb σ'.obj (σ'.slots (live.of ex))).sv (aM E.nb σ'.obj (σ'.slots (live.of ex))).ob -> Xq E C0 w0 post0 ex.BM a' w' := by
    rintro ⟨sv', ob', h1, h2, h3⟩
    obtain ⟨i1, i2⟩ := hi'.wk (O9 hc h1 h2)
    exact ⟨_, _, h3, rfl, i1, i2 C0 w0 h0 hf'⟩
   cases ex with
   | normal =>
     obtain ⟨x', h1, h2, h3, h4⟩ := hy
     obtain ⟨i1, i2⟩ := hi'.wk (O9 hc h2 h3)
     exact ⟨μ x', h1, x', _, rfl, h4, i1, i2 C0 w0 h0 hf'⟩
   | exit id => exact hout hy
   | ret => exact hout hy
def Gc (nb : Nat) (live : Lv) (sel : List SV -> List (Option Ob) -> Option (List SV × List (Option Ob) × T OutC)) (σ : St) : Option LI :=
 match sel (aM nb σ.obj (σ.slots live.h)).sv (aM nb σ.obj (σ.slots live.h)).ob with
 | some (args, obs, out) => some ⟨(aM nb σ.obj (σ.slots live.h)).ids, live.h.zip args, obs, out.map (OutC.st live)⟩
 | none => none
theorem P5 {E : Env} {c : Code} {live : Lv} {sel : List SV -> List (Option Ob) -> Option (List SV × List (Option Ob) × T OutC)}
  (h : ∀ svs obl args obs out, sel svs obl = some (args, obs, out) -> Sound E (.loop c) (jH (live.h.zip args) obs) (out.map (OutC.st live))) (σ : St) (li : LI) (hl : Gc E.nb live sel σ = some li) :
  Sound E (.loop c) (jH li.keep li.obs) li.out := by
 unfold Gc at hl
 split at hl
 · rename_i args obs out hs
   simp only [Option.some.injEq] at hl
   subst hl
   exact h _ _ _ _ _ hs
 · cases hl
end Rx
