/- Rx, part S: a function keeps its contract. -/
import Derived.Test.YtnalaogenpicfaaDoorRxR
set_option linter.unusedSectionVars false
set_option linter.unusedSimpArgs false
set_option linter.unusedVariables false
namespace Rx
open Go
variable [Glob]

def finish1 (P : Program) (σ : St) : ResultVar → T SV
  | .tmp t => .ret (nrm (σ.get t))
  | .cell a t => loadSV P σ.obj t (σ.get a)

def finishL (P : Program) (σ : St) : List ResultVar → T (List SV)
  | [] => .ret []
  | r :: l => (finish1 P σ r).bind fun s => (finishL P σ l).bind fun ss => .ret (s :: ss)

def finish (P : Program) (fn : Func) (σ : St) : T SV :=
  (finishL P σ fn.results.toList).bind fun ss => match ss with
    | [s] => .ret s
    | ss => .ret (.tup ss)

theorem finish1_sound {P : Program} {N : Nat} {C : Ctx} {σ : St} {a : Act} {w : World} (h : Inv N C σ a w) (r : ResultVar) {s : SV} (hok : (finish1 P σ r).ok) (hv : (finish1 P σ r).val = some s) :
    ∃ v, ((match r with
      | .tmp t => pure (a.tmps.getD t undef)
      | .cell b t => do loadVar t (← asAddr (a.tmps.getD b undef)) : Sem Value)).run P w = .ok v w ∧ rel C w s v := by
  cases r with
  | tmp t =>
    simp only [finish1, T.val, Option.some.injEq] at hv
    subst hv
    exact ⟨_, rfl, nrm_rel (h.sl t)⟩
  | cell b t =>
    obtain ⟨v, h1, h2⟩ := loadSV_sound (P := P) h.ob t (σ.get b) s (a.tmps.getD b undef) (h.sl b) hok hv
    refine ⟨v, ?_, h2⟩
    show (do loadVar t (← asAddr (a.tmps.getD b undef)) : Sem Value).run P w = _
    revert h1
    generalize a.tmps.getD b undef = u
    intro h1
    cases u with
    | pointer ad =>
      cases ad with
      | none => simp [Instr.loadAt, Instr.sureAddr] at h1
      | some ad => simpa [Instr.loadAt, Instr.sureAddr, asAddr] using h1
    | _ => simp [Instr.loadAt, Instr.sureAddr] at h1

theorem finishL_sound {P : Program} {N : Nat} {C : Ctx} {σ : St} {a : Act} {w : World} (h : Inv N C σ a w) : ∀ (l : List ResultVar) {ss : List SV}, (finishL P σ l).ok → (finishL P σ l).val = some ss →
    ∃ vs : List Value, (l.mapM (fun r => (match r with
      | .tmp t => pure (a.tmps.getD t undef)
      | .cell b t => do loadVar t (← asAddr (a.tmps.getD b undef)) : Sem Value))).run P w = .ok vs w ∧ relL C w ss vs
  | [], ss, _, hv => by
    simp only [finishL, T.val, Option.some.injEq] at hv
    subst hv
    exact ⟨[], by simp, rfl⟩
  | r :: l, ss, hok, hv => by
    simp only [finishL] at hok hv
    obtain ⟨s, h1, hv⟩ := T.bind_val hv
    obtain ⟨k1, k2⟩ := T.bind_ok hok
    have k2 := k2 s h1
    obtain ⟨ss', h2, hv⟩ := T.bind_val hv
    have k3 := (T.bind_ok k2).1
    simp only [T.val, Option.some.injEq] at hv
    subst hv
    obtain ⟨v, e1, e2⟩ := finish1_sound h r k1 h1
    obtain ⟨vs, e3, e4⟩ := finishL_sound h l k3 h2
    refine ⟨v :: vs, ?_, v, vs, rfl, e2, e4⟩
    rw [List.mapM_cons, Sem.run_bind]
    rw [e1]
    simp only [Result.andThen_ok, Sem.run_bind, e3, Sem.run_pure]

theorem finish_sound {P : Program} {N : Nat} {C : Ctx} {σ : St} {a : Act} {w : World} (h : Inv N C σ a w) (fn : Func) {s : SV} (hok : (finish P fn σ).ok) (hv : (finish P fn σ).val = some s) :
    ∃ v, (results fn a.tmps).run P w = .ok v w ∧ rel C w s v := by
  unfold finish at hok hv
  obtain ⟨ss, h1, hv⟩ := T.bind_val hv
  obtain ⟨k1, k2⟩ := T.bind_ok hok
  obtain ⟨vs, e1, e2⟩ := finishL_sound h fn.results.toList k1 h1
  have hl := relL_length e2
  have hrun : (results fn a.tmps).run P w = .ok (if h : vs.toArray.size = 1 then vs.toArray[0] else .tuple vs.toArray) w := by
    unfold results
    rw [Sem.run_bind, Array.mapM_eq_mapM_toList, Sem.run_map]
    refine (congrArg (fun r : Result (List Value) => (r.andThen fun a w' => Result.ok (List.toArray a) w').andThen _) e1).trans ?_
    rfl
  rw [hrun]
  refine ⟨_, rfl, ?_⟩
  match ss, vs, hl, e2, hv with
  | [s'], [v], _, e2, hv =>
    simp only [T.val, Option.some.injEq] at hv
    subst hv
    obtain ⟨v', r, e, h3, _⟩ := e2
    simp only [List.cons.injEq] at e
    obtain ⟨rfl, rfl⟩ := e
    exact h3
  | [], [], _, e2, hv =>
    simp only [T.val, Option.some.injEq] at hv
    subst hv
    exact ⟨[], rfl, e2⟩
  | s1 :: s2 :: ss, v1 :: v2 :: vs, hl, e2, hv =>
    simp only [T.val, Option.some.injEq] at hv
    subst hv
    exact ⟨_, by simp, e2⟩

def slotsOf : Nat → List SV → List (Nat × SV)
  | _, [] => []
  | i, s :: l => (i, s) :: slotsOf (i + 1) l

theorem slotsOf_lookup : ∀ (l : List SV) (i j : Nat), (slotsOf i l).lookup j = if i ≤ j then l[j - i]? else none
  | [], i, j => by simp [slotsOf]
  | s :: l, i, j => by
    simp only [slotsOf, List.lookup]
    by_cases hj : j = i
    · subst hj; simp
    · have : (j == i) = false := by simpa using hj
      rw [this]
      simp only
      rw [slotsOf_lookup l (i + 1) j]
      by_cases h1 : i + 1 ≤ j
      · rw [if_pos h1, if_pos (by omega)]
        have : j - i = (j - (i + 1)) + 1 := by omega
        rw [this]; rfl
      · rw [if_neg h1, if_neg (by omega)]

theorem loadSV_det (P : Program) (g : Nat → Option Ob) (t : TypeId) (p : SV) : (loadSV P g t p).det = true := by
  unfold loadSV
  repeat' split
  all_goals first
    | rfl
    | (cases (Nat.ble _ _) <;> rfl)
    | (rename_i z _ _ _ _ _ _ _; cases (Nat.beq _ _ && _) <;> rfl)
    | (cases (Nat.beq _ _ && _) <;> rfl)

theorem finish1_det (P : Program) (σ : St) (r : ResultVar) : (finish1 P σ r).det = true := by
  cases r with
  | tmp t => rfl
  | cell a t => exact loadSV_det _ _ _ _

theorem finishL_det (P : Program) (σ : St) : ∀ l : List ResultVar, (finishL P σ l).det = true
  | [] => rfl
  | r :: l => T.bind_det (fun s => T.bind_det (fun ss => rfl) _ (finishL_det P σ l)) _ (finish1_det P σ r)

theorem finish_det (P : Program) (fn : Func) (σ : St) : (finish P fn σ).det = true :=
  T.bind_det (fun ss => by split <;> rfl) _ (finishL_det P σ _)

/-- the state at a function's beginning -/
def entry (args : List SV) (obs : List Ob) : St := mkSt (slotsOf 0 args) (obs.map some)

/-- the view behind a frame: the result, and what is lent; frz: rows that are the result's are written no more -/
def doneView (nb : Nat) (frz : Bool) (σ : St) (s : SV) : View :=
  bif frz then
    match frzIds σ.obj [] (thaw σ.obj s) with
    | [] => viewOf nb σ.obj [thaw σ.obj s]
    | i :: l => viewOf nb (frzG σ.obj (i :: l)) [thaw (frzG σ.obj (i :: l)) (frzSV σ.obj (i :: l) (thaw σ.obj s))]
  else viewOf nb σ.obj [thaw σ.obj s]

/-- no slice, where a row is wanted: an empty one, under a name of its own -/
def promo (pr : Option (TypeId × Nat)) (σ : St) (s : SV) : St × SV :=
  match pr, s with
  | some (t, sz), .dt (.cell (.slice none 0 0)) => bif capOk σ.nob then ({ (σ.setOb σ.nob (some (.row t sz 0 fun _ _ => undefCell))) with nob := σ.nob + 1 }, .nm σ.nob) else (σ, s)
  | _, _ => (σ, s)

/-- what a frame must come to -/
def endP (E : Env) (frz : Bool) (R : SV → List (Option Ob) → Prop) (σ : St) (s : SV) : Prop :=
  bif opens 0 E.nb (doneView E.nb frz σ s).ids && nodup (doneView E.nb frz σ s).ids then
    match (doneView E.nb frz σ s).sv with
    | [s'] => R s' (doneView E.nb frz σ s).ob
    | _ => False
  else False
/-- frz: rows that are the result's are written no more; pr: a result that is no slice is an empty row -/
structure Fin where
  frz : Bool
  pr : Option (TypeId × Nat)
def fin0 : Fin := ⟨false, none⟩
def doneP (E : Env) (fn : Func) (fi : Fin) (R : SV → List (Option Ob) → Prop) (y : Ex × St) : Prop :=
  (match y.1 with
    | .exit _ => False
    | _ => True) ∧ (finish E.P fn y.2).holds fun s => endP E fi.frz R (promo fi.pr y.2 s).1 (promo fi.pr y.2 s).2

/-- the result and the objects, where what is known says as much as is asked -/
def Gives (post : Out → Prop) (s : SV) (ob : List (Option Ob)) : Prop := ∃ y : Out, post y ∧ leS s y.1 ∧ leOO ob y.2

theorem view_holds {C : Ctx} {w : World} {g : Nat → Option Ob} {nb : Nat} {s : SV} {v : Value} (hw : WF C w) (hg : ObsOk C w g) (hr : rel C w s v)
    (hn : nodup (viewOf nb g [s]).ids = true) : WF (C.sub (viewOf nb g [s]).ids C.W0) w ∧ (∀ s', (viewOf nb g [s]).sv = [s'] → rel (C.sub (viewOf nb g [s]).ids C.W0) w s' v) ∧
      ∀ (p : Nat) ob, (viewOf nb g [s]).ob[p]? = some (some ob) → obHolds (C.sub (viewOf nb g [s]).ids C.W0) w p ob := by
  have hu := sub_under C (viewOf nb g [s]).ids C.W0
  have hW : ∀ b, (C.sub (viewOf nb g [s]).ids C.W0).W b → C.W b := by
    rintro b (hb | ⟨i, hi⟩)
    · exact .inl hb
    · obtain ⟨j, _, hj⟩ := Option.bind_eq_some_iff.1 hi
      exact .inr ⟨j, hj⟩
  refine ⟨sub_wf hw hn fun b hb => ⟨.inl hb, fun ⟨j, _, hj⟩ => hw.dis j b hj hb⟩, fun s' hs => ?_, fun p ob hp => ?_⟩
  · have e : (viewOf nb g [s]).sv = [unren (viewOf nb g [s]).ids s] := rfl
    rw [e] at hs
    injection hs with hs
    subst hs
    exact unren_rel hu hW _ _ hr
  · have e : (viewOf nb g [s]).ob = (viewOf nb g [s]).ids.map (obAt g (viewOf nb g [s]).ids) := rfl
    rw [e, List.getElem?_map] at hp
    cases hi : (viewOf nb g [s]).ids[p]? with
    | none => rw [hi] at hp; cases hp
    | some j =>
      rw [hi] at hp
      simp only [Option.map_some, Option.some.injEq] at hp
      exact obAt_holds hg hu hW hi hp

theorem ctr_of {E : Env} (hK : E.Kok) (hm : E.P.follows .mixedOrders = true) {f : FuncId} {fn : Func} {c : Code} (hf : E.P.funcs[f]? = some fn) (hb : fn.body = some c) (hN : fn.ntmps = E.N) (hL : E.Lok (loopsOf c))
    {args : List SV} {obs : List Ob} {out : T Out} (fi : Fin) (hnb : E.nb = obs.length)
    (hchk : (Nat.ble args.length E.N && capOk args.length && capOk obs.length) = true)
    (h : ∀ post, out.holds post → (sxCode E c (entry args obs)).holds (doneP E fn fi (Gives post))) : Ctr E.P f args obs out := by
  simp only [Bool.and_eq_true] at hchk
  obtain ⟨⟨c1, c2⟩, c3⟩ := hchk
  have c1 := Nat.le_of_ble_eq_true c1
  intro C w vs post hw hobs hnone hargs hpost
  have h := h post hpost
  have hlen := relL_length hargs
  have hcap2 : args.length < 4095 := by simpa [capOk, Nat.blt_eq] using c2
  have hall : ((slotsOf 0 args).all fun x => capOk x.1) = true := by
    have key : ∀ (l : List SV) (i : Nat), i + l.length < 4095 → ((slotsOf i l).all fun x => capOk x.1) = true := by
      intro l
      induction l with
      | nil => intro i _; rfl
      | cons s l ih =>
        intro i hi
        simp only [slotsOf, List.all_cons, Bool.and_eq_true]
        simp only [List.length_cons] at hi
        exact ⟨by simp [capOk, Nat.blt_eq]; omega, ih (i + 1) (by omega)⟩
    exact key args 0 (by omega)
  have hinv : Inv E.N C (mkSt (slotsOf 0 args) (obs.map some)) { tmps := vs.toArray ++ Array.replicate (fn.ntmps - vs.toArray.size) undef, defers := [] } w := by
    refine ⟨hw, ?_, rfl, fun j => ?_, fun i ob hi => ?_, fun i hi => hnone i (by simpa [mkSt] using hi)⟩
    · simp; omega
    · have hg : (mkSt (slotsOf 0 args) (obs.map some)).get j = (args[j]?).getD .junk := by
        have := mkSl_get (slotsOf 0 args) j hall
        show Tr.get .junk (mkSl (slotsOf 0 args)) j = _
        rw [this, slotsOf_lookup]; simp
      rw [hg]
      cases ha : args[j]? with
      | none => trivial
      | some s =>
        obtain ⟨v, hv, hr⟩ := relL_get j s hargs ha
        have hjl : j < vs.length := (List.getElem?_eq_some_iff.1 hv).1
        have e : (vs.toArray ++ Array.replicate (fn.ntmps - vs.toArray.size) undef).getD j undef = v := by
          rw [Array.getD_eq_getD_getElem?, Array.getElem?_append_left (by simpa using hjl)]
          simp [hv]
        rw [e]
        exact hr
    · have hg : (mkSt (slotsOf 0 args) (obs.map some)).obj i = obs[i]? := by
        have := mkOb_get (obs.map some) 0 i (by simpa using c3)
        show Tr.get none (mkOb 0 (obs.map some)) i = _
        rw [this]
        simp
        cases obs[i]? <;> rfl
      rw [hg] at hi
      exact hobs i ob hi
  have hnone' : ∀ i, E.nb ≤ i → C.ν i = none := fun i hi => hnone i (by omega)
  refine calls_of_wp hf hb (wp_mono (sxCode_sound hK hm c _ hL C w hnone' _ h C _ w hinv (Step.refl C w)) ?_)
  rintro e a' w' ⟨⟨ex, σ'⟩, C', ⟨h1, h2⟩, rfl, hi, hst⟩
  have hlt : ∀ i v, C.ν i = some v → i < E.nb := fun i v hv => by
    rcases Nat.lt_or_ge i E.nb with h | h
    · exact h
    · rw [hnone' i h] at hv; cases hv
  -- the end
  have fin : ∃ v y, post y ∧ (results fn a'.tmps).run E.P w' = .ok v w' ∧ ∃ C'', Step (fun i => i < obs.length) C w C'' w' ∧ WF C'' w' ∧ (∀ i, y.2.length ≤ i → C''.ν i = none) ∧ rel C'' w' y.1 v ∧
      ∀ (i : Nat) ob, y.2[i]? = some (some ob) → obHolds C'' w' i ob := by
    have key : ∀ s, (finish E.P fn σ').ok → (finish E.P fn σ').val = some s → endP E fi.frz (Gives post) (promo fi.pr σ' s).1 (promo fi.pr σ' s).2 → ∃ v y, post y ∧ (results fn a'.tmps).run E.P w' = .ok v w' ∧ ∃ C'', Step (fun i => i < obs.length) C w C'' w' ∧ WF C'' w' ∧ (∀ i, y.2.length ≤ i → C''.ν i = none) ∧ rel C'' w' y.1 v ∧
      ∀ (i : Nat) ob, y.2[i]? = some (some ob) → obHolds C'' w' i ob := by
      intro s hok hval hd
      obtain ⟨v, hrun, hrel⟩ := finish_sound hi fn hok hval
      have rest : ∀ (D : Ctx) (g : Nat → Option Ob) (s1 : SV), (∀ i v, C'.ν i = some v → D.ν i = some v) → D.W0 = C'.W0 → (∀ j b, D.ρ j = some b → C'.ρ j = some b) → WF D w' → ObsOk D w' g → rel D w' s1 v →
          (bif opens 0 E.nb (viewOf E.nb g [s1]).ids && nodup (viewOf E.nb g [s1]).ids then
        match (viewOf E.nb g [s1]).sv with
        | [s'] => Gives post s' (viewOf E.nb g [s1]).ob
        | _ => False
      else False) → ∃ v y, post y ∧ (results fn a'.tmps).run E.P w' = .ok v w' ∧ ∃ C'', Step (fun i => i < obs.length) C w C'' w' ∧ WF C'' w' ∧ (∀ i, y.2.length ≤ i → C''.ν i = none) ∧ rel C'' w' y.1 v ∧
      ∀ (i : Nat) ob, y.2[i]? = some (some ob) → obHolds C'' w' i ob := by
        intro D g s1 hν hW0 hρ hwD hgD hrD hd
        cases hc : (opens 0 E.nb (viewOf E.nb g [s1]).ids && nodup (viewOf E.nb g [s1]).ids) with
        | false => rw [hc] at hd; exact hd.elim
        | true =>
          rw [hc, cond_true] at hd
          simp only [Bool.and_eq_true] at hc
          split at hd
          · rename_i s' hs'
            obtain ⟨y, hy, hs, ho⟩ := hd
            obtain ⟨v1, v2, v3⟩ := view_holds (nb := E.nb) hwD hgD hrD hc.2
            have hl : (viewOf E.nb g [s1]).ob.length = (viewOf E.nb g [s1]).ids.length := by simp [viewOf]
            obtain ⟨o1, o2⟩ := leOO_get ho
            refine ⟨v, y, hy, hrun, D.sub (viewOf E.nb g [s1]).ids D.W0, ⟨fun i u hu => ?_, hW0.trans hst.w0, fun j b hj => ?_, fun i b hx hib => ?_, hst.ag.mono fun b _ ⟨i, _, hib⟩ => ?_⟩, v1, fun i hi' => sub_ge (by omega), leS_rel _ _ _ hs (v2 s' hs'), fun i ob hob => ?_⟩
            · have hil := hlt i u hu
              have hid := opens_get hc.1 i hil
              rw [Nat.zero_add] at hid
              show ((viewOf E.nb g [s1]).ids[i]?).bind D.ν = some u
              rw [hid]
              exact hν i u (hst.ext i u hu)
            · obtain ⟨k, _, hk⟩ := Option.bind_eq_some_iff.1 hj
              exact hst.own k b (hρ k b hk)
            · obtain ⟨u, hu⟩ := hw.own i b hib
              have := hlt i u hu
              exact absurd (by omega) hx
            · obtain ⟨u, hu⟩ := hw.own i b hib
              have := hlt i u hu
              exact ⟨i, by omega, hib⟩
            · obtain ⟨o, q1, q2⟩ := o2 i ob hob
              exact leOb_holds q2 (v3 i o q1)
          · exact hd.elim
      have rest2 : ∀ (D : Ctx) (σ2 : St) (s2 : SV), (∀ i v, C'.ν i = some v → D.ν i = some v) → D.W0 = C'.W0 → (∀ j b, D.ρ j = some b → C'.ρ j = some b) → WF D w' → ObsOk D w' σ2.obj → rel D w' s2 v → endP E fi.frz (Gives post) σ2 s2 →
          ∃ v y, post y ∧ (results fn a'.tmps).run E.P w' = .ok v w' ∧ ∃ C'', Step (fun i => i < obs.length) C w C'' w' ∧ WF C'' w' ∧ (∀ i, y.2.length ≤ i → C''.ν i = none) ∧ rel C'' w' y.1 v ∧
      ∀ (i : Nat) ob, y.2[i]? = some (some ob) → obHolds C'' w' i ob := by
        intro D σ2 s2 hν hW0 hρ hwD hgD hr2 hd
        have hrel' : rel D w' (thaw σ2.obj s2) v := thaw_rel _ _ (fun i _ ob hob => hgD i ob hob) hr2
        unfold endP doneView at hd
        cases hfz : fi.frz with
        | false => rw [hfz] at hd; exact rest D σ2.obj _ hν hW0 hρ hwD hgD hrel' hd
        | true =>
          rw [hfz] at hd
          simp only [cond_true] at hd
          split at hd
          · exact rest D σ2.obj _ hν hW0 hρ hwD hgD hrel' hd
          · rename_i i l _
            have hgD2 := frzG_ok hwD hgD (i :: l)
            exact rest (D.drop (i :: l)) _ _ hν hW0 (fun j b h => hρ j b (drop_some h).2) (drop_wf hwD (i :: l)) hgD2 (thaw_rel _ _ (fun i _ ob hob => hgD2 i ob hob) (frz_rel hwD hgD (i :: l) _ _ hrel')) hd
      unfold promo at hd
      split at hd
      · rename_i t sz hpr
        cases hcap : capOk σ'.nob with
        | false => rw [hcap] at hd; exact rest2 C' σ' _ (fun _ _ h => h) rfl (fun _ _ h => h) hi.wf hi.ob hrel hd
        | true =>
          rw [hcap] at hd
          rw [rel_cell] at hrel
          have hnone : C'.ν σ'.nob = none := hi.nb _ (Nat.le_refl _)
          have hρn : C'.ρ σ'.nob = none := by
            cases h : C'.ρ σ'.nob with
            | none => rfl
            | some b => obtain ⟨u, hu⟩ := hi.wf.own _ b h; rw [hnone] at hu; cases hu
          have hext : ∀ i u, C'.ν i = some u → upd C'.ν σ'.nob (some v) i = some u := fun i u hu => by
            have : ¬ i = σ'.nob := by rintro rfl; rw [hnone] at hu; cases hu
            rw [upd_other _ _ this, hu]
          have hstp : Step (fun _ => False) C' w' ⟨upd C'.ν σ'.nob (some v), C'.ρ, C'.W0⟩ w' := ⟨hext, rfl, fun j b h => .inl ⟨j, h⟩, fun _ _ _ h => h, Ag.refl _ _⟩
          have hrn : rel ⟨upd C'.ν σ'.nob (some v), C'.ρ, C'.W0⟩ w' (.nm σ'.nob) v := ⟨upd_same C'.ν σ'.nob (some v), by rw [hrel]; rfl⟩
          refine rest2 ⟨upd C'.ν σ'.nob (some v), C'.ρ, C'.W0⟩ _ _ hext rfl (fun _ _ h => h) ⟨hi.wf.lt, hi.wf.inj, hi.wf.w0, fun i b h => by obtain ⟨u, hu⟩ := hi.wf.own i b h; exact ⟨u, hext i u hu⟩, hi.wf.dis, Pers.stepC hstp hi.wf.gl⟩ (fun i ob hob => ?_) hrn hd
          have hob : (σ'.setOb σ'.nob (some (.row t sz 0 fun _ _ => undefCell))).obj i = some ob := hob
          have hob2 : (if i = σ'.nob then some (Ob.row t sz 0 fun _ _ => undefCell) else σ'.obj i) = some ob := by
            rw [← hob]; exact (Tr.get_set _ _ _ _ _ _ (capOk_lt hcap)).symm
          split at hob2
          · rename_i hin
            subst hin
            injection hob2 with hob2
            subst hob2
            exact ⟨none, 0, by rw [hrel]; exact upd_same _ _ _, .inl ⟨rfl, rfl, rfl⟩⟩
          · exact ob_step hi.wf hstp (fun h => h) ob (hi.ob i ob hob2)
      · exact rest2 C' σ' _ (fun _ _ h => h) rfl (fun _ _ h => h) hi.wf hi.ob hrel hd
    obtain ⟨hok, s, hval, hp⟩ := (T.holds_iff _ (finish_det E.P fn σ')).1 h2
    exact key s hok hval hp
  obtain ⟨v, y, hy, hrun, C'', q1, q2, q3, q4, q5⟩ := fin
  cases ex with
  | normal => exact ⟨hi.df, v, hrun, v, C'', y, hy, rfl, q1, q2, q3, q4, q5⟩
  | ret => exact ⟨hi.df, v, hrun, v, C'', y, hy, rfl, q1, q2, q3, q4, q5⟩
  | exit id => exact h1.elim

/-- the same, the tree written out: he is for the kernel -/
theorem ctr_by {E : Env} (hK : E.Kok) (hm : E.P.follows .mixedOrders = true) {f : FuncId} (fn : Func) (c : Code) (hf : E.P.funcs[f]? = some fn) (hb : fn.body = some c) (hN : fn.ntmps = E.N) (hL : E.Lok (loopsOf c))
    {args : List SV} {obs : List Ob} {out : T Out} (fi : Fin) (hnb : E.nb = obs.length)
    (hchk : (Nat.ble args.length E.N && capOk args.length && capOk obs.length) = true)
    {Q : (SV → List (Option Ob) → Prop) → Prop} (hQ : ∀ post, out.holds post → Q (Gives post)) (he : ∀ R, Q R = (sxCode E c (entry args obs)).holds (doneP E fn fi R)) : Ctr E.P f args obs out :=
  ctr_of hK hm hf hb hN hL fi hnb hchk fun post hp => he (Gives post) ▸ hQ post hp
end Rx
