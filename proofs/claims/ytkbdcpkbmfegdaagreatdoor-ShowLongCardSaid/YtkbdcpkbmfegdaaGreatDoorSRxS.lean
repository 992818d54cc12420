/- Rx, part S: a function keeps its contract. -/
import Derived.Test.YtkbdcpkbmfegdaaGreatDoorSRxQ
set_option linter.unusedSectionVars false
set_option linter.unusedSimpArgs false
set_option linter.unusedVariables false
namespace Rx
open Go
variable [Glob]
def sV (P : Program) (σ : St) : ResultVar -> T SV
 | .tmp t => .ret (nrm (σ.get t))
 | .cell a t => fU P σ.obj t (σ.get a)
def mR (P : Program) (σ : St) : List ResultVar -> T (List SV)
 | [] => .ret []
 | r :: l => (sV P σ r).bind fun s => (mR P σ l).bind fun ss => .ret (s :: ss)
def finish (P : Program) (fn : Func) (σ : St) : T SV :=
 (mR P σ fn.results.toList).bind fun ss => match ss with
    | [s] => .ret s
    | ss => .ret (.tup ss)
theorem Ck {P : Program} {N : Nat} {C : Ctx} {σ : St} {a : Act} {w : World} (h : Inv N C σ a w) (r : ResultVar) {s : SV} (hok : (sV P σ r).ok) (hv : (sV P σ r).val = some s) :
  ∃ v, ((match r with
    | .tmp t => pure (a.tmps.getD t undef)
    | .cell b t => do loadVar t (← asAddr (a.tmps.getD b undef)) : Sem Value)).run P w = .ok v w /\ rel C w s v := by
 cases r with
 | tmp t =>
   simp only [sV, T.val, Option.some.injEq] at hv
   subst hv
   exact ⟨_, rfl, aX (h.sl t)⟩
 | cell b t =>
   obtain ⟨v, h1, h2⟩ := jG (P := P) h.ob t (σ.get b) s (a.tmps.getD b undef) (h.sl b) hok hv
   refine ⟨v, ?_, h2⟩
   show (do loadVar t (← asAddr (a.tmps.getD b undef)) : Sem Value).run P w = _
   revert h1
   generalize a.tmps.getD b undef = u
   intro h1
   cases u with
   | pointer ad =>
     cases ad with
     | none => simp [Instr.loadAt, Instr.sureAddr] at h1
     | some ad => simpa [Instr.loadAt, Instr.sureAddr, asAddr] using h1
   | _ => simp [Instr.loadAt, Instr.sureAddr] at h1
theorem qZ {P : Program} {N : Nat} {C : Ctx} {σ : St} {a : Act} {w : World} (h : Inv N C σ a w) : ∀ (l : List ResultVar) {ss : List SV}, (mR P σ l).ok -> (mR P σ l).val = some ss ->
  ∃ vs : List Value, (l.mapM (fun r => (match r with
    | .tmp t => pure (a.tmps.getD t undef)
    | .cell b t => do loadVar t (← asAddr (a.tmps.getD b undef)) : Sem Value))).run P w = .ok vs w /\ relL C w ss vs
 | [], ss, _, hv => by
   simp only [mR, T.val, Option.some.injEq] at hv
   subst hv
   exact ⟨[], by simp, rfl⟩
 | r :: l, ss, hok, hv => by
   simp only [mR] at hok hv
   obtain ⟨s, h1, hv⟩ := T.bM hv
   obtain ⟨k1, k2⟩ := T.bind_ok hok
   have k2 := k2 s h1
   obtain ⟨ss', h2, hv⟩ := T.bM hv
   have k3 := (T.bind_ok k2).1
   simp only [T.val, Option.some.injEq] at hv
   subst hv
   obtain ⟨v, e1, e2⟩ := Ck h r k1 h1
   obtain ⟨vs, e3, e4⟩ := qZ h l k3 h2
   refine ⟨v :: vs, ?_, v, vs, rfl, e2, e4⟩
   rw [List.mapM_cons, Sem.run_bind]
   rw [e1]
   simp only [Result.andThen_ok, Sem.run_bind, e3, Sem.run_pure]
theorem FD {P : Program} {N : Nat} {C : Ctx} {σ : St} {a : Act} {w : World} (h : Inv N C σ a w) (fn : Func) {s : SV} (hok : (finish P fn σ).ok) (hv : (finish P fn σ).val = some s) :
  ∃ v, (results fn a.tmps).run P w = .ok v w /\ rel C w s v := by
 unfold finish at hok hv
 obtain ⟨ss, h1, hv⟩ := T.bM hv
 obtain ⟨k1, k2⟩ := T.bind_ok hok
 obtain ⟨vs, e1, e2⟩ := qZ h fn.results.toList k1 h1
 have hl := aQ e2
 have hrun : (results fn a.tmps).run P w = .ok (if h : vs.toArray.size = 1 then vs.toArray[0] else .tuple vs.toArray) w := by
  unfold results
  rw [Sem.run_bind, Array.mapM_eq_mapM_toList, Sem.run_map]
  refine (congrArg (fun r : Result (List Value) => (r.andThen fun a w' => Result.ok (List.toArray a) w').andThen _) e1).trans ?_
  rfl
 rw [hrun]
 refine ⟨_, rfl, ?_⟩
 match ss, vs, hl, e2, hv with
 | [s'], [v], _, e2, hv =>
   simp only [T.val, Option.some.injEq] at hv
   subst hv
   obtain ⟨v', r, e, h3, _⟩ := e2
   simp only [List.cons.injEq] at e
   obtain ⟨rfl, rfl⟩ := e
   exact h3
 | [], [], _, e2, hv =>
   simp only [T.val, Option.some.injEq] at hv
   subst hv
   exact ⟨[], rfl, e2⟩
 | s1 :: s2 :: ss, v1 :: v2 :: vs, hl, e2, hv =>
   simp only [T.val, Option.some.injEq] at hv
   subst hv
   exact ⟨_, by simp, e2⟩
def slotsOf : Nat -> List SV -> List (Nat × SV)
 | _, [] => []
 | i, s :: l => (i, s) :: slotsOf (i + 1) l
theorem pX : ∀ (l : List SV) (i j : Nat), (slotsOf i l).lookup j = if i <= j then l[j - i]? else none
 | [], i, j => by simp [slotsOf]
 | s :: l, i, j => by
   simp only [slotsOf, List.lookup]
   by_cases hj : j = i
   · subst hj; simp
   · have : (j == i) = false := by simpa using hj
     rw [this]
     simp only
     rw [pX l (i + 1) j]
     by_cases h1 : i + 1 <= j
     · rw [if_pos h1, if_pos (by omega)]
       have : j - i = (j - (i + 1)) + 1 := by omega
       rw [this]; rfl
     · rw [if_neg h1, if_neg (by omega)]
theorem zx (P : Program) (g : Nat -> Option Ob) (t : TypeId) (p : SV) : (fU P g t p).det = true := by
 unfold fU
 repeat' split
 all_goals first
  | rfl
  | (cases (Nat.ble _ _) <;> rfl)
  | (rename_i z _ _ _ _ _ _ _; cases (Nat.beq _ _ && _) <;> rfl)
  | (cases (Nat.beq _ _ && _) <;> rfl)
theorem Iy (P : Program) (σ : St) (r : ResultVar) : (sV P σ r).det = true := by
 cases r with
 | tmp t => rfl
 | cell a t => exact zx _ _ _ _
theorem wh (P : Program) (σ : St) : ∀ l : List ResultVar, (mR P σ l).det = true
 | [] => rfl
 | r :: l => T.eu (fun s => T.eu (fun ss => rfl) _ (wh P σ l)) _ (Iy P σ r)
theorem Kq (P : Program) (fn : Func) (σ : St) : (finish P fn σ).det = true :=
 T.eu (fun ss => by split <;> rfl) _ (wh P σ _)
def entry (args : List SV) (obs : List Ob) : St := jH (slotsOf 0 args) (obs.map some)
def oD (nb : Nat) (frz : Bool) (σ : St) (s : SV) : View :=
 bif frz then
    match cB σ.obj [] (thaw σ.obj s) with
    | [] => aM nb σ.obj [thaw σ.obj s]
    | i :: l => aM nb (Ku σ.obj (i :: l)) [thaw (Ku σ.obj (i :: l)) (oK σ.obj (i :: l) (thaw σ.obj s))]
 else aM nb σ.obj [thaw σ.obj s]
def Jl (pr : Option (TypeId × Nat)) (σ : St) (s : SV) : St × SV :=
 match pr, s with
 | some (t, sz), .dt (.cell (.slice none 0 0)) => bif bU σ.nob then ({ (σ.Bq σ.nob (some (.row t sz 0 fun _ _ => aR))) with nob := σ.nob + 1 }, .nm σ.nob) else (σ, s)
 | _, _ => (σ, s)
def endP (E : Env) (frz : Bool) (R : SV -> List (Option Ob) -> Prop) (σ : St) (s : SV) : Prop :=
 bif opens 0 E.nb (oD E.nb frz σ s).ids && nodup (oD E.nb frz σ s).ids then
    match (oD E.nb frz σ s).sv with
    | [s'] => R s' (oD E.nb frz σ s).ob
    | _ => False
 else False
structure Fin where
 frz : Bool
 pr : Option (TypeId × Nat)
def yS : Fin := ⟨false, none⟩
def Rk (E : Env) (fn : Func) (fi : Fin) (R : SV -> List (Option Ob) -> Prop) (y : Ex × St) : Prop :=
 (match y.1 with
    | .exit _ => False
    | _ => True) /\ (finish E.P fn y.2).holds fun s => endP E fi.frz R (Jl fi.pr y.2 s).1 (Jl fi.pr y.2 s).2
def Gives (post : Out -> Prop) (s : SV) (ob : List (Option Ob)) : Prop := ∃ y : Out, post y /\ leS s y.1 /\ leOO ob y.2
theorem Nr {C : Ctx} {w : World} {g : Nat -> Option Ob} {nb : Nat} {s : SV} {v : Value} (hw : WF C w) (hg : ObsOk C w g) (hr : rel C w s v)
  (hn : nodup (aM nb g [s]).ids = true) : WF (C.sub (aM nb g [s]).ids C.W0) w /\ (∀ s', (aM nb g [s]).sv = [s'] -> rel (C.sub (aM nb g [s]).ids C.W0) w s' v) /\
   ∀ (p : Nat) ob, (aM nb g [s]).ob[p]? = some (some ob) -> obHolds (C.sub (aM nb g [s]).ids C.W0) w p ob := by
 have hu := vN C (aM nb g [s]).ids C.W0
 have hW : ∀ b, (C.sub (aM nb g [s]).ids C.W0).W b -> C.W b := by
  rintro b (hb | ⟨i, hi⟩)
  · exact .inl hb
  · obtain ⟨j, _, hj⟩ := Option.bind_eq_some_iff.1 hi
    exact .inr ⟨j, hj⟩
 refine ⟨LB hw hn fun b hb => ⟨.inl hb, fun ⟨j, _, hj⟩ => hw.dis j b hj hb⟩, fun s' hs => ?_, fun p ob hp => ?_⟩
 · have e : (aM nb g [s]).sv = [jB (aM nb g [s]).ids s] := rfl
   rw [e] at hs
   injection hs with hs
   subst hs
   exact vP hu hW _ _ hr
 · have e : (aM nb g [s]).ob = (aM nb g [s]).ids.map (obAt g (aM nb g [s]).ids) := rfl
   rw [e, List.getElem?_map] at hp
   cases hi : (aM nb g [s]).ids[p]? with
   | none => rw [hi] at hp; cases hp
   | some j =>
     rw [hi] at hp
     simp only [Option.map_some, Option.some.injEq] at hp
     exact AV hg hu hW hi hp
theorem Yv {E : Env} (hK : E.Kok) (hm : E.P.follows .mixedOrders = true) {f : FuncId} {fn : Func} {c : Code} (hf : E.P.funcs[f]? = some fn) (hb : fn.body = some c) (hN : fn.ntmps = E.N) (hL : E.Lok (bH c))
  {args : List SV} {obs : List Ob} {out : T Out} (fi : Fin) (hnb : E.nb = obs.length)
  (hchk : (Nat.ble args.length E.N && bU args.length && bU obs.length) = true)
  (h : ∀ post, out.holds post -> (dW E c (entry args obs)).holds (Rk E fn fi (Gives post))) : Ctr E.P f args obs out := by
 simp only [Bool.and_eq_true] at hchk
 obtain ⟨⟨c1, c2⟩, c3⟩ := hchk
 have c1 := Nat.le_of_ble_eq_true c1
 intro C w vs post hw hobs hnone hargs hpost
 have h := h post hpost
 have hlen := aQ hargs
 have hcap2 : args.length < 65535 := by simpa [bU, Nat.blt_eq] using c2
 have hall : ((slotsOf 0 args).all fun x => bU x.1) = true := by
  have key : ∀ (l : List SV) (i : Nat), i + l.length < 65535 -> ((slotsOf i l).all fun x => bU x.1) = true := by
   intro l
   induction l with
   | nil => intro i _; rfl
   | cons s l ih =>
     intro i hi
     simp only [slotsOf, List.all_cons, Bool.and_eq_true]
     simp only [List.length_cons] at hi
     exact ⟨by simp [bU, Nat.blt_eq]; omega, ih (i + 1) (by omega)⟩
  exact key args 0 (by omega)
 have hinv : Inv E.N C (jH (slotsOf 0 args) (obs.map some)) { tmps := vs.toArray ++ Array.replicate (fn.ntmps - vs.toArray.size) undef, defers := [] } w := by
  refine ⟨hw, ?_, rfl, fun j => ?_, fun i ob hi => ?_, fun i hi => hnone i (by simpa [jH] using hi)⟩
  · simp; omega
  · have hg : (jH (slotsOf 0 args) (obs.map some)).get j = (args[j]?).getD .junk := by
     have := zI (slotsOf 0 args) j hall
     show Tr.get .junk (Sr (slotsOf 0 args)) j = _
     rw [this, pX]; simp
    rw [hg]
    cases ha : args[j]? with
    | none => trivial
    | some s =>
      obtain ⟨v, hv, hr⟩ := aY j s hargs ha
      have hjl : j < vs.length := (List.getElem?_eq_some_iff.1 hv).1
      have e : (vs.toArray ++ Array.replicate (fn.ntmps - vs.toArray.size) undef).getD j undef = v := by
       rw [Array.getD_eq_getD_getElem?, Array.getElem?_append_left (by simpa using hjl)]
       simp [hv]
      rw [e]
      exact hr
  · have hg : (jH (slotsOf 0 args) (obs.map some)).obj i = obs[i]? := by
     have := zH (obs.map some) 0 i (by simpa using c3)
     show Tr.get none (Cu 0 (obs.map some)) i = _
     rw [this]
     simp
     cases obs[i]? <;> rfl
    rw [hg] at hi
    exact hobs i ob hi
 have hnone' : ∀ i, E.nb <= i -> C.ν i = none := fun i hi => hnone i (by omega)
 refine calls_of_wp hf hb (wp_mono (dX hK hm c _ hL C w hnone' _ h C _ w hinv (Step.refl C w)) ?_)
 rintro e a' w' ⟨⟨ex, σ'⟩, C', ⟨h1, h2⟩, rfl, hi, hst⟩
 have hlt : ∀ i v, C.ν i = some v -> i < E.nb := fun i v hv => by
  rcases Nat.lt_or_ge i E.nb with h | h
  · exact h
  · rw [hnone' i h] at hv; cases hv
 have fin : ∃ v y, post y /\ (results fn a'.tmps).run E.P w' = .ok v w' /\ ∃ C'', Step (fun i => i < obs.length) C w C'' w' /\ WF C'' w' /\ (∀ i, y.2.length <= i -> C''.ν i = none) /\ rel C'' w' y.1 v /\
   ∀ (i : Nat) ob, y.2[i]? = some (some ob) -> obHolds C'' w' i ob := by
  have key : ∀ s, (finish E.P fn σ').ok -> (finish E.P fn σ').val = some s -> endP E fi.frz (Gives post) (Jl fi.pr σ' s).1 (Jl fi.pr σ' s).2 -> ∃ v y, post y /\ (results fn a'.tmps).run E.P w' = .ok v w' /\ ∃ C'', Step (fun i => i < obs.length) C w C'' w' /\ WF C'' w' /\ (∀ i, y.2.length <= i -> C''.ν i = none) /\ rel C'' w' y.1 v /\
   ∀ (i : Nat) ob, y.2[i]? = some (some ob) -> obHolds C'' w' i ob := by
   intro s hok hval hd
   obtain ⟨v, hrun, hrel⟩ := FD hi fn hok hval
   have rest : ∀ (D : Ctx) (g : Nat -> Option Ob) (s1 : SV), (∀ i v, C'.ν i = some v -> D.ν i = some v) -> D.W0 = C'.W0 -> (∀ j b, D.ρ j = some b -> C'.ρ j = some b) -> WF D w' -> ObsOk D w' g -> rel D w' s1 v ->
     (bif opens 0 E.nb (aM E.nb g [s1]).ids && nodup (aM E.nb g [s1]).ids then
    match (aM E.nb g [s1]).sv with
    | [s'] => Gives post s' (aM E.nb g [s1]).ob
    | _ => False
   else False) -> ∃ v y, post y /\ (results fn a'.tmps).run E.P w' = .ok v w' /\ ∃ C'', Step (fun i => i < obs.length) C w C'' w' /\ WF C'' w' /\ (∀ i, y.2.length <= i -> C''.ν i = none) /\ rel C'' w' y.1 v /\
   ∀ (i : Nat) ob, y.2[i]? = some (some ob) -> obHolds C'' w' i ob := by
     intro D g s1 hν hW0 hρ hwD hgD hrD hd
     cases hc : (opens 0 E.nb (aM E.nb g [s1]).ids && nodup (aM E.nb g [s1]).ids) with
     | false => rw [hc] at hd; exact hd.elim
     | true =>
       rw [hc, cond_true] at hd
       simp only [Bool.and_eq_true] at hc
       split at hd
       · rename_i s' hs'
         obtain ⟨y, hy, hs, ho⟩ := hd
         obtain ⟨v1, v2, v3⟩ := Nr (nb := E.nb) hwD hgD hrD hc.2
         have hl : (aM E.nb g [s1]).ob.length = (aM E.nb g [s1]).ids.length := by simp [aM]
         obtain ⟨o1, o2⟩ := tO ho
         refine ⟨v, y, hy, hrun, D.sub (aM E.nb g [s1]).ids D.W0, ⟨fun i u hu => ?_, hW0.trans hst.w0, fun j b hj => ?_, fun i b hx hib => ?_, hst.ag.mono fun b _ ⟨i, _, hib⟩ => ?_⟩, v1, fun i hi' => LA (by omega), F7 _ _ _ hs (v2 s' hs'), fun i ob hob => ?_⟩
         · have hil := hlt i u hu
           have hid := vE hc.1 i hil
           rw [Nat.zero_add] at hid
           show ((aM E.nb g [s1]).ids[i]?).bind D.ν = some u
           rw [hid]
           exact hν i u (hst.ext i u hu)
         · obtain ⟨k, _, hk⟩ := Option.bind_eq_some_iff.1 hj
           exact hst.own k b (hρ k b hk)
         · obtain ⟨u, hu⟩ := hw.own i b hib
           have := hlt i u hu
           exact absurd (by omega) hx
         · obtain ⟨u, hu⟩ := hw.own i b hib
           have := hlt i u hu
           exact ⟨i, by omega, hib⟩
         · obtain ⟨o, q1, q2⟩ := o2 i ob hob
           exact rO q2 (v3 i o q1)
       · exact hd.elim
   have rest2 : ∀ (D : Ctx) (σ2 : St) (s2 : SV), (∀ i v, C'.ν i = some v -> D.ν i = some v) -> D.W0 = C'.W0 -> (∀ j b, D.ρ j = some b -> C'.ρ j = some b) -> WF D w' -> ObsOk D w' σ2.obj -> rel D w' s2 v -> endP E fi.frz (Gives post) σ2 s2 ->
     ∃ v y, post y /\ (results fn a'.tmps).run E.P w' = .ok v w' /\ ∃ C'', Step (fun i => i < obs.length) C w C'' w' /\ WF C'' w' /\ (∀ i, y.2.length <= i -> C''.ν i = none) /\ rel C'' w' y.1 v /\
   ∀ (i : Nat) ob, y.2[i]? = some (some ob) -> obHolds C'' w' i ob := by
     intro D σ2 s2 hν hW0 hρ hwD hgD hr2 hd
     have hrel' : rel D w' (thaw σ2.obj s2) v := qc _ _ (fun i _ ob hob => hgD i ob hob) hr2
     unfold endP oD at hd
     cases hfz : fi.frz with
     | false => rw [hfz] at hd; exact rest D σ2.obj _ hν hW0 hρ hwD hgD hrel' hd
     | true =>
       rw [hfz] at hd
       simp only [cond_true] at hd
       split at hd
       · exact rest D σ2.obj _ hν hW0 hρ hwD hgD hrel' hd
       · rename_i i l _
         have hgD2 := FH hwD hgD (i :: l)
         exact rest (D.drop (i :: l)) _ _ hν hW0 (fun j b h => hρ j b (dL h).2) (sH hwD (i :: l)) hgD2 (qc _ _ (fun i _ ob hob => hgD2 i ob hob) (FI hwD hgD (i :: l) _ _ hrel')) hd
   unfold Jl at hd
   split at hd
   · rename_i t sz hpr
     cases hcap : bU σ'.nob with
     | false => rw [hcap] at hd; exact rest2 C' σ' _ (fun _ _ h => h) rfl (fun _ _ h => h) hi.wf hi.ob hrel hd
     | true =>
       rw [hcap] at hd
       rw [aj] at hrel
       have hnone : C'.ν σ'.nob = none := hi.nb _ (Nat.le_refl _)
       have hρn : C'.ρ σ'.nob = none := by
        cases h : C'.ρ σ'.nob with
        | none => rfl
        | some b => obtain ⟨u, hu⟩ := hi.wf.own _ b h; rw [hnone] at hu; cases hu
       have hext : ∀ i u, C'.ν i = some u -> upd C'.ν σ'.nob (some v) i = some u := fun i u hu => by
        have : ¬ i = σ'.nob := by rintro rfl; rw [hnone] at hu; cases hu
        rw [bE _ _ this, hu]
       have hstp : Step (fun _ => False) C' w' ⟨upd C'.ν σ'.nob (some v), C'.ρ, C'.W0⟩ w' := ⟨hext, rfl, fun j b h => .inl ⟨j, h⟩, fun _ _ _ h => h, Ag.refl _ _⟩
       have hrn : rel ⟨upd C'.ν σ'.nob (some v), C'.ρ, C'.W0⟩ w' (.nm σ'.nob) v := ⟨upd_same C'.ν σ'.nob (some v), by rw [hrel]; rfl⟩
       refine rest2 ⟨upd C'.ν σ'.nob (some v), C'.ρ, C'.W0⟩ _ _ hext rfl (fun _ _ h => h) ⟨hi.wf.lt, hi.wf.inj, hi.wf.w0, fun i b h => by obtain ⟨u, hu⟩ := hi.wf.own i b h; exact ⟨u, hext i u hu⟩, hi.wf.dis, Pers.kI hstp hi.wf.gl⟩ (fun i ob hob => ?_) hrn hd
       have hob : (σ'.Bq σ'.nob (some (.row t sz 0 fun _ _ => aR))).obj i = some ob := hob
       have hob2 : (if i = σ'.nob then some (Ob.row t sz 0 fun _ _ => aR) else σ'.obj i) = some ob := by
        rw [← hob]; exact (Tr.qw _ _ _ _ _ _ (oo hcap)).symm
       split at hob2
       · rename_i hin
         subst hin
         injection hob2 with hob2
         subst hob2
         exact ⟨none, 0, by rw [hrel]; exact upd_same _ _ _, .inl ⟨rfl, rfl, rfl⟩⟩
       · exact bZ hi.wf hstp (fun h => h) ob (hi.ob i ob hob2)
   · exact rest2 C' σ' _ (fun _ _ h => h) rfl (fun _ _ h => h) hi.wf hi.ob hrel hd
  obtain ⟨hok, s, hval, hp⟩ := (T.bC _ (Kq E.P fn σ')).1 h2
  exact key s hok hval hp
 obtain ⟨v, y, hy, hrun, C'', q1, q2, q3, q4, q5⟩ := fin
 cases ex with
 | normal => exact ⟨hi.df, v, hrun, v, C'', y, hy, rfl, q1, q2, q3, q4, q5⟩
 | ret => exact ⟨hi.df, v, hrun, v, C'', y, hy, rfl, q1, q2, q3, q4, q5⟩
 | exit id => exact h1.elim
theorem Yu {E : Env} (hK : E.Kok) (hm : E.P.follows .mixedOrders = true) {f : FuncId} (fn : Func) (c : Code) (hf : E.P.funcs[f]? = some fn) (hb : fn.body = some c) (hN : fn.ntmps = E.N) (hL : E.Lok (bH c))
  {args : List SV} {obs : List Ob} {out : T Out} (fi : Fin) (hnb : E.nb = obs.length)
  (hchk : (Nat.ble args.length E.N && bU args.length && bU obs.length) = true)
  {Q : (SV -> List (Option Ob) -> Prop) -> Prop} (hQ : ∀ post, out.holds post -> Q (Gives post)) (he : ∀ R, Q R = (dW E c (entry args obs)).holds (Rk E fn fi R)) : Ctr E.P f args obs out :=
 Yv hK hm hf hb hN hL fi hnb hchk fun post hp => he (Gives post) ▸ hQ post hp
end Rx
set_option linter.unusedSectionVars false
set_option linter.unusedSimpArgs false
set_option linter.unusedVariables false
namespace Rx
open Go
variable [Glob]
theorem zq (s : SV) : leS s s ↔ True := iff_true_intro (aI s)
theorem aP : ∀ l : List Ob, bD l l
 | [] => by simp only [bD]
 | o :: l => by simp only [bD]; exact ⟨fO o, aP l⟩
theorem tN (s s' : SV) (l l' : List SV) : leL (s :: l) (s' :: l') ↔ leS s s' /\ leL l l' := by simp only [leL]
theorem xO : leL [] [] ↔ True := by simp only [leL]
theorem F6 (d d' : Dt) : leS (.dt d) (.dt d') ↔ bY d d' := by simp only [leS]
theorem F5 (l l' : List SV) : leS (.agg l) (.agg l') ↔ leL l l' := by simp only [leS]
theorem Wv (l l' : List SV) : leS (.tup l) (.tup l') ↔ leL l l' := by simp only [leS]
theorem mW (k : IntKind) (n n' : Int) : leS (.ki k n) (.dt (.cell (.int k n'))) ↔ n' = n := by
 simp only [leS, bY]
 exact ⟨fun h => by injection h, fun h => by rw [h]⟩
theorem mh (v v' : Value) : leS (.dt (.cell v)) (.dt (.cell v')) ↔ v' = v := by simp only [leS, bY]
theorem Wu (n n' : ByteArray) : leS (.dt (.cell (.string n))) (.dt (.cell (.string n'))) ↔ n' = n := by
 rw [mh]
 exact ⟨fun h => by injection h, fun h => by rw [h]⟩
theorem R9 (sz n sz' n' : Nat) (f f' : Nat -> Nat -> Dt) : bY (.arr sz n f) (.arr sz' n' f') ↔ n' = n /\ (n = 0 ∨ (sz' = sz /\ ∀ k, k < n -> ∀ j, j < sz -> bY (f k j) (f' k j))) := by
 conv => lhs; unfold bY
theorem uU {post : Out -> Prop} {s s' : SV} {o : List (Option Ob)} (hp : post (s', o)) (hs : leS s s') : Gives post s o := ⟨_, hp, hs, aJ _⟩
theorem lT {post : Out -> Prop} {s s' : SV} {o o' : List (Option Ob)} (hp : post (s', o')) (hs : leS s s') (ho : leOO o o') : Gives post s o := ⟨_, hp, hs, ho⟩
theorem Lx (s : ByteArray) : (s.data.toList == (ByteArray.mk #[]).data.toList) = decide (s.size = 0) := by
 have h : s.data.toList.length = s.size := rfl
 cases hl : s.data.toList with
 | nil => rw [hl] at h; simp at h; simp [← h]
 | cons x l => rw [hl] at h; simp at h; simp [← h]
theorem JF (s : ByteArray) : (s.data.toList == []) = decide (s.size = 0) := Lx s
end Rx
set_option linter.unusedSectionVars false
set_option linter.unusedSimpArgs false
set_option linter.unusedVariables false
namespace Rx
open Go
variable [Glob]
def mkK (P : Program) : List (Nat × Nat × FC) -> Nat -> Nat -> Option Summ
 | [], _, _ => none
 | x :: l, rid, i => bif Nat.beq x.1 rid && Nat.beq x.2.1 i then some (x.2.2.afr P) else mkK P l rid i
theorem Sq {P : Program} : ∀ {ks : List (Nat × Nat × FC)}, (∀ x ∈ ks, x.2.2.Ok P) -> ∀ rid i s, mkK P ks rid i = some s -> s.Ok P
 | [], _, _, _, _, h => by cases h
 | x :: l, hk, rid, i, s, h => by
   simp only [mkK] at h
   cases hb : (Nat.beq x.1 rid && Nat.beq x.2.1 i) with
   | true =>
     rw [hb] at h
     injection h with h
     subst h
     exact FC.Xc (hk x (by simp))
   | false =>
     rw [hb] at h
     exact Sq (fun y hy => hk y (by simp [hy])) rid i s h
structure LF where
 rid : Nat
 live : Lv
 sel : List SV -> List (Option Ob) -> Option (List SV × List (Option Ob) × T OutC)
def mkL (nb : Nat) : List LF -> Code -> St -> Option LI
 | [], _, _ => none
 | f :: l, c, σ => bif Nat.beq f.rid (dB c) then Gc nb f.live f.sel σ else mkL nb l c σ
def fnE (P : Program) (N nb : Nat) (ks : List (Nat × Nat × FC)) (ls : List LF) : Env := ⟨P, N, nb, mkK P ks, mkL nb ls, false⟩
theorem Oe {P : Program} {N nb : Nat} {ks : List (Nat × Nat × FC)} {ls : List LF} (hk : ∀ x ∈ ks, x.2.2.Ok P) : (fnE P N nb ks ls).Kok := fun rid i s h => Sq hk rid i s h
theorem Jb {nb : Nat} : ∀ {ls : List LF} {c : Code} {σ : St} {li : LI}, mkL nb ls c σ = some li -> ∃ f ∈ ls, f.rid = dB c /\ Gc nb f.live f.sel σ = some li
 | [], _, _, _, h => by cases h
 | f :: l, c, σ, li, h => by
   simp only [mkL] at h
   cases hb : Nat.beq f.rid (dB c) with
   | true => rw [hb] at h; exact ⟨f, by simp, Nat.eq_of_beq_eq_true hb, h⟩
   | false =>
     rw [hb] at h
     obtain ⟨g, h1, h2⟩ := Jb h
     exact ⟨g, by simp [h1], h2⟩
def JY (E : Env) (f : LF) (c : Code) : Prop := ∀ svs obl args obs out, f.sel svs obl = some (args, obs, out) -> Sound E (.loop c) (jH (f.live.h.zip args) obs) (out.map (OutC.st f.live))
theorem kX {P : Program} {N nb : Nat} {ks : List (Nat × Nat × FC)} {ls : List LF} {cs : List Code} (h : ∀ f ∈ ls, ∀ c ∈ cs, f.rid = dB c -> JY (fnE P N nb ks ls) f c) : (fnE P N nb ks ls).Lok cs := by
 intro c hc σ li hl
 obtain ⟨f, h1, h2, h3⟩ := Jb (show mkL nb ls c σ = some li from hl)
 exact P5 (E := fnE P N nb ks ls) (h f h1 c hc h2) σ li h3
theorem jo {P : Program} (hm : P.follows .mixedOrders = true) {N f : Nat} {fn : Func} {c : Code} {ks : List (Nat × Nat × FC)} {ls : List LF} (hf : P.funcs[f]? = some fn) (hb : fn.body = some c) (hN : fn.ntmps = N)
  (hk : ∀ x ∈ ks, x.2.2.Ok P) {args : List SV} {obs : List Ob} {out : T Out} (fi : Fin) (hl : (fnE P N obs.length ks ls).Lok (bH c))
  (hchk : (Nat.ble args.length N && bU args.length && bU obs.length) = true)
  {Q : (SV -> List (Option Ob) -> Prop) -> Prop} (hQ : ∀ post, out.holds post -> Q (Gives post)) (he : ∀ R, Q R = (dW (fnE P N obs.length ks ls) c (entry args obs)).holds (Rk (fnE P N obs.length ks ls) fn fi R)) : Ctr P f args obs out :=
 Yu (E := fnE P N obs.length ks ls) (Oe hk) hm fn c hf hb hN hl fi rfl hchk hQ he
theorem qA {P : Program} (hm : P.follows .mixedOrders = true) {N nb : Nat} {ks : List (Nat × Nat × FC)} {ls : List LF} {c : Code} (hk : ∀ x ∈ ks, x.2.2.Ok P) (hl : (fnE P N nb ks ls).Lok (bH c))
  {X : Type} (live : Lv) (args : X -> List SV) (obs : X -> List (Option Ob)) (out : X -> T OutC) (μ : X -> Nat)
  {Q : X -> (List SV -> List (Option Ob) -> Prop) -> (Ex -> List SV -> List (Option Ob) -> Prop) -> Prop}
  (hQ : ∀ x post, (out x).holds post -> Q x (fun sv ob => ∃ x', μ x' < μ x /\ leL sv (args x') /\ leOO ob (obs x') /\ (out x').holds post) (l5 post))
  (he : ∀ x Rn Re, Q x Rn Re = (dW (fnE P N nb ks ls) c (jH (live.h.zip (args x)) (obs x))).holds (Sc (fnE P N nb ks ls) live Rn Re)) (x : X) :
  Sound (fnE P N nb ks ls) (.loop c) (jH (live.h.zip (args x)) (obs x)) ((out x).map (OutC.st live)) :=
 KV (Oe hk) hm hl live args obs out μ (fun x post h => he x _ _ ▸ hQ x post h) x
theorem all_nil {α : Type} {p : α -> Prop} : ∀ x ∈ ([] : List α), p x := fun _ h => by cases h
theorem all_cons {α : Type} {p : α -> Prop} {a : α} {l : List α} (h : p a) (h' : ∀ x ∈ l, p x) : ∀ x ∈ a :: l, p x := fun x hx => by
 rcases List.mem_cons.1 hx with rfl | hx
 · exact h
 · exact h' x hx
theorem l5.mk {post : OutC -> Prop} {e : Ex} {sv sv' : List SV} {ob ob' : List (Option Ob)} (hp : post (e, sv', ob')) (h1 : leL sv sv') (h2 : leOO ob ob') : l5 post e sv ob := ⟨_, _, h1, h2, hp⟩
def jv (r : Nat) : Code -> Option Code
 | .seq a b => match jv r a with
   | some c => some c
   | none => jv r b
 | .cond _ a b => match jv r a with
   | some c => some c
   | none => jv r b
 | .block _ c => jv r c
 | .loop c => bif Nat.beq (dB c) r then some c else jv r c
 | _ => none
end Rx
