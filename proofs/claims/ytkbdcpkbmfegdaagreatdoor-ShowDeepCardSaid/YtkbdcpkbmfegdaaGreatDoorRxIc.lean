/- Rx, part Ic: calls by families of contracts. -/
import Derived.Test.YtkbdcpkbmfegdaaGreatDoorRxIb
set_option linter.unusedSectionVars false
set_option linter.unusedSimpArgs false
set_option linter.unusedVariables false
namespace Rx
open Go
variable [Glob]
mutual
def flat : SV -> Bool
 | .dt (.cell _) => true
 | .kb _ => true
 | .sy _ => true
 | .ki _ _ => true
 | .ptr _ _ => true
 | .nm _ => true
 | .rp _ _ _ _ => true
 | .ri _ _ _ _ => true
 | .sl _ _ _ _ _ => true
 | .junk => true
 | .agg l => Dv l
 | .tup l => Dv l
 | .fn _ l => Dv l
 | _ => false
def Dv : List SV -> Bool
 | [] => true
 | s :: l => flat s && Dv l
end
def qY : Option Ob -> Bool
 | none => true
 | some (.cells _ cs) => Dv cs
 | some (.mp _ _ _) => true
 | some (.it _ _ _) => true
 | _ => false
mutual
theorem Kq {C C' : Ctx} {w : World} (h : C'.ν = C.ν) : ∀ (s : SV) (v : Value), flat s = true -> rel C w s v -> rel C' w s v
 | .junk, _, _, _ => trivial
 | .dt (.cell _), _, _, r => ah.2 (ah.1 r)
 | .dt (.arr _ _ _), _, hf, _ => by simp [flat] at hf
 | .dt (.mp _ _ _), _, hf, _ => by simp [flat] at hf
 | .dt .ifc, _, hf, _ => by simp [flat] at hf
 | .dt (.ri _ _ _ _), _, hf, _ => by simp [flat] at hf
 | .agg l, _, hf, ⟨vs, e, r⟩ => ⟨vs, e, mV h l vs hf r⟩
 | .tup l, _, hf, ⟨vs, e, r⟩ => ⟨vs, e, mV h l vs hf r⟩
 | .ptr i off, _, _, ⟨b, hb, e⟩ => ⟨b, by rw [h]; exact hb, e⟩
 | .nm i, v, _, r => by
   have r1 : C.ν i = some v := r.1
   refine ⟨?_, r.2⟩
   show C'.ν i = some v
   rw [h]; exact r1
 | .rp i idx sz off, _, _, ⟨b, n, c, hb, e⟩ => ⟨b, n, c, by rw [h]; exact hb, e⟩
 | .ri _ _ _ _, _, _, r => r
 | .sl i sz o n c, _, _, ⟨b, m, cc, x, hb, e⟩ => ⟨b, m, cc, x, by rw [h]; exact hb, e⟩
 | .el _ _, _, hf, _ => by simp [flat] at hf
 | .fn _ caps, _, hf, ⟨vs, e, r⟩ => ⟨vs, e, mV h caps vs hf r⟩
 | .kb _, _, _, r => r
 | .sy _, _, _, r => r
 | .ki _ _, _, _, r => r
theorem mV {C C' : Ctx} {w : World} (h : C'.ν = C.ν) : ∀ (l : List SV) (vs : List Value), Dv l = true -> relL C w l vs -> relL C' w l vs
 | [], _, _, r => r
 | s :: l, _, hf, ⟨v, r, e, h1, h2⟩ => by
   simp only [Dv, Bool.and_eq_true] at hf
   exact ⟨v, r, e, Kq h s v hf.1 h1, mV h l r hf.2 h2⟩
end
def Ctx.CZ (C' : Ctx) (L : List Nat) (C : Ctx) : Ctx := ⟨C'.ν, fun j => bif L.contains j then C.ρ j else C'.ρ j, C'.W0⟩
theorem fE {C' C : Ctx} {L : List Nat} {j : Nat} (h : j ∈ L) : (C'.CZ L C).ρ j = C.ρ j := by
 show (bif L.contains j then C.ρ j else C'.ρ j) = _
 have : L.contains j = true := by simpa using h
 rw [this]; rfl
theorem bW {C' C : Ctx} {L : List Nat} {j : Nat} (h : j ∉ L) : (C'.CZ L C).ρ j = C'.ρ j := by
 show (bif L.contains j then C.ρ j else C'.ρ j) = _
 have : L.contains j = false := by simpa using h
 rw [this]; rfl
theorem Came.borrow {C : Ctx} {w : World} (hw : WF C w) {L : List Nat} {r : Res} {C' : Ctx} {w' : World} {v : Value} (h : Came (C.drop L) w r C' w' v)
  (hf : flat r.sv = true) (ho : r.eff.us.all (fun x => qY x.2 && !L.contains x.1) = true) : Came C w r (C'.CZ L C) w' v := by
 have hfrom : ∀ j b, C'.ρ j = some b -> (∃ i, i ∉ L /\ C.ρ i = some b) ∨ w.heap.size <= b := fun j b hj => by
  rcases h.step.own j b hj with ⟨i, hi⟩ | h
  · exact .inl ⟨i, dY hi⟩
  · exact .inr h
 refine ⟨Kq (C := C') (C' := C'.CZ L C) rfl _ _ hf h.rel, ⟨h.step.ext, h.step.w0, fun j b hj => ?_, fun i b hx hi => ?_, h.step.ag.mono fun b _ ⟨i, hx, hi⟩ => ⟨i, hx, (dY hi).2⟩⟩, ⟨fun j b hj => ?_, fun j k b hj hk => ?_, h.wf.w0, fun j b hj => ?_, fun j b hj hb => ?_, hw.gl.step (h.step.agW.mono fun b _ hb => ?_) fun b hlt hb => ?_⟩, h.new, fun i ob hi => ?_⟩
 · by_cases hm : j ∈ L
   · rw [fE hm] at hj; exact .inl ⟨j, hj⟩
   · rw [bW hm] at hj
     exact (hfrom j b hj).imp (fun ⟨i, hi⟩ => ⟨i, hi.2⟩) id
 · by_cases hm : i ∈ L
   · rw [fE hm]; exact hi
   · rw [bW hm]
     exact h.step.keep i b hx (by rw [Dy hm]; exact hi)
 · by_cases hm : j ∈ L
   · rw [fE hm] at hj; exact Nat.lt_of_lt_of_le (hw.lt j b hj) h.step.ag.size
   · rw [bW hm] at hj; exact h.wf.lt j b hj
 · by_cases hm : j ∈ L <;> by_cases hm' : k ∈ L
   · rw [fE hm] at hj; rw [fE hm'] at hk; exact hw.inj j k b hj hk
   · rw [fE hm] at hj; rw [bW hm'] at hk
     rcases hfrom k b hk with ⟨i, h1, h2⟩ | h1
     · exact absurd (hw.inj i j b h2 hj ▸ hm) h1
     · have := hw.lt j b hj; omega
   · rw [bW hm] at hj; rw [fE hm'] at hk
     rcases hfrom j b hj with ⟨i, h1, h2⟩ | h1
     · exact absurd (hw.inj i k b h2 hk ▸ hm') h1
     · have := hw.lt k b hk; omega
   · rw [bW hm] at hj; rw [bW hm'] at hk; exact h.wf.inj j k b hj hk
 · by_cases hm : j ∈ L
   · rw [fE hm] at hj
     obtain ⟨u, hu⟩ := hw.own j b hj
     exact ⟨u, h.step.ext j u hu⟩
   · rw [bW hm] at hj; exact h.wf.own j b hj
 · have hb0 : C.W0 b := by have : C'.W0 b := hb; rw [h.step.w0] at this; exact this
   by_cases hm : j ∈ L
   · rw [fE hm] at hj; exact hw.dis j b hj hb0
   · rw [bW hm] at hj; exact h.wf.dis j b hj hb
 · rcases hb with hb | ⟨i, hi⟩
   · exact .inl hb
   · exact .inr ⟨i, (dY hi).2⟩
 · rcases hb with hb | ⟨j, hj⟩
   · refine .inl ?_
     have : C'.W0 b := hb
     rw [h.step.w0] at this
     exact this
   · by_cases hm : j ∈ L
     · rw [fE hm] at hj; exact .inr ⟨j, hj⟩
     · rw [bW hm] at hj
       rcases hfrom j b hj with ⟨i, _, hi⟩ | h1
       · exact .inr ⟨i, hi⟩
       · omega
 · have hx := List.all_eq_true.1 ho _ (gJ hi)
   simp only [Bool.and_eq_true, Bool.not_eq_true'] at hx
   have hm : i ∉ L := by simpa using hx.2
   have hob := h.obs i ob hi
   cases ob with
   | cells t cs =>
     obtain ⟨b, h1, h2, vs, h3, h4⟩ := hob
     exact ⟨b, by rw [bW hm]; exact h1, h2, vs, h3, mV (C := C') (C' := C'.CZ L C) rfl _ _ hx.1 h4⟩
   | row _ _ _ _ => simp [qY] at hx
   | frz _ => simp [qY] at hx
   | mp kt vt l =>
     obtain ⟨b, h1, h2, h3⟩ := hob
     exact ⟨b, by rw [bW hm]; exact h1, h2, h3⟩
   | it m n s =>
     obtain ⟨b, bm, h1, h2, h3, h4⟩ := hob
     exact ⟨b, bm, by rw [bW hm]; exact h1, h2, h3, h4⟩
   | vec _ _ _ _ _ => simp [qY] at hx
   | itx _ _ _ => simp [qY] at hx
def rigid : SV -> SV -> Bool
 | .ptr i o, .ptr i' o' => Nat.beq i i' && Nat.beq o o'
 | _, _ => false
def yu : List SV -> List SV -> Bool
 | [], [] => true
 | s :: l, s' :: l' => rigid s s' && yu l l'
 | _, _ => false
def stay (g : Nat -> Option Ob) (i : Nat) : Option Ob -> Bool
 | some (.cells t cs) => match g i with
   | some (.cells t' cs') => Nat.beq t t' && yu cs cs'
   | _ => false
 | _ => false
def stays (g : Nat -> Option Ob) (us : List (Nat × Option Ob)) (i : Nat) : Bool :=
 match us.lookup i with
 | some o => stay g i o
 | none => false
def calm (g : Nat -> Option Ob) (r : Res) : Res := ⟨r.sv, ⟨r.eff.us.filter (fun x => !stays g r.eff.us x.1), r.eff.new⟩⟩
theorem U8 {C C' : Ctx} {w w' : World} (h : ∀ i v, C.ν i = some v -> C'.ν i = some v) {s s' : SV} {v v' : Value} (hs : rigid s s' = true) (r : rel C w s' v) (r' : rel C' w' s v') : v' = v := by
 unfold rigid at hs
 split at hs
 · simp only [Bool.and_eq_true] at hs
   have e1 := Nat.eq_of_beq_eq_true hs.1
   have e2 := Nat.eq_of_beq_eq_true hs.2
   subst e1; subst e2
   obtain ⟨b, hb, rfl⟩ := r
   obtain ⟨b', hb', rfl⟩ := r'
   rw [h _ _ hb] at hb'
   injection hb' with hb'; injection hb' with hb'; injection hb' with hb'; injection hb' with hb'
   subst hb'; rfl
 · cases hs
theorem F9 {C C' : Ctx} {w w' : World} (h : ∀ i v, C.ν i = some v -> C'.ν i = some v) : ∀ {l l' : List SV} {vs vs' : List Value}, yu l l' = true -> relL C w l' vs -> relL C' w' l vs' -> vs' = vs
 | [], [], vs, vs', _, r, r' => by rw [show vs = [] from r, show vs' = [] from r']
 | s :: l, s' :: l', _, _, hs, ⟨v, q, rfl, r1, r2⟩, ⟨v', q', rfl, r1', r2'⟩ => by
   simp only [yu, Bool.and_eq_true] at hs
   rw [U8 h hs.1 r1 r1', F9 h hs.2 r2 r2']
 | [], _ :: _, _, _, hs, _, _ => by simp [yu] at hs
 | _ :: _, [], _, _, hs, _, _ => by simp [yu] at hs
theorem Co {C C' : Ctx} {w w' : World} {g : Nat -> Option Ob} {r : Res} {v : Value} (hg : ObsOk C w g) (h : Came C w r C' w' v) {i : Nat} (hs : stays g r.eff.us i = true) :
  ∃ b, C.ρ i = some b /\ C'.ρ i = some b /\ w'.heap[b]? = w.heap[b]? := by
 unfold stays at hs
 split at hs
 · rename_i o ho
   unfold stay at hs
   split at hs
   · rename_i t cs
     split at hs
     · rename_i t' cs' hgi
       simp only [Bool.and_eq_true] at hs
       have e1 := Nat.eq_of_beq_eq_true hs.1
       subst e1
       obtain ⟨b, h1, h2, vs, h3, h4⟩ := hg i _ hgi
       obtain ⟨b', h1', h2', vs', h3', h4'⟩ := h.obs i _ ho
       rw [h.step.ext i _ h2] at h2'
       injection h2' with h2'; injection h2' with h2'; injection h2' with h2'; injection h2' with h2'
       subst h2'
       rw [F9 h.step.ext hs.2 h4 h4'] at h3'
       exact ⟨b, h1, h1', h3'.trans h3.symm⟩
     · cases hs
   · cases hs
 · cases hs
theorem jg {α : Type} (p : Nat -> Bool) : ∀ (l : List (Nat × α)) (i : Nat), (l.filter fun x => p x.1).lookup i = if p i = true then l.lookup i else none
 | [], i => by simp
 | (j, x) :: l, i => by
   by_cases hij : i = j
   · subst hij
     cases hp : p i with
     | true => simp [List.filter, hp, List.lookup]
     | false =>
       rw [List.filter_cons_of_neg (by simp [hp]), jg p l i, hp]; rfl
   · have e : (i == j) = false := by simpa using hij
     cases hp : p j with
     | true =>
       rw [List.filter_cons_of_pos (by simp [hp])]
       simp only [List.lookup, e]
       exact jg p l i
     | false =>
       rw [List.filter_cons_of_neg (by simp [hp])]
       simp only [List.lookup, e]
       exact jg p l i
theorem Came.calm {C C' : Ctx} {w w' : World} {g : Nat -> Option Ob} {r : Res} {v : Value} (hw : WF C w) (hg : ObsOk C w g) (h : Came C w r C' w' v) : Came C w (calm g r) C' w' v := by
 have hX : ∀ i, r.eff.X i -> ¬ (Rx.calm g r).eff.X i -> stays g r.eff.us i = true := by
  intro i hi hn
  cases hs : stays g r.eff.us i with
  | true => rfl
  | false =>
    refine absurd ?_ hn
    obtain ⟨x, hx, rfl⟩ := List.mem_map.1 hi
    exact List.mem_map.2 ⟨x, List.mem_filter.2 ⟨hx, by simp [hs]⟩, rfl⟩
 refine ⟨h.rel, ⟨h.step.ext, h.step.w0, h.step.own, fun i b hn hi => ?_, ⟨h.step.ag.os, h.step.ag.tape, h.step.ag.output, h.step.ag.size, fun k hk hn => ?_⟩⟩, h.wf, h.new, fun i ob hi => ?_⟩
 · by_cases hi' : r.eff.X i
   · obtain ⟨b', h1, h2, _⟩ := Co hg h (hX i hi' hn)
     rw [hi] at h1; injection h1 with h1; subst h1; exact h2
   · exact h.step.keep i b hi' hi
 · by_cases he : ∃ i, r.eff.X i /\ C.ρ i = some k
   · obtain ⟨i, hi, hk'⟩ := he
     have hn' : ¬ (Rx.calm g r).eff.X i := fun hx => hn ⟨i, hx, hk'⟩
     obtain ⟨b', h1, _, h3⟩ := Co hg h (hX i hi hn')
     rw [hk'] at h1; injection h1 with h1; subst h1; exact h3
   · exact h.step.ag.block k hk he
 · have e := jg (fun j => !stays g r.eff.us j) r.eff.us i
   have hi : (r.eff.us.filter fun x => !stays g r.eff.us x.1).lookup i = some (some ob) := hi
   rw [e] at hi
   split at hi
   · exact h.obs i ob hi
   · cases hi
structure Summ where
 strict : Bool
 acc : List SV -> (Nat -> Option Ob) -> Nat -> List Nat
 run : List SV -> (Nat -> Option Ob) -> Nat -> FuncId -> T Res
structure Summ.Ok (P : Program) (s : Summ) : Prop where
 sound : ∀ (C : Ctx) (w : World) (g : Nat -> Option Ob) (al : List SV) (vs : List Value) (new : Nat) (k : FuncId) (post : Res -> Prop), WF C w -> ObsOk C w g -> (s.strict = true -> ∀ i, new <= i -> C.ν i = none) -> (∀ r, post r -> ∀ i ∈ r.eff.new, C.ν i = none) -> relL C w al vs ->
  (s.run al g new k).holds post -> callable P k = true /\ Calls P k vs.toArray w fun e w' => ∃ v C' r, e = .returned v /\ post r /\ Came C w r C' w' v
 congr : ∀ (g g' : Nat -> Option Ob) (al : List SV) (new : Nat) (k : FuncId), (∀ i ∈ s.acc al g new, g i = g' i) -> s.run al g new k = s.run al g' new k
structure FC where
 f : FuncId
 fresh : Bool
 lend : Bool
 sel : List SV -> List Ob -> Option (List SV × List Ob × T Out)
def FC.Ok (P : Program) (F : FC) : Prop := ∀ al ol args obs out, F.sel al ol = some (args, obs, out) -> Ctr P F.f args obs out
def FC.core (F : FC) (ids : List Nat) (al : List SV) (g : Nat -> Option Ob) (new : Nat) : T Res :=
 match rP g ids ids with
 | none => .fail
 | some ol => match F.sel (fV ids al) ol with
   | none => .fail
   | some (args, obs, out) => .need (leL (fV ids al) args) (.need (bn ol obs) (out.bind fun y =>
     bif ids.length.ble y.2.length && (F.fresh || Nat.beq y.2.length ids.length) then
      .ret ⟨ren (ids ++ upto new (y.2.length - ids.length)) y.1, ⟨(ids ++ upto new (y.2.length - ids.length)).zip (y.2.map fun x => x.map (kF (ids ++ upto new (y.2.length - ids.length)))), upto new (y.2.length - ids.length)⟩⟩
     else .fail))
def um : Option Ob -> Bool
 | some (.frz _) => true
 | _ => false
def FC.La (P : Program) (F : FC) (S : List Nat) (al : List SV) (g : Nat -> Option Ob) (new : Nat) (k : FuncId) : T Res :=
 bif Nat.beq k F.f && callable P k then
    match (bif F.lend then [] else (jf g [] al).filter fun i => S.all fun j => !(UY (g j)).contains i) with
    | [] => bif nodup (S.filter fun i => !um (g i)) && (S.filter fun i => !um (g i)).all (fun i => Nat.blt i new) then F.core (S.filter fun i => !um (g i)) al g new else .fail
    | i :: l => bif nodup (S.filter fun j => !(i :: l).contains j && !um (g j)) && (S.filter fun j => !(i :: l).contains j && !um (g j)).all (fun j => Nat.blt j new) then
        (F.core (S.filter fun j => !(i :: l).contains j && !um (g j)) (mq g (i :: l) al) (Oc g (i :: l)) new).bind fun r =>
         bif flat r.sv && r.eff.us.all (fun x => qY x.2 && !(i :: l).contains x.1) then .ret r
         else .ret ⟨r.sv, ⟨r.eff.us ++ kV g (i :: l), r.eff.new⟩⟩
      else .fail
 else .fail
theorem DC {P : Program} {F : FC} (hF : F.Ok P) {C : Ctx} {w : World} {g : Nat -> Option Ob} {ids : List Nat} {al : List SV} {vs : List Value} {new : Nat} {post : Res -> Prop} (hw : WF C w) (hg : ObsOk C w g)
  (hn : nodup ids = true) (hlt : ids.all (fun i => Nat.blt i new) = true) (hnew : ∀ r, post r -> ∀ i ∈ r.eff.new, C.ν i = none) (hal : relL C w al vs) (h : (F.core ids al g new).holds post) :
  Calls P F.f vs.toArray w fun e w' => ∃ v C' r, e = .returned v /\ post r /\ Came C w r C' w' v := by
 unfold FC.core at h
 split at h
 · exact h.elim
 · rename_i ol hol
   split at h
   · exact h.elim
   · rename_i args obs out hsel
     simp only [T.holds, T.ak] at h
     obtain ⟨h1, h2, h3⟩ := h
     have hb : ∀ y : Out, (bif ids.length.ble y.2.length && (F.fresh || Nat.beq y.2.length ids.length) then
       (T.ret ⟨ren (ids ++ upto new (y.2.length - ids.length)) y.1, ⟨(ids ++ upto new (y.2.length - ids.length)).zip (y.2.map fun x => x.map (kF (ids ++ upto new (y.2.length - ids.length)))), upto new (y.2.length - ids.length)⟩⟩ : T Res)
      else .fail).holds post -> (ids.length <= y.2.length /\ (F.fresh = true ∨ y.2.length = ids.length)) /\ post ⟨ren (ids ++ upto new (y.2.length - ids.length)) y.1, ⟨(ids ++ upto new (y.2.length - ids.length)).zip (y.2.map fun x => x.map (kF (ids ++ upto new (y.2.length - ids.length)))), upto new (y.2.length - ids.length)⟩⟩ := by
      intro y hy
      cases hc : (ids.length.ble y.2.length && (F.fresh || Nat.beq y.2.length ids.length)) with
      | false => rw [hc] at hy; exact hy.elim
      | true =>
        rw [hc] at hy
        simp only [Bool.and_eq_true, Bool.or_eq_true] at hc
        exact ⟨⟨Nat.le_of_ble_eq_true hc.1, hc.2.imp id Nat.eq_of_beq_eq_true⟩, hy⟩
     have h3 := T.aC hb _ h3
     have hlt : ∀ i ∈ ids, i < new := fun i hi => by have := List.all_eq_true.1 hlt i hi; simpa [Nat.blt_eq] using this
     refine (KN (hF _ _ _ _ _ hsel) hw hg hal hn hlt hol h1 h2 h3 (fun y hy => hnew _ hy.2) (fun y hy => hy.1.1)).mono ?_
     rintro e w' ⟨v, C', y, hy, rfl, hc⟩
     exact ⟨v, C', _, rfl, hy.2, hc⟩
def FC.abQ (P : Program) (F : FC) : Summ where
 strict := false
 acc al g _ := reach g 400 (dh al) []
 run al g new k := (F.La P (reach g 400 (dh al) []) al (nH (kR g (reach g 400 (dh al) []))) new k).bind fun r => .ret (calm (nH (kR g (reach g 400 (dh al) []))) r)
theorem FC.WH {P : Program} {F : FC} (hF : F.Ok P) : (F.abQ P).Ok P := by
 refine ⟨fun C w g0 al vs new k post hw hg0 _ hnew hal hok0 => ?_, fun g g' al new k h => ?_⟩
 · have hok1 : ((F.La P (reach g0 400 (dh al) []) al (nH (kR g0 (reach g0 400 (dh al) []))) new k).bind fun r => .ret (calm (nH (kR g0 (reach g0 400 (dh al) []))) r)).holds post := hok0
   clear hok0
   rw [T.ak] at hok1
   have hok : (F.La P (reach g0 400 (dh al) []) al (nH (kR g0 (reach g0 400 (dh al) []))) new k).holds (fun r => post (calm (nH (kR g0 (reach g0 400 (dh al) []))) r)) := hok1
   clear hok1
   have hg : ObsOk C w (nH (kR g0 (reach g0 400 (dh al) []))) := fun i ob h => hg0 i ob (C9 h)
   generalize nH (kR g0 (reach g0 400 (dh al) [])) = g at hok hg
   suffices hsuf : callable P k = true /\ Calls P k vs.toArray w fun e w' => ∃ v C' r, e = .returned v /\ post (calm g r) /\ Came C w r C' w' v by
    refine ⟨hsuf.1, hsuf.2.mono ?_⟩
    rintro e w' ⟨v, C', r, he, hp, hc⟩
    exact ⟨v, C', calm g r, he, hp, hc.calm hw hg⟩
   have hnew : ∀ r, post (calm g r) -> ∀ i ∈ r.eff.new, C.ν i = none := fun r hr i hi => hnew _ hr i hi
   generalize reach g0 400 (dh al) [] = S at hok
   unfold FC.La at hok
   cases hb : (Nat.beq k F.f && callable P k) with
   | false => rw [hb] at hok; exact hok.elim
   | true =>
     rw [hb, cond_true] at hok
     simp only [Bool.and_eq_true] at hb
     have e1 := Nat.eq_of_beq_eq_true hb.1
     subst e1
     refine ⟨hb.2, ?_⟩
     split at hok
     · cases hb2 : (nodup (S.filter fun i => !um (g i)) && (S.filter fun i => !um (g i)).all (fun i => Nat.blt i new)) with
       | false => rw [hb2] at hok; exact hok.elim
       | true =>
         rw [hb2, cond_true] at hok
         simp only [Bool.and_eq_true] at hb2
         exact DC hF hw hg hb2.1 hb2.2 hnew hal hok
     · rename_i i l hL
       cases hb2 : (nodup (S.filter fun j => !(i :: l).contains j && !um (g j)) && (S.filter fun j => !(i :: l).contains j && !um (g j)).all (fun j => Nat.blt j new)) with
       | false => rw [hb2] at hok; exact hok.elim
       | true =>
         rw [hb2, cond_true, T.ak] at hok
         simp only [Bool.and_eq_true] at hb2
         refine (DC hF (wN hw (i :: l)) (Im hw hg (i :: l)) hb2.1 hb2.2 (fun r hr j hj => ?_) (xD hw hg (i :: l) al vs hal) hok).mono ?_
         · cases hfl : (flat r.sv && r.eff.us.all (fun x => qY x.2 && !(i :: l).contains x.1)) with
           | true => rw [hfl] at hr; exact hnew r hr j hj
           | false => rw [hfl] at hr; exact hnew _ hr j hj
         rintro e w' ⟨v, C', r, rfl, hr, hc⟩
         cases hfl : (flat r.sv && r.eff.us.all (fun x => qY x.2 && !(i :: l).contains x.1)) with
         | true =>
           rw [hfl] at hr
           simp only [Bool.and_eq_true] at hfl
           exact ⟨v, _, r, rfl, hr, Came.borrow hw hc hfl.1 (by simpa using hfl.2)⟩
         | false =>
           rw [hfl] at hr
           exact ⟨v, C', _, rfl, hr, Came.frz hw hg hc⟩
 · have h : ∀ i ∈ reach g 400 (dh al) [], g i = g' i := h
   show (F.La P (reach g 400 (dh al) []) al (nH (kR g (reach g 400 (dh al) []))) new k).bind _ = (F.La P (reach g' 400 (dh al) []) al (nH (kR g' (reach g' 400 (dh al) []))) new k).bind _
   rw [← qK _ _ _ h, J4 h]
def Cx (s : Summ) (rw : Operand -> SV) (g : Nat -> Option Ob) (new : Nat) (o : Oper) : T Res :=
 match o.op with
 | .call { callee := .value f, args, argTypes := _ } =>
   match rw f with
   | .fn k caps => s.run (args.toList.map (fun x => nrm (rw x)) ++ caps) g new k
   | _ => .fail
 | _ => .fail
theorem w9 {P : Program} {C : Ctx} {w : World} {g : Nat -> Option Ob} {s : Summ} (hs : s.Ok P) {rw : Operand -> SV} {a : Act} {new : Nat} {o : Oper} {post : Res -> Prop}
  (hw : WF C w) (hg : ObsOk C w g) (hnew : s.strict = true -> ∀ i, new <= i -> C.ν i = none) (hnew2 : ∀ r, post r -> ∀ i ∈ r.eff.new, C.ν i = none) (hrw : ∀ x ∈ o.op.operands, rel C w (rw x) (a.eval x))
  (hok : (Cx s rw g new o).holds post) : Goes P a o C w post := by
 unfold Cx at hok
 split at hok
 · rename_i f args argTypes ho
   split at hok
   · rename_i k caps hf
     have hfr := hrw f (by rw [ho]; simp [Op.operands, Call.operands])
     rw [hf] at hfr
     obtain ⟨cvs, hfv, hcaps⟩ := hfr
     have hal := iH (C := C) (w := w) (ev := fun x => nrm (rw x)) (a := a) args.toList (fun x hx => bg (hrw x (by rw [ho]; simp [Op.operands, Call.operands]; exact .inr (by simpa using hx))))
     obtain ⟨h2, hcalls⟩ := hs.sound C w g _ _ new k post hw hg hnew hnew2 (jv hal hcaps) hok
     intro K Q hK
     have hfn : ∃ fn, P.funcs[k]? = some fn /\ (fn.name == "runtime.NumGoroutine") = false /\ fn.body.isNone = false := by
        unfold callable at h2
        split at h2
        · rename_i fn hfn
          simp only [Bool.and_eq_true, Bool.not_eq_true'] at h2
          refine ⟨fn, hfn, h2.1, ?_⟩
          cases hb : fn.body <;> simp_all
        · cases h2
     obtain ⟨fn, hfn1, hfn2, hfn3⟩ := hfn
     have hexec : (execOp a.eval o).run P w = .ok (.enter k (args.map a.eval ++ cvs.toArray)) w := by
      simp only [execOp, ho, resolve, hfv, Deferred.ofValue, Sem.run_bind, Sem.run_pure, Result.andThen_ok, invoke, callFunc, run_program, hfn1, hfn2, hfn3, Bool.false_eq_true, if_false]
      simp
     unfold Oper.wp
     rw [hexec, Oper.upon_enter]
     have eargs : args.map a.eval ++ cvs.toArray = (args.toList.map a.eval ++ cvs).toArray := by apply Array.ext'; simp
     rw [eargs]
     refine hcalls.mono ?_
     rintro e w' ⟨v, C', r, rfl, hp, hc⟩
     exact hK r v w' C' hp hc
   · exact hok.elim
 · exact hok.elim
end Rx
