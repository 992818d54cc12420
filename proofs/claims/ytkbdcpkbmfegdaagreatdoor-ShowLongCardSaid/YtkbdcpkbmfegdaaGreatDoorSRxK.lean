/- Rx, part K: guarded operations; regions in the order of the text. -/
import Derived.Test.YtkbdcpkbmfegdaaGreatDoorSRxHe
set_option linter.unusedSectionVars false
set_option linter.unusedSimpArgs false
set_option linter.unusedVariables false
namespace Rx
open Go
variable [Glob]
inductive Ex where
 | normal
 | exit (id : Nat)
 | ret
structure LI where
 ids : List Nat
 keep : List (Nat × SV)
 obs : List (Option Ob)
 out : T (Ex × St)
structure Env where
 P : Program
 N : Nat
 nb : Nat
 K : Nat -> Nat -> Option Summ
 L : Code -> St -> Option LI
 conc : Bool
def Env.Kok (E : Env) : Prop := ∀ rid i s, E.K rid i = some s -> s.Ok E.P
def brq {α : Type} (conc q : Bool) (A B : T α) : T α := bif conc then (bif q then A else B) else .ite q A B
theorem CW {α : Type} {post : α -> Prop} (conc q : Bool) (A B : T α) (h : (brq conc q A B).holds post) : (q = true -> A.holds post) /\ (q = false -> B.holds post) := by
 cases conc
 · exact h
 · cases q
   · exact ⟨fun h => (by cases h), fun _ => h⟩
   · exact ⟨fun _ => h, fun h => (by cases h)⟩
def Et (P : Program) (new : Nat) (t : TypeId) (len : Nat) (parts : List (Nat × SV)) : T Res :=
 match dw P t len parts, P.underlying t with
 | .ret (.dt (.arr sz n f)), some (.slice e) => .ret ⟨.nm new, ⟨[(new, some (.row e sz n f))], [new]⟩⟩
 | _, _ => .fail
theorem Qb {P : Program} {C : Ctx} {w : World} (hw : WF C w) {new : Nat} (hnew : C.ν new = none) (t : TypeId) (len : Nat) (parts : List (Nat × SV)) (vparts : List (Nat × Value)) {r : Res}
  (h1 : vparts.map (·.1) = parts.map (·.1)) (h2 : relL C w (parts.map (·.2)) (vparts.map (·.2))) (hval : (Et P new t len parts).val = some r) :
  ∃ v w' C', (Instr.buildSlice t len vparts.toArray).run P w = .ok v w' /\ Came C w r C' w' v := by
 unfold Et at hval
 split at hval
 · rename_i sz n f e hb he
   simp only [T.val, Option.some.injEq] at hval
   subst hval
   obtain ⟨e', sz', out, ds, os, hu, hr, hs, hd, hro, hl⟩ := l6 (P := P) (C := C) (w := w) t len parts vparts (.dt (.arr sz n f)) h1 h2 (by rw [hb]; trivial) (by rw [hb]; rfl)
   rw [he] at hu
   injection hu with hu; injection hu with hu; subst hu
   injection hs with hs
   injection hs with hs1 hs2 hs3
   subst hs1; subst hs2; subst hs3
   obtain ⟨hlen, hg⟩ := qL hd hro
   have hlo : os.length = n * sz := by rw [aQ hro, hl]
   have hag : Ag (fun c => ∃ j, (none : Option Nat) = some j /\ C.ρ j = some c) w (w.alloc (.cells os.toArray e)) := ⟨rfl, rfl, rfl, by simp, fun k hk _ => heap_alloc_old w _ hk⟩
   have hfrom : jU C w none (some w.heap.size) (w.alloc (.cells os.toArray e)) := fun c hc => by injection hc with hc; subst hc; exact ⟨by simp, .inl (Nat.le_refl _)⟩
   have hst := fP (old := none) (i := new) (v := .slice (some ⟨w.heap.size, 0, none⟩) n n) (b := some w.heap.size) hw hnew hfrom hag
   refine ⟨_, _, _, hr, Came.move (old := none) (b := some w.heap.size) hw hnew hfrom hag ⟨_, n, upd_same _ _ _, .inr ⟨w.heap.size, iC, rfl, Nat.le_refl _, os.toArray, heap_alloc_new w _, by simpa using hlo, fun k j hk hj => ?_⟩⟩⟩
   have hlt : k * sz + j < ds.length := by
    rw [hlen, hl]
    have : (k + 1) * sz <= n * sz := Nat.mul_le_mul_right sz hk
    rw [Nat.add_mul, Nat.one_mul] at this
    omega
   have hds : ds[k * sz + j]? = some (ds[k * sz + j]) := List.getElem?_eq_getElem hlt
   obtain ⟨v, hv, hrv⟩ := hg _ _ hds
   refine ⟨v, by simpa using hv, hrv.1, ?_⟩
   have h3 := aC hst _ _ hrv.2
   have hgd : ds.getD (k * sz + j) aR = ds[k * sz + j] := by simp [List.getD, hds]
   show Pers _ _ fun w' => Rep w' (lV sz ds k j) v
   rw [xP hj hlt, hgd]
   exact h3
 · cases hval
def KZ (P : Program) (t : TypeId) : Option (TypeId × Nat) :=
 match P.underlying t with
 | some (.slice e) => (bg P e).map fun z => (e, z)
 | _ => none
def vK (P : Program) (new : Nat) (t : TypeId) : T Res :=
 match KZ P t with
 | some (e, z) => .ret ⟨.nm new, ⟨[(new, some (.row e z 0 fun _ _ => aR))], [new]⟩⟩
 | none => .fail
theorem tX {C : Ctx} {w : World} : jU C w none none w := fun c hc => by cases hc
theorem Gh {C : Ctx} (w : World) : Ag (fun c => ∃ j, (none : Option Nat) = some j /\ C.ρ j = some c) w w := Ag.refl _ _
theorem K3 {C : Ctx} {w : World} {i : Nat} (e : TypeId) (z : Nat) : obHolds (C.move none i (.slice none 0 0) none) w i (.row e z 0 fun _ _ => aR) := ⟨none, 0, upd_same _ _ _, .inl ⟨rfl, rfl, rfl⟩⟩
theorem GA {P : Program} {C : Ctx} {w : World} (hw : WF C w) {new : Nat} (hnew : C.ν new = none) (t : TypeId) {r : Res} (hval : (vK P new t).val = some r) :
  ∃ C', Came C w r C' w (.slice none 0 0) := by
 unfold vK at hval
 split at hval
 · rename_i e z _
   simp only [T.val, Option.some.injEq] at hval
   subst hval
   exact ⟨_, Came.move (old := none) (b := none) hw hnew tX (Gh w) (K3 e z)⟩
 · cases hval
def FW : SV -> Bool
 | .dt (.cell (.slice none 0 0)) => true
 | _ => false
theorem PL {s : SV} (h : FW s = true) : s = .dt (.cell (.slice none 0 0)) := by
 unfold FW at h
 split at h
 · rfl
 · cases h
def bf (P : Program) : List TypeId -> List SV -> Nat -> List SV × List (Nat × Option Ob)
 | t :: ts, s :: l, k => match FW s, KZ P t with
   | true, some (e, z) => (.nm k :: (bf P ts l (k + 1)).1, (k, some (.row e z 0 fun _ _ => aR)) :: (bf P ts l (k + 1)).2)
   | _, _ => (s :: (bf P ts l k).1, (bf P ts l k).2)
 | _, l, _ => (l, [])
theorem ng {P : Program} : ∀ (ts : List TypeId) (l : List SV) (k : Nat), ∀ x ∈ (bf P ts l k).2, k <= x.1
 | t :: ts, s :: l, k, x, hx => by
   simp only [bf] at hx
   split at hx
   · rcases List.mem_cons.1 hx with rfl | hx
     · exact Nat.le_refl _
     · have := ng ts l (k + 1) x hx; omega
   · exact ng ts l k x hx
 | [], _, _, x, hx => by simp [bf] at hx
 | _ :: _, [], _, x, hx => by simp [bf] at hx
structure Named (X : List (Nat × Option Ob)) (C : Ctx) (w : World) (C' : Ctx) : Prop where
 step : Step (fun i => i ∈ X.map (·.1)) C w C' w
 wf : WF C' w
 new : ∀ i, C'.ν i ≠ none -> C.ν i ≠ none ∨ i ∈ X.map (·.1)
 obs : ∀ i ob, X.lookup i = some (some ob) -> obHolds C' w i ob
theorem jI {P : Program} {w : World} : ∀ (ts : List TypeId) (l : List SV) (k : Nat) (C : Ctx) (vs : List Value), WF C w -> (∀ x ∈ (bf P ts l k).2, C.ν x.1 = none) -> relL C w l vs ->
  ∃ C', Named (bf P ts l k).2 C w C' /\ relL C' w (bf P ts l k).1 vs
 | t :: ts, s :: l, k, C, vs, hw, hn, hr => by
   obtain ⟨v, r, rfl, h1, h2⟩ := hr
   simp only [bf] at hn ⊢
   split
   · rename_i e z hb he
     rw [hb, he] at hn
     have hv : v = .slice none 0 0 := by
        have := PL hb
        subst this
        exact aj.1 h1
     subst hv
     have hk : C.ν k = none := hn (k, some (.row e z 0 fun _ _ => aR)) (by simp)
     have hst : Step (fun j => j = k) C w (C.move none k (.slice none 0 0) none) w := (fP (old := none) hw hk tX (Gh w)).mono fun j hj => by
      rcases hj with hj | hj
      · exact hj
      · cases hj
     have hwf := Ow (old := none) (v := .slice none 0 0) hw hk tX (Gh w)
     have hne : ∀ x ∈ (bf P ts l (k + 1)).2, x.1 ≠ k := fun x hx => by have := ng ts l (k + 1) x hx; omega
     obtain ⟨C', hN, hr'⟩ := jI ts l (k + 1) (C.move none k (.slice none 0 0) none) r hwf (fun x hx => by
      rw [tV x.1 (hne x hx)]
      exact hn x (List.mem_cons_of_mem _ hx)) (cO hst l r h2)
     have hkX : k ∉ (bf P ts l (k + 1)).2.map (·.1) := fun hk => by
      obtain ⟨x, hx, rfl⟩ := List.mem_map.1 hk
      exact hne x hx rfl
     refine ⟨C', ⟨?_, hN.wf, fun i hi => ?_, fun i ob hi => ?_⟩, ?_⟩
     · exact Step.trans hwf (hst.mono fun j hj => by simp [hj]) (hN.step.mono fun j hj => by simp at hj ⊢; exact .inr hj)
     · rcases hN.new i hi with h | h
       · by_cases hik : i = k
         · right; simp [hik]
         · left; rw [tV i hik] at h; exact h
       · right; simp at h ⊢; exact .inr h
     · by_cases hik : i = k
       · subst hik
         simp [List.lookup] at hi
         subst hi
         exact bZ hwf hN.step hkX _ (K3 e z)
       · have : (i == k) = false := by simpa using hik
         simp only [List.lookup, this] at hi
         exact hN.obs i ob hi
     · exact ⟨_, r, rfl, aC hN.step _ _ ⟨upd_same _ _ _, rfl⟩, hr'⟩
   · rename_i hx
     have e : (match FW s, KZ P t with
      | true, some (e, z) => (SV.nm k :: (bf P ts l (k + 1)).1, (k, some (Ob.row e z 0 fun _ _ => aR)) :: (bf P ts l (k + 1)).2)
      | _, _ => (s :: (bf P ts l k).1, (bf P ts l k).2)) = (s :: (bf P ts l k).1, (bf P ts l k).2) := by
      split
      · rename_i e z h1 h2; exact absurd h2 (hx e z h1)
      · rfl
     rw [e] at hn
     obtain ⟨C', hN, hr'⟩ := jI ts l k C r hw hn h2
     exact ⟨C', hN, _, r, rfl, aC hN.step _ _ h1, hr'⟩
 | [], l, k, C, vs, hw, _, hr => by
   exact ⟨C, ⟨Step.refl C w |>.mono fun _ h => h, hw, fun _ h => .inl h, fun i ob h => by simp [bf] at h⟩, by simpa [bf] using hr⟩
 | _ :: _, [], k, C, vs, hw, _, hr => by
   exact ⟨C, ⟨Step.refl C w |>.mono fun _ h => h, hw, fun _ h => .inl h, fun i ob h => by simp [bf] at h⟩, by simpa [bf] using hr⟩
def qF (P : Program) (new : Nat) (t : TypeId) (cs : List SV) : T Res :=
 match P.cellTypes P.depth t with
 | some ts => .ret ⟨.ptr new 0, ⟨(new, some (.cells t (bf P ts cs (new + 1)).1)) :: (bf P ts cs (new + 1)).2, new :: (bf P ts cs (new + 1)).2.map (·.1)⟩⟩
 | none => .fail
theorem wH {P : Program} {C : Ctx} {w : World} (hw : WF C w) {new : Nat} {t : TypeId} {cs : List SV} {vs : List Value} {r : Res} (hval : (qF P new t cs).val = some r) (hnew : ∀ i, i ∈ r.eff.new -> C.ν i = none) (h : relL C w cs vs) :
  ∃ C', Came C w r C' (w.alloc (.cells vs.toArray t)) (.pointer (some ⟨w.heap.size, 0, none⟩)) := by
 unfold qF at hval
 split at hval
 · rename_i ts _
   simp only [T.val, Option.some.injEq] at hval
   subst hval
   simp only at hnew
   have hne : ∀ x ∈ (bf P ts cs (new + 1)).2, x.1 ≠ new := fun x hx => by have := ng ts cs (new + 1) x hx; omega
   obtain ⟨C1, hN, hr⟩ := jI ts cs (new + 1) C vs hw (fun x hx => hnew x.1 (by simp; exact .inr ⟨x.2, hx⟩)) h
   have h1 : C1.ν new = none := by
    cases hq : C1.ν new with
    | none => rfl
    | some v =>
      rcases hN.new new (by rw [hq]; simp) with h | h
      · exact absurd (hnew new (by simp)) h
      · obtain ⟨x, hx, e⟩ := List.mem_map.1 h
        exact absurd e (hne x hx)
   have hA := Came.alloc (t := t) hN.wf h1 hr
   have hstA : Step (fun _ => False) C1 w (C1.add new (.pointer (some ⟨w.heap.size, 0, none⟩)) w.heap.size) (w.alloc (.cells vs.toArray t)) := rZ hN.wf h1 (Nat.le_refl _) (gZ w _)
   refine ⟨C1.add new (.pointer (some ⟨w.heap.size, 0, none⟩)) w.heap.size, hA.rel, ?_, hA.wf, fun i hi => ?_, fun i ob hi => ?_⟩
   · refine Step.trans hN.wf (hN.step.mono fun j hj => ?_) (hstA.mono fun j hj => hj.elim)
     show j ∈ ((new, _) :: (bf P ts cs (new + 1)).2).map (·.1)
     simp at hj ⊢; exact .inr hj
   · rcases hA.new i hi with h | h
     · rcases hN.new i h with h | h
       · exact .inl h
       · right; simp at h ⊢; exact .inr h
     · right; simp at h ⊢; exact .inl h
   · by_cases hin : i = new
     · subst hin
       simp [List.lookup] at hi
       subst hi
       exact hA.obs _ _ (by simp [List.lookup])
     · have : (i == new) = false := by simpa using hin
       simp only [List.lookup, this] at hi
       exact bZ hN.wf hstA (fun h => h) _ (hN.obs i ob hi)
 · cases hval
def iP (P : Program) (new : Nat) (t : TypeId) (x : T SV) : T Res :=
 match x, P.cellTypes P.depth t with
 | .ret (.agg cs), some ts => .ret ⟨.agg (bf P ts cs new).1, ⟨(bf P ts cs new).2, (bf P ts cs new).2.map (·.1)⟩⟩
 | _, _ => .fail
theorem Bf (P : Program) (new : Nat) (t : TypeId) (x : T SV) : (iP P new t x).det = true := by
 unfold iP
 split <;> rfl
theorem vF {P : Program} {C : Ctx} {w : World} (hw : WF C w) {new : Nat} {t : TypeId} {x : T SV} {v : Value} {r : Res} (hx : ∀ s, x.ok -> x.val = some s -> rel C w s v)
  (hval : (iP P new t x).val = some r) (hnew : ∀ i, i ∈ r.eff.new -> C.ν i = none) : ∃ C', Came C w r C' w v := by
 unfold iP at hval
 split at hval
 · rename_i cs ts _
   simp only [T.val, Option.some.injEq] at hval
   subst hval
   obtain ⟨vs, rfl, hr⟩ := hx _ trivial rfl
   obtain ⟨C1, hN, hr1⟩ := jI ts cs new C vs hw (fun x hx => hnew x.1 (by simp; exact ⟨x.2, hx⟩)) hr
   exact ⟨C1, ⟨vs, rfl, hr1⟩, hN.step, hN.wf, hN.new, hN.obs⟩
 · cases hval
def sxM (P : Program) (s : Summ) (rw : Operand -> SV) (g : Nat -> Option Ob) (new : Nat) (o : Oper) : T Res :=
 match o.op with
 | .buildSlice t n ps => Et P new t n (ps.toList.map fun p => (p.1, nrm (rw p.2)))
 | .assign (.const (.slice none 0 0)) => vK P new o.type
 | .build t ps => iP P new t (jD P t (ps.toList.map fun p => (p.1, nrm (rw p.2))))
 | .box t x => match dz (nrm (rw x)) with
   | some cs => qF P new t cs
   | none => .fail
 | .alloc t => match zeroOf P t with
   | some cs => qF P new t cs
   | none => .fail
 | _ => BH s rw g new o
def sxK (E : Env) (rid i : Nat) (rw : Operand -> SV) (g : Nat -> Option Ob) (new : Nat) (o : Oper) : T Res :=
 match E.K rid i with
 | some s => sxM E.P s rw g new o
 | none => sxE E.P rw g new o
theorem EC (P : Program) (new : Nat) (t : TypeId) (cs : List SV) : (qF P new t cs).det = true := by
 unfold qF
 split <;> rfl
theorem WJ (P : Program) (new : Nat) (t : TypeId) (len : Nat) (parts : List (Nat × SV)) : (Et P new t len parts).det = true := by
 unfold Et
 split <;> rfl
def VR (E : Env) (rid i : Nat) (t : T Res) : Bool :=
 match E.K rid i with
 | some _ => true
 | none => t.det
theorem JI {E : Env} (hK : E.Kok) {rid i : Nat} {C : Ctx} {w : World} {g : Nat -> Option Ob} {rw : Operand -> SV} {a : Act} {new : Nat} {o : Oper} {post : Res -> Prop}
  (hw : WF C w) (hg : ObsOk C w g) (h1 : ∀ s, E.K rid i = some s -> s.strict = true -> ∀ i, new <= i -> C.ν i = none) (h2 : ∀ r, post r -> ∀ i ∈ r.eff.new, C.ν i = none)
  (hrw : ∀ x ∈ o.op.operands, rel C w (rw x) (a.eval x)) (hh : (sxK E rid i rw g new o).holds post)
  (hd : E.K rid i = none -> ∃ r, (sxK E rid i rw g new o).ok /\ (sxK E rid i rw g new o).val = some r /\ post r) : Goes E.P a o C w post := by
 unfold sxK at hh hd
 cases h : E.K rid i with
 | some s =>
   rw [h] at hh
   simp only at hh
   unfold sxM at hh
   have hev : ∀ x ∈ o.op.operands, rel C w (nrm (rw x)) (a.eval x) := fun x hx => aX (hrw x hx)
   split at hh
   · rename_i t n ps ho
     obtain ⟨hok, r, hval, hp⟩ := (T.bC _ (WJ _ _ _ _ _)).1 hh
     have hps : relL C w ((ps.toList.map fun p => (p.1, nrm (rw p.2))).map (·.2)) ((ps.toList.map fun p => (p.1, a.eval p.2)).map (·.2)) := by
        have := iF (C := C) (w := w) (ev := fun x => nrm (rw x)) (a := a) (ps.toList.map (·.2)) (fun x hx => hev x (by rw [ho]; simpa [Op.operands] using hx))
        simpa [List.map_map, Function.comp_def] using this
     have hnew : C.ν new = none := h2 r hp new (by
      unfold Et at hval
      split at hval
      · simp only [T.val, Option.some.injEq] at hval
        subst hval
        simp
      · cases hval)
     obtain ⟨v, w', C', h3, h4⟩ := Qb (P := E.P) hw hnew t n _ (ps.toList.map fun p => (p.1, a.eval p.2)) (by simp [List.map_map, Function.comp_def]) hps hval
     have e : (ps.map fun p => (p.1, a.eval p.2)) = (ps.toList.map fun p => (p.1, a.eval p.2)).toArray := by apply Array.ext'; simp
     exact Did.goes ⟨v, w', C', .inl (by simp only [execOp, ho, e, Sem.run_bind, h3, Result.andThen_ok, Sem.run_pure]), h4⟩ hp
   · rename_i ho
     have hdet : (vK E.P new o.type).det = true := by unfold vK; split <;> rfl
     obtain ⟨hok, r, hval, hp⟩ := (T.bC _ hdet).1 hh
     have hnew : C.ν new = none := h2 r hp new (by
      unfold vK at hval
      split at hval
      · simp only [T.val, Option.some.injEq] at hval
        subst hval
        simp
      · cases hval)
     obtain ⟨C', h4⟩ := GA (P := E.P) hw hnew o.type hval
     exact Did.goes ⟨.slice none 0 0, w, C', .inl (by simp [execOp, ho, Act.eval]), h4⟩ hp
   · rename_i t ps ho
     obtain ⟨hok, r, hval, hp⟩ := (T.bC _ (Bf _ _ _ _)).1 hh
     have hps : relL C w ((ps.toList.map fun p => (p.1, nrm (rw p.2))).map (·.2)) ((ps.toList.map fun p => (p.1, a.eval p.2)).map (·.2)) := by
      have := iF (C := C) (w := w) (ev := fun x => nrm (rw x)) (a := a) (ps.toList.map (·.2)) (fun x hx => hev x (by rw [ho]; simpa [Op.operands] using hx))
      simpa [List.map_map, Function.comp_def] using this
     have e : (ps.map fun p => (p.1, a.eval p.2)) = (ps.toList.map fun p => (p.1, a.eval p.2)).toArray := by apply Array.ext'; simp
     have hb : ∃ s, (jD E.P t (ps.toList.map fun p => (p.1, nrm (rw p.2)))).ok /\ (jD E.P t (ps.toList.map fun p => (p.1, nrm (rw p.2)))).val = some s := by
      unfold iP at hval
      split at hval
      · rename_i cs ts h1 _
        rw [h1]
        exact ⟨_, trivial, rfl⟩
      · cases hval
     obtain ⟨s, hs1, hs2⟩ := hb
     obtain ⟨y, h3, h4⟩ := qX (P := E.P) t _ (ps.toList.map fun p => (p.1, a.eval p.2)) s (by simp [List.map_map, Function.comp_def]) hps hs1 hs2
     obtain ⟨C', h5⟩ := vF (P := E.P) hw (v := y) (fun s' _ h => by rw [hs2] at h; injection h with h; subst h; exact h4) hval (h2 r hp)
     exact Did.goes ⟨y, w, C', .inl (by simp only [execOp, ho, e, Sem.run_bind, h3, Result.andThen_ok, Sem.run_pure]), h5⟩ hp
   · rename_i t x ho
     cases hc : dz (nrm (rw x)) with
     | none => rw [hc] at hh; exact hh.elim
     | some cs =>
       rw [hc] at hh
       simp only at hh
       obtain ⟨hok, r, hval, hp⟩ := (T.bC _ (EC _ _ _ _)).1 hh
       obtain ⟨vs, hvs, hr⟩ := gq hc (hev x (by rw [ho]; simp [Op.operands]))
       obtain ⟨C', h4⟩ := wH (P := E.P) hw hval (h2 r hp) hr
       refine Did.goes ⟨.pointer (some ⟨w.heap.size, 0, none⟩), _, C', .inl ?_, h4⟩ hp
       simp [execOp, ho, Instr.box, hvs, newVar, newRow]
   · rename_i t ho
     cases hz : zeroOf E.P t with
     | none => rw [hz] at hh; exact hh.elim
     | some cs =>
       rw [hz] at hh
       simp only at hh
       obtain ⟨hok, r, hval, hp⟩ := (T.bC _ (EC _ _ _ _)).1 hh
       obtain ⟨z, hzr, hzl⟩ := fH hz C w
       obtain ⟨C', h4⟩ := wH (P := E.P) hw hval (h2 r hp) hzl
       refine Did.goes ⟨.pointer (some ⟨w.heap.size, 0, none⟩), _, C', .inl ?_, h4⟩ hp
       simp [execOp, ho, Instr.alloc, hzr, newVar, newRow]
   · exact uw (hK _ _ s h) hw hg (h1 s h) h2 hrw hh
 | none =>
   simp only [h] at hd
   obtain ⟨r, hok, hval, hp⟩ := hd trivial
   exact (qK hw hg (h2 r hp) hrw hok hval).goes hp
def skipRes : Res := ⟨.dt (.cell undef), .none⟩
def GX (E : Env) (rid i : Nat) (o : Oper) (σ : St) : T (Res × St) :=
 bif VR E rid i (sxK E rid i (evS σ) σ.obj σ.nob o) then
    (sxK E rid i (evS σ) σ.obj σ.nob o).bind fun r => bif effOk r.eff && dstOk E.N o.dst && newOk r.eff σ.nob then .ret (r, σ) else .fail
 else .fail
def p8 (E : Env) (o : Oper) (σ : St) : T (Res × St) := bif dstOk E.N o.dst then .ret (skipRes, σ) else .fail
def jA (E : Env) (ops : Array Oper) (rid i : Nat) (o : Oper) (σ : St) : T (Res × St) :=
 match o.guard with
 | none => GX E rid i o σ
 | some (j, want) =>
   match (ops[j]?).bind (·.dst) with
   | none => .fail
   | some t =>
     bif dstOk E.N (some t) then
      match σ.get t with
      | .kb b => bif (bif b then want else !want) then GX E rid i o σ else p8 E o σ
      | .dt (.cell (.bool q)) => brq E.conc q
        (bif want then GX E rid i o (σ.put (some t) (.kb true)) else p8 E o (σ.put (some t) (.kb true)))
        (bif want then p8 E o (σ.put (some t) (.kb false)) else GX E rid i o (σ.put (some t) (.kb false)))
      | .dt (.cell (.tuple _)) => p8 E o σ
      | _ => .fail
     else .fail
def Stepped (E : Env) (C : Ctx) (a : Act) (w : World) (o : Oper) (K : Act -> World -> Prop) (post : Res × St -> Prop) : Prop :=
 ∀ (r : Res) (σ' : St) (v : Value) (w' : World) (C' : Ctx), post (r, σ') -> Inv E.N C σ' a w -> Came C w r C' w' v -> effOk r.eff = true -> dstOk E.N o.dst = true -> newOk r.eff σ'.nob = true -> K (a.put o.dst v) w'
theorem nE {E : Env} (hK : E.Kok) {rid i : Nat} {o : Oper} {σ : St} {C : Ctx} {a : Act} {w : World} {post : Res × St -> Prop} (h : Inv E.N C σ a w)
  (hh : (GX E rid i o σ).holds post) {K : Act -> World -> Prop} {Q : Exit -> Act -> World -> Prop} (hk : Stepped E C a w o K post) : o.wp E.P a w K Q := by
 unfold GX at hh
 cases hdet : VR E rid i (sxK E rid i (evS σ) σ.obj σ.nob o) with
 | false => rw [hdet] at hh; exact hh.elim
 | true =>
   rw [hdet, cond_true, T.ak] at hh
   have hh2 := T.aD (q := fun r => (effOk r.eff && dstOk E.N o.dst && newOk r.eff σ.nob) = true /\ post (r, σ)) (fun r hr => by
    cases hb : (effOk r.eff && dstOk E.N o.dst && newOk r.eff σ.nob) with
    | false => rw [hb] at hr; exact hr.elim
    | true => rw [hb] at hr; exact ⟨rfl, hr⟩) _ hh
   have hg := JI hK (a := a) h.wf h.ob (fun _ _ _ => h.nb) (fun r hr i hi => by
    simp only [Bool.and_eq_true] at hr
    have := dF hr.1.2 hi
    exact h.nb i this.1) (fun x _ => mP C w σ a x (fun i _ ob hob => h.ob i ob hob) (fun t _ => h.sl t)) hh2 (fun hn => by
    unfold VR at hdet
    rw [hn] at hdet
    obtain ⟨h1, r, h2, h3⟩ := (T.bC _ hdet).1 hh2
    exact ⟨r, h1, h2, h3⟩)
   refine hg K Q fun r v w' C' hp hc => ?_
   have hb := hp.1
   simp only [Bool.and_eq_true] at hb
   exact hk r σ v w' C' hp.2 h hc hb.1.1 hb.1.2 hb.2
theorem jO {E : Env} {o : Oper} {σ : St} {C : Ctx} {a : Act} {w : World} {post : Res × St -> Prop} (h : Inv E.N C σ a w)
  (hh : (p8 E o σ).holds post) {K : Act -> World -> Prop} (hk : Stepped E C a w o K post) : K (a.put o.dst undef) w := by
 unfold p8 at hh
 cases hb : dstOk E.N o.dst with
 | false => rw [hb] at hh; exact hh.elim
 | true =>
   rw [hb] at hh
   exact hk skipRes σ undef w C hh h (Came.pure h.wf (aj.2 rfl)) rfl hb rfl
theorem Inv.refine {N : Nat} {C : Ctx} {σ : St} {a : Act} {w : World} (h : Inv N C σ a w) {t : Nat} {s : SV} (ht : dstOk N (some t) = true) (hs : rel C w s (a.tmps.getD t undef)) :
  Inv N C (σ.put (some t) s) a w := by
 have hcap : ∀ t', some t = some t' -> bU t' = true := fun t' e => by injection e with e; subst e; simp only [dstOk, Bool.and_eq_true] at ht; exact ht.2
 refine ⟨h.wf, h.sz, h.df, fun j => ?_, fun i ob hob => h.ob i ob (by rwa [ni] at hob), fun i hi => h.nb i (by rwa [lu] at hi)⟩
 rw [ug _ _ _ _ hcap, aS]
 by_cases hj : j = t
 · subst hj; simpa using hs
 · simp only [hj, if_false]; exact h.sl j
theorem rY {ops : Array Oper} {a : Act} {j t : Nat} (hj : (ops[j]?).bind (·.dst) = some t) (ht : t < a.tmps.size) :
  yielded ops a.tmps j = match a.tmps.getD t undef with
   | .bool b => some b
   | _ => none := by
 unfold yielded
 rw [hj]
 simp only [Option.bind_some]
 rw [Array.getD_eq_getD_getElem?, Array.getElem?_eq_getElem ht]
 simp only [Option.getD_some]
 split <;> rename_i h1
 · injection h1 with h1; rw [h1]
 · split
   · rename_i h2; exact absurd (congrArg some h2) (h1 _)
   · rfl
theorem GZ {E : Env} (hK : E.Kok) {ops : Array Oper} {rid i : Nat} {o : Oper} {σ : St} {C : Ctx} {a : Act} {w : World} {post : Res × St -> Prop} (h : Inv E.N C σ a w)
  (hh : (jA E ops rid i o σ).holds post) {K : Act -> World -> Prop} {Q : Exit -> Act -> World -> Prop} (hk : Stepped E C a w o K post) :
  if Region.wanted o (yielded ops a.tmps) then o.wp E.P a w K Q else K (a.put o.dst undef) w := by
 unfold jA at hh
 split at hh
 · rename_i hg
   have hw : Region.wanted o (yielded ops a.tmps) = true := by simp [Region.wanted, hg]
   rw [if_pos hw]
   exact nE hK h hh hk
 · rename_i j want hg
   split at hh
   · exact hh.elim
   · rename_i t hj
     cases hd : dstOk E.N (some t) with
     | false => rw [hd] at hh; exact hh.elim
     | true =>
       rw [hd, cond_true] at hh
       have hlt : t < a.tmps.size := by
        rw [h.sz]
        simp only [dstOk, Bool.and_eq_true] at hd
        simpa [Nat.blt_eq] using hd.1
       have hy := rY hj hlt
       have hsl := h.sl t
       have known : ∀ (b : Bool), a.tmps.getD t undef = .bool b -> Region.wanted o (yielded ops a.tmps) = (bif b then want else !want) := by
        intro b hb
        simp only [Region.wanted, hg, hy, hb]
        cases b <;> cases want <;> rfl
       split at hh
       · rename_i b hs
         rw [hs] at hsl
         have hb : a.tmps.getD t undef = .bool b := hsl
         rw [known b hb]
         cases hq : (bif b then want else !want) with
         | true => rw [hq] at hh; simp only [if_true]; exact nE hK h hh hk
         | false => rw [hq] at hh; simp only [Bool.false_eq_true, if_false]; exact jO h hh hk
       · rename_i q hs
         rw [hs, aj] at hsl
         rw [known q hsl]
         obtain ⟨h1, h2⟩ := CW _ _ _ _ hh
         cases q with
         | true =>
           have hh := h1 rfl
           have hr := h.refine (t := t) (s := .kb true) hd hsl
           cases want with
           | true => exact nE hK hr hh hk
           | false => exact jO hr hh hk
         | false =>
           have hh := h2 rfl
           have hr := h.refine (t := t) (s := .kb false) hd hsl
           cases want with
           | true => exact jO hr hh hk
           | false => exact nE hK hr hh hk
       · rename_i vs hs
         rw [hs, aj] at hsl
         have hw : Region.wanted o (yielded ops a.tmps) = false := by
          simp only [Region.wanted, hg, hy, hsl]
          cases want <;> rfl
         rw [hw]
         exact jO h hh hk
       · exact hh.elim
end Rx
