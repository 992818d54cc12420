/- Rx, part K: guarded operations; regions in the order of the text. -/
import Derived.Test.YtfpnadmpmfcaaaaRxJ
namespace Rx
open Go

inductive Ex where
  | normal
  | exit (id : Nat)
  | ret

/-- a loop, by what there is at its head: the objects' numbers there (by their places here), the slots and the objects that count, and what it comes to -/
structure LI where
  ids : List Nat
  keep : List (Nat × SV)
  obs : List (Option Ob)
  out : T (Ex × St)

structure Env where
  P : Program
  N : Nat
  nb : Nat
  K : Nat → Nat → Option Summ
  L : Code → St → Option LI
  conc : Bool

def Env.Kok (E : Env) : Prop := ∀ rid i s, E.K rid i = some s → s.Ok E.P

def brq {α : Type} (conc q : Bool) (A B : T α) : T α := bif conc then (bif q then A else B) else .ite q A B

theorem brq_holds {α : Type} {post : α → Prop} (conc q : Bool) (A B : T α) (h : (brq conc q A B).holds post) : (q = true → A.holds post) ∧ (q = false → B.holds post) := by
  cases conc
  · exact h
  · cases q
    · exact ⟨fun h => (by cases h), fun _ => h⟩
    · exact ⟨fun _ => h, fun h => (by cases h)⟩

/-! ## a literal that may be written -/
def ownSV (P : Program) (new : Nat) (t : TypeId) (len : Nat) (parts : List (Nat × SV)) : T Res :=
  match buildSliceSV P t len parts, P.underlying t with
  | .ret (.dt (.arr sz n f)), some (.slice e) => .ret ⟨.nm new, ⟨[(new, some (.row e sz n f))], [new]⟩⟩
  | _, _ => .fail

theorem own_sound {P : Program} {C : Ctx} {w : World} (hw : WF C w) {new : Nat} (hnew : C.ν new = none) (t : TypeId) (len : Nat) (parts : List (Nat × SV)) (vparts : List (Nat × Value)) {r : Res}
    (h1 : vparts.map (·.1) = parts.map (·.1)) (h2 : relL C w (parts.map (·.2)) (vparts.map (·.2))) (hval : (ownSV P new t len parts).val = some r) :
    ∃ v w' C', (Instr.buildSlice t len vparts.toArray).run P w = .ok v w' ∧ Came C w r C' w' v := by
  unfold ownSV at hval
  split at hval
  · rename_i sz n f e hb he
    simp only [T.val, Option.some.injEq] at hval
    subst hval
    obtain ⟨e', sz', out, ds, os, hu, hr, hs, hd, hro, hl⟩ := buildSlice_parts (P := P) (C := C) (w := w) t len parts vparts (.dt (.arr sz n f)) h1 h2 (by rw [hb]; trivial) (by rw [hb]; rfl)
    rw [he] at hu
    injection hu with hu; injection hu with hu; subst hu
    injection hs with hs
    injection hs with hs1 hs2 hs3
    subst hs1; subst hs2; subst hs3
    obtain ⟨hlen, hg⟩ := toDts_rel hd hro
    have hlo : os.length = n * sz := by rw [relL_length hro, hl]
    have hag : Ag (fun c => ∃ j, (none : Option Nat) = some j ∧ C.ρ j = some c) w (w.alloc (.cells os.toArray e)) := ⟨rfl, rfl, rfl, by simp, fun k hk _ => heap_alloc_old w _ hk⟩
    have hfrom : FromOf C w none (some w.heap.size) (w.alloc (.cells os.toArray e)) := fun c hc => by injection hc with hc; subst hc; exact ⟨by simp, .inl (Nat.le_refl _)⟩
    have hst := move_step (old := none) (i := new) (v := .slice (some ⟨w.heap.size, 0, none⟩) n n) (b := some w.heap.size) hw hnew hfrom hag
    refine ⟨_, _, _, hr, Came.move (old := none) (b := some w.heap.size) hw hnew hfrom hag ⟨_, n, upd_same _ _ _, .inr ⟨w.heap.size, move_new, rfl, Nat.le_refl _, os.toArray, heap_alloc_new w _, by simpa using hlo, fun k j hk hj => ?_⟩⟩⟩
    have hlt : k * sz + j < ds.length := by
      rw [hlen, hl]
      have : (k + 1) * sz ≤ n * sz := Nat.mul_le_mul_right sz hk
      rw [Nat.add_mul, Nat.one_mul] at this
      omega
    have hds : ds[k * sz + j]? = some (ds[k * sz + j]) := List.getElem?_eq_getElem hlt
    obtain ⟨v, hv, hrv⟩ := hg _ _ hds
    refine ⟨v, by simpa using hv, hrv.1, ?_⟩
    have h3 := rel_step hst _ _ hrv.2
    have hgd : ds.getD (k * sz + j) undefCell = ds[k * sz + j] := by simp [List.getD, hds]
    show Pers _ _ fun w' => Rep w' (ds.getD (k * sz + j) undefCell) v
    rw [hgd]
    exact h3
  · cases hval

def sxM (P : Program) (s : Summ) (rw : Operand → SV) (g : Nat → Option Ob) (new : Nat) (o : Oper) : T Res :=
  match o.op with
  | .buildSlice t n ps => ownSV P new t n (ps.toList.map fun p => (p.1, nrm (rw p.2)))
  | _ => sxCall s rw g new o

def sxK (E : Env) (rid i : Nat) (rw : Operand → SV) (g : Nat → Option Ob) (new : Nat) (o : Oper) : T Res :=
  match E.K rid i with
  | some s => sxM E.P s rw g new o
  | none => sxE E.P rw g new o

theorem own_det (P : Program) (new : Nat) (t : TypeId) (len : Nat) (parts : List (Nat × SV)) : (ownSV P new t len parts).det = true := by
  unfold ownSV
  split <;> rfl

/-- has it one way alone? of a call it need not be known -/
def detK (E : Env) (rid i : Nat) (t : T Res) : Bool :=
  match E.K rid i with
  | some _ => true
  | none => t.det

theorem sxK_goes {E : Env} (hK : E.Kok) {rid i : Nat} {C : Ctx} {w : World} {g : Nat → Option Ob} {rw : Operand → SV} {a : Act} {new : Nat} {o : Oper} {post : Res → Prop}
    (hw : WF C w) (hg : ObsOk C w g) (h1 : ∀ s, E.K rid i = some s → s.strict = true → ∀ i, new ≤ i → C.ν i = none) (h2 : ∀ r, post r → ∀ i ∈ r.eff.new, C.ν i = none)
    (hrw : ∀ x ∈ o.op.operands, rel C w (rw x) (a.eval x)) (hh : (sxK E rid i rw g new o).holds post)
    (hd : E.K rid i = none → ∃ r, (sxK E rid i rw g new o).ok ∧ (sxK E rid i rw g new o).val = some r ∧ post r) : Goes E.P a o C w post := by
  unfold sxK at hh hd
  cases h : E.K rid i with
  | some s =>
    rw [h] at hh
    simp only at hh
    unfold sxM at hh
    split at hh
    · rename_i t n ps ho
      obtain ⟨hok, r, hval, hp⟩ := (T.holds_iff _ (own_det _ _ _ _ _)).1 hh
      have hev : ∀ x ∈ o.op.operands, rel C w (nrm (rw x)) (a.eval x) := fun x hx => nrm_rel (hrw x hx)
      have hps : relL C w ((ps.toList.map fun p => (p.1, nrm (rw p.2))).map (·.2)) ((ps.toList.map fun p => (p.1, a.eval p.2)).map (·.2)) := by
        have := relL_map (C := C) (w := w) (ev := fun x => nrm (rw x)) (a := a) (ps.toList.map (·.2)) (fun x hx => hev x (by rw [ho]; simpa [Op.operands] using hx))
        simpa [List.map_map, Function.comp_def] using this
      have hnew : C.ν new = none := h2 r hp new (by
        unfold ownSV at hval
        split at hval
        · simp only [T.val, Option.some.injEq] at hval
          subst hval
          simp
        · cases hval)
      obtain ⟨v, w', C', h3, h4⟩ := own_sound (P := E.P) hw hnew t n _ (ps.toList.map fun p => (p.1, a.eval p.2)) (by simp [List.map_map, Function.comp_def]) hps hval
      have e : (ps.map fun p => (p.1, a.eval p.2)) = (ps.toList.map fun p => (p.1, a.eval p.2)).toArray := by apply Array.ext'; simp
      exact Did.goes ⟨v, w', C', .inl (by simp only [execOp, ho, e, Sem.run_bind, h3, Result.andThen_ok, Sem.run_pure]), h4⟩ hp
    · exact sxCall_sound (hK _ _ s h) hw hg (h1 s h) h2 hrw hh
  | none =>
    simp only [h] at hd
    obtain ⟨r, hok, hval, hp⟩ := hd trivial
    exact (sxE_sound hw hg (h2 r hp) hrw hok hval).goes hp

def skipRes : Res := ⟨.dt (.cell undef), .none⟩

def sxGo (E : Env) (rid i : Nat) (o : Oper) (σ : St) : T (Res × St) :=
  bif detK E rid i (sxK E rid i (evS σ) σ.obj σ.nob o) then
    (sxK E rid i (evS σ) σ.obj σ.nob o).bind fun r => bif effOk r.eff && dstOk E.N o.dst && newOk r.eff σ.nob then .ret (r, σ) else .fail
  else .fail

def sxSkip (E : Env) (o : Oper) (σ : St) : T (Res × St) := bif dstOk E.N o.dst then .ret (skipRes, σ) else .fail

def sxStep (E : Env) (ops : Array Oper) (rid i : Nat) (o : Oper) (σ : St) : T (Res × St) :=
  match o.guard with
  | none => sxGo E rid i o σ
  | some (j, want) =>
    match (ops[j]?).bind (·.dst) with
    | none => .fail
    | some t =>
      bif dstOk E.N (some t) then
        match σ.get t with
        | .kb b => bif (bif b then want else !want) then sxGo E rid i o σ else sxSkip E o σ
        | .dt (.cell (.bool q)) => brq E.conc q
            (bif want then sxGo E rid i o (σ.put (some t) (.kb true)) else sxSkip E o (σ.put (some t) (.kb true)))
            (bif want then sxSkip E o (σ.put (some t) (.kb false)) else sxGo E rid i o (σ.put (some t) (.kb false)))
        | .dt (.cell (.tuple _)) => sxSkip E o σ
        | _ => .fail
      else .fail

/-- what a step has come to, and the state that it was seen to start from -/
def Stepped (E : Env) (C : Ctx) (a : Act) (w : World) (o : Oper) (K : Act → World → Prop) (post : Res × St → Prop) : Prop :=
  ∀ (r : Res) (σ' : St) (v : Value) (w' : World) (C' : Ctx), post (r, σ') → Inv E.N C σ' a w → Came C w r C' w' v → effOk r.eff = true → dstOk E.N o.dst = true → newOk r.eff σ'.nob = true → K (a.put o.dst v) w'

theorem sxGo_sound {E : Env} (hK : E.Kok) {rid i : Nat} {o : Oper} {σ : St} {C : Ctx} {a : Act} {w : World} {post : Res × St → Prop} (h : Inv E.N C σ a w)
    (hh : (sxGo E rid i o σ).holds post) {K : Act → World → Prop} {Q : Exit → Act → World → Prop} (hk : Stepped E C a w o K post) : o.wp E.P a w K Q := by
  unfold sxGo at hh
  cases hdet : detK E rid i (sxK E rid i (evS σ) σ.obj σ.nob o) with
  | false => rw [hdet] at hh; exact hh.elim
  | true =>
    rw [hdet, cond_true, T.holds_bind] at hh
    have hh2 := T.holds_mono (q := fun r => (effOk r.eff && dstOk E.N o.dst && newOk r.eff σ.nob) = true ∧ post (r, σ)) (fun r hr => by
      cases hb : (effOk r.eff && dstOk E.N o.dst && newOk r.eff σ.nob) with
      | false => rw [hb] at hr; exact hr.elim
      | true => rw [hb] at hr; exact ⟨rfl, hr⟩) _ hh
    have hg := sxK_goes hK (a := a) h.wf h.ob (fun _ _ _ => h.nb) (fun r hr i hi => by
      simp only [Bool.and_eq_true] at hr
      have := seqFrom_mem hr.1.2 hi
      exact h.nb i this.1) (fun x _ => evS_rel C w σ a x (fun i _ ob hob => h.ob i ob hob) (fun t _ => h.sl t)) hh2 (fun hn => by
      unfold detK at hdet
      rw [hn] at hdet
      obtain ⟨h1, r, h2, h3⟩ := (T.holds_iff _ hdet).1 hh2
      exact ⟨r, h1, h2, h3⟩)
    refine hg K Q fun r v w' C' hp hc => ?_
    have hb := hp.1
    simp only [Bool.and_eq_true] at hb
    exact hk r σ v w' C' hp.2 h hc hb.1.1 hb.1.2 hb.2

theorem sxSkip_sound {E : Env} {o : Oper} {σ : St} {C : Ctx} {a : Act} {w : World} {post : Res × St → Prop} (h : Inv E.N C σ a w)
    (hh : (sxSkip E o σ).holds post) {K : Act → World → Prop} (hk : Stepped E C a w o K post) : K (a.put o.dst undef) w := by
  unfold sxSkip at hh
  cases hb : dstOk E.N o.dst with
  | false => rw [hb] at hh; exact hh.elim
  | true =>
    rw [hb] at hh
    exact hk skipRes σ undef w C hh h (Came.pure h.wf (rel_cell.2 rfl)) rfl hb rfl

theorem Inv.refine {N : Nat} {C : Ctx} {σ : St} {a : Act} {w : World} (h : Inv N C σ a w) {t : Nat} {s : SV} (ht : dstOk N (some t) = true) (hs : rel C w s (a.tmps.getD t undef)) :
    Inv N C (σ.put (some t) s) a w := by
  have hcap : ∀ t', some t = some t' → capOk t' = true := fun t' e => by injection e with e; subst e; simp only [dstOk, Bool.and_eq_true] at ht; exact ht.2
  refine ⟨h.wf, h.sz, h.df, fun j => ?_, fun i ob hob => h.ob i ob (by rwa [put_obj] at hob), fun i hi => h.nb i (by rwa [put_nob] at hi)⟩
  rw [put_get _ _ _ _ hcap, pickD_some]
  by_cases hj : j = t
  · subst hj; simpa using hs
  · simp only [hj, if_false]; exact h.sl j

theorem yielded_of {ops : Array Oper} {a : Act} {j t : Nat} (hj : (ops[j]?).bind (·.dst) = some t) (ht : t < a.tmps.size) :
    yielded ops a.tmps j = match a.tmps.getD t undef with
      | .bool b => some b
      | _ => none := by
  unfold yielded
  rw [hj]
  simp only [Option.bind_some]
  rw [Array.getD_eq_getD_getElem?, Array.getElem?_eq_getElem ht]
  simp only [Option.getD_some]
  split <;> rename_i h1
  · injection h1 with h1; rw [h1]
  · split
    · rename_i h2; exact absurd (congrArg some h2) (h1 _)
    · rfl

theorem sxStep_sound {E : Env} (hK : E.Kok) {ops : Array Oper} {rid i : Nat} {o : Oper} {σ : St} {C : Ctx} {a : Act} {w : World} {post : Res × St → Prop} (h : Inv E.N C σ a w)
    (hh : (sxStep E ops rid i o σ).holds post) {K : Act → World → Prop} {Q : Exit → Act → World → Prop} (hk : Stepped E C a w o K post) :
    if Region.wanted o (yielded ops a.tmps) then o.wp E.P a w K Q else K (a.put o.dst undef) w := by
  unfold sxStep at hh
  split at hh
  · rename_i hg
    have hw : Region.wanted o (yielded ops a.tmps) = true := by simp [Region.wanted, hg]
    rw [if_pos hw]
    exact sxGo_sound hK h hh hk
  · rename_i j want hg
    split at hh
    · exact hh.elim
    · rename_i t hj
      cases hd : dstOk E.N (some t) with
      | false => rw [hd] at hh; exact hh.elim
      | true =>
        rw [hd, cond_true] at hh
        have hlt : t < a.tmps.size := by
          rw [h.sz]
          simp only [dstOk, Bool.and_eq_true] at hd
          simpa [Nat.blt_eq] using hd.1
        have hy := yielded_of hj hlt
        have hsl := h.sl t
        have known : ∀ (b : Bool), a.tmps.getD t undef = .bool b → Region.wanted o (yielded ops a.tmps) = (bif b then want else !want) := by
          intro b hb
          simp only [Region.wanted, hg, hy, hb]
          cases b <;> cases want <;> rfl
        split at hh
        · rename_i b hs
          rw [hs] at hsl
          have hb : a.tmps.getD t undef = .bool b := hsl
          rw [known b hb]
          cases hq : (bif b then want else !want) with
          | true => rw [hq] at hh; simp only [if_true]; exact sxGo_sound hK h hh hk
          | false => rw [hq] at hh; simp only [Bool.false_eq_true, if_false]; exact sxSkip_sound h hh hk
        · rename_i q hs
          rw [hs, rel_cell] at hsl
          rw [known q hsl]
          obtain ⟨h1, h2⟩ := brq_holds _ _ _ _ hh
          cases q with
          | true =>
            have hh := h1 rfl
            have hr := h.refine (t := t) (s := .kb true) hd hsl
            cases want with
            | true => exact sxGo_sound hK hr hh hk
            | false => exact sxSkip_sound hr hh hk
          | false =>
            have hh := h2 rfl
            have hr := h.refine (t := t) (s := .kb false) hd hsl
            cases want with
            | true => exact sxSkip_sound hr hh hk
            | false => exact sxGo_sound hK hr hh hk
        · rename_i vs hs
          rw [hs, rel_cell] at hsl
          have hw : Region.wanted o (yielded ops a.tmps) = false := by
            simp only [Region.wanted, hg, hy, hsl]
            cases want <;> rfl
          rw [hw]
          exact sxSkip_sound h hh hk
        · exact hh.elim

end Rx
