/- Rx, part B: the operations on symbolic values. -/
import Derived.Test.YtnalaogenpicfaaDoorRxA
set_option linter.unusedSectionVars false
set_option linter.unusedSimpArgs false
set_option linter.unusedVariables false
namespace Rx
open Go
variable [Glob]

/-! ## small words -/
def undefCell : Dt := .cell undef
def ofCell : Value → SV
  | .bool b => .kb b
  | .int k n => .ki k n
  | v => .dt (.cell v)

theorem rel_ofCell (C : Ctx) (w : World) (v : Value) : rel C w (ofCell v) v := by
  unfold ofCell
  split
  · exact (rfl : Value.bool _ = Value.bool _)
  · exact (rfl : Value.int _ _ = Value.int _ _)
  · intro w' _
    rfl

theorem relL_ofCells (C : Ctx) (w : World) : ∀ vs : List Value, relL C w (vs.map ofCell) vs
  | [] => rfl
  | v :: vs => ⟨v, vs, rfl, rel_ofCell C w v, relL_ofCells C w vs⟩

def oneSV : SV → Bool
  | .dt (.cell v) => v.oneCell'
  | .dt (.arr _ _ _) => true
  | .dt (.mp _ _ _) => true
  | .dt .ifc => true
  | .ptr _ _ => true
  | .el _ _ => true
  | .fn _ _ => true
  | .kb _ => true
  | .ki _ _ => true
  | .rp _ _ _ _ => true
  | .nm _ => true
  | _ => false

theorem oneSV_sound {C : Ctx} {w : World} {s : SV} {v : Value} (h : oneSV s = true) (r : rel C w s v) : v.oneCell' = true := by
  cases s with
  | dt d =>
    cases d with
    | cell x => have := r.here; simp only [Rep] at this; subst this; simpa [oneSV] using h
    | arr sz n f => obtain ⟨A, c, rfl, _⟩ := r.here; rfl
    | mp kt vt l => obtain ⟨b, rfl, _⟩ := r.here; rfl
    | ifc => obtain ⟨t, x, rfl⟩ := r.here; rfl
  | ptr i off => obtain ⟨b, _, rfl⟩ := r; rfl
  | el m g => obtain ⟨b, off, rfl, _⟩ := r; rfl
  | fn f caps => obtain ⟨vs, rfl, _⟩ := r; rfl
  | kb b => rw [show v = .bool b from r]; rfl
  | ki k n => rw [show v = .int k n from r]; rfl
  | nm i => exact r.2
  | rp i idx sz off => obtain ⟨b, n, c, _, rfl⟩ := r; rfl
  | junk => simp [oneSV] at h
  | agg l => simp [oneSV] at h
  | tup l => simp [oneSV] at h

def cellsSV : SV → Option (List SV)
  | .agg l => some l
  | s => bif oneSV s then some [s] else none

theorem cells_one {v : Value} (h : v.oneCell' = true) : v.cells = #[v] := by cases v <;> first | rfl | simp [Value.oneCell'] at h

theorem cellsSV_sound {C : Ctx} {w : World} {s : SV} {v : Value} {l : List SV} (h : cellsSV s = some l) (r : rel C w s v) :
    ∃ vs : List Value, v.cells = vs.toArray ∧ relL C w l vs := by
  have one : oneSV s = true → some [s] = some l → ∃ vs : List Value, v.cells = vs.toArray ∧ relL C w l vs := by
    intro h1 h2
    injection h2 with h2
    subst h2
    exact ⟨[v], cells_one (oneSV_sound h1 r), v, [], rfl, r, rfl⟩
  cases s with
  | agg l' =>
    simp only [cellsSV, Option.some.injEq] at h
    subst h
    obtain ⟨vs, rfl, hr⟩ := r
    exact ⟨vs, rfl, hr⟩
  | _ =>
    simp only [cellsSV] at h
    cases ho : oneSV _ with
    | false => rw [ho] at h; cases h
    | true => rw [ho] at h; exact one ho h

theorem relL_length {C : Ctx} {w : World} : ∀ {l : List SV} {vs : List Value}, relL C w l vs → vs.length = l.length
  | [], _, h => by rw [show _ = [] from h]; rfl
  | _ :: _, _, ⟨_, _, e, _, h⟩ => by subst e; simp [relL_length h]

theorem relL_get {C : Ctx} {w : World} : ∀ {l : List SV} {vs : List Value} (i : Nat) (s : SV), relL C w l vs → l[i]? = some s → ∃ v, vs[i]? = some v ∧ rel C w s v
  | [], _, _, _, _, h => by simp at h
  | _ :: _, _, 0, s, ⟨v, r, e, h1, _⟩, h => by subst e; simp at h; subst h; exact ⟨v, rfl, h1⟩
  | _ :: l, _, i + 1, s, ⟨v, r, e, _, h2⟩, h => by subst e; simpa using relL_get i s h2 (by simpa using h)

theorem relL_append {C : Ctx} {w : World} : ∀ {l l' : List SV} {vs vs' : List Value}, relL C w l vs → relL C w l' vs' → relL C w (l ++ l') (vs ++ vs')
  | [], _, _, _, h, h' => by rw [show _ = [] from h]; simpa using h'
  | _ :: _, _, _, _, ⟨v, r, e, h1, h2⟩, h' => by subst e; exact ⟨v, _, rfl, h1, relL_append h2 h'⟩

theorem relL_drop {C : Ctx} {w : World} : ∀ {l : List SV} {vs : List Value} (i : Nat), relL C w l vs → relL C w (l.drop i) (vs.drop i)
  | _, _, 0, h => by simpa using h
  | [], _, _ + 1, h => by rw [show _ = [] from h]; exact rfl
  | _ :: _, _, i + 1, ⟨v, r, e, _, h2⟩ => by subst e; simpa using relL_drop i h2

theorem relL_take {C : Ctx} {w : World} : ∀ {l : List SV} {vs : List Value} (i : Nat), relL C w l vs → relL C w (l.take i) (vs.take i)
  | _, _, 0, _ => rfl
  | [], _, _ + 1, h => by rw [show _ = [] from h]; exact rfl
  | _ :: _, _, i + 1, ⟨v, r, e, h1, h2⟩ => by subst e; exact ⟨v, _, rfl, h1, relL_take i h2⟩

def splice {α : Type} (l : List α) (off : Nat) (cs : List α) : List α := l.take off ++ cs ++ l.drop (off + cs.length)

theorem relL_splice {C : Ctx} {w : World} {l cs : List SV} {vs us : List Value} (off : Nat) (h : relL C w l vs) (h' : relL C w cs us) : relL C w (splice l off cs) (splice vs off us) := by
  unfold splice
  rw [relL_length h']
  exact relL_append (relL_append (relL_take off h) h') (relL_drop _ h)

/-! ## types -/
def szOf (P : Program) (t : TypeId) : Option Nat := (P.info? t).map (·.size)
def aggT (P : Program) (t : TypeId) : Option Bool := (P.underlying t).map fun
  | .struct _ | .array _ _ => true
  | _ => false
def zeroOf (P : Program) (t : TypeId) : Option (List SV) := ((P.info? t).bind (·.zero)).map fun v => v.cells.toList.map ofCell

/-! ## what an operation comes to -/
structure Eff where
  us : List (Nat × Option Ob)
  new : List Nat

def Eff.none : Eff := ⟨[], []⟩

structure Res where
  sv : SV
  eff : Eff

def upd {α : Type} (f : Nat → α) (i : Nat) (v : α) (j : Nat) : α := bif j.beq i then v else f j
theorem upd_same {α : Type} (f : Nat → α) (i : Nat) (v : α) : upd f i v i = v := by simp [upd]
theorem upd_other {α : Type} (f : Nat → α) {i j : Nat} (v : α) (h : ¬ j = i) : upd f i v j = f j := by simp [upd, beq_f h]

def Eff.touched (e : Eff) : List Nat := e.us.map (·.1)
def Eff.obs (g : Nat → Option Ob) (e : Eff) (j : Nat) : Option Ob := (e.us.lookup j).getD (g j)
def Eff.X (e : Eff) (i : Nat) : Prop := i ∈ e.touched

theorem lookup_none {α : Type} : ∀ {l : List (Nat × α)} {j : Nat}, j ∉ l.map (·.1) → l.lookup j = Option.none
  | [], _, _ => rfl
  | (i, x) :: l, j, h => by
    simp only [List.map_cons, List.mem_cons, not_or] at h
    have : (j == i) = false := by simpa using h.1
    simp only [List.lookup, this]
    exact lookup_none h.2

/-- what is not touched is as it was -/
theorem obs_other (g : Nat → Option Ob) (e : Eff) (j : Nat) (h : j ∉ e.touched) : e.obs g j = g j := by
  unfold Eff.obs
  rw [lookup_none h]
  rfl

theorem obs_local (e : Eff) (g g' : Nat → Option Ob) (i : Nat) (h : g i = g' i) : e.obs g i = e.obs g' i := by
  unfold Eff.obs
  rw [h]

/-- what an operation has brought -/
structure Came (C : Ctx) (w : World) (r : Res) (C' : Ctx) (w' : World) (v : Value) : Prop where
  rel : Rx.rel C' w' r.sv v
  step : Step r.eff.X C w C' w'
  wf : WF C' w'
  new : ∀ i, C'.ν i ≠ none → C.ν i ≠ none ∨ i ∈ r.eff.new
  obs : ∀ i ob, r.eff.us.lookup i = some (some ob) → obHolds C' w' i ob

/-- nothing but a value -/
theorem Came.pure {C : Ctx} {w : World} (hw : WF C w) {s : SV} {v : Value} (h : Rx.rel C w s v) : Came C w ⟨s, .none⟩ C w v :=
  ⟨h, Step.refl C w, hw, fun _ hi => .inl hi, fun _ _ hi => (by simp [Eff.none] at hi)⟩

/-- a world that has grown, nothing tracked -/
theorem step_grown {X : Nat → Prop} {C : Ctx} {w w' : World} (h : Ag (fun _ => False) w w') : Step X C w C w' :=
  ⟨fun _ _ h => h, rfl, fun j _ h => .inl ⟨j, h⟩, fun _ _ _ h => h, h.mono fun _ _ h => h.elim⟩
theorem wf_step {X : Nat → Prop} {C : Ctx} {w w' : World} (hw : WF C w) (h : Step X C w C w') : WF C w' :=
  ⟨fun i b hi => Nat.lt_of_lt_of_le (hw.lt i b hi) h.ag.size, hw.inj, fun b hb => Nat.lt_of_lt_of_le (hw.w0 b hb) h.ag.size, hw.own, hw.dis, Pers.stepC h hw.gl⟩
theorem wf_grown {C : Ctx} {w w' : World} (hw : WF C w) (h : Ag (fun _ => False) w w') : WF C w' := wf_step (X := fun _ => False) hw (step_grown h)
theorem ag_alloc {X : Nat → Prop} (w : World) (o : Obj) : Ag X w (w.alloc o) := ⟨rfl, rfl, rfl, by simp, fun _ hk _ => heap_alloc_old w _ hk⟩

/-- the context with one object more, in a new block -/
def Ctx.add (C : Ctx) (i : Nat) (v : Value) (b : Nat) : Ctx := ⟨upd C.ν i (some v), upd C.ρ i (some b), C.W0⟩

theorem add_step {X : Nat → Prop} {C : Ctx} {w w' : World} {i : Nat} {v : Value} {b : Nat} (hw : WF C w) (hi : C.ν i = none) (hb : w.heap.size ≤ b) (ha : Ag (fun _ => False) w w') : Step X C w (C.add i v b) w' := by
  have hρ : C.ρ i = none := by
    cases h : C.ρ i with
    | none => rfl
    | some b => obtain ⟨v, hv⟩ := hw.own i b h; rw [hi] at hv; cases hv
  refine ⟨fun j u hj => ?_, rfl, fun j c hj => ?_, fun j c _ hj => ?_, ha.mono fun _ _ h => h.elim⟩
  · have : ¬ j = i := by rintro rfl; rw [hi] at hj; cases hj
    show upd C.ν i _ j = _
    rw [upd_other _ _ this, hj]
  · by_cases hji : j = i
    · subst hji
      have : upd C.ρ j (some b) j = some c := hj
      rw [upd_same] at this
      injection this with this
      subst this
      exact .inr hb
    · have : upd C.ρ i (some b) j = some c := hj
      rw [upd_other _ _ hji] at this
      exact .inl ⟨j, this⟩
  · have : ¬ j = i := by rintro rfl; rw [hρ] at hj; cases hj
    show upd C.ρ i _ j = _
    rw [upd_other _ _ this, hj]

theorem add_wf {C : Ctx} {w w' : World} {i : Nat} {v : Value} {b : Nat} (hw : WF C w) (hb : w.heap.size ≤ b) (hb' : b < w'.heap.size) (hi : C.ν i = none) (ha : Ag (fun _ => False) w w') : WF (C.add i v b) w' := by
  have hs := ha.size
  have cs : ∀ j c, (C.add i v b).ρ j = some c → (j = i ∧ c = b) ∨ (j ≠ i ∧ C.ρ j = some c) := by
    intro j c hj
    by_cases hji : j = i
    · subst hji
      have : upd C.ρ j (some b) j = some c := hj
      rw [upd_same] at this
      injection this with this
      exact .inl ⟨rfl, this.symm⟩
    · have : upd C.ρ i (some b) j = some c := hj
      rw [upd_other _ _ hji] at this
      exact .inr ⟨hji, this⟩
  refine ⟨fun j c hj => ?_, fun j k c hj hk => ?_, fun c hc => Nat.lt_of_lt_of_le (hw.w0 c hc) hs, fun j c hj => ?_, fun j c hj hc => ?_, Pers.stepC (add_step (X := fun _ => False) hw hi hb ha) hw.gl⟩
  · rcases cs j c hj with ⟨_, rfl⟩ | ⟨_, h⟩
    · exact hb'
    · exact Nat.lt_of_lt_of_le (hw.lt j c h) hs
  · rcases cs j c hj with ⟨rfl, rfl⟩ | ⟨_, h⟩ <;> rcases cs k c hk with ⟨rfl, h2⟩ | ⟨_, h'⟩
    · rfl
    · have := hw.lt k _ h'; omega
    · subst h2; have := hw.lt j _ h; omega
    · exact hw.inj j k c h h'
  · rcases cs j c hj with ⟨rfl, rfl⟩ | ⟨hne, h⟩
    · exact ⟨v, upd_same _ _ _⟩
    · obtain ⟨u, hu⟩ := hw.own j c h
      exact ⟨u, by show upd C.ν i _ j = _; rw [upd_other _ _ hne, hu]⟩
  · rcases cs j c hj with ⟨rfl, rfl⟩ | ⟨_, h⟩
    · have := hw.w0 c hc; omega
    · exact hw.dis j c h hc

/-- a new block that is tracked -/
theorem Came.alloc {C : Ctx} {w : World} (hw : WF C w) {i : Nat} (hi : C.ν i = none) {t : TypeId} {cs : List SV} {vs : List Value} (h : relL C w cs vs) :
    Came C w ⟨.ptr i 0, ⟨[(i, some (.cells t cs))], [i]⟩⟩ (C.add i (.pointer (some ⟨w.heap.size, 0, none⟩)) w.heap.size) (w.alloc (.cells vs.toArray t)) (.pointer (some ⟨w.heap.size, 0, none⟩)) := by
  have hstep : Step (fun _ => False) C w (C.add i (.pointer (some ⟨w.heap.size, 0, none⟩)) w.heap.size) (w.alloc (.cells vs.toArray t)) := add_step hw hi (Nat.le_refl _) (ag_alloc w _)
  refine ⟨⟨w.heap.size, upd_same _ _ _, rfl⟩, hstep.mono fun _ h => h.elim, add_wf hw (Nat.le_refl _) (by simp) hi (ag_alloc w _), fun j hj => ?_, fun j ob hj => ?_⟩
  · by_cases hji : j = i
    · right; subst hji; simp
    · left
      have : upd C.ν i (some (Value.pointer (some ⟨w.heap.size, 0, none⟩))) j ≠ none := hj
      rw [upd_other _ _ hji] at this
      exact this
  · by_cases hji : j = i
    · subst hji
      simp [List.lookup] at hj
      subst hj
      exact ⟨w.heap.size, upd_same _ _ _, upd_same _ _ _, vs, heap_alloc_new w _, relL_step hstep cs vs h⟩
    · have : (j == i) = false := by simpa using hji
      simp [List.lookup, this] at hj
end Rx
