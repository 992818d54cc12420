/- Rx, part Ha: append. -/
import Derived.Test.YtkbdcpkbmfegdaaGreatDoorSRxIb
import Derived.Laws.AppendOwn
import Derived.Lib.AppendStr
set_option linter.unusedSectionVars false
set_option linter.unusedSimpArgs false
set_option linter.unusedVariables false
namespace Rx
open Go
variable [Glob]
def Ctx.move (C : Ctx) (old : Option Nat) (i : Nat) (v : Value) (b : Option Nat) : Ctx :=
 ⟨upd C.ν i (some v), fun j => bif j.beq i then b else bif (old == some j) then none else C.ρ j, C.W0⟩
theorem qC {C : Ctx} {old : Option Nat} {i : Nat} {v : Value} {b : Option Nat} {j c : Nat} (h : (C.move old i v b).ρ j = some c) : (j = i /\ b = some c) ∨ (j ≠ i /\ old ≠ some j /\ C.ρ j = some c) := by
 have h : (bif j.beq i then b else bif (old == some j) then none else C.ρ j) = some c := h
 by_cases hj : j = i
 · subst hj
   rw [Nat.beq_refl] at h
   exact .inl ⟨rfl, h⟩
 · rw [eU hj, cond_false] at h
   cases ho : (old == some j) with
   | true => rw [ho] at h; cases h
   | false =>
     rw [ho] at h
     exact .inr ⟨hj, by simpa using ho, h⟩
theorem KY {C : Ctx} {old : Option Nat} {i : Nat} {v : Value} {b : Option Nat} {j : Nat} (h1 : j ≠ i) (h2 : old ≠ some j) : (C.move old i v b).ρ j = C.ρ j := by
 show (bif j.beq i then b else bif (old == some j) then none else C.ρ j) = _
 have : (old == some j) = false := by simpa using h2
 rw [eU h1, this]; rfl
theorem iC {C : Ctx} {old : Option Nat} {i : Nat} {v : Value} {b : Option Nat} : (C.move old i v b).ρ i = b := by
 show (bif i.beq i then b else _) = _
 rw [Nat.beq_refl]; rfl
theorem tV {C : Ctx} {old : Option Nat} {i : Nat} {v : Value} {b : Option Nat} (j : Nat) (h : j ≠ i) : (C.move old i v b).ν j = C.ν j := bE _ _ h
def jU (C : Ctx) (w : World) (old : Option Nat) (b : Option Nat) (w' : World) : Prop :=
 ∀ c, b = some c -> c < w'.heap.size /\ (w.heap.size <= c ∨ ∃ i, old = some i /\ C.ρ i = some c)
theorem fP {C : Ctx} {w w' : World} {old : Option Nat} {i : Nat} {v : Value} {b : Option Nat} (hw : WF C w) (hi : C.ν i = none) (hb : jU C w old b w')
  (ha : Ag (fun c => ∃ j, old = some j /\ C.ρ j = some c) w w') : Step (fun j => j = i ∨ old = some j) C w (C.move old i v b) w' := by
 refine ⟨fun j u hj => ?_, rfl, fun j c hj => ?_, fun j c hx hj => ?_, ha.mono fun c _ ⟨j, h1, h2⟩ => ⟨j, .inr h1, h2⟩⟩
 · have : j ≠ i := by rintro rfl; rw [hi] at hj; cases hj
   rw [tV j this]; exact hj
 · rcases qC hj with ⟨_, rfl⟩ | ⟨_, _, h⟩
   · rcases (hb c rfl).2 with h | ⟨k, _, h⟩
     · exact .inr h
     · exact .inl ⟨k, h⟩
   · exact .inl ⟨j, h⟩
 · rw [KY (fun e => hx (.inl e)) (fun e => hx (.inr e))]; exact hj
theorem Ow {C : Ctx} {w w' : World} {old : Option Nat} {i : Nat} {v : Value} {b : Option Nat} (hw : WF C w) (hi : C.ν i = none) (hb : jU C w old b w') (ha : Ag (fun c => ∃ j, old = some j /\ C.ρ j = some c) w w') : WF (C.move old i v b) w' := by
 have hs := ha.size
 refine ⟨fun j c hj => ?_, fun j k c hj hk => ?_, fun c hc => Nat.lt_of_lt_of_le (hw.w0 c hc) hs, fun j c hj => ?_, fun j c hj hc => ?_, Pers.kI (fP (v := v) hw hi hb ha) hw.gl⟩
 · rcases qC hj with ⟨_, rfl⟩ | ⟨_, _, h⟩
   · exact (hb c rfl).1
   · exact Nat.lt_of_lt_of_le (hw.lt j c h) hs
 · rcases qC hj with ⟨rfl, e1⟩ | ⟨hj1, hj2, h⟩ <;> rcases qC hk with ⟨rfl, e2⟩ | ⟨hk1, hk2, h'⟩
   · rfl
   · rcases (hb c e1).2 with h | ⟨m, hm, h⟩
     · have := hw.lt k c h'; omega
     · have := hw.inj m k c h h'; subst this; exact absurd hm hk2
   · rcases (hb c e2).2 with h' | ⟨m, hm, h'⟩
     · have := hw.lt j c h; omega
     · have := hw.inj m j c h' h; subst this; exact absurd hm hj2
   · exact hw.inj j k c h h'
 · rcases qC hj with ⟨rfl, _⟩ | ⟨hj1, _, h⟩
   · exact ⟨v, upd_same _ _ _⟩
   · rw [tV j hj1]; exact hw.own j c h
 · rcases qC hj with ⟨rfl, e1⟩ | ⟨_, _, h⟩
   · rcases (hb c e1).2 with h | ⟨m, _, h⟩
     · have := hw.w0 c hc; omega
     · exact hw.dis m c h hc
   · exact hw.dis j c h hc
theorem Came.move {C : Ctx} {w w' : World} {old : Option Nat} {i : Nat} {v : Value} {b : Option Nat} {ob : Ob} (hw : WF C w) (hi : C.ν i = none) (hb : jU C w old b w')
  (ha : Ag (fun c => ∃ j, old = some j /\ C.ρ j = some c) w w') (ho : obHolds (C.move old i v b) w' i ob) (hone : v.oneCell' = true := by rfl) :
  Came C w ⟨.nm i, ⟨(old.toList.map fun j => (j, none)) ++ [(i, some ob)], [i]⟩⟩ (C.move old i v b) w' v := by
 have hne : ∀ j, old = some j -> ∀ u, C.ν j = some u -> j ≠ i := fun j _ u hu => by rintro rfl; rw [hi] at hu; cases hu
 refine ⟨⟨upd_same _ _ _, hone⟩, (fP hw hi hb ha).mono fun j hj => ?_, Ow hw hi hb ha, fun j hj => ?_, fun j ob' hj => ?_⟩
 · show j ∈ ((old.toList.map fun j => (j, (none : Option Ob))) ++ [(i, some ob)]).map (·.1)
   rcases hj with rfl | rfl <;> simp
 · by_cases hji : j = i
   · right; subst hji; simp
   · left; rw [tV j hji] at hj; exact hj
 · have hj : ((old.toList.map fun j => (j, (none : Option Ob))) ++ [(i, some ob)]).lookup j = some (some ob') := hj
   have hm := gy hj
   simp only [List.mem_append, List.mem_map, Prod.mk.injEq, List.mem_singleton] at hm
   rcases hm with ⟨_, _, _, h⟩ | ⟨rfl, h⟩
   · cases h
   · injection h with h; subst h; exact ho
def wN (P : Program) (e : TypeId) : Option (Nat × Nat) :=
 match P.info? e with
 | some i => match i.zero with
   | some z => bif Nat.beq z.cells.size i.size && Nat.blt 0 i.size && Nat.blt 0 i.bytes then some (i.size, i.bytes) else none
   | none => none
 | none => none
theorem iQ {P : Program} {e : TypeId} {sz by' : Nat} (h : wN P e = some (sz, by')) : ∃ i z, P.info? e = some i /\ i.zero = some z /\ i.size = sz /\ i.bytes = by' /\ z.cells.size = sz /\ 0 < sz /\ 0 < by' := by
 unfold wN at h
 split at h
 · rename_i i hi
   split at h
   · rename_i z hz
     cases hb : (Nat.beq z.cells.size i.size && Nat.blt 0 i.size && Nat.blt 0 i.bytes) with
     | false => rw [hb] at h; cases h
     | true =>
       rw [hb] at h
       simp only [cond_true, Option.some.injEq, Prod.mk.injEq] at h
       obtain ⟨rfl, rfl⟩ := h
       simp only [Bool.and_eq_true, Nat.blt_eq] at hb
       exact ⟨i, z, hi, hz, rfl, rfl, Nat.eq_of_beq_eq_true hb.1.1, hb.1.2, hb.2⟩
   · cases h
 · cases h
def pO (g : Nat -> Option Ob) (e : TypeId) (sz : Nat) : SV -> Option (Option Nat × Nat × (Nat -> Nat -> Dt))
 | .dt (.cell (.slice none 0 0)) => some (none, 0, fun _ _ => aR)
 | .nm i => match g i with
   | some (.row t' sz' n f) => bif Nat.beq t' e && Nat.beq sz' sz then some (some i, n, f) else none
   | _ => none
 | _ => none
def QH (sz : Nat) : SV -> Option (Nat × (Nat -> Nat -> Dt))
 | .dt (.arr sz' m h) => bif Nat.beq sz' sz then some (m, h) else none
 | .dt (.cell (.slice none 0 _)) => some (0, fun _ _ => aR)
 | _ => none
def gP (n : Nat) (f h : Nat -> Nat -> Dt) (k j : Nat) : Dt := bif Nat.blt k n then f k j else h (k - n) j
def jd (P : Program) (g : Nat -> Option Ob) (new : Nat) (t : TypeId) (s x : SV) : T Res :=
 match P.underlying t with
 | some (.slice e) => match wN P e with
   | some (sz, by') => match pO g e sz s, QH sz x with
     | some (old, n, f), some (m, h) => .need ((n + m) * by' <= 140737488355328) (.ret ⟨.nm new, ⟨(old.toList.map fun j => (j, none)) ++ [(new, some (.row e sz (n + m) (gP n f h)))], [new]⟩⟩)
     | _, _ => .fail
   | none => .fail
 | _ => .fail
def Xr (C : Ctx) (w : World) (e : TypeId) (sz : Nat) (old : Option Nat) (n : Nat) (f : Nat -> Nat -> Dt) (A : Option Addr) (c : Nat) : Prop :=
 (A = none /\ n = 0 /\ c = 0) ∨ ∃ i b, old = some i /\ C.ρ i = some b /\ A = some ⟨b, 0, none⟩ /\ n <= c /\ ∃ cur : Array Value,
    w.heap[b]? = some (.cells cur e (0, 0)) /\ cur.size = c * sz /\ ∀ k j, k < n -> j < sz -> ∃ u, cur[k * sz + j]? = some u /\ u.oneCell' = true /\ Pers C.W w (fun w' => Rep w' (f k j) u)
theorem Jv {C : Ctx} {w : World} {g : Nat -> Option Ob} (hg : ObsOk C w g) {e : TypeId} {sz : Nat} {s : SV} {u : Value} (hs : rel C w s u) {old : Option Nat} {n : Nat} {f : Nat -> Nat -> Dt} (h : pO g e sz s = some (old, n, f)) :
  ∃ A c, u = .slice A n c /\ Xr C w e sz old n f A c := by
 unfold pO at h
 split at h
 · simp only [Option.some.injEq, Prod.mk.injEq] at h
   obtain ⟨rfl, rfl, rfl⟩ := h
   rw [aj] at hs
   exact ⟨none, 0, hs, .inl ⟨rfl, rfl, rfl⟩⟩
 · rename_i i
   split at h
   · rename_i t' sz' n' f' hgi
     cases hb : (Nat.beq t' e && Nat.beq sz' sz) with
     | false => rw [hb] at h; cases h
     | true =>
       rw [hb] at h
       simp only [cond_true, Option.some.injEq, Prod.mk.injEq] at h
       obtain ⟨rfl, rfl, rfl⟩ := h
       simp only [Bool.and_eq_true] at hb
       have e1 := Nat.eq_of_beq_eq_true hb.1
       have e2 := Nat.eq_of_beq_eq_true hb.2
       subst e1; subst e2
       obtain ⟨A, c, h1, h2⟩ := hg i _ hgi
       have hs : C.ν i = some u := hs.1
       rw [hs] at h1
       injection h1 with h1
       refine ⟨A, c, h1, ?_⟩
       rcases h2 with h2 | ⟨b, h3, h4, h5, h6⟩
       · exact .inl h2
       · exact .inr ⟨i, b, rfl, h3, h4, h5, h6⟩
   · cases h
 · cases h
theorem QI {C : Ctx} {w : World} {sz : Nat} {x : SV} {v : Value} (hx : rel C w x v) {m : Nat} {h : Nat -> Nat -> Dt} (he : QH sz x = some (m, h)) : rel C w (.dt (.arr sz m h)) v := by
 unfold QH at he
 split at he
 · rename_i sz' m' h'
   cases hb : Nat.beq sz' sz with
   | false => rw [hb] at he; cases he
   | true =>
     rw [hb] at he
     simp only [cond_true, Option.some.injEq, Prod.mk.injEq] at he
     obtain ⟨rfl, rfl⟩ := he
     have := Nat.eq_of_beq_eq_true hb
     subst this
     exact hx
 · simp only [Option.some.injEq, Prod.mk.injEq] at he
   obtain ⟨rfl, rfl⟩ := he
   rw [aj] at hx
   subst hx
   intro w' _
   exact ⟨none, _, rfl, Nat.zero_le _, fun h => absurd h (Nat.lt_irrefl 0)⟩
 · cases he
theorem qo {m sz t : Nat} (h : t < m * sz) : t / sz < m /\ t % sz < sz /\ t / sz * sz + t % sz = t := by
 have hs : 0 < sz := by
  rcases Nat.eq_zero_or_pos sz with h0 | h0
  · subst h0; omega
  · exact h0
 exact ⟨(Nat.div_lt_iff_lt_mul hs).2 h, Nat.mod_lt _ hs, by rw [Nat.mul_comm]; exact Nat.div_add_mod t sz⟩
theorem uW {k j m sz : Nat} (hk : k < m) (hj : j < sz) : k * sz + j < m * sz := by
 have : (k + 1) * sz <= m * sz := Nat.mul_le_mul_right sz hk
 rw [Nat.add_mul, Nat.one_mul] at this
 omega
theorem CV {C : Ctx} {w : World} {sz m : Nat} {h : Nat -> Nat -> Dt} {v : Value} (hx : rel C w (.dt (.arr sz m h)) v) (hm : 0 < m) :
  ∃ (a : Addr) (c : Nat) (news : List Value), v = .slice (some a) m c /\ news.length = m * sz /\ (∀ j u, news[j]? = some u -> w.cell? (a.add j) = some u) /\
    ∀ k j, k < m -> j < sz -> ∃ u, news[k * sz + j]? = some u /\ u.oneCell' = true /\ Pers C.W w (fun w' => Rep w' (h k j) u) := by
 obtain ⟨A, c, rfl, hmc, hr⟩ := hx.here
 obtain ⟨b, off, rfl, _⟩ := hr hm
 have key : ∀ k j, k < m -> j < sz -> ∃ u, Pers C.W w (fun w' => w'.cell? ⟨b, off + k * sz + j, none⟩ = some u /\ (u.oneCell' = true /\ Rep w' (h k j) u)) := by
  intro k j hk hj
  refine Eu (φ := fun w' u => u.oneCell' = true /\ Rep w' (h k j) u) fun w' ha => ?_
  obtain ⟨A', c', e', _, hcells⟩ := hx w' ha
  injection e' with e1 e2 e3
  subst e1
  obtain ⟨b', off', e4, hh⟩ := hcells hm
  injection e4 with e4
  injection e4 with e5 e6
  subst e5; subst e6
  exact hh k hk j hj
 refine ⟨⟨b, off, none⟩, c, (List.range (m * sz)).map fun t => (w.cell? ⟨b, off + t, none⟩).getD undef, rfl, by simp, fun j u hu => ?_, fun k j hk hj => ?_⟩
 · rw [aZ]
   have hlt : j < m * sz := by simpa using (List.getElem?_eq_some_iff.1 hu).1
   simp only [List.getElem?_map, List.getElem?_range hlt, Option.map_some, Option.some.injEq] at hu
   obtain ⟨h1, h2, h3⟩ := qo hlt
   obtain ⟨u', hp⟩ := key _ _ h1 h2
   have := hp.here.1
   rw [Nat.add_assoc, h3] at this
   rw [this] at hu ⊢
   simp at hu
   rw [hu]
 · obtain ⟨u, hp⟩ := key k j hk hj
   refine ⟨u, ?_, hp.here.2.1, hp.mono fun w' hh => hh.2.2⟩
   have hlt := uW hk hj
   simp only [List.getElem?_map, List.getElem?_range hlt, Option.map_some, Option.some.injEq]
   have := hp.here.1
   rw [Nat.add_assoc] at this
   rw [this]; rfl
theorem nT {P : Program} {w : World} {t ty e : TypeId} {i : TypeInfo} (ht : P.underlying t = some (.slice e)) (hi : P.info? e = some i) (A B : Option Addr) (n c c' : Nat) (hnc : n <= c) :
  (Builtin.append_ #[t, t] ty #[.slice A n c, .slice B 0 c']).run P w = .ok (.slice A n c) w := by
 have hf : (Builtin.firstCells i.size 0 (.slice B 0 c')).run P w = .ok #[] w := by
  cases B with
  | none => simp [Builtin.firstCells]
  | some b => exact run_firstCells_some (P := P) w i.size 0 b 0 c' [] (by simp) (by simp)
 cases A with
 | none => simp [Builtin.append_, run_underlying ht, Go.sizeOf, typeInfo, hi, Builtin.lenOf, hnc, hf]
 | some a =>
   simp [Builtin.append_, run_underlying ht, Go.sizeOf, typeInfo, hi, Builtin.lenOf, hnc, hf]
   simp [storeCells]
   done
theorem vR {C : Ctx} {w : World} (hw : WF C w) {new : Nat} (hnew : C.ν new = none) {e : TypeId} {i : TypeInfo} {z : Value} (hzs : z.cells.size = i.size) {old : Option Nat} {n : Nat} {f : Nat -> Nat -> Dt} {A : Option Addr} {c : Nat}
  (hrow : Xr C w e i.size old n f A c) {m : Nat} {h : Nat -> Nat -> Dt} {news : List Value} (hl : news.length = m * i.size)
  (hcells : ∀ k j, k < m -> j < i.size -> ∃ u, news[k * i.size + j]? = some u /\ u.oneCell' = true /\ Pers C.W w (fun w' => Rep w' (h k j) u)) {R : Value -> World -> Prop}
  (hnil : A = none -> n = 0 -> R (.slice (some ⟨w.heap.size, 0, none⟩) m (grownCap w m 0 e)) (w.drew.alloc (.cells (news.toArray ++ Builtin.zeroCells z.cells (grownCap w m 0 e - m)) e)))
  (hroom : ∀ b cur, A = some ⟨b, 0, none⟩ -> w.heap[b]? = some (.cells cur e (0, 0)) -> n + m <= c -> n * i.size + news.length <= cur.size ->
   R (.slice (some ⟨b, 0, none⟩) (n + m) c) (w.setRow b (cur.toList.take (n * i.size) ++ news ++ cur.toList.drop (n * i.size + news.length)).toArray))
  (hgrow : ∀ (b : Nat) (cur : Array Value), A = some ⟨b, 0, none⟩ -> w.heap[b]? = some (.cells cur e (0, 0)) -> c < n + m ->
   R (.slice (some ⟨w.heap.size, 0, none⟩) (n + m) (grownCap w (n + m) c e)) (w.drew.alloc (.cells ((cur.toList.take (n * i.size)).toArray ++ news.toArray ++ Builtin.zeroCells z.cells (grownCap w (n + m) c e - (n + m))) e))) :
  ∃ v' w' C', R v' w' /\ Came C w ⟨.nm new, ⟨(old.toList.map fun j => (j, none)) ++ [(new, some (.row e i.size (n + m) (gP n f h)))], [new]⟩⟩ C' w' v' := by
 have fin : ∀ (olds : List Value) (rest : List Value) (b cap : Nat) (w' : World), olds.length = n * i.size -> (∀ k j, k < n -> j < i.size -> ∃ q, olds[k * i.size + j]? = some q /\ q.oneCell' = true /\ Pers C.W w (fun w' => Rep w' (f k j) q)) ->
   w'.heap[b]? = some (.cells (olds ++ news ++ rest).toArray e (0, 0)) -> (olds ++ news ++ rest).length = cap * i.size -> n + m <= cap -> jU C w old (some b) w' -> Ag (fun c => ∃ j, old = some j /\ C.ρ j = some c) w w' ->
   Came C w ⟨.nm new, ⟨(old.toList.map fun j => (j, none)) ++ [(new, some (.row e i.size (n + m) (gP n f h)))], [new]⟩⟩ (C.move old new (.slice (some ⟨b, 0, none⟩) (n + m) cap) (some b)) w' (.slice (some ⟨b, 0, none⟩) (n + m) cap) := by
  intro olds rest b cap w' hol hold hh hcl hcap hfrom hag
  refine Came.move hw hnew hfrom hag ⟨_, cap, upd_same _ _ _, .inr ⟨b, iC, rfl, hcap, _, hh, by simpa using hcl, fun k j hk hj => ?_⟩⟩
  have hst := fP (i := new) (v := .slice (some ⟨b, 0, none⟩) (n + m) cap) hw hnew hfrom hag
  simp only [List.getElem?_toArray]
  by_cases hkn : k < n
  · obtain ⟨q, q1, q2, q3⟩ := hold k j hkn hj
    refine ⟨q, ?_, q2, ?_⟩
    · have hlt := uW hkn hj
      rw [List.append_assoc, List.getElem?_append_left (by omega)]; exact q1
    · have := Pers.kI hst q3
      have e1 : gP n f h k j = f k j := by
       have : Nat.blt k n = true := by rw [Nat.blt_eq]; omega
       simp only [gP, this, cond_true]
      rw [e1]; exact this
  · obtain ⟨q, q1, q2, q3⟩ := hcells (k - n) j (by omega) hj
    refine ⟨q, ?_, q2, ?_⟩
    · have hlt := uW (k := k - n) (m := m) (by omega) hj
      have e2 : k * i.size + j = n * i.size + ((k - n) * i.size + j) := by
       have : k * i.size = n * i.size + (k - n) * i.size := by rw [← Nat.add_mul]; congr 1; omega
       omega
      rw [List.append_assoc, List.getElem?_append_right (by omega), List.getElem?_append_left (by omega), ← q1]
      congr 1; omega
    · have := Pers.kI hst q3
      have e1 : gP n f h k j = h (k - n) j := by
       have : Nat.blt k n = false := by
        cases hb : Nat.blt k n with
        | false => rfl
        | true => rw [Nat.blt_eq] at hb; omega
       simp only [gP, this, cond_false]
      rw [e1]; exact this
 have drew : ∀ o : Obj, Ag (fun c => ∃ j, old = some j /\ C.ρ j = some c) w (w.drew.alloc o) := fun o => ⟨rfl, rfl, rfl, by simp, fun k hk _ => heap_alloc_old w.drew _ hk⟩
 have fromNew : ∀ o : Obj, jU C w old (some w.heap.size) (w.drew.alloc o) := fun o c' hc => by
  injection hc with hc; subst hc
  exact ⟨by simp, .inl (Nat.le_refl _)⟩
 rcases hrow with ⟨rfl, rfl, rfl⟩ | ⟨k, b, ho, hb, rfl, hnc, cur, hh, hcs, hcell⟩
 ·
  have hr := hnil rfl rfl
  have hge := grownCap_ge w m 0 e
  refine ⟨_, _, C.move old new (.slice (some ⟨w.heap.size, 0, none⟩) m (grownCap w m 0 e)) (some w.heap.size), hr, ?_⟩
  have := fin [] (Builtin.zeroCells z.cells (grownCap w m 0 e - m)).toList w.heap.size (grownCap w m 0 e) _ (by simp) (fun k j hk => by omega)
   (by
    have := heap_alloc_new w.drew (.cells (news.toArray ++ Builtin.zeroCells z.cells (grownCap w m 0 e - m)) e)
    refine Eq.trans this ?_
    congr 2
    apply Array.ext'; simp) (by
    simp only [List.nil_append, List.length_append, Array.length_toList, size_zeroCells, hzs, hl]
    rw [← Nat.add_mul]; congr 1; omega) (by omega) (fromNew _) (drew _)
  simp only [Nat.zero_add] at this ⊢
  exact this
 · have holds : ∀ k' j, k' < n -> j < i.size -> ∃ q, (cur.toList.take (n * i.size))[k' * i.size + j]? = some q /\ q.oneCell' = true /\ Pers C.W w (fun w' => Rep w' (f k' j) q) := by
    intro k' j hk hj
    obtain ⟨q, q1, q2⟩ := hcell k' j hk hj
    refine ⟨q, ?_, q2⟩
    rw [List.getElem?_take, if_pos (uW hk hj)]
    simpa using q1
   have hcl : n * i.size <= cur.size := by rw [hcs]; exact Nat.mul_le_mul_right _ hnc
   by_cases hroom' : n + m <= c
   · have hfit : n * i.size + news.length <= cur.size := by rw [hl, hcs, ← Nat.add_mul]; exact Nat.mul_le_mul_right _ hroom'
     have hr := hroom b cur rfl hh hroom' hfit
     refine ⟨_, _, _, hr, fin (cur.toList.take (n * i.size)) (cur.toList.drop (n * i.size + news.length)) b c _ (by simp; omega) holds (setRow_heap w b cur _ e _ hh) ?_ hroom' ?_ ?_⟩
     · simp; omega
     · intro c2 hc2
       injection hc2 with hc2; subst hc2
       exact ⟨by have := hw.lt k b hb; simpa using this, .inr ⟨k, ho, hb⟩⟩
     · exact ⟨rfl, rfl, rfl, by simp, fun k2 _ hk2 => setRow_other w b k2 _ (fun e => hk2 ⟨k, ho, e ▸ hb⟩)⟩
   · have hr := hgrow b cur rfl hh (by omega)
     have hge := grownCap_ge w (n + m) c e
     refine ⟨_, _, C.move old new (.slice (some ⟨w.heap.size, 0, none⟩) (n + m) (grownCap w (n + m) c e)) (some w.heap.size), hr, ?_⟩
     have := fin (cur.toList.take (n * i.size)) (Builtin.zeroCells z.cells (grownCap w (n + m) c e - (n + m))).toList w.heap.size (grownCap w (n + m) c e) _ (by simp; omega) holds
      (by
       have := heap_alloc_new w.drew (.cells ((cur.toList.take (n * i.size)).toArray ++ news.toArray ++ Builtin.zeroCells z.cells (grownCap w (n + m) c e - (n + m))) e)
       refine Eq.trans this ?_
       congr 2
       apply Array.ext'; simp) (by
       simp only [List.length_append, List.length_take, Array.length_toList, size_zeroCells, hzs, hl]
       rw [Nat.min_eq_left (by simpa using hcl), ← Nat.add_mul, ← Nat.add_mul]; congr 1; omega) (by omega) (fromNew _) (drew _)
     exact this
theorem yt {P : Program} {C : Ctx} {w : World} {g : Nat -> Option Ob} (hw : WF C w) (hg : ObsOk C w g) {new : Nat} (hnew : C.ν new = none) (t ty : TypeId) (s x : SV) (u v : Value) {r : Res}
  (hs : rel C w s u) (hx : rel C w x v) (hok : (jd P g new t s x).ok) (hval : (jd P g new t s x).val = some r) :
  ∃ v' w' C', (Builtin.append_ #[t, t] ty #[u, v]).run P w = .ok v' w' /\ Came C w r C' w' v' := by
 unfold jd at hok hval
 split at hok
 · rename_i e ht
   simp only [ht] at hval
   split at hok
   · rename_i sz by' hrt
     simp only [hrt] at hval
     split at hok
     · rename_i old n f m h hro har
       simp only [hro, har, T.val, Option.some.injEq] at hval
       subst hval
       have hby : (n + m) * by' <= 140737488355328 := hok.1
       obtain ⟨i, z, hi, hz, hsz, hbb, hzs, hsz0, hby0⟩ := iQ hrt
       subst hsz; subst hbb
       obtain ⟨A, c, rfl, hrow⟩ := Jv hg hs hro
       have hxa := QI hx har
       have hnm : n + m <= 140737488355328 := Nat.le_trans (Nat.le_mul_of_pos_right _ hby0) hby
       have hnc : n <= c := by
        rcases hrow with ⟨_, rfl, rfl⟩ | ⟨_, _, _, _, _, h, _⟩
        · exact Nat.le_refl _
        · exact h
       have self : Ag (fun c => ∃ j, old = some j /\ C.ρ j = some c) w w := Ag.refl _ _
       by_cases hm : m = 0
       ·
        subst hm
        obtain ⟨B, c', rfl, _⟩ := hxa.here
        have hrun := nT (P := P) (w := w) (ty := ty) ht hi A B n c c' hnc
        rcases hrow with ⟨rfl, rfl, rfl⟩ | ⟨k, b, ho, hb, rfl, hnc, cur, hh, hcs, hcell⟩
        · refine ⟨_, _, _, hrun, Came.move (b := none) hw hnew (fun c hc => by cases hc) self ⟨none, 0, upd_same _ _ _, .inl ⟨rfl, rfl, rfl⟩⟩⟩
        · have hfrom : jU C w old (some b) w := fun c' hc => by injection hc with hc; subst hc; exact ⟨hw.lt k b hb, .inr ⟨k, ho, hb⟩⟩
          refine ⟨_, _, _, hrun, Came.move hw hnew hfrom self ⟨_, c, upd_same _ _ _, .inr ⟨b, iC, rfl, hnc, cur, hh, hcs, fun k' j hk hj => ?_⟩⟩⟩
          obtain ⟨q, h1, h2, h3⟩ := hcell k' j hk hj
          refine ⟨q, h1, h2, ?_⟩
          have := Pers.kI (fP (i := new) (v := .slice (some ⟨b, 0, none⟩) n c) hw hnew hfrom self) h3
          have e1 : gP n f h k' j = f k' j := by
           have : Nat.blt k' n = true := by rw [Nat.blt_eq]; omega
           simp only [gP, this, cond_true]
          rw [e1]; exact this
       · obtain ⟨a, c', news, rfl, hl, hnews, hcells⟩ := CV hxa (by omega)
         have h1 : ∀ u ∈ news, u.oneCell' = true := by
          intro q hq
          obtain ⟨j, hj⟩ := List.getElem?_of_mem hq
          have hlt : j < m * i.size := by rw [← hl]; exact (List.getElem?_eq_some_iff.1 hj).1
          obtain ⟨d1, d2, d3⟩ := qo hlt
          obtain ⟨q', hq1, hq2, _⟩ := hcells _ _ d1 d2
          rw [d3, hj] at hq1
          injection hq1 with hq1; subst hq1; exact hq2
         refine vR (R := fun v' w' => (Builtin.append_ #[t, t] ty #[.slice A n c, .slice (some a) m c']).run P w = .ok v' w') hw hnew hzs hrow hl hcells (fun hA hn => ?_) (fun b cur hA hh h2 h3 => ?_) (fun b cur hA hh h2 => ?_)
         · subst hA; subst hn
           have hc0 : c = 0 := by
            rcases hrow with ⟨_, _, h⟩ | ⟨_, _, _, _, h, _⟩
            · exact h
            · cases h
           subst hc0
           exact run_append_nil (P := P) w t ty e i z ht hi hz a m c' news hl hnews (by omega) (by omega) (by simp only [Nat.zero_add] at hby; omega)
         · subst hA
           exact run_append_room (P := P) w t ty e i ht hi b n c cur hh a m c' news hl hnews h1 h2 h3
         · subst hA
           have hcl : n * i.size <= cur.size := by
            rcases hrow with ⟨h, _⟩ | ⟨_, b', _, _, h, h', cur', hh', hcs, _⟩
            · cases h
            · injection h with h; injection h with h; subst h
              rw [hh] at hh'
              injection hh' with hh'; injection hh' with hh'; subst hh'
              rw [hcs]; exact Nat.mul_le_mul_right _ h'
           exact run_append_grow (P := P) w t ty e i z ht hi hz ⟨b, 0, none⟩ n c (cur.toList.take (n * i.size)) (by simp; omega) (fun j q hj => by
            rw [aZ, cell_of_row w b _ cur e (0, 0) hh]
            rw [List.getElem?_take] at hj
            split at hj
            · simpa using hj
            · cases hj) a m c' news hl hnews h2 (by omega) (growslice_fits h2 hby)
     · simp [T.ok] at hok
   · simp [T.ok] at hok
 · simp [T.ok] at hok
def H9 (s : ByteArray) (i _j : Nat) : Dt := .cell (.int .u8 ((s.data.toList.getD i 0).toNat))
def dQ (P : Program) (g : Nat -> Option Ob) (new : Nat) (t tx : TypeId) (s x : SV) : T Res :=
 match P.underlying t, P.underlying tx with
 | some (.slice e), some .string => match wN P e with
   | some (sz, by') => match pO g e sz s, x with
     | some (old, n, f), .dt (.cell (.string b)) => bif Nat.beq sz 1 && Nat.beq by' 1 then .need (n + b.size <= 140737488355328) (.ret ⟨.nm new, ⟨(old.toList.map fun j => (j, none)) ++ [(new, some (.row e sz (n + b.size) (gP n f (H9 b))))], [new]⟩⟩) else .fail
     | _, _ => .fail
   | none => .fail
 | _, _ => .fail
theorem GQ {s : ByteArray} {k : Nat} (h : k < s.size) : (Lib.strCells s)[k]? = some (.int .u8 ((s.data.toList.getD k 0).toNat)) := by
 have hk : k < s.data.toList.length := h
 rw [Lib.strCells, List.getElem?_map, List.getD_eq_getElem?_getD, List.getElem?_eq_getElem hk]
 rfl
theorem wZ {P : Program} {C : Ctx} {w : World} {g : Nat -> Option Ob} (hw : WF C w) (hg : ObsOk C w g) {new : Nat} (hnew : C.ν new = none) (t tx ty : TypeId) (s x : SV) (u v : Value) {r : Res}
  (hs : rel C w s u) (hx : rel C w x v) (hok : (dQ P g new t tx s x).ok) (hval : (dQ P g new t tx s x).val = some r) :
  ∃ v' w' C', (Builtin.append_ #[t, tx] ty #[u, v]).run P w = .ok v' w' /\ Came C w r C' w' v' := by
 unfold dQ at hok hval
 split at hok
 · rename_i e ht hu
   simp only [ht, hu] at hval
   split at hok
   · rename_i sz by' hrt
     simp only [hrt] at hval
     split at hok
     · rename_i old n f b hro
       simp only [hro] at hval
       cases hb1 : (Nat.beq sz 1 && Nat.beq by' 1) with
       | false => rw [hb1] at hok; exact hok.elim
       | true =>
       rw [hb1] at hok hval
       simp only [cond_true, T.val, Option.some.injEq] at hval
       subst hval
       simp only [Bool.and_eq_true] at hb1
       have hby : n + b.size <= 140737488355328 := hok.1
       obtain ⟨i, z, hi, hz, hsz, hbb, hzs, hsz0, hby0⟩ := iQ hrt
       have z1 : i.size = 1 := hsz.trans (Nat.eq_of_beq_eq_true hb1.1)
       have y1 : i.bytes = 1 := hbb.trans (Nat.eq_of_beq_eq_true hb1.2)
       subst hsz
       obtain ⟨A, c, rfl, hrow⟩ := Jv hg hs hro
       rw [aj] at hx
       subst hx
       have hnc : n <= c := by
        rcases hrow with ⟨_, rfl, rfl⟩ | ⟨_, _, _, _, _, h, _⟩
        · exact Nat.le_refl _
        · exact h
       by_cases hm : b.size = 0
       ·
        have hn0 : Lib.strCells b = [] := List.eq_nil_of_length_eq_zero (by rw [Lib.strCells_length]; exact hm)
        have hf := Lib.run_firstCells_string (P := P) w 1 b
        rw [hm, hn0] at hf
        have hrun : (Builtin.append_ #[t, tx] ty #[.slice A n c, .string b]).run P w = .ok (.slice A n c) w := by
         cases A with
         | none => simp [Builtin.append_, run_underlying ht, run_underlying hu, Go.sizeOf, typeInfo, hi, z1, Builtin.lenOf, hm, hnc, hf]
         | some a => simp [Builtin.append_, run_underlying ht, run_underlying hu, Go.sizeOf, typeInfo, hi, z1, Builtin.lenOf, hm, hnc, hf, storeCells]
        have self : Ag (fun c => ∃ j, old = some j /\ C.ρ j = some c) w w := Ag.refl _ _
        rw [hm]
        rcases hrow with ⟨rfl, rfl, rfl⟩ | ⟨k, b', ho, hb, rfl, hnc, cur, hh, hcs, hcell⟩
        · exact ⟨_, _, _, hrun, Came.move (b := none) hw hnew (fun c hc => by cases hc) self ⟨none, 0, upd_same _ _ _, .inl ⟨rfl, rfl, rfl⟩⟩⟩
        · have hfrom : jU C w old (some b') w := fun c' hc => by injection hc with hc; subst hc; exact ⟨hw.lt k b' hb, .inr ⟨k, ho, hb⟩⟩
          refine ⟨_, _, _, hrun, Came.move hw hnew hfrom self ⟨_, c, upd_same _ _ _, .inr ⟨b', iC, rfl, hnc, cur, hh, hcs, fun k' j hk hj => ?_⟩⟩⟩
          obtain ⟨q, h1, h2, h3⟩ := hcell k' j hk hj
          refine ⟨q, h1, h2, ?_⟩
          have := Pers.kI (fP (i := new) (v := .slice (some ⟨b', 0, none⟩) n c) hw hnew hfrom self) h3
          have e1 : gP n f (H9 b) k' j = f k' j := by
           have : Nat.blt k' n = true := by rw [Nat.blt_eq]; omega
           simp only [gP, this, cond_true]
          rw [e1]; exact this
       · have hcells : ∀ k j, k < b.size -> j < i.size -> ∃ u, (Lib.strCells b)[k * i.size + j]? = some u /\ u.oneCell' = true /\ Pers C.W w (fun w' => Rep w' (H9 b k j) u) := by
          intro k j hk hj
          rw [z1] at hj ⊢
          have e : k * 1 + j = k := by omega
          rw [e]
          exact ⟨_, GQ hk, rfl, fun w' _ => rfl⟩
         refine vR (R := fun v' w' => (Builtin.append_ #[t, tx] ty #[.slice A n c, .string b]).run P w = .ok v' w') hw hnew hzs hrow (news := Lib.strCells b) (by rw [Lib.strCells_length, z1, Nat.mul_one]) hcells (fun hA hn => ?_) (fun b' cur hA hh h2 h3 => ?_) (fun b' cur hA hh h2 => ?_)
         · subst hA; subst hn
           have hc0 : c = 0 := by
            rcases hrow with ⟨_, _, h⟩ | ⟨_, _, _, _, h, _⟩
            · exact h
            · cases h
           subst hc0
           have e1 : (b.data.map fun b => Value.int .u8 b.toNat) = (Lib.strCells b).toArray := by
            apply Array.ext'
            simp [Lib.strCells]
           have hr := run_append_nil_string (P := P) w t tx ty e i z ht hu hi hz b (by omega) (by omega) (by rw [y1]; omega)
           rw [e1] at hr
           exact hr
         · subst hA
           rw [Lib.strCells_length, z1, Nat.mul_one] at h3
           have := Lib.run_append_room_string (P := P) w t tx ty e i ht hu hi z1 b' n c cur hh b h2 h3
           rw [z1, Nat.mul_one, Lib.strCells_length]
           exact this
         · subst hA
           have hcl : n * i.size <= cur.size := by
            rcases hrow with ⟨h, _⟩ | ⟨_, b2, _, _, h, h', cur', hh', hcs, _⟩
            · cases h
            · injection h with h; injection h with h; subst h
              rw [hh] at hh'
              injection hh' with hh'; injection hh' with hh'; subst hh'
              rw [hcs]; exact Nat.mul_le_mul_right _ h'
           exact Lib.run_append_grow_string (P := P) w t tx ty e i z ht hu hi hz ⟨b', 0, none⟩ n c (cur.toList.take (n * i.size)) (by simp; omega) (fun j q hj => by
            rw [aZ, cell_of_row w b' _ cur e (0, 0) hh]
            rw [List.getElem?_take] at hj
            split at hj
            · simpa using hj
            · cases hj) b h2 (by omega) (by rw [y1]; exact growslice_fits h2 (by omega))
     · simp [T.ok] at hok
   · simp [T.ok] at hok
 · simp [T.ok] at hok
end Rx
set_option linter.unusedSectionVars false
set_option linter.unusedSimpArgs false
set_option linter.unusedVariables false
namespace Rx
open Go
variable [Glob]
def nL : Option SV -> Bool
 | none => true
 | some (.dt (.cell (.int _ 0))) => true
 | _ => false
def je (P : Program) (g : Nat -> Option Ob) (new : Nat) (t : TypeId) (i : Nat) (low : Option SV) (high : SV) : T Res :=
 match P.underlying t with
 | some (.slice e) => match bg P e, g i, high with
   | some z, some (.row t' sz n f), .dt (.cell (.int _ h)) => bif Nat.beq z sz && nL low then .need (0 <= h /\ h <= n) (.ret ⟨.nm new, ⟨[(i, none), (new, some (.row t' sz h.toNat f))], [new]⟩⟩) else .fail
   | _, _, _ => .fail
 | _ => .fail
theorem wY {P : Program} {C : Ctx} {w : World} {low : Option SV} {vl : Option Value} (h0 : nL low = true) (hl : ∀ s, low = some s -> ∃ v, vl = some v /\ rel C w s v) (hl0 : low = none -> vl = none) :
  vl = none ∨ ∃ k, vl = some (.int k 0) := by
 unfold nL at h0
 split at h0
 · exact .inl (hl0 rfl)
 · rename_i k
   obtain ⟨v, h1, h2⟩ := hl _ rfl
   rw [aj] at h2
   subst h2
   exact .inr ⟨_, h1⟩
 · cases h0
theorem wP {P : Program} {w : World} {t e : TypeId} (ht : P.underlying t = some (.slice e)) {z : Nat} (hz : bg P e = some z) {A : Option Addr} {n c : Nat} (k : IntKind) {h : Int} (h0 : 0 <= h) (h1 : h <= c) {vl : Option Value}
  (hl : vl = none ∨ ∃ k, vl = some (.int k 0)) : (Instr.sliceAt t (.slice A n c) vl (some (.int k h)) none).run P w = .ok (.slice A h.toNat c) w := by
 have b1 := aG (P := P) (w := w) k h c .sliceAcap ⟨h0, h1⟩
 have e0 : ∀ a : Addr, a.add 0 = a := fun a => by unfold Addr.add; split <;> simp_all
 rcases hl with rfl | ⟨k', rfl⟩
 · simp only [Instr.sliceAt, Instr.slice, Instr.sliceBounds, underlying, Sem.run_bind, Sem.run_pure, run_program, Result.andThen_ok, ht, Option.isSome_none, b1, if_true, aL hz]
   cases A <;> simp [e0]
 · have b2 := aG (P := P) (w := w) k' 0 h.toNat .sliceB ⟨by omega, by omega⟩
   simp only [Instr.sliceAt, Instr.slice, Instr.sliceBounds, underlying, Sem.run_bind, Sem.run_pure, run_program, Result.andThen_ok, ht, Option.isSome_none, Bool.false_eq_true, if_false, b1, b2, if_true, aL hz]
   cases A <;> simp [e0]
theorem Fj {P : Program} {C : Ctx} {w : World} {g : Nat -> Option Ob} (hw : WF C w) (hg : ObsOk C w g) {new : Nat} (hnew : C.ν new = none) (t : TypeId) (i : Nat) (low : Option SV) (high : SV) (u : Value) (vl : Option Value) (vh : Value) {r : Res}
  (hx : rel C w (.nm i) u) (hl : ∀ s, low = some s -> ∃ v, vl = some v /\ rel C w s v) (hl0 : low = none -> vl = none) (hh : rel C w high vh)
  (hok : (je P g new t i low high).ok) (hval : (je P g new t i low high).val = some r) :
  ∃ v' C', (Instr.sliceAt t u vl (some vh) none).run P w = .ok v' w /\ Came C w r C' w v' := by
 unfold je at hok hval
 split at hok
 · rename_i e ht
   simp only [ht] at hval
   split at hok
   · rename_i z t' sz n f k h hz hgi
     simp only [hz, hgi] at hval
     cases hb : (Nat.beq z sz && nL low) with
     | false => rw [hb] at hok; exact hok.elim
     | true =>
       rw [hb] at hok hval
       simp only [cond_true, T.ok, T.val, and_true, Option.some.injEq] at hok hval
       subst hval
       simp only [Bool.and_eq_true] at hb
       have e1 := Nat.eq_of_beq_eq_true hb.1
       subst e1
       rw [aj] at hh
       subst hh
       obtain ⟨A, c, h1, h2⟩ := hg i _ hgi
       have hx : C.ν i = some u := hx.1
       rw [hx] at h1
       injection h1 with h1
       subst h1
       have hnc : n <= c := by
        rcases h2 with ⟨_, rfl, rfl⟩ | ⟨_, _, _, h, _⟩
        · exact Nat.le_refl _
        · exact h
       have hrun := wP (P := P) (w := w) (A := A) (n := n) ht hz k hok.1 (c := c) (by omega) (wY (P := P) hb.2 hl hl0)
       have self : Ag (fun c => ∃ j, some i = some j /\ C.ρ j = some c) w w := Ag.refl _ _
       rcases h2 with ⟨rfl, rfl, rfl⟩ | ⟨b, hb', rfl, hnc', cur, hcur, hcs, hcell⟩
       · have h00 : h.toNat = 0 := by omega
         rw [h00] at hrun
         have := Came.move (old := some i) (b := none) (ob := .row t' z 0 f) (v := .slice none 0 0) hw hnew (fun c hc => by cases hc) self ⟨none, 0, upd_same _ _ _, .inl ⟨rfl, rfl, rfl⟩⟩
         rw [h00]
         exact ⟨_, _, hrun, this⟩
       · have hfrom : jU C w (some i) (some b) w := fun c' hc => by injection hc with hc; subst hc; exact ⟨hw.lt i b hb', .inr ⟨i, rfl, hb'⟩⟩
         refine ⟨_, _, hrun, Came.move hw hnew hfrom self ⟨_, c, upd_same _ _ _, .inr ⟨b, iC, rfl, by omega, cur, hcur, hcs, fun k' j hk hj => ?_⟩⟩⟩
         obtain ⟨q, h1, h2, h3⟩ := hcell k' j (by omega) hj
         exact ⟨q, h1, h2, Pers.kI (fP (i := new) (v := .slice (some ⟨b, 0, none⟩) h.toNat c) hw hnew hfrom self) h3⟩
   · exact hok.elim
 · exact hok.elim
def Vt (P : Program) (e : TypeId) : Option (List Value) :=
 match P.info? e with
 | some i => match i.zero with
   | some z => bif z.cells.toList.all (·.oneCell') then some z.cells.toList else none
   | none => none
 | none => none
def qO (P : Program) (new : Nat) (t tx : TypeId) (s x : SV) : T Res :=
 match P.underlying t, P.underlying tx, s, x with
 | some (.slice e), some (.int _), .dt (.cell (.slice none 0 0)), .dt (.cell (.int .i64 l)) => match wN P e, Vt P e with
   | some (sz, by'), some zs => .need (0 <= l /\ l.toNat * by' <= 140737488355328) (.ret ⟨.nm new, ⟨[(new, some (.row e sz l.toNat fun _ j => .cell (zs.getD j undef)))], [new]⟩⟩)
   | _, _ => .fail
 | _, _, _, _ => .fail
theorem rA (z : Array Value) (n k j : Nat) (hk : k < n) (hj : j < z.size) : (Builtin.zeroCells z n)[k * z.size + j]? = z[j]? := by
 unfold Builtin.zeroCells
 have hlt := uW hk hj
 rw [Array.getElem?_map, Array.getElem?_range, if_pos hlt]
 have e : (k * z.size + j) % z.size = j := by
  rw [Nat.mul_comm, Nat.mul_add_mod, Nat.mod_eq_of_lt hj]
 simp only [Option.map_some, e]
 simp [hj]
theorem JX {P : Program} {C : Ctx} {w : World} (hw : WF C w) {new : Nat} (hnew : C.ν new = none) (t tx ty : TypeId) (s x : SV) (u v : Value) {r : Res}
  (hs : rel C w s u) (hx : rel C w x v) (hok : (qO P new t tx s x).ok) (hval : (qO P new t tx s x).val = some r) :
  ∃ v' w' C', (Builtin.append_ #[t, tx] ty #[u, v]).run P w = .ok v' w' /\ Came C w r C' w' v' := by
 unfold qO at hok hval
 split at hok
 · rename_i e kx l ht htx
   simp only [ht, htx] at hval
   split at hok
   · rename_i sz by' zs hrt hzd
     simp only [hrt, hzd, T.val, Option.some.injEq] at hval
     subst hval
     rw [aj] at hs hx
     subst hs; subst hx
     obtain ⟨⟨hl0, hby⟩, _⟩ := hok
     obtain ⟨i, z, hi, hz, hsz, hbb, hzs, hsz0, hby0⟩ := iQ hrt
     subst hsz; subst hbb
     have hzz : zs = z.cells.toList /\ ∀ q ∈ z.cells.toList, q.oneCell' = true := by
        unfold Vt at hzd
        rw [hi] at hzd
        simp only [hz] at hzd
        cases hb : z.cells.toList.all (·.oneCell') with
        | false => rw [hb] at hzd; cases hzd
        | true =>
          rw [hb] at hzd
          simp only [cond_true, Option.some.injEq] at hzd
          exact ⟨hzd.symm, fun q hq => List.all_eq_true.1 hb q hq⟩
     obtain ⟨rfl, hone⟩ := hzz
     have hll : (l.toNat : Int) = l := Int.toNat_of_nonneg hl0
     generalize l.toNat = n at hby hll ⊢
     subst hll
     have hn47 : n <= 140737488355328 := Nat.le_trans (Nat.le_mul_of_pos_right _ hby0) hby
     have hwrap : IntKind.i64.wrap (n : Int) = n := nJ _ _ ⟨by show (-(2:Int)^63) <= _; omega, by show _ <= ((2:Int)^63 - 1); omega⟩
     have hlb : ¬ ((n : Int) * i.bytes > 2 ^ 48) := by
      have : ((n * i.bytes : Nat) : Int) <= ((140737488355328 : Nat) : Int) := Int.ofNat_le.2 hby
      rw [Int.natCast_mul] at this
      omega
     have self : Ag (fun c => ∃ j, (none : Option Nat) = some j /\ C.ρ j = some c) w w := Ag.refl _ _
     by_cases hn : n = 0
     · subst hn
       have hrun : (Builtin.append_ #[t, tx] ty #[.slice none 0 0, .int .i64 0]).run P w = .ok (.slice none 0 0) w := by
        have hw0 : IntKind.i64.wrap 0 = 0 := by rfl
        simp [Builtin.append_, run_underlying ht, run_underlying htx, Go.sizeOf, typeInfo, hi, asInt, asIntOf, hw0]
       exact ⟨_, _, _, hrun, Came.move (old := none) (b := none) hw hnew (fun c hc => by cases hc) self ⟨none, 0, upd_same _ _ _, .inl ⟨rfl, rfl, rfl⟩⟩⟩
     · have hcap : Builtin.nextslicecap n 0 * i.bytes <= 2 ^ 48 := by
        have := growslice_fits (need := n) (old := 0) (bytes := i.bytes) (by omega) hby
        omega
       have hge := grownCap_ge w n 0 e
       have hrun : (Builtin.append_ #[t, tx] ty #[.slice none 0 0, .int .i64 n]).run P w =
         .ok (.slice (some ⟨w.heap.size, 0, none⟩) n (grownCap w n 0 e)) (w.drew.alloc (.cells (Builtin.zeroCells z.cells n ++ Builtin.zeroCells z.cells (grownCap w n 0 e - n)) e)) := by
        have h1 : ¬ ((n : Int) > IntKind.i64.max) := by
         show ¬ ((n : Int) > (2:Int) ^ 63 - 1)
         omega
        have h2 : ¬ (281474976710656 < Builtin.nextslicecap n 0 * i.bytes) := by omega
        have h3 : ¬ (281474976710656 < (n : Int) * i.bytes) := by omega
        have h4 : ¬ ((n : Int) < 0) := by omega
        have h5 : ¬ (n * i.size = 0) := by
         intro h
         rcases Nat.mul_eq_zero.1 h with h | h <;> omega
        have h6 : ¬ (9223372036854775807 < (n : Int)) := by omega
        simp [Builtin.append_, run_underlying ht, run_underlying htx, Go.sizeOf, typeInfo, zeroValue, hi, hz, asInt, asIntOf, hwrap, hn, h2, h3, h4, h5, h6, Question.forced, run_firstCells_none, newRow, grownCap]
        done
       refine ⟨_, _, _, hrun, Came.move (old := none) (b := some w.heap.size) hw hnew (fun c hc => ?_) ⟨rfl, rfl, rfl, by simp, fun k hk _ => heap_alloc_old w.drew _ hk⟩
        ⟨_, grownCap w n 0 e, upd_same _ _ _, .inr ⟨w.heap.size, iC, rfl, hge, _, heap_alloc_new w.drew _, ?_, fun k j hk hj => ?_⟩⟩⟩
       · injection hc with hc; subst hc
         exact ⟨by simp, .inl (Nat.le_refl _)⟩
       · simp only [Array.size_append, size_zeroCells, hzs]
         rw [← Nat.add_mul]; congr 1; omega
       · have hjz : j < z.cells.size := by omega
         have hg := rA z.cells n k j hk hjz
         rw [hzs] at hg
         refine ⟨z.cells[j], ?_, hone _ (by simp), fun w' _ => ?_⟩
         · rw [Array.getElem?_append_left (by rw [size_zeroCells, hzs]; exact uW hk hj), hg]
           simp [hjz]
         · show z.cells[j] = z.cells.toList.getD j undef
           rw [List.getD_eq_getElem?_getD]
           simp [hjz]
   · exact hok.elim
 · exact hok.elim
end Rx
