/- What is on a heap, block by block: the plain law. -/
import Derived.Test.YtfpnadmpmfcaaaaHpE
open Rx Go
namespace Go.Proofs.Ytfpnadmpmfcaaaa

theorem at_left {l m : List Wd} {i : Int} (h0 : 0 ≤ i) (h : i < l.length) : at' (l ++ m) i = at' l i := by
  unfold at'
  simp only [List.getD_eq_getElem?_getD]
  rw [List.getElem?_append_left (by omega)]
theorem at_right {l m : List Wd} {i : Int} (h0 : 0 ≤ i) : at' (l ++ m) (l.length + i) = at' m i := by
  unfold at'
  simp only [List.getD_eq_getElem?_getD]
  rw [List.getElem?_append_right (by omega)]
  congr 2
  omega
theorem cnt_left {l m : List Wd} {i : Int} (h0 : 0 ≤ i) (h : 0 ≤ cntS l i) : cntS (l ++ m) i = cntS l i := by
  by_cases hi : i < l.length
  · unfold cntS at h ⊢
    rw [at_left h0 hi]
    have : ¬ ((l.length : Int) ≤ i) := by omega
    have h' : ¬ (((l ++ m).length : Int) ≤ i) := by rw [List.length_append]; omega
    simp only [this, h', false_or]
  · unfold cntS at h
    rw [if_pos (.inl (by omega))] at h
    omega
theorem cnt_right {l m : List Wd} {i : Int} (h0 : 0 ≤ i) : cntS (l ++ m) (l.length + i) = cntS m i := by
  unfold cntS
  rw [at_right h0]
  have : ((((l ++ m).length : Nat) : Int) ≤ l.length + i) = ((m.length : Int) ≤ i) := by rw [List.length_append]; apply propext; omega
  simp only [this]

theorem sp_right {l m : List Wd} {a : Int} (h0 : 0 ≤ a) : spP (l ++ m) (l.length + a) ↔ spP m a := by
  unfold spP
  rw [show (l.length : Int) + a + 1 = l.length + (a + 1) by omega, show (l.length : Int) + a + 2 = l.length + (a + 2) by omega, at_right h0, at_right (i := a + 1) (by omega), at_right (i := a + 2) (by omega),
    cnt_right (i := a + 1) (by omega), cnt_right (i := a + 2) (by omega), List.length_append]
  constructor
  · rintro ⟨h, h'⟩
    refine ⟨h, ?_⟩
    rcases h' with h' | h' | h' | h'
    · exact .inl ⟨h'.1, h'.2.1, by have := h'.2.2; omega⟩
    · exact .inr (.inl ⟨h'.1, h'.2.1, by have := h'.2.2; omega⟩)
    · obtain ⟨a1, a2, a3, a4, a5, a6⟩ := h'
      exact .inr (.inr (.inl ⟨a1, a2, a3, a4, by omega, a6⟩))
    · obtain ⟨a1, a2, a3, a4, a5, a6, a7⟩ := h'
      exact .inr (.inr (.inr ⟨a1, a2, a3, a4, a5, by omega, a7⟩))
  · rintro ⟨h, h'⟩
    refine ⟨h, ?_⟩
    rcases h' with h' | h' | h' | h'
    · exact .inl ⟨h'.1, h'.2.1, by have := h'.2.2; omega⟩
    · exact .inr (.inl ⟨h'.1, h'.2.1, by have := h'.2.2; omega⟩)
    · obtain ⟨a1, a2, a3, a4, a5, a6⟩ := h'
      exact .inr (.inr (.inl ⟨a1, a2, a3, a4, by omega, a6⟩))
    · obtain ⟨a1, a2, a3, a4, a5, a6, a7⟩ := h'
      exact .inr (.inr (.inr ⟨a1, a2, a3, a4, a5, by omega, a7⟩))
theorem spSize_right {l m : List Wd} {a : Int} (h0 : 0 ≤ a) : spSize (l ++ m) (l.length + a) = spSize m a := by
  unfold spSize
  simp only [sp_right h0, show (l.length : Int) + a + 1 = l.length + (a + 1) by omega, show (l.length : Int) + a + 2 = l.length + (a + 2) by omega, at_right h0, cnt_right (i := a + 1) (by omega), cnt_right (i := a + 2) (by omega)]
theorem spFrom_right {l m : List Wd} {a : Int} (h0 : 0 ≤ a) : spFrom (l ++ m) (l.length + a) = spFrom m a := by
  unfold spFrom
  simp only [sp_right h0, at_right h0]

theorem sp_left {l m : List Wd} {a : Int} (h0 : 0 ≤ a) (h : spP l a) : spP (l ++ m) a ∧ spSize (l ++ m) a = spSize l a ∧ spFrom (l ++ m) a = spFrom l a ∧ at' (l ++ m) a = at' l a := by
  have hl : ((l ++ m).length : Int) = l.length + m.length := by rw [List.length_append]; omega
  have hlt : a < l.length := by
    obtain ⟨_, h' | h' | h' | h'⟩ := h
    · omega
    · omega
    · have := h'.2.2.2.1; have := h'.2.2.2.2.1; omega
    · have := h'.2.2.2.1; have := h'.2.2.2.2.2.1; omega
  have e0 := at_left (m := m) h0 hlt
  have key : spP (l ++ m) a ∧ ((at' l a).k = 8 → cntS (l ++ m) (a + 1) = cntS l (a + 1)) ∧ ((at' l a).k = 9 → cntS (l ++ m) (a + 2) = cntS l (a + 2)) := by
    unfold spP at h ⊢
    rw [e0, hl]
    obtain ⟨g, h' | h' | h' | h'⟩ := h
    · exact ⟨⟨g, .inl ⟨h'.1, h'.2.1, by omega⟩⟩, by omega, by omega⟩
    · exact ⟨⟨g, .inr (.inl ⟨h'.1, h'.2.1, by omega⟩)⟩, by omega, by omega⟩
    · obtain ⟨a1, a2, a3, a4, a5, a6⟩ := h'
      have c := cnt_left (m := m) (i := a + 1) (by omega) a4
      have e1 := at_left (l := l) (m := m) (i := a + 1) (by omega) (by omega)
      exact ⟨⟨g, .inr (.inr (.inl ⟨a1, a2, a3, by omega, by omega, by rw [e1]; exact a6⟩))⟩, fun _ => c, by omega⟩
    · obtain ⟨a1, a2, a3, a4, a5, a6, a7⟩ := h'
      have c := cnt_left (m := m) (i := a + 2) (by omega) a4
      have e1 := at_left (l := l) (m := m) (i := a + 1) (by omega) (by omega)
      have e2 := at_left (l := l) (m := m) (i := a + 2) (by omega) (by omega)
      exact ⟨⟨g, .inr (.inr (.inr ⟨a1, a2, a3, by omega, by omega, by omega, by rw [e1, e2]; exact a7⟩))⟩, by omega, fun _ => c⟩
  obtain ⟨k1, k2, k3⟩ := key
  refine ⟨k1, ?_, ?_, e0⟩
  · unfold spSize
    rw [if_pos k1, if_pos h, e0]
    have hk : (at' l a).k = 6 ∨ (at' l a).k = 7 ∨ (at' l a).k = 8 ∨ (at' l a).k = 9 := by
      obtain ⟨_, h' | h' | h' | h'⟩ := h <;> omega
    rcases hk with hk | hk | hk | hk
    · simp [hk]
    · simp [hk]
    · simp [hk, k2 hk]
    · simp [hk, k3 hk]
  · unfold spFrom
    rw [if_pos k1, if_pos h, e0]

/-- a whole block -/
def isBlk (b : List Wd) : Prop := spP b 0 ∧ spSize b 0 = b.length
theorem sp_kind {l : List Wd} {a : Int} (h : spP l a) : (at' l a).k ≠ 10 := by
  obtain ⟨_, h' | h' | h' | h'⟩ := h <;> omega
theorem sp_pos {l : List Wd} {a : Int} (h : spP l a) : 1 ≤ spFrom l a ∧ spFrom l a ≤ spSize l a ∧ 2 ≤ spSize l a := by
  unfold spFrom spSize
  rw [if_pos h, if_pos h]
  obtain ⟨_, h' | h' | h' | h'⟩ := h
  · simp [h'.1]
  · simp [h'.1]
  · have := h'.2.2.2.1; simp [h'.1]; omega
  · have := h'.2.2.2.1; simp [h'.1]; omega
theorem blk_len {b : List Wd} (h : isBlk b) : 2 ≤ b.length := by have := (sp_pos h.1).2.2; have := h.2; omega

/-- a block stands where it stands -/
theorem blk_at {p b r : List Wd} (h : isBlk b) : spP (p ++ b ++ r) p.length ∧ spSize (p ++ b ++ r) p.length = b.length ∧ spFrom (p ++ b ++ r) p.length = spFrom b 0 ∧ at' (p ++ b ++ r) p.length = at' b 0 := by
  have h1 : spP (p ++ b) p.length := by have := (sp_right (l := p) (m := b) (a := 0) (by omega)).2 h.1; simpa using this
  have h2 : spSize (p ++ b) p.length = b.length := by have := spSize_right (l := p) (m := b) (a := 0) (by omega); rw [h.2] at this; simpa using this
  have h3 : spFrom (p ++ b) p.length = spFrom b 0 := by have := spFrom_right (l := p) (m := b) (a := 0) (by omega); simpa using this
  have h4 : at' (p ++ b) p.length = at' b 0 := by have := at_right (l := p) (m := b) (i := 0) (by omega); simpa using this
  obtain ⟨g1, g2, g3, g4⟩ := sp_left (m := r) (by omega) h1
  exact ⟨g1, g2.trans h2, g3.trans h3, g4.trans h4⟩

def offs : List (List Wd) → Nat → List Nat
  | [], _ => []
  | b :: bs, a => a :: offs bs (a + b.length)

theorem startsF_blocks : ∀ (bs : List (List Wd)) (p : List Wd) (f : Nat), (∀ b ∈ bs, isBlk b) → bs.flatten.length < f → startsF (p ++ bs.flatten) f p.length = some (offs bs p.length)
  | [], p, f, _, hf => by
    cases f with
    | zero => simp at hf
    | succ f => simp [startsF, offs]
  | b :: bs, p, f, h, hf => by
    have hb := h b (by simp)
    have hl := blk_len hb
    cases f with
    | zero => omega
    | succ f =>
      have e : p ++ (b :: bs).flatten = p ++ b ++ bs.flatten := by simp
      rw [e]
      obtain ⟨h1, h2, h3, h4⟩ := blk_at (p := p) (r := bs.flatten) hb
      have hs : stepS (p ++ b ++ bs.flatten) p.length = some b.length := by
        unfold stepS
        rw [if_neg (sp_kind h1), if_pos h1, h2]
        simp
      have hlt : p.length < (p ++ b ++ bs.flatten).length := by simp; omega
      have ih := startsF_blocks bs (p ++ b) f (fun x hx => h x (by simp [hx])) (by simp at hf ⊢; omega)
      rw [List.length_append] at ih
      simp only [startsF, hlt, if_true, hs, ih, offs, Option.map_some]

theorem starts_blocks {bs : List (List Wd)} (h : ∀ b ∈ bs, isBlk b) : startsS bs.flatten = some (offs bs 0) := by
  have := startsF_blocks bs [] (bs.flatten.length + 1) h (by omega)
  simpa [startsS] using this

/-- the words of a block that are looked at -/
def wordsOf (b : List Wd) : List Wd := b.drop (spFrom b 0).toNat

theorem okAt_block {p b r : List Wd} {acc : List Nat} (h : isBlk b) : okAt (p ++ b ++ r) acc p.length = (wordsOf b).all (wordOk (p ++ b ++ r) acc) := by
  obtain ⟨h1, h2, h3, h4⟩ := blk_at (p := p) (r := r) h
  unfold okAt
  rw [if_neg (sp_kind h1), h2, h3]
  obtain ⟨q1, q2, q3⟩ := sp_pos h.1
  have hsz := h.2
  have e : wordsOf b = (List.range ((b.length : Int) - spFrom b 0).toNat).map fun (i : Nat) => at' (p ++ b ++ r) ((p.length : Int) + spFrom b 0 + (i : Int)) := by
    apply List.ext_getElem
    · simp [wordsOf]; omega
    · intro i i1 i2
      simp only [wordsOf, List.getElem_drop, List.getElem_map, List.getElem_range]
      simp only [wordsOf, List.length_drop] at i1
      have e1 : at' (p ++ b ++ r) (p.length + spFrom b 0 + i) = at' b (spFrom b 0 + i) := by
        rw [List.append_assoc, show (p.length : Int) + spFrom b 0 + i = p.length + (spFrom b 0 + i) by omega, at_right (by omega), at_left (by omega) (by omega)]
      rw [e1]
      unfold at'
      have : (spFrom b 0 + (i : Int)).toNat = (spFrom b 0).toNat + i := by omega
      rw [this]
      simp only [List.getD_eq_getElem?_getD]
      rw [List.getElem?_eq_getElem (by omega)]
      rfl
  rw [e, List.all_map]
  rfl

theorem allOk_blocks_aux {acc : List Nat} : ∀ (bs : List (List Wd)) (p : List Wd), (∀ b ∈ bs, isBlk b) → (offs bs p.length).all (okAt (p ++ bs.flatten) acc) = bs.all fun b => (wordsOf b).all (wordOk (p ++ bs.flatten) acc)
  | [], p, _ => rfl
  | b :: bs, p, h => by
    have e : p ++ (b :: bs).flatten = p ++ b ++ bs.flatten := by simp
    have ih := allOk_blocks_aux (acc := acc) bs (p ++ b) (fun x hx => h x (by simp [hx]))
    rw [List.length_append] at ih
    rw [e]
    simp only [offs, List.all_cons, ih, okAt_block (h b (by simp))]
theorem allOk_blocks {bs : List (List Wd)} (h : ∀ b ∈ bs, isBlk b) : allOk bs.flatten = bs.all fun b => (wordsOf b).all (wordOk bs.flatten (offs bs 0)) := by
  unfold allOk
  rw [starts_blocks h]
  have := allOk_blocks_aux (acc := offs bs 0) bs [] h
  simpa using this

/-! ## words written out -/
def cells3 (m : List Wd) : List Dt := m.flatMap fun w => [.cell (.int .i64 w.k), .cell (.int .i64 w.n), .cell (.string w.s)]
def litF (ds : List Dt) (i j : Nat) : Dt := ds.getD (i * 3 + j) undefCell
theorem cells3_get : ∀ (m : List Wd) (i j : Nat), i < m.length → j < 3 → (cells3 m).getD (i * 3 + j) undefCell = wC (m.getD i default) j
  | [], i, j, h, _ => by simp at h
  | w :: m, 0, j, _, hj => by
    have : j = 0 ∨ j = 1 ∨ j = 2 := by omega
    rcases this with rfl | rfl | rfl <;> rfl
  | w :: m, i + 1, j, h, hj => by
    have ih := cells3_get m i j (by simpa using h) hj
    have e : (i + 1) * 3 + j = (i * 3 + j) + 3 := by omega
    rw [e]
    exact ih
theorem lit_read {m : List Wd} {n : Nat} (hn : n = m.length) : rdF n (litF (cells3 m)) = m := by
  subst hn
  apply List.ext_getElem
  · simp [rdF]
  · intro i h1 h2
    simp only [rdF, List.getElem_map, List.getElem_range]
    have : ∀ j, j < 3 → litF (cells3 m) i j = wC (m.getD i default) j := fun j hj => cells3_get m i j h2 hj
    unfold rdC
    rw [this 0 (by omega), this 1 (by omega), this 2 (by omega)]
    simp [wC, h2]
theorem lit_le {m : List Wd} {n : Nat} (hn : n = m.length) : leS (.dt (.arr 3 n (litF (cells3 m)))) (wD m) := by
  subst hn
  rw [wD, leS_dt, leDt_arr]
  refine ⟨rfl, .inr ⟨rfl, fun k hk j hj => ?_⟩⟩
  have : litF (cells3 m) k j = wF m k j := cells3_get m k j hk hj
  rw [this]
  exact leDt_refl _
theorem hS_le {l : List Wd} {lim : Int} {s : SV} (h : leS s (wD l)) : leS (.agg [s, vI .i64 lim]) (hS l lim) := by
  simp only [hS, leS_agg, leL_cons]
  exact ⟨h, leS_refl _, trivial⟩
theorem nil_le : leS nilS (wD []) := by
  simp only [nilS, wD, leS_dt]
  exact ⟨rfl, rfl⟩
end Go.Proofs.Ytfpnadmpmfcaaaa
