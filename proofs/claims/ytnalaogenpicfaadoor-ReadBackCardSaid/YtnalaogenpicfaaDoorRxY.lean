/- What is read of memory, as pure data: slices of numbers, and of structs of numbers. -/
import Derived.Test.YtnalaogenpicfaaDoorRxZ
import Derived.Lib.SmallJoins
import Derived.OpenShut
set_option linter.unusedSectionVars false
set_option linter.unusedSimpArgs false
set_option linter.unusedVariables false
namespace Rx
open Go Go.ChangeShapes Go.WideShapes Go.RowKit
variable [Glob]

theorem rep_more {w w' : World} (hm : More w w') : ∀ (d : Dt) (v : Value), Rep w d v → Rep w' d v
  | .cell _, _, h => h
  | .arr _ _ f, _, ⟨A, c, e, hc, h⟩ => ⟨A, c, e, hc, fun hn => by
      obtain ⟨b, off, ea, h⟩ := h hn
      exact ⟨b, off, ea, fun i hi j hj => by
        obtain ⟨u, h1, h2, h3⟩ := h i hi j hj
        exact ⟨u, hm.cell h1, h2, rep_more hm (f i j) u h3⟩⟩⟩
  | .mp _ _ _, _, ⟨b, e, h⟩ => ⟨b, e, hm _ _ h⟩
  | .ifc, _, h => h
theorem rel_rep {w : World} {d : Dt} {v : Value} (h : Rep w d v) : rel C0 w (.dt d) v := fun w' ha => rep_more (fun k o hk => by
  have hlt : k < w.heap.size := (Array.getElem?_eq_some_iff.1 hk).1
  rw [ha.block k hlt (C0_W k)]
  exact hk) d v h

def i64ok (n : Int) : Prop := -9223372036854775808 ≤ n ∧ n ≤ 9223372036854775807
def rowsF (l : List (List Int)) (i j : Nat) : Dt := .cell (.int .i64 ((l.getD i []).getD j 0))

section
variable {H : Type} {enc : TypeId × Value → H} {P : Program} {w : World} {base : Nat} {spare : Nat → Bool} {held : Bool}

theorem rows_int {e : TypeId} (he : P.underlying e = some (.int .i64)) {fuel : Nat} {cs : List Value} {y : DataW H × List MemPlace} (h : DataW.trod enc P w base spare held fuel e cs = some y) :
    ∃ ks : List Int, ks.length = 1 ∧ cs = ks.map (Value.int .i64) ∧ ∀ k ∈ ks, i64ok k := by
  obtain ⟨n, rfl, _, hw⟩ := DataW.trod_int he h
  refine ⟨[n], rfl, rfl, fun k hk => ?_⟩
  simp at hk; subst hk
  exact bounds_i64 hw

/-- a struct of four numbers -/
theorem rows_four {e ti : TypeId} {f0 f1 f2 f3 : Field} (he : P.underlying e = some (.struct #[f0, f1, f2, f3])) (hi : P.underlying ti = some (.int .i64))
    (h0 : f0.type = ti ∧ f0.offset = 0) (h1 : f1.type = ti ∧ f1.offset = 1) (h2 : f2.type = ti ∧ f2.offset = 2) (h3 : f3.type = ti ∧ f3.offset = 3) (hc : P.cellsOf e = 4) (hci : P.cellsOf ti = 1)
    {fuel : Nat} {cs : List Value} {y : DataW H × List MemPlace} (h : DataW.trod enc P w base spare held fuel e cs = some y) :
    ∃ ks : List Int, ks.length = 4 ∧ cs = ks.map (Value.int .i64) ∧ ∀ k ∈ ks, i64ok k := by
  obtain ⟨y0, y1, y2, y3, n, _, hl, g0, g1, g2, g3⟩ := Go.Joins.trod_struct4 he h
  rw [hc] at hl
  match cs, hl with
  | [c0, c1, c2, c3], _ =>
    rw [h0.1, h0.2, hci] at g0
    rw [h1.1, h1.2, hci] at g1
    rw [h2.1, h2.2, hci] at g2
    rw [h3.1, h3.2, hci] at g3
    obtain ⟨n0, e0, _, w0⟩ := DataW.trod_int hi g0
    obtain ⟨n1, e1, _, w1⟩ := DataW.trod_int hi g1
    obtain ⟨n2, e2, _, w2⟩ := DataW.trod_int hi g2
    obtain ⟨n3, e3, _, w3⟩ := DataW.trod_int hi g3
    simp at e0 e1 e2 e3
    subst e0; subst e1; subst e2; subst e3
    refine ⟨[n0, n1, n2, n3], rfl, rfl, fun k hk => ?_⟩
    simp only [List.mem_cons, List.not_mem_nil, or_false] at hk
    rcases hk with rfl | rfl | rfl | rfl
    · exact bounds_i64 w0
    · exact bounds_i64 w1
    · exact bounds_i64 w2
    · exact bounds_i64 w3

theorem open_rows {r : Reach} {b0 : Nat} {t e : TypeId} {n : Nat} {v : Value} {d : DataW H} {ps : List MemPlace} (ht : P.underlying t = some (.slice e)) (hc : P.cellsOf e = n) (hn : 0 < n)
    (he : ∀ (fuel : Nat) (cs : List Value) (y : DataW H × List MemPlace), DataW.trod enc P w base spare held fuel e cs = some y → ∃ ks : List Int, ks.length = n ∧ cs = ks.map (Value.int .i64) ∧ ∀ k ∈ ks, i64ok k)
    (hval : Value.okWide P w r b0 t v) (hd : DataW.Trod enc P w base spare held t v d ps) :
    ∃ l : List (List Int), (∀ ks ∈ l, ks.length = n ∧ ∀ k ∈ ks, i64ok k) ∧ l.length ≤ maxLen ∧ Rep w (.arr n l.length (rowsF l)) v := by
  obtain ⟨A, len0, cap0, rfl⟩ := okWide_slice ht hval
  obtain ⟨fuel, hf⟩ := hd
  rcases DataW.trod_slice ht hf with ⟨h, _⟩ | ⟨a, len, cap, elems, rest, m, _, h, _, _, hl, hm, hlen, hel, _, _⟩
  · simp [Value.cells] at h
    obtain ⟨rfl, rfl, rfl⟩ := h
    exact ⟨[], fun _ h => (by cases h), Nat.zero_le _, ⟨none, 0, rfl, Nat.le_refl _, fun h => absurd h (Nat.lt_irrefl _)⟩⟩
  · simp [Value.cells] at h
    obtain ⟨rfl, rfl, rfl⟩ := h
    have each : ∀ i, i < len0 → ∃ ks : List Int, (ks.length = n ∧ ∀ k ∈ ks, i64ok k) ∧ ∀ j, j < n → w.cell? ((a.add (i * n)).add j) = some (.int .i64 (ks.getD j 0)) := by
      intro i hi
      have h := hel i hi
      rw [List.getElem?_eq_getElem (by omega), Option.bind_eq_some_iff, hc] at h
      obtain ⟨cs, h1, h2⟩ := h
      obtain ⟨ks, k1, k2, k3⟩ := he m cs _ h2
      obtain ⟨_, _, h4⟩ := World.cells?_some h1
      refine ⟨ks, ⟨k1, k3⟩, fun j hj => ?_⟩
      rw [h4 j hj, k2]
      simp [k1, hj]
    have pick : ∀ k, k ≤ len0 → ∃ l : List (List Int), l.length = k ∧ (∀ ks ∈ l, ks.length = n ∧ ∀ k ∈ ks, i64ok k) ∧ ∀ i, i < k → ∀ j, j < n → w.cell? ((a.add (i * n)).add j) = some (.int .i64 ((l.getD i []).getD j 0)) := by
      intro k
      induction k with
      | zero => exact fun _ => ⟨[], rfl, fun _ h => (by cases h), fun i hi => absurd hi (Nat.not_lt_zero _)⟩
      | succ k ih =>
        intro hk
        obtain ⟨l, l1, l2, l3⟩ := ih (by omega)
        obtain ⟨ks, k1, k2⟩ := each k (by omega)
        refine ⟨l ++ [ks], by simp [l1], fun x hx => ?_, fun i hi j hj => ?_⟩
        · rcases List.mem_append.1 hx with hx | hx
          · exact l2 x hx
          · simp at hx; subst hx; exact k1
        · by_cases h : i < k
          · rw [l3 i h j hj]
            simp [List.getElem?_append, l1, h]
          · obtain rfl : i = k := by omega
            rw [k2 j hj]
            simp [List.getElem?_append, l1]
    obtain ⟨l, l1, l2, l3⟩ := pick len0 (Nat.le_refl _)
    refine ⟨l, l2, by omega, ⟨some a, cap0, by rw [l1], by omega, fun h0 => ?_⟩⟩
    have hs := l3 0 (by omega) 0 hn
    obtain ⟨b, off, spot⟩ := a
    have hspot : spot = none := by simpa [Addr.add] using World.cell?_spot hs
    subst hspot
    exact ⟨b, off, rfl, fun i hi j hj => ⟨_, by have := l3 i (by omega) j hj; rwa [add_plain, add_plain] at this, rfl, rfl⟩⟩
end

/-- a contract that says less -/
theorem ctr_weak {P : Program} {f : FuncId} {args : List SV} {obs : List Ob} {out out' : T Out} (h : Ctr P f args obs out) (hw : ∀ post, out'.holds post → out.holds fun y => Gives post y.1 y.2) : Ctr P f args obs out' := by
  intro C w vs post h1 h2 h3 h4 ho
  refine (h C w vs _ h1 h2 h3 h4 (hw post ho)).mono ?_
  rintro e w' ⟨v, C', y, ⟨y', hp, l1, l2⟩, he, hs, hwf, hn, hv, hob⟩
  obtain ⟨g1, g2⟩ := leOO_get l2
  refine ⟨v, C', y', hp, he, hs, hwf, fun i hi => hn i (by omega), leS_rel _ _ _ l1 hv, fun i ob hi => ?_⟩
  obtain ⟨o, ho, hle⟩ := g2 i ob hi
  exact leOb_holds hle (hob i o ho)

/-- a call that is told at its place: what is handed in, and what it comes to -/
def cF (f : FuncId) (fresh : Bool) (args : List SV) (obs : List Ob) (out : T Out) : FC := ⟨f, fresh, false, fun _ _ => some (args, obs, out)⟩
theorem cF_ok {P : Program} {f : FuncId} {fresh : Bool} {args : List SV} {obs : List Ob} {out : T Out} (h : Ctr P f args obs out) : (cF f fresh args obs out).Ok P := by
  intro al ol args' obs' out' e
  simp only [cF, Option.some.injEq, Prod.mk.injEq] at e
  obtain ⟨rfl, rfl, rfl⟩ := e
  exact h
end Rx
