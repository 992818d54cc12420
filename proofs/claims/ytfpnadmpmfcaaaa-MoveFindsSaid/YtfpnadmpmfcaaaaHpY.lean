/- What the laws of this seat are given: raw things, and numbers. -/
import Derived.Test.YtfpnadmpmfcaaaaRxY
import Derived.Test.YtfpnadmpmfcaaaaHpI
import Derived.Test.YtfpnadmpmfcaaaaHpZ
open Rx Go Go.ChangeShapes
namespace Go.Proofs.Ytfpnadmpmfcaaaa

def rwOf (ks : List Int) : Rw := ⟨ks.getD 0 0, ks.getD 1 0, ks.getD 2 0, ks.getD 3 0⟩
theorem rows_raw (l : List (List Int)) : ∀ i j, j < 4 → rowsF l i j = rF (l.map rwOf) i j := by
  intro i j hj
  have hg : (l.map rwOf).getD i default = rwOf (l.getD i []) := by
    simp only [List.getD_eq_getElem?_getD, List.getElem?_map]
    cases l[i]? with
    | some x => rfl
    | none => rfl
  unfold rF rowsF
  rw [hg]
  have : j = 0 ∨ j = 1 ∨ j = 2 ∨ j = 3 := by omega
  rcases this with rfl | rfl | rfl | rfl <;> rfl

section
variable {H : Type} {enc : TypeId × Value → H} {w : World} {base : Nat} {spare : Nat → Bool} {held : Bool}
theorem open_raws {r : Reach} {b0 : Nat} {v : Value} {d : DataW H} {ps : List MemPlace} (hval : Value.okWide Try.prog w r b0 32 v) (hd : DataW.Trod enc Try.prog w base spare held 32 v d ps) :
    ∃ l : List Rw, rawOk l ∧ l.length ≤ maxLen ∧ Rep w (.arr 4 l.length (rF l)) v := by
  obtain ⟨l, h1, h2, h3⟩ := open_rows (n := 4) Try.underlying32 (by kernel_rfl) (by omega)
    (fun fuel cs y h => rows_four (ti := 3) Try.underlying58 Try.underlying3 ⟨rfl, rfl⟩ ⟨rfl, rfl⟩ ⟨rfl, rfl⟩ ⟨rfl, rfl⟩ (by kernel_rfl) (by kernel_rfl) h) hval hd
  refine ⟨l.map rwOf, fun x hx => ?_, by simpa using h2, ?_⟩
  · obtain ⟨ks, hk, rfl⟩ := List.mem_map.1 hx
    obtain ⟨k1, k2⟩ := h1 ks hk
    match ks, k1 with
    | [a, b, c, e], _ => exact ⟨k2 a (by simp), k2 b (by simp), k2 c (by simp), k2 e (by simp)⟩
  · obtain ⟨A, c, e, hc, h⟩ := h3
    refine ⟨A, c, by simpa using e, by simpa using hc, fun hn => ?_⟩
    obtain ⟨b, off, e1, h⟩ := h (by simpa using hn)
    refine ⟨b, off, e1, fun i hi j hj => ?_⟩
    rw [← rows_raw l i j hj]
    exact h i (by simpa using hi) j hj
theorem open_nums {r : Reach} {b0 : Nat} {v : Value} {d : DataW H} {ps : List MemPlace} (hval : Value.okWide Try.prog w r b0 48 v) (hd : DataW.Trod enc Try.prog w base spare held 48 v d ps) :
    ∃ l : List Int, (∀ k ∈ l, isInt k) ∧ l.length ≤ maxLen ∧ Rep w (.arr 1 l.length fun i _ => .cell (.int .i64 (l.getD i 0))) v := by
  obtain ⟨l, h1, h2, h3⟩ := open_rows (n := 1) Try.underlying48 (by kernel_rfl) (by omega) (fun fuel cs y h => rows_int Try.underlying3 h) hval hd
  refine ⟨l.map fun ks => ks.getD 0 0, fun x hx => ?_, by simpa using h2, ?_⟩
  · obtain ⟨ks, hk, rfl⟩ := List.mem_map.1 hx
    obtain ⟨k1, k2⟩ := h1 ks hk
    match ks, k1 with
    | [a], _ => exact k2 a (by simp)
  · obtain ⟨A, c, e, hc, h⟩ := h3
    refine ⟨A, c, by simpa using e, by simpa using hc, fun hn => ?_⟩
    obtain ⟨b, off, e1, h⟩ := h (by simpa using hn)
    refine ⟨b, off, e1, fun i hi j hj => ?_⟩
    have := h i (by simpa using hi) j hj
    have hj : j = 0 := by omega
    subst hj
    have e2 : (l.map fun ks => ks.getD 0 0).getD i 0 = (l.getD i []).getD 0 0 := by
      simp only [List.getD_eq_getElem?_getD, List.getElem?_map]
      cases l[i]? with
      | some x => rfl
      | none => rfl
    simp only [e2]
    exact this
end
end Go.Proofs.Ytfpnadmpmfcaaaa
