/- Rx, part E: struct and slice literals; one operation whole. -/
import Derived.Test.YtnalaogenpicfaaDoorRxD
set_option linter.unusedSectionVars false
set_option linter.unusedSimpArgs false
set_option linter.unusedVariables false
namespace Rx
open Go
variable [Glob]

/-! ## filling a literal -/
theorem fill_step (off : Nat) : ∀ (l : List Value) (k : Nat) (cells : Array Value), off + k + l.length ≤ cells.size →
    ((l.zipIdx k).foldl (fun (cs : Array Value) (x : Value × Nat) => cs.setIfInBounds (off + x.2) x.1) cells).toList = cells.toList.take (off + k) ++ l ++ cells.toList.drop (off + k + l.length)
  | [], k, cells, _ => by simp
  | v :: l, k, cells, h => by
    simp only [List.length_cons] at h
    have ih := fill_step off l (k + 1) (cells.setIfInBounds (off + k) v) (by simp; omega)
    simp only [List.zipIdx_cons, List.foldl_cons]
    rw [ih, Array.toList_setIfInBounds]
    have hl : off + k < cells.toList.length := by simp; omega
    apply List.ext_getElem?
    intro j
    simp only [List.getElem?_append, List.length_append, List.length_take, List.length_set, List.length_cons, List.getElem?_take, List.getElem?_drop, List.getElem?_set]
    have e1 : min (off + (k + 1)) cells.toList.length = off + k + 1 := by omega
    have e2 : min (off + k) cells.toList.length = off + k := by omega
    rw [e1, e2]
    by_cases h1 : j < off + k
    · have a1 : j < off + k + 1 + l.length := by omega
      have a2 : j < off + k + 1 := by omega
      have a3 : j < off + (k + 1) := by omega
      have a4 : j < off + k + (l.length + 1) := by omega
      have a5 : ¬ off + k = j := by omega
      simp [h1, a1, a2, a3, a4, a5]
    · by_cases h2 : j = off + k
      · subst h2
        have a1 : off + k < off + k + 1 + l.length := by omega
        have a3 : off + k < off + (k + 1) := by omega
        have a4 : off + k < off + k + (l.length + 1) := by omega
        have hl' : off + k < cells.size := by simpa using hl
        simp [a1, a3, a4, hl']
      · by_cases h3 : j < off + k + 1 + l.length
        · have a2 : ¬ j < off + k + 1 := by omega
          have a4 : j < off + k + (l.length + 1) := by omega
          have a5 : j - (off + k) = (j - (off + k + 1)) + 1 := by omega
          simp [h1, h3, a2, a4, a5]
        · have a4 : ¬ j < off + k + (l.length + 1) := by omega
          have a6 : off + (k + 1) + l.length + (j - (off + k + 1 + l.length)) = j := by omega
          have a7 : off + k + (l.length + 1) + (j - (off + k + (l.length + 1))) = j := by omega
          have a8 : ¬ off + k = j := by omega
          simp [h3, a4, a6, a7, a8]

def fillSV (place : Nat → Option (Nat × Nat)) (cells : List SV) : List (Nat × SV) → Option (List SV)
  | [] => some cells
  | (i, v) :: rest =>
    match place i, cellsSV v with
    | some (off, size), some us => bif Nat.beq us.length size && (off + size).ble cells.length then fillSV place (splice cells off us) rest else none
    | _, _ => none

theorem fillSV_sound {C : Ctx} {w : World} (place : Nat → Option (Nat × Nat)) : ∀ (parts : List (Nat × SV)) (vparts : List (Nat × Value)) (cells : List SV) (vs : List Value) (out : List SV),
    relL C w cells vs → (vparts.map (·.1) = parts.map (·.1)) → relL C w (parts.map (·.2)) (vparts.map (·.2)) → fillSV place cells parts = some out →
    ∃ os : List Value, Instr.fill place vs.toArray vparts = some os.toArray ∧ relL C w out os
  | [], vparts, cells, vs, out, h, h1, _, h3 => by
    have : vparts = [] := by cases vparts with | nil => rfl | cons _ _ => simp at h1
    subst this
    simp only [fillSV, Option.some.injEq] at h3
    subst h3
    exact ⟨vs, rfl, h⟩
  | (i, s) :: parts, [], cells, vs, out, _, h1, _, _ => by simp at h1
  | (i, s) :: parts, (i', v) :: vparts, cells, vs, out, h, h1, h2, h3 => by
    simp only [List.map_cons, List.cons.injEq] at h1
    obtain ⟨rfl, h1⟩ := h1
    obtain ⟨v', r, e, hv, h2⟩ := h2
    simp only [List.map_cons, List.cons.injEq] at e
    obtain ⟨rfl, rfl⟩ := e
    simp only [fillSV] at h3
    cases hp : place i' with
    | none => simp [hp] at h3
    | some os =>
      obtain ⟨off, size⟩ := os
      cases hc : cellsSV s with
      | none => simp [hp, hc] at h3
      | some us =>
        simp only [hp, hc] at h3
        cases hb : (Nat.beq us.length size && (off + size).ble cells.length) with
        | false => rw [hb] at h3; simp at h3
        | true =>
          rw [hb, cond_true] at h3
          simp only [Bool.and_eq_true] at hb
          have e1 := Nat.eq_of_beq_eq_true hb.1
          have e2 := Nat.le_of_ble_eq_true hb.2
          obtain ⟨xs, hxs, hr⟩ := cellsSV_sound hc hv
          have l1 := relL_length hr
          have l2 := relL_length h
          obtain ⟨os, ho, hro⟩ := fillSV_sound place parts vparts (splice cells off us) (splice vs off xs) out (relL_splice off h hr) h1 h2 h3
          refine ⟨os, ?_, hro⟩
          simp only [Instr.fill, hp, hxs]
          rw [if_neg (by simp; omega)]
          have hfs := fill_step off xs 0 vs.toArray (by simp; omega)
          rw [← ho]
          congr 1
          apply Array.ext'
          simp only [Nat.add_zero] at hfs
          have hz : xs.toArray.zipIdx.foldl (fun (cs : Array Value) (x : Value × Nat) => cs.setIfInBounds (off + x.2) x.1) vs.toArray = (xs.zipIdx 0).foldl (fun (cs : Array Value) (x : Value × Nat) => cs.setIfInBounds (off + x.2) x.1) vs.toArray := by
            rw [← Array.foldl_toList]; simp
          simp only [splice]
          rw [← hfs, ← hz]

def placesOf (P : Program) : List Field → Option (List (Nat × Nat))
  | [] => some []
  | f :: fs => match szOf P f.type, placesOf P fs with
    | some n, some l => some ((f.offset, n) :: l)
    | _, _ => none

theorem placesOf_run {P : Program} (w : World) : ∀ (fs : List Field) (l : List (Nat × Nat)), placesOf P fs = some l →
    (fs.mapM (fun f => do pure (f.offset, ← Go.sizeOf f.type)) : Sem (List (Nat × Nat))).run P w = .ok l w
  | [], l, h => by simp only [placesOf, Option.some.injEq] at h; subst h; simp
  | f :: fs, l, h => by
    simp only [placesOf] at h
    cases hs : szOf P f.type with
    | none => simp [hs] at h
    | some n =>
      cases hl : placesOf P fs with
      | none => simp [hs, hl] at h
      | some l' =>
        simp only [hs, hl, Option.some.injEq] at h
        subst h
        have ih := placesOf_run w fs l' hl
        simp only [List.mapM_cons, Sem.run_bind, szOf_run hs, Result.andThen_ok, Sem.run_pure, ih]

theorem zeroOf_run {P : Program} {t : TypeId} {zs : List SV} (h : zeroOf P t = some zs) (C : Ctx) (w : World) :
    ∃ z : Value, (zeroValue t).run P w = .ok z w ∧ relL C w zs z.cells.toList := by
  unfold zeroOf at h
  cases hi : P.info? t with
  | none => simp [hi] at h
  | some i =>
    cases hz : i.zero with
    | none => simp [hi, hz] at h
    | some z =>
      simp only [hi, Option.bind_some, hz, Option.map_some, Option.some.injEq] at h
      subst h
      exact ⟨z, by simp [zeroValue, typeInfo, hi, hz], relL_ofCells C w _⟩

def buildSV (P : Program) (t : TypeId) (parts : List (Nat × SV)) : T SV :=
  match P.underlying t, zeroOf P t with
  | some (.struct fs), some zs =>
    match placesOf P fs.toList with
    | some l => match fillSV (fun (i : Nat) => l[i]?) zs parts with
      | some out => .ret (.agg out)
      | none => .fail
    | none => .fail
  | some (.array _ e), some zs =>
    match szOf P e with
    | some sz => match fillSV (fun i => some (i * sz, sz)) zs parts with
      | some out => .ret (.agg out)
      | none => .fail
    | none => .fail
  | _, _ => .fail

theorem buildSV_sound {P : Program} {C : Ctx} {w : World} (t : TypeId) (parts : List (Nat × SV)) (vparts : List (Nat × Value)) (s : SV)
    (h1 : vparts.map (·.1) = parts.map (·.1)) (h2 : relL C w (parts.map (·.2)) (vparts.map (·.2))) (hok : (buildSV P t parts).ok) (hv : (buildSV P t parts).val = some s) :
    ∃ y, (Instr.build t vparts.toArray).run P w = .ok y w ∧ rel C w s y := by
  unfold buildSV at hok hv
  split at hok
  · rename_i fs zs hu hz
    simp only [hu, hz] at hv
    cases hp : placesOf P fs.toList with
    | none => simp [hp, T.ok] at hok
    | some l =>
      simp only [hp] at hok hv
      cases hf : fillSV (fun (i : Nat) => l[i]?) zs parts with
      | none => simp [hf, T.ok] at hok
      | some out =>
        simp only [hf, T.val, Option.some.injEq] at hv
        subst hv
        obtain ⟨z, hzr, hzl⟩ := zeroOf_run hz C w
        obtain ⟨os, ho, hro⟩ := fillSV_sound (fun (i : Nat) => l[i]?) parts vparts zs z.cells.toList out hzl h1 h2 hf
        have hrun := placesOf_run (P := P) w fs.toList l hp
        refine ⟨.agg os.toArray, ?_, os, rfl, hro⟩
        simp only [Instr.build, Sem.run_bind, hzr, Result.andThen_ok, underlying, run_program, hu, Sem.run_pure, Array.mapM_eq_mapM_toList, Sem.run_map, hrun]
        have e : (fun (i : Nat) => l.toArray[i]?) = fun (i : Nat) => l[i]? := by funext i; simp
        simp only [e]
        have e2 : z.cells.toList.toArray = z.cells := by simp
        rw [e2] at ho
        simp only [ho, Sem.run_pure]
  · rename_i k e zs hu hz
    simp only [hu, hz] at hv
    cases hs : szOf P e with
    | none => simp [hs, T.ok] at hok
    | some sz =>
      simp only [hs] at hok hv
      cases hf : fillSV (fun i => some (i * sz, sz)) zs parts with
      | none => simp [hf, T.ok] at hok
      | some out =>
        simp only [hf, T.val, Option.some.injEq] at hv
        subst hv
        obtain ⟨z, hzr, hzl⟩ := zeroOf_run hz C w
        obtain ⟨os, ho, hro⟩ := fillSV_sound (fun i => some (i * sz, sz)) parts vparts zs z.cells.toList out hzl h1 h2 hf
        refine ⟨.agg os.toArray, ?_, os, rfl, hro⟩
        have e2 : z.cells.toList.toArray = z.cells := by simp
        rw [e2] at ho
        simp only [Instr.build, Sem.run_bind, hzr, Result.andThen_ok, underlying, run_program, hu, Sem.run_pure, szOf_run hs, ho]
  · simp [T.ok] at hok
end Rx
