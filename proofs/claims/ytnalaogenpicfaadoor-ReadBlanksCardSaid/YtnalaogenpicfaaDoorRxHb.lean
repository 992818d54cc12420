/- Rx, part Hb: rows that are cut, rows of zeros, and what is done with no slice. -/
import Derived.Test.YtnalaogenpicfaaDoorRxHa
set_option linter.unusedSectionVars false
set_option linter.unusedSimpArgs false
set_option linter.unusedVariables false
namespace Rx
open Go
variable [Glob]

/-! ## a row, as far as it is wanted -/
def zeroLow : Option SV → Bool
  | none => true
  | some (.dt (.cell (.int _ 0))) => true
  | _ => false

def cutRowSV (P : Program) (g : Nat → Option Ob) (new : Nat) (t : TypeId) (i : Nat) (low : Option SV) (high : SV) : T Res :=
  match P.underlying t with
  | some (.slice e) => match szOf P e, g i, high with
    | some z, some (.row t' sz n f), .dt (.cell (.int _ h)) => bif Nat.beq z sz && zeroLow low then .need (0 ≤ h ∧ h ≤ n) (.ret ⟨.nm new, ⟨[(i, none), (new, some (.row t' sz h.toNat f))], [new]⟩⟩) else .fail
    | _, _, _ => .fail
  | _ => .fail

theorem zeroLow_run {P : Program} {C : Ctx} {w : World} {low : Option SV} {vl : Option Value} (h0 : zeroLow low = true) (hl : ∀ s, low = some s → ∃ v, vl = some v ∧ rel C w s v) (hl0 : low = none → vl = none) :
    vl = none ∨ ∃ k, vl = some (.int k 0) := by
  unfold zeroLow at h0
  split at h0
  · exact .inl (hl0 rfl)
  · rename_i k
    obtain ⟨v, h1, h2⟩ := hl _ rfl
    rw [rel_cell] at h2
    subst h2
    exact .inr ⟨_, h1⟩
  · cases h0

theorem sliceAt_low {P : Program} {w : World} {t e : TypeId} (ht : P.underlying t = some (.slice e)) {z : Nat} (hz : szOf P e = some z) {A : Option Addr} {n c : Nat} (k : IntKind) {h : Int} (h0 : 0 ≤ h) (h1 : h ≤ c) {vl : Option Value}
    (hl : vl = none ∨ ∃ k, vl = some (.int k 0)) : (Instr.sliceAt t (.slice A n c) vl (some (.int k h)) none).run P w = .ok (.slice A h.toNat c) w := by
  have b1 := sliceBound_run (P := P) (w := w) k h c .sliceAcap ⟨h0, h1⟩
  have e0 : ∀ a : Addr, a.add 0 = a := fun a => by unfold Addr.add; split <;> simp_all
  rcases hl with rfl | ⟨k', rfl⟩
  · simp only [Instr.sliceAt, Instr.slice, Instr.sliceBounds, underlying, Sem.run_bind, Sem.run_pure, run_program, Result.andThen_ok, ht, Option.isSome_none, b1, if_true, szOf_run hz]
    cases A <;> simp [e0]
  · have b2 := sliceBound_run (P := P) (w := w) k' 0 h.toNat .sliceB ⟨by omega, by omega⟩
    simp only [Instr.sliceAt, Instr.slice, Instr.sliceBounds, underlying, Sem.run_bind, Sem.run_pure, run_program, Result.andThen_ok, ht, Option.isSome_none, Bool.false_eq_true, if_false, b1, b2, if_true, szOf_run hz]
    cases A <;> simp [e0]

theorem cutRow_sound {P : Program} {C : Ctx} {w : World} {g : Nat → Option Ob} (hw : WF C w) (hg : ObsOk C w g) {new : Nat} (hnew : C.ν new = none) (t : TypeId) (i : Nat) (low : Option SV) (high : SV) (u : Value) (vl : Option Value) (vh : Value) {r : Res}
    (hx : rel C w (.nm i) u) (hl : ∀ s, low = some s → ∃ v, vl = some v ∧ rel C w s v) (hl0 : low = none → vl = none) (hh : rel C w high vh)
    (hok : (cutRowSV P g new t i low high).ok) (hval : (cutRowSV P g new t i low high).val = some r) :
    ∃ v' C', (Instr.sliceAt t u vl (some vh) none).run P w = .ok v' w ∧ Came C w r C' w v' := by
  unfold cutRowSV at hok hval
  split at hok
  · rename_i e ht
    simp only [ht] at hval
    split at hok
    · rename_i z t' sz n f k h hz hgi
      simp only [hz, hgi] at hval
      cases hb : (Nat.beq z sz && zeroLow low) with
      | false => rw [hb] at hok; exact hok.elim
      | true =>
        rw [hb] at hok hval
        simp only [cond_true, T.ok, T.val, and_true, Option.some.injEq] at hok hval
        subst hval
        simp only [Bool.and_eq_true] at hb
        have e1 := Nat.eq_of_beq_eq_true hb.1
        subst e1
        rw [rel_cell] at hh
        subst hh
        obtain ⟨A, c, h1, h2⟩ := hg i _ hgi
        have hx : C.ν i = some u := hx.1
        rw [hx] at h1
        injection h1 with h1
        subst h1
        have hnc : n ≤ c := by
          rcases h2 with ⟨_, rfl, rfl⟩ | ⟨_, _, _, h, _⟩
          · exact Nat.le_refl _
          · exact h
        have hrun := sliceAt_low (P := P) (w := w) (A := A) (n := n) ht hz k hok.1 (c := c) (by omega) (zeroLow_run (P := P) hb.2 hl hl0)
        have self : Ag (fun c => ∃ j, some i = some j ∧ C.ρ j = some c) w w := Ag.refl _ _
        rcases h2 with ⟨rfl, rfl, rfl⟩ | ⟨b, hb', rfl, hnc', cur, hcur, hcs, hcell⟩
        · have h00 : h.toNat = 0 := by omega
          rw [h00] at hrun
          have := Came.move (old := some i) (b := none) (ob := .row t' z 0 f) (v := .slice none 0 0) hw hnew (fun c hc => by cases hc) self ⟨none, 0, upd_same _ _ _, .inl ⟨rfl, rfl, rfl⟩⟩
          rw [h00]
          exact ⟨_, _, hrun, this⟩
        · have hfrom : FromOf C w (some i) (some b) w := fun c' hc => by injection hc with hc; subst hc; exact ⟨hw.lt i b hb', .inr ⟨i, rfl, hb'⟩⟩
          refine ⟨_, _, hrun, Came.move hw hnew hfrom self ⟨_, c, upd_same _ _ _, .inr ⟨b, move_new, rfl, by omega, cur, hcur, hcs, fun k' j hk hj => ?_⟩⟩⟩
          obtain ⟨q, h1, h2, h3⟩ := hcell k' j (by omega) hj
          exact ⟨q, h1, h2, Pers.stepC (move_step (i := new) (v := .slice (some ⟨b, 0, none⟩) h.toNat c) hw hnew hfrom self) h3⟩
    · exact hok.elim
  · exact hok.elim

/-! ## zeros behind no slice -/
def zeroDt (P : Program) (e : TypeId) : Option (List Value) :=
  match P.info? e with
  | some i => match i.zero with
    | some z => bif z.cells.toList.all (·.oneCell') then some z.cells.toList else none
    | none => none
  | none => none

def zerosSV (P : Program) (new : Nat) (t tx : TypeId) (s x : SV) : T Res :=
  match P.underlying t, P.underlying tx, s, x with
  | some (.slice e), some (.int _), .dt (.cell (.slice none 0 0)), .dt (.cell (.int .i64 l)) => match rowTy P e, zeroDt P e with
    | some (sz, by'), some zs => .need (0 ≤ l ∧ l.toNat * by' ≤ 140737488355328) (.ret ⟨.nm new, ⟨[(new, some (.row e sz l.toNat fun _ j => .cell (zs.getD j undef)))], [new]⟩⟩)
    | _, _ => .fail
  | _, _, _, _ => .fail

theorem zeroCells_get (z : Array Value) (n k j : Nat) (hk : k < n) (hj : j < z.size) : (Builtin.zeroCells z n)[k * z.size + j]? = z[j]? := by
  unfold Builtin.zeroCells
  have hlt := idx_lt hk hj
  rw [Array.getElem?_map, Array.getElem?_range, if_pos hlt]
  have e : (k * z.size + j) % z.size = j := by
    rw [Nat.mul_comm, Nat.mul_add_mod, Nat.mod_eq_of_lt hj]
  simp only [Option.map_some, e]
  simp [hj]

theorem zeros_sound {P : Program} {C : Ctx} {w : World} (hw : WF C w) {new : Nat} (hnew : C.ν new = none) (t tx ty : TypeId) (s x : SV) (u v : Value) {r : Res}
    (hs : rel C w s u) (hx : rel C w x v) (hok : (zerosSV P new t tx s x).ok) (hval : (zerosSV P new t tx s x).val = some r) :
    ∃ v' w' C', (Builtin.append_ #[t, tx] ty #[u, v]).run P w = .ok v' w' ∧ Came C w r C' w' v' := by
  unfold zerosSV at hok hval
  split at hok
  · rename_i e kx l ht htx
    simp only [ht, htx] at hval
    split at hok
    · rename_i sz by' zs hrt hzd
      simp only [hrt, hzd, T.val, Option.some.injEq] at hval
      subst hval
      rw [rel_cell] at hs hx
      subst hs; subst hx
      obtain ⟨⟨hl0, hby⟩, _⟩ := hok
      obtain ⟨i, z, hi, hz, hsz, hbb, hzs, hsz0, hby0⟩ := rowTy_some hrt
      subst hsz; subst hbb
      have hzz : zs = z.cells.toList ∧ ∀ q ∈ z.cells.toList, q.oneCell' = true := by
        unfold zeroDt at hzd
        rw [hi] at hzd
        simp only [hz] at hzd
        cases hb : z.cells.toList.all (·.oneCell') with
        | false => rw [hb] at hzd; cases hzd
        | true =>
          rw [hb] at hzd
          simp only [cond_true, Option.some.injEq] at hzd
          exact ⟨hzd.symm, fun q hq => List.all_eq_true.1 hb q hq⟩
      obtain ⟨rfl, hone⟩ := hzz
      have hll : (l.toNat : Int) = l := Int.toNat_of_nonneg hl0
      generalize l.toNat = n at hby hll ⊢
      subst hll
      have hn47 : n ≤ 140737488355328 := Nat.le_trans (Nat.le_mul_of_pos_right _ hby0) hby
      have hwrap : IntKind.i64.wrap (n : Int) = n := wrap_in _ _ ⟨by show (-(2:Int)^63) ≤ _; omega, by show _ ≤ ((2:Int)^63 - 1); omega⟩
      have hlb : ¬ ((n : Int) * i.bytes > 2 ^ 48) := by
        have : ((n * i.bytes : Nat) : Int) ≤ ((140737488355328 : Nat) : Int) := Int.ofNat_le.2 hby
        rw [Int.natCast_mul] at this
        omega
      have self : Ag (fun c => ∃ j, (none : Option Nat) = some j ∧ C.ρ j = some c) w w := Ag.refl _ _
      by_cases hn : n = 0
      · subst hn
        have hrun : (Builtin.append_ #[t, tx] ty #[.slice none 0 0, .int .i64 0]).run P w = .ok (.slice none 0 0) w := by
          have hw0 : IntKind.i64.wrap 0 = 0 := by rfl
          simp [Builtin.append_, run_underlying ht, run_underlying htx, Go.sizeOf, typeInfo, hi, asInt, asIntOf, hw0]
        exact ⟨_, _, _, hrun, Came.move (old := none) (b := none) hw hnew (fun c hc => by cases hc) self ⟨none, 0, upd_same _ _ _, .inl ⟨rfl, rfl, rfl⟩⟩⟩
      · have hcap : Builtin.nextslicecap n 0 * i.bytes ≤ 2 ^ 48 := by
          have := growslice_fits (need := n) (old := 0) (bytes := i.bytes) (by omega) hby
          omega
        have hge := grownCap_ge w n 0 e
        have hrun : (Builtin.append_ #[t, tx] ty #[.slice none 0 0, .int .i64 n]).run P w =
            .ok (.slice (some ⟨w.heap.size, 0, none⟩) n (grownCap w n 0 e)) (w.drew.alloc (.cells (Builtin.zeroCells z.cells n ++ Builtin.zeroCells z.cells (grownCap w n 0 e - n)) e)) := by
          have h1 : ¬ ((n : Int) > IntKind.i64.max) := by
            show ¬ ((n : Int) > (2:Int) ^ 63 - 1)
            omega
          have h2 : ¬ (281474976710656 < Builtin.nextslicecap n 0 * i.bytes) := by omega
          have h3 : ¬ (281474976710656 < (n : Int) * i.bytes) := by omega
          have h4 : ¬ ((n : Int) < 0) := by omega
          have h5 : ¬ (n * i.size = 0) := by
            intro h
            rcases Nat.mul_eq_zero.1 h with h | h <;> omega
          have h6 : ¬ (9223372036854775807 < (n : Int)) := by omega
          simp [Builtin.append_, run_underlying ht, run_underlying htx, Go.sizeOf, typeInfo, zeroValue, hi, hz, asInt, asIntOf, hwrap, hn, h2, h3, h4, h5, h6, Question.forced, run_firstCells_none, newRow, grownCap]
          done
        refine ⟨_, _, _, hrun, Came.move (old := none) (b := some w.heap.size) hw hnew (fun c hc => ?_) ⟨rfl, rfl, rfl, by simp, fun k hk _ => heap_alloc_old w.drew _ hk⟩
          ⟨_, grownCap w n 0 e, upd_same _ _ _, .inr ⟨w.heap.size, move_new, rfl, hge, _, heap_alloc_new w.drew _, ?_, fun k j hk hj => ?_⟩⟩⟩
        · injection hc with hc; subst hc
          exact ⟨by simp, .inl (Nat.le_refl _)⟩
        · simp only [Array.size_append, size_zeroCells, hzs]
          rw [← Nat.add_mul]; congr 1; omega
        · have hjz : j < z.cells.size := by omega
          have hg := zeroCells_get z.cells n k j hk hjz
          rw [hzs] at hg
          refine ⟨z.cells[j], ?_, hone _ (by simp), fun w' _ => ?_⟩
          · rw [Array.getElem?_append_left (by rw [size_zeroCells, hzs]; exact idx_lt hk hj), hg]
            simp [hjz]
          · show z.cells[j] = z.cells.toList.getD j undef
            rw [List.getD_eq_getElem?_getD]
            simp [hjz]
    · exact hok.elim
  · exact hok.elim
end Rx
