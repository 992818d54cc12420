/- Parentheses within parentheses: what is read. -/
import Derived.Test.YtnalaogenpicfaaDoorRdF
set_option linter.unusedSimpArgs false
set_option linter.unusedVariables false
open Rx Go
namespace Rd

theorem nest_list : ∀ k : Nat, (nestS k).data.toList = List.replicate k 40 ++ List.replicate k 41
  | 0 => rfl
  | k + 1 => by
    have h := nest_list k
    have e : (nestS (k + 1)).data.toList = 40 :: ((nestS k).data.toList ++ [41]) := by
      simp [nestS, lpS, rpS, ByteArray.data_append]
    rw [e, h, List.append_assoc, ← List.replicate_succ', List.replicate_succ (n := k) (a := (40 : UInt8))]
    rfl

theorem nest_byte {k : Nat} {i : Int} (h0 : 0 ≤ i) (h : i < 2 * k) : byteAt (nestS k) i = if i < k then 40 else 41 := by
  unfold byteAt
  rw [nest_list, List.getD_eq_getElem?_getD, List.getElem?_append]
  by_cases h1 : i < k
  · rw [if_pos h1, if_pos (by simp; omega), List.getElem?_replicate, if_pos (by omega)]
    rfl
  · rw [if_neg h1, if_neg (by simp; omega), List.getElem?_replicate, if_pos (by simp; omega)]
    rfl

theorem nest_blk {k : Nat} {a : Int} (h0 : 0 ≤ a) : blk (nestS k) a = a := by
  have hz := nest_size k
  rw [blk]
  by_cases h : a < (nestS k).size
  · have hb := nest_byte (k := k) h0 (by omega)
    have h2 : byteAt (nestS k) a = 40 ∨ byteAt (nestS k) a = 41 := by rw [hb]; split <;> simp
    rw [if_pos h, if_neg (by omega), if_neg (by omega)]
  · rw [if_neg h]

/-- at level lv, with the byte lv - 1 -/
theorem nest_dat (k : Nat) : ∀ (m : Nat) (lv : Int) (f : Nat), 1 ≤ lv → lv ≤ 41 → lv - 1 + m = k → 1 ≤ m → 2 * m + 2 ≤ f →
    ∃ r, datS (nestS k) f lv (lv - 1) (lv - 1) = some r ∧ ((k : Int) ≤ 40 → r.e = 0 ∧ r.a = 2 * k - (lv - 1)) ∧ (40 < (k : Int) → r.e = 8 ∧ r.a = 40)
  | 0, _, _, _, _, _, h, _ => by omega
  | m + 1, lv, f, h1, h2, hk, _, hf => by
    have hz := nest_size k
    obtain ⟨f, rfl⟩ : ∃ g, f = g + 1 := ⟨f - 1, by omega⟩
    have b0 := nest_blk (k := k) (a := lv - 1) (by omega)
    have y0 := nest_byte (k := k) (i := lv - 1) (by omega) (by omega)
    rw [if_pos (by omega)] at y0
    rw [datS, b0, if_neg (by omega), if_neg (by omega)]
    by_cases hl : lv > 40
    · rw [if_pos hl]
      exact ⟨_, rfl, fun h => by omega, fun _ => ⟨rfl, by simp only; omega⟩⟩
    · rw [if_neg hl, if_neg (by omega), if_neg (by omega), if_pos y0]
      obtain ⟨f, rfl⟩ : ∃ g, f = g + 1 := ⟨f - 1, by omega⟩
      have e1 : lv - 1 + 1 = lv := by omega
      rw [e1]
      have b1 := nest_blk (k := k) (a := lv) (by omega)
      have y1 := nest_byte (k := k) (i := lv) (by omega) (by omega)
      rw [lisS, b1]
      by_cases hm : m = 0
      · subst hm
        rw [if_neg (by omega)] at y1
        rw [if_pos ⟨by omega, y1⟩]
        exact ⟨_, rfl, fun _ => ⟨rfl, by simp only; omega⟩, fun h => by omega⟩
      · rw [if_pos (by omega)] at y1
        rw [if_neg (by omega)]
        obtain ⟨r, hr, hr1, hr2⟩ := nest_dat k m (lv + 1) f (by omega) (by omega) (by omega) (by omega) (by omega)
        have e2 : lv + 1 - 1 = lv := by omega
        rw [e2] at hr hr1
        rw [hr]
        simp only
        by_cases hk4 : (k : Int) ≤ 40
        · obtain ⟨g1, g2⟩ := hr1 hk4
          rw [if_neg (by simpa using g1)]
          obtain ⟨f, rfl⟩ : ∃ g, f = g + 1 := ⟨f - 1, by omega⟩
          have b2 := nest_blk (k := k) (a := r.a) (by omega)
          have y2 := nest_byte (k := k) (i := r.a) (by omega) (by omega)
          rw [if_neg (by omega)] at y2
          rw [lisS, b2, if_pos ⟨by omega, y2⟩]
          exact ⟨_, rfl, fun _ => ⟨rfl, by simp only; omega⟩, fun h => by omega⟩
        · obtain ⟨g1, g2⟩ := hr2 (by omega)
          rw [if_pos (by rw [g1]; decide)]
          exact ⟨_, rfl, fun h => by omega, fun _ => ⟨g1, g2⟩⟩

theorem nest_read (k : Nat) (h1 : 1 ≤ k) (h2 : k ≤ 60) : ∃ r, readS 200 (nestS k) = some r ∧ ((k : Int) ≤ 40 → r.e = 0 ∧ r.l.length = 1) ∧ (40 < (k : Int) → r.e = 8 ∧ r.i = 40) := by
  have hz := nest_size k
  obtain ⟨r, hr, hr1, hr2⟩ := nest_dat k k 1 199 (by omega) (by omega) (by omega) h1 (by omega)
  have e0 : (1 : Int) - 1 = 0 := rfl
  rw [e0] at hr hr1
  unfold readS
  rw [nest_blk (Int.le_refl 0), redS, if_pos (by omega), hr]
  simp only
  by_cases hk4 : (k : Int) ≤ 40
  · obtain ⟨g1, g2⟩ := hr1 hk4
    rw [if_neg (by simpa using g1), redS, nest_blk (by omega), if_neg (by omega)]
    exact ⟨_, rfl, fun _ => ⟨rfl, rfl⟩, fun h => by omega⟩
  · obtain ⟨g1, g2⟩ := hr2 (by omega)
    rw [if_pos (by rw [g1]; decide)]
    exact ⟨_, rfl, fun h => by omega, fun _ => ⟨g1, g2⟩⟩

theorem deep_law (n : Int) : Ctr prog f_ReadDeep [vI .i64 n] [] (.need (isInt n) (.ret (vB true, []))) := by
  refine ctr_need fun hn => ?_
  have hk := pickedS_range (n := n) (m := 60) (by omega)
  have e : ((rdK n).toNat : Int) = rdK n := by unfold rdK; omega
  obtain ⟨r, hr, h1, h2⟩ := nest_read (rdK n).toNat (by unfold rdK; omega) (by unfold rdK; omega)
  rw [e] at h1 h2
  intro C w vs post hw ho hn' hv hp
  refine deep_ctr 200 n C w vs post hw ho hn' hv ⟨⟨hn, by rw [hr]; rfl, ?_, ?_⟩, hp⟩
  · unfold rdR; rw [readR_eq hr]; exact h1
  · unfold rdR; rw [readR_eq hr]; exact h2
end Rd
