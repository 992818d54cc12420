/- Sources out of raw things are texts of trees. Printed by genP.py. -/
import Derived.Test.YtnalaogenpicfaaDoorRdM
set_option linter.unusedSimpArgs false
set_option linter.unusedVariables false
open Rx Go
namespace Rd

theorem tl_app (a b : ByteArray) : (a ++ b).data.toList = a.data.toList ++ b.data.toList := by
  rw [ByteArray.data_append, Array.toList_append]
def isWord (x : ByteArray) : Bool := words.contains x.data.toList
def okLs (L : List ByteArray) : Prop := ∀ x ∈ L, isWord x = true
def Tree (e : EX) (n : Nat) : Prop := ∃ x : Sx, sxT x = e.t.data.toList ∧ okX x = true ∧ sxH x ≤ n
theorem okLs_app {L : List ByteArray} {x : ByteArray} (h : okLs L) (hx : isWord x = true) : okLs (L ++ [x]) := fun y hy => by
  rcases List.mem_append.1 hy with hy | hy
  · exact h y hy
  · rw [List.mem_singleton] at hy; subst hy; exact hx
theorem getD_wordB {ws : List ByteArray} {i : Nat} (h : ws.all isWord = true) (hi : i < ws.length) : isWord (ws.getD i noS) = true := by
  rw [List.getD_eq_getElem?_getD, List.getElem?_eq_getElem hi]
  exact List.all_eq_true.1 h _ (List.getElem_mem hi)
theorem getD_word {ws : List ByteArray} {i : Nat} (h : ws.all isWord = true) (hi : i < ws.length) : okW (ws.getD i noS).data.toList = true := word_ok (getD_wordB h hi)
theorem getD_word3 {x y z : ByteArray} {i : Nat} (hz : okW z.data.toList = true) (hx : okW x.data.toList = true) (hy : okW y.data.toList = true) (hi : i < 3) : okW ([x, y, z].getD i noS).data.toList = true := by
  match i, hi with
  | 0, _ => exact hx
  | 1, _ => exact hy
  | 2, _ => exact hz
theorem itoa_wordB {n : Int} (h1 : -2 ≤ n) (h2 : n ≤ 9) : isWord (itoaB n) = true := by
  have h : n = -2 ∨ n = -1 ∨ n = 0 ∨ n = 1 ∨ n = 2 ∨ n = 3 ∨ n = 4 ∨ n = 5 ∨ n = 6 ∨ n = 7 ∨ n = 8 ∨ n = 9 := by omega
  rcases h with rfl | rfl | rfl | rfl | rfl | rfl | rfl | rfl | rfl | rfl | rfl | rfl <;> decide +kernel
theorem itoa_word {n : Int} (h1 : -2 ≤ n) (h2 : n ≤ 9) : okW (itoaB n).data.toList = true := word_ok (itoa_wordB h1 h2)
theorem local_word {L : List ByteArray} (h : okLs L) (n : Int) : okW (localS L n).data.toList = true := by
  unfold localS
  split
  · have := pickedS_range (n := n) (m := 9) (by decide)
    exact itoa_word (by omega) (by omega)
  · rename_i hn
    have hr := pickedS_range (n := n) (m := L.length) (by omega)
    have hi : (pickedS n L.length).toNat < L.length := by omega
    rw [List.getD_eq_getElem?_getD, List.getElem?_eq_getElem hi]
    exact word_ok (h _ (List.getElem_mem hi))
theorem tree_zero {l : Rw} (L : List ByteArray) (p : Nat) (hL : okLs L) : Tree (exprS l 0 L p) 2 := by
  have q0 := pickedS_range (n := rw' l p 1) (m := 12) (by decide)
  have q1 := pickedS_range (n := rw' l p 0) (m := 6) (by decide)
  have e : exprS l 0 L p = ⟨([itoaB (pickedS (rw' l p 1) 12 - 2), localS L (rw' l p 1), ByteArray.mk #[120], ByteArray.mk #[121], ByteArray.mk #[35, 116], ByteArray.mk #[39, 40, 41]].getD (pickedS (rw' l p 0) 6).toNat noS), p + 1, false⟩ := by simp [exprS]
  rw [e]
  obtain ⟨k, hk⟩ : ∃ k : Nat, (pickedS (rw' l p 0) 6).toNat = k := ⟨_, rfl⟩
  have hk6 : k < 6 := by omega
  rw [hk]
  have word : ∀ w : ByteArray, okW w.data.toList = true → Tree ⟨w, p + 1, false⟩ 2 := fun w h => ⟨.wd w.data.toList, by simp only [sxT], by simp only [okX, h], by simp only [sxH]; omega⟩
  match k, hk6 with
  | 0, _ => exact word _ (itoa_word (by omega) (by omega))
  | 1, _ => exact word _ (local_word hL _)
  | 2, _ => exact word ⟨#[120]⟩ (word_ok (by decide +kernel))
  | 3, _ => exact word ⟨#[121]⟩ (word_ok (by decide +kernel))
  | 4, _ => exact word ⟨#[35, 116]⟩ (word_ok (by decide +kernel))
  | 5, _ => exact ⟨.qu [], by simp [sxT, sxTL], by simp [okX, okXL], by simp [sxH, sxHL]⟩
theorem tree_0 {l : Rw} {d : Nat} (ih : ∀ L p, okLs L → Tree (exprS l d L p) (5 * d + 2)) (L : List ByteArray) (p : Nat) (hL : okLs L) (hk : pickedS (rw' l p 0) 20 = 0) : Tree (exprS l (d + 1) L p) (5 * (d + 1) + 2) := by
  have e : exprS l (d + 1) L p = ⟨(ByteArray.mk #[40]) ++ ([(ByteArray.mk #[43]), (ByteArray.mk #[45]), (ByteArray.mk #[42]), (ByteArray.mk #[113, 117, 111, 116, 105, 101, 110, 116]), (ByteArray.mk #[61]), (ByteArray.mk #[60]), (ByteArray.mk #[114, 101, 109, 97, 105, 110, 100, 101, 114])].getD (pickedS (rw' l p 1) 7).toNat noS) ++ (ByteArray.mk #[32]) ++ (exprS l d L (p + 1)).t ++ (ByteArray.mk #[32]) ++ (exprS l d L (exprS l d L (p + 1)).p).t ++ (ByteArray.mk #[41]), (exprS l d L (exprS l d L (p + 1)).p).p, (exprS l d L (p + 1)).m || (exprS l d L (exprS l d L (p + 1)).p).m⟩ := by
    simp [exprS, hk]
  rw [e]
  obtain ⟨x1, t1, o1, h1⟩ := ih L (p + 1) hL
  obtain ⟨x2, t2, o2, h2⟩ := ih L (exprS l d L (p + 1)).p hL
  have w1 : okW (([(ByteArray.mk #[43]), (ByteArray.mk #[45]), (ByteArray.mk #[42]), (ByteArray.mk #[113, 117, 111, 116, 105, 101, 110, 116]), (ByteArray.mk #[61]), (ByteArray.mk #[60]), (ByteArray.mk #[114, 101, 109, 97, 105, 110, 100, 101, 114])].getD (pickedS (rw' l p 1) 7).toNat noS)).data.toList = true := getD_word (by decide +kernel) (by have := pickedS_range (n := rw' l p 1) (m := 7) (by decide); simp; omega)
  refine ⟨.li [.wd (([(ByteArray.mk #[43]), (ByteArray.mk #[45]), (ByteArray.mk #[42]), (ByteArray.mk #[113, 117, 111, 116, 105, 101, 110, 116]), (ByteArray.mk #[61]), (ByteArray.mk #[60]), (ByteArray.mk #[114, 101, 109, 97, 105, 110, 100, 101, 114])].getD (pickedS (rw' l p 1) 7).toNat noS)).data.toList, x1, x2], ?_, ?_, ?_⟩
  · simp [sxT, sxTL, sxTS, t1, t2]
  · simp only [okX, okXL, Bool.and_true, Bool.and_eq_true]
    repeat' first
      | assumption
      | trivial
      | exact word_ok (by decide +kernel)
      | refine And.intro ?_ ?_
  · simp only [sxH, sxHL]
    omega
theorem tree_1 {l : Rw} {d : Nat} (ih : ∀ L p, okLs L → Tree (exprS l d L p) (5 * d + 2)) (L : List ByteArray) (p : Nat) (hL : okLs L) (hk : pickedS (rw' l p 0) 20 = 1) : Tree (exprS l (d + 1) L p) (5 * (d + 1) + 2) := by
  have e : exprS l (d + 1) L p = ⟨(ByteArray.mk #[40]) ++ ([(ByteArray.mk #[43]), (ByteArray.mk #[45]), (ByteArray.mk #[42]), (ByteArray.mk #[113, 117, 111, 116, 105, 101, 110, 116]), (ByteArray.mk #[61]), (ByteArray.mk #[60]), (ByteArray.mk #[114, 101, 109, 97, 105, 110, 100, 101, 114])].getD (pickedS (rw' l p 1) 7).toNat noS) ++ (ByteArray.mk #[32]) ++ (exprS l d L (p + 1)).t ++ (ByteArray.mk #[32]) ++ (exprS l d L (exprS l d L (p + 1)).p).t ++ (ByteArray.mk #[41]), (exprS l d L (exprS l d L (p + 1)).p).p, (exprS l d L (p + 1)).m || (exprS l d L (exprS l d L (p + 1)).p).m⟩ := by
    simp [exprS, hk]
  rw [e]
  obtain ⟨x1, t1, o1, h1⟩ := ih L (p + 1) hL
  obtain ⟨x2, t2, o2, h2⟩ := ih L (exprS l d L (p + 1)).p hL
  have w1 : okW (([(ByteArray.mk #[43]), (ByteArray.mk #[45]), (ByteArray.mk #[42]), (ByteArray.mk #[113, 117, 111, 116, 105, 101, 110, 116]), (ByteArray.mk #[61]), (ByteArray.mk #[60]), (ByteArray.mk #[114, 101, 109, 97, 105, 110, 100, 101, 114])].getD (pickedS (rw' l p 1) 7).toNat noS)).data.toList = true := getD_word (by decide +kernel) (by have := pickedS_range (n := rw' l p 1) (m := 7) (by decide); simp; omega)
  refine ⟨.li [.wd (([(ByteArray.mk #[43]), (ByteArray.mk #[45]), (ByteArray.mk #[42]), (ByteArray.mk #[113, 117, 111, 116, 105, 101, 110, 116]), (ByteArray.mk #[61]), (ByteArray.mk #[60]), (ByteArray.mk #[114, 101, 109, 97, 105, 110, 100, 101, 114])].getD (pickedS (rw' l p 1) 7).toNat noS)).data.toList, x1, x2], ?_, ?_, ?_⟩
  · simp [sxT, sxTL, sxTS, t1, t2]
  · simp only [okX, okXL, Bool.and_true, Bool.and_eq_true]
    repeat' first
      | assumption
      | trivial
      | exact word_ok (by decide +kernel)
      | refine And.intro ?_ ?_
  · simp only [sxH, sxHL]
    omega
theorem tree_2 {l : Rw} {d : Nat} (ih : ∀ L p, okLs L → Tree (exprS l d L p) (5 * d + 2)) (L : List ByteArray) (p : Nat) (hL : okLs L) (hk : pickedS (rw' l p 0) 20 = 2) : Tree (exprS l (d + 1) L p) (5 * (d + 1) + 2) := by
  have e : exprS l (d + 1) L p = ⟨(ByteArray.mk #[40, 105, 102, 32]) ++ (exprS l d L (p + 1)).t ++ (ByteArray.mk #[32]) ++ (exprS l d L (exprS l d L (p + 1)).p).t ++ (ByteArray.mk #[32]) ++ (exprS l d L (exprS l d L (exprS l d L (p + 1)).p).p).t ++ (ByteArray.mk #[41]), (exprS l d L (exprS l d L (exprS l d L (p + 1)).p).p).p, (exprS l d L (p + 1)).m || (exprS l d L (exprS l d L (p + 1)).p).m || (exprS l d L (exprS l d L (exprS l d L (p + 1)).p).p).m⟩ := by
    simp [exprS, hk]
  rw [e]
  obtain ⟨x1, t1, o1, h1⟩ := ih L (p + 1) hL
  obtain ⟨x2, t2, o2, h2⟩ := ih L (exprS l d L (p + 1)).p hL
  obtain ⟨x3, t3, o3, h3⟩ := ih L (exprS l d L (exprS l d L (p + 1)).p).p hL
  refine ⟨.li [.wd [105, 102], x1, x2, x3], ?_, ?_, ?_⟩
  · simp [sxT, sxTL, sxTS, t1, t2, t3]
  · simp only [okX, okXL, Bool.and_true, Bool.and_eq_true]
    repeat' first
      | assumption
      | trivial
      | exact word_ok (by decide +kernel)
      | refine And.intro ?_ ?_
  · simp only [sxH, sxHL]
    omega
theorem tree_3 {l : Rw} {d : Nat} (ih : ∀ L p, okLs L → Tree (exprS l d L p) (5 * d + 2)) (L : List ByteArray) (p : Nat) (hL : okLs L) (hk : pickedS (rw' l p 0) 20 = 3) : Tree (exprS l (d + 1) L p) (5 * (d + 1) + 2) := by
  have e : exprS l (d + 1) L p = ⟨(ByteArray.mk #[40, 99, 111, 110, 115, 32]) ++ (exprS l d L (p + 1)).t ++ (ByteArray.mk #[32]) ++ (exprS l d L (exprS l d L (p + 1)).p).t ++ (ByteArray.mk #[41]), (exprS l d L (exprS l d L (p + 1)).p).p, (exprS l d L (p + 1)).m || (exprS l d L (exprS l d L (p + 1)).p).m⟩ := by
    simp [exprS, hk]
  rw [e]
  obtain ⟨x1, t1, o1, h1⟩ := ih L (p + 1) hL
  obtain ⟨x2, t2, o2, h2⟩ := ih L (exprS l d L (p + 1)).p hL
  refine ⟨.li [.wd [99, 111, 110, 115], x1, x2], ?_, ?_, ?_⟩
  · simp [sxT, sxTL, sxTS, t1, t2]
  · simp only [okX, okXL, Bool.and_true, Bool.and_eq_true]
    repeat' first
      | assumption
      | trivial
      | exact word_ok (by decide +kernel)
      | refine And.intro ?_ ?_
  · simp only [sxH, sxHL]
    omega
theorem tree_4 {l : Rw} {d : Nat} (ih : ∀ L p, okLs L → Tree (exprS l d L p) (5 * d + 2)) (L : List ByteArray) (p : Nat) (hL : okLs L) (hk : pickedS (rw' l p 0) 20 = 4) : Tree (exprS l (d + 1) L p) (5 * (d + 1) + 2) := by
  have e : exprS l (d + 1) L p = ⟨(ByteArray.mk #[40, 99, 97, 114, 32, 40, 99, 111, 110, 115, 32]) ++ (exprS l d L (p + 1)).t ++ (ByteArray.mk #[32, 49, 41, 41]), (exprS l d L (p + 1)).p, (exprS l d L (p + 1)).m⟩ := by
    simp [exprS, hk]
  rw [e]
  obtain ⟨x1, t1, o1, h1⟩ := ih L (p + 1) hL
  refine ⟨.li [.wd [99, 97, 114], .li [.wd [99, 111, 110, 115], x1, .wd [49]]], ?_, ?_, ?_⟩
  · simp [sxT, sxTL, sxTS, t1]
  · simp only [okX, okXL, Bool.and_true, Bool.and_eq_true]
    repeat' first
      | assumption
      | trivial
      | exact word_ok (by decide +kernel)
      | refine And.intro ?_ ?_
  · simp only [sxH, sxHL]
    omega
theorem tree_5 {l : Rw} {d : Nat} (ih : ∀ L p, okLs L → Tree (exprS l d L p) (5 * d + 2)) (L : List ByteArray) (p : Nat) (hL : okLs L) (hk : pickedS (rw' l p 0) 20 = 5) : Tree (exprS l (d + 1) L p) (5 * (d + 1) + 2) := by
  have e : exprS l (d + 1) L p = ⟨(ByteArray.mk #[40]) ++ ([(ByteArray.mk #[110, 117, 108, 108, 63]), (ByteArray.mk #[112, 97, 105, 114, 63]), (ByteArray.mk #[110, 111, 116]), (ByteArray.mk #[112, 63]), (ByteArray.mk #[99, 100, 114])].getD (pickedS (rw' l p 1) 5).toNat noS) ++ (ByteArray.mk #[32]) ++ (exprS l d L (p + 1)).t ++ (ByteArray.mk #[41]), (exprS l d L (p + 1)).p, (exprS l d L (p + 1)).m⟩ := by
    simp [exprS, hk]
  rw [e]
  obtain ⟨x1, t1, o1, h1⟩ := ih L (p + 1) hL
  have w1 : okW (([(ByteArray.mk #[110, 117, 108, 108, 63]), (ByteArray.mk #[112, 97, 105, 114, 63]), (ByteArray.mk #[110, 111, 116]), (ByteArray.mk #[112, 63]), (ByteArray.mk #[99, 100, 114])].getD (pickedS (rw' l p 1) 5).toNat noS)).data.toList = true := getD_word (by decide +kernel) (by have := pickedS_range (n := rw' l p 1) (m := 5) (by decide); simp; omega)
  refine ⟨.li [.wd (([(ByteArray.mk #[110, 117, 108, 108, 63]), (ByteArray.mk #[112, 97, 105, 114, 63]), (ByteArray.mk #[110, 111, 116]), (ByteArray.mk #[112, 63]), (ByteArray.mk #[99, 100, 114])].getD (pickedS (rw' l p 1) 5).toNat noS)).data.toList, x1], ?_, ?_, ?_⟩
  · simp [sxT, sxTL, sxTS, t1]
  · simp only [okX, okXL, Bool.and_true, Bool.and_eq_true]
    repeat' first
      | assumption
      | trivial
      | exact word_ok (by decide +kernel)
      | refine And.intro ?_ ?_
  · simp only [sxH, sxHL]
    omega
theorem tree_6 {l : Rw} {d : Nat} (ih : ∀ L p, okLs L → Tree (exprS l d L p) (5 * d + 2)) (L : List ByteArray) (p : Nat) (hL : okLs L) (hk : pickedS (rw' l p 0) 20 = 6) : Tree (exprS l (d + 1) L p) (5 * (d + 1) + 2) := by
  have e : exprS l (d + 1) L p = ⟨(ByteArray.mk #[40, 112, 32]) ++ (exprS l d L (p + 1)).t ++ (ByteArray.mk #[32]) ++ (exprS l d L (exprS l d L (p + 1)).p).t ++ (ByteArray.mk #[41]), (exprS l d L (exprS l d L (p + 1)).p).p, (exprS l d L (p + 1)).m || (exprS l d L (exprS l d L (p + 1)).p).m⟩ := by
    simp [exprS, hk]
  rw [e]
  obtain ⟨x1, t1, o1, h1⟩ := ih L (p + 1) hL
  obtain ⟨x2, t2, o2, h2⟩ := ih L (exprS l d L (p + 1)).p hL
  refine ⟨.li [.wd [112], x1, x2], ?_, ?_, ?_⟩
  · simp [sxT, sxTL, sxTS, t1, t2]
  · simp only [okX, okXL, Bool.and_true, Bool.and_eq_true]
    repeat' first
      | assumption
      | trivial
      | exact word_ok (by decide +kernel)
      | refine And.intro ?_ ?_
  · simp only [sxH, sxHL]
    omega
theorem tree_7 {l : Rw} {d : Nat} (ih : ∀ L p, okLs L → Tree (exprS l d L p) (5 * d + 2)) (L : List ByteArray) (p : Nat) (hL : okLs L) (hk : pickedS (rw' l p 0) 20 = 7) : Tree (exprS l (d + 1) L p) (5 * (d + 1) + 2) := by
  have e : exprS l (d + 1) L p = ⟨(ByteArray.mk #[40, 112, 32]) ++ (exprS l d L (p + 1)).t ++ (ByteArray.mk #[32]) ++ (exprS l d L (exprS l d L (p + 1)).p).t ++ (ByteArray.mk #[41]), (exprS l d L (exprS l d L (p + 1)).p).p, (exprS l d L (p + 1)).m || (exprS l d L (exprS l d L (p + 1)).p).m⟩ := by
    simp [exprS, hk]
  rw [e]
  obtain ⟨x1, t1, o1, h1⟩ := ih L (p + 1) hL
  obtain ⟨x2, t2, o2, h2⟩ := ih L (exprS l d L (p + 1)).p hL
  refine ⟨.li [.wd [112], x1, x2], ?_, ?_, ?_⟩
  · simp [sxT, sxTL, sxTS, t1, t2]
  · simp only [okX, okXL, Bool.and_true, Bool.and_eq_true]
    repeat' first
      | assumption
      | trivial
      | exact word_ok (by decide +kernel)
      | refine And.intro ?_ ?_
  · simp only [sxH, sxHL]
    omega
theorem tree_8 {l : Rw} {d : Nat} (ih : ∀ L p, okLs L → Tree (exprS l d L p) (5 * d + 2)) (L : List ByteArray) (p : Nat) (hL : okLs L) (hk : pickedS (rw' l p 0) 20 = 8) : Tree (exprS l (d + 1) L p) (5 * (d + 1) + 2) := by
  have e : exprS l (d + 1) L p = ⟨(ByteArray.mk #[40]) ++ ([(ByteArray.mk #[112, 45, 97]), (ByteArray.mk #[112, 45, 98])].getD (pickedS (rw' l p 1) 2).toNat noS) ++ (ByteArray.mk #[32, 40, 112, 32]) ++ (exprS l d L (p + 1)).t ++ (ByteArray.mk #[32]) ++ (exprS l d L (exprS l d L (p + 1)).p).t ++ (ByteArray.mk #[41, 41]), (exprS l d L (exprS l d L (p + 1)).p).p, (exprS l d L (p + 1)).m || (exprS l d L (exprS l d L (p + 1)).p).m⟩ := by
    simp [exprS, hk]
  rw [e]
  obtain ⟨x1, t1, o1, h1⟩ := ih L (p + 1) hL
  obtain ⟨x2, t2, o2, h2⟩ := ih L (exprS l d L (p + 1)).p hL
  have w1 : okW (([(ByteArray.mk #[112, 45, 97]), (ByteArray.mk #[112, 45, 98])].getD (pickedS (rw' l p 1) 2).toNat noS)).data.toList = true := getD_word (by decide +kernel) (by have := pickedS_range (n := rw' l p 1) (m := 2) (by decide); simp; omega)
  refine ⟨.li [.wd (([(ByteArray.mk #[112, 45, 97]), (ByteArray.mk #[112, 45, 98])].getD (pickedS (rw' l p 1) 2).toNat noS)).data.toList, .li [.wd [112], x1, x2]], ?_, ?_, ?_⟩
  · simp [sxT, sxTL, sxTS, t1, t2]
  · simp only [okX, okXL, Bool.and_true, Bool.and_eq_true]
    repeat' first
      | assumption
      | trivial
      | exact word_ok (by decide +kernel)
      | refine And.intro ?_ ?_
  · simp only [sxH, sxHL]
    omega
theorem tree_9 {l : Rw} {d : Nat} (ih : ∀ L p, okLs L → Tree (exprS l d L p) (5 * d + 2)) (L : List ByteArray) (p : Nat) (hL : okLs L) (hk : pickedS (rw' l p 0) 20 = 9) : Tree (exprS l (d + 1) L p) (5 * (d + 1) + 2) := by
  have e : exprS l (d + 1) L p = ⟨(ByteArray.mk #[40]) ++ ([(ByteArray.mk #[112, 45, 97]), (ByteArray.mk #[112, 45, 98])].getD (pickedS (rw' l p 1) 2).toNat noS) ++ (ByteArray.mk #[32]) ++ ([(ByteArray.mk #[120]), (ByteArray.mk #[121]), localS L (rw' l p 2)].getD (pickedS (rw' l p 3) 3).toNat noS) ++ (ByteArray.mk #[41]), (p + 1), false⟩ := by
    simp [exprS, hk]
  rw [e]
  have w1 : okW (([(ByteArray.mk #[112, 45, 97]), (ByteArray.mk #[112, 45, 98])].getD (pickedS (rw' l p 1) 2).toNat noS)).data.toList = true := getD_word (by decide +kernel) (by have := pickedS_range (n := rw' l p 1) (m := 2) (by decide); simp; omega)
  have w2 : okW (([(ByteArray.mk #[120]), (ByteArray.mk #[121]), localS L (rw' l p 2)].getD (pickedS (rw' l p 3) 3).toNat noS)).data.toList = true := getD_word3 (local_word hL _) (by decide +kernel) (by decide +kernel) (by have := pickedS_range (n := rw' l p 3) (m := 3) (by decide); omega)
  refine ⟨.li [.wd (([(ByteArray.mk #[112, 45, 97]), (ByteArray.mk #[112, 45, 98])].getD (pickedS (rw' l p 1) 2).toNat noS)).data.toList, .wd (([(ByteArray.mk #[120]), (ByteArray.mk #[121]), localS L (rw' l p 2)].getD (pickedS (rw' l p 3) 3).toNat noS)).data.toList], ?_, ?_, ?_⟩
  · simp [sxT, sxTL, sxTS]
  · simp only [okX, okXL, Bool.and_true, Bool.and_eq_true]
    repeat' first
      | assumption
      | trivial
      | exact word_ok (by decide +kernel)
      | refine And.intro ?_ ?_
  · simp only [sxH, sxHL]
    omega
theorem tree_10 {l : Rw} {d : Nat} (ih : ∀ L p, okLs L → Tree (exprS l d L p) (5 * d + 2)) (L : List ByteArray) (p : Nat) (hL : okLs L) (hk : pickedS (rw' l p 0) 20 = 10) : Tree (exprS l (d + 1) L p) (5 * (d + 1) + 2) := by
  have e : exprS l (d + 1) L p = ⟨(ByteArray.mk #[40, 112, 45, 97, 33, 32]) ++ ([(ByteArray.mk #[120]), (ByteArray.mk #[121])].getD (pickedS (rw' l p 2) 2).toNat noS) ++ (ByteArray.mk #[32]) ++ (exprS l d L (p + 1)).t ++ (ByteArray.mk #[41]), (exprS l d L (p + 1)).p, (exprS l d L (p + 1)).m⟩ := by
    simp [exprS, hk]
  rw [e]
  obtain ⟨x1, t1, o1, h1⟩ := ih L (p + 1) hL
  have w1 : okW (([(ByteArray.mk #[120]), (ByteArray.mk #[121])].getD (pickedS (rw' l p 2) 2).toNat noS)).data.toList = true := getD_word (by decide +kernel) (by have := pickedS_range (n := rw' l p 2) (m := 2) (by decide); simp; omega)
  refine ⟨.li [.wd [112, 45, 97, 33], .wd (([(ByteArray.mk #[120]), (ByteArray.mk #[121])].getD (pickedS (rw' l p 2) 2).toNat noS)).data.toList, x1], ?_, ?_, ?_⟩
  · simp [sxT, sxTL, sxTS, t1]
  · simp only [okX, okXL, Bool.and_true, Bool.and_eq_true]
    repeat' first
      | assumption
      | trivial
      | exact word_ok (by decide +kernel)
      | refine And.intro ?_ ?_
  · simp only [sxH, sxHL]
    omega
theorem tree_11 {l : Rw} {d : Nat} (ih : ∀ L p, okLs L → Tree (exprS l d L p) (5 * d + 2)) (L : List ByteArray) (p : Nat) (hL : okLs L) (hk : pickedS (rw' l p 0) 20 = 11) : Tree (exprS l (d + 1) L p) (5 * (d + 1) + 2) := by
  have e : exprS l (d + 1) L p = ⟨(ByteArray.mk #[40]) ++ ([(ByteArray.mk #[102]), (ByteArray.mk #[103]), (ByteArray.mk #[104])].getD (pickedS (rw' l p 1) 3).toNat noS) ++ (ByteArray.mk #[32]) ++ (exprS l d L (p + 1)).t ++ (ByteArray.mk #[41]), (exprS l d L (p + 1)).p, (exprS l d L (p + 1)).m⟩ := by
    simp [exprS, hk]
  rw [e]
  obtain ⟨x1, t1, o1, h1⟩ := ih L (p + 1) hL
  have w1 : okW (([(ByteArray.mk #[102]), (ByteArray.mk #[103]), (ByteArray.mk #[104])].getD (pickedS (rw' l p 1) 3).toNat noS)).data.toList = true := getD_word (by decide +kernel) (by have := pickedS_range (n := rw' l p 1) (m := 3) (by decide); simp; omega)
  refine ⟨.li [.wd (([(ByteArray.mk #[102]), (ByteArray.mk #[103]), (ByteArray.mk #[104])].getD (pickedS (rw' l p 1) 3).toNat noS)).data.toList, x1], ?_, ?_, ?_⟩
  · simp [sxT, sxTL, sxTS, t1]
  · simp only [okX, okXL, Bool.and_true, Bool.and_eq_true]
    repeat' first
      | assumption
      | trivial
      | exact word_ok (by decide +kernel)
      | refine And.intro ?_ ?_
  · simp only [sxH, sxHL]
    omega
theorem tree_12 {l : Rw} {d : Nat} (ih : ∀ L p, okLs L → Tree (exprS l d L p) (5 * d + 2)) (L : List ByteArray) (p : Nat) (hL : okLs L) (hk : pickedS (rw' l p 0) 20 = 12) : Tree (exprS l (d + 1) L p) (5 * (d + 1) + 2) := by
  have e : exprS l (d + 1) L p = ⟨(ByteArray.mk #[40]) ++ ([(ByteArray.mk #[102]), (ByteArray.mk #[103]), (ByteArray.mk #[104])].getD (pickedS (rw' l p 1) 3).toNat noS) ++ (ByteArray.mk #[32]) ++ (exprS l d L (p + 1)).t ++ (ByteArray.mk #[41]), (exprS l d L (p + 1)).p, (exprS l d L (p + 1)).m⟩ := by
    simp [exprS, hk]
  rw [e]
  obtain ⟨x1, t1, o1, h1⟩ := ih L (p + 1) hL
  have w1 : okW (([(ByteArray.mk #[102]), (ByteArray.mk #[103]), (ByteArray.mk #[104])].getD (pickedS (rw' l p 1) 3).toNat noS)).data.toList = true := getD_word (by decide +kernel) (by have := pickedS_range (n := rw' l p 1) (m := 3) (by decide); simp; omega)
  refine ⟨.li [.wd (([(ByteArray.mk #[102]), (ByteArray.mk #[103]), (ByteArray.mk #[104])].getD (pickedS (rw' l p 1) 3).toNat noS)).data.toList, x1], ?_, ?_, ?_⟩
  · simp [sxT, sxTL, sxTS, t1]
  · simp only [okX, okXL, Bool.and_true, Bool.and_eq_true]
    repeat' first
      | assumption
      | trivial
      | exact word_ok (by decide +kernel)
      | refine And.intro ?_ ?_
  · simp only [sxH, sxHL]
    omega
theorem tree_13 {l : Rw} {d : Nat} (ih : ∀ L p, okLs L → Tree (exprS l d L p) (5 * d + 2)) (L : List ByteArray) (p : Nat) (hL : okLs L) (hk : pickedS (rw' l p 0) 20 = 13) : Tree (exprS l (d + 1) L p) (5 * (d + 1) + 2) := by
  have e : exprS l (d + 1) L p = ⟨(ByteArray.mk #[40, 108, 101, 116, 32, 40, 40]) ++ ([(ByteArray.mk #[117]), (ByteArray.mk #[118]), (ByteArray.mk #[119])].getD (pickedS (rw' l p 1) 3).toNat noS) ++ (ByteArray.mk #[32]) ++ (exprS l d L (p + 1)).t ++ (ByteArray.mk #[41, 41, 32]) ++ (exprS l d (L ++ [([(ByteArray.mk #[117]), (ByteArray.mk #[118]), (ByteArray.mk #[119])].getD (pickedS (rw' l p 1) 3).toNat noS)]) (exprS l d L (p + 1)).p).t ++ (ByteArray.mk #[41]), (exprS l d (L ++ [([(ByteArray.mk #[117]), (ByteArray.mk #[118]), (ByteArray.mk #[119])].getD (pickedS (rw' l p 1) 3).toNat noS)]) (exprS l d L (p + 1)).p).p, true⟩ := by
    simp [exprS, hk]
  rw [e]
  obtain ⟨x1, t1, o1, h1⟩ := ih L (p + 1) hL
  have w1 : okW (([(ByteArray.mk #[117]), (ByteArray.mk #[118]), (ByteArray.mk #[119])].getD (pickedS (rw' l p 1) 3).toNat noS)).data.toList = true := getD_word (by decide +kernel) (by have := pickedS_range (n := rw' l p 1) (m := 3) (by decide); simp; omega)
  have hL2 : okLs (L ++ [([(ByteArray.mk #[117]), (ByteArray.mk #[118]), (ByteArray.mk #[119])].getD (pickedS (rw' l p 1) 3).toNat noS)]) := okLs_app hL (by first | decide +kernel | exact getD_wordB (by decide +kernel) (by have := pickedS_range (n := rw' l p 1) (m := 3) (by decide); simp; omega) | exact getD_wordB (by decide +kernel) (by have := pickedS_range (n := rw' l p 1) (m := 2) (by decide); simp; omega))
  obtain ⟨x2, t2, o2, h2⟩ := ih (L ++ [([(ByteArray.mk #[117]), (ByteArray.mk #[118]), (ByteArray.mk #[119])].getD (pickedS (rw' l p 1) 3).toNat noS)]) (exprS l d L (p + 1)).p hL2
  refine ⟨.li [.wd [108, 101, 116], .li [.li [.wd (([(ByteArray.mk #[117]), (ByteArray.mk #[118]), (ByteArray.mk #[119])].getD (pickedS (rw' l p 1) 3).toNat noS)).data.toList, x1]], x2], ?_, ?_, ?_⟩
  · simp [sxT, sxTL, sxTS, t1, t2]
  · simp only [okX, okXL, Bool.and_true, Bool.and_eq_true]
    repeat' first
      | assumption
      | trivial
      | exact word_ok (by decide +kernel)
      | refine And.intro ?_ ?_
  · simp only [sxH, sxHL]
    omega
theorem tree_14 {l : Rw} {d : Nat} (ih : ∀ L p, okLs L → Tree (exprS l d L p) (5 * d + 2)) (L : List ByteArray) (p : Nat) (hL : okLs L) (hk : pickedS (rw' l p 0) 20 = 14) : Tree (exprS l (d + 1) L p) (5 * (d + 1) + 2) := by
  have e : exprS l (d + 1) L p = ⟨(ByteArray.mk #[40, 40, 108, 97, 109, 98, 100, 97, 32, 40]) ++ ([(ByteArray.mk #[109]), (ByteArray.mk #[110])].getD (pickedS (rw' l p 1) 2).toNat noS) ++ (ByteArray.mk #[41, 32]) ++ (exprS l d (L ++ [([(ByteArray.mk #[109]), (ByteArray.mk #[110])].getD (pickedS (rw' l p 1) 2).toNat noS)]) (p + 1)).t ++ (ByteArray.mk #[41]) ++ (ByteArray.mk #[32]) ++ (exprS l d L (exprS l d (L ++ [([(ByteArray.mk #[109]), (ByteArray.mk #[110])].getD (pickedS (rw' l p 1) 2).toNat noS)]) (p + 1)).p).t ++ (ByteArray.mk #[41]), (exprS l d L (exprS l d (L ++ [([(ByteArray.mk #[109]), (ByteArray.mk #[110])].getD (pickedS (rw' l p 1) 2).toNat noS)]) (p + 1)).p).p, true⟩ := by
    simp [exprS, hk]
  rw [e]
  have w1 : okW (([(ByteArray.mk #[109]), (ByteArray.mk #[110])].getD (pickedS (rw' l p 1) 2).toNat noS)).data.toList = true := getD_word (by decide +kernel) (by have := pickedS_range (n := rw' l p 1) (m := 2) (by decide); simp; omega)
  have hL2 : okLs (L ++ [([(ByteArray.mk #[109]), (ByteArray.mk #[110])].getD (pickedS (rw' l p 1) 2).toNat noS)]) := okLs_app hL (by first | decide +kernel | exact getD_wordB (by decide +kernel) (by have := pickedS_range (n := rw' l p 1) (m := 3) (by decide); simp; omega) | exact getD_wordB (by decide +kernel) (by have := pickedS_range (n := rw' l p 1) (m := 2) (by decide); simp; omega))
  obtain ⟨x1, t1, o1, h1⟩ := ih (L ++ [([(ByteArray.mk #[109]), (ByteArray.mk #[110])].getD (pickedS (rw' l p 1) 2).toNat noS)]) (p + 1) hL2
  obtain ⟨x2, t2, o2, h2⟩ := ih L (exprS l d (L ++ [([(ByteArray.mk #[109]), (ByteArray.mk #[110])].getD (pickedS (rw' l p 1) 2).toNat noS)]) (p + 1)).p hL
  refine ⟨.li [.li [.wd [108, 97, 109, 98, 100, 97], .li [.wd (([(ByteArray.mk #[109]), (ByteArray.mk #[110])].getD (pickedS (rw' l p 1) 2).toNat noS)).data.toList], x1], x2], ?_, ?_, ?_⟩
  · simp [sxT, sxTL, sxTS, t1, t2]
  · simp only [okX, okXL, Bool.and_true, Bool.and_eq_true]
    repeat' first
      | assumption
      | trivial
      | exact word_ok (by decide +kernel)
      | refine And.intro ?_ ?_
  · simp only [sxH, sxHL]
    omega
theorem tree_15 {l : Rw} {d : Nat} (ih : ∀ L p, okLs L → Tree (exprS l d L p) (5 * d + 2)) (L : List ByteArray) (p : Nat) (hL : okLs L) (hk : pickedS (rw' l p 0) 20 = 15) : Tree (exprS l (d + 1) L p) (5 * (d + 1) + 2) := by
  have e : exprS l (d + 1) L p = ⟨(ByteArray.mk #[40, 98, 101, 103, 105, 110, 32]) ++ (exprS l d L (p + 1)).t ++ (ByteArray.mk #[32]) ++ (exprS l d L (exprS l d L (p + 1)).p).t ++ (ByteArray.mk #[41]), (exprS l d L (exprS l d L (p + 1)).p).p, (exprS l d L (p + 1)).m || (exprS l d L (exprS l d L (p + 1)).p).m⟩ := by
    simp [exprS, hk]
  rw [e]
  obtain ⟨x1, t1, o1, h1⟩ := ih L (p + 1) hL
  obtain ⟨x2, t2, o2, h2⟩ := ih L (exprS l d L (p + 1)).p hL
  refine ⟨.li [.wd [98, 101, 103, 105, 110], x1, x2], ?_, ?_, ?_⟩
  · simp [sxT, sxTL, sxTS, t1, t2]
  · simp only [okX, okXL, Bool.and_true, Bool.and_eq_true]
    repeat' first
      | assumption
      | trivial
      | exact word_ok (by decide +kernel)
      | refine And.intro ?_ ?_
  · simp only [sxH, sxHL]
    omega
theorem tree_16a {l : Rw} {d : Nat} (ih : ∀ L p, okLs L → Tree (exprS l d L p) (5 * d + 2)) (L : List ByteArray) (p : Nat) (hL : okLs L) (hk : pickedS (rw' l p 0) 20 = 16) (hP : 0 < L.length) : Tree (exprS l (d + 1) L p) (5 * (d + 1) + 2) := by
  have e : exprS l (d + 1) L p = ⟨(ByteArray.mk #[40, 98, 101, 103, 105, 110, 32, 40, 115, 101, 116, 33, 32]) ++ localS L (rw' l p 1) ++ (ByteArray.mk #[32]) ++ (exprS l d L (p + 1)).t ++ (ByteArray.mk #[41, 32]) ++ localS L (rw' l p 2) ++ (ByteArray.mk #[41]), (exprS l d L (p + 1)).p, (exprS l d L (p + 1)).m⟩ := by
    simp [exprS, hk, hP]
  rw [e]
  obtain ⟨x1, t1, o1, h1⟩ := ih L (p + 1) hL
  have w1 := local_word hL (rw' l p 1)
  have w2 := local_word hL (rw' l p 2)
  refine ⟨.li [.wd [98, 101, 103, 105, 110], .li [.wd [115, 101, 116, 33], .wd (localS L (rw' l p 1)).data.toList, x1], .wd (localS L (rw' l p 2)).data.toList], ?_, ?_, ?_⟩
  · simp [sxT, sxTL, sxTS, t1]
  · simp only [okX, okXL, Bool.and_true, Bool.and_eq_true]
    repeat' first
      | assumption
      | trivial
      | exact word_ok (by decide +kernel)
      | refine And.intro ?_ ?_
  · simp only [sxH, sxHL]
    omega
theorem tree_16b {l : Rw} {d : Nat} (ih : ∀ L p, okLs L → Tree (exprS l d L p) (5 * d + 2)) (L : List ByteArray) (p : Nat) (hL : okLs L) (hk : pickedS (rw' l p 0) 20 = 16) (hP : L.length = 0) : Tree (exprS l (d + 1) L p) (5 * (d + 1) + 2) := by
  have e : exprS l (d + 1) L p = ⟨(ByteArray.mk #[40, 98, 101, 103, 105, 110, 32, 40, 115, 101, 116, 33, 32, 120, 32]) ++ (exprS l d L (p + 1)).t ++ (ByteArray.mk #[41, 32, 120, 41]), (exprS l d L (p + 1)).p, (exprS l d L (p + 1)).m⟩ := by
    simp [exprS, hk, hP]
  rw [e]
  obtain ⟨x1, t1, o1, h1⟩ := ih L (p + 1) hL
  refine ⟨.li [.wd [98, 101, 103, 105, 110], .li [.wd [115, 101, 116, 33], .wd [120], x1], .wd [120]], ?_, ?_, ?_⟩
  · simp [sxT, sxTL, sxTS, t1]
  · simp only [okX, okXL, Bool.and_true, Bool.and_eq_true]
    repeat' first
      | assumption
      | trivial
      | exact word_ok (by decide +kernel)
      | refine And.intro ?_ ?_
  · simp only [sxH, sxHL]
    omega
theorem tree_17 {l : Rw} {d : Nat} (ih : ∀ L p, okLs L → Tree (exprS l d L p) (5 * d + 2)) (L : List ByteArray) (p : Nat) (hL : okLs L) (hk : pickedS (rw' l p 0) 20 = 17) : Tree (exprS l (d + 1) L p) (5 * (d + 1) + 2) := by
  have e : exprS l (d + 1) L p = ⟨(ByteArray.mk #[40, 115, 101, 116, 33, 32]) ++ ([(ByteArray.mk #[120]), (ByteArray.mk #[121])].getD (pickedS (rw' l p 1) 2).toNat noS) ++ (ByteArray.mk #[32]) ++ (exprS l d L (p + 1)).t ++ (ByteArray.mk #[41]), (exprS l d L (p + 1)).p, (exprS l d L (p + 1)).m⟩ := by
    simp [exprS, hk]
  rw [e]
  obtain ⟨x1, t1, o1, h1⟩ := ih L (p + 1) hL
  have w1 : okW (([(ByteArray.mk #[120]), (ByteArray.mk #[121])].getD (pickedS (rw' l p 1) 2).toNat noS)).data.toList = true := getD_word (by decide +kernel) (by have := pickedS_range (n := rw' l p 1) (m := 2) (by decide); simp; omega)
  refine ⟨.li [.wd [115, 101, 116, 33], .wd (([(ByteArray.mk #[120]), (ByteArray.mk #[121])].getD (pickedS (rw' l p 1) 2).toNat noS)).data.toList, x1], ?_, ?_, ?_⟩
  · simp [sxT, sxTL, sxTS, t1]
  · simp only [okX, okXL, Bool.and_true, Bool.and_eq_true]
    repeat' first
      | assumption
      | trivial
      | exact word_ok (by decide +kernel)
      | refine And.intro ?_ ?_
  · simp only [sxH, sxHL]
    omega
theorem tree_18 {l : Rw} {d : Nat} (ih : ∀ L p, okLs L → Tree (exprS l d L p) (5 * d + 2)) (L : List ByteArray) (p : Nat) (hL : okLs L) (hk : pickedS (rw' l p 0) 20 = 18) : Tree (exprS l (d + 1) L p) (5 * (d + 1) + 2) := by
  have e : exprS l (d + 1) L p = ⟨(ByteArray.mk #[40, 108, 101, 116, 32, 40, 40, 107, 32]) ++ itoaB (pickedS (rw' l p 1) 5) ++ (ByteArray.mk #[41, 41, 32, 40, 40, 108, 97, 109, 98, 100, 97, 32, 40, 41, 32, 40, 98, 101, 103, 105, 110, 32, 40, 115, 101, 116, 33, 32, 107, 32, 40, 43, 32, 107, 32, 49, 41, 41, 32]) ++ (exprS l d (L ++ [(ByteArray.mk #[107])]) (p + 1)).t ++ (ByteArray.mk #[41, 41, 41, 41]), (exprS l d (L ++ [(ByteArray.mk #[107])]) (p + 1)).p, true⟩ := by
    simp [exprS, hk]
  rw [e]
  have w1 : okW (itoaB (pickedS (rw' l p 1) 5)).data.toList = true := itoa_word (by have := pickedS_range (n := rw' l p 1) (m := 5) (by decide); omega) (by have := pickedS_range (n := rw' l p 1) (m := 5) (by decide); omega)
  have hL2 : okLs (L ++ [(ByteArray.mk #[107])]) := okLs_app hL (by first | decide +kernel | exact getD_wordB (by decide +kernel) (by have := pickedS_range (n := rw' l p 1) (m := 3) (by decide); simp; omega) | exact getD_wordB (by decide +kernel) (by have := pickedS_range (n := rw' l p 1) (m := 2) (by decide); simp; omega))
  obtain ⟨x1, t1, o1, h1⟩ := ih (L ++ [(ByteArray.mk #[107])]) (p + 1) hL2
  refine ⟨.li [.wd [108, 101, 116], .li [.li [.wd [107], .wd (itoaB (pickedS (rw' l p 1) 5)).data.toList]], .li [.li [.wd [108, 97, 109, 98, 100, 97], .li [], .li [.wd [98, 101, 103, 105, 110], .li [.wd [115, 101, 116, 33], .wd [107], .li [.wd [43], .wd [107], .wd [49]]], x1]]]], ?_, ?_, ?_⟩
  · simp [sxT, sxTL, sxTS, t1]
  · simp only [okX, okXL, Bool.and_true, Bool.and_eq_true]
    repeat' first
      | assumption
      | trivial
      | exact word_ok (by decide +kernel)
      | refine And.intro ?_ ?_
  · simp only [sxH, sxHL]
    omega
theorem tree_19a {l : Rw} {d : Nat} (ih : ∀ L p, okLs L → Tree (exprS l d L p) (5 * d + 2)) (L : List ByteArray) (p : Nat) (hL : okLs L) (hk : pickedS (rw' l p 0) 20 = 19) (hP : pickedS (rw' l p 2) 2 = 0) : Tree (exprS l (d + 1) L p) (5 * (d + 1) + 2) := by
  have e : exprS l (d + 1) L p = ⟨(ByteArray.mk #[39, 40]) ++ itoaB (pickedS (rw' l p 1) 9) ++ (ByteArray.mk #[32, 40, 98, 32, 99, 41, 32]) ++ (ByteArray.mk #[35, 116]) ++ (ByteArray.mk #[41]), (p + 1), false⟩ := by
    simp [exprS, hk, hP]
  rw [e]
  have w1 : okW (itoaB (pickedS (rw' l p 1) 9)).data.toList = true := itoa_word (by have := pickedS_range (n := rw' l p 1) (m := 9) (by decide); omega) (by have := pickedS_range (n := rw' l p 1) (m := 9) (by decide); omega)
  refine ⟨.qu [.wd (itoaB (pickedS (rw' l p 1) 9)).data.toList, .li [.wd [98], .wd [99]], .wd [35, 116]], ?_, ?_, ?_⟩
  · simp [sxT, sxTL, sxTS]
  · simp only [okX, okXL, Bool.and_true, Bool.and_eq_true]
    repeat' first
      | assumption
      | trivial
      | exact word_ok (by decide +kernel)
      | refine And.intro ?_ ?_
  · simp only [sxH, sxHL]
    omega
theorem tree_19b {l : Rw} {d : Nat} (ih : ∀ L p, okLs L → Tree (exprS l d L p) (5 * d + 2)) (L : List ByteArray) (p : Nat) (hL : okLs L) (hk : pickedS (rw' l p 0) 20 = 19) (hP : pickedS (rw' l p 2) 2 = 1) : Tree (exprS l (d + 1) L p) (5 * (d + 1) + 2) := by
  have e : exprS l (d + 1) L p = ⟨(ByteArray.mk #[39, 40]) ++ itoaB (pickedS (rw' l p 1) 9) ++ (ByteArray.mk #[32, 40, 98, 32, 99, 41, 32]) ++ (ByteArray.mk #[40, 41]) ++ (ByteArray.mk #[41]), (p + 1), false⟩ := by
    simp [exprS, hk, hP]
  rw [e]
  have w1 : okW (itoaB (pickedS (rw' l p 1) 9)).data.toList = true := itoa_word (by have := pickedS_range (n := rw' l p 1) (m := 9) (by decide); omega) (by have := pickedS_range (n := rw' l p 1) (m := 9) (by decide); omega)
  refine ⟨.qu [.wd (itoaB (pickedS (rw' l p 1) 9)).data.toList, .li [.wd [98], .wd [99]], .li []], ?_, ?_, ?_⟩
  · simp [sxT, sxTL, sxTS]
  · simp only [okX, okXL, Bool.and_true, Bool.and_eq_true]
    repeat' first
      | assumption
      | trivial
      | exact word_ok (by decide +kernel)
      | refine And.intro ?_ ?_
  · simp only [sxH, sxHL]
    omega
theorem tree_succ {l : Rw} {d : Nat} (ih : ∀ L p, okLs L → Tree (exprS l d L p) (5 * d + 2)) (L : List ByteArray) (p : Nat) (hL : okLs L) : Tree (exprS l (d + 1) L p) (5 * (d + 1) + 2) := by
  obtain ⟨k, hk, h⟩ := picked20 (rw' l p 0)
  match k, hk, h with
  | 0, _, h => exact tree_0 ih L p hL h
  | 1, _, h => exact tree_1 ih L p hL h
  | 2, _, h => exact tree_2 ih L p hL h
  | 3, _, h => exact tree_3 ih L p hL h
  | 4, _, h => exact tree_4 ih L p hL h
  | 5, _, h => exact tree_5 ih L p hL h
  | 6, _, h => exact tree_6 ih L p hL h
  | 7, _, h => exact tree_7 ih L p hL h
  | 8, _, h => exact tree_8 ih L p hL h
  | 9, _, h => exact tree_9 ih L p hL h
  | 10, _, h => exact tree_10 ih L p hL h
  | 11, _, h => exact tree_11 ih L p hL h
  | 12, _, h => exact tree_12 ih L p hL h
  | 13, _, h => exact tree_13 ih L p hL h
  | 14, _, h => exact tree_14 ih L p hL h
  | 15, _, h => exact tree_15 ih L p hL h
  | 16, _, h => exact (Nat.eq_zero_or_pos L.length).elim (fun hP => tree_16b ih L p hL h hP) (fun hP => tree_16a ih L p hL h hP)
  | 17, _, h => exact tree_17 ih L p hL h
  | 18, _, h => exact tree_18 ih L p hL h
  | 19, _, h =>
    have hr := pickedS_range (n := rw' l p 2) (m := 2) (by decide)
    have h2 : pickedS (rw' l p 2) 2 = 0 ∨ pickedS (rw' l p 2) 2 = 1 := by omega
    exact h2.elim (fun hP => tree_19a ih L p hL h hP) (fun hP => tree_19b ih L p hL h hP)
  | k + 20, hk, _ => omega

theorem expr_tree (l : Rw) : ∀ (d : Nat) (L : List ByteArray) (p : Nat), okLs L → Tree (exprS l d L p) (5 * d + 2)
  | 0, L, p, h => tree_zero L p h
  | d + 1, L, p, h => tree_succ (expr_tree l d) L p h

theorem exprIt_is (l : Rw) : ∀ (f : Nat) (s : ByteArray), f ≤ 3 → (∃ d, d ≤ 3 ∧ s = (exprS l d [nS] 0).t) → ∃ d, d ≤ 3 ∧ exprIt l f s = (exprS l d [nS] 0).t
  | 0, _, _, h => h
  | f + 1, s, hf, h => by
    rw [exprIt]
    split
    · exact exprIt_is l f _ (by omega) ⟨f, by omega, rfl⟩
    · exact h
/-- an expression of raw things is the text of a tree -/
theorem exprX_tree (l : Rw) : ∃ x : Sx, sxT x = (exprX l).data.toList ∧ okX x = true ∧ sxH x ≤ 17 := by
  obtain ⟨d, hd, e⟩ := exprIt_is l 3 _ (Nat.le_refl _) ⟨3, Nat.le_refl _, rfl⟩
  obtain ⟨x, h1, h2, h3⟩ := expr_tree l d [nS] 0 (fun y hy => by rw [List.mem_singleton] at hy; subst hy; decide +kernel)
  exact ⟨x, by rw [h1, exprX, e], h2, by omega⟩

mutual
theorem sxC_le : ∀ x : Sx, okX x = true → sxC x ≤ (sxT x).length
  | .wd w, h => by
    simp only [okX] at h
    obtain ⟨b, t, rfl, _⟩ := okW_cons h
    simp only [sxC, sxT, List.length_cons]; omega
  | .li l, h => by
    simp only [okX] at h
    have := sxCL_le l h
    simp only [sxC, sxT, List.length_cons, List.length_append, List.length_nil]; omega
  | .qu l, h => by
    simp only [okX] at h
    have := sxCL_le l h
    simp only [sxC, sxT, List.length_cons, List.length_append, List.length_nil]; omega
theorem sxCL_le : ∀ l : List Sx, okXL l = true → sxCL l ≤ (sxTL l).length
  | [], _ => by simp [sxCL]
  | x :: l, h => by
    simp only [okXL, Bool.and_eq_true] at h
    have h1 := sxC_le x h.1
    have h2 := sxCS_le l h.2
    simp only [sxCL, sxTL, List.length_append]; omega
theorem sxCS_le : ∀ l : List Sx, okXL l = true → sxCL l ≤ (sxTS l).length
  | [], _ => by simp [sxCL]
  | x :: l, h => by
    simp only [okXL, Bool.and_eq_true] at h
    have h1 := sxC_le x h.1
    have h2 := sxCS_le l h.2
    simp only [sxCL, sxTS, List.length_append, List.length_cons]; omega
end
end Rd
