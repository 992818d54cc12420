/- What is read of sources out of raw things. -/
import Derived.Test.YtnalaogenpicfaaDoorRdP
set_option linter.unusedSimpArgs false
set_option linter.unusedVariables false
open Rx Go
namespace Rd

/-! ## a text is read -/
theorem redS_succ (s : ByteArray) : ∀ (f : Nat) (a c : Int) (acc : List Dm) (r : RR), redS s f a c acc = some r → redS s (f + 1) a c acc = some r
  | 0, _, _, _, _, h => by simp [redS] at h
  | f + 1, a, c, acc, r, h => by
    rw [redS] at h ⊢
    split at h
    · rename_i hlt
      rw [if_pos hlt]
      split at h
      · cases h
      · rename_i q hq
        rw [datS_mono (Nat.le_succ f) hq]
        simp only
        split at h
        · rename_i g; rw [if_pos g]; exact h
        · rename_i g; rw [if_neg g]; exact redS_succ s f _ _ _ _ h
    · rename_i hlt; rw [if_neg hlt]; exact h
theorem redS_mono {s : ByteArray} {f g : Nat} (h : f ≤ g) {a c : Int} {acc : List Dm} {r : RR} (hr : redS s f a c acc = some r) : redS s g a c acc = some r := by
  induction h with
  | refl => exact hr
  | step _ ih => exact redS_succ s _ _ _ _ _ ih
theorem readS_mono {s : ByteArray} {f g : Nat} (h : f ≤ g) {r : RR} (hr : readS f s = some r) : readS g s = some r := redS_mono h hr
def Reds (s : ByteArray) (a c : Int) (acc : List Dm) (r : RR) : Prop := ∃ f, redS s f a c acc = some r
def Reads (s : ByteArray) (r : RR) : Prop := ∃ f, readS f s = some r
theorem reds_end {s : ByteArray} {a c : Int} {acc : List Dm} (h : ¬ a < s.size) : Reds s a c acc ⟨acc, 0, 0⟩ := ⟨1, by rw [redS, if_neg h]⟩
theorem reds_one {s : ByteArray} {a c a' c' : Int} {acc : List Dm} {d : Dm} {r : RR} (h : a < s.size) (h1 : Dats s 1 a c ⟨d, a', c', 0⟩) (h2 : Reds s (blk s a') c' (acc ++ [d]) r) : Reds s a c acc r := by
  obtain ⟨f, hf⟩ := h1
  obtain ⟨g, hg⟩ := h2
  refine ⟨max f g + 1, ?_⟩
  rw [redS, if_pos h, datS_mono (Nat.le_max_left f g) hf]
  simp only
  rw [if_neg (by simp), redS_mono (Nat.le_max_right f g) hg]
theorem reds_bad {s : ByteArray} {a c : Int} {acc : List Dm} {r : PR} (h : a < s.size) (h1 : Dats s 1 a c r) (hr : r.e ≠ 0) : Reds s a c acc ⟨[], r.a, r.e⟩ := by
  obtain ⟨f, hf⟩ := h1
  refine ⟨f + 1, ?_⟩
  rw [redS, if_pos h, hf]
  simp only
  rw [if_pos hr]
theorem reads_of {s : ByteArray} {r : RR} (h : Reds s (blk s 0) 0 [] r) : Reads s r := h

/-- a tree's text, with blanks around it -/
theorem read_around {s : ByteArray} {x : Sx} {pre post : List UInt8} (hx : okX x = true) (hs : s.data.toList = pre ++ (sxT x ++ post)) (hb : blk s 0 = (pre.length : Nat)) (hp : stops post = true) (he : blk s ((pre.length + (sxT x).length : Nat) : Int) = s.size)
    (hh : sxH x ≤ 40) (hc : sxC x ≤ 400) : Reads s ⟨[sxD x], 0, 0⟩ := by
  have h0 : At s 0 (pre ++ (sxT x ++ post)) := ⟨Nat.zero_le _, hs⟩
  have h1 := at_app h0
  rw [Nat.zero_add] at h1
  have h2 := dat_parse x hx s 1 0 pre.length post h1 hp (by omega) (by omega)
  obtain ⟨b, t, e, _, _⟩ := sxT_head hx
  have hlt : (pre.length : Int) < s.size := by
    have : At s pre.length (b :: (t ++ post)) := by rw [e] at h1; exact h1
    exact (at_cons this).2.2
  refine reads_of ?_
  rw [hb]
  refine reds_one hlt h2 ?_
  rw [he]
  exact reds_end (by omega)
theorem blk_first {s : ByteArray} {x : Sx} {post : List UInt8} (hx : okX x = true) {a : Nat} (h : At s a (sxT x ++ post)) : blk s a = a := by
  obtain ⟨b, t, e, hb, _⟩ := sxT_head hx
  have h : At s a (b :: (t ++ post)) := by rw [e] at h; exact h
  exact blk_stop h hb
theorem read_plain {s : ByteArray} {x : Sx} (hx : okX x = true) (hs : s.data.toList = sxT x) (hh : sxH x ≤ 40) (hc : sxC x ≤ 400) : Reads s ⟨[sxD x], 0, 0⟩ := by
  have h0 : At s 0 (sxT x ++ []) := ⟨Nat.zero_le _, by simpa using hs⟩
  refine read_around (pre := []) (post := []) hx (by simpa using hs) (blk_first hx h0) rfl ?_ hh hc
  have h1 := at_app h0
  rw [Nat.zero_add] at h1
  rw [List.length_nil, Nat.zero_add, blk_end h1]
  exact at_nil h1

/-! ## an expression -/
structure XT (l : Rw) where
  x : Sx
  text : sxT x = (exprX l).data.toList
  ok : okX x = true
  high : sxH x ≤ 17
  count : sxC x ≤ 250
theorem xt (l : Rw) : Nonempty (XT l) := by
  obtain ⟨x, h1, h2, h3⟩ := exprX_tree l
  refine ⟨x, h1, h2, h3, ?_⟩
  have := sxC_le x h2
  rw [h1, sz_list] at this
  have := exprX_size l
  omega
theorem xt_read {l : Rw} (X : XT l) : Reads (exprX l) ⟨[sxD X.x], 0, 0⟩ := read_plain X.ok X.text.symm (by have := X.high; omega) (by have := X.count; omega)

/-! ## blanks -/
def preS : List ByteArray := [⟨#[32]⟩, ⟨#[10, 59, 120, 32, 40, 10]⟩, ⟨#[9, 32, 59, 59, 10, 32]⟩, ⟨#[]⟩]
def postS : List ByteArray := [⟨#[32]⟩, ⟨#[10, 59, 32, 41]⟩, ⟨#[]⟩]
theorem xt_pre {l : Rw} (X : XT l) {s : ByteArray} {i : Nat} {post : List UInt8} (hi : i < 4) (h : At s 0 ((preS.getD i noS).data.toList ++ (sxT X.x ++ post))) : blk s 0 = ((preS.getD i noS).data.toList.length : Nat) := by
  have hx := X.ok
  match i, hi with
  | 0, _ =>
    have h : At s 0 (32 :: (sxT X.x ++ post)) := h
    have h1 := (at_cons h).1
    exact (blk_go h (.inl rfl)).trans (blk_first hx h1)
  | 1, _ =>
    have h : At s 0 (10 :: 59 :: 120 :: 32 :: 40 :: 10 :: (sxT X.x ++ post)) := h
    have h1 := (at_cons h).1
    have h2 := (at_cons h1).1
    have h3 := (at_cons h2).1
    have h4 := (at_cons h3).1
    have h5 := (at_cons h4).1
    have h6 := (at_cons h5).1
    refine (blk_go h (.inr (.inl rfl))).trans ((blk_note h1 rfl).trans ?_)
    rw [cmt_go h2 (by decide), cmt_go h3 (by decide), cmt_go h4 (by decide), cmt_stop h5 rfl]
    exact (blk_go h5 (.inr (.inl rfl))).trans (blk_first hx h6)
  | 2, _ =>
    have h : At s 0 (9 :: 32 :: 59 :: 59 :: 10 :: 32 :: (sxT X.x ++ post)) := h
    have h1 := (at_cons h).1
    have h2 := (at_cons h1).1
    have h3 := (at_cons h2).1
    have h4 := (at_cons h3).1
    have h5 := (at_cons h4).1
    have h6 := (at_cons h5).1
    refine (blk_go h (.inr (.inr rfl))).trans ((blk_go h1 (.inl rfl)).trans ((blk_note h2 rfl).trans ?_))
    rw [cmt_go h3 (by decide), cmt_stop h4 rfl]
    exact (blk_go h4 (.inr (.inl rfl))).trans ((blk_go h5 (.inl rfl)).trans (blk_first hx h6))
  | 3, _ =>
    have h : At s 0 (sxT X.x ++ post) := h
    exact blk_first hx h
theorem post_end {s : ByteArray} {i a : Nat} (hi : i < 3) (h : At s a (postS.getD i noS).data.toList) : blk s a = s.size := by
  match i, hi with
  | 0, _ =>
    have h : At s a [32] := h
    have h1 := (at_cons h).1
    rw [blk_go h (.inl rfl), blk_end h1]
    exact at_nil h1
  | 1, _ =>
    have h : At s a [10, 59, 32, 41] := h
    have h1 := (at_cons h).1
    have h2 := (at_cons h1).1
    have h3 := (at_cons h2).1
    have h4 := (at_cons h3).1
    rw [blk_go h (.inr (.inl rfl)), blk_note h1 rfl, cmt_go h2 (by decide), cmt_go h3 (by decide), cmt_end h4, blk_end h4]
    exact at_nil h4
  | 2, _ =>
    have h : At s a [] := h
    rw [blk_end h]
    exact at_nil h
theorem post_stops {i : Nat} (hi : i < 3) : stops (postS.getD i noS).data.toList = true := by
  match i, hi with
  | 0, _ => rfl
  | 1, _ => rfl
  | 2, _ => rfl
theorem xt_blanks {l : Rw} (X : XT l) {i j : Nat} (hi : i < 4) (hj : j < 3) : Reads (preS.getD i noS ++ exprX l ++ postS.getD j noS) ⟨[sxD X.x], 0, 0⟩ := by
  have hs : (preS.getD i noS ++ exprX l ++ postS.getD j noS).data.toList = (preS.getD i noS).data.toList ++ (sxT X.x ++ (postS.getD j noS).data.toList) := by
    rw [tl_app, tl_app, X.text, List.append_assoc]
  have h0 : At _ 0 _ := ⟨Nat.zero_le _, hs⟩
  have h1 := at_app (at_app h0)
  rw [Nat.zero_add] at h1
  exact read_around X.ok hs (xt_pre X hi h0) (post_stops hj) (post_end hj h1) (by have := X.high; omega) (by have := X.count; omega)

/-! ## quotes -/
theorem xt_quote {l : Rw} (X : XT l) : Reads (ByteArray.mk #[39] ++ exprX l) ⟨[.mk 4 0 noS [.mk 3 0 quoteS [], sxD X.x]], 0, 0⟩ := by
  have hs : (ByteArray.mk #[39] ++ exprX l).data.toList = 39 :: (sxT X.x ++ []) := by
    rw [tl_app, X.text, List.append_nil]; rfl
  have h0 : At (ByteArray.mk #[39] ++ exprX l) 0 (39 :: (sxT X.x ++ [])) := ⟨Nat.zero_le _, hs⟩
  have hh := X.high
  have hc := X.count
  have h1 := dat_parse X.x X.ok _ (1 + 1) (0 + 1) (0 + 1) [] (at_cons h0).1 rfl (by omega) (by omega)
  have h2 := dats_quote (lv := 1) (c := 0) h0 (by omega) (by omega) h1
  have h3 := at_app (at_cons h0).1
  refine reads_of ?_
  rw [show blk _ 0 = ((0 : Nat) : Int) from blk_stop h0 (by decide)]
  refine reds_one (at_cons h0).2.2 h2 ?_
  rw [blk_end h3]
  have := at_nil h3
  exact reds_end (by omega)
theorem quote_word : okW [113, 117, 111, 116, 101] = true := by decide +kernel
theorem quote_dm : atD ⟨#[113, 117, 111, 116, 101]⟩ = .mk 3 0 quoteS [] := by
  have h1 : isT ⟨#[113, 117, 111, 116, 101]⟩ = false := by decide +kernel
  have h2 : isF ⟨#[113, 117, 111, 116, 101]⟩ = false := by decide +kernel
  have h3 : symB ⟨#[113, 117, 111, 116, 101]⟩ = true := by decide +kernel
  simp only [atD, h1, h2, h3]
  rfl
theorem xt_quoted {l : Rw} (X : XT l) : Reads (ByteArray.mk #[40, 113, 117, 111, 116, 101, 32] ++ exprX l ++ ByteArray.mk #[41]) ⟨[.mk 4 0 noS [.mk 3 0 quoteS [], sxD X.x]], 0, 0⟩ := by
  have hs : (ByteArray.mk #[40, 113, 117, 111, 116, 101, 32] ++ exprX l ++ ByteArray.mk #[41]).data.toList = sxT (.li [.wd [113, 117, 111, 116, 101], X.x]) := by
    rw [tl_app, tl_app, ← X.text]
    simp [sxT, sxTL, sxTS]
  have hh := X.high
  have hc := X.count
  have := read_plain (x := .li [.wd [113, 117, 111, 116, 101], X.x]) (by simp only [okX, okXL, X.ok, quote_word, Bool.and_true]) hs (by simp only [sxH, sxHL]; omega) (by simp only [sxC, sxCL]; omega)
  simpa [sxD, sxDL, quote_dm] using this

/-! ## a text that is cut -/
def parS (l : Rw) : ByteArray := ByteArray.mk #[40] ++ exprX l ++ ByteArray.mk #[41]
theorem par_text {l : Rw} (X : XT l) : (parS l).data.toList = sxT (.li [X.x]) := by
  rw [parS, tl_app, tl_app, ← X.text]
  simp [sxT, sxTL, sxTS]
theorem par_size (l : Rw) : (parS l).size = (exprX l).size + 2 := by
  simp only [parS, ByteArray.size_append, sz_mk, List.size_toArray, List.length_cons, List.length_nil]; omega
theorem xt_torn {l : Rw} (X : XT l) {k : Nat} (h1 : 1 ≤ k) (h2 : k < (parS l).size) : ∃ r : RR, Reads ((parS l).extract 0 k) r ∧ (r.e = 5 ∧ r.i = k ∨ r.e = 4 ∧ r.i < k) := by
  have hx : okX (.li [X.x]) = true := by simp only [okX, okXL, X.ok, Bool.and_true]
  have hh := X.high
  have hc := X.count
  have hsz : ((parS l).extract 0 k).size = k := by rw [ByteArray.size_extract]; omega
  have hs : ((parS l).extract 0 k).data.toList = (sxT (.li [X.x])).take k := by
    rw [← par_text X, ByteArray.data_extract, Array.toList_extract, List.extract_eq_take_drop]
    simp
  have h0 : At ((parS l).extract 0 k) 0 ((sxT (.li [X.x])).take k) := ⟨Nat.zero_le _, hs⟩
  have hk : k < (sxT (.li [X.x])).length := by rw [← par_text X, sz_list]; exact h2
  -- it is a list: it never ends
  obtain ⟨k, rfl⟩ : ∃ m, k = m + 1 := ⟨k - 1, by omega⟩
  simp only [sxT] at h0 hk
  have h0' : At ((parS l).extract 0 (k + 1)) 0 (40 :: (sxTL [X.x] ++ [41]).take k) := by simpa using h0
  have hl : okXL [X.x] = true := by simp only [okXL, X.ok, Bool.and_true]
  obtain ⟨r, g1, g2⟩ := lis_torn [X.x] hl _ 1 (0 + 1) (0 + 1) k [] (at_cons h0').1 (Nat.lt_of_succ_lt_succ hk) (by simp only [sxHL]; omega) (by simp only [sxCL]; omega)
  have g3 := dats_open (lv := 1) (c := 0) h0' (by omega) (by omega) g1
  refine ⟨⟨[], r.a, r.e⟩, reads_of ?_, ?_⟩
  · rw [show blk _ 0 = ((0 : Nat) : Int) from blk_stop h0' (by decide)]
    exact reds_bad (at_cons h0').2.2 g3 (torn_e g2)
  · unfold Torn at g2
    rw [hsz] at g2
    rcases g2 with ⟨e1, e2⟩ | ⟨e1, _, e2⟩
    · exact .inl ⟨e1, e2⟩
    · exact .inr ⟨e1, e2⟩
theorem xt_more {l : Rw} (X : XT l) : Reads (parS l ++ ByteArray.mk #[41]) ⟨[], (parS l).size, 4⟩ := by
  have hx : okX (.li [X.x]) = true := by simp only [okX, okXL, X.ok, Bool.and_true]
  have hh := X.high
  have hc := X.count
  have hs : (parS l ++ ByteArray.mk #[41]).data.toList = sxT (.li [X.x]) ++ [41] := by rw [tl_app, par_text X]
  have h0 : At (parS l ++ ByteArray.mk #[41]) 0 (sxT (.li [X.x]) ++ [41]) := ⟨Nat.zero_le _, hs⟩
  have h1 := dat_parse _ hx _ 1 0 0 [41] h0 rfl (by simp only [sxH, sxHL]; omega) (by simp only [sxC, sxCL]; omega)
  have h2 := at_app h0
  rw [Nat.zero_add] at h2
  have hb := blk_first hx h0
  have hlen : (sxT (.li [X.x])).length = (parS l).size := by rw [← par_text X, sz_list]
  rw [Nat.zero_add] at h1
  have hlt : ((0 : Nat) : Int) < (parS l ++ ByteArray.mk #[41]).size := by
    rw [ByteArray.size_append, par_size]; simp only [sz_mk, List.size_toArray, List.length_cons, List.length_nil]; omega
  refine reads_of ?_
  rw [show blk _ 0 = ((0 : Nat) : Int) from hb]
  refine reds_one hlt h1 ?_
  rw [blk_stop h2 (by decide)]
  have h3 : Dats (parS l ++ ByteArray.mk #[41]) 1 ((sxT (.li [X.x])).length : Nat) (0 + sxC (.li [X.x])) ⟨d0, ((sxT (.li [X.x])).length : Nat), 0 + sxC (.li [X.x]) + 1, 4⟩ := by
    obtain ⟨_, e1, e2⟩ := at_cons h2
    have e1 : byteAt (parS l ++ ByteArray.mk #[41]) ((sxT (.li [X.x])).length : Nat) = 41 := by rw [e1]; rfl
    have e3 := blk_stop h2 (by decide)
    have hcc : sxC (.li [X.x]) ≤ 260 := by simp only [sxC, sxCL]; omega
    refine ⟨1, ?_⟩
    rw [datS, e3, if_neg (by omega), if_neg (by omega), if_neg (by omega), if_pos e1]
  have h4 := reds_bad (acc := [] ++ [sxD (.li [X.x])]) (at_cons h2).2.2 h3 (by simp)
  rw [← hlen]
  exact h4
theorem a_reads : Reads aS ⟨[.mk 3 0 aS []], 0, 0⟩ := by
  have hw : okW [97] = true := by decide +kernel
  have hx : okX (.wd [97]) = true := by simp only [okX]; exact hw
  have := read_plain (s := aS) (x := .wd [97]) hx (by simp only [sxT]; rfl) (by simp only [sxH]; omega) (by simp only [sxC]; omega)
  have e : sxD (.wd [97]) = .mk 3 0 aS [] := by
    have h1 : isT aS = false := by decide +kernel
    have h2 : isF aS = false := by decide +kernel
    have h3 : symB aS = true := by decide +kernel
    simp only [sxD]
    show atD aS = _
    simp only [atD, h1, h2, h3]
    rfl
  rw [e] at this
  exact this
mutual
theorem sxN : ∀ x : Sx, okX x = true → dmN (sxD x) ≤ 2 * sxC x
  | .wd w, h => by
    simp only [sxD, sxC]
    unfold atD
    repeat' split
    all_goals simp [dmN, dmNL, d0]
  | .li l, h => by
    simp only [okX] at h
    have := sxNL l h
    simp only [sxD, sxC, dmN]; omega
  | .qu l, h => by
    simp only [okX] at h
    have := sxNL l h
    simp only [sxD, sxC, dmN, dmNL]; omega
theorem sxNL : ∀ l : List Sx, okXL l = true → dmNL (sxDL l) ≤ 2 * sxCL l
  | [], _ => by simp [sxDL, dmNL]
  | x :: l, h => by
    simp only [okXL, Bool.and_eq_true] at h
    have h1 := sxN x h.1
    have h2 := sxNL l h.2
    simp only [sxDL, sxCL, dmNL]; omega
end
end Rd
