/- Texts of trees, and what is read of them. -/
import Derived.Test.YtnalaogenpicfaaDoorRdK
set_option linter.unusedSimpArgs false
set_option linter.unusedVariables false
open Rx Go
namespace Rd

/-! ## where a text stands -/
def At (s : ByteArray) (a : Nat) (t : List UInt8) : Prop := a ≤ s.size ∧ s.data.toList.drop a = t
theorem sz_list (s : ByteArray) : s.data.toList.length = s.size := rfl
theorem at_len {s : ByteArray} {a : Nat} {t : List UInt8} (h : At s a t) : a + t.length = s.size := by
  have h1 : t.length = s.data.toList.length - a := by rw [← h.2, List.length_drop]
  have := sz_list s
  have := h.1
  omega
theorem at_app {s : ByteArray} {a : Nat} {u t : List UInt8} (h : At s a (u ++ t)) : At s (a + u.length) t := by
  have hl := at_len h
  rw [List.length_append] at hl
  refine ⟨by omega, ?_⟩
  rw [← List.drop_drop, h.2, List.drop_left]
theorem at_cons {s : ByteArray} {a : Nat} {b : UInt8} {t : List UInt8} (h : At s a (b :: t)) : At s (a + 1) t ∧ byteAt s a = b.toNat ∧ (a : Int) < s.size := by
  have hl := at_len h
  rw [List.length_cons] at hl
  have h1 : At s (a + 1) t := at_app (u := [b]) h
  refine ⟨h1, ?_, by omega⟩
  have h2 : s.data.toList[a]? = some b := by
    have : (s.data.toList.drop a)[0]? = some b := by rw [h.2]; rfl
    rw [List.getElem?_drop] at this
    simpa using this
  unfold byteAt
  rw [List.getD_eq_getElem?_getD, Int.toNat_natCast, h2]
  rfl
theorem at_nil {s : ByteArray} {a : Nat} (h : At s a []) : (a : Int) = s.size := by
  have := at_len h
  simp only [List.length_nil] at this; omega
theorem at_zero (s : ByteArray) : At s 0 s.data.toList := ⟨Nat.zero_le _, rfl⟩

/-! ## blanks -/
theorem cast1 (a : Nat) : ((a + 1 : Nat) : Int) = (a : Int) + 1 := by omega
theorem blk_go {s : ByteArray} {a : Nat} {b : UInt8} {t : List UInt8} (h : At s a (b :: t)) (hb : b.toNat = 32 ∨ b.toNat = 10 ∨ b.toNat = 9) : blk s a = blk s ((a + 1 : Nat) : Int) := by
  obtain ⟨_, h1, h2⟩ := at_cons h
  rw [blk.eq_1 s a, if_pos h2, if_pos (by omega), cast1]
theorem blk_note {s : ByteArray} {a : Nat} {b : UInt8} {t : List UInt8} (h : At s a (b :: t)) (hb : b.toNat = 59) : blk s a = blk s (cmt s ((a + 1 : Nat) : Int)) := by
  obtain ⟨_, h1, h2⟩ := at_cons h
  rw [blk.eq_1 s a, if_pos h2, if_neg (by omega), if_pos (by omega), cast1]
theorem blk_stop {s : ByteArray} {a : Nat} {b : UInt8} {t : List UInt8} (h : At s a (b :: t)) (hb : ¬ (b.toNat = 32 ∨ b.toNat = 10 ∨ b.toNat = 9 ∨ b.toNat = 59)) : blk s a = a := by
  obtain ⟨_, h1, h2⟩ := at_cons h
  rw [blk, if_pos h2, if_neg (by omega), if_neg (by omega)]
theorem blk_end {s : ByteArray} {a : Nat} (h : At s a []) : blk s a = a := by
  have := at_nil h
  rw [blk, if_neg (by omega)]
theorem cmt_go {s : ByteArray} {a : Nat} {b : UInt8} {t : List UInt8} (h : At s a (b :: t)) (hb : b.toNat ≠ 10) : cmt s a = cmt s ((a + 1 : Nat) : Int) := by
  obtain ⟨_, h1, h2⟩ := at_cons h
  rw [cmt.eq_1 s a, if_pos ⟨h2, by omega⟩, cast1]
theorem cmt_stop {s : ByteArray} {a : Nat} {b : UInt8} {t : List UInt8} (h : At s a (b :: t)) (hb : b.toNat = 10) : cmt s a = a := by
  obtain ⟨_, h1, h2⟩ := at_cons h
  rw [cmt, if_neg (by omega)]
theorem cmt_end {s : ByteArray} {a : Nat} (h : At s a []) : cmt s a = a := by
  have := at_nil h
  rw [cmt, if_neg (by omega)]

/-! ## words -/
def nodel (b : UInt8) : Bool := !(b.toNat == 32 || b.toNat == 10 || b.toNat == 9 || b.toNat == 40 || b.toNat == 41 || b.toNat == 59 || b.toNat == 39)
theorem del_iff : ∀ n, n < 256 → (decide (ixB delims ((n : Nat) : Int) < 0)) = !(n == 32 || n == 10 || n == 9 || n == 40 || n == 41 || n == 59 || n == 39) := by decide +kernel
theorem del_of (b : UInt8) : (ixB delims (b.toNat : Int) < 0) ↔ nodel b = true := by
  have h := del_iff b.toNat b.toNat_lt
  unfold nodel
  rw [← h, decide_eq_true_eq]
def stops : List UInt8 → Bool
  | [] => true
  | b :: _ => !nodel b
theorem wend_word {s : ByteArray} {post : List UInt8} (hp : stops post = true) : ∀ (w : List UInt8) (a : Nat), At s a (w ++ post) → (w.all nodel) = true → wend s a = ((a + w.length : Nat) : Int)
  | [], a, h, _ => by
    have e : ((a + ([] : List UInt8).length : Nat) : Int) = a := by simp
    rw [e]
    match post, hp, h with
    | [], _, h => have := at_nil h; rw [wend, if_neg (by omega)]
    | b :: t, hp, h =>
      obtain ⟨_, h1, h2⟩ := at_cons h
      have hn : ¬ ixB delims (byteAt s a) < 0 := by
        rw [h1, del_of]
        simpa [stops] using hp
      rw [wend, if_neg (fun h => hn h.2)]
  | b :: w, a, h, hw => by
    simp only [List.all_cons, Bool.and_eq_true] at hw
    obtain ⟨h0, h1, h2⟩ := at_cons h
    have hn : ixB delims (byteAt s a) < 0 := by rw [h1, del_of]; exact hw.1
    have ih := wend_word hp w (a + 1) h0 hw.2
    rw [wend, if_pos ⟨h2, hn⟩, ← cast1, ih]
    simp only [List.length_cons]; omega
theorem word_at {s : ByteArray} {post w : List UInt8} {a : Nat} (hp : stops post = true) (h : At s a (w ++ post)) (hw : (w.all nodel) = true) : wordAt s a a = ⟨w.toArray⟩ := by
  have e := wend_word hp w a h hw
  unfold wordAt
  rw [e]
  simp only [Int.toNat_natCast]
  have hx : (s.extract a (a + w.length)).data = w.toArray := by
    apply Array.ext'
    simp only [ByteArray.data_extract, Array.toList_extract]
    rw [List.extract_eq_take_drop, h.2]
    simp
  exact ByteArray.ext hx
/-- may it be a word, and each of its beginnings, or be refused? -/
def okP (w : List UInt8) : Bool := atE ⟨w.toArray⟩ == 0 || atE ⟨w.toArray⟩ == 4
def okW (w : List UInt8) : Bool := !w.isEmpty && w.all nodel && atE ⟨w.toArray⟩ == 0 && (List.range w.length).all fun k => k == 0 || okP (w.take k)
def words : List (List UInt8) := [[43], [45], [42], [113, 117, 111, 116, 105, 101, 110, 116], [61], [60], [114, 101, 109, 97, 105, 110, 100, 101, 114], [105, 102], [99, 111, 110, 115], [99, 97, 114], [49], [110, 117, 108, 108, 63], [112, 97, 105, 114, 63], [110, 111, 116], [112, 63], [99, 100, 114], [112],
  [112, 45, 97], [112, 45, 98], [112, 45, 97, 33], [102], [103], [104], [108, 101, 116], [117], [118], [119], [108, 97, 109, 98, 100, 97], [109], [110], [98, 101, 103, 105, 110], [115, 101, 116, 33], [120], [121], [107], [98], [99], [35, 116], [113, 117, 111, 116, 101],
  [45, 50], [45, 49], [48], [50], [51], [52], [53], [54], [55], [56], [57]]
theorem words_ok : words.all okW = true := by decide +kernel
theorem word_ok {w : List UInt8} (h : words.contains w = true) : okW w = true :=
  List.all_eq_true.1 words_ok w (by simpa using h)

/-! ## trees -/
inductive Sx where
  | wd (w : List UInt8)
  | li (l : List Sx)
  | qu (l : List Sx)
mutual
def sxT : Sx → List UInt8
  | .wd w => w
  | .li l => 40 :: (sxTL l ++ [41])
  | .qu l => 39 :: 40 :: (sxTL l ++ [41])
/-- with a blank ahead of each -/
def sxTS : List Sx → List UInt8
  | [] => []
  | x :: l => 32 :: (sxT x ++ sxTS l)
def sxTL : List Sx → List UInt8
  | [] => []
  | x :: l => sxT x ++ sxTS l
end
mutual
def sxD : Sx → Dm
  | .wd w => atD ⟨w.toArray⟩
  | .li l => .mk 4 0 noS (sxDL l)
  | .qu l => .mk 4 0 noS [.mk 3 0 quoteS [], .mk 4 0 noS (sxDL l)]
def sxDL : List Sx → List Dm
  | [] => []
  | x :: l => sxD x :: sxDL l
end
mutual
def sxC : Sx → Nat
  | .wd _ => 1
  | .li l => 1 + sxCL l
  | .qu l => 2 + sxCL l
def sxCL : List Sx → Nat
  | [] => 0
  | x :: l => sxC x + sxCL l
end
mutual
def sxH : Sx → Nat
  | .wd _ => 1
  | .li l => 1 + sxHL l
  | .qu l => 2 + sxHL l
def sxHL : List Sx → Nat
  | [] => 0
  | x :: l => max (sxH x) (sxHL l)
end
mutual
def okX : Sx → Bool
  | .wd w => okW w
  | .li l => okXL l
  | .qu l => okXL l
def okXL : List Sx → Bool
  | [] => true
  | x :: l => okX x && okXL l
end

theorem okW_cons {w : List UInt8} (h : okW w = true) : ∃ b t, w = b :: t ∧ nodel b = true := by
  simp only [okW, Bool.and_eq_true] at h
  match w, h with
  | [], h => simp at h
  | b :: t, h =>
    simp only [List.all_cons, Bool.and_eq_true] at h
    exact ⟨b, t, rfl, h.1.1.2.1⟩
theorem nodel_not {b : UInt8} (h : nodel b = true) : ¬ (b.toNat = 32 ∨ b.toNat = 10 ∨ b.toNat = 9 ∨ b.toNat = 59) ∧ b.toNat ≠ 40 ∧ b.toNat ≠ 41 ∧ b.toNat ≠ 39 := by
  simp only [nodel, Bool.not_eq_true', Bool.or_eq_false_iff, beq_eq_false_iff_ne] at h
  omega
/-- a tree's text begins with no blank, and no parenthesis that closes -/
theorem sxT_head {x : Sx} (h : okX x = true) : ∃ b t, sxT x = b :: t ∧ ¬ (b.toNat = 32 ∨ b.toNat = 10 ∨ b.toNat = 9 ∨ b.toNat = 59) ∧ b.toNat ≠ 41 := by
  cases x with
  | wd w =>
    simp only [okX] at h
    obtain ⟨b, t, e, hb⟩ := okW_cons h
    have := nodel_not hb
    exact ⟨b, t, by simp only [sxT, e], this.1, this.2.2.1⟩
  | li l => exact ⟨40, sxTL l ++ [41], by simp only [sxT], by decide, by decide⟩
  | qu l => exact ⟨39, 40 :: (sxTL l ++ [41]), by simp only [sxT], by decide, by decide⟩
theorem sxC_pos (x : Sx) : 1 ≤ sxC x := by
  cases x <;> simp only [sxC] <;> omega
theorem stops_close (t : List UInt8) : stops (41 :: t) = true := rfl
theorem stops_tail (l : List Sx) (t : List UInt8) : stops (sxTS l ++ 41 :: t) = true := by
  cases l with
  | nil => simp only [sxTS, List.nil_append]; exact stops_close t
  | cons x l => simp only [sxTS, List.cons_append]; rfl

def Dats (s : ByteArray) (lv a c : Int) (r : PR) : Prop := ∃ f, datS s f lv a c = some r
def Liss (s : ByteArray) (lv a c : Int) (acc : List Dm) (r : PR) : Prop := ∃ f, lisS s f lv a c acc = some r

/-- one more of a list, and the others -/
theorem liss_cons {s : ByteArray} {lv a c : Int} {acc : List Dm} {d : Dm} {a' c' : Int} {r : PR} (hb : ¬ (blk s a < s.size ∧ byteAt s (blk s a) = 41)) (h1 : Dats s (lv + 1) (blk s a) c ⟨d, a', c', 0⟩) (h2 : Liss s lv a' c' (acc ++ [d]) r) : Liss s lv a c acc r := by
  obtain ⟨f, hf⟩ := h1
  obtain ⟨g, hg⟩ := h2
  refine ⟨max f g + 1, ?_⟩
  rw [lisS, if_neg hb, datS_mono (Nat.le_max_left f g) hf]
  simp only
  rw [if_neg (by simp), lisS_mono (Nat.le_max_right f g) hg]
/-- one that is refused -/
theorem liss_stop {s : ByteArray} {lv a c : Int} {acc : List Dm} {r : PR} (hb : ¬ (blk s a < s.size ∧ byteAt s (blk s a) = 41)) (h1 : Dats s (lv + 1) (blk s a) c r) (hr : r.e ≠ 0) : Liss s lv a c acc ⟨.mk 4 0 noS acc, r.a, r.c, r.e⟩ := by
  obtain ⟨f, hf⟩ := h1
  refine ⟨f + 1, ?_⟩
  rw [lisS, if_neg hb, hf]
  simp only
  rw [if_pos hr]
theorem liss_close {s : ByteArray} {lv c : Int} {a : Nat} {acc : List Dm} {t : List UInt8} (h : At s a (41 :: t)) : Liss s lv a c acc ⟨.mk 4 0 noS acc, a + 1, c, 0⟩ := by
  obtain ⟨_, h1, h2⟩ := at_cons h
  have hb := blk_stop h (by decide)
  refine ⟨1, ?_⟩
  rw [lisS, hb, if_pos ⟨h2, by rw [h1]; rfl⟩]
theorem dats_open {s : ByteArray} {lv c : Int} {a : Nat} {t : List UInt8} {r : PR} (h : At s a (40 :: t)) (hc : c + 1 ≤ 400) (hl : lv ≤ 40) (h1 : Liss s lv ((a + 1 : Nat) : Int) (c + 1) [] r) : Dats s lv a c r := by
  obtain ⟨_, h2, h3⟩ := at_cons h
  have h2 : byteAt s a = 40 := by rw [h2]; rfl
  have hb := blk_stop h (by decide)
  obtain ⟨f, hf⟩ := h1
  refine ⟨f + 1, ?_⟩
  rw [datS, hb, if_neg (by omega), if_neg (by omega), if_neg (by omega), if_neg (by omega), if_neg (by omega), if_pos h2, ← cast1, hf]
theorem dats_quote {s : ByteArray} {lv c : Int} {a : Nat} {t : List UInt8} {r : PR} (h : At s a (39 :: t)) (hc : c + 1 ≤ 400) (hl : lv ≤ 40) (h1 : Dats s (lv + 1) ((a + 1 : Nat) : Int) (c + 1) r) :
    Dats s lv a c ⟨.mk 4 0 noS [.mk 3 0 quoteS [], r.d], r.a, r.c, r.e⟩ := by
  obtain ⟨_, h2, h3⟩ := at_cons h
  have h2 : byteAt s a = 39 := by rw [h2]; rfl
  have hb := blk_stop h (by decide)
  obtain ⟨f, hf⟩ := h1
  refine ⟨f + 1, ?_⟩
  rw [datS, hb, if_neg (by omega), if_neg (by omega), if_neg (by omega), if_neg (by omega), if_pos h2, ← cast1, hf]
  rfl
/-- a word, whatever it is -/
theorem dats_word {s : ByteArray} {lv c : Int} {a : Nat} {b : UInt8} {w post : List UInt8} (h : At s a ((b :: w) ++ post)) (hp : stops post = true) (hw : ((b :: w).all nodel) = true) (hc : c + 1 ≤ 400) (hl : lv ≤ 40) :
    Dats s lv a c ⟨atD ⟨(b :: w).toArray⟩, if atE ⟨(b :: w).toArray⟩ = 0 then ((a + (b :: w).length : Nat) : Int) else a, c + 1, atE ⟨(b :: w).toArray⟩⟩ := by
  have h' : At s a (b :: (w ++ post)) := h
  obtain ⟨_, h2, h3⟩ := at_cons h'
  have hb1 : nodel b = true := by simp only [List.all_cons, Bool.and_eq_true] at hw; exact hw.1
  have hn := nodel_not hb1
  have hb := blk_stop h' hn.1
  have e1 := word_at hp h hw
  have e2 := wend_word hp _ _ h hw
  refine ⟨1, ?_⟩
  rw [datS, hb, if_neg (by omega), if_neg (by omega), if_neg (by omega), if_neg (by omega), if_neg (by omega), if_neg (by omega), e1, e2]
theorem dats_short {s : ByteArray} {lv c : Int} {a : Nat} (h : At s a []) : Dats s lv a c ⟨d0, a, c, 5⟩ := by
  have hb := blk_end h
  have := at_nil h
  refine ⟨1, ?_⟩
  rw [datS, hb, if_pos this]
theorem dats_blk {s : ByteArray} {lv a c : Int} {r : PR} (h : Dats s lv (blk s a) c r) (hb : blk s (blk s a) = blk s a) : Dats s lv a c r := by
  obtain ⟨f, hf⟩ := h
  cases f with
  | zero => simp [datS] at hf
  | succ f =>
    refine ⟨f + 1, ?_⟩
    rw [datS, hb] at hf
    rw [datS]
    exact hf

mutual
theorem dat_parse : ∀ (x : Sx), okX x = true → ∀ (s : ByteArray) (lv c : Int) (a : Nat) (post : List UInt8), At s a (sxT x ++ post) → stops post = true → lv + sxH x ≤ 41 → c + sxC x ≤ 400 →
    Dats s lv a c ⟨sxD x, ((a + (sxT x).length : Nat) : Int), c + sxC x, 0⟩
  | .wd w, hx, s, lv, c, a, post, h, hp, hl, hc => by
    simp only [okX] at hx
    obtain ⟨b, t, rfl, _⟩ := okW_cons hx
    simp only [okW, Bool.and_eq_true, beq_iff_eq] at hx
    simp only [sxT, sxH, sxC, sxD] at h hl hc ⊢
    have := dats_word (lv := lv) (c := c) h hp hx.1.1.2 (by omega) (by omega)
    rw [if_pos hx.1.2, hx.1.2] at this
    exact this
  | .li l, hx, s, lv, c, a, post, h, hp, hl, hc => by
    simp only [okX] at hx
    simp only [sxT, sxH, sxC, sxD] at h hl hc ⊢
    have h' : At s a (40 :: (sxTL l ++ 41 :: post)) := by simpa using h
    have := lis_parse l hx s lv (c + 1) (a + 1) [] post (at_cons h').1 (by omega) (by omega)
    refine dats_open h' (by omega) (by omega) ?_
    have e1 : ((a + (40 :: (sxTL l ++ [41])).length : Nat) : Int) = ((a + 1 + (sxTL l).length + 1 : Nat) : Int) := by simp; omega
    have e2 : c + ((1 + sxCL l : Nat) : Int) = c + 1 + sxCL l := by omega
    rw [e1, e2]
    simpa using this
  | .qu l, hx, s, lv, c, a, post, h, hp, hl, hc => by
    simp only [okX] at hx
    simp only [sxT, sxH, sxC, sxD] at h hl hc ⊢
    have h' : At s a (39 :: 40 :: (sxTL l ++ 41 :: post)) := by simpa using h
    have h'' := (at_cons h').1
    have := lis_parse l hx s (lv + 1) (c + 1 + 1) (a + 1 + 1) [] post (at_cons h'').1 (by omega) (by omega)
    have := dats_open (lv := lv + 1) (c := c + 1) h'' (by omega) (by omega) this
    have := dats_quote (lv := lv) (c := c) h' (by omega) (by omega) this
    have e1 : ((a + (39 :: 40 :: (sxTL l ++ [41])).length : Nat) : Int) = ((a + 1 + 1 + (sxTL l).length + 1 : Nat) : Int) := by simp; omega
    have e2 : c + ((2 + sxCL l : Nat) : Int) = c + 1 + 1 + sxCL l := by omega
    rw [e1, e2]
    simpa using this
theorem lis_parse : ∀ (l : List Sx), okXL l = true → ∀ (s : ByteArray) (lv c : Int) (a : Nat) (acc : List Dm) (post : List UInt8), At s a (sxTL l ++ 41 :: post) → lv + 1 + sxHL l ≤ 41 → c + sxCL l ≤ 400 →
    Liss s lv a c acc ⟨.mk 4 0 noS (acc ++ sxDL l), ((a + (sxTL l).length + 1 : Nat) : Int), c + sxCL l, 0⟩
  | [], hx, s, lv, c, a, acc, post, h, hl, hc => by
    simp only [sxTL, sxDL, sxCL, List.nil_append] at h ⊢
    have := liss_close (lv := lv) (c := c) (acc := acc) h
    simpa using this
  | x :: l, hx, s, lv, c, a, acc, post, h, hl, hc => by
    simp only [okXL, Bool.and_eq_true] at hx
    simp only [sxTL, sxHL, sxDL, sxCL] at h hl hc ⊢
    rw [List.append_assoc] at h
    have h1 := dat_parse x hx.1 s (lv + 1) c a _ h (stops_tail l post) (by omega) (by omega)
    obtain ⟨b, t, e, hb, hb'⟩ := sxT_head hx.1
    have h0 : At s a (b :: (t ++ (sxTS l ++ 41 :: post))) := by rw [e] at h; exact h
    have eb := blk_stop h0 hb
    have hy := (at_cons h0).2.1
    have h2 := lis_tail l hx.2 s lv (c + sxC x) (a + (sxT x).length) (acc ++ [sxD x]) post (at_app h) (by omega) (by omega)
    have h3 := liss_cons (acc := acc) (lv := lv) (a := a) (by rw [eb]; omega) (by rw [eb]; exact h1) h2
    have e1 : ((a + (sxT x ++ sxTS l).length + 1 : Nat) : Int) = ((a + (sxT x).length + (sxTS l).length + 1 : Nat) : Int) := by simp; omega
    have e2 : c + ((sxC x + sxCL l : Nat) : Int) = c + sxC x + sxCL l := by omega
    rw [e1, e2]
    simpa using h3
theorem lis_tail : ∀ (l : List Sx), okXL l = true → ∀ (s : ByteArray) (lv c : Int) (a : Nat) (acc : List Dm) (post : List UInt8), At s a (sxTS l ++ 41 :: post) → lv + 1 + sxHL l ≤ 41 → c + sxCL l ≤ 400 →
    Liss s lv a c acc ⟨.mk 4 0 noS (acc ++ sxDL l), ((a + (sxTS l).length + 1 : Nat) : Int), c + sxCL l, 0⟩
  | [], hx, s, lv, c, a, acc, post, h, hl, hc => by
    simp only [sxTS, sxDL, sxCL, List.nil_append] at h ⊢
    have := liss_close (lv := lv) (c := c) (acc := acc) h
    simpa using this
  | x :: l, hx, s, lv, c, a, acc, post, h, hl, hc => by
    simp only [okXL, Bool.and_eq_true] at hx
    simp only [sxTS, sxHL, sxDL, sxCL] at h hl hc ⊢
    have h : At s a (32 :: (sxT x ++ (sxTS l ++ 41 :: post))) := by simpa using h
    have hg := blk_go h (.inl rfl)
    have h' := (at_cons h).1
    have h1 := dat_parse x hx.1 s (lv + 1) c (a + 1) _ h' (stops_tail l post) (by omega) (by omega)
    obtain ⟨b, t, e, hb, hb'⟩ := sxT_head hx.1
    have h0 : At s (a + 1) (b :: (t ++ (sxTS l ++ 41 :: post))) := by rw [e] at h'; exact h'
    have eb := blk_stop h0 hb
    have hy := (at_cons h0).2.1
    have h2 := lis_tail l hx.2 s lv (c + sxC x) (a + 1 + (sxT x).length) (acc ++ [sxD x]) post (at_app h') (by omega) (by omega)
    have h3 := liss_cons (acc := acc) (lv := lv) (a := a) (by rw [hg, eb]; omega) (by rw [hg, eb]; exact h1) h2
    have e1 : ((a + (32 :: (sxT x ++ sxTS l)).length + 1 : Nat) : Int) = ((a + 1 + (sxT x).length + (sxTS l).length + 1 : Nat) : Int) := by simp; omega
    have e2 : c + ((sxC x + sxCL l : Nat) : Int) = c + sxC x + sxCL l := by omega
    rw [e1, e2]
    simpa using h3
end

/-! ## a text that is cut -/
theorem okW_take {w : List UInt8} (h : okW w = true) {k : Nat} (h1 : 1 ≤ k) (h2 : k < w.length) : ((w.take k).all nodel) = true ∧ (atE ⟨(w.take k).toArray⟩ = 0 ∨ atE ⟨(w.take k).toArray⟩ = 4) := by
  simp only [okW, Bool.and_eq_true] at h
  refine ⟨List.all_eq_true.2 fun b hb => List.all_eq_true.1 h.1.1.2 b (List.mem_of_mem_take hb), ?_⟩
  have := List.all_eq_true.1 h.2 k (List.mem_range.2 h2)
  simp only [Bool.or_eq_true, beq_iff_eq, okP] at this
  omega
/-- how a text that is cut ends: it is too short; or a word is odd; or a word ends -/
def Torn (s : ByteArray) (r : PR) : Prop := (r.e = 5 ∧ r.a = s.size) ∨ (r.e = 4 ∧ 0 ≤ r.a ∧ r.a < s.size)
theorem torn_e {s : ByteArray} {r : PR} (h : Torn s r) : r.e ≠ 0 := by unfold Torn at h; omega

/-- a word's beginning -/
theorem word_torn {w : List UInt8} (hx : okW w = true) {s : ByteArray} {lv c : Int} {a k : Nat} (h1 : 1 ≤ k) (h2 : k < w.length) (h : At s a (w.take k)) (hc : c + 1 ≤ 400) (hl : lv ≤ 40) :
    ∃ r, Dats s lv a c r ∧ (Torn s r ∨ (r.e = 0 ∧ r.a = s.size ∧ r.c = c + 1)) := by
  obtain ⟨k1, k2⟩ := okW_take hx h1 h2
  have hlen : (w.take k).length = k := by rw [List.length_take]; omega
  match hw : w.take k, h, k1, k2, hlen with
  | [], _, _, _, h => simp at h; omega
  | b :: t, h, k1, k2, hlen =>
    have h' : At s a ((b :: t) ++ []) := by rw [List.append_nil]; exact h
    have hd := dats_word (lv := lv) (c := c) h' rfl k1 hc hl
    have hz := at_len h
    refine ⟨_, hd, ?_⟩
    rcases k2 with e | e
    · right
      rw [if_pos e]
      exact ⟨e, by simp only; omega, rfl⟩
    · left; right
      simp only
      rw [e, if_neg (by decide)]
      exact ⟨rfl, by omega, by omega⟩

def DT (x : Sx) : Prop := ∀ (s : ByteArray) (lv c : Int) (a k : Nat), At s a ((sxT x).take k) → k < (sxT x).length → lv + sxH x ≤ 41 → c + sxC x ≤ 400 →
    ∃ r, Dats s lv a c r ∧ (Torn s r ∨ (r.e = 0 ∧ r.a = s.size ∧ r.c ≤ c + sxC x))
def TT (l : List Sx) : Prop := ∀ (s : ByteArray) (lv c : Int) (a k : Nat) (acc : List Dm), At s a ((sxTS l ++ [41]).take k) → k < (sxTS l ++ [41]).length → lv + 1 + sxHL l ≤ 41 → c + sxCL l ≤ 400 →
    ∃ r, Liss s lv a c acc r ∧ Torn s r
def LT (l : List Sx) : Prop := ∀ (s : ByteArray) (lv c : Int) (a k : Nat) (acc : List Dm), At s a ((sxTL l ++ [41]).take k) → k < (sxTL l ++ [41]).length → lv + 1 + sxHL l ≤ 41 → c + sxCL l ≤ 400 →
    ∃ r, Liss s lv a c acc r ∧ Torn s r
theorem item_torn (x : Sx) (l : List Sx) (hx : okX x = true) (hD : DT x) (hT : TT l) (s : ByteArray) (lv c : Int) (a k : Nat) (acc : List Dm) (h : At s a ((sxT x ++ (sxTS l ++ [41])).take k)) (hk : k < (sxT x ++ (sxTS l ++ [41])).length)
    (hl : lv + 1 + max (sxH x) (sxHL l) ≤ 41) (hc : c + (sxC x + sxCL l) ≤ 400) : ∃ r, Liss s lv a c acc r ∧ Torn s r := by
  have hcp := sxC_pos x
  have hk2 : k < (sxT x).length + ((sxTS l).length + 1) := by simpa using hk
  by_cases hk1 : k < (sxT x).length
  · -- within the first
    have h : At s a ((sxT x).take k) := by rw [List.take_append_of_le_length (by omega)] at h; exact h
    obtain ⟨r, h1, h2⟩ := hD s (lv + 1) c a k h hk1 (by omega) (by omega)
    have hb : blk s a = a ∧ ¬ ((a : Int) < s.size ∧ byteAt s a = 41) := by
      obtain ⟨b, t, e, hb, hb'⟩ := sxT_head hx
      rw [e] at h
      cases k with
      | zero =>
        have h : At s a [] := by simpa using h
        have := at_nil h
        exact ⟨blk_end h, by omega⟩
      | succ k =>
        have h : At s a (b :: t.take k) := by simpa using h
        exact ⟨blk_stop h hb, by rw [(at_cons h).2.1]; omega⟩
    rcases h2 with h2 | ⟨e1, e2, e3⟩
    · exact ⟨_, liss_stop (by rw [hb.1]; exact hb.2) (by rw [hb.1]; exact h1) (torn_e h2), h2⟩
    · -- a word ends, and the text
      have hz := at_len h
      have hend : At s s.size [] := ⟨Nat.le_refl _, by rw [List.drop_eq_nil_iff]; exact Nat.le_refl _⟩
      have h3 : Liss s lv (s.size : Nat) r.c (acc ++ [r.d]) ⟨.mk 4 0 noS (acc ++ [r.d]), s.size, r.c, 5⟩ :=
        liss_stop (r := ⟨d0, (s.size : Nat), r.c, 5⟩) (by rw [blk_end hend]; omega) (by rw [blk_end hend]; exact dats_short hend) (by simp)
      have h1' : Dats s (lv + 1) (blk s a) c ⟨r.d, ((s.size : Nat) : Int), r.c, 0⟩ := by
        rw [hb.1, ← e2, ← e1]; exact h1
      exact ⟨_, liss_cons (by rw [hb.1]; exact hb.2) h1' h3, .inl ⟨rfl, rfl⟩⟩
  · -- behind it
    have e : (sxT x ++ (sxTS l ++ [41])).take k = sxT x ++ (sxTS l ++ [41]).take (k - (sxT x).length) := by
      rw [List.take_append, List.take_of_length_le (by omega)]
    rw [e] at h
    have hst : stops ((sxTS l ++ [41]).take (k - (sxT x).length)) = true := by
      cases k - (sxT x).length with
      | zero => simp [stops]
      | succ m =>
        cases l with
        | nil => simp only [sxTS, List.nil_append, List.take_succ_cons]; rfl
        | cons y l => simp only [sxTS, List.cons_append, List.take_succ_cons]; rfl
    have h1 := dat_parse x hx s (lv + 1) c a _ h hst (by omega) (by omega)
    obtain ⟨b, t, e', hb, hb'⟩ := sxT_head hx
    have h0 : At s a (b :: (t ++ (sxTS l ++ [41]).take (k - (sxT x).length))) := by rw [e'] at h; rw [e']; exact h
    have eb := blk_stop h0 hb
    have hy := (at_cons h0).2.1
    obtain ⟨r, h2, h3⟩ := hT s lv (c + sxC x) (a + (sxT x).length) (k - (sxT x).length) (acc ++ [sxD x]) (at_app h) (by simp; omega) (by omega) (by omega)
    exact ⟨r, liss_cons (by rw [eb]; omega) (by rw [eb]; exact h1) h2, h3⟩
theorem torn_nil {s : ByteArray} {lv c : Int} {a : Nat} {acc : List Dm} (h : At s a []) : ∃ r, Liss s lv a c acc r ∧ Torn s r := by
  have := at_nil h
  exact ⟨_, liss_stop (by rw [blk_end h]; omega) (by rw [blk_end h]; exact dats_short h) (by simp), .inl ⟨rfl, this⟩⟩
mutual
theorem dat_torn : ∀ (x : Sx), okX x = true → DT x
  | .wd w, hx => by
    intro s lv c a k h hk hl hc
    cases k with
    | zero =>
      have h : At s a [] := by simpa using h
      exact ⟨_, dats_short h, .inl (.inl ⟨rfl, at_nil h⟩)⟩
    | succ k =>
    simp only [okX] at hx
    simp only [sxT, sxH, sxC] at h hk hl hc ⊢
    obtain ⟨r, h1, h2⟩ := word_torn hx (lv := lv) (c := c) (by omega) hk h (by omega) (by omega)
    exact ⟨r, h1, h2.imp id fun ⟨e1, e2, e3⟩ => ⟨e1, e2, by omega⟩⟩
  | .li l, hx => by
    intro s lv c a k h hk hl hc
    cases k with
    | zero =>
      have h : At s a [] := by simpa using h
      exact ⟨_, dats_short h, .inl (.inl ⟨rfl, at_nil h⟩)⟩
    | succ k =>
    simp only [okX] at hx
    simp only [sxT, sxH, sxC] at h hk hl hc ⊢
    have h : At s a (40 :: (sxTL l ++ [41]).take k) := by simpa using h
    obtain ⟨r, h1, h2⟩ := lis_torn l hx s lv (c + 1) (a + 1) k [] (at_cons h).1 (Nat.lt_of_succ_lt_succ hk) (by omega) (by omega)
    exact ⟨r, dats_open h (by omega) (by omega) h1, .inl h2⟩
  | .qu l, hx => by
    intro s lv c a k h hk hl hc
    cases k with
    | zero =>
      have h : At s a [] := by simpa using h
      exact ⟨_, dats_short h, .inl (.inl ⟨rfl, at_nil h⟩)⟩
    | succ k =>
    simp only [okX] at hx
    simp only [sxT, sxH, sxC] at h hk hl hc ⊢
    cases k with
    | zero =>
      have h : At s a [39] := by simpa using h
      have h0 := (at_cons h).1
      have := at_nil h0
      exact ⟨_, dats_quote h (by omega) (by omega) (dats_short h0), .inl (.inl ⟨rfl, this⟩)⟩
    | succ k =>
    have h : At s a (39 :: 40 :: (sxTL l ++ [41]).take k) := by simpa using h
    have h0 := (at_cons h).1
    obtain ⟨r, h1, h2⟩ := lis_torn l hx s (lv + 1) (c + 1 + 1) (a + 1 + 1) k [] (at_cons h0).1 (Nat.lt_of_succ_lt_succ (Nat.lt_of_succ_lt_succ hk)) (by omega) (by omega)
    exact ⟨_, dats_quote h (by omega) (by omega) (dats_open h0 (by omega) (by omega) h1), .inl h2⟩
theorem lis_torn : ∀ (l : List Sx), okXL l = true → LT l
  | [], hx => by
    intro s lv c a k acc h hk hl hc
    simp only [sxTL, List.nil_append] at h hk
    have h : At s a [] := by
      have : k = 0 := by simpa using hk
      subst this
      simpa using h
    exact torn_nil h
  | x :: l, hx => by
    intro s lv c a k acc h hk hl hc
    simp only [okXL, Bool.and_eq_true] at hx
    simp only [sxTL, sxHL, sxCL] at h hk hl hc ⊢
    rw [List.append_assoc] at h hk
    exact item_torn x l hx.1 (dat_torn x hx.1) (tail_torn l hx.2) s lv c a k acc h hk (by omega) (by omega)
theorem tail_torn : ∀ (l : List Sx), okXL l = true → TT l
  | [], hx => by
    intro s lv c a k acc h hk hl hc
    simp only [sxTS, List.nil_append] at h hk
    have h : At s a [] := by
      have : k = 0 := by simpa using hk
      subst this
      simpa using h
    exact torn_nil h
  | x :: l, hx => by
    intro s lv c a k acc h hk hl hc
    cases k with
    | zero => exact torn_nil (by simpa using h)
    | succ k =>
    simp only [okXL, Bool.and_eq_true] at hx
    simp only [sxTS, sxHL, sxCL] at h hk hl hc ⊢
    have h : At s a (32 :: (sxT x ++ (sxTS l ++ [41])).take k) := by simpa using h
    have hg := blk_go h (.inl rfl)
    have hk : k < (sxT x ++ (sxTS l ++ [41])).length := by
      simp only [List.length_cons, List.cons_append, List.append_assoc] at hk; omega
    obtain ⟨r, h1, h2⟩ := item_torn x l hx.1 (dat_torn x hx.1) (tail_torn l hx.2) s lv c (a + 1) k acc (at_cons h).1 hk (by omega) (by omega)
    refine ⟨r, ?_, h2⟩
    obtain ⟨f, hf⟩ := h1
    cases f with
    | zero => simp [lisS] at hf
    | succ f =>
      refine ⟨f + 1, ?_⟩
      have eb : blk s (blk s ((a + 1 : Nat) : Int)) = blk s ((a + 1 : Nat) : Int) → True := fun _ => trivial
      rw [lisS] at hf ⊢
      rw [hg]
      exact hf
end
end Rd
