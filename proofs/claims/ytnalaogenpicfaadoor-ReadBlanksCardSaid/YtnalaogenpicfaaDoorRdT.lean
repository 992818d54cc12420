/- Raw things that are handed in; three laws in plain words. -/
import Derived.Test.YtnalaogenpicfaaDoorRdS
import Derived.Test.YtnalaogenpicfaaDoorRdW
import Derived.RowKit
set_option linter.unusedSimpArgs false
set_option linter.unusedVariables false
open Rx Go Go.RowKit
namespace Rd
variable {H : Type} {enc : TypeId × Value → H} {w : World} {base : Nat} {spare : Nat → Bool} {held : Bool}
set_option maxRecDepth 100000 in
theorem open_raws {r : Reach} {b0 : Nat} {v : Value} {d : DataW H} {ps : List MemPlace} (hval : Value.okWide prog w r b0 tRaws v) (hd : DataW.Trod enc prog w base spare held tRaws v d ps) :
    ∃ l : Rw, okR l ∧ Rep w (.arr 4 l.length (rowsF l)) v := by
  obtain ⟨l, h1, h2, h3⟩ := open_rows (n := 4) Go.Proofs.Tryd.underlying22 (by kernel_rfl) (by omega)
    (fun fuel cs y h => rows_four (ti := 3) Go.Proofs.Tryd.underlying60 Go.Proofs.Tryd.underlying3 ⟨rfl, rfl⟩ ⟨rfl, rfl⟩ ⟨rfl, rfl⟩ ⟨rfl, rfl⟩ (by kernel_rfl) (by kernel_rfl) h) hval hd
  refine ⟨l, fun p j => ?_, h3⟩
  have zero : ∀ j, isInt (([] : List Int).getD j 0) := fun j => by
    rw [List.getD_eq_getElem?_getD, List.getElem?_nil]; exact ⟨by decide, by decide⟩
  unfold rw'
  rw [List.getD_eq_getElem?_getD (l := l)]
  cases hp : l[p]? with
  | none => exact zero j
  | some ks =>
    rw [Option.getD_some, List.getD_eq_getElem?_getD]
    cases hj : ks[j]? with
    | none => exact ⟨by decide, by decide⟩
    | some k => exact (h1 ks (List.mem_of_getElem? hp)).2 k (List.mem_of_getElem? hj)

theorem reads_two {s t : ByteArray} {r q : RR} (h : Reads s r) (h' : Reads t q) : ∃ g, readS g s = some r ∧ readS g t = some q := by
  obtain ⟨f, hf⟩ := h
  obtain ⟨g, hg⟩ := h'
  exact ⟨max f g, readS_mono (Nat.le_max_left _ _) hf, readS_mono (Nat.le_max_right _ _) hg⟩

theorem blanks_plain (l : Rw) (n : Int) : Ctr prog f_ReadBlanks [rawsD l, vI .i64 n] [] (.need (okR l ∧ isInt n) (.ret (vB true, []))) := by
  refine ctr_need fun ⟨hR, hn⟩ => ?_
  obtain ⟨X⟩ := xt l
  have q1 := pickedS_range (n := n) (m := 4) (by decide)
  have q2 := pickedS_range (n := n) (m := 3) (by decide)
  obtain ⟨g1, h1, h2⟩ := reads_two (xt_read X) (xt_blanks X (i := (pickedS n 4).toNat) (j := (pickedS n 3).toNat) (by omega) (by omega))
  obtain ⟨g2, h3⟩ := a_reads
  have hz := exprX_size l
  have hN := sxN X.x X.ok
  have hC := X.count
  have z1 : (preS.getD (pickedS n 4).toNat noS).size ≤ 16 := getD_szc (by decide)
  have z2 : (postS.getD (pickedS n 3).toNat noS).size ≤ 16 := getD_szc (by decide)
  intro C w vs post hw ho hn' hv hp
  exact blanks_law (max g1 g2) l n (sxD X.x) (by omega) C w vs post hw ho hn' hv ⟨⟨hn, hR, ⟨by omega, readS_mono (Nat.le_max_left _ _) h1⟩,
    ⟨by unfold blText; rw [ByteArray.size_append, ByteArray.size_append]; omega, readS_mono (Nat.le_max_left _ _) h2⟩, readS_mono (Nat.le_max_right _ _) h3, by omega⟩, hp⟩

theorem quote_plain (l : Rw) : Ctr prog f_ReadQuote [rawsD l] [] (.need (okR l) (.ret (vB true, []))) := by
  refine ctr_need fun hR => ?_
  obtain ⟨X⟩ := xt l
  obtain ⟨g, h1, h2⟩ := reads_two (xt_quote X) (xt_quoted X)
  have hz := exprX_size l
  have hN := sxN X.x X.ok
  have hC := X.count
  have hd : dmN (.mk 4 0 noS [.mk 3 0 quoteS [], sxD X.x]) ≤ 1000000 := by simp only [dmN, dmNL]; omega
  have y1 : (ByteArray.mk #[39]).size = 1 := rfl
  have y2 : (ByteArray.mk #[40, 113, 117, 111, 116, 101, 32]).size = 7 := rfl
  have y3 : (ByteArray.mk #[41]).size = 1 := rfl
  intro C w vs post hw ho hn' hv hp
  exact qu_law g l _ hd C w vs post hw ho hn' hv ⟨⟨hR, ⟨by unfold quT1; rw [ByteArray.size_append, y1]; omega, h1⟩, ⟨by unfold quT2; rw [ByteArray.size_append, ByteArray.size_append, y2, y3]; omega, h2⟩, hd⟩, hp⟩

theorem torn_plain (l : Rw) (n : Int) : Ctr prog f_ReadTorn [rawsD l, vI .i64 n] [] (.need (okR l ∧ isInt n) (.ret (vB true, []))) := by
  refine ctr_need fun ⟨hR, hn⟩ => ?_
  obtain ⟨X⟩ := xt l
  have hps := par_size l
  have q := pickedS_range (n := n) (m := ((parS l).size : Int) - 1) (by omega)
  have e : ((toK l n).toNat : Int) = toK l n := by unfold toK; omega
  obtain ⟨r, h1, h2⟩ := xt_torn X (k := (toK l n).toNat) (by unfold toK; omega) (by unfold toK; omega)
  obtain ⟨g, g1, g2⟩ := reads_two h1 (xt_more X)
  rw [e] at h2
  intro C w vs post hw ho hn' hv hp
  exact to_law g l n r C w vs post hw ho hn' hv ⟨⟨hn, hR, g1, h2, g2⟩, hp⟩
end Rd
