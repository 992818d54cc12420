/- ReadBack in plain words. -/
import Derived.Test.YtnalaogenpicfaaDoorRdX
import Derived.Test.YtnalaogenpicfaaDoorRdT
set_option linter.unusedSimpArgs false
set_option linter.unusedVariables false
open Rx Go
namespace Rd
theorem back_plain (l : Rw) : Ctr prog f_ReadBack [rawsD l] [] (.need (okR l) (.ret (vB true, []))) := by
  refine ctr_need fun hR => ?_
  obtain ⟨X⟩ := xt l
  have hz := exprX_size l
  have hN := sxN X.x X.ok
  have hC := X.count
  have hh := X.high
  have hok := unq_ok X.x X.ok
  have ht := wr_tree X.x X.ok
  have hl : (sxT X.x).length ≤ 250 := by rw [X.text, sz_list]; exact hz
  have h4 := unq_t X.x
  have hu := unq_h X.x
  have hc := unq_c X.x X.ok
  obtain ⟨b, t, e, _, _⟩ := sxT_head hok
  have hd := unq_d X.x
  have h2 : Reads ⟨(wrD (sxD X.x)).toArray⟩ ⟨[sxD X.x], 0, 0⟩ := by
    have := read_plain (s := ⟨(wrD (sxD X.x)).toArray⟩) (x := unq X.x) hok (by rw [ht]) (by omega) (by omega)
    rw [hd] at this
    exact this
  obtain ⟨g, g1, g2⟩ := reads_two (xt_read X) h2
  have hn0 : wrD (sxD X.x) ≠ [] := by rw [ht, e]; simp
  have hlen : (wrD (sxD X.x)).length ≤ 1000 := by rw [ht]; omega
  intro C w vs post hw ho hn' hv hp
  exact back_law g l (d := sxD X.x) (by omega) (gd_tree X.x X.ok 1 (by omega)) hn0 (by omega) C w vs post hw ho hn' hv
    ⟨⟨hR, ⟨by omega, g1⟩, ⟨by simp only [sz_mk, List.size_toArray]; omega, g2⟩, hn0⟩, hp⟩
end Rd
