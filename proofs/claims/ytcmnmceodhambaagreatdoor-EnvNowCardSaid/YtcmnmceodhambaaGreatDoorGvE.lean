/- A number that is picked, told as it is said to be. -/
import Derived.Test.YtcmnmceodhambaaGreatDoorGvO
set_option linter.unusedSimpArgs false
set_option linter.unusedVariables false
open Rx Go
namespace Gv
open Rd
theorem jQ {n m k : Int} (h0 : 0 < m) (h1 : m <= 1000000) (h : aN n m = k) : aL prog 16 ⟨0, [any n, I m], [], I k, []⟩ := by
 refine ⟨by rfl, fun X w vs hw _ hn hr => ⟨c16, ?_⟩⟩
 obtain ⟨v, _, rfl, g1, v2, _, rfl, g2, rfl⟩ := hr
 have e1 : v = .int .i64 n := g1.1
 have e2 : v2 = .int .i64 m := g2
 subst e1; subst e2
 have i1 := g1.2.1
 have i2 := g1.2.2
 have hc := lu (rW n m) ⟨⟨by omega, by omega⟩, by omega⟩
 refine (hc X w _ (fun y => y = _) hw (fun i ob hi => by simp at hi) (fun i hi => hn i (Nat.zero_le _)) ⟨_, _, rfl, ah.2 rfl, _, _, rfl, ah.2 rfl, rfl⟩ rfl).mono ?_
 rintro e w' ⟨v, C', y, rfl, rfl, hst, hwf, hnu, hv, _⟩
 refine ⟨v, C', id, rfl, hst.mono fun i hi => by simp at hi, hwf, fun i hi => absurd hi (Nat.not_lt_zero i), fun i hi => rfl, fun i _ hi => absurd hi (Nat.not_lt_zero i), fun i j _ hi => absurd hi (Nat.not_lt_zero i), ?_, fun t ob ht => by simp at ht⟩
 have hv := ah.1 hv
 rw [h] at hv
 exact hv
end Gv
