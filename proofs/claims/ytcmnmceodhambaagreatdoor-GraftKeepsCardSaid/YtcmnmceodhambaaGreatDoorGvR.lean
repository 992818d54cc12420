/- A law that is run to its end. -/
import Derived.Test.YtcmnmceodhambaaGreatDoorGvS
set_option linter.unusedSimpArgs false
set_option linter.unusedVariables false
open Rx Go
namespace Gv
open Rd

noncomputable def runL (tbl : List (Nat × List Dx)) (f : FuncId) (al : List SV) : R := runG prog (F tbl) fl win 4000 100 16000000 0 f al .nil 0 fun s _ _ => .ret (s, ⟨.nil, 0⟩)

theorem law_run {tbl : List (Nat × List Dx)} {f : FuncId} {al : List SV} {w : World} {vs : List Value} (hgl : Pers C0.W w Glob.ok) (hr : relL C0 w al vs) (h : (runL tbl f al).holds fun y => y.1 = .kb true) :
    Calls prog f vs.toArray w fun e w' => e = .returned (.bool true) ∧ Same w w' := by
  have h1 := runG_ref (deps_ok tbl) 100 16000000 0 f al .nil 0 (fun s _ _ => .ret (s, ⟨.nil, 0⟩)) (fun y => y.1 = .kb true) (fun i _ => rfl) ⟨Nat.zero_le _, by decide⟩ h
  have h2 := (runI_ok (deps_ok tbl) 100 16000000 0 f al ⟨getO .nil, 0⟩).1
  obtain ⟨_, h3⟩ := h2 C0 w vs _ ⟨C0_WF w hgl, fun i ob hi => (by cases hi), fun _ _ _ => rfl⟩ hr h1
  refine h3.mono ?_
  rintro e w' ⟨v, C', y, rfl, ⟨ob', _, hy⟩, hst, _, hv, _⟩
  have hy : y.1 = .kb true := hy
  rw [hy] at hv
  have hv : v = .bool true := hv
  subst hv
  refine ⟨rfl, ?_⟩
  have hst0 : Step (fun _ => False) C0 w C' w' :=
    ⟨hst.ext, hst.w0, hst.own, fun i b _ h => (by cases h), hst.ag.mono fun k _ ⟨i, _, hi⟩ => (by cases hi)⟩
  exact same_of_step hst0
end Gv
