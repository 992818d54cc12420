/- Cases of ShowLong. Printed by genSLrun.py. -/
import Derived.Test.YtkbdcpkbmfegdaaGreatDoorSGvUShowLong
set_option linter.unusedSimpArgs false
set_option linter.unusedVariables false
set_option maxRecDepth 100000
open Rx Go
namespace Gv
open Rd LShowLong
theorem sl2 : SlW 2 := fun n => ⟨by kernel_rfl, by kernel_rfl⟩
theorem sl6 : SlW 6 := fun n => ⟨by kernel_rfl, by kernel_rfl⟩
theorem aiR : SlW 10 := fun n => ⟨by kernel_rfl, by kernel_rfl⟩
theorem aiV : SlW 14 := fun n => ⟨by kernel_rfl, by kernel_rfl⟩
theorem aiZ : SlW 18 := fun n => ⟨by kernel_rfl, by kernel_rfl⟩
theorem ai3 : SlW 22 := fun n => ⟨by kernel_rfl, by kernel_rfl⟩
theorem ai7 : SlW 26 := fun n => ⟨by kernel_rfl, by kernel_rfl⟩
theorem ajb : SlW 30 := fun n => ⟨by kernel_rfl, by kernel_rfl⟩
theorem ajf : SlW 34 := fun n => ⟨by kernel_rfl, by kernel_rfl⟩
theorem ajj : SlW 38 := fun n => ⟨by kernel_rfl, by kernel_rfl⟩
theorem ajn : SlW 42 := fun n => ⟨by kernel_rfl, by kernel_rfl⟩
theorem ajr : SlW 46 := fun n => ⟨by kernel_rfl, by kernel_rfl⟩
theorem ajv : SlW 50 := fun n => ⟨by kernel_rfl, by kernel_rfl⟩
theorem ajz : SlW 54 := fun n => ⟨by kernel_rfl, by kernel_rfl⟩
theorem ajD : SlW 58 := fun n => ⟨by kernel_rfl, by kernel_rfl⟩
theorem ajH : SlW 62 := fun n => ⟨by kernel_rfl, by kernel_rfl⟩
theorem ajL : SlW 66 := fun n => ⟨by kernel_rfl, by kernel_rfl⟩
theorem ajP : SlW 70 := fun n => ⟨by kernel_rfl, by kernel_rfl⟩
theorem ajT : SlW 74 := fun n => ⟨by kernel_rfl, by kernel_rfl⟩
theorem ajX : SlW 78 := fun n => ⟨by kernel_rfl, by kernel_rfl⟩
end Gv
set_option linter.unusedSimpArgs false
set_option linter.unusedVariables false
set_option maxRecDepth 100000
open Rx Go
namespace Gv
open Rd LShowLong
theorem sl3 : SlW 3 := fun n => ⟨by kernel_rfl, by kernel_rfl⟩
theorem sl7 : SlW 7 := fun n => ⟨by kernel_rfl, by kernel_rfl⟩
theorem aiS : SlW 11 := fun n => ⟨by kernel_rfl, by kernel_rfl⟩
theorem aiW : SlW 15 := fun n => ⟨by kernel_rfl, by kernel_rfl⟩
theorem ai0 : SlW 19 := fun n => ⟨by kernel_rfl, by kernel_rfl⟩
theorem ai4 : SlW 23 := fun n => ⟨by kernel_rfl, by kernel_rfl⟩
theorem ai8 : SlW 27 := fun n => ⟨by kernel_rfl, by kernel_rfl⟩
theorem ajc : SlW 31 := fun n => ⟨by kernel_rfl, by kernel_rfl⟩
theorem ajg : SlW 35 := fun n => ⟨by kernel_rfl, by kernel_rfl⟩
theorem ajk : SlW 39 := fun n => ⟨by kernel_rfl, by kernel_rfl⟩
theorem ajo : SlW 43 := fun n => ⟨by kernel_rfl, by kernel_rfl⟩
theorem ajs : SlW 47 := fun n => ⟨by kernel_rfl, by kernel_rfl⟩
theorem ajw : SlW 51 := fun n => ⟨by kernel_rfl, by kernel_rfl⟩
theorem ajA : SlW 55 := fun n => ⟨by kernel_rfl, by kernel_rfl⟩
theorem ajE : SlW 59 := fun n => ⟨by kernel_rfl, by kernel_rfl⟩
theorem ajI : SlW 63 := fun n => ⟨by kernel_rfl, by kernel_rfl⟩
theorem ajM : SlW 67 := fun n => ⟨by kernel_rfl, by kernel_rfl⟩
theorem ajQ : SlW 71 := fun n => ⟨by kernel_rfl, by kernel_rfl⟩
theorem ajU : SlW 75 := fun n => ⟨by kernel_rfl, by kernel_rfl⟩
theorem ajY : SlW 79 := fun n => ⟨by kernel_rfl, by kernel_rfl⟩
end Gv
