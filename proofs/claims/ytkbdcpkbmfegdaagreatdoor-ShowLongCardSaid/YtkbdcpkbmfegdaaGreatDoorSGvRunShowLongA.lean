/- Cases of ShowLong. Printed by genSLrun.py. -/
import Derived.Test.YtkbdcpkbmfegdaaGreatDoorSGvUShowLong
set_option linter.unusedSimpArgs false
set_option linter.unusedVariables false
set_option maxRecDepth 100000
open Rx Go
namespace Gv
open Rd LShowLong
theorem sl0 : SlW 0 := fun n => ⟨by kernel_rfl, by kernel_rfl⟩
theorem sl4 : SlW 4 := fun n => ⟨by kernel_rfl, by kernel_rfl⟩
theorem sl8 : SlW 8 := fun n => ⟨by kernel_rfl, by kernel_rfl⟩
theorem aiT : SlW 12 := fun n => ⟨by kernel_rfl, by kernel_rfl⟩
theorem aiX : SlW 16 := fun n => ⟨by kernel_rfl, by kernel_rfl⟩
theorem ai1 : SlW 20 := fun n => ⟨by kernel_rfl, by kernel_rfl⟩
theorem ai5 : SlW 24 := fun n => ⟨by kernel_rfl, by kernel_rfl⟩
theorem ai9 : SlW 28 := fun n => ⟨by kernel_rfl, by kernel_rfl⟩
theorem ajd : SlW 32 := fun n => ⟨by kernel_rfl, by kernel_rfl⟩
theorem ajh : SlW 36 := fun n => ⟨by kernel_rfl, by kernel_rfl⟩
theorem ajl : SlW 40 := fun n => ⟨by kernel_rfl, by kernel_rfl⟩
theorem ajp : SlW 44 := fun n => ⟨by kernel_rfl, by kernel_rfl⟩
theorem ajt : SlW 48 := fun n => ⟨by kernel_rfl, by kernel_rfl⟩
theorem ajx : SlW 52 := fun n => ⟨by kernel_rfl, by kernel_rfl⟩
theorem ajB : SlW 56 := fun n => ⟨by kernel_rfl, by kernel_rfl⟩
theorem ajF : SlW 60 := fun n => ⟨by kernel_rfl, by kernel_rfl⟩
theorem ajJ : SlW 64 := fun n => ⟨by kernel_rfl, by kernel_rfl⟩
theorem ajN : SlW 68 := fun n => ⟨by kernel_rfl, by kernel_rfl⟩
theorem ajR : SlW 72 := fun n => ⟨by kernel_rfl, by kernel_rfl⟩
theorem ajV : SlW 76 := fun n => ⟨by kernel_rfl, by kernel_rfl⟩
end Gv
set_option linter.unusedSimpArgs false
set_option linter.unusedVariables false
set_option maxRecDepth 100000
open Rx Go
namespace Gv
open Rd LShowLong
theorem sl1 : SlW 1 := fun n => ⟨by kernel_rfl, by kernel_rfl⟩
theorem sl5 : SlW 5 := fun n => ⟨by kernel_rfl, by kernel_rfl⟩
theorem sl9 : SlW 9 := fun n => ⟨by kernel_rfl, by kernel_rfl⟩
theorem aiU : SlW 13 := fun n => ⟨by kernel_rfl, by kernel_rfl⟩
theorem aiY : SlW 17 := fun n => ⟨by kernel_rfl, by kernel_rfl⟩
theorem ai2 : SlW 21 := fun n => ⟨by kernel_rfl, by kernel_rfl⟩
theorem ai6 : SlW 25 := fun n => ⟨by kernel_rfl, by kernel_rfl⟩
theorem aja : SlW 29 := fun n => ⟨by kernel_rfl, by kernel_rfl⟩
theorem aje : SlW 33 := fun n => ⟨by kernel_rfl, by kernel_rfl⟩
theorem aji : SlW 37 := fun n => ⟨by kernel_rfl, by kernel_rfl⟩
theorem ajm : SlW 41 := fun n => ⟨by kernel_rfl, by kernel_rfl⟩
theorem ajq : SlW 45 := fun n => ⟨by kernel_rfl, by kernel_rfl⟩
theorem aju : SlW 49 := fun n => ⟨by kernel_rfl, by kernel_rfl⟩
theorem ajy : SlW 53 := fun n => ⟨by kernel_rfl, by kernel_rfl⟩
theorem ajC : SlW 57 := fun n => ⟨by kernel_rfl, by kernel_rfl⟩
theorem ajG : SlW 61 := fun n => ⟨by kernel_rfl, by kernel_rfl⟩
theorem ajK : SlW 65 := fun n => ⟨by kernel_rfl, by kernel_rfl⟩
theorem ajO : SlW 69 := fun n => ⟨by kernel_rfl, by kernel_rfl⟩
theorem ajS : SlW 73 := fun n => ⟨by kernel_rfl, by kernel_rfl⟩
theorem ajW : SlW 77 := fun n => ⟨by kernel_rfl, by kernel_rfl⟩
end Gv
