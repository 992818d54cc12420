/- ShowDeep: what a request tells, for these k. Printed by genSD.py. -/
import Derived.Test.YtkbdcpkbmfegdaaGreatDoorGvSD
set_option maxRecDepth 100000
open Rx Go Gv Rd
namespace Gv.SD
theorem SX : ay prog 84 (e10 3) := t10 3 ⟨⟨by kernel_rfl, by kernel_rfl⟩, by kernel_rfl⟩
theorem Xj : ay prog 83 (e11 3) := t11 3 ⟨⟨by kernel_rfl, by kernel_rfl⟩, by kernel_rfl⟩ SX
theorem acB : ay prog 77 (e8 3) := t8 3 ⟨⟨by kernel_rfl, by kernel_rfl⟩, by kernel_rfl⟩
theorem ada : ay prog 44 (e9 3) := t9 3 ⟨⟨by kernel_rfl, by kernel_rfl⟩, by kernel_rfl⟩ acB
theorem aa0 : ay prog 56 (e13 3) := t13 3 ⟨⟨by kernel_rfl, by kernel_rfl⟩, by kernel_rfl⟩ SX Xj
theorem abx : ay prog 45 (e14 3) := t14 3 ⟨⟨by kernel_rfl, by kernel_rfl⟩, by kernel_rfl⟩ SX Xj aa0
theorem abO : ay prog 29 (e15 3) := t15 3 ⟨⟨by kernel_rfl, by kernel_rfl⟩, by kernel_rfl⟩ ada abx
theorem TV : ay prog 84 (e10 7) := t10 7 ⟨⟨by kernel_rfl, by kernel_rfl⟩, by kernel_rfl⟩
theorem XD : ay prog 83 (e11 7) := t11 7 ⟨⟨by kernel_rfl, by kernel_rfl⟩, by kernel_rfl⟩ TV
theorem ac7 : ay prog 77 (e8 7) := t8 7 ⟨⟨by kernel_rfl, by kernel_rfl⟩, by kernel_rfl⟩
theorem ac4 : ay prog 44 (e9 7) := t9 7 ⟨⟨by kernel_rfl, by kernel_rfl⟩, by kernel_rfl⟩ ac7
theorem aaS : ay prog 56 (e13 7) := t13 7 ⟨⟨by kernel_rfl, by kernel_rfl⟩, by kernel_rfl⟩ TV XD
theorem abE : ay prog 45 (e14 7) := t14 7 ⟨⟨by kernel_rfl, by kernel_rfl⟩, by kernel_rfl⟩ TV XD aaS
theorem aau : ay prog 29 (e15 7) := t15 7 ⟨⟨by kernel_rfl, by kernel_rfl⟩, by kernel_rfl⟩ ac4 abE
theorem Nl : ay prog 84 (e10 11) := t10 11 ⟨⟨by kernel_rfl, by kernel_rfl⟩, by kernel_rfl⟩
theorem Rw : ay prog 83 (e11 11) := t11 11 ⟨⟨by kernel_rfl, by kernel_rfl⟩, by kernel_rfl⟩ Nl
theorem Z9 : ay prog 77 (e8 11) := t8 11 ⟨⟨by kernel_rfl, by kernel_rfl⟩, by kernel_rfl⟩
theorem aaK : ay prog 44 (e9 11) := t9 11 ⟨⟨by kernel_rfl, by kernel_rfl⟩, by kernel_rfl⟩ Z9
theorem Zu : ay prog 56 (e13 11) := t13 11 ⟨⟨by kernel_rfl, by kernel_rfl⟩, by kernel_rfl⟩ Nl Rw
theorem YL : ay prog 45 (e14 11) := t14 11 ⟨⟨by kernel_rfl, by kernel_rfl⟩, by kernel_rfl⟩ Nl Rw Zu
theorem Zq : ay prog 29 (e15 11) := t15 11 ⟨⟨by kernel_rfl, by kernel_rfl⟩, by kernel_rfl⟩ aaK YL
theorem M8 : ay prog 84 (e10 15) := t10 15 ⟨⟨by kernel_rfl, by kernel_rfl⟩, by kernel_rfl⟩
theorem Ug : ay prog 83 (e11 15) := t11 15 ⟨⟨by kernel_rfl, by kernel_rfl⟩, by kernel_rfl⟩ M8
theorem aaA : ay prog 77 (e8 15) := t8 15 ⟨⟨by kernel_rfl, by kernel_rfl⟩, by kernel_rfl⟩
theorem abl : ay prog 44 (e9 15) := t9 15 ⟨⟨by kernel_rfl, by kernel_rfl⟩, by kernel_rfl⟩ aaA
theorem Zj : ay prog 56 (e13 15) := t13 15 ⟨⟨by kernel_rfl, by kernel_rfl⟩, by kernel_rfl⟩ M8 Ug
theorem Yz : ay prog 45 (e14 15) := t14 15 ⟨⟨by kernel_rfl, by kernel_rfl⟩, by kernel_rfl⟩ M8 Ug Zj
theorem Yk : ay prog 29 (e15 15) := t15 15 ⟨⟨by kernel_rfl, by kernel_rfl⟩, by kernel_rfl⟩ abl Yz
theorem MF : ay prog 84 (e10 19) := t10 19 ⟨⟨by kernel_rfl, by kernel_rfl⟩, by kernel_rfl⟩
theorem Uu : ay prog 83 (e11 19) := t11 19 ⟨⟨by kernel_rfl, by kernel_rfl⟩, by kernel_rfl⟩ MF
theorem abe : ay prog 77 (e8 19) := t8 19 ⟨⟨by kernel_rfl, by kernel_rfl⟩, by kernel_rfl⟩
theorem aaP : ay prog 44 (e9 19) := t9 19 ⟨⟨by kernel_rfl, by kernel_rfl⟩, by kernel_rfl⟩ abe
theorem YC : ay prog 56 (e13 19) := t13 19 ⟨⟨by kernel_rfl, by kernel_rfl⟩, by kernel_rfl⟩ MF Uu
theorem Y4 : ay prog 45 (e14 19) := t14 19 ⟨⟨by kernel_rfl, by kernel_rfl⟩, by kernel_rfl⟩ MF Uu YC
theorem Ya : ay prog 29 (e15 19) := t15 19 ⟨⟨by kernel_rfl, by kernel_rfl⟩, by kernel_rfl⟩ aaP Y4
end Gv.SD
