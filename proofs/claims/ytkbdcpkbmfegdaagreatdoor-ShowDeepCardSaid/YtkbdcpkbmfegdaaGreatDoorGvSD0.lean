/- ShowDeep: what a request tells, for these k. Printed by genSD.py. -/
import Derived.Test.YtkbdcpkbmfegdaaGreatDoorGvSD
set_option maxRecDepth 100000
open Rx Go Gv Rd
namespace Gv.SD
theorem R8 : ay prog 84 (e10 1) := t10 1 ⟨⟨by kernel_rfl, by kernel_rfl⟩, by kernel_rfl⟩
theorem XT : ay prog 83 (e11 1) := t11 1 ⟨⟨by kernel_rfl, by kernel_rfl⟩, by kernel_rfl⟩ R8
theorem adh : ay prog 77 (e8 1) := t8 1 ⟨⟨by kernel_rfl, by kernel_rfl⟩, by kernel_rfl⟩
theorem acW : ay prog 44 (e9 1) := t9 1 ⟨⟨by kernel_rfl, by kernel_rfl⟩, by kernel_rfl⟩ adh
theorem aaN : ay prog 56 (e13 1) := t13 1 ⟨⟨by kernel_rfl, by kernel_rfl⟩, by kernel_rfl⟩ R8 XT
theorem aal : ay prog 45 (e14 1) := t14 1 ⟨⟨by kernel_rfl, by kernel_rfl⟩, by kernel_rfl⟩ R8 XT aaN
theorem aad : ay prog 29 (e15 1) := t15 1 ⟨⟨by kernel_rfl, by kernel_rfl⟩, by kernel_rfl⟩ acW aal
theorem Tm : ay prog 84 (e10 5) := t10 5 ⟨⟨by kernel_rfl, by kernel_rfl⟩, by kernel_rfl⟩
theorem XU : ay prog 83 (e11 5) := t11 5 ⟨⟨by kernel_rfl, by kernel_rfl⟩, by kernel_rfl⟩ Tm
theorem acC : ay prog 77 (e8 5) := t8 5 ⟨⟨by kernel_rfl, by kernel_rfl⟩, by kernel_rfl⟩
theorem acX : ay prog 44 (e9 5) := t9 5 ⟨⟨by kernel_rfl, by kernel_rfl⟩, by kernel_rfl⟩ acC
theorem aan : ay prog 56 (e13 5) := t13 5 ⟨⟨by kernel_rfl, by kernel_rfl⟩, by kernel_rfl⟩ Tm XU
theorem aa7 : ay prog 45 (e14 5) := t14 5 ⟨⟨by kernel_rfl, by kernel_rfl⟩, by kernel_rfl⟩ Tm XU aan
theorem abz : ay prog 29 (e15 5) := t15 5 ⟨⟨by kernel_rfl, by kernel_rfl⟩, by kernel_rfl⟩ acX aa7
theorem R7 : ay prog 84 (e10 9) := t10 9 ⟨⟨by kernel_rfl, by kernel_rfl⟩, by kernel_rfl⟩
theorem Xc : ay prog 83 (e11 9) := t11 9 ⟨⟨by kernel_rfl, by kernel_rfl⟩, by kernel_rfl⟩ R7
theorem ac8 : ay prog 77 (e8 9) := t8 9 ⟨⟨by kernel_rfl, by kernel_rfl⟩, by kernel_rfl⟩
theorem acD : ay prog 44 (e9 9) := t9 9 ⟨⟨by kernel_rfl, by kernel_rfl⟩, by kernel_rfl⟩ ac8
theorem aaY : ay prog 56 (e13 9) := t13 9 ⟨⟨by kernel_rfl, by kernel_rfl⟩, by kernel_rfl⟩ R7 Xc
theorem aaG : ay prog 45 (e14 9) := t14 9 ⟨⟨by kernel_rfl, by kernel_rfl⟩, by kernel_rfl⟩ R7 Xc aaY
theorem Z4 : ay prog 29 (e15 9) := t15 9 ⟨⟨by kernel_rfl, by kernel_rfl⟩, by kernel_rfl⟩ acD aaG
theorem Mr : ay prog 84 (e10 13) := t10 13 ⟨⟨by kernel_rfl, by kernel_rfl⟩, by kernel_rfl⟩
theorem UW : ay prog 83 (e11 13) := t11 13 ⟨⟨by kernel_rfl, by kernel_rfl⟩, by kernel_rfl⟩ Mr
theorem abr : ay prog 77 (e8 13) := t8 13 ⟨⟨by kernel_rfl, by kernel_rfl⟩, by kernel_rfl⟩
theorem aaH : ay prog 44 (e9 13) := t9 13 ⟨⟨by kernel_rfl, by kernel_rfl⟩, by kernel_rfl⟩ abr
theorem Yt : ay prog 56 (e13 13) := t13 13 ⟨⟨by kernel_rfl, by kernel_rfl⟩, by kernel_rfl⟩ Mr UW
theorem YJ : ay prog 45 (e14 13) := t14 13 ⟨⟨by kernel_rfl, by kernel_rfl⟩, by kernel_rfl⟩ Mr UW Yt
theorem Zx : ay prog 29 (e15 13) := t15 13 ⟨⟨by kernel_rfl, by kernel_rfl⟩, by kernel_rfl⟩ aaH YJ
theorem MI : ay prog 84 (e10 17) := t10 17 ⟨⟨by kernel_rfl, by kernel_rfl⟩, by kernel_rfl⟩
theorem TG : ay prog 83 (e11 17) := t11 17 ⟨⟨by kernel_rfl, by kernel_rfl⟩, by kernel_rfl⟩ MI
theorem aaJ : ay prog 77 (e8 17) := t8 17 ⟨⟨by kernel_rfl, by kernel_rfl⟩, by kernel_rfl⟩
theorem aaI : ay prog 44 (e9 17) := t9 17 ⟨⟨by kernel_rfl, by kernel_rfl⟩, by kernel_rfl⟩ aaJ
theorem YP : ay prog 56 (e13 17) := t13 17 ⟨⟨by kernel_rfl, by kernel_rfl⟩, by kernel_rfl⟩ MI TG
theorem ZM : ay prog 45 (e14 17) := t14 17 ⟨⟨by kernel_rfl, by kernel_rfl⟩, by kernel_rfl⟩ MI TG YP
theorem YS : ay prog 29 (e15 17) := t15 17 ⟨⟨by kernel_rfl, by kernel_rfl⟩, by kernel_rfl⟩ aaI ZM
end Gv.SD
