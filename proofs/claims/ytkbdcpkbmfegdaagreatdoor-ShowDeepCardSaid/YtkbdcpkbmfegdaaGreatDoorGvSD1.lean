/- ShowDeep: what a request tells, for these k. Printed by genSD.py. -/
import Derived.Test.YtkbdcpkbmfegdaaGreatDoorGvSD
set_option maxRecDepth 100000
open Rx Go Gv Rd
namespace Gv.SD
theorem Ui : ay prog 84 (e10 2) := t10 2 ⟨⟨by kernel_rfl, by kernel_rfl⟩, by kernel_rfl⟩
theorem Xl : ay prog 83 (e11 2) := t11 2 ⟨⟨by kernel_rfl, by kernel_rfl⟩, by kernel_rfl⟩ Ui
theorem acj : ay prog 77 (e8 2) := t8 2 ⟨⟨by kernel_rfl, by kernel_rfl⟩, by kernel_rfl⟩
theorem acO : ay prog 44 (e9 2) := t9 2 ⟨⟨by kernel_rfl, by kernel_rfl⟩, by kernel_rfl⟩ acj
theorem abv : ay prog 56 (e13 2) := t13 2 ⟨⟨by kernel_rfl, by kernel_rfl⟩, by kernel_rfl⟩ Ui Xl
theorem aaD : ay prog 45 (e14 2) := t14 2 ⟨⟨by kernel_rfl, by kernel_rfl⟩, by kernel_rfl⟩ Ui Xl abv
theorem aa8 : ay prog 29 (e15 2) := t15 2 ⟨⟨by kernel_rfl, by kernel_rfl⟩, by kernel_rfl⟩ acO aaD
theorem RB : ay prog 84 (e10 6) := t10 6 ⟨⟨by kernel_rfl, by kernel_rfl⟩, by kernel_rfl⟩
theorem XC : ay prog 83 (e11 6) := t11 6 ⟨⟨by kernel_rfl, by kernel_rfl⟩, by kernel_rfl⟩ RB
theorem acT : ay prog 77 (e8 6) := t8 6 ⟨⟨by kernel_rfl, by kernel_rfl⟩, by kernel_rfl⟩
theorem acQ : ay prog 44 (e9 6) := t9 6 ⟨⟨by kernel_rfl, by kernel_rfl⟩, by kernel_rfl⟩ acT
theorem aao : ay prog 56 (e13 6) := t13 6 ⟨⟨by kernel_rfl, by kernel_rfl⟩, by kernel_rfl⟩ RB XC
theorem aap : ay prog 45 (e14 6) := t14 6 ⟨⟨by kernel_rfl, by kernel_rfl⟩, by kernel_rfl⟩ RB XC aao
theorem aai : ay prog 29 (e15 6) := t15 6 ⟨⟨by kernel_rfl, by kernel_rfl⟩, by kernel_rfl⟩ acQ aap
theorem Nu : ay prog 84 (e10 10) := t10 10 ⟨⟨by kernel_rfl, by kernel_rfl⟩, by kernel_rfl⟩
theorem RV : ay prog 83 (e11 10) := t11 10 ⟨⟨by kernel_rfl, by kernel_rfl⟩, by kernel_rfl⟩ Nu
theorem abh : ay prog 77 (e8 10) := t8 10 ⟨⟨by kernel_rfl, by kernel_rfl⟩, by kernel_rfl⟩
theorem aaM : ay prog 44 (e9 10) := t9 10 ⟨⟨by kernel_rfl, by kernel_rfl⟩, by kernel_rfl⟩ abh
theorem Zr : ay prog 56 (e13 10) := t13 10 ⟨⟨by kernel_rfl, by kernel_rfl⟩, by kernel_rfl⟩ Nu RV
theorem Zt : ay prog 45 (e14 10) := t14 10 ⟨⟨by kernel_rfl, by kernel_rfl⟩, by kernel_rfl⟩ Nu RV Zr
theorem YB : ay prog 29 (e15 10) := t15 10 ⟨⟨by kernel_rfl, by kernel_rfl⟩, by kernel_rfl⟩ aaM Zt
theorem MQ : ay prog 84 (e10 14) := t10 14 ⟨⟨by kernel_rfl, by kernel_rfl⟩, by kernel_rfl⟩
theorem RA : ay prog 83 (e11 14) := t11 14 ⟨⟨by kernel_rfl, by kernel_rfl⟩, by kernel_rfl⟩ MQ
theorem abP : ay prog 77 (e8 14) := t8 14 ⟨⟨by kernel_rfl, by kernel_rfl⟩, by kernel_rfl⟩
theorem aam : ay prog 44 (e9 14) := t9 14 ⟨⟨by kernel_rfl, by kernel_rfl⟩, by kernel_rfl⟩ abP
theorem ZB : ay prog 56 (e13 14) := t13 14 ⟨⟨by kernel_rfl, by kernel_rfl⟩, by kernel_rfl⟩ MQ RA
theorem Za : ay prog 45 (e14 14) := t14 14 ⟨⟨by kernel_rfl, by kernel_rfl⟩, by kernel_rfl⟩ MQ RA ZB
theorem Zy : ay prog 29 (e15 14) := t15 14 ⟨⟨by kernel_rfl, by kernel_rfl⟩, by kernel_rfl⟩ aam Za
theorem Nn : ay prog 84 (e10 18) := t10 18 ⟨⟨by kernel_rfl, by kernel_rfl⟩, by kernel_rfl⟩
theorem SB : ay prog 83 (e11 18) := t11 18 ⟨⟨by kernel_rfl, by kernel_rfl⟩, by kernel_rfl⟩ Nn
theorem aag : ay prog 77 (e8 18) := t8 18 ⟨⟨by kernel_rfl, by kernel_rfl⟩, by kernel_rfl⟩
theorem aaF : ay prog 44 (e9 18) := t9 18 ⟨⟨by kernel_rfl, by kernel_rfl⟩, by kernel_rfl⟩ aag
theorem ZH : ay prog 56 (e13 18) := t13 18 ⟨⟨by kernel_rfl, by kernel_rfl⟩, by kernel_rfl⟩ Nn SB
theorem Yp : ay prog 45 (e14 18) := t14 18 ⟨⟨by kernel_rfl, by kernel_rfl⟩, by kernel_rfl⟩ Nn SB ZH
theorem Zb : ay prog 29 (e15 18) := t15 18 ⟨⟨by kernel_rfl, by kernel_rfl⟩, by kernel_rfl⟩ aaF Yp
end Gv.SD
