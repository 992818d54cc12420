/- ShowDeep: what a request tells, for these k. Printed by genSD.py. -/
import Derived.Test.YtkbdcpkbmfegdaaGreatDoorGvSD
set_option maxRecDepth 100000
open Rx Go Gv Rd
namespace Gv.SD
theorem R9 : ay prog 84 (e10 4) := t10 4 ⟨⟨by kernel_rfl, by kernel_rfl⟩, by kernel_rfl⟩
theorem Xw : ay prog 83 (e11 4) := t11 4 ⟨⟨by kernel_rfl, by kernel_rfl⟩, by kernel_rfl⟩ R9
theorem ac9 : ay prog 77 (e8 4) := t8 4 ⟨⟨by kernel_rfl, by kernel_rfl⟩, by kernel_rfl⟩
theorem acA : ay prog 44 (e9 4) := t9 4 ⟨⟨by kernel_rfl, by kernel_rfl⟩, by kernel_rfl⟩ ac9
theorem abA : ay prog 56 (e13 4) := t13 4 ⟨⟨by kernel_rfl, by kernel_rfl⟩, by kernel_rfl⟩ R9 Xw
theorem aaE : ay prog 45 (e14 4) := t14 4 ⟨⟨by kernel_rfl, by kernel_rfl⟩, by kernel_rfl⟩ R9 Xw abA
theorem Z7 : ay prog 29 (e15 4) := t15 4 ⟨⟨by kernel_rfl, by kernel_rfl⟩, by kernel_rfl⟩ acA aaE
theorem Uz : ay prog 84 (e10 8) := t10 8 ⟨⟨by kernel_rfl, by kernel_rfl⟩, by kernel_rfl⟩
theorem XO : ay prog 83 (e11 8) := t11 8 ⟨⟨by kernel_rfl, by kernel_rfl⟩, by kernel_rfl⟩ Uz
theorem acR : ay prog 77 (e8 8) := t8 8 ⟨⟨by kernel_rfl, by kernel_rfl⟩, by kernel_rfl⟩
theorem acS : ay prog 44 (e9 8) := t9 8 ⟨⟨by kernel_rfl, by kernel_rfl⟩, by kernel_rfl⟩ acR
theorem abD : ay prog 56 (e13 8) := t13 8 ⟨⟨by kernel_rfl, by kernel_rfl⟩, by kernel_rfl⟩ Uz XO
theorem aak : ay prog 45 (e14 8) := t14 8 ⟨⟨by kernel_rfl, by kernel_rfl⟩, by kernel_rfl⟩ Uz XO abD
theorem aaL : ay prog 29 (e15 8) := t15 8 ⟨⟨by kernel_rfl, by kernel_rfl⟩, by kernel_rfl⟩ acS aak
theorem Nw : ay prog 84 (e10 12) := t10 12 ⟨⟨by kernel_rfl, by kernel_rfl⟩, by kernel_rfl⟩
theorem Tq : ay prog 83 (e11 12) := t11 12 ⟨⟨by kernel_rfl, by kernel_rfl⟩, by kernel_rfl⟩ Nw
theorem aaR : ay prog 77 (e8 12) := t8 12 ⟨⟨by kernel_rfl, by kernel_rfl⟩, by kernel_rfl⟩
theorem abo : ay prog 44 (e9 12) := t9 12 ⟨⟨by kernel_rfl, by kernel_rfl⟩, by kernel_rfl⟩ aaR
theorem X9 : ay prog 56 (e13 12) := t13 12 ⟨⟨by kernel_rfl, by kernel_rfl⟩, by kernel_rfl⟩ Nw Tq
theorem Y7 : ay prog 45 (e14 12) := t14 12 ⟨⟨by kernel_rfl, by kernel_rfl⟩, by kernel_rfl⟩ Nw Tq X9
theorem X0 : ay prog 29 (e15 12) := t15 12 ⟨⟨by kernel_rfl, by kernel_rfl⟩, by kernel_rfl⟩ abo Y7
theorem Na : ay prog 84 (e10 16) := t10 16 ⟨⟨by kernel_rfl, by kernel_rfl⟩, by kernel_rfl⟩
theorem Sg : ay prog 83 (e11 16) := t11 16 ⟨⟨by kernel_rfl, by kernel_rfl⟩, by kernel_rfl⟩ Na
theorem aar : ay prog 77 (e8 16) := t8 16 ⟨⟨by kernel_rfl, by kernel_rfl⟩, by kernel_rfl⟩
theorem abG : ay prog 44 (e9 16) := t9 16 ⟨⟨by kernel_rfl, by kernel_rfl⟩, by kernel_rfl⟩ aar
theorem YK : ay prog 56 (e13 16) := t13 16 ⟨⟨by kernel_rfl, by kernel_rfl⟩, by kernel_rfl⟩ Na Sg
theorem ZI : ay prog 45 (e14 16) := t14 16 ⟨⟨by kernel_rfl, by kernel_rfl⟩, by kernel_rfl⟩ Na Sg YK
theorem Yy : ay prog 29 (e15 16) := t15 16 ⟨⟨by kernel_rfl, by kernel_rfl⟩, by kernel_rfl⟩ abG ZI
theorem NT : ay prog 84 (e10 20) := t10 20 ⟨⟨by kernel_rfl, by kernel_rfl⟩, by kernel_rfl⟩
theorem UQ : ay prog 83 (e11 20) := t11 20 ⟨⟨by kernel_rfl, by kernel_rfl⟩, by kernel_rfl⟩ NT
theorem aaq : ay prog 77 (e8 20) := t8 20 ⟨⟨by kernel_rfl, by kernel_rfl⟩, by kernel_rfl⟩
theorem abH : ay prog 44 (e9 20) := t9 20 ⟨⟨by kernel_rfl, by kernel_rfl⟩, by kernel_rfl⟩ aaq
theorem XW : ay prog 56 (e13 20) := t13 20 ⟨⟨by kernel_rfl, by kernel_rfl⟩, by kernel_rfl⟩ NT UQ
theorem ZJ : ay prog 45 (e14 20) := t14 20 ⟨⟨by kernel_rfl, by kernel_rfl⟩, by kernel_rfl⟩ NT UQ XW
theorem YF : ay prog 29 (e15 20) := t15 20 ⟨⟨by kernel_rfl, by kernel_rfl⟩, by kernel_rfl⟩ abH ZJ
end Gv.SD
