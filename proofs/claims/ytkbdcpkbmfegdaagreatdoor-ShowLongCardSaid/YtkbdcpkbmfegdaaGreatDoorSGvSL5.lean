/- ShowLong: what a request tells, for these k. Printed by genSL.py. -/
import Derived.Test.YtkbdcpkbmfegdaaGreatDoorSGvJn
set_option maxRecDepth 100000
open Rx Go Gv Rd
namespace Gv.SL
theorem K9 : NM 5 = true := by kernel_rfl
theorem TM : ah prog 84 (e10 5) := t10 5 K9 ⟨by kernel_rfl, by kernel_rfl⟩
theorem X0 : ah prog 83 (e11 5) := t11 5 K9 ⟨by kernel_rfl, by kernel_rfl⟩ TM
theorem aj5 : ah prog 77 (e8 5) := t8 5 K9 ⟨by kernel_rfl, by kernel_rfl⟩
theorem akg : ah prog 44 (e9 5) := t9 5 K9 ⟨by kernel_rfl, by kernel_rfl⟩ aj5
theorem afB : ah prog 56 (e13 5) := t13 5 K9 ⟨by kernel_rfl, by kernel_rfl⟩ TM X0
theorem afL : ah prog 45 (e14 5) := t14 5 K9 ⟨by kernel_rfl, by kernel_rfl⟩ TM X0 afB
theorem afV : ah prog 29 (e15 5) := t15 5 K9 ⟨by kernel_rfl, by kernel_rfl⟩ akg afL
theorem zR : NM 13 = true := by kernel_rfl
theorem LK : ah prog 84 (e10 13) := t10 13 zR ⟨by kernel_rfl, by kernel_rfl⟩
theorem TV : ah prog 83 (e11 13) := t11 13 zR ⟨by kernel_rfl, by kernel_rfl⟩ LK
theorem af4 : ah prog 77 (e8 13) := t8 13 zR ⟨by kernel_rfl, by kernel_rfl⟩
theorem ahj : ah prog 44 (e9 13) := t9 13 zR ⟨by kernel_rfl, by kernel_rfl⟩ af4
theorem aaI : ah prog 56 (e13 13) := t13 13 zR ⟨by kernel_rfl, by kernel_rfl⟩ LK TV
theorem abU : ah prog 45 (e14 13) := t14 13 zR ⟨by kernel_rfl, by kernel_rfl⟩ LK TV aaI
theorem adb : ah prog 29 (e15 13) := t15 13 zR ⟨by kernel_rfl, by kernel_rfl⟩ ahj abU
theorem zZ : NM 21 = true := by kernel_rfl
theorem LZ : ah prog 84 (e10 21) := t10 21 zZ ⟨by kernel_rfl, by kernel_rfl⟩
theorem Ue : ah prog 83 (e11 21) := t11 21 zZ ⟨by kernel_rfl, by kernel_rfl⟩ LZ
theorem agc : ah prog 77 (e8 21) := t8 21 zZ ⟨by kernel_rfl, by kernel_rfl⟩
theorem ahr : ah prog 44 (e9 21) := t9 21 zZ ⟨by kernel_rfl, by kernel_rfl⟩ agc
theorem aaQ : ah prog 56 (e13 21) := t13 21 zZ ⟨by kernel_rfl, by kernel_rfl⟩ LZ Ue
theorem ab2 : ah prog 45 (e14 21) := t14 21 zZ ⟨by kernel_rfl, by kernel_rfl⟩ LZ Ue aaQ
theorem adl : ah prog 29 (e15 21) := t15 21 zZ ⟨by kernel_rfl, by kernel_rfl⟩ ahr ab2
theorem Ah : NM 29 = true := by kernel_rfl
theorem Mf : ah prog 84 (e10 29) := t10 29 Ah ⟨by kernel_rfl, by kernel_rfl⟩
theorem Um : ah prog 83 (e11 29) := t11 29 Ah ⟨by kernel_rfl, by kernel_rfl⟩ Mf
theorem agm : ah prog 77 (e8 29) := t8 29 Ah ⟨by kernel_rfl, by kernel_rfl⟩
theorem ahz : ah prog 44 (e9 29) := t9 29 Ah ⟨by kernel_rfl, by kernel_rfl⟩ agm
theorem aaY : ah prog 56 (e13 29) := t13 29 Ah ⟨by kernel_rfl, by kernel_rfl⟩ Mf Um
theorem acd : ah prog 45 (e14 29) := t14 29 Ah ⟨by kernel_rfl, by kernel_rfl⟩ Mf Um aaY
theorem adu : ah prog 29 (e15 29) := t15 29 Ah ⟨by kernel_rfl, by kernel_rfl⟩ ahz acd
theorem Aq : NM 37 = true := by kernel_rfl
theorem Mr : ah prog 84 (e10 37) := t10 37 Aq ⟨by kernel_rfl, by kernel_rfl⟩
theorem Uv : ah prog 83 (e11 37) := t11 37 Aq ⟨by kernel_rfl, by kernel_rfl⟩ Mr
theorem agv : ah prog 77 (e8 37) := t8 37 Aq ⟨by kernel_rfl, by kernel_rfl⟩
theorem ahH : ah prog 44 (e9 37) := t9 37 Aq ⟨by kernel_rfl, by kernel_rfl⟩ agv
theorem aa6 : ah prog 56 (e13 37) := t13 37 Aq ⟨by kernel_rfl, by kernel_rfl⟩ Mr Uv
theorem aco : ah prog 45 (e14 37) := t14 37 Aq ⟨by kernel_rfl, by kernel_rfl⟩ Mr Uv aa6
theorem adC : ah prog 29 (e15 37) := t15 37 Aq ⟨by kernel_rfl, by kernel_rfl⟩ ahH aco
theorem AJ : NM 45 = true := by kernel_rfl
theorem MF : ah prog 84 (e10 45) := t10 45 AJ ⟨by kernel_rfl, by kernel_rfl⟩
theorem UE : ah prog 83 (e11 45) := t11 45 AJ ⟨by kernel_rfl, by kernel_rfl⟩ MF
theorem agF : ah prog 77 (e8 45) := t8 45 AJ ⟨by kernel_rfl, by kernel_rfl⟩
theorem ahP : ah prog 44 (e9 45) := t9 45 AJ ⟨by kernel_rfl, by kernel_rfl⟩ agF
theorem abg : ah prog 56 (e13 45) := t13 45 AJ ⟨by kernel_rfl, by kernel_rfl⟩ MF UE
theorem acz : ah prog 45 (e14 45) := t14 45 AJ ⟨by kernel_rfl, by kernel_rfl⟩ MF UE abg
theorem adK : ah prog 29 (e15 45) := t15 45 AJ ⟨by kernel_rfl, by kernel_rfl⟩ ahP acz
theorem DL : NM 53 = true := by kernel_rfl
theorem Zm : LT (s 53 48) := tla 53 48 60 ⟨by kernel_rfl, by kernel_rfl⟩
theorem YS : LT (s 53 28) := tlb 53 28 48 20 ⟨by kernel_rfl, by kernel_rfl⟩ Zm
theorem aeH : LT (s 53 0) := tlb 53 0 28 28 ⟨by kernel_rfl, by kernel_rfl⟩ YS
theorem ahY : eP prog 79 (p 53) := tp 53 ⟨by kernel_rfl, by kernel_rfl⟩ aeH
theorem MO : ah prog 84 (e10 53) := t10 53 DL ⟨by kernel_rfl, by kernel_rfl⟩
theorem UN : ah prog 83 (e11 53) := t11 53 DL ⟨by kernel_rfl, by kernel_rfl⟩ MO
theorem agN : ah prog 77 (e8 53) := t8 53 DL ⟨by kernel_rfl, by kernel_rfl⟩
theorem abp : ah prog 56 (e13 53) := t13 53 DL ⟨by kernel_rfl, by kernel_rfl⟩ MO UN
theorem acH : ah prog 45 (e14 53) := t14 53 DL ⟨by kernel_rfl, by kernel_rfl⟩ MO UN abp
theorem adS : ah prog 29 (e15 53) := iJ 53 DL ⟨by kernel_rfl, by kernel_rfl⟩ ahY agN acH
theorem DZ : NM 61 = true := by kernel_rfl
theorem Zv : LT (s 61 48) := tla 61 48 60 ⟨by kernel_rfl, by kernel_rfl⟩
theorem Y1 : LT (s 61 28) := tlb 61 28 48 20 ⟨by kernel_rfl, by kernel_rfl⟩ Zv
theorem aeP : LT (s 61 0) := tlb 61 0 28 28 ⟨by kernel_rfl, by kernel_rfl⟩ Y1
theorem ah6 : eP prog 79 (p 61) := tp 61 ⟨by kernel_rfl, by kernel_rfl⟩ aeP
theorem MX : ah prog 84 (e10 61) := t10 61 DZ ⟨by kernel_rfl, by kernel_rfl⟩
theorem U0 : ah prog 83 (e11 61) := t11 61 DZ ⟨by kernel_rfl, by kernel_rfl⟩ MX
theorem agX : ah prog 77 (e8 61) := t8 61 DZ ⟨by kernel_rfl, by kernel_rfl⟩
theorem aby : ah prog 56 (e13 61) := t13 61 DZ ⟨by kernel_rfl, by kernel_rfl⟩ MX U0
theorem acP : ah prog 45 (e14 61) := t14 61 DZ ⟨by kernel_rfl, by kernel_rfl⟩ MX U0 aby
theorem ad1 : ah prog 29 (e15 61) := iJ 61 DZ ⟨by kernel_rfl, by kernel_rfl⟩ ah6 agX acP
theorem Ec : NM 69 = true := by kernel_rfl
theorem ZU : LT (s 69 64) := tla 69 64 60 ⟨by kernel_rfl, by kernel_rfl⟩
theorem ZE : LT (s 69 48) := tlb 69 48 64 16 ⟨by kernel_rfl, by kernel_rfl⟩ ZU
theorem Y9 : LT (s 69 28) := tlb 69 28 48 20 ⟨by kernel_rfl, by kernel_rfl⟩ ZE
theorem aeX : LT (s 69 0) := tlb 69 0 28 28 ⟨by kernel_rfl, by kernel_rfl⟩ Y9
theorem aif : eP prog 79 (p 69) := tp 69 ⟨by kernel_rfl, by kernel_rfl⟩ aeX
theorem M9 : ah prog 84 (e10 69) := t10 69 Ec ⟨by kernel_rfl, by kernel_rfl⟩
theorem U8 : ah prog 83 (e11 69) := t11 69 Ec ⟨by kernel_rfl, by kernel_rfl⟩ M9
theorem ag5 : ah prog 77 (e8 69) := t8 69 Ec ⟨by kernel_rfl, by kernel_rfl⟩
theorem abG : ah prog 56 (e13 69) := t13 69 Ec ⟨by kernel_rfl, by kernel_rfl⟩ M9 U8
theorem acX : ah prog 45 (e14 69) := t14 69 Ec ⟨by kernel_rfl, by kernel_rfl⟩ M9 U8 abG
theorem ad9 : ah prog 29 (e15 69) := iJ 69 Ec ⟨by kernel_rfl, by kernel_rfl⟩ aif ag5 acX
theorem Em : NM 77 = true := by kernel_rfl
theorem Z6 : LT (s 77 64) := tla 77 64 60 ⟨by kernel_rfl, by kernel_rfl⟩
theorem ZM : LT (s 77 48) := tlb 77 48 64 16 ⟨by kernel_rfl, by kernel_rfl⟩ Z6
theorem Zh : LT (s 77 28) := tlb 77 28 48 20 ⟨by kernel_rfl, by kernel_rfl⟩ ZM
theorem ae5 : LT (s 77 0) := tlb 77 0 28 28 ⟨by kernel_rfl, by kernel_rfl⟩ Zh
theorem aiq : eP prog 79 (p 77) := tp 77 ⟨by kernel_rfl, by kernel_rfl⟩ ae5
theorem Nj : ah prog 84 (e10 77) := t10 77 Em ⟨by kernel_rfl, by kernel_rfl⟩
theorem Vh : ah prog 83 (e11 77) := t11 77 Em ⟨by kernel_rfl, by kernel_rfl⟩ Nj
theorem ahd : ah prog 77 (e8 77) := t8 77 Em ⟨by kernel_rfl, by kernel_rfl⟩
theorem abO : ah prog 56 (e13 77) := t13 77 Em ⟨by kernel_rfl, by kernel_rfl⟩ Nj Vh
theorem ac5 : ah prog 45 (e14 77) := t14 77 Em ⟨by kernel_rfl, by kernel_rfl⟩ Nj Vh abO
theorem aeh : ah prog 29 (e15 77) := iJ 77 Em ⟨by kernel_rfl, by kernel_rfl⟩ aiq ahd ac5
end Gv.SL
