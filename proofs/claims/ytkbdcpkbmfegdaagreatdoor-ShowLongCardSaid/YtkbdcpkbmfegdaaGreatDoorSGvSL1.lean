/- ShowLong: what a request tells, for these k. Printed by genSL.py. -/
import Derived.Test.YtkbdcpkbmfegdaaGreatDoorSGvJn
set_option maxRecDepth 100000
open Rx Go Gv Rd
namespace Gv.SL
theorem K5 : NM 1 = true := by kernel_rfl
theorem TH : ah prog 84 (e10 1) := t10 1 K5 ⟨by kernel_rfl, by kernel_rfl⟩
theorem XV : ah prog 83 (e11 1) := t11 1 K5 ⟨by kernel_rfl, by kernel_rfl⟩ TH
theorem aj1 : ah prog 77 (e8 1) := t8 1 K5 ⟨by kernel_rfl, by kernel_rfl⟩
theorem akc : ah prog 44 (e9 1) := t9 1 K5 ⟨by kernel_rfl, by kernel_rfl⟩ aj1
theorem afx : ah prog 56 (e13 1) := t13 1 K5 ⟨by kernel_rfl, by kernel_rfl⟩ TH XV
theorem afH : ah prog 45 (e14 1) := t14 1 K5 ⟨by kernel_rfl, by kernel_rfl⟩ TH XV afx
theorem afR : ah prog 29 (e15 1) := t15 1 K5 ⟨by kernel_rfl, by kernel_rfl⟩ akc afH
theorem Ld : NM 9 = true := by kernel_rfl
theorem TR : ah prog 84 (e10 9) := t10 9 Ld ⟨by kernel_rfl, by kernel_rfl⟩
theorem X6 : ah prog 83 (e11 9) := t11 9 Ld ⟨by kernel_rfl, by kernel_rfl⟩ TR
theorem aj9 : ah prog 77 (e8 9) := t8 9 Ld ⟨by kernel_rfl, by kernel_rfl⟩
theorem akk : ah prog 44 (e9 9) := t9 9 Ld ⟨by kernel_rfl, by kernel_rfl⟩ aj9
theorem afF : ah prog 56 (e13 9) := t13 9 Ld ⟨by kernel_rfl, by kernel_rfl⟩ TR X6
theorem afP : ah prog 45 (e14 9) := t14 9 Ld ⟨by kernel_rfl, by kernel_rfl⟩ TR X6 afF
theorem afZ : ah prog 29 (e15 9) := t15 9 Ld ⟨by kernel_rfl, by kernel_rfl⟩ akk afP
theorem zV : NM 17 = true := by kernel_rfl
theorem LU : ah prog 84 (e10 17) := t10 17 zV ⟨by kernel_rfl, by kernel_rfl⟩
theorem Ua : ah prog 83 (e11 17) := t11 17 zV ⟨by kernel_rfl, by kernel_rfl⟩ LU
theorem af8 : ah prog 77 (e8 17) := t8 17 zV ⟨by kernel_rfl, by kernel_rfl⟩
theorem ahn : ah prog 44 (e9 17) := t9 17 zV ⟨by kernel_rfl, by kernel_rfl⟩ af8
theorem aaM : ah prog 56 (e13 17) := t13 17 zV ⟨by kernel_rfl, by kernel_rfl⟩ LU Ua
theorem abY : ah prog 45 (e14 17) := t14 17 zV ⟨by kernel_rfl, by kernel_rfl⟩ LU Ua aaM
theorem adh : ah prog 29 (e15 17) := t15 17 zV ⟨by kernel_rfl, by kernel_rfl⟩ ahn abY
theorem Ac : NM 25 = true := by kernel_rfl
theorem Ma : ah prog 84 (e10 25) := t10 25 Ac ⟨by kernel_rfl, by kernel_rfl⟩
theorem Ui : ah prog 83 (e11 25) := t11 25 Ac ⟨by kernel_rfl, by kernel_rfl⟩ Ma
theorem agi : ah prog 77 (e8 25) := t8 25 Ac ⟨by kernel_rfl, by kernel_rfl⟩
theorem ahv : ah prog 44 (e9 25) := t9 25 Ac ⟨by kernel_rfl, by kernel_rfl⟩ agi
theorem aaU : ah prog 56 (e13 25) := t13 25 Ac ⟨by kernel_rfl, by kernel_rfl⟩ Ma Ui
theorem ab6 : ah prog 45 (e14 25) := t14 25 Ac ⟨by kernel_rfl, by kernel_rfl⟩ Ma Ui aaU
theorem adq : ah prog 29 (e15 25) := t15 25 Ac ⟨by kernel_rfl, by kernel_rfl⟩ ahv ab6
theorem Al : NM 33 = true := by kernel_rfl
theorem Mj : ah prog 84 (e10 33) := t10 33 Al ⟨by kernel_rfl, by kernel_rfl⟩
theorem Ur : ah prog 83 (e11 33) := t11 33 Al ⟨by kernel_rfl, by kernel_rfl⟩ Mj
theorem agr : ah prog 77 (e8 33) := t8 33 Al ⟨by kernel_rfl, by kernel_rfl⟩
theorem ahD : ah prog 44 (e9 33) := t9 33 Al ⟨by kernel_rfl, by kernel_rfl⟩ agr
theorem aa2 : ah prog 56 (e13 33) := t13 33 Al ⟨by kernel_rfl, by kernel_rfl⟩ Mj Ur
theorem ach : ah prog 45 (e14 33) := t14 33 Al ⟨by kernel_rfl, by kernel_rfl⟩ Mj Ur aa2
theorem ady : ah prog 29 (e15 33) := t15 33 Al ⟨by kernel_rfl, by kernel_rfl⟩ ahD ach
theorem Ay : NM 41 = true := by kernel_rfl
theorem Mw : ah prog 84 (e10 41) := t10 41 Ay ⟨by kernel_rfl, by kernel_rfl⟩
theorem Uz : ah prog 83 (e11 41) := t11 41 Ay ⟨by kernel_rfl, by kernel_rfl⟩ Mw
theorem agz : ah prog 77 (e8 41) := t8 41 Ay ⟨by kernel_rfl, by kernel_rfl⟩
theorem ahL : ah prog 44 (e9 41) := t9 41 Ay ⟨by kernel_rfl, by kernel_rfl⟩ agz
theorem abb : ah prog 56 (e13 41) := t13 41 Ay ⟨by kernel_rfl, by kernel_rfl⟩ Mw Uz
theorem acu : ah prog 45 (e14 41) := t14 41 Ay ⟨by kernel_rfl, by kernel_rfl⟩ Mw Uz abb
theorem adG : ah prog 29 (e15 41) := t15 41 Ay ⟨by kernel_rfl, by kernel_rfl⟩ ahL acu
theorem AQ : NM 49 = true := by kernel_rfl
theorem MJ : ah prog 84 (e10 49) := t10 49 AQ ⟨by kernel_rfl, by kernel_rfl⟩
theorem UJ : ah prog 83 (e11 49) := t11 49 AQ ⟨by kernel_rfl, by kernel_rfl⟩ MJ
theorem agJ : ah prog 77 (e8 49) := t8 49 AQ ⟨by kernel_rfl, by kernel_rfl⟩
theorem ahT : ah prog 44 (e9 49) := t9 49 AQ ⟨by kernel_rfl, by kernel_rfl⟩ agJ
theorem abl : ah prog 56 (e13 49) := t13 49 AQ ⟨by kernel_rfl, by kernel_rfl⟩ MJ UJ
theorem acD : ah prog 45 (e14 49) := t14 49 AQ ⟨by kernel_rfl, by kernel_rfl⟩ MJ UJ abl
theorem adO : ah prog 29 (e15 49) := t15 49 AQ ⟨by kernel_rfl, by kernel_rfl⟩ ahT acD
theorem DU : NM 57 = true := by kernel_rfl
theorem Zq : LT (s 57 48) := tla 57 48 60 ⟨by kernel_rfl, by kernel_rfl⟩
theorem YW : LT (s 57 28) := tlb 57 28 48 20 ⟨by kernel_rfl, by kernel_rfl⟩ Zq
theorem aeL : LT (s 57 0) := tlb 57 0 28 28 ⟨by kernel_rfl, by kernel_rfl⟩ YW
theorem ah2 : eP prog 79 (p 57) := tp 57 ⟨by kernel_rfl, by kernel_rfl⟩ aeL
theorem MS : ah prog 84 (e10 57) := t10 57 DU ⟨by kernel_rfl, by kernel_rfl⟩
theorem UU : ah prog 83 (e11 57) := t11 57 DU ⟨by kernel_rfl, by kernel_rfl⟩ MS
theorem agS : ah prog 77 (e8 57) := t8 57 DU ⟨by kernel_rfl, by kernel_rfl⟩
theorem abu : ah prog 56 (e13 57) := t13 57 DU ⟨by kernel_rfl, by kernel_rfl⟩ MS UU
theorem acL : ah prog 45 (e14 57) := t14 57 DU ⟨by kernel_rfl, by kernel_rfl⟩ MS UU abu
theorem adW : ah prog 29 (e15 57) := iJ 57 DU ⟨by kernel_rfl, by kernel_rfl⟩ ah2 agS acL
theorem D8 : NM 65 = true := by kernel_rfl
theorem ZP : LT (s 65 64) := tla 65 64 60 ⟨by kernel_rfl, by kernel_rfl⟩
theorem Zz : LT (s 65 48) := tlb 65 48 64 16 ⟨by kernel_rfl, by kernel_rfl⟩ ZP
theorem Y5 : LT (s 65 28) := tlb 65 28 48 20 ⟨by kernel_rfl, by kernel_rfl⟩ Zz
theorem aeT : LT (s 65 0) := tlb 65 0 28 28 ⟨by kernel_rfl, by kernel_rfl⟩ Y5
theorem aia : eP prog 79 (p 65) := tp 65 ⟨by kernel_rfl, by kernel_rfl⟩ aeT
theorem M5 : ah prog 84 (e10 65) := t10 65 D8 ⟨by kernel_rfl, by kernel_rfl⟩
theorem U4 : ah prog 83 (e11 65) := t11 65 D8 ⟨by kernel_rfl, by kernel_rfl⟩ M5
theorem ag1 : ah prog 77 (e8 65) := t8 65 D8 ⟨by kernel_rfl, by kernel_rfl⟩
theorem abC : ah prog 56 (e13 65) := t13 65 D8 ⟨by kernel_rfl, by kernel_rfl⟩ M5 U4
theorem acT : ah prog 45 (e14 65) := t14 65 D8 ⟨by kernel_rfl, by kernel_rfl⟩ M5 U4 abC
theorem ad5 : ah prog 29 (e15 65) := iJ 65 D8 ⟨by kernel_rfl, by kernel_rfl⟩ aia ag1 acT
theorem Eh : NM 73 = true := by kernel_rfl
theorem ZY : LT (s 73 64) := tla 73 64 60 ⟨by kernel_rfl, by kernel_rfl⟩
theorem ZI : LT (s 73 48) := tlb 73 48 64 16 ⟨by kernel_rfl, by kernel_rfl⟩ ZY
theorem Zd : LT (s 73 28) := tlb 73 28 48 20 ⟨by kernel_rfl, by kernel_rfl⟩ ZI
theorem ae1 : LT (s 73 0) := tlb 73 0 28 28 ⟨by kernel_rfl, by kernel_rfl⟩ Zd
theorem ail : eP prog 79 (p 73) := tp 73 ⟨by kernel_rfl, by kernel_rfl⟩ ae1
theorem Nf : ah prog 84 (e10 73) := t10 73 Eh ⟨by kernel_rfl, by kernel_rfl⟩
theorem Vd : ah prog 83 (e11 73) := t11 73 Eh ⟨by kernel_rfl, by kernel_rfl⟩ Nf
theorem ag9 : ah prog 77 (e8 73) := t8 73 Eh ⟨by kernel_rfl, by kernel_rfl⟩
theorem abK : ah prog 56 (e13 73) := t13 73 Eh ⟨by kernel_rfl, by kernel_rfl⟩ Nf Vd
theorem ac1 : ah prog 45 (e14 73) := t14 73 Eh ⟨by kernel_rfl, by kernel_rfl⟩ Nf Vd abK
theorem aed : ah prog 29 (e15 73) := iJ 73 Eh ⟨by kernel_rfl, by kernel_rfl⟩ ail ag9 ac1
end Gv.SL
