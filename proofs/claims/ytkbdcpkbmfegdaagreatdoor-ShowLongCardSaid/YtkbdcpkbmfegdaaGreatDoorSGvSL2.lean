/- ShowLong: what a request tells, for these k. Printed by genSL.py. -/
import Derived.Test.YtkbdcpkbmfegdaaGreatDoorSGvJn
set_option maxRecDepth 100000
open Rx Go Gv Rd
namespace Gv.SL
theorem K6 : NM 2 = true := by kernel_rfl
theorem TI : ah prog 84 (e10 2) := t10 2 K6 ⟨by kernel_rfl, by kernel_rfl⟩
theorem XW : ah prog 83 (e11 2) := t11 2 K6 ⟨by kernel_rfl, by kernel_rfl⟩ TI
theorem aj2 : ah prog 77 (e8 2) := t8 2 K6 ⟨by kernel_rfl, by kernel_rfl⟩
theorem akd : ah prog 44 (e9 2) := t9 2 K6 ⟨by kernel_rfl, by kernel_rfl⟩ aj2
theorem afy : ah prog 56 (e13 2) := t13 2 K6 ⟨by kernel_rfl, by kernel_rfl⟩ TI XW
theorem afI : ah prog 45 (e14 2) := t14 2 K6 ⟨by kernel_rfl, by kernel_rfl⟩ TI XW afy
theorem afS : ah prog 29 (e15 2) := t15 2 K6 ⟨by kernel_rfl, by kernel_rfl⟩ akd afI
theorem zO : NM 10 = true := by kernel_rfl
theorem LG : ah prog 84 (e10 10) := t10 10 zO ⟨by kernel_rfl, by kernel_rfl⟩
theorem TS : ah prog 83 (e11 10) := t11 10 zO ⟨by kernel_rfl, by kernel_rfl⟩ LG
theorem af0 : ah prog 77 (e8 10) := t8 10 zO ⟨by kernel_rfl, by kernel_rfl⟩
theorem ahg : ah prog 44 (e9 10) := t9 10 zO ⟨by kernel_rfl, by kernel_rfl⟩ af0
theorem aaF : ah prog 56 (e13 10) := t13 10 zO ⟨by kernel_rfl, by kernel_rfl⟩ LG TS
theorem abR : ah prog 45 (e14 10) := t14 10 zO ⟨by kernel_rfl, by kernel_rfl⟩ LG TS aaF
theorem ac8 : ah prog 29 (e15 10) := t15 10 zO ⟨by kernel_rfl, by kernel_rfl⟩ ahg abR
theorem zW : NM 18 = true := by kernel_rfl
theorem LV : ah prog 84 (e10 18) := t10 18 zW ⟨by kernel_rfl, by kernel_rfl⟩
theorem Ub : ah prog 83 (e11 18) := t11 18 zW ⟨by kernel_rfl, by kernel_rfl⟩ LV
theorem af9 : ah prog 77 (e8 18) := t8 18 zW ⟨by kernel_rfl, by kernel_rfl⟩
theorem aho : ah prog 44 (e9 18) := t9 18 zW ⟨by kernel_rfl, by kernel_rfl⟩ af9
theorem aaN : ah prog 56 (e13 18) := t13 18 zW ⟨by kernel_rfl, by kernel_rfl⟩ LV Ub
theorem abZ : ah prog 45 (e14 18) := t14 18 zW ⟨by kernel_rfl, by kernel_rfl⟩ LV Ub aaN
theorem adi : ah prog 29 (e15 18) := t15 18 zW ⟨by kernel_rfl, by kernel_rfl⟩ aho abZ
theorem Ad : NM 26 = true := by kernel_rfl
theorem Mc : ah prog 84 (e10 26) := t10 26 Ad ⟨by kernel_rfl, by kernel_rfl⟩
theorem Uj : ah prog 83 (e11 26) := t11 26 Ad ⟨by kernel_rfl, by kernel_rfl⟩ Mc
theorem agj : ah prog 77 (e8 26) := t8 26 Ad ⟨by kernel_rfl, by kernel_rfl⟩
theorem ahw : ah prog 44 (e9 26) := t9 26 Ad ⟨by kernel_rfl, by kernel_rfl⟩ agj
theorem aaV : ah prog 56 (e13 26) := t13 26 Ad ⟨by kernel_rfl, by kernel_rfl⟩ Mc Uj
theorem ab7 : ah prog 45 (e14 26) := t14 26 Ad ⟨by kernel_rfl, by kernel_rfl⟩ Mc Uj aaV
theorem adr : ah prog 29 (e15 26) := t15 26 Ad ⟨by kernel_rfl, by kernel_rfl⟩ ahw ab7
theorem Am : NM 34 = true := by kernel_rfl
theorem Mk : ah prog 84 (e10 34) := t10 34 Am ⟨by kernel_rfl, by kernel_rfl⟩
theorem Us : ah prog 83 (e11 34) := t11 34 Am ⟨by kernel_rfl, by kernel_rfl⟩ Mk
theorem ags : ah prog 77 (e8 34) := t8 34 Am ⟨by kernel_rfl, by kernel_rfl⟩
theorem ahE : ah prog 44 (e9 34) := t9 34 Am ⟨by kernel_rfl, by kernel_rfl⟩ ags
theorem aa3 : ah prog 56 (e13 34) := t13 34 Am ⟨by kernel_rfl, by kernel_rfl⟩ Mk Us
theorem aci : ah prog 45 (e14 34) := t14 34 Am ⟨by kernel_rfl, by kernel_rfl⟩ Mk Us aa3
theorem adz : ah prog 29 (e15 34) := t15 34 Am ⟨by kernel_rfl, by kernel_rfl⟩ ahE aci
theorem Az : NM 42 = true := by kernel_rfl
theorem Mx : ah prog 84 (e10 42) := t10 42 Az ⟨by kernel_rfl, by kernel_rfl⟩
theorem UA : ah prog 83 (e11 42) := t11 42 Az ⟨by kernel_rfl, by kernel_rfl⟩ Mx
theorem agB : ah prog 77 (e8 42) := t8 42 Az ⟨by kernel_rfl, by kernel_rfl⟩
theorem ahM : ah prog 44 (e9 42) := t9 42 Az ⟨by kernel_rfl, by kernel_rfl⟩ agB
theorem abd : ah prog 56 (e13 42) := t13 42 Az ⟨by kernel_rfl, by kernel_rfl⟩ Mx UA
theorem acv : ah prog 45 (e14 42) := t14 42 Az ⟨by kernel_rfl, by kernel_rfl⟩ Mx UA abd
theorem adH : ah prog 29 (e15 42) := t15 42 Az ⟨by kernel_rfl, by kernel_rfl⟩ ahM acv
theorem AU : NM 50 = true := by kernel_rfl
theorem MK : ah prog 84 (e10 50) := t10 50 AU ⟨by kernel_rfl, by kernel_rfl⟩
theorem UK : ah prog 83 (e11 50) := t11 50 AU ⟨by kernel_rfl, by kernel_rfl⟩ MK
theorem agK : ah prog 77 (e8 50) := t8 50 AU ⟨by kernel_rfl, by kernel_rfl⟩
theorem ahU : ah prog 44 (e9 50) := t9 50 AU ⟨by kernel_rfl, by kernel_rfl⟩ agK
theorem abm : ah prog 56 (e13 50) := t13 50 AU ⟨by kernel_rfl, by kernel_rfl⟩ MK UK
theorem acE : ah prog 45 (e14 50) := t14 50 AU ⟨by kernel_rfl, by kernel_rfl⟩ MK UK abm
theorem adP : ah prog 29 (e15 50) := t15 50 AU ⟨by kernel_rfl, by kernel_rfl⟩ ahU acE
theorem DW : NM 58 = true := by kernel_rfl
theorem Zr : LT (s 58 48) := tla 58 48 60 ⟨by kernel_rfl, by kernel_rfl⟩
theorem YX : LT (s 58 28) := tlb 58 28 48 20 ⟨by kernel_rfl, by kernel_rfl⟩ Zr
theorem aeM : LT (s 58 0) := tlb 58 0 28 28 ⟨by kernel_rfl, by kernel_rfl⟩ YX
theorem ah3 : eP prog 79 (p 58) := tp 58 ⟨by kernel_rfl, by kernel_rfl⟩ aeM
theorem MU : ah prog 84 (e10 58) := t10 58 DW ⟨by kernel_rfl, by kernel_rfl⟩
theorem UW : ah prog 83 (e11 58) := t11 58 DW ⟨by kernel_rfl, by kernel_rfl⟩ MU
theorem agT : ah prog 77 (e8 58) := t8 58 DW ⟨by kernel_rfl, by kernel_rfl⟩
theorem abv : ah prog 56 (e13 58) := t13 58 DW ⟨by kernel_rfl, by kernel_rfl⟩ MU UW
theorem acM : ah prog 45 (e14 58) := t14 58 DW ⟨by kernel_rfl, by kernel_rfl⟩ MU UW abv
theorem adX : ah prog 29 (e15 58) := iJ 58 DW ⟨by kernel_rfl, by kernel_rfl⟩ ah3 agT acM
theorem D9 : NM 66 = true := by kernel_rfl
theorem ZQ : LT (s 66 64) := tla 66 64 60 ⟨by kernel_rfl, by kernel_rfl⟩
theorem ZA : LT (s 66 48) := tlb 66 48 64 16 ⟨by kernel_rfl, by kernel_rfl⟩ ZQ
theorem Y6 : LT (s 66 28) := tlb 66 28 48 20 ⟨by kernel_rfl, by kernel_rfl⟩ ZA
theorem aeU : LT (s 66 0) := tlb 66 0 28 28 ⟨by kernel_rfl, by kernel_rfl⟩ Y6
theorem aib : eP prog 79 (p 66) := tp 66 ⟨by kernel_rfl, by kernel_rfl⟩ aeU
theorem M6 : ah prog 84 (e10 66) := t10 66 D9 ⟨by kernel_rfl, by kernel_rfl⟩
theorem U5 : ah prog 83 (e11 66) := t11 66 D9 ⟨by kernel_rfl, by kernel_rfl⟩ M6
theorem ag2 : ah prog 77 (e8 66) := t8 66 D9 ⟨by kernel_rfl, by kernel_rfl⟩
theorem abD : ah prog 56 (e13 66) := t13 66 D9 ⟨by kernel_rfl, by kernel_rfl⟩ M6 U5
theorem acU : ah prog 45 (e14 66) := t14 66 D9 ⟨by kernel_rfl, by kernel_rfl⟩ M6 U5 abD
theorem ad6 : ah prog 29 (e15 66) := iJ 66 D9 ⟨by kernel_rfl, by kernel_rfl⟩ aib ag2 acU
theorem Ei : NM 74 = true := by kernel_rfl
theorem Z0 : LT (s 74 64) := tla 74 64 60 ⟨by kernel_rfl, by kernel_rfl⟩
theorem ZJ : LT (s 74 48) := tlb 74 48 64 16 ⟨by kernel_rfl, by kernel_rfl⟩ Z0
theorem Ze : LT (s 74 28) := tlb 74 28 48 20 ⟨by kernel_rfl, by kernel_rfl⟩ ZJ
theorem ae2 : LT (s 74 0) := tlb 74 0 28 28 ⟨by kernel_rfl, by kernel_rfl⟩ Ze
theorem ain : eP prog 79 (p 74) := tp 74 ⟨by kernel_rfl, by kernel_rfl⟩ ae2
theorem Ng : ah prog 84 (e10 74) := t10 74 Ei ⟨by kernel_rfl, by kernel_rfl⟩
theorem Ve : ah prog 83 (e11 74) := t11 74 Ei ⟨by kernel_rfl, by kernel_rfl⟩ Ng
theorem aha : ah prog 77 (e8 74) := t8 74 Ei ⟨by kernel_rfl, by kernel_rfl⟩
theorem abL : ah prog 56 (e13 74) := t13 74 Ei ⟨by kernel_rfl, by kernel_rfl⟩ Ng Ve
theorem ac2 : ah prog 45 (e14 74) := t14 74 Ei ⟨by kernel_rfl, by kernel_rfl⟩ Ng Ve abL
theorem aee : ah prog 29 (e15 74) := iJ 74 Ei ⟨by kernel_rfl, by kernel_rfl⟩ ain aha ac2
end Gv.SL
