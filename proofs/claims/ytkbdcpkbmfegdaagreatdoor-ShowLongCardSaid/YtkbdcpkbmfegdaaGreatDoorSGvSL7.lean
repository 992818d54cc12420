/- ShowLong: what a request tells, for these k. Printed by genSL.py. -/
import Derived.Test.YtkbdcpkbmfegdaaGreatDoorSGvJn
set_option maxRecDepth 100000
open Rx Go Gv Rd
namespace Gv.SL
theorem Lb : NM 7 = true := by kernel_rfl
theorem TP : ah prog 84 (e10 7) := t10 7 Lb ⟨by kernel_rfl, by kernel_rfl⟩
theorem X4 : ah prog 83 (e11 7) := t11 7 Lb ⟨by kernel_rfl, by kernel_rfl⟩ TP
theorem aj7 : ah prog 77 (e8 7) := t8 7 Lb ⟨by kernel_rfl, by kernel_rfl⟩
theorem aki : ah prog 44 (e9 7) := t9 7 Lb ⟨by kernel_rfl, by kernel_rfl⟩ aj7
theorem afD : ah prog 56 (e13 7) := t13 7 Lb ⟨by kernel_rfl, by kernel_rfl⟩ TP X4
theorem afN : ah prog 45 (e14 7) := t14 7 Lb ⟨by kernel_rfl, by kernel_rfl⟩ TP X4 afD
theorem afX : ah prog 29 (e15 7) := t15 7 Lb ⟨by kernel_rfl, by kernel_rfl⟩ aki afN
theorem zT : NM 15 = true := by kernel_rfl
theorem LP : ah prog 84 (e10 15) := t10 15 zT ⟨by kernel_rfl, by kernel_rfl⟩
theorem TY : ah prog 83 (e11 15) := t11 15 zT ⟨by kernel_rfl, by kernel_rfl⟩ LP
theorem af6 : ah prog 77 (e8 15) := t8 15 zT ⟨by kernel_rfl, by kernel_rfl⟩
theorem ahl : ah prog 44 (e9 15) := t9 15 zT ⟨by kernel_rfl, by kernel_rfl⟩ af6
theorem aaK : ah prog 56 (e13 15) := t13 15 zT ⟨by kernel_rfl, by kernel_rfl⟩ LP TY
theorem abW : ah prog 45 (e14 15) := t14 15 zT ⟨by kernel_rfl, by kernel_rfl⟩ LP TY aaK
theorem adf : ah prog 29 (e15 15) := t15 15 zT ⟨by kernel_rfl, by kernel_rfl⟩ ahl abW
theorem Aa : NM 23 = true := by kernel_rfl
theorem L8 : ah prog 84 (e10 23) := t10 23 Aa ⟨by kernel_rfl, by kernel_rfl⟩
theorem Ug : ah prog 83 (e11 23) := t11 23 Aa ⟨by kernel_rfl, by kernel_rfl⟩ L8
theorem agf : ah prog 77 (e8 23) := t8 23 Aa ⟨by kernel_rfl, by kernel_rfl⟩
theorem aht : ah prog 44 (e9 23) := t9 23 Aa ⟨by kernel_rfl, by kernel_rfl⟩ agf
theorem aaS : ah prog 56 (e13 23) := t13 23 Aa ⟨by kernel_rfl, by kernel_rfl⟩ L8 Ug
theorem ab4 : ah prog 45 (e14 23) := t14 23 Aa ⟨by kernel_rfl, by kernel_rfl⟩ L8 Ug aaS
theorem ado : ah prog 29 (e15 23) := t15 23 Aa ⟨by kernel_rfl, by kernel_rfl⟩ aht ab4
theorem Aj : NM 31 = true := by kernel_rfl
theorem Mh : ah prog 84 (e10 31) := t10 31 Aj ⟨by kernel_rfl, by kernel_rfl⟩
theorem Uo : ah prog 83 (e11 31) := t11 31 Aj ⟨by kernel_rfl, by kernel_rfl⟩ Mh
theorem agp : ah prog 77 (e8 31) := t8 31 Aj ⟨by kernel_rfl, by kernel_rfl⟩
theorem ahB : ah prog 44 (e9 31) := t9 31 Aj ⟨by kernel_rfl, by kernel_rfl⟩ agp
theorem aa0 : ah prog 56 (e13 31) := t13 31 Aj ⟨by kernel_rfl, by kernel_rfl⟩ Mh Uo
theorem acf : ah prog 45 (e14 31) := t14 31 Aj ⟨by kernel_rfl, by kernel_rfl⟩ Mh Uo aa0
theorem adw : ah prog 29 (e15 31) := t15 31 Aj ⟨by kernel_rfl, by kernel_rfl⟩ ahB acf
theorem Au : NM 39 = true := by kernel_rfl
theorem Mt : ah prog 84 (e10 39) := t10 39 Au ⟨by kernel_rfl, by kernel_rfl⟩
theorem Ux : ah prog 83 (e11 39) := t11 39 Au ⟨by kernel_rfl, by kernel_rfl⟩ Mt
theorem agx : ah prog 77 (e8 39) := t8 39 Au ⟨by kernel_rfl, by kernel_rfl⟩
theorem ahJ : ah prog 44 (e9 39) := t9 39 Au ⟨by kernel_rfl, by kernel_rfl⟩ agx
theorem aa8 : ah prog 56 (e13 39) := t13 39 Au ⟨by kernel_rfl, by kernel_rfl⟩ Mt Ux
theorem acr : ah prog 45 (e14 39) := t14 39 Au ⟨by kernel_rfl, by kernel_rfl⟩ Mt Ux aa8
theorem adE : ah prog 29 (e15 39) := t15 39 Au ⟨by kernel_rfl, by kernel_rfl⟩ ahJ acr
theorem AO : NM 47 = true := by kernel_rfl
theorem MH : ah prog 84 (e10 47) := t10 47 AO ⟨by kernel_rfl, by kernel_rfl⟩
theorem UG : ah prog 83 (e11 47) := t11 47 AO ⟨by kernel_rfl, by kernel_rfl⟩ MH
theorem agH : ah prog 77 (e8 47) := t8 47 AO ⟨by kernel_rfl, by kernel_rfl⟩
theorem ahR : ah prog 44 (e9 47) := t9 47 AO ⟨by kernel_rfl, by kernel_rfl⟩ agH
theorem abj : ah prog 56 (e13 47) := t13 47 AO ⟨by kernel_rfl, by kernel_rfl⟩ MH UG
theorem acB : ah prog 45 (e14 47) := t14 47 AO ⟨by kernel_rfl, by kernel_rfl⟩ MH UG abj
theorem adM : ah prog 29 (e15 47) := t15 47 AO ⟨by kernel_rfl, by kernel_rfl⟩ ahR acB
theorem DR : NM 55 = true := by kernel_rfl
theorem Zo : LT (s 55 48) := tla 55 48 60 ⟨by kernel_rfl, by kernel_rfl⟩
theorem YU : LT (s 55 28) := tlb 55 28 48 20 ⟨by kernel_rfl, by kernel_rfl⟩ Zo
theorem aeJ : LT (s 55 0) := tlb 55 0 28 28 ⟨by kernel_rfl, by kernel_rfl⟩ YU
theorem ah0 : eP prog 79 (p 55) := tp 55 ⟨by kernel_rfl, by kernel_rfl⟩ aeJ
theorem MQ : ah prog 84 (e10 55) := t10 55 DR ⟨by kernel_rfl, by kernel_rfl⟩
theorem UQ : ah prog 83 (e11 55) := t11 55 DR ⟨by kernel_rfl, by kernel_rfl⟩ MQ
theorem agP : ah prog 77 (e8 55) := t8 55 DR ⟨by kernel_rfl, by kernel_rfl⟩
theorem abr : ah prog 56 (e13 55) := t13 55 DR ⟨by kernel_rfl, by kernel_rfl⟩ MQ UQ
theorem acJ : ah prog 45 (e14 55) := t14 55 DR ⟨by kernel_rfl, by kernel_rfl⟩ MQ UQ abr
theorem adU : ah prog 29 (e15 55) := iJ 55 DR ⟨by kernel_rfl, by kernel_rfl⟩ ah0 agP acJ
theorem D6 : NM 63 = true := by kernel_rfl
theorem Zx : LT (s 63 48) := tla 63 48 60 ⟨by kernel_rfl, by kernel_rfl⟩
theorem Y3 : LT (s 63 28) := tlb 63 28 48 20 ⟨by kernel_rfl, by kernel_rfl⟩ Zx
theorem aeR : LT (s 63 0) := tlb 63 0 28 28 ⟨by kernel_rfl, by kernel_rfl⟩ Y3
theorem ah8 : eP prog 79 (p 63) := tp 63 ⟨by kernel_rfl, by kernel_rfl⟩ aeR
theorem M0 : ah prog 84 (e10 63) := t10 63 D6 ⟨by kernel_rfl, by kernel_rfl⟩
theorem U2 : ah prog 83 (e11 63) := t11 63 D6 ⟨by kernel_rfl, by kernel_rfl⟩ M0
theorem agZ : ah prog 77 (e8 63) := t8 63 D6 ⟨by kernel_rfl, by kernel_rfl⟩
theorem abA : ah prog 56 (e13 63) := t13 63 D6 ⟨by kernel_rfl, by kernel_rfl⟩ M0 U2
theorem acR : ah prog 45 (e14 63) := t14 63 D6 ⟨by kernel_rfl, by kernel_rfl⟩ M0 U2 abA
theorem ad3 : ah prog 29 (e15 63) := iJ 63 D6 ⟨by kernel_rfl, by kernel_rfl⟩ ah8 agZ acR
theorem Ee : NM 71 = true := by kernel_rfl
theorem ZW : LT (s 71 64) := tla 71 64 60 ⟨by kernel_rfl, by kernel_rfl⟩
theorem ZG : LT (s 71 48) := tlb 71 48 64 16 ⟨by kernel_rfl, by kernel_rfl⟩ ZW
theorem Zb : LT (s 71 28) := tlb 71 28 48 20 ⟨by kernel_rfl, by kernel_rfl⟩ ZG
theorem aeZ : LT (s 71 0) := tlb 71 0 28 28 ⟨by kernel_rfl, by kernel_rfl⟩ Zb
theorem aij : eP prog 79 (p 71) := tp 71 ⟨by kernel_rfl, by kernel_rfl⟩ aeZ
theorem Nb : ah prog 84 (e10 71) := t10 71 Ee ⟨by kernel_rfl, by kernel_rfl⟩
theorem Va : ah prog 83 (e11 71) := t11 71 Ee ⟨by kernel_rfl, by kernel_rfl⟩ Nb
theorem ag7 : ah prog 77 (e8 71) := t8 71 Ee ⟨by kernel_rfl, by kernel_rfl⟩
theorem abI : ah prog 56 (e13 71) := t13 71 Ee ⟨by kernel_rfl, by kernel_rfl⟩ Nb Va
theorem acZ : ah prog 45 (e14 71) := t14 71 Ee ⟨by kernel_rfl, by kernel_rfl⟩ Nb Va abI
theorem aeb : ah prog 29 (e15 71) := iJ 71 Ee ⟨by kernel_rfl, by kernel_rfl⟩ aij ag7 acZ
theorem Eo : NM 79 = true := by kernel_rfl
theorem Z8 : LT (s 79 64) := tla 79 64 60 ⟨by kernel_rfl, by kernel_rfl⟩
theorem ZO : LT (s 79 48) := tlb 79 48 64 16 ⟨by kernel_rfl, by kernel_rfl⟩ Z8
theorem Zj : LT (s 79 28) := tlb 79 28 48 20 ⟨by kernel_rfl, by kernel_rfl⟩ ZO
theorem ae7 : LT (s 79 0) := tlb 79 0 28 28 ⟨by kernel_rfl, by kernel_rfl⟩ Zj
theorem ais : eP prog 79 (p 79) := tp 79 ⟨by kernel_rfl, by kernel_rfl⟩ ae7
theorem Nl : ah prog 84 (e10 79) := t10 79 Eo ⟨by kernel_rfl, by kernel_rfl⟩
theorem Vj : ah prog 83 (e11 79) := t11 79 Eo ⟨by kernel_rfl, by kernel_rfl⟩ Nl
theorem ahf : ah prog 77 (e8 79) := t8 79 Eo ⟨by kernel_rfl, by kernel_rfl⟩
theorem abQ : ah prog 56 (e13 79) := t13 79 Eo ⟨by kernel_rfl, by kernel_rfl⟩ Nl Vj
theorem ac7 : ah prog 45 (e14 79) := t14 79 Eo ⟨by kernel_rfl, by kernel_rfl⟩ Nl Vj abQ
theorem aej : ah prog 29 (e15 79) := iJ 79 Eo ⟨by kernel_rfl, by kernel_rfl⟩ ais ahf ac7
end Gv.SL
