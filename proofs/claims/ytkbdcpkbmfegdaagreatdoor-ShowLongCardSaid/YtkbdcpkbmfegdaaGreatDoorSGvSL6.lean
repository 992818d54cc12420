/- ShowLong: what a request tells, for these k. Printed by genSL.py. -/
import Derived.Test.YtkbdcpkbmfegdaaGreatDoorSGvJn
set_option maxRecDepth 100000
open Rx Go Gv Rd
namespace Gv.SL
theorem La : NM 6 = true := by kernel_rfl
theorem TN : ah prog 84 (e10 6) := t10 6 La ⟨by kernel_rfl, by kernel_rfl⟩
theorem X3 : ah prog 83 (e11 6) := t11 6 La ⟨by kernel_rfl, by kernel_rfl⟩ TN
theorem aj6 : ah prog 77 (e8 6) := t8 6 La ⟨by kernel_rfl, by kernel_rfl⟩
theorem akh : ah prog 44 (e9 6) := t9 6 La ⟨by kernel_rfl, by kernel_rfl⟩ aj6
theorem afC : ah prog 56 (e13 6) := t13 6 La ⟨by kernel_rfl, by kernel_rfl⟩ TN X3
theorem afM : ah prog 45 (e14 6) := t14 6 La ⟨by kernel_rfl, by kernel_rfl⟩ TN X3 afC
theorem afW : ah prog 29 (e15 6) := t15 6 La ⟨by kernel_rfl, by kernel_rfl⟩ akh afM
theorem zS : NM 14 = true := by kernel_rfl
theorem LM : ah prog 84 (e10 14) := t10 14 zS ⟨by kernel_rfl, by kernel_rfl⟩
theorem TW : ah prog 83 (e11 14) := t11 14 zS ⟨by kernel_rfl, by kernel_rfl⟩ LM
theorem af5 : ah prog 77 (e8 14) := t8 14 zS ⟨by kernel_rfl, by kernel_rfl⟩
theorem ahk : ah prog 44 (e9 14) := t9 14 zS ⟨by kernel_rfl, by kernel_rfl⟩ af5
theorem aaJ : ah prog 56 (e13 14) := t13 14 zS ⟨by kernel_rfl, by kernel_rfl⟩ LM TW
theorem abV : ah prog 45 (e14 14) := t14 14 zS ⟨by kernel_rfl, by kernel_rfl⟩ LM TW aaJ
theorem ade : ah prog 29 (e15 14) := t15 14 zS ⟨by kernel_rfl, by kernel_rfl⟩ ahk abV
theorem z8 : NM 22 = true := by kernel_rfl
theorem L6 : ah prog 84 (e10 22) := t10 22 z8 ⟨by kernel_rfl, by kernel_rfl⟩
theorem Uf : ah prog 83 (e11 22) := t11 22 z8 ⟨by kernel_rfl, by kernel_rfl⟩ L6
theorem agd : ah prog 77 (e8 22) := t8 22 z8 ⟨by kernel_rfl, by kernel_rfl⟩
theorem ahs : ah prog 44 (e9 22) := t9 22 z8 ⟨by kernel_rfl, by kernel_rfl⟩ agd
theorem aaR : ah prog 56 (e13 22) := t13 22 z8 ⟨by kernel_rfl, by kernel_rfl⟩ L6 Uf
theorem ab3 : ah prog 45 (e14 22) := t14 22 z8 ⟨by kernel_rfl, by kernel_rfl⟩ L6 Uf aaR
theorem adn : ah prog 29 (e15 22) := t15 22 z8 ⟨by kernel_rfl, by kernel_rfl⟩ ahs ab3
theorem Ai : NM 30 = true := by kernel_rfl
theorem Mg : ah prog 84 (e10 30) := t10 30 Ai ⟨by kernel_rfl, by kernel_rfl⟩
theorem Un : ah prog 83 (e11 30) := t11 30 Ai ⟨by kernel_rfl, by kernel_rfl⟩ Mg
theorem agn : ah prog 77 (e8 30) := t8 30 Ai ⟨by kernel_rfl, by kernel_rfl⟩
theorem ahA : ah prog 44 (e9 30) := t9 30 Ai ⟨by kernel_rfl, by kernel_rfl⟩ agn
theorem aaZ : ah prog 56 (e13 30) := t13 30 Ai ⟨by kernel_rfl, by kernel_rfl⟩ Mg Un
theorem ace : ah prog 45 (e14 30) := t14 30 Ai ⟨by kernel_rfl, by kernel_rfl⟩ Mg Un aaZ
theorem adv : ah prog 29 (e15 30) := t15 30 Ai ⟨by kernel_rfl, by kernel_rfl⟩ ahA ace
theorem Ar : NM 38 = true := by kernel_rfl
theorem Ms : ah prog 84 (e10 38) := t10 38 Ar ⟨by kernel_rfl, by kernel_rfl⟩
theorem Uw : ah prog 83 (e11 38) := t11 38 Ar ⟨by kernel_rfl, by kernel_rfl⟩ Ms
theorem agw : ah prog 77 (e8 38) := t8 38 Ar ⟨by kernel_rfl, by kernel_rfl⟩
theorem ahI : ah prog 44 (e9 38) := t9 38 Ar ⟨by kernel_rfl, by kernel_rfl⟩ agw
theorem aa7 : ah prog 56 (e13 38) := t13 38 Ar ⟨by kernel_rfl, by kernel_rfl⟩ Ms Uw
theorem acp : ah prog 45 (e14 38) := t14 38 Ar ⟨by kernel_rfl, by kernel_rfl⟩ Ms Uw aa7
theorem adD : ah prog 29 (e15 38) := t15 38 Ar ⟨by kernel_rfl, by kernel_rfl⟩ ahI acp
theorem AL : NM 46 = true := by kernel_rfl
theorem MG : ah prog 84 (e10 46) := t10 46 AL ⟨by kernel_rfl, by kernel_rfl⟩
theorem UF : ah prog 83 (e11 46) := t11 46 AL ⟨by kernel_rfl, by kernel_rfl⟩ MG
theorem agG : ah prog 77 (e8 46) := t8 46 AL ⟨by kernel_rfl, by kernel_rfl⟩
theorem ahQ : ah prog 44 (e9 46) := t9 46 AL ⟨by kernel_rfl, by kernel_rfl⟩ agG
theorem abh : ah prog 56 (e13 46) := t13 46 AL ⟨by kernel_rfl, by kernel_rfl⟩ MG UF
theorem acA : ah prog 45 (e14 46) := t14 46 AL ⟨by kernel_rfl, by kernel_rfl⟩ MG UF abh
theorem adL : ah prog 29 (e15 46) := t15 46 AL ⟨by kernel_rfl, by kernel_rfl⟩ ahQ acA
theorem DN : NM 54 = true := by kernel_rfl
theorem Zn : LT (s 54 48) := tla 54 48 60 ⟨by kernel_rfl, by kernel_rfl⟩
theorem YT : LT (s 54 28) := tlb 54 28 48 20 ⟨by kernel_rfl, by kernel_rfl⟩ Zn
theorem aeI : LT (s 54 0) := tlb 54 0 28 28 ⟨by kernel_rfl, by kernel_rfl⟩ YT
theorem ahZ : eP prog 79 (p 54) := tp 54 ⟨by kernel_rfl, by kernel_rfl⟩ aeI
theorem MP : ah prog 84 (e10 54) := t10 54 DN ⟨by kernel_rfl, by kernel_rfl⟩
theorem UO : ah prog 83 (e11 54) := t11 54 DN ⟨by kernel_rfl, by kernel_rfl⟩ MP
theorem agO : ah prog 77 (e8 54) := t8 54 DN ⟨by kernel_rfl, by kernel_rfl⟩
theorem abq : ah prog 56 (e13 54) := t13 54 DN ⟨by kernel_rfl, by kernel_rfl⟩ MP UO
theorem acI : ah prog 45 (e14 54) := t14 54 DN ⟨by kernel_rfl, by kernel_rfl⟩ MP UO abq
theorem adT : ah prog 29 (e15 54) := iJ 54 DN ⟨by kernel_rfl, by kernel_rfl⟩ ahZ agO acI
theorem D5 : NM 62 = true := by kernel_rfl
theorem Zw : LT (s 62 48) := tla 62 48 60 ⟨by kernel_rfl, by kernel_rfl⟩
theorem Y2 : LT (s 62 28) := tlb 62 28 48 20 ⟨by kernel_rfl, by kernel_rfl⟩ Zw
theorem aeQ : LT (s 62 0) := tlb 62 0 28 28 ⟨by kernel_rfl, by kernel_rfl⟩ Y2
theorem ah7 : eP prog 79 (p 62) := tp 62 ⟨by kernel_rfl, by kernel_rfl⟩ aeQ
theorem MZ : ah prog 84 (e10 62) := t10 62 D5 ⟨by kernel_rfl, by kernel_rfl⟩
theorem U1 : ah prog 83 (e11 62) := t11 62 D5 ⟨by kernel_rfl, by kernel_rfl⟩ MZ
theorem agY : ah prog 77 (e8 62) := t8 62 D5 ⟨by kernel_rfl, by kernel_rfl⟩
theorem abz : ah prog 56 (e13 62) := t13 62 D5 ⟨by kernel_rfl, by kernel_rfl⟩ MZ U1
theorem acQ : ah prog 45 (e14 62) := t14 62 D5 ⟨by kernel_rfl, by kernel_rfl⟩ MZ U1 abz
theorem ad2 : ah prog 29 (e15 62) := iJ 62 D5 ⟨by kernel_rfl, by kernel_rfl⟩ ah7 agY acQ
theorem Ed : NM 70 = true := by kernel_rfl
theorem ZV : LT (s 70 64) := tla 70 64 60 ⟨by kernel_rfl, by kernel_rfl⟩
theorem ZF : LT (s 70 48) := tlb 70 48 64 16 ⟨by kernel_rfl, by kernel_rfl⟩ ZV
theorem Za : LT (s 70 28) := tlb 70 28 48 20 ⟨by kernel_rfl, by kernel_rfl⟩ ZF
theorem aeY : LT (s 70 0) := tlb 70 0 28 28 ⟨by kernel_rfl, by kernel_rfl⟩ Za
theorem aii : eP prog 79 (p 70) := tp 70 ⟨by kernel_rfl, by kernel_rfl⟩ aeY
theorem Na : ah prog 84 (e10 70) := t10 70 Ed ⟨by kernel_rfl, by kernel_rfl⟩
theorem U9 : ah prog 83 (e11 70) := t11 70 Ed ⟨by kernel_rfl, by kernel_rfl⟩ Na
theorem ag6 : ah prog 77 (e8 70) := t8 70 Ed ⟨by kernel_rfl, by kernel_rfl⟩
theorem abH : ah prog 56 (e13 70) := t13 70 Ed ⟨by kernel_rfl, by kernel_rfl⟩ Na U9
theorem acY : ah prog 45 (e14 70) := t14 70 Ed ⟨by kernel_rfl, by kernel_rfl⟩ Na U9 abH
theorem aea : ah prog 29 (e15 70) := iJ 70 Ed ⟨by kernel_rfl, by kernel_rfl⟩ aii ag6 acY
theorem En : NM 78 = true := by kernel_rfl
theorem Z7 : LT (s 78 64) := tla 78 64 60 ⟨by kernel_rfl, by kernel_rfl⟩
theorem ZN : LT (s 78 48) := tlb 78 48 64 16 ⟨by kernel_rfl, by kernel_rfl⟩ Z7
theorem Zi : LT (s 78 28) := tlb 78 28 48 20 ⟨by kernel_rfl, by kernel_rfl⟩ ZN
theorem ae6 : LT (s 78 0) := tlb 78 0 28 28 ⟨by kernel_rfl, by kernel_rfl⟩ Zi
theorem air : eP prog 79 (p 78) := tp 78 ⟨by kernel_rfl, by kernel_rfl⟩ ae6
theorem Nk : ah prog 84 (e10 78) := t10 78 En ⟨by kernel_rfl, by kernel_rfl⟩
theorem Vi : ah prog 83 (e11 78) := t11 78 En ⟨by kernel_rfl, by kernel_rfl⟩ Nk
theorem ahe : ah prog 77 (e8 78) := t8 78 En ⟨by kernel_rfl, by kernel_rfl⟩
theorem abP : ah prog 56 (e13 78) := t13 78 En ⟨by kernel_rfl, by kernel_rfl⟩ Nk Vi
theorem ac6 : ah prog 45 (e14 78) := t14 78 En ⟨by kernel_rfl, by kernel_rfl⟩ Nk Vi abP
theorem aei : ah prog 29 (e15 78) := iJ 78 En ⟨by kernel_rfl, by kernel_rfl⟩ air ahe ac6
end Gv.SL
