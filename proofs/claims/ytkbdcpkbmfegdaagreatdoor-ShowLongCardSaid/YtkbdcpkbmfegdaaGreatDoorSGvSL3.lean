/- ShowLong: what a request tells, for these k. Printed by genSL.py. -/
import Derived.Test.YtkbdcpkbmfegdaaGreatDoorSGvJn
set_option maxRecDepth 100000
open Rx Go Gv Rd
namespace Gv.SL
theorem K7 : NM 3 = true := by kernel_rfl
theorem TJ : ah prog 84 (e10 3) := t10 3 K7 ⟨by kernel_rfl, by kernel_rfl⟩
theorem XY : ah prog 83 (e11 3) := t11 3 K7 ⟨by kernel_rfl, by kernel_rfl⟩ TJ
theorem aj3 : ah prog 77 (e8 3) := t8 3 K7 ⟨by kernel_rfl, by kernel_rfl⟩
theorem ake : ah prog 44 (e9 3) := t9 3 K7 ⟨by kernel_rfl, by kernel_rfl⟩ aj3
theorem afz : ah prog 56 (e13 3) := t13 3 K7 ⟨by kernel_rfl, by kernel_rfl⟩ TJ XY
theorem afJ : ah prog 45 (e14 3) := t14 3 K7 ⟨by kernel_rfl, by kernel_rfl⟩ TJ XY afz
theorem afT : ah prog 29 (e15 3) := t15 3 K7 ⟨by kernel_rfl, by kernel_rfl⟩ ake afJ
theorem zP : NM 11 = true := by kernel_rfl
theorem LH : ah prog 84 (e10 11) := t10 11 zP ⟨by kernel_rfl, by kernel_rfl⟩
theorem TT : ah prog 83 (e11 11) := t11 11 zP ⟨by kernel_rfl, by kernel_rfl⟩ LH
theorem af2 : ah prog 77 (e8 11) := t8 11 zP ⟨by kernel_rfl, by kernel_rfl⟩
theorem ahh : ah prog 44 (e9 11) := t9 11 zP ⟨by kernel_rfl, by kernel_rfl⟩ af2
theorem aaG : ah prog 56 (e13 11) := t13 11 zP ⟨by kernel_rfl, by kernel_rfl⟩ LH TT
theorem abS : ah prog 45 (e14 11) := t14 11 zP ⟨by kernel_rfl, by kernel_rfl⟩ LH TT aaG
theorem ac9 : ah prog 29 (e15 11) := t15 11 zP ⟨by kernel_rfl, by kernel_rfl⟩ ahh abS
theorem zX : NM 19 = true := by kernel_rfl
theorem LW : ah prog 84 (e10 19) := t10 19 zX ⟨by kernel_rfl, by kernel_rfl⟩
theorem Uc : ah prog 83 (e11 19) := t11 19 zX ⟨by kernel_rfl, by kernel_rfl⟩ LW
theorem aga : ah prog 77 (e8 19) := t8 19 zX ⟨by kernel_rfl, by kernel_rfl⟩
theorem ahp : ah prog 44 (e9 19) := t9 19 zX ⟨by kernel_rfl, by kernel_rfl⟩ aga
theorem aaO : ah prog 56 (e13 19) := t13 19 zX ⟨by kernel_rfl, by kernel_rfl⟩ LW Uc
theorem ab0 : ah prog 45 (e14 19) := t14 19 zX ⟨by kernel_rfl, by kernel_rfl⟩ LW Uc aaO
theorem adj : ah prog 29 (e15 19) := t15 19 zX ⟨by kernel_rfl, by kernel_rfl⟩ ahp ab0
theorem Ae : NM 27 = true := by kernel_rfl
theorem Md : ah prog 84 (e10 27) := t10 27 Ae ⟨by kernel_rfl, by kernel_rfl⟩
theorem Uk : ah prog 83 (e11 27) := t11 27 Ae ⟨by kernel_rfl, by kernel_rfl⟩ Md
theorem agk : ah prog 77 (e8 27) := t8 27 Ae ⟨by kernel_rfl, by kernel_rfl⟩
theorem ahx : ah prog 44 (e9 27) := t9 27 Ae ⟨by kernel_rfl, by kernel_rfl⟩ agk
theorem aaW : ah prog 56 (e13 27) := t13 27 Ae ⟨by kernel_rfl, by kernel_rfl⟩ Md Uk
theorem ab8 : ah prog 45 (e14 27) := t14 27 Ae ⟨by kernel_rfl, by kernel_rfl⟩ Md Uk aaW
theorem ads : ah prog 29 (e15 27) := t15 27 Ae ⟨by kernel_rfl, by kernel_rfl⟩ ahx ab8
theorem Ao : NM 35 = true := by kernel_rfl
theorem Ml : ah prog 84 (e10 35) := t10 35 Ao ⟨by kernel_rfl, by kernel_rfl⟩
theorem Ut : ah prog 83 (e11 35) := t11 35 Ao ⟨by kernel_rfl, by kernel_rfl⟩ Ml
theorem agt : ah prog 77 (e8 35) := t8 35 Ao ⟨by kernel_rfl, by kernel_rfl⟩
theorem ahF : ah prog 44 (e9 35) := t9 35 Ao ⟨by kernel_rfl, by kernel_rfl⟩ agt
theorem aa4 : ah prog 56 (e13 35) := t13 35 Ao ⟨by kernel_rfl, by kernel_rfl⟩ Ml Ut
theorem acj : ah prog 45 (e14 35) := t14 35 Ao ⟨by kernel_rfl, by kernel_rfl⟩ Ml Ut aa4
theorem adA : ah prog 29 (e15 35) := t15 35 Ao ⟨by kernel_rfl, by kernel_rfl⟩ ahF acj
theorem AA : NM 43 = true := by kernel_rfl
theorem MB : ah prog 84 (e10 43) := t10 43 AA ⟨by kernel_rfl, by kernel_rfl⟩
theorem UC : ah prog 83 (e11 43) := t11 43 AA ⟨by kernel_rfl, by kernel_rfl⟩ MB
theorem agC : ah prog 77 (e8 43) := t8 43 AA ⟨by kernel_rfl, by kernel_rfl⟩
theorem ahN : ah prog 44 (e9 43) := t9 43 AA ⟨by kernel_rfl, by kernel_rfl⟩ agC
theorem abe : ah prog 56 (e13 43) := t13 43 AA ⟨by kernel_rfl, by kernel_rfl⟩ MB UC
theorem acw : ah prog 45 (e14 43) := t14 43 AA ⟨by kernel_rfl, by kernel_rfl⟩ MB UC abe
theorem adI : ah prog 29 (e15 43) := t15 43 AA ⟨by kernel_rfl, by kernel_rfl⟩ ahN acw
theorem DJ : NM 51 = true := by kernel_rfl
theorem Zk : LT (s 51 48) := tla 51 48 60 ⟨by kernel_rfl, by kernel_rfl⟩
theorem YQ : LT (s 51 28) := tlb 51 28 48 20 ⟨by kernel_rfl, by kernel_rfl⟩ Zk
theorem aeF : LT (s 51 0) := tlb 51 0 28 28 ⟨by kernel_rfl, by kernel_rfl⟩ YQ
theorem ahW : eP prog 79 (p 51) := tp 51 ⟨by kernel_rfl, by kernel_rfl⟩ aeF
theorem ML : ah prog 84 (e10 51) := t10 51 DJ ⟨by kernel_rfl, by kernel_rfl⟩
theorem UL : ah prog 83 (e11 51) := t11 51 DJ ⟨by kernel_rfl, by kernel_rfl⟩ ML
theorem agL : ah prog 77 (e8 51) := t8 51 DJ ⟨by kernel_rfl, by kernel_rfl⟩
theorem abn : ah prog 56 (e13 51) := t13 51 DJ ⟨by kernel_rfl, by kernel_rfl⟩ ML UL
theorem acF : ah prog 45 (e14 51) := t14 51 DJ ⟨by kernel_rfl, by kernel_rfl⟩ ML UL abn
theorem adQ : ah prog 29 (e15 51) := iJ 51 DJ ⟨by kernel_rfl, by kernel_rfl⟩ ahW agL acF
theorem DX : NM 59 = true := by kernel_rfl
theorem Zt : LT (s 59 48) := tla 59 48 60 ⟨by kernel_rfl, by kernel_rfl⟩
theorem YZ : LT (s 59 28) := tlb 59 28 48 20 ⟨by kernel_rfl, by kernel_rfl⟩ Zt
theorem aeN : LT (s 59 0) := tlb 59 0 28 28 ⟨by kernel_rfl, by kernel_rfl⟩ YZ
theorem ah4 : eP prog 79 (p 59) := tp 59 ⟨by kernel_rfl, by kernel_rfl⟩ aeN
theorem MV : ah prog 84 (e10 59) := t10 59 DX ⟨by kernel_rfl, by kernel_rfl⟩
theorem UY : ah prog 83 (e11 59) := t11 59 DX ⟨by kernel_rfl, by kernel_rfl⟩ MV
theorem agU : ah prog 77 (e8 59) := t8 59 DX ⟨by kernel_rfl, by kernel_rfl⟩
theorem abw : ah prog 56 (e13 59) := t13 59 DX ⟨by kernel_rfl, by kernel_rfl⟩ MV UY
theorem acN : ah prog 45 (e14 59) := t14 59 DX ⟨by kernel_rfl, by kernel_rfl⟩ MV UY abw
theorem adY : ah prog 29 (e15 59) := iJ 59 DX ⟨by kernel_rfl, by kernel_rfl⟩ ah4 agU acN
theorem Ea : NM 67 = true := by kernel_rfl
theorem ZR : LT (s 67 64) := tla 67 64 60 ⟨by kernel_rfl, by kernel_rfl⟩
theorem ZB : LT (s 67 48) := tlb 67 48 64 16 ⟨by kernel_rfl, by kernel_rfl⟩ ZR
theorem Y7 : LT (s 67 28) := tlb 67 28 48 20 ⟨by kernel_rfl, by kernel_rfl⟩ ZB
theorem aeV : LT (s 67 0) := tlb 67 0 28 28 ⟨by kernel_rfl, by kernel_rfl⟩ Y7
theorem aic : eP prog 79 (p 67) := tp 67 ⟨by kernel_rfl, by kernel_rfl⟩ aeV
theorem M7 : ah prog 84 (e10 67) := t10 67 Ea ⟨by kernel_rfl, by kernel_rfl⟩
theorem U6 : ah prog 83 (e11 67) := t11 67 Ea ⟨by kernel_rfl, by kernel_rfl⟩ M7
theorem ag3 : ah prog 77 (e8 67) := t8 67 Ea ⟨by kernel_rfl, by kernel_rfl⟩
theorem abE : ah prog 56 (e13 67) := t13 67 Ea ⟨by kernel_rfl, by kernel_rfl⟩ M7 U6
theorem acV : ah prog 45 (e14 67) := t14 67 Ea ⟨by kernel_rfl, by kernel_rfl⟩ M7 U6 abE
theorem ad7 : ah prog 29 (e15 67) := iJ 67 Ea ⟨by kernel_rfl, by kernel_rfl⟩ aic ag3 acV
theorem Ej : NM 75 = true := by kernel_rfl
theorem Z4 : LT (s 75 64) := tla 75 64 60 ⟨by kernel_rfl, by kernel_rfl⟩
theorem ZK : LT (s 75 48) := tlb 75 48 64 16 ⟨by kernel_rfl, by kernel_rfl⟩ Z4
theorem Zf : LT (s 75 28) := tlb 75 28 48 20 ⟨by kernel_rfl, by kernel_rfl⟩ ZK
theorem ae3 : LT (s 75 0) := tlb 75 0 28 28 ⟨by kernel_rfl, by kernel_rfl⟩ Zf
theorem aio : eP prog 79 (p 75) := tp 75 ⟨by kernel_rfl, by kernel_rfl⟩ ae3
theorem Nh : ah prog 84 (e10 75) := t10 75 Ej ⟨by kernel_rfl, by kernel_rfl⟩
theorem Vf : ah prog 83 (e11 75) := t11 75 Ej ⟨by kernel_rfl, by kernel_rfl⟩ Nh
theorem ahb : ah prog 77 (e8 75) := t8 75 Ej ⟨by kernel_rfl, by kernel_rfl⟩
theorem abM : ah prog 56 (e13 75) := t13 75 Ej ⟨by kernel_rfl, by kernel_rfl⟩ Nh Vf
theorem ac3 : ah prog 45 (e14 75) := t14 75 Ej ⟨by kernel_rfl, by kernel_rfl⟩ Nh Vf abM
theorem aef : ah prog 29 (e15 75) := iJ 75 Ej ⟨by kernel_rfl, by kernel_rfl⟩ aio ahb ac3
end Gv.SL
