/- ShowLong: what a request tells, for these k. Printed by genSL.py. -/
import Derived.Test.YtkbdcpkbmfegdaaGreatDoorSGvJn
set_option maxRecDepth 100000
open Rx Go Gv Rd
namespace Gv.SL
theorem K4 : NM 0 = true := by kernel_rfl
theorem TG : ah prog 84 (e10 0) := t10 0 K4 ⟨by kernel_rfl, by kernel_rfl⟩
theorem XU : ah prog 83 (e11 0) := t11 0 K4 ⟨by kernel_rfl, by kernel_rfl⟩ TG
theorem aj0 : ah prog 77 (e8 0) := t8 0 K4 ⟨by kernel_rfl, by kernel_rfl⟩
theorem akb : ah prog 44 (e9 0) := t9 0 K4 ⟨by kernel_rfl, by kernel_rfl⟩ aj0
theorem afw : ah prog 56 (e13 0) := t13 0 K4 ⟨by kernel_rfl, by kernel_rfl⟩ TG XU
theorem afG : ah prog 45 (e14 0) := t14 0 K4 ⟨by kernel_rfl, by kernel_rfl⟩ TG XU afw
theorem afQ : ah prog 29 (e15 0) := t15 0 K4 ⟨by kernel_rfl, by kernel_rfl⟩ akb afG
theorem Lc : NM 8 = true := by kernel_rfl
theorem TQ : ah prog 84 (e10 8) := t10 8 Lc ⟨by kernel_rfl, by kernel_rfl⟩
theorem X5 : ah prog 83 (e11 8) := t11 8 Lc ⟨by kernel_rfl, by kernel_rfl⟩ TQ
theorem aj8 : ah prog 77 (e8 8) := t8 8 Lc ⟨by kernel_rfl, by kernel_rfl⟩
theorem akj : ah prog 44 (e9 8) := t9 8 Lc ⟨by kernel_rfl, by kernel_rfl⟩ aj8
theorem afE : ah prog 56 (e13 8) := t13 8 Lc ⟨by kernel_rfl, by kernel_rfl⟩ TQ X5
theorem afO : ah prog 45 (e14 8) := t14 8 Lc ⟨by kernel_rfl, by kernel_rfl⟩ TQ X5 afE
theorem afY : ah prog 29 (e15 8) := t15 8 Lc ⟨by kernel_rfl, by kernel_rfl⟩ akj afO
theorem zU : NM 16 = true := by kernel_rfl
theorem LQ : ah prog 84 (e10 16) := t10 16 zU ⟨by kernel_rfl, by kernel_rfl⟩
theorem T9 : ah prog 83 (e11 16) := t11 16 zU ⟨by kernel_rfl, by kernel_rfl⟩ LQ
theorem af7 : ah prog 77 (e8 16) := t8 16 zU ⟨by kernel_rfl, by kernel_rfl⟩
theorem ahm : ah prog 44 (e9 16) := t9 16 zU ⟨by kernel_rfl, by kernel_rfl⟩ af7
theorem aaL : ah prog 56 (e13 16) := t13 16 zU ⟨by kernel_rfl, by kernel_rfl⟩ LQ T9
theorem abX : ah prog 45 (e14 16) := t14 16 zU ⟨by kernel_rfl, by kernel_rfl⟩ LQ T9 aaL
theorem adg : ah prog 29 (e15 16) := t15 16 zU ⟨by kernel_rfl, by kernel_rfl⟩ ahm abX
theorem Ab : NM 24 = true := by kernel_rfl
theorem L9 : ah prog 84 (e10 24) := t10 24 Ab ⟨by kernel_rfl, by kernel_rfl⟩
theorem Uh : ah prog 83 (e11 24) := t11 24 Ab ⟨by kernel_rfl, by kernel_rfl⟩ L9
theorem agh : ah prog 77 (e8 24) := t8 24 Ab ⟨by kernel_rfl, by kernel_rfl⟩
theorem ahu : ah prog 44 (e9 24) := t9 24 Ab ⟨by kernel_rfl, by kernel_rfl⟩ agh
theorem aaT : ah prog 56 (e13 24) := t13 24 Ab ⟨by kernel_rfl, by kernel_rfl⟩ L9 Uh
theorem ab5 : ah prog 45 (e14 24) := t14 24 Ab ⟨by kernel_rfl, by kernel_rfl⟩ L9 Uh aaT
theorem adp : ah prog 29 (e15 24) := t15 24 Ab ⟨by kernel_rfl, by kernel_rfl⟩ ahu ab5
theorem Ak : NM 32 = true := by kernel_rfl
theorem Mi : ah prog 84 (e10 32) := t10 32 Ak ⟨by kernel_rfl, by kernel_rfl⟩
theorem Uq : ah prog 83 (e11 32) := t11 32 Ak ⟨by kernel_rfl, by kernel_rfl⟩ Mi
theorem agq : ah prog 77 (e8 32) := t8 32 Ak ⟨by kernel_rfl, by kernel_rfl⟩
theorem ahC : ah prog 44 (e9 32) := t9 32 Ak ⟨by kernel_rfl, by kernel_rfl⟩ agq
theorem aa1 : ah prog 56 (e13 32) := t13 32 Ak ⟨by kernel_rfl, by kernel_rfl⟩ Mi Uq
theorem acg : ah prog 45 (e14 32) := t14 32 Ak ⟨by kernel_rfl, by kernel_rfl⟩ Mi Uq aa1
theorem adx : ah prog 29 (e15 32) := t15 32 Ak ⟨by kernel_rfl, by kernel_rfl⟩ ahC acg
theorem Aw : NM 40 = true := by kernel_rfl
theorem Mv : ah prog 84 (e10 40) := t10 40 Aw ⟨by kernel_rfl, by kernel_rfl⟩
theorem Uy : ah prog 83 (e11 40) := t11 40 Aw ⟨by kernel_rfl, by kernel_rfl⟩ Mv
theorem agy : ah prog 77 (e8 40) := t8 40 Aw ⟨by kernel_rfl, by kernel_rfl⟩
theorem ahK : ah prog 44 (e9 40) := t9 40 Aw ⟨by kernel_rfl, by kernel_rfl⟩ agy
theorem aa9 : ah prog 56 (e13 40) := t13 40 Aw ⟨by kernel_rfl, by kernel_rfl⟩ Mv Uy
theorem acs : ah prog 45 (e14 40) := t14 40 Aw ⟨by kernel_rfl, by kernel_rfl⟩ Mv Uy aa9
theorem adF : ah prog 29 (e15 40) := t15 40 Aw ⟨by kernel_rfl, by kernel_rfl⟩ ahK acs
theorem AP : NM 48 = true := by kernel_rfl
theorem MI : ah prog 84 (e10 48) := t10 48 AP ⟨by kernel_rfl, by kernel_rfl⟩
theorem UH : ah prog 83 (e11 48) := t11 48 AP ⟨by kernel_rfl, by kernel_rfl⟩ MI
theorem agI : ah prog 77 (e8 48) := t8 48 AP ⟨by kernel_rfl, by kernel_rfl⟩
theorem ahS : ah prog 44 (e9 48) := t9 48 AP ⟨by kernel_rfl, by kernel_rfl⟩ agI
theorem abk : ah prog 56 (e13 48) := t13 48 AP ⟨by kernel_rfl, by kernel_rfl⟩ MI UH
theorem acC : ah prog 45 (e14 48) := t14 48 AP ⟨by kernel_rfl, by kernel_rfl⟩ MI UH abk
theorem adN : ah prog 29 (e15 48) := t15 48 AP ⟨by kernel_rfl, by kernel_rfl⟩ ahS acC
theorem DT : NM 56 = true := by kernel_rfl
theorem Zp : LT (s 56 48) := tla 56 48 60 ⟨by kernel_rfl, by kernel_rfl⟩
theorem YV : LT (s 56 28) := tlb 56 28 48 20 ⟨by kernel_rfl, by kernel_rfl⟩ Zp
theorem aeK : LT (s 56 0) := tlb 56 0 28 28 ⟨by kernel_rfl, by kernel_rfl⟩ YV
theorem ah1 : eP prog 79 (p 56) := tp 56 ⟨by kernel_rfl, by kernel_rfl⟩ aeK
theorem MR : ah prog 84 (e10 56) := t10 56 DT ⟨by kernel_rfl, by kernel_rfl⟩
theorem UR : ah prog 83 (e11 56) := t11 56 DT ⟨by kernel_rfl, by kernel_rfl⟩ MR
theorem agR : ah prog 77 (e8 56) := t8 56 DT ⟨by kernel_rfl, by kernel_rfl⟩
theorem abt : ah prog 56 (e13 56) := t13 56 DT ⟨by kernel_rfl, by kernel_rfl⟩ MR UR
theorem acK : ah prog 45 (e14 56) := t14 56 DT ⟨by kernel_rfl, by kernel_rfl⟩ MR UR abt
theorem adV : ah prog 29 (e15 56) := iJ 56 DT ⟨by kernel_rfl, by kernel_rfl⟩ ah1 agR acK
theorem D7 : NM 64 = true := by kernel_rfl
theorem Zy : LT (s 64 48) := tla 64 48 60 ⟨by kernel_rfl, by kernel_rfl⟩
theorem Y4 : LT (s 64 28) := tlb 64 28 48 20 ⟨by kernel_rfl, by kernel_rfl⟩ Zy
theorem aeS : LT (s 64 0) := tlb 64 0 28 28 ⟨by kernel_rfl, by kernel_rfl⟩ Y4
theorem ah9 : eP prog 79 (p 64) := tp 64 ⟨by kernel_rfl, by kernel_rfl⟩ aeS
theorem M4 : ah prog 84 (e10 64) := t10 64 D7 ⟨by kernel_rfl, by kernel_rfl⟩
theorem U3 : ah prog 83 (e11 64) := t11 64 D7 ⟨by kernel_rfl, by kernel_rfl⟩ M4
theorem ag0 : ah prog 77 (e8 64) := t8 64 D7 ⟨by kernel_rfl, by kernel_rfl⟩
theorem abB : ah prog 56 (e13 64) := t13 64 D7 ⟨by kernel_rfl, by kernel_rfl⟩ M4 U3
theorem acS : ah prog 45 (e14 64) := t14 64 D7 ⟨by kernel_rfl, by kernel_rfl⟩ M4 U3 abB
theorem ad4 : ah prog 29 (e15 64) := iJ 64 D7 ⟨by kernel_rfl, by kernel_rfl⟩ ah9 ag0 acS
theorem Ef : NM 72 = true := by kernel_rfl
theorem ZX : LT (s 72 64) := tla 72 64 60 ⟨by kernel_rfl, by kernel_rfl⟩
theorem ZH : LT (s 72 48) := tlb 72 48 64 16 ⟨by kernel_rfl, by kernel_rfl⟩ ZX
theorem Zc : LT (s 72 28) := tlb 72 28 48 20 ⟨by kernel_rfl, by kernel_rfl⟩ ZH
theorem ae0 : LT (s 72 0) := tlb 72 0 28 28 ⟨by kernel_rfl, by kernel_rfl⟩ Zc
theorem aik : eP prog 79 (p 72) := tp 72 ⟨by kernel_rfl, by kernel_rfl⟩ ae0
theorem Nc : ah prog 84 (e10 72) := t10 72 Ef ⟨by kernel_rfl, by kernel_rfl⟩
theorem Vb : ah prog 83 (e11 72) := t11 72 Ef ⟨by kernel_rfl, by kernel_rfl⟩ Nc
theorem ag8 : ah prog 77 (e8 72) := t8 72 Ef ⟨by kernel_rfl, by kernel_rfl⟩
theorem abJ : ah prog 56 (e13 72) := t13 72 Ef ⟨by kernel_rfl, by kernel_rfl⟩ Nc Vb
theorem ac0 : ah prog 45 (e14 72) := t14 72 Ef ⟨by kernel_rfl, by kernel_rfl⟩ Nc Vb abJ
theorem aec : ah prog 29 (e15 72) := iJ 72 Ef ⟨by kernel_rfl, by kernel_rfl⟩ aik ag8 ac0
end Gv.SL
