/- ShowLong: what a request tells, for these k. Printed by genSL.py. -/
import Derived.Test.YtkbdcpkbmfegdaaGreatDoorSGvJn
set_option maxRecDepth 100000
open Rx Go Gv Rd
namespace Gv.SL
theorem K8 : NM 4 = true := by kernel_rfl
theorem TK : ah prog 84 (e10 4) := t10 4 K8 ⟨by kernel_rfl, by kernel_rfl⟩
theorem XZ : ah prog 83 (e11 4) := t11 4 K8 ⟨by kernel_rfl, by kernel_rfl⟩ TK
theorem aj4 : ah prog 77 (e8 4) := t8 4 K8 ⟨by kernel_rfl, by kernel_rfl⟩
theorem akf : ah prog 44 (e9 4) := t9 4 K8 ⟨by kernel_rfl, by kernel_rfl⟩ aj4
theorem afA : ah prog 56 (e13 4) := t13 4 K8 ⟨by kernel_rfl, by kernel_rfl⟩ TK XZ
theorem afK : ah prog 45 (e14 4) := t14 4 K8 ⟨by kernel_rfl, by kernel_rfl⟩ TK XZ afA
theorem afU : ah prog 29 (e15 4) := t15 4 K8 ⟨by kernel_rfl, by kernel_rfl⟩ akf afK
theorem zQ : NM 12 = true := by kernel_rfl
theorem LJ : ah prog 84 (e10 12) := t10 12 zQ ⟨by kernel_rfl, by kernel_rfl⟩
theorem TU : ah prog 83 (e11 12) := t11 12 zQ ⟨by kernel_rfl, by kernel_rfl⟩ LJ
theorem af3 : ah prog 77 (e8 12) := t8 12 zQ ⟨by kernel_rfl, by kernel_rfl⟩
theorem ahi : ah prog 44 (e9 12) := t9 12 zQ ⟨by kernel_rfl, by kernel_rfl⟩ af3
theorem aaH : ah prog 56 (e13 12) := t13 12 zQ ⟨by kernel_rfl, by kernel_rfl⟩ LJ TU
theorem abT : ah prog 45 (e14 12) := t14 12 zQ ⟨by kernel_rfl, by kernel_rfl⟩ LJ TU aaH
theorem ada : ah prog 29 (e15 12) := t15 12 zQ ⟨by kernel_rfl, by kernel_rfl⟩ ahi abT
theorem zY : NM 20 = true := by kernel_rfl
theorem LY : ah prog 84 (e10 20) := t10 20 zY ⟨by kernel_rfl, by kernel_rfl⟩
theorem Ud : ah prog 83 (e11 20) := t11 20 zY ⟨by kernel_rfl, by kernel_rfl⟩ LY
theorem agb : ah prog 77 (e8 20) := t8 20 zY ⟨by kernel_rfl, by kernel_rfl⟩
theorem ahq : ah prog 44 (e9 20) := t9 20 zY ⟨by kernel_rfl, by kernel_rfl⟩ agb
theorem aaP : ah prog 56 (e13 20) := t13 20 zY ⟨by kernel_rfl, by kernel_rfl⟩ LY Ud
theorem ab1 : ah prog 45 (e14 20) := t14 20 zY ⟨by kernel_rfl, by kernel_rfl⟩ LY Ud aaP
theorem adk : ah prog 29 (e15 20) := t15 20 zY ⟨by kernel_rfl, by kernel_rfl⟩ ahq ab1
theorem Af : NM 28 = true := by kernel_rfl
theorem Me : ah prog 84 (e10 28) := t10 28 Af ⟨by kernel_rfl, by kernel_rfl⟩
theorem Ul : ah prog 83 (e11 28) := t11 28 Af ⟨by kernel_rfl, by kernel_rfl⟩ Me
theorem agl : ah prog 77 (e8 28) := t8 28 Af ⟨by kernel_rfl, by kernel_rfl⟩
theorem ahy : ah prog 44 (e9 28) := t9 28 Af ⟨by kernel_rfl, by kernel_rfl⟩ agl
theorem aaX : ah prog 56 (e13 28) := t13 28 Af ⟨by kernel_rfl, by kernel_rfl⟩ Me Ul
theorem ab9 : ah prog 45 (e14 28) := t14 28 Af ⟨by kernel_rfl, by kernel_rfl⟩ Me Ul aaX
theorem adt : ah prog 29 (e15 28) := t15 28 Af ⟨by kernel_rfl, by kernel_rfl⟩ ahy ab9
theorem Ap : NM 36 = true := by kernel_rfl
theorem Mq : ah prog 84 (e10 36) := t10 36 Ap ⟨by kernel_rfl, by kernel_rfl⟩
theorem Uu : ah prog 83 (e11 36) := t11 36 Ap ⟨by kernel_rfl, by kernel_rfl⟩ Mq
theorem agu : ah prog 77 (e8 36) := t8 36 Ap ⟨by kernel_rfl, by kernel_rfl⟩
theorem ahG : ah prog 44 (e9 36) := t9 36 Ap ⟨by kernel_rfl, by kernel_rfl⟩ agu
theorem aa5 : ah prog 56 (e13 36) := t13 36 Ap ⟨by kernel_rfl, by kernel_rfl⟩ Mq Uu
theorem acn : ah prog 45 (e14 36) := t14 36 Ap ⟨by kernel_rfl, by kernel_rfl⟩ Mq Uu aa5
theorem adB : ah prog 29 (e15 36) := t15 36 Ap ⟨by kernel_rfl, by kernel_rfl⟩ ahG acn
theorem AB : NM 44 = true := by kernel_rfl
theorem MC : ah prog 84 (e10 44) := t10 44 AB ⟨by kernel_rfl, by kernel_rfl⟩
theorem UD : ah prog 83 (e11 44) := t11 44 AB ⟨by kernel_rfl, by kernel_rfl⟩ MC
theorem agD : ah prog 77 (e8 44) := t8 44 AB ⟨by kernel_rfl, by kernel_rfl⟩
theorem ahO : ah prog 44 (e9 44) := t9 44 AB ⟨by kernel_rfl, by kernel_rfl⟩ agD
theorem abf : ah prog 56 (e13 44) := t13 44 AB ⟨by kernel_rfl, by kernel_rfl⟩ MC UD
theorem acy : ah prog 45 (e14 44) := t14 44 AB ⟨by kernel_rfl, by kernel_rfl⟩ MC UD abf
theorem adJ : ah prog 29 (e15 44) := t15 44 AB ⟨by kernel_rfl, by kernel_rfl⟩ ahO acy
theorem DK : NM 52 = true := by kernel_rfl
theorem Zl : LT (s 52 48) := tla 52 48 60 ⟨by kernel_rfl, by kernel_rfl⟩
theorem YR : LT (s 52 28) := tlb 52 28 48 20 ⟨by kernel_rfl, by kernel_rfl⟩ Zl
theorem aeG : LT (s 52 0) := tlb 52 0 28 28 ⟨by kernel_rfl, by kernel_rfl⟩ YR
theorem ahX : eP prog 79 (p 52) := tp 52 ⟨by kernel_rfl, by kernel_rfl⟩ aeG
theorem MN : ah prog 84 (e10 52) := t10 52 DK ⟨by kernel_rfl, by kernel_rfl⟩
theorem UM : ah prog 83 (e11 52) := t11 52 DK ⟨by kernel_rfl, by kernel_rfl⟩ MN
theorem agM : ah prog 77 (e8 52) := t8 52 DK ⟨by kernel_rfl, by kernel_rfl⟩
theorem abo : ah prog 56 (e13 52) := t13 52 DK ⟨by kernel_rfl, by kernel_rfl⟩ MN UM
theorem acG : ah prog 45 (e14 52) := t14 52 DK ⟨by kernel_rfl, by kernel_rfl⟩ MN UM abo
theorem adR : ah prog 29 (e15 52) := iJ 52 DK ⟨by kernel_rfl, by kernel_rfl⟩ ahX agM acG
theorem DY : NM 60 = true := by kernel_rfl
theorem Zu : LT (s 60 48) := tla 60 48 60 ⟨by kernel_rfl, by kernel_rfl⟩
theorem Y0 : LT (s 60 28) := tlb 60 28 48 20 ⟨by kernel_rfl, by kernel_rfl⟩ Zu
theorem aeO : LT (s 60 0) := tlb 60 0 28 28 ⟨by kernel_rfl, by kernel_rfl⟩ Y0
theorem ah5 : eP prog 79 (p 60) := tp 60 ⟨by kernel_rfl, by kernel_rfl⟩ aeO
theorem MW : ah prog 84 (e10 60) := t10 60 DY ⟨by kernel_rfl, by kernel_rfl⟩
theorem UZ : ah prog 83 (e11 60) := t11 60 DY ⟨by kernel_rfl, by kernel_rfl⟩ MW
theorem agV : ah prog 77 (e8 60) := t8 60 DY ⟨by kernel_rfl, by kernel_rfl⟩
theorem abx : ah prog 56 (e13 60) := t13 60 DY ⟨by kernel_rfl, by kernel_rfl⟩ MW UZ
theorem acO : ah prog 45 (e14 60) := t14 60 DY ⟨by kernel_rfl, by kernel_rfl⟩ MW UZ abx
theorem adZ : ah prog 29 (e15 60) := iJ 60 DY ⟨by kernel_rfl, by kernel_rfl⟩ ah5 agV acO
theorem Eb : NM 68 = true := by kernel_rfl
theorem ZT : LT (s 68 64) := tla 68 64 60 ⟨by kernel_rfl, by kernel_rfl⟩
theorem ZC : LT (s 68 48) := tlb 68 48 64 16 ⟨by kernel_rfl, by kernel_rfl⟩ ZT
theorem Y8 : LT (s 68 28) := tlb 68 28 48 20 ⟨by kernel_rfl, by kernel_rfl⟩ ZC
theorem aeW : LT (s 68 0) := tlb 68 0 28 28 ⟨by kernel_rfl, by kernel_rfl⟩ Y8
theorem aie : eP prog 79 (p 68) := tp 68 ⟨by kernel_rfl, by kernel_rfl⟩ aeW
theorem M8 : ah prog 84 (e10 68) := t10 68 Eb ⟨by kernel_rfl, by kernel_rfl⟩
theorem U7 : ah prog 83 (e11 68) := t11 68 Eb ⟨by kernel_rfl, by kernel_rfl⟩ M8
theorem ag4 : ah prog 77 (e8 68) := t8 68 Eb ⟨by kernel_rfl, by kernel_rfl⟩
theorem abF : ah prog 56 (e13 68) := t13 68 Eb ⟨by kernel_rfl, by kernel_rfl⟩ M8 U7
theorem acW : ah prog 45 (e14 68) := t14 68 Eb ⟨by kernel_rfl, by kernel_rfl⟩ M8 U7 abF
theorem ad8 : ah prog 29 (e15 68) := iJ 68 Eb ⟨by kernel_rfl, by kernel_rfl⟩ aie ag4 acW
theorem El : NM 76 = true := by kernel_rfl
theorem Z5 : LT (s 76 64) := tla 76 64 60 ⟨by kernel_rfl, by kernel_rfl⟩
theorem ZL : LT (s 76 48) := tlb 76 48 64 16 ⟨by kernel_rfl, by kernel_rfl⟩ Z5
theorem Zg : LT (s 76 28) := tlb 76 28 48 20 ⟨by kernel_rfl, by kernel_rfl⟩ ZL
theorem ae4 : LT (s 76 0) := tlb 76 0 28 28 ⟨by kernel_rfl, by kernel_rfl⟩ Zg
theorem aip : eP prog 79 (p 76) := tp 76 ⟨by kernel_rfl, by kernel_rfl⟩ ae4
theorem Ni : ah prog 84 (e10 76) := t10 76 El ⟨by kernel_rfl, by kernel_rfl⟩
theorem Vg : ah prog 83 (e11 76) := t11 76 El ⟨by kernel_rfl, by kernel_rfl⟩ Ni
theorem ahc : ah prog 77 (e8 76) := t8 76 El ⟨by kernel_rfl, by kernel_rfl⟩
theorem abN : ah prog 56 (e13 76) := t13 76 El ⟨by kernel_rfl, by kernel_rfl⟩ Ni Vg
theorem ac4 : ah prog 45 (e14 76) := t14 76 El ⟨by kernel_rfl, by kernel_rfl⟩ Ni Vg abN
theorem aeg : ah prog 29 (e15 76) := iJ 76 El ⟨by kernel_rfl, by kernel_rfl⟩ aip ahc ac4
end Gv.SL
