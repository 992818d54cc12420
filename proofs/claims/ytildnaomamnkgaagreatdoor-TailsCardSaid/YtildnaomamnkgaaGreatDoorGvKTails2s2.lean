import Derived.Test.YtildnaomamnkgaaGreatDoorGvKTails2u0
set_option linter.unusedSimpArgs false
set_option linter.unusedVariables false
set_option maxRecDepth 100000
open Rx Go Gv Rd
namespace Gv.KTails2
theorem Yb : aK 49 := fun _ _ => ⟨⟨by kernel_rfl, by kernel_rfl⟩, by kernel_rfl⟩
theorem abK : W_g 50 := fun _ _ => ⟨⟨by kernel_rfl, by kernel_rfl⟩, by kernel_rfl⟩
theorem Xy : aK 48 := fun _ _ => ⟨⟨by kernel_rfl, by kernel_rfl⟩, by kernel_rfl⟩
theorem ada : W_g 49 := fun _ _ => ⟨⟨by kernel_rfl, by kernel_rfl⟩, by kernel_rfl⟩
theorem XK : aK 47 := fun _ _ => ⟨⟨by kernel_rfl, by kernel_rfl⟩, by kernel_rfl⟩
theorem abg : W_g 48 := fun _ _ => ⟨⟨by kernel_rfl, by kernel_rfl⟩, by kernel_rfl⟩
theorem Ym : aK 46 := fun _ _ => ⟨⟨by kernel_rfl, by kernel_rfl⟩, by kernel_rfl⟩
theorem ad5 : W_g 47 := fun _ _ => ⟨⟨by kernel_rfl, by kernel_rfl⟩, by kernel_rfl⟩
theorem Yu : aK 45 := fun _ _ => ⟨⟨by kernel_rfl, by kernel_rfl⟩, by kernel_rfl⟩
theorem afc : W_g 46 := fun _ _ => ⟨⟨by kernel_rfl, by kernel_rfl⟩, by kernel_rfl⟩
theorem Zp : aK 44 := fun _ _ => ⟨⟨by kernel_rfl, by kernel_rfl⟩, by kernel_rfl⟩
theorem abY : W_g 45 := fun _ _ => ⟨⟨by kernel_rfl, by kernel_rfl⟩, by kernel_rfl⟩
theorem YO : aK 43 := fun _ _ => ⟨⟨by kernel_rfl, by kernel_rfl⟩, by kernel_rfl⟩
theorem acH : W_g 44 := fun _ _ => ⟨⟨by kernel_rfl, by kernel_rfl⟩, by kernel_rfl⟩
theorem XM : aK 42 := fun _ _ => ⟨⟨by kernel_rfl, by kernel_rfl⟩, by kernel_rfl⟩
theorem aeA : W_g 43 := fun _ _ => ⟨⟨by kernel_rfl, by kernel_rfl⟩, by kernel_rfl⟩
theorem YE : aK 41 := fun _ _ => ⟨⟨by kernel_rfl, by kernel_rfl⟩, by kernel_rfl⟩
theorem adL : W_g 42 := fun _ _ => ⟨⟨by kernel_rfl, by kernel_rfl⟩, by kernel_rfl⟩
theorem Yr : aK 40 := fun _ _ => ⟨⟨by kernel_rfl, by kernel_rfl⟩, by kernel_rfl⟩
theorem ad7 : W_g 41 := fun _ _ => ⟨⟨by kernel_rfl, by kernel_rfl⟩, by kernel_rfl⟩
theorem XG : aK 39 := fun _ _ => ⟨⟨by kernel_rfl, by kernel_rfl⟩, by kernel_rfl⟩
theorem aaU : W_g 40 := fun _ _ => ⟨⟨by kernel_rfl, by kernel_rfl⟩, by kernel_rfl⟩
theorem X7 : aK 38 := fun _ _ => ⟨⟨by kernel_rfl, by kernel_rfl⟩, by kernel_rfl⟩
theorem adv : W_g 39 := fun _ _ => ⟨⟨by kernel_rfl, by kernel_rfl⟩, by kernel_rfl⟩
theorem YU : aK 37 := fun _ _ => ⟨⟨by kernel_rfl, by kernel_rfl⟩, by kernel_rfl⟩
theorem afo : W_g 38 := fun _ _ => ⟨⟨by kernel_rfl, by kernel_rfl⟩, by kernel_rfl⟩
theorem Yg : aK 36 := fun _ _ => ⟨⟨by kernel_rfl, by kernel_rfl⟩, by kernel_rfl⟩
theorem adR : W_g 37 := fun _ _ => ⟨⟨by kernel_rfl, by kernel_rfl⟩, by kernel_rfl⟩
theorem Yd : aK 35 := fun _ _ => ⟨⟨by kernel_rfl, by kernel_rfl⟩, by kernel_rfl⟩
theorem aaY : W_g 36 := fun _ _ => ⟨⟨by kernel_rfl, by kernel_rfl⟩, by kernel_rfl⟩
theorem XW : aK 34 := fun _ _ => ⟨⟨by kernel_rfl, by kernel_rfl⟩, by kernel_rfl⟩
theorem afL : W_g 35 := fun _ _ => ⟨⟨by kernel_rfl, by kernel_rfl⟩, by kernel_rfl⟩
theorem Zk : aK 33 := fun _ _ => ⟨⟨by kernel_rfl, by kernel_rfl⟩, by kernel_rfl⟩
theorem aby : W_g 34 := fun _ _ => ⟨⟨by kernel_rfl, by kernel_rfl⟩, by kernel_rfl⟩
theorem Yx : aK 32 := fun _ _ => ⟨⟨by kernel_rfl, by kernel_rfl⟩, by kernel_rfl⟩
theorem acn : W_g 33 := fun _ _ => ⟨⟨by kernel_rfl, by kernel_rfl⟩, by kernel_rfl⟩
theorem ZR : aK 31 := fun _ _ => ⟨⟨by kernel_rfl, by kernel_rfl⟩, by kernel_rfl⟩
theorem adB : W_g 32 := fun _ _ => ⟨⟨by kernel_rfl, by kernel_rfl⟩, by kernel_rfl⟩
theorem Ze : aK 30 := fun _ _ => ⟨⟨by kernel_rfl, by kernel_rfl⟩, by kernel_rfl⟩
theorem aeG : W_g 31 := fun _ _ => ⟨⟨by kernel_rfl, by kernel_rfl⟩, by kernel_rfl⟩
theorem Xp : aK 29 := fun _ _ => ⟨⟨by kernel_rfl, by kernel_rfl⟩, by kernel_rfl⟩
theorem abH : W_g 30 := fun _ _ => ⟨⟨by kernel_rfl, by kernel_rfl⟩, by kernel_rfl⟩
theorem Zr : aK 28 := fun _ _ => ⟨⟨by kernel_rfl, by kernel_rfl⟩, by kernel_rfl⟩
theorem acs : W_g 29 := fun _ _ => ⟨⟨by kernel_rfl, by kernel_rfl⟩, by kernel_rfl⟩
theorem ZF : aK 27 := fun _ _ => ⟨⟨by kernel_rfl, by kernel_rfl⟩, by kernel_rfl⟩
theorem aay : W_g 28 := fun _ _ => ⟨⟨by kernel_rfl, by kernel_rfl⟩, by kernel_rfl⟩
theorem YF : aK 26 := fun _ _ => ⟨⟨by kernel_rfl, by kernel_rfl⟩, by kernel_rfl⟩
theorem ab6 : W_g 27 := fun _ _ => ⟨⟨by kernel_rfl, by kernel_rfl⟩, by kernel_rfl⟩
theorem ZJ : aK 25 := fun _ _ => ⟨⟨by kernel_rfl, by kernel_rfl⟩, by kernel_rfl⟩
theorem abo : W_g 26 := fun _ _ => ⟨⟨by kernel_rfl, by kernel_rfl⟩, by kernel_rfl⟩
theorem XD (S51 : PS 51) : PS 26 := by
 have S50 : PS 50 := PSs 49 (by decide) Yb abK U49 S51
 have S49 : PS 49 := PSs 48 (by decide) Xy ada U48 S50
 have S48 : PS 48 := PSs 47 (by decide) XK abg U47 S49
 have S47 : PS 47 := PSs 46 (by decide) Ym ad5 U46 S48
 have S46 : PS 46 := PSs 45 (by decide) Yu afc U45 S47
 have S45 : PS 45 := PSs 44 (by decide) Zp abY U44 S46
 have S44 : PS 44 := PSs 43 (by decide) YO acH U43 S45
 have S43 : PS 43 := PSs 42 (by decide) XM aeA U42 S44
 have S42 : PS 42 := PSs 41 (by decide) YE adL U41 S43
 have S41 : PS 41 := PSs 40 (by decide) Yr ad7 U40 S42
 have S40 : PS 40 := PSs 39 (by decide) XG aaU U39 S41
 have S39 : PS 39 := PSs 38 (by decide) X7 adv U38 S40
 have S38 : PS 38 := PSs 37 (by decide) YU afo U37 S39
 have S37 : PS 37 := PSs 36 (by decide) Yg adR U36 S38
 have S36 : PS 36 := PSs 35 (by decide) Yd aaY U35 S37
 have S35 : PS 35 := PSs 34 (by decide) XW afL U34 S36
 have S34 : PS 34 := PSs 33 (by decide) Zk aby U33 S35
 have S33 : PS 33 := PSs 32 (by decide) Yx acn U32 S34
 have S32 : PS 32 := PSs 31 (by decide) ZR adB U31 S33
 have S31 : PS 31 := PSs 30 (by decide) Ze aeG U30 S32
 have S30 : PS 30 := PSs 29 (by decide) Xp abH U29 S31
 have S29 : PS 29 := PSs 28 (by decide) Zr acs U28 S30
 have S28 : PS 28 := PSs 27 (by decide) ZF aay U27 S29
 have S27 : PS 27 := PSs 26 (by decide) YF ab6 U26 S28
 have S26 : PS 26 := PSs 25 (by decide) ZJ abo U25 S27
 exact S26
end Gv.KTails2
set_option linter.unusedSimpArgs false
set_option linter.unusedVariables false
set_option maxRecDepth 100000
open Rx Go Gv Rd
namespace Gv.KTails2
theorem XC : aK 24 := fun _ _ => ⟨⟨by kernel_rfl, by kernel_rfl⟩, by kernel_rfl⟩
theorem acO : W_g 25 := fun _ _ => ⟨⟨by kernel_rfl, by kernel_rfl⟩, by kernel_rfl⟩
theorem ZI : aK 23 := fun _ _ => ⟨⟨by kernel_rfl, by kernel_rfl⟩, by kernel_rfl⟩
theorem acC : W_g 24 := fun _ _ => ⟨⟨by kernel_rfl, by kernel_rfl⟩, by kernel_rfl⟩
theorem X6 : aK 22 := fun _ _ => ⟨⟨by kernel_rfl, by kernel_rfl⟩, by kernel_rfl⟩
theorem aeB : W_g 23 := fun _ _ => ⟨⟨by kernel_rfl, by kernel_rfl⟩, by kernel_rfl⟩
theorem ZU : aK 21 := fun _ _ => ⟨⟨by kernel_rfl, by kernel_rfl⟩, by kernel_rfl⟩
theorem abb : W_g 22 := fun _ _ => ⟨⟨by kernel_rfl, by kernel_rfl⟩, by kernel_rfl⟩
theorem YI : aK 20 := fun _ _ => ⟨⟨by kernel_rfl, by kernel_rfl⟩, by kernel_rfl⟩
theorem adZ : W_g 21 := fun _ _ => ⟨⟨by kernel_rfl, by kernel_rfl⟩, by kernel_rfl⟩
theorem ZC : aK 19 := fun _ _ => ⟨⟨by kernel_rfl, by kernel_rfl⟩, by kernel_rfl⟩
theorem ad9 : W_g 20 := fun _ _ => ⟨⟨by kernel_rfl, by kernel_rfl⟩, by kernel_rfl⟩
theorem ZV : aK 18 := fun _ _ => ⟨⟨by kernel_rfl, by kernel_rfl⟩, by kernel_rfl⟩
theorem acI : W_g 19 := fun _ _ => ⟨⟨by kernel_rfl, by kernel_rfl⟩, by kernel_rfl⟩
theorem XE : aK 17 := fun _ _ => ⟨⟨by kernel_rfl, by kernel_rfl⟩, by kernel_rfl⟩
theorem afz : W_g 18 := fun _ _ => ⟨⟨by kernel_rfl, by kernel_rfl⟩, by kernel_rfl⟩
theorem XV : aK 16 := fun _ _ => ⟨⟨by kernel_rfl, by kernel_rfl⟩, by kernel_rfl⟩
theorem ad3 : W_g 17 := fun _ _ => ⟨⟨by kernel_rfl, by kernel_rfl⟩, by kernel_rfl⟩
theorem YP : aK 15 := fun _ _ => ⟨⟨by kernel_rfl, by kernel_rfl⟩, by kernel_rfl⟩
theorem afm : W_g 16 := fun _ _ => ⟨⟨by kernel_rfl, by kernel_rfl⟩, by kernel_rfl⟩
theorem X4 : aK 14 := fun _ _ => ⟨⟨by kernel_rfl, by kernel_rfl⟩, by kernel_rfl⟩
theorem ael : W_g 15 := fun _ _ => ⟨⟨by kernel_rfl, by kernel_rfl⟩, by kernel_rfl⟩
theorem Yq : aK 13 := fun _ _ => ⟨⟨by kernel_rfl, by kernel_rfl⟩, by kernel_rfl⟩
theorem abA : W_g 14 := fun _ _ => ⟨⟨by kernel_rfl, by kernel_rfl⟩, by kernel_rfl⟩
theorem ZQ : aK 12 := fun _ _ => ⟨⟨by kernel_rfl, by kernel_rfl⟩, by kernel_rfl⟩
theorem abh : W_g 13 := fun _ _ => ⟨⟨by kernel_rfl, by kernel_rfl⟩, by kernel_rfl⟩
theorem Xt : aK 11 := fun _ _ => ⟨⟨by kernel_rfl, by kernel_rfl⟩, by kernel_rfl⟩
theorem ad8 : W_g 12 := fun _ _ => ⟨⟨by kernel_rfl, by kernel_rfl⟩, by kernel_rfl⟩
theorem YZ : aK 10 := fun _ _ => ⟨⟨by kernel_rfl, by kernel_rfl⟩, by kernel_rfl⟩
theorem acP : W_g 11 := fun _ _ => ⟨⟨by kernel_rfl, by kernel_rfl⟩, by kernel_rfl⟩
theorem Yk : aK 9 := fun _ _ => ⟨⟨by kernel_rfl, by kernel_rfl⟩, by kernel_rfl⟩
theorem abd : W_g 10 := fun _ _ => ⟨⟨by kernel_rfl, by kernel_rfl⟩, by kernel_rfl⟩
theorem aeR : aK 8 := fun _ _ => ⟨⟨by kernel_rfl, by kernel_rfl⟩, by kernel_rfl⟩
theorem rg9 : W_g 9 := fun _ _ => ⟨⟨by kernel_rfl, by kernel_rfl⟩, by kernel_rfl⟩
theorem afj : aK 7 := fun _ _ => ⟨⟨by kernel_rfl, by kernel_rfl⟩, by kernel_rfl⟩
theorem rg8 : W_g 8 := fun _ _ => ⟨⟨by kernel_rfl, by kernel_rfl⟩, by kernel_rfl⟩
theorem ae8 : aK 6 := fun _ _ => ⟨⟨by kernel_rfl, by kernel_rfl⟩, by kernel_rfl⟩
theorem rg7 : W_g 7 := fun _ _ => ⟨⟨by kernel_rfl, by kernel_rfl⟩, by kernel_rfl⟩
theorem abx : aK 5 := fun _ _ => ⟨⟨by kernel_rfl, by kernel_rfl⟩, by kernel_rfl⟩
theorem rg6 : W_g 6 := fun _ _ => ⟨⟨by kernel_rfl, by kernel_rfl⟩, by kernel_rfl⟩
theorem ab7 : aK 4 := fun _ _ => ⟨⟨by kernel_rfl, by kernel_rfl⟩, by kernel_rfl⟩
theorem rg5 : W_g 5 := fun _ _ => ⟨⟨by kernel_rfl, by kernel_rfl⟩, by kernel_rfl⟩
theorem adj : aK 3 := fun _ _ => ⟨⟨by kernel_rfl, by kernel_rfl⟩, by kernel_rfl⟩
theorem rg4 : W_g 4 := fun _ _ => ⟨⟨by kernel_rfl, by kernel_rfl⟩, by kernel_rfl⟩
theorem afC : aK 2 := fun _ _ => ⟨⟨by kernel_rfl, by kernel_rfl⟩, by kernel_rfl⟩
theorem rg3 : W_g 3 := fun _ _ => ⟨⟨by kernel_rfl, by kernel_rfl⟩, by kernel_rfl⟩
theorem aaM : aK 1 := fun _ _ => ⟨⟨by kernel_rfl, by kernel_rfl⟩, by kernel_rfl⟩
theorem rg2 : W_g 2 := fun _ _ => ⟨⟨by kernel_rfl, by kernel_rfl⟩, by kernel_rfl⟩
theorem rg1 : W_g 1 := fun _ _ => ⟨⟨by kernel_rfl, by kernel_rfl⟩, by kernel_rfl⟩
theorem ZL (S26 : PS 26) : PS 1 := by
 have S25 : PS 25 := PSs 24 (by decide) XC acO U24 S26
 have S24 : PS 24 := PSs 23 (by decide) ZI acC U23 S25
 have S23 : PS 23 := PSs 22 (by decide) X6 aeB U22 S24
 have S22 : PS 22 := PSs 21 (by decide) ZU abb U21 S23
 have S21 : PS 21 := PSs 20 (by decide) YI adZ U20 S22
 have S20 : PS 20 := PSs 19 (by decide) ZC ad9 U19 S21
 have S19 : PS 19 := PSs 18 (by decide) ZV acI U18 S20
 have S18 : PS 18 := PSs 17 (by decide) XE afz U17 S19
 have S17 : PS 17 := PSs 16 (by decide) XV ad3 U16 S18
 have S16 : PS 16 := PSs 15 (by decide) YP afm U15 S17
 have S15 : PS 15 := PSs 14 (by decide) X4 ael U14 S16
 have S14 : PS 14 := PSs 13 (by decide) Yq abA U13 S15
 have S13 : PS 13 := PSs 12 (by decide) ZQ abh U12 S14
 have S12 : PS 12 := PSs 11 (by decide) Xt ad8 U11 S13
 have S11 : PS 11 := PSs 10 (by decide) YZ acP U10 S12
 have S10 : PS 10 := PSs 9 (by decide) Yk abd U9 S11
 have S9 : PS 9 := PSs 8 (by decide) aeR rg9 U8 S10
 have S8 : PS 8 := PSs 7 (by decide) afj rg8 U7 S9
 have S7 : PS 7 := PSs 6 (by decide) ae8 rg7 U6 S8
 have S6 : PS 6 := PSs 5 (by decide) abx rg6 U5 S7
 have S5 : PS 5 := PSs 4 (by decide) ab7 rg5 U4 S6
 have S4 : PS 4 := PSs 3 (by decide) adj rg4 U3 S5
 have S3 : PS 3 := PSs 2 (by decide) afC rg3 U2 S4
 have S2 : PS 2 := PSs 1 (by decide) aaM rg2 U1 S3
 have S1 : PS 1 := PS1 rg1 S2
 exact S1
end Gv.KTails2
