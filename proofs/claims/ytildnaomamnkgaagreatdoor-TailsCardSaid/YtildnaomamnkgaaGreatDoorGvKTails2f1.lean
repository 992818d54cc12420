import Derived.Test.YtildnaomamnkgaaGreatDoorGvKTails2f0
set_option linter.unusedSimpArgs false
set_option linter.unusedVariables false
set_option maxRecDepth 100000
open Rx Go Gv Rd
namespace Gv.KTails2
theorem aeF : W_f 66 := fun _ => ⟨⟨by kernel_rfl, by kernel_rfl⟩, by kernel_rfl⟩
theorem F66 : PF 66 := PFs 66 aeF F67 (by decide)
theorem acE : W_f 65 := fun _ => ⟨⟨by kernel_rfl, by kernel_rfl⟩, by kernel_rfl⟩
theorem F65 : PF 65 := PFs 65 acE F66 (by decide)
theorem aa1 : W_f 64 := fun _ => ⟨⟨by kernel_rfl, by kernel_rfl⟩, by kernel_rfl⟩
theorem F64 : PF 64 := PFs 64 aa1 F65 (by decide)
theorem adt : W_f 63 := fun _ => ⟨⟨by kernel_rfl, by kernel_rfl⟩, by kernel_rfl⟩
theorem F63 : PF 63 := PFs 63 adt F64 (by decide)
theorem aat : W_f 62 := fun _ => ⟨⟨by kernel_rfl, by kernel_rfl⟩, by kernel_rfl⟩
theorem F62 : PF 62 := PFs 62 aat F63 (by decide)
theorem aem : W_f 61 := fun _ => ⟨⟨by kernel_rfl, by kernel_rfl⟩, by kernel_rfl⟩
theorem F61 : PF 61 := PFs 61 aem F62 (by decide)
theorem afg : W_f 60 := fun _ => ⟨⟨by kernel_rfl, by kernel_rfl⟩, by kernel_rfl⟩
theorem F60 : PF 60 := PFs 60 afg F61 (by decide)
theorem aaI : W_f 59 := fun _ => ⟨⟨by kernel_rfl, by kernel_rfl⟩, by kernel_rfl⟩
theorem F59 : PF 59 := PFs 59 aaI F60 (by decide)
theorem aeC : W_f 58 := fun _ => ⟨⟨by kernel_rfl, by kernel_rfl⟩, by kernel_rfl⟩
theorem F58 : PF 58 := PFs 58 aeC F59 (by decide)
theorem afG : W_f 57 := fun _ => ⟨⟨by kernel_rfl, by kernel_rfl⟩, by kernel_rfl⟩
theorem F57 : PF 57 := PFs 57 afG F58 (by decide)
theorem acN : W_f 56 := fun _ => ⟨⟨by kernel_rfl, by kernel_rfl⟩, by kernel_rfl⟩
theorem F56 : PF 56 := PFs 56 acN F57 (by decide)
theorem ady : W_f 55 := fun _ => ⟨⟨by kernel_rfl, by kernel_rfl⟩, by kernel_rfl⟩
theorem F55 : PF 55 := PFs 55 ady F56 (by decide)
theorem abN : W_f 54 := fun _ => ⟨⟨by kernel_rfl, by kernel_rfl⟩, by kernel_rfl⟩
theorem F54 : PF 54 := PFs 54 abN F55 (by decide)
theorem ade : W_f 53 := fun _ => ⟨⟨by kernel_rfl, by kernel_rfl⟩, by kernel_rfl⟩
theorem F53 : PF 53 := PFs 53 ade F54 (by decide)
theorem acT : W_f 52 := fun _ => ⟨⟨by kernel_rfl, by kernel_rfl⟩, by kernel_rfl⟩
theorem F52 : PF 52 := PFs 52 acT F53 (by decide)
theorem aaw : W_f 51 := fun _ => ⟨⟨by kernel_rfl, by kernel_rfl⟩, by kernel_rfl⟩
theorem F51 : PF 51 := PFs 51 aaw F52 (by decide)
theorem aew : W_f 50 := fun _ => ⟨⟨by kernel_rfl, by kernel_rfl⟩, by kernel_rfl⟩
theorem F50 : PF 50 := PFs 50 aew F51 (by decide)
theorem abp : W_f 49 := fun _ => ⟨⟨by kernel_rfl, by kernel_rfl⟩, by kernel_rfl⟩
theorem F49 : PF 49 := PFs 49 abp F50 (by decide)
theorem aa3 : W_f 48 := fun _ => ⟨⟨by kernel_rfl, by kernel_rfl⟩, by kernel_rfl⟩
theorem F48 : PF 48 := PFs 48 aa3 F49 (by decide)
theorem abl : W_f 47 := fun _ => ⟨⟨by kernel_rfl, by kernel_rfl⟩, by kernel_rfl⟩
theorem F47 : PF 47 := PFs 47 abl F48 (by decide)
theorem aeZ : W_f 46 := fun _ => ⟨⟨by kernel_rfl, by kernel_rfl⟩, by kernel_rfl⟩
theorem F46 : PF 46 := PFs 46 aeZ F47 (by decide)
theorem ae2 : W_f 45 := fun _ => ⟨⟨by kernel_rfl, by kernel_rfl⟩, by kernel_rfl⟩
theorem F45 : PF 45 := PFs 45 ae2 F46 (by decide)
theorem adg : W_f 44 := fun _ => ⟨⟨by kernel_rfl, by kernel_rfl⟩, by kernel_rfl⟩
theorem F44 : PF 44 := PFs 44 adg F45 (by decide)
theorem ac2 : W_f 43 := fun _ => ⟨⟨by kernel_rfl, by kernel_rfl⟩, by kernel_rfl⟩
theorem F43 : PF 43 := PFs 43 ac2 F44 (by decide)
theorem aa9 : W_f 42 := fun _ => ⟨⟨by kernel_rfl, by kernel_rfl⟩, by kernel_rfl⟩
theorem F42 : PF 42 := PFs 42 aa9 F43 (by decide)
theorem adT : W_f 41 := fun _ => ⟨⟨by kernel_rfl, by kernel_rfl⟩, by kernel_rfl⟩
theorem F41 : PF 41 := PFs 41 adT F42 (by decide)
theorem adP : W_f 40 := fun _ => ⟨⟨by kernel_rfl, by kernel_rfl⟩, by kernel_rfl⟩
theorem F40 : PF 40 := PFs 40 adP F41 (by decide)
theorem adJ : W_f 39 := fun _ => ⟨⟨by kernel_rfl, by kernel_rfl⟩, by kernel_rfl⟩
theorem F39 : PF 39 := PFs 39 adJ F40 (by decide)
theorem abf : W_f 38 := fun _ => ⟨⟨by kernel_rfl, by kernel_rfl⟩, by kernel_rfl⟩
theorem F38 : PF 38 := PFs 38 abf F39 (by decide)
theorem aaK : W_f 37 := fun _ => ⟨⟨by kernel_rfl, by kernel_rfl⟩, by kernel_rfl⟩
theorem F37 : PF 37 := PFs 37 aaK F38 (by decide)
theorem aaZ : W_f 36 := fun _ => ⟨⟨by kernel_rfl, by kernel_rfl⟩, by kernel_rfl⟩
theorem F36 : PF 36 := PFs 36 aaZ F37 (by decide)
theorem adk : W_f 35 := fun _ => ⟨⟨by kernel_rfl, by kernel_rfl⟩, by kernel_rfl⟩
theorem F35 : PF 35 := PFs 35 adk F36 (by decide)
theorem aav : W_f 34 := fun _ => ⟨⟨by kernel_rfl, by kernel_rfl⟩, by kernel_rfl⟩
theorem F34 : PF 34 := PFs 34 aav F35 (by decide)
theorem aaJ : W_f 33 := fun _ => ⟨⟨by kernel_rfl, by kernel_rfl⟩, by kernel_rfl⟩
theorem F33 : PF 33 := PFs 33 aaJ F34 (by decide)
end Gv.KTails2
set_option linter.unusedSimpArgs false
set_option linter.unusedVariables false
set_option maxRecDepth 100000
open Rx Go Gv Rd
namespace Gv.KTails2
theorem aam : W_f 32 := fun _ => ⟨⟨by kernel_rfl, by kernel_rfl⟩, by kernel_rfl⟩
theorem F32 : PF 32 := PFs 32 aam F33 (by decide)
theorem abW : W_f 31 := fun _ => ⟨⟨by kernel_rfl, by kernel_rfl⟩, by kernel_rfl⟩
theorem F31 : PF 31 := PFs 31 abW F32 (by decide)
theorem adK : W_f 30 := fun _ => ⟨⟨by kernel_rfl, by kernel_rfl⟩, by kernel_rfl⟩
theorem F30 : PF 30 := PFs 30 adK F31 (by decide)
theorem aeg : W_f 29 := fun _ => ⟨⟨by kernel_rfl, by kernel_rfl⟩, by kernel_rfl⟩
theorem F29 : PF 29 := PFs 29 aeg F30 (by decide)
theorem aaX : W_f 28 := fun _ => ⟨⟨by kernel_rfl, by kernel_rfl⟩, by kernel_rfl⟩
theorem F28 : PF 28 := PFs 28 aaX F29 (by decide)
theorem aeb : W_f 27 := fun _ => ⟨⟨by kernel_rfl, by kernel_rfl⟩, by kernel_rfl⟩
theorem F27 : PF 27 := PFs 27 aeb F28 (by decide)
theorem aaP : W_f 26 := fun _ => ⟨⟨by kernel_rfl, by kernel_rfl⟩, by kernel_rfl⟩
theorem F26 : PF 26 := PFs 26 aaP F27 (by decide)
theorem acA : W_f 25 := fun _ => ⟨⟨by kernel_rfl, by kernel_rfl⟩, by kernel_rfl⟩
theorem F25 : PF 25 := PFs 25 acA F26 (by decide)
theorem abP : W_f 24 := fun _ => ⟨⟨by kernel_rfl, by kernel_rfl⟩, by kernel_rfl⟩
theorem F24 : PF 24 := PFs 24 abP F25 (by decide)
theorem afH : W_f 23 := fun _ => ⟨⟨by kernel_rfl, by kernel_rfl⟩, by kernel_rfl⟩
theorem F23 : PF 23 := PFs 23 afH F24 (by decide)
theorem acW : W_f 22 := fun _ => ⟨⟨by kernel_rfl, by kernel_rfl⟩, by kernel_rfl⟩
theorem F22 : PF 22 := PFs 22 acW F23 (by decide)
theorem afA : W_f 21 := fun _ => ⟨⟨by kernel_rfl, by kernel_rfl⟩, by kernel_rfl⟩
theorem F21 : PF 21 := PFs 21 afA F22 (by decide)
theorem aaV : W_f 20 := fun _ => ⟨⟨by kernel_rfl, by kernel_rfl⟩, by kernel_rfl⟩
theorem F20 : PF 20 := PFs 20 aaV F21 (by decide)
theorem ae7 : W_f 19 := fun _ => ⟨⟨by kernel_rfl, by kernel_rfl⟩, by kernel_rfl⟩
theorem F19 : PF 19 := PFs 19 ae7 F20 (by decide)
theorem aaB : W_f 18 := fun _ => ⟨⟨by kernel_rfl, by kernel_rfl⟩, by kernel_rfl⟩
theorem F18 : PF 18 := PFs 18 aaB F19 (by decide)
theorem aec : W_f 17 := fun _ => ⟨⟨by kernel_rfl, by kernel_rfl⟩, by kernel_rfl⟩
theorem F17 : PF 17 := PFs 17 aec F18 (by decide)
theorem aev : W_f 16 := fun _ => ⟨⟨by kernel_rfl, by kernel_rfl⟩, by kernel_rfl⟩
theorem F16 : PF 16 := PFs 16 aev F17 (by decide)
theorem abu : W_f 15 := fun _ => ⟨⟨by kernel_rfl, by kernel_rfl⟩, by kernel_rfl⟩
theorem F15 : PF 15 := PFs 15 abu F16 (by decide)
theorem aaE : W_f 14 := fun _ => ⟨⟨by kernel_rfl, by kernel_rfl⟩, by kernel_rfl⟩
theorem F14 : PF 14 := PFs 14 aaE F15 (by decide)
theorem acj : W_f 13 := fun _ => ⟨⟨by kernel_rfl, by kernel_rfl⟩, by kernel_rfl⟩
theorem F13 : PF 13 := PFs 13 acj F14 (by decide)
theorem ab5 : W_f 12 := fun _ => ⟨⟨by kernel_rfl, by kernel_rfl⟩, by kernel_rfl⟩
theorem F12 : PF 12 := PFs 12 ab5 F13 (by decide)
theorem acG : W_f 11 := fun _ => ⟨⟨by kernel_rfl, by kernel_rfl⟩, by kernel_rfl⟩
theorem F11 : PF 11 := PFs 11 acG F12 (by decide)
theorem abR : W_f 10 := fun _ => ⟨⟨by kernel_rfl, by kernel_rfl⟩, by kernel_rfl⟩
theorem F10 : PF 10 := PFs 10 abR F11 (by decide)
theorem rf9 : W_f 9 := fun _ => ⟨⟨by kernel_rfl, by kernel_rfl⟩, by kernel_rfl⟩
theorem F9 : PF 9 := PFs 9 rf9 F10 (by decide)
theorem rf8 : W_f 8 := fun _ => ⟨⟨by kernel_rfl, by kernel_rfl⟩, by kernel_rfl⟩
theorem F8 : PF 8 := PFs 8 rf8 F9 (by decide)
theorem rf7 : W_f 7 := fun _ => ⟨⟨by kernel_rfl, by kernel_rfl⟩, by kernel_rfl⟩
theorem F7 : PF 7 := PFs 7 rf7 F8 (by decide)
theorem rf6 : W_f 6 := fun _ => ⟨⟨by kernel_rfl, by kernel_rfl⟩, by kernel_rfl⟩
theorem F6 : PF 6 := PFs 6 rf6 F7 (by decide)
theorem rf5 : W_f 5 := fun _ => ⟨⟨by kernel_rfl, by kernel_rfl⟩, by kernel_rfl⟩
theorem F5 : PF 5 := PFs 5 rf5 F6 (by decide)
theorem rf4 : W_f 4 := fun _ => ⟨⟨by kernel_rfl, by kernel_rfl⟩, by kernel_rfl⟩
theorem F4 : PF 4 := PFs 4 rf4 F5 (by decide)
theorem rf3 : W_f 3 := fun _ => ⟨⟨by kernel_rfl, by kernel_rfl⟩, by kernel_rfl⟩
theorem F3 : PF 3 := PFs 3 rf3 F4 (by decide)
theorem rf2 : W_f 2 := fun _ => ⟨⟨by kernel_rfl, by kernel_rfl⟩, by kernel_rfl⟩
theorem F2 : PF 2 := PFs 2 rf2 F3 (by decide)
theorem rf1 : W_f 1 := fun _ => ⟨⟨by kernel_rfl, by kernel_rfl⟩, by kernel_rfl⟩
theorem F1 : PF 1 := PFs 1 rf1 F2 (by decide)
theorem ad6 (k : Int) (h0 : 100 <= k) (h1 : k <= 299) : xU prog 67 (q k) := KF (tl := []) (es := [f 1 k]) (l := (f 1 k).al) [] aI (pR (F1 k (by omega) h1 (by decide))) (kZ rfl) (by kernel_rfl) (by kernel_rfl) (by kernel_rfl) 6 (q := (k = k /\ 0 <= k /\ k <= 300) /\
 qt) (by
 refine ⟨by omega, ?_⟩
 rfl
 ) (by kernel_rfl)
end Gv.KTails2
