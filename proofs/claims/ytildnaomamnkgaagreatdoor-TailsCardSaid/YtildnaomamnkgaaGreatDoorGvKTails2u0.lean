import Derived.Test.YtildnaomamnkgaaGreatDoorGvKTails
set_option linter.unusedSimpArgs false
set_option linter.unusedVariables false
set_option maxRecDepth 100000
open Rx Go Gv Rd
namespace Gv.KTails2
theorem U1 : PU 1 := PU1
theorem ru2 : W_u 1 := fun _ _ => ⟨⟨by kernel_rfl, by kernel_rfl⟩, by kernel_rfl⟩
theorem U2 : PU 2 := PUs 1 (by decide) ru2 U1
theorem ru3 : W_u 2 := fun _ _ => ⟨⟨by kernel_rfl, by kernel_rfl⟩, by kernel_rfl⟩
theorem U3 : PU 3 := PUs 2 (by decide) ru3 U2
theorem ru4 : W_u 3 := fun _ _ => ⟨⟨by kernel_rfl, by kernel_rfl⟩, by kernel_rfl⟩
theorem U4 : PU 4 := PUs 3 (by decide) ru4 U3
theorem ru5 : W_u 4 := fun _ _ => ⟨⟨by kernel_rfl, by kernel_rfl⟩, by kernel_rfl⟩
theorem U5 : PU 5 := PUs 4 (by decide) ru5 U4
theorem ru6 : W_u 5 := fun _ _ => ⟨⟨by kernel_rfl, by kernel_rfl⟩, by kernel_rfl⟩
theorem U6 : PU 6 := PUs 5 (by decide) ru6 U5
theorem ru7 : W_u 6 := fun _ _ => ⟨⟨by kernel_rfl, by kernel_rfl⟩, by kernel_rfl⟩
theorem U7 : PU 7 := PUs 6 (by decide) ru7 U6
theorem ru8 : W_u 7 := fun _ _ => ⟨⟨by kernel_rfl, by kernel_rfl⟩, by kernel_rfl⟩
theorem U8 : PU 8 := PUs 7 (by decide) ru8 U7
theorem ru9 : W_u 8 := fun _ _ => ⟨⟨by kernel_rfl, by kernel_rfl⟩, by kernel_rfl⟩
theorem U9 : PU 9 := PUs 8 (by decide) ru9 U8
theorem aaT : W_u 9 := fun _ _ => ⟨⟨by kernel_rfl, by kernel_rfl⟩, by kernel_rfl⟩
theorem U10 : PU 10 := PUs 9 (by decide) aaT U9
theorem aaz : W_u 10 := fun _ _ => ⟨⟨by kernel_rfl, by kernel_rfl⟩, by kernel_rfl⟩
theorem U11 : PU 11 := PUs 10 (by decide) aaz U10
theorem abq : W_u 11 := fun _ _ => ⟨⟨by kernel_rfl, by kernel_rfl⟩, by kernel_rfl⟩
theorem U12 : PU 12 := PUs 11 (by decide) abq U11
theorem afi : W_u 12 := fun _ _ => ⟨⟨by kernel_rfl, by kernel_rfl⟩, by kernel_rfl⟩
theorem U13 : PU 13 := PUs 12 (by decide) afi U12
theorem aau : W_u 13 := fun _ _ => ⟨⟨by kernel_rfl, by kernel_rfl⟩, by kernel_rfl⟩
theorem U14 : PU 14 := PUs 13 (by decide) aau U13
theorem afd : W_u 14 := fun _ _ => ⟨⟨by kernel_rfl, by kernel_rfl⟩, by kernel_rfl⟩
theorem U15 : PU 15 := PUs 14 (by decide) afd U14
theorem aei : W_u 15 := fun _ _ => ⟨⟨by kernel_rfl, by kernel_rfl⟩, by kernel_rfl⟩
theorem U16 : PU 16 := PUs 15 (by decide) aei U15
theorem aeL : W_u 16 := fun _ _ => ⟨⟨by kernel_rfl, by kernel_rfl⟩, by kernel_rfl⟩
theorem U17 : PU 17 := PUs 16 (by decide) aeL U16
theorem aep : W_u 17 := fun _ _ => ⟨⟨by kernel_rfl, by kernel_rfl⟩, by kernel_rfl⟩
theorem U18 : PU 18 := PUs 17 (by decide) aep U17
theorem acy : W_u 18 := fun _ _ => ⟨⟨by kernel_rfl, by kernel_rfl⟩, by kernel_rfl⟩
theorem U19 : PU 19 := PUs 18 (by decide) acy U18
theorem aex : W_u 19 := fun _ _ => ⟨⟨by kernel_rfl, by kernel_rfl⟩, by kernel_rfl⟩
theorem U20 : PU 20 := PUs 19 (by decide) aex U19
theorem ace : W_u 20 := fun _ _ => ⟨⟨by kernel_rfl, by kernel_rfl⟩, by kernel_rfl⟩
theorem U21 : PU 21 := PUs 20 (by decide) ace U20
theorem aeM : W_u 21 := fun _ _ => ⟨⟨by kernel_rfl, by kernel_rfl⟩, by kernel_rfl⟩
theorem U22 : PU 22 := PUs 21 (by decide) aeM U21
theorem adi : W_u 22 := fun _ _ => ⟨⟨by kernel_rfl, by kernel_rfl⟩, by kernel_rfl⟩
theorem U23 : PU 23 := PUs 22 (by decide) adi U22
theorem ae0 : W_u 23 := fun _ _ => ⟨⟨by kernel_rfl, by kernel_rfl⟩, by kernel_rfl⟩
theorem U24 : PU 24 := PUs 23 (by decide) ae0 U23
theorem adx : W_u 24 := fun _ _ => ⟨⟨by kernel_rfl, by kernel_rfl⟩, by kernel_rfl⟩
theorem U25 : PU 25 := PUs 24 (by decide) adx U24
theorem ac9 : W_u 25 := fun _ _ => ⟨⟨by kernel_rfl, by kernel_rfl⟩, by kernel_rfl⟩
theorem U26 : PU 26 := PUs 25 (by decide) ac9 U25
theorem aea : W_u 26 := fun _ _ => ⟨⟨by kernel_rfl, by kernel_rfl⟩, by kernel_rfl⟩
theorem U27 : PU 27 := PUs 26 (by decide) aea U26
theorem afp : W_u 27 := fun _ _ => ⟨⟨by kernel_rfl, by kernel_rfl⟩, by kernel_rfl⟩
theorem U28 : PU 28 := PUs 27 (by decide) afp U27
theorem aeO : W_u 28 := fun _ _ => ⟨⟨by kernel_rfl, by kernel_rfl⟩, by kernel_rfl⟩
theorem U29 : PU 29 := PUs 28 (by decide) aeO U28
theorem ab1 : W_u 29 := fun _ _ => ⟨⟨by kernel_rfl, by kernel_rfl⟩, by kernel_rfl⟩
theorem U30 : PU 30 := PUs 29 (by decide) ab1 U29
theorem ae5 : W_u 30 := fun _ _ => ⟨⟨by kernel_rfl, by kernel_rfl⟩, by kernel_rfl⟩
theorem U31 : PU 31 := PUs 30 (by decide) ae5 U30
theorem aeX : W_u 31 := fun _ _ => ⟨⟨by kernel_rfl, by kernel_rfl⟩, by kernel_rfl⟩
theorem U32 : PU 32 := PUs 31 (by decide) aeX U31
theorem adO : W_u 32 := fun _ _ => ⟨⟨by kernel_rfl, by kernel_rfl⟩, by kernel_rfl⟩
theorem U33 : PU 33 := PUs 32 (by decide) adO U32
theorem aeI : W_u 33 := fun _ _ => ⟨⟨by kernel_rfl, by kernel_rfl⟩, by kernel_rfl⟩
theorem U34 : PU 34 := PUs 33 (by decide) aeI U33
theorem aa5 : W_u 34 := fun _ _ => ⟨⟨by kernel_rfl, by kernel_rfl⟩, by kernel_rfl⟩
theorem U35 : PU 35 := PUs 34 (by decide) aa5 U34
theorem afB : W_u 35 := fun _ _ => ⟨⟨by kernel_rfl, by kernel_rfl⟩, by kernel_rfl⟩
theorem U36 : PU 36 := PUs 35 (by decide) afB U35
theorem aaG : W_u 36 := fun _ _ => ⟨⟨by kernel_rfl, by kernel_rfl⟩, by kernel_rfl⟩
theorem U37 : PU 37 := PUs 36 (by decide) aaG U36
theorem aaN : W_u 37 := fun _ _ => ⟨⟨by kernel_rfl, by kernel_rfl⟩, by kernel_rfl⟩
theorem U38 : PU 38 := PUs 37 (by decide) aaN U37
theorem afk : W_u 38 := fun _ _ => ⟨⟨by kernel_rfl, by kernel_rfl⟩, by kernel_rfl⟩
theorem U39 : PU 39 := PUs 38 (by decide) afk U38
theorem abL : W_u 39 := fun _ _ => ⟨⟨by kernel_rfl, by kernel_rfl⟩, by kernel_rfl⟩
theorem U40 : PU 40 := PUs 39 (by decide) abL U39
theorem ab0 : W_u 40 := fun _ _ => ⟨⟨by kernel_rfl, by kernel_rfl⟩, by kernel_rfl⟩
theorem U41 : PU 41 := PUs 40 (by decide) ab0 U40
theorem aey : W_u 41 := fun _ _ => ⟨⟨by kernel_rfl, by kernel_rfl⟩, by kernel_rfl⟩
theorem U42 : PU 42 := PUs 41 (by decide) aey U41
theorem abU : W_u 42 := fun _ _ => ⟨⟨by kernel_rfl, by kernel_rfl⟩, by kernel_rfl⟩
theorem U43 : PU 43 := PUs 42 (by decide) abU U42
theorem aed : W_u 43 := fun _ _ => ⟨⟨by kernel_rfl, by kernel_rfl⟩, by kernel_rfl⟩
theorem U44 : PU 44 := PUs 43 (by decide) aed U43
theorem afO : W_u 44 := fun _ _ => ⟨⟨by kernel_rfl, by kernel_rfl⟩, by kernel_rfl⟩
theorem U45 : PU 45 := PUs 44 (by decide) afO U44
theorem abj : W_u 45 := fun _ _ => ⟨⟨by kernel_rfl, by kernel_rfl⟩, by kernel_rfl⟩
theorem U46 : PU 46 := PUs 45 (by decide) abj U45
theorem adC : W_u 46 := fun _ _ => ⟨⟨by kernel_rfl, by kernel_rfl⟩, by kernel_rfl⟩
theorem U47 : PU 47 := PUs 46 (by decide) adC U46
theorem ab9 : W_u 47 := fun _ _ => ⟨⟨by kernel_rfl, by kernel_rfl⟩, by kernel_rfl⟩
theorem U48 : PU 48 := PUs 47 (by decide) ab9 U47
theorem aeh : W_u 48 := fun _ _ => ⟨⟨by kernel_rfl, by kernel_rfl⟩, by kernel_rfl⟩
theorem U49 : PU 49 := PUs 48 (by decide) aeh U48
theorem ad4 : W_u 49 := fun _ _ => ⟨⟨by kernel_rfl, by kernel_rfl⟩, by kernel_rfl⟩
theorem U50 : PU 50 := PUs 49 (by decide) ad4 U49
end Gv.KTails2
set_option linter.unusedSimpArgs false
set_option linter.unusedVariables false
set_option maxRecDepth 100000
open Rx Go Gv Rd
namespace Gv.KTails2
theorem aeP : W_u 50 := fun _ _ => ⟨⟨by kernel_rfl, by kernel_rfl⟩, by kernel_rfl⟩
theorem U51 : PU 51 := PUs 50 (by decide) aeP U50
theorem aff : W_u 51 := fun _ _ => ⟨⟨by kernel_rfl, by kernel_rfl⟩, by kernel_rfl⟩
theorem U52 : PU 52 := PUs 51 (by decide) aff U51
theorem adN : W_u 52 := fun _ _ => ⟨⟨by kernel_rfl, by kernel_rfl⟩, by kernel_rfl⟩
theorem U53 : PU 53 := PUs 52 (by decide) adN U52
theorem abG : W_u 53 := fun _ _ => ⟨⟨by kernel_rfl, by kernel_rfl⟩, by kernel_rfl⟩
theorem U54 : PU 54 := PUs 53 (by decide) abG U53
theorem ac8 : W_u 54 := fun _ _ => ⟨⟨by kernel_rfl, by kernel_rfl⟩, by kernel_rfl⟩
theorem U55 : PU 55 := PUs 54 (by decide) ac8 U54
theorem aeW : W_u 55 := fun _ _ => ⟨⟨by kernel_rfl, by kernel_rfl⟩, by kernel_rfl⟩
theorem U56 : PU 56 := PUs 55 (by decide) aeW U55
theorem acg : W_u 56 := fun _ _ => ⟨⟨by kernel_rfl, by kernel_rfl⟩, by kernel_rfl⟩
theorem U57 : PU 57 := PUs 56 (by decide) acg U56
theorem aer : W_u 57 := fun _ _ => ⟨⟨by kernel_rfl, by kernel_rfl⟩, by kernel_rfl⟩
theorem U58 : PU 58 := PUs 57 (by decide) aer U57
theorem abz : W_u 58 := fun _ _ => ⟨⟨by kernel_rfl, by kernel_rfl⟩, by kernel_rfl⟩
theorem U59 : PU 59 := PUs 58 (by decide) abz U58
theorem adQ : W_u 59 := fun _ _ => ⟨⟨by kernel_rfl, by kernel_rfl⟩, by kernel_rfl⟩
theorem U60 : PU 60 := PUs 59 (by decide) adQ U59
theorem ac5 : W_u 60 := fun _ _ => ⟨⟨by kernel_rfl, by kernel_rfl⟩, by kernel_rfl⟩
theorem U61 : PU 61 := PUs 60 (by decide) ac5 U60
theorem aak : W_u 61 := fun _ _ => ⟨⟨by kernel_rfl, by kernel_rfl⟩, by kernel_rfl⟩
theorem U62 : PU 62 := PUs 61 (by decide) aak U61
theorem aaQ : W_u 62 := fun _ _ => ⟨⟨by kernel_rfl, by kernel_rfl⟩, by kernel_rfl⟩
theorem U63 : PU 63 := PUs 62 (by decide) aaQ U62
theorem afr : W_u 63 := fun _ _ => ⟨⟨by kernel_rfl, by kernel_rfl⟩, by kernel_rfl⟩
theorem U64 : PU 64 := PUs 63 (by decide) afr U63
theorem abB : W_u 64 := fun _ _ => ⟨⟨by kernel_rfl, by kernel_rfl⟩, by kernel_rfl⟩
theorem U65 : PU 65 := PUs 64 (by decide) abB U64
theorem aaC : W_u 65 := fun _ _ => ⟨⟨by kernel_rfl, by kernel_rfl⟩, by kernel_rfl⟩
theorem U66 : PU 66 := PUs 65 (by decide) aaC U65
theorem aeN : W_u 66 := fun _ _ => ⟨⟨by kernel_rfl, by kernel_rfl⟩, by kernel_rfl⟩
theorem U67 : PU 67 := PUs 66 (by decide) aeN U66
theorem adE : W_u 67 := fun _ _ => ⟨⟨by kernel_rfl, by kernel_rfl⟩, by kernel_rfl⟩
theorem U68 : PU 68 := PUs 67 (by decide) adE U67
theorem acD : W_u 68 := fun _ _ => ⟨⟨by kernel_rfl, by kernel_rfl⟩, by kernel_rfl⟩
theorem U69 : PU 69 := PUs 68 (by decide) acD U68
theorem afM : W_u 69 := fun _ _ => ⟨⟨by kernel_rfl, by kernel_rfl⟩, by kernel_rfl⟩
theorem U70 : PU 70 := PUs 69 (by decide) afM U69
theorem adW : W_u 70 := fun _ _ => ⟨⟨by kernel_rfl, by kernel_rfl⟩, by kernel_rfl⟩
theorem U71 : PU 71 := PUs 70 (by decide) adW U70
theorem aeK : W_u 71 := fun _ _ => ⟨⟨by kernel_rfl, by kernel_rfl⟩, by kernel_rfl⟩
theorem U72 : PU 72 := PUs 71 (by decide) aeK U71
theorem abt : W_u 72 := fun _ _ => ⟨⟨by kernel_rfl, by kernel_rfl⟩, by kernel_rfl⟩
theorem U73 : PU 73 := PUs 72 (by decide) abt U72
theorem afJ : W_u 73 := fun _ _ => ⟨⟨by kernel_rfl, by kernel_rfl⟩, by kernel_rfl⟩
theorem U74 : PU 74 := PUs 73 (by decide) afJ U73
theorem afs : W_u 74 := fun _ _ => ⟨⟨by kernel_rfl, by kernel_rfl⟩, by kernel_rfl⟩
theorem U75 : PU 75 := PUs 74 (by decide) afs U74
theorem afN : W_u 75 := fun _ _ => ⟨⟨by kernel_rfl, by kernel_rfl⟩, by kernel_rfl⟩
theorem U76 : PU 76 := PUs 75 (by decide) afN U75
theorem aej : W_u 76 := fun _ _ => ⟨⟨by kernel_rfl, by kernel_rfl⟩, by kernel_rfl⟩
theorem U77 : PU 77 := PUs 76 (by decide) aej U76
theorem ab2 : W_u 77 := fun _ _ => ⟨⟨by kernel_rfl, by kernel_rfl⟩, by kernel_rfl⟩
theorem U78 : PU 78 := PUs 77 (by decide) ab2 U77
theorem aa6 : W_u 78 := fun _ _ => ⟨⟨by kernel_rfl, by kernel_rfl⟩, by kernel_rfl⟩
theorem U79 : PU 79 := PUs 78 (by decide) aa6 U78
theorem acf : W_u 79 := fun _ _ => ⟨⟨by kernel_rfl, by kernel_rfl⟩, by kernel_rfl⟩
theorem U80 : PU 80 := PUs 79 (by decide) acf U79
theorem afb : W_u 80 := fun _ _ => ⟨⟨by kernel_rfl, by kernel_rfl⟩, by kernel_rfl⟩
theorem U81 : PU 81 := PUs 80 (by decide) afb U80
theorem aek : W_u 81 := fun _ _ => ⟨⟨by kernel_rfl, by kernel_rfl⟩, by kernel_rfl⟩
theorem U82 : PU 82 := PUs 81 (by decide) aek U81
theorem abQ : W_u 82 := fun _ _ => ⟨⟨by kernel_rfl, by kernel_rfl⟩, by kernel_rfl⟩
theorem U83 : PU 83 := PUs 82 (by decide) abQ U82
theorem aeD : W_u 83 := fun _ _ => ⟨⟨by kernel_rfl, by kernel_rfl⟩, by kernel_rfl⟩
theorem U84 : PU 84 := PUs 83 (by decide) aeD U83
theorem ac6 : W_u 84 := fun _ _ => ⟨⟨by kernel_rfl, by kernel_rfl⟩, by kernel_rfl⟩
theorem U85 : PU 85 := PUs 84 (by decide) ac6 U84
theorem afK : W_u 85 := fun _ _ => ⟨⟨by kernel_rfl, by kernel_rfl⟩, by kernel_rfl⟩
theorem U86 : PU 86 := PUs 85 (by decide) afK U85
theorem aaS : W_u 86 := fun _ _ => ⟨⟨by kernel_rfl, by kernel_rfl⟩, by kernel_rfl⟩
theorem U87 : PU 87 := PUs 86 (by decide) aaS U86
theorem aaA : W_u 87 := fun _ _ => ⟨⟨by kernel_rfl, by kernel_rfl⟩, by kernel_rfl⟩
theorem U88 : PU 88 := PUs 87 (by decide) aaA U87
theorem aa7 : W_u 88 := fun _ _ => ⟨⟨by kernel_rfl, by kernel_rfl⟩, by kernel_rfl⟩
theorem U89 : PU 89 := PUs 88 (by decide) aa7 U88
theorem abw : W_u 89 := fun _ _ => ⟨⟨by kernel_rfl, by kernel_rfl⟩, by kernel_rfl⟩
theorem U90 : PU 90 := PUs 89 (by decide) abw U89
theorem afu : W_u 90 := fun _ _ => ⟨⟨by kernel_rfl, by kernel_rfl⟩, by kernel_rfl⟩
theorem U91 : PU 91 := PUs 90 (by decide) afu U90
theorem acR : W_u 91 := fun _ _ => ⟨⟨by kernel_rfl, by kernel_rfl⟩, by kernel_rfl⟩
theorem U92 : PU 92 := PUs 91 (by decide) acR U91
theorem adn : W_u 92 := fun _ _ => ⟨⟨by kernel_rfl, by kernel_rfl⟩, by kernel_rfl⟩
theorem U93 : PU 93 := PUs 92 (by decide) adn U92
theorem afx : W_u 93 := fun _ _ => ⟨⟨by kernel_rfl, by kernel_rfl⟩, by kernel_rfl⟩
theorem U94 : PU 94 := PUs 93 (by decide) afx U93
theorem adb : W_u 94 := fun _ _ => ⟨⟨by kernel_rfl, by kernel_rfl⟩, by kernel_rfl⟩
theorem U95 : PU 95 := PUs 94 (by decide) adb U94
theorem afl : W_u 95 := fun _ _ => ⟨⟨by kernel_rfl, by kernel_rfl⟩, by kernel_rfl⟩
theorem U96 : PU 96 := PUs 95 (by decide) afl U95
theorem aan : W_u 96 := fun _ _ => ⟨⟨by kernel_rfl, by kernel_rfl⟩, by kernel_rfl⟩
theorem U97 : PU 97 := PUs 96 (by decide) aan U96
theorem ach : W_u 97 := fun _ _ => ⟨⟨by kernel_rfl, by kernel_rfl⟩, by kernel_rfl⟩
theorem U98 : PU 98 := PUs 97 (by decide) ach U97
theorem acU : W_u 98 := fun _ _ => ⟨⟨by kernel_rfl, by kernel_rfl⟩, by kernel_rfl⟩
theorem U99 : PU 99 := PUs 98 (by decide) acU U98
end Gv.KTails2
