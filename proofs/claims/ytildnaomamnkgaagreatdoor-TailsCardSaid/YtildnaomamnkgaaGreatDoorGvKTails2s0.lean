import Derived.Test.YtildnaomamnkgaaGreatDoorGvKTails2u0
set_option linter.unusedSimpArgs false
set_option linter.unusedVariables false
set_option maxRecDepth 100000
open Rx Go Gv Rd
namespace Gv.KTails2
theorem V4 : aK 99 := fun _ _ => ⟨⟨by kernel_rfl, by kernel_rfl⟩, by kernel_rfl⟩
theorem YQ : aK 98 := fun _ _ => ⟨⟨by kernel_rfl, by kernel_rfl⟩, by kernel_rfl⟩
theorem adp : W_g 99 := fun _ _ => ⟨⟨by kernel_rfl, by kernel_rfl⟩, by kernel_rfl⟩
theorem ZE : aK 97 := fun _ _ => ⟨⟨by kernel_rfl, by kernel_rfl⟩, by kernel_rfl⟩
theorem aaW : W_g 98 := fun _ _ => ⟨⟨by kernel_rfl, by kernel_rfl⟩, by kernel_rfl⟩
theorem Zc : aK 96 := fun _ _ => ⟨⟨by kernel_rfl, by kernel_rfl⟩, by kernel_rfl⟩
theorem acM : W_g 97 := fun _ _ => ⟨⟨by kernel_rfl, by kernel_rfl⟩, by kernel_rfl⟩
theorem Xz : aK 95 := fun _ _ => ⟨⟨by kernel_rfl, by kernel_rfl⟩, by kernel_rfl⟩
theorem abn : W_g 96 := fun _ _ => ⟨⟨by kernel_rfl, by kernel_rfl⟩, by kernel_rfl⟩
theorem Yz : aK 94 := fun _ _ => ⟨⟨by kernel_rfl, by kernel_rfl⟩, by kernel_rfl⟩
theorem afa : W_g 95 := fun _ _ => ⟨⟨by kernel_rfl, by kernel_rfl⟩, by kernel_rfl⟩
theorem Y8 : aK 93 := fun _ _ => ⟨⟨by kernel_rfl, by kernel_rfl⟩, by kernel_rfl⟩
theorem abM : W_g 94 := fun _ _ => ⟨⟨by kernel_rfl, by kernel_rfl⟩, by kernel_rfl⟩
theorem Yv : aK 92 := fun _ _ => ⟨⟨by kernel_rfl, by kernel_rfl⟩, by kernel_rfl⟩
theorem adw : W_g 93 := fun _ _ => ⟨⟨by kernel_rfl, by kernel_rfl⟩, by kernel_rfl⟩
theorem Zn : aK 91 := fun _ _ => ⟨⟨by kernel_rfl, by kernel_rfl⟩, by kernel_rfl⟩
theorem afn : W_g 92 := fun _ _ => ⟨⟨by kernel_rfl, by kernel_rfl⟩, by kernel_rfl⟩
theorem Xw : aK 90 := fun _ _ => ⟨⟨by kernel_rfl, by kernel_rfl⟩, by kernel_rfl⟩
theorem adV : W_g 91 := fun _ _ => ⟨⟨by kernel_rfl, by kernel_rfl⟩, by kernel_rfl⟩
theorem Ye : aK 89 := fun _ _ => ⟨⟨by kernel_rfl, by kernel_rfl⟩, by kernel_rfl⟩
theorem adX : W_g 90 := fun _ _ => ⟨⟨by kernel_rfl, by kernel_rfl⟩, by kernel_rfl⟩
theorem ZX : aK 88 := fun _ _ => ⟨⟨by kernel_rfl, by kernel_rfl⟩, by kernel_rfl⟩
theorem aco : W_g 89 := fun _ _ => ⟨⟨by kernel_rfl, by kernel_rfl⟩, by kernel_rfl⟩
theorem YD : aK 87 := fun _ _ => ⟨⟨by kernel_rfl, by kernel_rfl⟩, by kernel_rfl⟩
theorem adu : W_g 88 := fun _ _ => ⟨⟨by kernel_rfl, by kernel_rfl⟩, by kernel_rfl⟩
theorem Zh : aK 86 := fun _ _ => ⟨⟨by kernel_rfl, by kernel_rfl⟩, by kernel_rfl⟩
theorem aaF : W_g 87 := fun _ _ => ⟨⟨by kernel_rfl, by kernel_rfl⟩, by kernel_rfl⟩
theorem Zf : aK 85 := fun _ _ => ⟨⟨by kernel_rfl, by kernel_rfl⟩, by kernel_rfl⟩
theorem adG : W_g 86 := fun _ _ => ⟨⟨by kernel_rfl, by kernel_rfl⟩, by kernel_rfl⟩
theorem Yt : aK 84 := fun _ _ => ⟨⟨by kernel_rfl, by kernel_rfl⟩, by kernel_rfl⟩
theorem abm : W_g 85 := fun _ _ => ⟨⟨by kernel_rfl, by kernel_rfl⟩, by kernel_rfl⟩
theorem Yn : aK 83 := fun _ _ => ⟨⟨by kernel_rfl, by kernel_rfl⟩, by kernel_rfl⟩
theorem adA : W_g 84 := fun _ _ => ⟨⟨by kernel_rfl, by kernel_rfl⟩, by kernel_rfl⟩
theorem ZN : aK 82 := fun _ _ => ⟨⟨by kernel_rfl, by kernel_rfl⟩, by kernel_rfl⟩
theorem aen : W_g 83 := fun _ _ => ⟨⟨by kernel_rfl, by kernel_rfl⟩, by kernel_rfl⟩
theorem XB : aK 81 := fun _ _ => ⟨⟨by kernel_rfl, by kernel_rfl⟩, by kernel_rfl⟩
theorem acF : W_g 82 := fun _ _ => ⟨⟨by kernel_rfl, by kernel_rfl⟩, by kernel_rfl⟩
theorem Yi : aK 80 := fun _ _ => ⟨⟨by kernel_rfl, by kernel_rfl⟩, by kernel_rfl⟩
theorem aax : W_g 81 := fun _ _ => ⟨⟨by kernel_rfl, by kernel_rfl⟩, by kernel_rfl⟩
theorem Za : aK 79 := fun _ _ => ⟨⟨by kernel_rfl, by kernel_rfl⟩, by kernel_rfl⟩
theorem afq : W_g 80 := fun _ _ => ⟨⟨by kernel_rfl, by kernel_rfl⟩, by kernel_rfl⟩
theorem Yy : aK 78 := fun _ _ => ⟨⟨by kernel_rfl, by kernel_rfl⟩, by kernel_rfl⟩
theorem abF : W_g 79 := fun _ _ => ⟨⟨by kernel_rfl, by kernel_rfl⟩, by kernel_rfl⟩
theorem Y0 : aK 77 := fun _ _ => ⟨⟨by kernel_rfl, by kernel_rfl⟩, by kernel_rfl⟩
theorem acr : W_g 78 := fun _ _ => ⟨⟨by kernel_rfl, by kernel_rfl⟩, by kernel_rfl⟩
theorem XQ : aK 76 := fun _ _ => ⟨⟨by kernel_rfl, by kernel_rfl⟩, by kernel_rfl⟩
theorem afD : W_g 77 := fun _ _ => ⟨⟨by kernel_rfl, by kernel_rfl⟩, by kernel_rfl⟩
theorem Zt : aK 75 := fun _ _ => ⟨⟨by kernel_rfl, by kernel_rfl⟩, by kernel_rfl⟩
theorem aao : W_g 76 := fun _ _ => ⟨⟨by kernel_rfl, by kernel_rfl⟩, by kernel_rfl⟩
theorem Zg : PS 76 := by
 have S100 : PS 100 := PSe 99 rfl (by decide) V4 U99
 have S99 : PS 99 := PSs 98 (by decide) YQ adp U98 S100
 have S98 : PS 98 := PSs 97 (by decide) ZE aaW U97 S99
 have S97 : PS 97 := PSs 96 (by decide) Zc acM U96 S98
 have S96 : PS 96 := PSs 95 (by decide) Xz abn U95 S97
 have S95 : PS 95 := PSs 94 (by decide) Yz afa U94 S96
 have S94 : PS 94 := PSs 93 (by decide) Y8 abM U93 S95
 have S93 : PS 93 := PSs 92 (by decide) Yv adw U92 S94
 have S92 : PS 92 := PSs 91 (by decide) Zn afn U91 S93
 have S91 : PS 91 := PSs 90 (by decide) Xw adV U90 S92
 have S90 : PS 90 := PSs 89 (by decide) Ye adX U89 S91
 have S89 : PS 89 := PSs 88 (by decide) ZX aco U88 S90
 have S88 : PS 88 := PSs 87 (by decide) YD adu U87 S89
 have S87 : PS 87 := PSs 86 (by decide) Zh aaF U86 S88
 have S86 : PS 86 := PSs 85 (by decide) Zf adG U85 S87
 have S85 : PS 85 := PSs 84 (by decide) Yt abm U84 S86
 have S84 : PS 84 := PSs 83 (by decide) Yn adA U83 S85
 have S83 : PS 83 := PSs 82 (by decide) ZN aen U82 S84
 have S82 : PS 82 := PSs 81 (by decide) XB acF U81 S83
 have S81 : PS 81 := PSs 80 (by decide) Yi aax U80 S82
 have S80 : PS 80 := PSs 79 (by decide) Za afq U79 S81
 have S79 : PS 79 := PSs 78 (by decide) Yy abF U78 S80
 have S78 : PS 78 := PSs 77 (by decide) Y0 acr U77 S79
 have S77 : PS 77 := PSs 76 (by decide) XQ afD U76 S78
 have S76 : PS 76 := PSs 75 (by decide) Zt aao U75 S77
 exact S76
end Gv.KTails2
set_option linter.unusedSimpArgs false
set_option linter.unusedVariables false
set_option maxRecDepth 100000
open Rx Go Gv Rd
namespace Gv.KTails2
theorem Zj : aK 74 := fun _ _ => ⟨⟨by kernel_rfl, by kernel_rfl⟩, by kernel_rfl⟩
theorem acS : W_g 75 := fun _ _ => ⟨⟨by kernel_rfl, by kernel_rfl⟩, by kernel_rfl⟩
theorem YR : aK 73 := fun _ _ => ⟨⟨by kernel_rfl, by kernel_rfl⟩, by kernel_rfl⟩
theorem afw : W_g 74 := fun _ _ => ⟨⟨by kernel_rfl, by kernel_rfl⟩, by kernel_rfl⟩
theorem ZH : aK 72 := fun _ _ => ⟨⟨by kernel_rfl, by kernel_rfl⟩, by kernel_rfl⟩
theorem acX : W_g 73 := fun _ _ => ⟨⟨by kernel_rfl, by kernel_rfl⟩, by kernel_rfl⟩
theorem YL : aK 71 := fun _ _ => ⟨⟨by kernel_rfl, by kernel_rfl⟩, by kernel_rfl⟩
theorem acK : W_g 72 := fun _ _ => ⟨⟨by kernel_rfl, by kernel_rfl⟩, by kernel_rfl⟩
theorem ZM : aK 70 := fun _ _ => ⟨⟨by kernel_rfl, by kernel_rfl⟩, by kernel_rfl⟩
theorem adU : W_g 71 := fun _ _ => ⟨⟨by kernel_rfl, by kernel_rfl⟩, by kernel_rfl⟩
theorem ZO : aK 69 := fun _ _ => ⟨⟨by kernel_rfl, by kernel_rfl⟩, by kernel_rfl⟩
theorem adD : W_g 70 := fun _ _ => ⟨⟨by kernel_rfl, by kernel_rfl⟩, by kernel_rfl⟩
theorem Zm : aK 68 := fun _ _ => ⟨⟨by kernel_rfl, by kernel_rfl⟩, by kernel_rfl⟩
theorem abr : W_g 69 := fun _ _ => ⟨⟨by kernel_rfl, by kernel_rfl⟩, by kernel_rfl⟩
theorem Zw : aK 67 := fun _ _ => ⟨⟨by kernel_rfl, by kernel_rfl⟩, by kernel_rfl⟩
theorem acv : W_g 68 := fun _ _ => ⟨⟨by kernel_rfl, by kernel_rfl⟩, by kernel_rfl⟩
theorem YA : aK 66 := fun _ _ => ⟨⟨by kernel_rfl, by kernel_rfl⟩, by kernel_rfl⟩
theorem acw : W_g 67 := fun _ _ => ⟨⟨by kernel_rfl, by kernel_rfl⟩, by kernel_rfl⟩
theorem Y1 : aK 65 := fun _ _ => ⟨⟨by kernel_rfl, by kernel_rfl⟩, by kernel_rfl⟩
theorem aci : W_g 66 := fun _ _ => ⟨⟨by kernel_rfl, by kernel_rfl⟩, by kernel_rfl⟩
theorem Yf : aK 64 := fun _ _ => ⟨⟨by kernel_rfl, by kernel_rfl⟩, by kernel_rfl⟩
theorem adS : W_g 65 := fun _ _ => ⟨⟨by kernel_rfl, by kernel_rfl⟩, by kernel_rfl⟩
theorem XA : aK 63 := fun _ _ => ⟨⟨by kernel_rfl, by kernel_rfl⟩, by kernel_rfl⟩
theorem aa8 : W_g 64 := fun _ _ => ⟨⟨by kernel_rfl, by kernel_rfl⟩, by kernel_rfl⟩
theorem Xm : aK 62 := fun _ _ => ⟨⟨by kernel_rfl, by kernel_rfl⟩, by kernel_rfl⟩
theorem adY : W_g 63 := fun _ _ => ⟨⟨by kernel_rfl, by kernel_rfl⟩, by kernel_rfl⟩
theorem Zi : aK 61 := fun _ _ => ⟨⟨by kernel_rfl, by kernel_rfl⟩, by kernel_rfl⟩
theorem adr : W_g 62 := fun _ _ => ⟨⟨by kernel_rfl, by kernel_rfl⟩, by kernel_rfl⟩
theorem YS : aK 60 := fun _ _ => ⟨⟨by kernel_rfl, by kernel_rfl⟩, by kernel_rfl⟩
theorem abX : W_g 61 := fun _ _ => ⟨⟨by kernel_rfl, by kernel_rfl⟩, by kernel_rfl⟩
theorem XP : aK 59 := fun _ _ => ⟨⟨by kernel_rfl, by kernel_rfl⟩, by kernel_rfl⟩
theorem ae3 : W_g 60 := fun _ _ => ⟨⟨by kernel_rfl, by kernel_rfl⟩, by kernel_rfl⟩
theorem X8 : aK 58 := fun _ _ => ⟨⟨by kernel_rfl, by kernel_rfl⟩, by kernel_rfl⟩
theorem acu : W_g 59 := fun _ _ => ⟨⟨by kernel_rfl, by kernel_rfl⟩, by kernel_rfl⟩
theorem Yl : aK 57 := fun _ _ => ⟨⟨by kernel_rfl, by kernel_rfl⟩, by kernel_rfl⟩
theorem adz : W_g 58 := fun _ _ => ⟨⟨by kernel_rfl, by kernel_rfl⟩, by kernel_rfl⟩
theorem YN : aK 56 := fun _ _ => ⟨⟨by kernel_rfl, by kernel_rfl⟩, by kernel_rfl⟩
theorem aef : W_g 57 := fun _ _ => ⟨⟨by kernel_rfl, by kernel_rfl⟩, by kernel_rfl⟩
theorem Yo : aK 55 := fun _ _ => ⟨⟨by kernel_rfl, by kernel_rfl⟩, by kernel_rfl⟩
theorem acB : W_g 56 := fun _ _ => ⟨⟨by kernel_rfl, by kernel_rfl⟩, by kernel_rfl⟩
theorem Xr : aK 54 := fun _ _ => ⟨⟨by kernel_rfl, by kernel_rfl⟩, by kernel_rfl⟩
theorem aee : W_g 55 := fun _ _ => ⟨⟨by kernel_rfl, by kernel_rfl⟩, by kernel_rfl⟩
theorem YK : aK 53 := fun _ _ => ⟨⟨by kernel_rfl, by kernel_rfl⟩, by kernel_rfl⟩
theorem adF : W_g 54 := fun _ _ => ⟨⟨by kernel_rfl, by kernel_rfl⟩, by kernel_rfl⟩
theorem XR : aK 52 := fun _ _ => ⟨⟨by kernel_rfl, by kernel_rfl⟩, by kernel_rfl⟩
theorem aaL : W_g 53 := fun _ _ => ⟨⟨by kernel_rfl, by kernel_rfl⟩, by kernel_rfl⟩
theorem YB : aK 51 := fun _ _ => ⟨⟨by kernel_rfl, by kernel_rfl⟩, by kernel_rfl⟩
theorem ac4 : W_g 52 := fun _ _ => ⟨⟨by kernel_rfl, by kernel_rfl⟩, by kernel_rfl⟩
theorem Zy : aK 50 := fun _ _ => ⟨⟨by kernel_rfl, by kernel_rfl⟩, by kernel_rfl⟩
theorem acL : W_g 51 := fun _ _ => ⟨⟨by kernel_rfl, by kernel_rfl⟩, by kernel_rfl⟩
theorem X3 (S76 : PS 76) : PS 51 := by
 have S75 : PS 75 := PSs 74 (by decide) Zj acS U74 S76
 have S74 : PS 74 := PSs 73 (by decide) YR afw U73 S75
 have S73 : PS 73 := PSs 72 (by decide) ZH acX U72 S74
 have S72 : PS 72 := PSs 71 (by decide) YL acK U71 S73
 have S71 : PS 71 := PSs 70 (by decide) ZM adU U70 S72
 have S70 : PS 70 := PSs 69 (by decide) ZO adD U69 S71
 have S69 : PS 69 := PSs 68 (by decide) Zm abr U68 S70
 have S68 : PS 68 := PSs 67 (by decide) Zw acv U67 S69
 have S67 : PS 67 := PSs 66 (by decide) YA acw U66 S68
 have S66 : PS 66 := PSs 65 (by decide) Y1 aci U65 S67
 have S65 : PS 65 := PSs 64 (by decide) Yf adS U64 S66
 have S64 : PS 64 := PSs 63 (by decide) XA aa8 U63 S65
 have S63 : PS 63 := PSs 62 (by decide) Xm adY U62 S64
 have S62 : PS 62 := PSs 61 (by decide) Zi adr U61 S63
 have S61 : PS 61 := PSs 60 (by decide) YS abX U60 S62
 have S60 : PS 60 := PSs 59 (by decide) XP ae3 U59 S61
 have S59 : PS 59 := PSs 58 (by decide) X8 acu U58 S60
 have S58 : PS 58 := PSs 57 (by decide) Yl adz U57 S59
 have S57 : PS 57 := PSs 56 (by decide) YN aef U56 S58
 have S56 : PS 56 := PSs 55 (by decide) Yo acB U55 S57
 have S55 : PS 55 := PSs 54 (by decide) Xr aee U54 S56
 have S54 : PS 54 := PSs 53 (by decide) YK adF U53 S55
 have S53 : PS 53 := PSs 52 (by decide) XR aaL U52 S54
 have S52 : PS 52 := PSs 51 (by decide) YB ac4 U51 S53
 have S51 : PS 51 := PSs 50 (by decide) Zy acL U50 S52
 exact S51
end Gv.KTails2
