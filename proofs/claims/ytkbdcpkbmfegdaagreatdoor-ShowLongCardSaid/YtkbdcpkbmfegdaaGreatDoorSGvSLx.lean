/- ShowLong: all that is told of its requests. Printed by genSL.py. -/
import Derived.Test.YtkbdcpkbmfegdaaGreatDoorSGvSL0
import Derived.Test.YtkbdcpkbmfegdaaGreatDoorSGvSL1
import Derived.Test.YtkbdcpkbmfegdaaGreatDoorSGvSL2
import Derived.Test.YtkbdcpkbmfegdaaGreatDoorSGvSL3
import Derived.Test.YtkbdcpkbmfegdaaGreatDoorSGvSL4
import Derived.Test.YtkbdcpkbmfegdaaGreatDoorSGvSL5
import Derived.Test.YtkbdcpkbmfegdaaGreatDoorSGvSL6
import Derived.Test.YtkbdcpkbmfegdaaGreatDoorSGvSL7
import Derived.Test.YtkbdcpkbmfegdaaGreatDoorSGvRunShowLongA
import Derived.Test.YtkbdcpkbmfegdaaGreatDoorSGvRunShowLongC
open Rx Go Gv Rd
namespace Gv.SL
theorem mok : MOk xl := iB wu (afb _ (kR (ta afQ (ta afR (ta afS (ta afT (ta afU (ta afV (ta afW (ta afX (ta afY (ta afZ (ta ac8 (ta ac9 (ta ada (ta adb (ta ade (ta adf (ta adg (ta adh (ta adi (ta adj (ta adk (ta adl (ta adn (ta ado (ta adp (ta adq (ta adr (ta ads (ta adt (ta adu (ta adv (ta adw (ta adx (ta ady (ta adz (ta adA (ta adB (ta adC (ta adD (ta adE (ta adF (ta adG (ta adH (ta adI (ta adJ (ta adK (ta adL (ta adM (ta adN (ta adO (ta adP (ta adQ (ta adR (ta adS (ta adT (ta adU (ta adV (ta adW (ta adX (ta adY (ta adZ (ta ad1 (ta ad2 (ta ad3 (ta ad4 (ta ad5 (ta ad6 (ta ad7 (ta ad8 (ta ad9 (ta aea (ta aeb (ta aec (ta aed (ta aee (ta aef (ta aeg (ta aeh (ta aei (ta aej cK)))))))))))))))))))))))))))))))))))))))))))))))))))))))))))))))))))))))))))))))) bT))
end Gv.SL
set_option linter.unusedSimpArgs false
set_option linter.unusedVariables false
set_option maxRecDepth 100000
open Rx Go
namespace Gv
open Rd LShowLong
theorem slR {n : Int} {k : Nat} (e : SlW k) (hm : av n 80 = Int.ofNat k) {w : World} {vs : List Value} (hgl : Pers C0.W w Glob.ok) (hr : relL C0 w [any n] vs) : Calls prog 4 vs.toArray w fun e w' => e = .returned (.bool true) /\ Same w w' :=
 R5 (kR (ta (Ey (by decide) (by decide) hm) cK) (kR (ta (t14 n) cK) SL.mok)) aO hgl hr ((e n).2 ▸ afp n k (e n).1)
theorem Br (n : Int) {w : World} {vs : List Value} (hgl : Pers C0.W w Glob.ok) (hr : relL C0 w [any n] vs) : Calls prog 4 vs.toArray w fun e w' => e = .returned (.bool true) /\ Same w w' := by
 obtain ⟨b0, b1⟩ := Cy n (m := 80) (by decide)
 rcases (by omega : av n 80 = 0 ∨ av n 80 = 1 ∨ av n 80 = 2 ∨ av n 80 = 3 ∨ av n 80 = 4 ∨ av n 80 = 5 ∨ av n 80 = 6 ∨ av n 80 = 7 ∨ av n 80 = 8 ∨ av n 80 = 9 ∨ av n 80 = 10 ∨ av n 80 = 11 ∨ av n 80 = 12 ∨ av n 80 = 13 ∨ av n 80 = 14 ∨ av n 80 = 15 ∨ av n 80 = 16 ∨ av n 80 = 17 ∨ av n 80 = 18 ∨ av n 80 = 19 ∨ av n 80 = 20 ∨ av n 80 = 21 ∨ av n 80 = 22 ∨ av n 80 = 23 ∨ av n 80 = 24 ∨ av n 80 = 25 ∨ av n 80 = 26 ∨ av n 80 = 27 ∨ av n 80 = 28 ∨ av n 80 = 29 ∨ av n 80 = 30 ∨ av n 80 = 31 ∨ av n 80 = 32 ∨ av n 80 = 33 ∨ av n 80 = 34 ∨ av n 80 = 35 ∨ av n 80 = 36 ∨ av n 80 = 37 ∨ av n 80 = 38 ∨ av n 80 = 39 ∨ av n 80 = 40 ∨ av n 80 = 41 ∨ av n 80 = 42 ∨ av n 80 = 43 ∨ av n 80 = 44 ∨ av n 80 = 45 ∨ av n 80 = 46 ∨ av n 80 = 47 ∨ av n 80 = 48 ∨ av n 80 = 49 ∨ av n 80 = 50 ∨ av n 80 = 51 ∨ av n 80 = 52 ∨ av n 80 = 53 ∨ av n 80 = 54 ∨ av n 80 = 55 ∨ av n 80 = 56 ∨ av n 80 = 57 ∨ av n 80 = 58 ∨ av n 80 = 59 ∨ av n 80 = 60 ∨ av n 80 = 61 ∨ av n 80 = 62 ∨ av n 80 = 63 ∨ av n 80 = 64 ∨ av n 80 = 65 ∨ av n 80 = 66 ∨ av n 80 = 67 ∨ av n 80 = 68 ∨ av n 80 = 69 ∨ av n 80 = 70 ∨ av n 80 = 71 ∨ av n 80 = 72 ∨ av n 80 = 73 ∨ av n 80 = 74 ∨ av n 80 = 75 ∨ av n 80 = 76 ∨ av n 80 = 77 ∨ av n 80 = 78 ∨ av n 80 = 79) with hm | hm | hm | hm | hm | hm | hm | hm | hm | hm | hm | hm | hm | hm | hm | hm | hm | hm | hm | hm | hm | hm | hm | hm | hm | hm | hm | hm | hm | hm | hm | hm | hm | hm | hm | hm | hm | hm | hm | hm | hm | hm | hm | hm | hm | hm | hm | hm | hm | hm | hm | hm | hm | hm | hm | hm | hm | hm | hm | hm | hm | hm | hm | hm | hm | hm | hm | hm | hm | hm | hm | hm | hm | hm | hm | hm | hm | hm | hm | hm
 · exact slR sl0 hm hgl hr
 · exact slR sl1 hm hgl hr
 · exact slR sl2 hm hgl hr
 · exact slR sl3 hm hgl hr
 · exact slR sl4 hm hgl hr
 · exact slR sl5 hm hgl hr
 · exact slR sl6 hm hgl hr
 · exact slR sl7 hm hgl hr
 · exact slR sl8 hm hgl hr
 · exact slR sl9 hm hgl hr
 · exact slR aiR hm hgl hr
 · exact slR aiS hm hgl hr
 · exact slR aiT hm hgl hr
 · exact slR aiU hm hgl hr
 · exact slR aiV hm hgl hr
 · exact slR aiW hm hgl hr
 · exact slR aiX hm hgl hr
 · exact slR aiY hm hgl hr
 · exact slR aiZ hm hgl hr
 · exact slR ai0 hm hgl hr
 · exact slR ai1 hm hgl hr
 · exact slR ai2 hm hgl hr
 · exact slR ai3 hm hgl hr
 · exact slR ai4 hm hgl hr
 · exact slR ai5 hm hgl hr
 · exact slR ai6 hm hgl hr
 · exact slR ai7 hm hgl hr
 · exact slR ai8 hm hgl hr
 · exact slR ai9 hm hgl hr
 · exact slR aja hm hgl hr
 · exact slR ajb hm hgl hr
 · exact slR ajc hm hgl hr
 · exact slR ajd hm hgl hr
 · exact slR aje hm hgl hr
 · exact slR ajf hm hgl hr
 · exact slR ajg hm hgl hr
 · exact slR ajh hm hgl hr
 · exact slR aji hm hgl hr
 · exact slR ajj hm hgl hr
 · exact slR ajk hm hgl hr
 · exact slR ajl hm hgl hr
 · exact slR ajm hm hgl hr
 · exact slR ajn hm hgl hr
 · exact slR ajo hm hgl hr
 · exact slR ajp hm hgl hr
 · exact slR ajq hm hgl hr
 · exact slR ajr hm hgl hr
 · exact slR ajs hm hgl hr
 · exact slR ajt hm hgl hr
 · exact slR aju hm hgl hr
 · exact slR ajv hm hgl hr
 · exact slR ajw hm hgl hr
 · exact slR ajx hm hgl hr
 · exact slR ajy hm hgl hr
 · exact slR ajz hm hgl hr
 · exact slR ajA hm hgl hr
 · exact slR ajB hm hgl hr
 · exact slR ajC hm hgl hr
 · exact slR ajD hm hgl hr
 · exact slR ajE hm hgl hr
 · exact slR ajF hm hgl hr
 · exact slR ajG hm hgl hr
 · exact slR ajH hm hgl hr
 · exact slR ajI hm hgl hr
 · exact slR ajJ hm hgl hr
 · exact slR ajK hm hgl hr
 · exact slR ajL hm hgl hr
 · exact slR ajM hm hgl hr
 · exact slR ajN hm hgl hr
 · exact slR ajO hm hgl hr
 · exact slR ajP hm hgl hr
 · exact slR ajQ hm hgl hr
 · exact slR ajR hm hgl hr
 · exact slR ajS hm hgl hr
 · exact slR ajT hm hgl hr
 · exact slR ajU hm hgl hr
 · exact slR ajV hm hgl hr
 · exact slR ajW hm hgl hr
 · exact slR ajX hm hgl hr
 · exact slR ajY hm hgl hr
end Gv
