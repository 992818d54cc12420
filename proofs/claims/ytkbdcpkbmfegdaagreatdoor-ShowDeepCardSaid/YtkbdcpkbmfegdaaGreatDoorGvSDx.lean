/- ShowDeep: all that is told of its requests. Printed by genSD.py. -/
import Derived.Test.YtkbdcpkbmfegdaaGreatDoorGvO
import Derived.Test.YtkbdcpkbmfegdaaGreatDoorGvSD0
import Derived.Test.YtkbdcpkbmfegdaaGreatDoorGvSD1
import Derived.Test.YtkbdcpkbmfegdaaGreatDoorGvSD2
import Derived.Test.YtkbdcpkbmfegdaaGreatDoorGvSD3
open Rx Go Gv Rd
namespace Gv.SD
noncomputable def xl : XL := [(8, abg), (29, bP [e15 1, e15 2, e15 3, e15 4, e15 5, e15 6, e15 7, e15 8, e15 9, e15 10, e15 11, e15 12, e15 13, e15 14, e15 15, e15 16, e15 17, e15 18, e15 19, e15 20])]
theorem mok : MOk xl := jo Gz (kS (ta aad (ta aa8 (ta abO (ta Z7 (ta abz (ta aai (ta aau (ta aaL (ta Z4 (ta YB (ta Zq (ta X0 (ta Zx (ta Zy (ta Yk (ta Yy (ta YS (ta Zb (ta Ya (ta YF dB)))))))))))))))))))) bV)
end Gv.SD
