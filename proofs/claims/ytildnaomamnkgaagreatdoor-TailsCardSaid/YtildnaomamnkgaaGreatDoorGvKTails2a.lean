import Derived.Test.YtildnaomamnkgaaGreatDoorGvKTails2s
import Derived.Test.YtildnaomamnkgaaGreatDoorGvKTails2f1
set_option linter.unusedSimpArgs false
set_option linter.unusedVariables false
set_option maxRecDepth 100000
open Rx Go Gv Rd
namespace Gv.KTails2
theorem TA (n : Int) (hm : dJ n 300 < 100) : xU prog 67 (p (dJ n 300)) := Vu _ (gD n (by decide)).1 hm
theorem abZ (n : Int) (hm : 100 <= dJ n 300) : xU prog 67 (q (dJ n 300)) := ad6 _ hm (by have := gD n (m := 300) (by decide); omega)
end Gv.KTails2
