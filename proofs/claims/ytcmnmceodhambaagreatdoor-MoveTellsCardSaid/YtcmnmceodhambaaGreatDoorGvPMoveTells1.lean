/- Told parts of MoveTells. Printed by gvgen.py. -/
import Derived.Test.YtcmnmceodhambaaGreatDoorGvUMoveTells
import Derived.Test.YtcmnmceodhambaaGreatDoorGvPMoveTells0
set_option linter.unusedSimpArgs false
set_option linter.unusedVariables false
set_option maxRecDepth 100000
open Rx Go
namespace Gv.LMoveTells
open Gv Rd
theorem t23 (n m : Int) : aU prog 66 (e23 n m) := aP [] (tk (f := 60) (tc 26 (t8 n m) (tc 42 (t8 n m) (tc 73 (t8 n m) (tc 85 (t8 n m) aA)))) (tk (f := 127) (tc 26 (t0 n m) (tc 42 (t0 n m) (tc 73 (t0 n m) (tc 85 (t0 n m) aA)))) aD)) (by kernel_rfl) (by kernel_rfl) (q := qt)
 rfl
 (by kernel_rfl)
theorem t24 (n m : Int) : aU prog 66 (e24 n m) := aP [] aD (by kernel_rfl) (by kernel_rfl) (q := qt)
 rfl
 (by kernel_rfl)
theorem t25 (n m : Int) : aU prog 30 (e25 n m) := aP [] (tk (f := 60) (tc 10 (t21 n m) (tc 26 (t21 n m) (tc 31 (t21 n m) aA))) (tk (f := 45) (tc 20 (t6 n m) aA) (tk (f := 63) (tc 21 (t22 n m) aA) (tk (f := 66) (tc 22 (t23 n m) (tc 23 (t24 n m) aA)) (tk (f := 127) (tc 26 (t20 n m) (tc 31 (t20 n m) aA)) aD))))) (by kernel_rfl) (by kernel_rfl) (q := rp (en (ah m)) 1 (rp (en (ah n)) 1 (rp (en (ah m)) 1 (rp (en (ah n)) 1 (rp (en (ah m)) 1 (rp (en (ah n)) 1 (rp (en (ah m)) 1 (rp (en (ah n)) 1 (rp (en (ah m)) 1 (rp (en (ah n)) 1 (rp (en (ah m)) 1 (rp (en (ah n)) 1 (rp (en (ah m)) 1 (rp (en (ah n)) 1 (rp (en (ah m)) 1 (rp (en (ah n)) 1 (qt)))))))))))))))))
 (av rfl _ (av rfl _ (av rfl _ (av rfl _ (av rfl _ (av rfl _ (av rfl _ (av rfl _ (av rfl _ (av rfl _ (av rfl _ (av rfl _ (av rfl _ (av rfl _ (av rfl _ (av rfl _ rfl))))))))))))))))
 (by kernel_rfl)
theorem t26 (n m : Int) : aU prog 22 (e26 n m) := aP [] (tk (f := 30) (tc 11 (t25 n m) aA) aD) (by kernel_rfl) (by kernel_rfl) (q := rp (en (ah m)) 1 (rp (en (ah n)) 1 (rp (en (ah m)) 1 (rp (en (ah n)) 1 (rp (en (ah m)) 1 (rp (en (ah n)) 1 (qt)))))))
 (av rfl _ (av rfl _ (av rfl _ (av rfl _ (av rfl _ (av rfl _ rfl))))))
 (by kernel_rfl)
theorem t27 (n m : Int) : aU prog 45 (e27 n m) := aP [] aD (by kernel_rfl) (by kernel_rfl) (q := qt)
 rfl
 (by kernel_rfl)
theorem t28 (n m : Int) : aU prog 28 (e28 n m) := aP [] (tk (f := 45) (tc 5 (t27 n m) aA) aD) (by kernel_rfl) (by kernel_rfl) (q := rp ((D (.arr 4 3 (dxL [(sy s12), (ls [(sy s13), (sy s3)]), (ls [(sy s13), (sy s4)])])) : SV) = D (.arr 4 3 (dxL [(sy s12), (ls [(sy s13), (sy s3)]), (ls [(sy s13), (sy s4)])]))) 1 (rp ((D (.arr 4 2 (dxL [(sy s13), (sy s3)])) : SV) = D (.arr 4 2 (dxL [(sy s13), (sy s3)]))) 1 (rp ((D (.arr 4 2 (dxL [(sy s13), (sy s4)])) : SV) = D (.arr 4 2 (dxL [(sy s13), (sy s4)]))) 1 (rp ((D (.arr 4 4 (dxL [(sy s14), (ls [(sy s15), (ls [(sy s13), (sy s3)]), (ls [(sy s13), (sy s4)])]), (ls [(sy s16), (ls [(sy s17)])]), (ls [(sy s18), (ls [(sy s13), (sy s3)]), (ls [(sy s13), (sy s4)])])])) : SV) = D (.arr 4 4 (dxL [(sy s14), (ls [(sy s15), (ls [(sy s13), (sy s3)]), (ls [(sy s13), (sy s4)])]), (ls [(sy s16), (ls [(sy s17)])]), (ls [(sy s18), (ls [(sy s13), (sy s3)]), (ls [(sy s13), (sy s4)])])]))) 1 (rp ((D (.arr 4 3 (dxL [(sy s15), (ls [(sy s13), (sy s3)]), (ls [(sy s13), (sy s4)])])) : SV) = D (.arr 4 3 (dxL [(sy s15), (ls [(sy s13), (sy s3)]), (ls [(sy s13), (sy s4)])]))) 1 (rp ((D (.arr 4 2 (dxL [(sy s13), (sy s3)])) : SV) = D (.arr 4 2 (dxL [(sy s13), (sy s3)]))) 1 (rp ((D (.arr 4 2 (dxL [(sy s13), (sy s4)])) : SV) = D (.arr 4 2 (dxL [(sy s13), (sy s4)]))) 1 (rp ((D (.arr 4 2 (dxL [(sy s16), (ls [(sy s17)])])) : SV) = D (.arr 4 2 (dxL [(sy s16), (ls [(sy s17)])]))) 1 (rp ((D (.arr 4 3 (dxL [(sy s18), (ls [(sy s13), (sy s3)]), (ls [(sy s13), (sy s4)])])) : SV) = D (.arr 4 3 (dxL [(sy s18), (ls [(sy s13), (sy s3)]), (ls [(sy s13), (sy s4)])]))) 1 (rp ((D (.arr 4 2 (dxL [(sy s13), (sy s3)])) : SV) = D (.arr 4 2 (dxL [(sy s13), (sy s3)]))) 1 (rp ((D (.arr 4 2 (dxL [(sy s13), (sy s4)])) : SV) = D (.arr 4 2 (dxL [(sy s13), (sy s4)]))) 1 (rp ((D (.arr 4 3 (fun i j => (dxL [(sy s11), (sy s2), (ls [(sy s12), (ls [(sy s13), (sy s3)]), (ls [(sy s13), (sy s4)])]), (ls [(sy s14), (ls [(sy s15), (ls [(sy s13), (sy s3)]), (ls [(sy s13), (sy s4)])]), (ls [(sy s16), (ls [(sy s17)])]), (ls [(sy s18), (ls [(sy s13), (sy s3)]), (ls [(sy s13), (sy s4)])])])]) (i + (Rx.z0 (Option.some (1 : Int))).toNat) (j))) : SV) = D (.arr 4 3 (fun i j => (dxL [(sy s11), (sy s2), (ls [(sy s12), (ls [(sy s13), (sy s3)]), (ls [(sy s13), (sy s4)])]), (ls [(sy s14), (ls [(sy s15), (ls [(sy s13), (sy s3)]), (ls [(sy s13), (sy s4)])]), (ls [(sy s16), (ls [(sy s17)])]), (ls [(sy s18), (ls [(sy s13), (sy s3)]), (ls [(sy s13), (sy s4)])])])]) (i + (Rx.z0 (Option.some (1 : Int))).toNat) (j)))) 1 (rp (((dxL [(sy s17)]) : Nat -> Nat -> Dt) = (dxL [(sy s17)])) 1 (qt))))))))))))))
 (av rfl _ (av rfl _ (av rfl _ (av rfl _ (av rfl _ (av rfl _ (av rfl _ (av rfl _ (av rfl _ (av rfl _ (av rfl _ (av rfl _ (av rfl _ rfl)))))))))))))
 (by kernel_rfl)
theorem t29 (n m : Int) : aU prog 63 (e29 n m) := aP [] aD (by kernel_rfl) (by kernel_rfl) (q := qt)
 rfl
 (by kernel_rfl)
theorem t30 (n m : Int) : aU prog 66 (e30 n m) := aP [] (tk (f := 60) (tc 26 (t8 n m) (tc 42 (t8 n m) (tc 73 (t8 n m) (tc 85 (t8 n m) aA)))) (tk (f := 127) (tc 26 (t0 n m) (tc 42 (t0 n m) (tc 73 (t0 n m) (tc 85 (t0 n m) aA)))) aD)) (by kernel_rfl) (by kernel_rfl) (q := qt)
 rfl
 (by kernel_rfl)
theorem t31 (n m : Int) : aU prog 66 (e31 n m) := aP [] aD (by kernel_rfl) (by kernel_rfl) (q := qt)
 rfl
 (by kernel_rfl)
theorem t32 (n m : Int) : aU prog 66 (e32 n m) := aP [] aD (by kernel_rfl) (by kernel_rfl) (q := qt)
 rfl
 (by kernel_rfl)
theorem t33 (n m : Int) : aU prog 66 (e33 n m) := aP [] (tk (f := 60) (tc 110 (t8 n m) (tc 120 (t8 n m) (tc 176 (t8 n m) (tc 184 (t8 n m) aA)))) (tk (f := 127) (tc 110 (t0 n m) (tc 120 (t0 n m) (tc 176 (t0 n m) (tc 184 (t0 n m) aA)))) aD)) (by kernel_rfl) (by kernel_rfl) (q := qt)
 rfl
 (by kernel_rfl)
end Gv.LMoveTells
