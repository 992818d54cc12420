/- Told parts of ValuesOnce. Printed by gvgen.py. -/
import Derived.Test.YtcmnmceodhambaaGreatDoorGvUValuesOnce
import Derived.Test.YtcmnmceodhambaaGreatDoorGvPValuesOnce4
import Derived.Test.YtcmnmceodhambaaGreatDoorGvPValuesOnce6
import Derived.Test.YtcmnmceodhambaaGreatDoorGvPValuesOnce0
import Derived.Test.YtcmnmceodhambaaGreatDoorGvPValuesOnce5
set_option linter.unusedSimpArgs false
set_option linter.unusedVariables false
set_option maxRecDepth 100000
open Rx Go
namespace Gv.LValuesOnce
open Gv Rd
theorem t56 (n : Int) : TCtr prog 39 (e56 n) := tellQ [(9, [(ls [(sy s1), (sy s4), (ls [(sy s9), (num 1)])]), (ls [(sy s1), (sy s10), (ls [(sy s6), (sy s2), (sy s4)])]), (ls [(sy s1), (ls [(sy s7), (sy s5)]), (sy s10)])])] (tk (f := 22) (tc 9 (t40 n) te_nil) (tk (f := 28) (tc 11 (t41 n) te_nil) (tk (f := 29) (tc 17 (t55 n) te_nil) tok_nil))) (by kernel_rfl) (by kernel_rfl) (q := (s16.size ≤ 3000 ∧ readS 400 s16 = some (RR.mk (dmsX ([ls [sy (ByteArray.mk (#[100, 101, 102, 105, 110, 101])), sy (ByteArray.mk (#[121])), ls [sy (ByteArray.mk (#[101, 114, 114, 111, 114])), num 1]], ls [sy (ByteArray.mk (#[100, 101, 102, 105, 110, 101])), sy (ByteArray.mk (#[122])), ls [sy (ByteArray.mk (#[43])), sy (ByteArray.mk (#[120])), sy (ByteArray.mk (#[121]))]], ls [sy (ByteArray.mk (#[100, 101, 102, 105, 110, 101])), ls [sy (ByteArray.mk (#[115, 104, 111, 119])), sy (ByteArray.mk (#[110]))], sy (ByteArray.mk (#[122]))]])) 0 0) ∧ fitsX ([ls [sy (ByteArray.mk (#[100, 101, 102, 105, 110, 101])), sy (ByteArray.mk (#[121])), ls [sy (ByteArray.mk (#[101, 114, 114, 111, 114])), num 1]], ls [sy (ByteArray.mk (#[100, 101, 102, 105, 110, 101])), sy (ByteArray.mk (#[122])), ls [sy (ByteArray.mk (#[43])), sy (ByteArray.mk (#[120])), sy (ByteArray.mk (#[121]))]], ls [sy (ByteArray.mk (#[100, 101, 102, 105, 110, 101])), ls [sy (ByteArray.mk (#[115, 104, 111, 119])), sy (ByteArray.mk (#[110]))], sy (ByteArray.mk (#[122]))]])) ∧
 rp (en (pk100 n + (1 : Int))) 1 (rp (en (pk100 n + (1 : Int) + (1 : Int))) 2 (rp (en (pk100 n + (1 : Int))) 1 (rp (en (pk100 n)) 1 (rp (((dxL [(ls [(sy s1), (sy s4), (ls [(sy s9), (num 1)])]), (ls [(sy s1), (sy s10), (ls [(sy s6), (sy s2), (sy s4)])]), (ls [(sy s1), (ls [(sy s7), (sy s5)]), (sy s10)])]) : Nat → Nat → Dt) = (dxL [(ls [(sy s1), (sy s4), (ls [(sy s9), (num 1)])]), (ls [(sy s1), (sy s10), (ls [(sy s6), (sy s2), (sy s4)])]), (ls [(sy s1), (ls [(sy s7), (sy s5)]), (sy s10)])])) 1 (rp (en (pk100 n + (1 : Int))) 1 (rp (en (pk100 n + (1 : Int) + (1 : Int))) 2 (rp (en (pk100 n + (1 : Int))) 1 (rp (en (pk100 n)) 1 (rp (((dxL []) : Nat → Nat → Dt) = (dxL [])) 1 (rp (en (pk100 n + (1 : Int))) 1 (rp (en (pk100 n + (1 : Int) + (pk100 n + (1 : Int) + (1 : Int)))) 1 (rp (en (pk100 n + (1 : Int) + (1 : Int))) 2 (rp (en (pk100 n + (1 : Int))) 1 (rp (en (pk100 n)) 1 (qt))))))))))))))))
 (by
 obtain ⟨h0, h1, h2, h3, h4, h5, h6, h7, h8, h9, h10, h11, h12, h13⟩ := fx n
 refine ⟨⟨by decide, by kernel_rfl, by simp [fitsX, Dx.fits, ls, sy, num, nu]⟩, ?_⟩
 iterate 15 refine rp_i rfl _ ?_
 rfl
 )
  (by kernel_rfl)
theorem t57 (n : Int) : TCtr prog 66 (e57 n) := tellQ [] (tk (f := 60) (tc 42 (t7 n) (tc 77 (t7 n) te_nil)) (tk (f := 127) (tc 42 (t0 n) (tc 77 (t0 n) te_nil)) tok_nil)) (by kernel_rfl) (by kernel_rfl) (q := qt)
 rfl
 (by kernel_rfl)
theorem t58 (n : Int) : TCtr prog 66 (e58 n) := tellQ [] tok_nil (by kernel_rfl) (by kernel_rfl) (q := qt)
 rfl
 (by kernel_rfl)
theorem t59 (n : Int) : TCtr prog 66 (e59 n) := tellQ [] (tk (f := 60) (tc 37 (t7 n) (tc 73 (t7 n) te_nil)) (tk (f := 127) (tc 37 (t0 n) (tc 73 (t0 n) te_nil)) tok_nil)) (by kernel_rfl) (by kernel_rfl) (q := qt)
 rfl
 (by kernel_rfl)
theorem t60 (n : Int) : TCtr prog 66 (e60 n) := tellQ [] tok_nil (by kernel_rfl) (by kernel_rfl) (q := qt)
 rfl
 (by kernel_rfl)
theorem t61 (n : Int) : TCtr prog 66 (e61 n) := tellQ [] tok_nil (by kernel_rfl) (by kernel_rfl) (q := qt)
 rfl
 (by kernel_rfl)
theorem t62 (n : Int) : TCtr prog 66 (e62 n) := tellQ [] tok_nil (by kernel_rfl) (by kernel_rfl) (q := qt)
 rfl
 (by kernel_rfl)
theorem t63 (n : Int) : TCtr prog 30 (e63 n) := tellQ [] (tk (f := 60) (tc 11 (t51 n) (tc 36 (t51 n) (tc 41 (t51 n) (tc 46 (t51 n) (tc 51 (t51 n) (tc 56 (t51 n) te_nil)))))) (tk (f := 45) (tc 27 (t42 n) te_nil) (tk (f := 66) (tc 28 (t57 n) (tc 29 (t58 n) (tc 30 (t59 n) (tc 31 (t60 n) (tc 32 (t61 n) (tc 33 (t62 n) te_nil)))))) (tk (f := 127) (tc 36 (t50 n) (tc 41 (t50 n) (tc 46 (t50 n) (tc 51 (t50 n) (tc 56 (t50 n) te_nil))))) tok_nil)))) (by kernel_rfl) (by kernel_rfl) (q := rp (en (pk100 n + (1 : Int) + (1 : Int))) 1 (rp (en (pk100 n + (1 : Int))) 1 (rp (en (pk100 n)) 1 (rp (en (pk100 n + (1 : Int) + (1 : Int))) 1 (rp (en (pk100 n + (1 : Int))) 1 (rp (en (pk100 n + (1 : Int) + (1 : Int))) 1 (rp (en (pk100 n + (1 : Int))) 1 (rp (en (pk100 n + (1 : Int) + (1 : Int))) 1 (rp (en (pk100 n + (1 : Int))) 1 (rp (en (pk100 n + (1 : Int) + (1 : Int))) 1 (rp (en (pk100 n + (1 : Int))) 1 (rp (en (pk100 n + (1 : Int) + (1 : Int))) 1 (rp (en (pk100 n + (1 : Int))) 1 (rp (en (pk100 n + (1 : Int) + (1 : Int))) 1 (rp (en (pk100 n + (1 : Int))) 1 (rp (en (pk100 n + (1 : Int) + (1 : Int))) 1 (rp (en (pk100 n + (1 : Int))) 1 (rp (en (pk100 n + (1 : Int) + (1 : Int))) 1 (rp (en (pk100 n + (1 : Int))) 1 (rp (en (pk100 n + (1 : Int) + (1 : Int))) 1 (rp (en (pk100 n + (1 : Int))) 1 (rp (en (pk100 n + (1 : Int) + (1 : Int))) 1 (rp (en (pk100 n + (1 : Int))) 1 (qt))))))))))))))))))))))))
 (rp_i rfl _ (rp_i rfl _ (rp_i rfl _ (rp_i rfl _ (rp_i rfl _ (rp_i rfl _ (rp_i rfl _ (rp_i rfl _ (rp_i rfl _ (rp_i rfl _ (rp_i rfl _ (rp_i rfl _ (rp_i rfl _ (rp_i rfl _ (rp_i rfl _ (rp_i rfl _ (rp_i rfl _ (rp_i rfl _ (rp_i rfl _ (rp_i rfl _ (rp_i rfl _ (rp_i rfl _ (rp_i rfl _ rfl)))))))))))))))))))))))
 (by kernel_rfl)
theorem t64 (n : Int) : TCtr prog 22 (e64 n) := tellQ [] (tk (f := 30) (tc 12 (t63 n) te_nil) tok_nil) (by kernel_rfl) (by kernel_rfl) (q := rp (en (pk100 n + (1 : Int))) 1 (rp (en (pk100 n + (1 : Int) + (pk100 n + (1 : Int) + (1 : Int)))) 1 (rp (en (pk100 n + (1 : Int) + (1 : Int))) 2 (rp (en (pk100 n + (1 : Int))) 1 (rp (en (pk100 n)) 1 (qt))))))
 (rp_i rfl _ (rp_i rfl _ (rp_i rfl _ (rp_i rfl _ (rp_i rfl _ rfl)))))
 (by kernel_rfl)
theorem t65 (n : Int) : TCtr prog 66 (e65 n) := tellQ [] (tk (f := 60) (tc 43 (t7 n) (tc 79 (t7 n) te_nil)) (tk (f := 127) (tc 43 (t0 n) (tc 79 (t0 n) te_nil)) tok_nil)) (by kernel_rfl) (by kernel_rfl) (q := qt)
 rfl
 (by kernel_rfl)
end Gv.LValuesOnce
