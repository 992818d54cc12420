/- ShowDeep: what a request tells that hands in k nested lists. Printed by genSD.py. -/
import Derived.Test.YtkbdcpkbmfegdaaGreatDoorGvO
set_option linter.unusedSimpArgs false
set_option linter.unusedVariables false
set_option maxRecDepth 100000
open Rx Go Gv Rd
namespace Gv.SD
noncomputable section
def zf : ByteArray := ⟨#[102]⟩
def zc : ByteArray := ⟨#[99, 111, 110, 115]⟩
def op : ByteArray := ⟨#[40]⟩
def acs (f : List SV) (n : Nat) : List SV := @Nat.rec (fun _ => List SV) [] (fun _ ih => f ++ ih) n
def Wn (b : UInt8) (n : Nat) : List UInt8 := @Nat.rec (fun _ => List UInt8) [] (fun _ ih => b :: ih) n
def O (n : Nat) : SV := C (Int.ofNat n)
def glb : Ob := vc 122 4 1 [S zf, C 5, C 0, S s0] false
def glJ : Ob := vc 122 4 1 [S zf, J, J, J] false
def w0 : Ob := vc 114 3 2 [C 8, C 0, S s0, C 1, I 0, S s0] false
def c0 : Ob := vc 206 8 3 [C 1, I 0, I 0, S s0, S s0, I 0, I 0, S s0, C 3, C 0, I 0, S s0, S s0, I 0, I 0, S s0, C 14, I 0, I 0, S s0, S s0, I 0, I 0, S s0] false
def f1 (i : Nat) : Ob := vc 119 4 1 [I 1, I 1, I 0, V i 8 0 3] false
def f1J : Ob := vc 119 4 1 [J, J, I 0, J] false
def f2 (i k : Nat) : Ob := vc 119 4 2 [I 1, I 1, I 0, V i 8 0 3, I 0, I 0, I 0, V 3 8 0 (Nat.add 6 (Nat.add k k))] false
def f2J : Ob := vc 119 4 2 [J, J, I 0, J, J, J, I 0, J] false
def cl (k : Nat) : Nat := Nat.add 6 (Nat.add k k)
def wn (k : Nat) : Nat := Nat.add 2 (Nat.mul 3 k)
def cod (k : Nat) : Ob := vc 206 8 (cl k) ([C 1, I 0, I 0, S s0, S s0, I 0, I 0, S s0, C 1, I 0, I 0, S s0, S s0, I 0, I 0, S s0, C 9, I 0, I 0, S zf, S s0, I 0, I 0, S s0, C 1, I 0, I 0, S s0, S s0, I 0, I 0, S s0, C 2, I 0, I 0, S s0, S s0, C 1, C 7, S s0] ++ (acs [C 2, I 0, I 0, S s0, S s0, C 3, I 0, S s0, C 18, C 2, I 0, S zc, S s0, I 0, I 0, S s0] k ++ [C 13, C 1, I 0, S s0, S s0, I 0, I 0, S s0])) false
def wl (k : Nat) : List SV := @Nat.rec (fun _ => List SV) [] (fun t ih => ih ++ ([C 6, I 0, S s0] ++ (@Nat.rec (fun _ => List SV) [C 1, C 7, S s0] (fun _ _ => [C 5, O (Nat.pred (Nat.mul 3 t)), S s0]) t ++ [C 3, I 0, S s0]))) k
def wds (k : Nat) : Ob := vc 114 3 (wn k) ([C 8, C 0, S s0, C 1, I 0, S s0] ++ wl k) false
def ml (k : Nat) : List (Int × Bool) := @Nat.rec (fun _ => List (Int × Bool)) [] (fun t ih => ih ++ [(Int.ofNat (Nat.add 2 (Nat.mul 3 t)), true)]) k
def mpk (k : Nat) : Ob := .mp (.int .i64) .bool ((0, true) :: ml k)
def txt (k : Nat) : ByteArray := @Bool.rec (fun _ => ByteArray) ⟨((Wn 40 10 ++ [46, 46]) ++ Wn 41 10).toArray⟩ ⟨((Wn 40 k ++ [55]) ++ Wn 41 k).toArray⟩ (Nat.ble k 10)
def chain (k : Nat) : List (Option Ob) := @Nat.rec (fun _ => Nat -> List (Option Ob)) (fun _ => []) (fun t ih i => @Nat.rec (fun _ => List (Option Ob)) [some (vc 25 4 1 [C 1, C 7, S s0, bD] true)] (fun _ _ => some (vc 25 4 1 [C 4, I 0, S s0, V (Nat.succ i) 4 0 1] true) :: ih (Nat.succ i)) t) k 5
def top (k : Nat) : SV := .agg [C 5, O (Nat.pred (Nat.mul 3 k)), S s0]
def e0 : TE := ⟨1, [V 0 3 0 2], [some w0], .tup [.nm 1, .kb true], [some (.mp (.int .i64) .bool [((0 : Int), true)])]⟩
def e1 : TE := ⟨1, [.agg [V 0 3 0 2, C 4000]], [some w0], I 0, []⟩
def e2 : TE := ⟨1, [.agg [V 0 1 0 1, bD]], [some (vc 9 1 1 [S zf] false)], I 0, []⟩
def e3 : TE := ⟨3, [.agg [V 0 4 0 1, V 1 4 0 1, bD, J, J], .agg [I 1, I 1, I 0, V 2 8 0 3]], [some f1J, some glJ, some c0], .kb true, []⟩
def e4 : TE := ⟨4, [.agg [V 0 4 0 1, V 1 4 0 1, bD, V 2 3 0 2, C 4000]], [some (f1 3), some glb, some w0, some c0], I 0, []⟩
def e5 : TE := ⟨4, [.agg [V 0 4 0 1, V 1 4 0 1, bD, V 2 3 0 2, C 4000]], [some (f1 3), some glb, some w0, some c0], .tup [.agg [V 4 1 0 1, bD], I 0], [some (vc 9 1 1 [S zf] false)]⟩
def e6 : TE := ⟨0, [bD], [], .tup [.nm 0, .kb true], [some (.mp (.int .i64) .bool [])]⟩
def e7 : TE := ⟨0, [.agg [bD, C 50]], [], I 0, []⟩
def e12 : TE := ⟨3, [.agg [.sl 0 4 0 1 (some 1), V 1 4 0 1, bD, J, J], .agg [I 1, I 1, I 0, V 2 8 0 3]], [some f2J, some glJ, some c0], .kb true, []⟩
def e8 (k : Nat) : TE := ⟨3, [.agg [V 0 4 0 1, V 1 4 0 1, bD, J, J], .agg [I 0, I 0, I 0, V 2 8 0 (cl k)]], [some f1J, some glJ, some (cod k)], .kb true, []⟩
def e9 (k : Nat) : TE := ⟨5, [.agg [V 0 4 0 1, V 1 4 0 1, bD, V 2 3 0 2, C 4000], .agg [I 0, I 0, I 0, V 3 8 0 (cl k)], I 50], [some (f1 4), some glb, some w0, some (cod k), some c0], .tup [.agg [.sl 5 4 0 1 (some 1), V 6 4 0 1, bD, V 7 3 0 (wn k), C 4000], top k, I 0], [some (f2 8 k), some glb, some (wds k), some c0]⟩
def e10 (k : Nat) : TE := ⟨1, [V 0 3 0 (wn k)], [some (wds k)], .tup [.nm 1, .kb true], [some (mpk k)]⟩
def e11 (k : Nat) : TE := ⟨1, [.agg [V 0 3 0 (wn k), C 4000]], [some (wds k)], I 0, []⟩
def wk (k : Nat) : SV := .agg [.sl 0 4 0 1 (some 1), V 1 4 0 1, bD, V 2 3 0 (wn k), C 4000]
def abF (k : Nat) : List (Option Ob) := [some (f2 4 k), some glb, some (wds k), some (cod k), some c0]
def e13 (k : Nat) : TE := ⟨5, [wk k], abF k, I 0, []⟩
def e14 (k : Nat) : TE := ⟨5, [wk k, top k], abF k, .tup [.agg [V 5 4 0 1, V 6 4 0 1, bD, V 7 3 0 (wn k), C 4000], .sy (txt k), I 0], [some (f1 8), some glb, some (wds k), some c0]⟩
def e15 (k : Nat) : TE := ⟨Nat.add 5 k, [.agg [V 0 4 0 1, V 1 4 0 1, bD, V 2 3 0 2, C 4000], .agg [C 2, S s0, S zf, V 3 4 0 1, C 50]], [some (f1 4), some glb, some w0, some (vc 25 4 1 [C 4, I 0, S s0, V 5 4 0 1] true), some c0] ++ chain k, .tup [.agg [V (Nat.add 5 k) 4 0 1, V (Nat.add 6 k) 4 0 1, bD, V (Nat.add 7 k) 3 0 (wn k), C 4000], .sy (txt k), I 0], [some (f1 (Nat.add 8 k)), some glb, some (wds k), some c0]⟩
end
theorem t0 : ay prog 84 e0 := bO (ml := []) (tl := []) [] bV aJ (by kernel_rfl) (by kernel_rfl) (q := rp (en (Ob.mp (.int .i64) .bool [((0 : Int), true)])) 1 (qt)) (iP rfl _ rfl) (by kernel_rfl)
theorem t1 : ay prog 83 e1 := bO (ml := [(84, bP [e0])]) (tl := []) [] (kS (ta t0 dB) bV) aJ (by kernel_rfl) (by kernel_rfl) (q := qt) rfl (by kernel_rfl)
theorem t2 : ay prog 58 e2 := bO (ml := []) (tl := []) [] bV aJ (by kernel_rfl) (by kernel_rfl) (q := qt) rfl (by kernel_rfl)
theorem t3 : ay prog 77 e3 := bO (ml := []) (tl := []) [] bV aJ (by kernel_rfl) (by kernel_rfl) (q := qt) rfl (by kernel_rfl)
theorem t4 : ay prog 56 e4 := bO (ml := [(83, bP [e1]), (58, bP [e2]), (77, bP [e3]), (84, bP [e0])]) (tl := []) [] (kS (ta t1 dB) (kS (ta t2 dB) (kS (ta t3 dB) (kS (ta t0 dB) bV)))) aJ (by kernel_rfl) (by kernel_rfl) (q := qt) rfl (by kernel_rfl)
theorem t5 : ay prog 38 e5 := bO (ml := [(56, bP [e4])]) (tl := []) [] (kS (ta t4 dB) bV) aJ (by kernel_rfl) (by kernel_rfl) (q := qt) rfl (by kernel_rfl)
theorem t6 : ay prog 84 e6 := bO (ml := []) (tl := []) [] bV aJ (by kernel_rfl) (by kernel_rfl) (q := rp (en (Ob.mp (.int .i64) .bool [])) 1 (qt)) (iP rfl _ rfl) (by kernel_rfl)
theorem t7 : ay prog 83 e7 := bO (ml := [(84, bP [e6])]) (tl := []) [] (kS (ta t6 dB) bV) aJ (by kernel_rfl) (by kernel_rfl) (q := qt) rfl (by kernel_rfl)
theorem t12 : ay prog 77 e12 := bO (ml := []) (tl := []) [] bV aJ (by kernel_rfl) (by kernel_rfl) (q := qt) rfl (by kernel_rfl)
noncomputable def bld (t : ByteArray) (l : XL) : XL := (dZ, mkS fun al g new => wsK al g new) :: (gq, mkS fun al g new => wbK al g new) :: (nM, mkS fun al _ _ => KR al) :: (mK, mkS fun al g _ => stK t al g) :: l
abbrev W10 (k : Nat) : Prop := ((e10 k).ok = true /\ Nat.ble (e10 k).m 16000000 = true) /\ (rp (en (mpk k)) 1 (qt)) = (zZ [] ([]) [] 84 (e10 k)).holds fun y => y.1 = .kb true
theorem t10 (k : Nat) (w : W10 k) : ay prog 84 (e10 k) := bO (ml := []) (tl := []) [] bV aJ w.1.1 w.1.2 (q := rp (en (mpk k)) 1 (qt)) (iP rfl _ rfl) w.2
abbrev W11 (k : Nat) : Prop := ((e11 k).ok = true /\ Nat.ble (e11 k).m 16000000 = true) /\ (qt) = (zZ [] ([(84, bP [e10 k])]) [] 83 (e11 k)).holds fun y => y.1 = .kb true
theorem t11 (k : Nat) (w : W11 k) (h10 : ay prog 84 (e10 k)) : ay prog 83 (e11 k) := bO (ml := [(84, bP [e10 k])]) (tl := []) [] (kS (ta h10 dB) bV) aJ w.1.1 w.1.2 (q := qt) rfl w.2
abbrev W8 (k : Nat) : Prop := ((e8 k).ok = true /\ Nat.ble (e8 k).m 16000000 = true) /\ (qt) = (zZ [] ([(83, bP [e7]), (84, bP [e6])]) [] 77 (e8 k)).holds fun y => y.1 = .kb true
theorem t8 (k : Nat) (w : W8 k) : ay prog 77 (e8 k) := bO (ml := [(83, bP [e7]), (84, bP [e6])]) (tl := []) [] (kS (ta t7 dB) (kS (ta t6 dB) bV)) aJ w.1.1 w.1.2 (q := qt) rfl w.2
abbrev W9 (k : Nat) : Prop := ((e9 k).ok = true /\ Nat.ble (e9 k).m 16000000 = true) /\ (qt) = (zZ [] ([(56, bP [e4]), (77, bP [e8 k])]) [] 44 (e9 k)).holds fun y => y.1 = .kb true
theorem t9 (k : Nat) (w : W9 k) (h8 : ay prog 77 (e8 k)) : ay prog 44 (e9 k) := bO (ml := [(56, bP [e4]), (77, bP [e8 k])]) (tl := []) [] (kS (ta t4 dB) (kS (ta h8 dB) bV)) aJ w.1.1 w.1.2 (q := qt) rfl w.2
abbrev W13 (k : Nat) : Prop := ((e13 k).ok = true /\ Nat.ble (e13 k).m 16000000 = true) /\ (qt) = (zZ [] ([(83, bP [e11 k]), (58, bP [e2]), (77, bP [e12]), (84, bP [e10 k])]) [] 56 (e13 k)).holds fun y => y.1 = .kb true
theorem t13 (k : Nat) (w : W13 k) (h10 : ay prog 84 (e10 k)) (h11 : ay prog 83 (e11 k)) : ay prog 56 (e13 k) := bO (ml := [(83, bP [e11 k]), (58, bP [e2]), (77, bP [e12]), (84, bP [e10 k])]) (tl := []) [] (kS (ta h11 dB) (kS (ta t2 dB) (kS (ta t12 dB) (kS (ta h10 dB) bV)))) aJ w.1.1 w.1.2 (q := qt) rfl w.2
abbrev W14 (k : Nat) : Prop := ((e14 k).ok = true /\ Nat.ble (e14 k).m 16000000 = true) /\ ((txt k = txt k) /\ qt) = (zZ [] (bld (txt k) ([(56, bP [e13 k]), (83, bP [e11 k]), (84, bP [e10 k])])) [] 45 (e14 k)).holds fun y => y.1 = .kb true
theorem t14 (k : Nat) (w : W14 k) (h10 : ay prog 84 (e10 k)) (h11 : ay prog 83 (e11 k)) (h13 : ay prog 56 (e13 k)) : ay prog 45 (e14 k) := bO (ml := bld (txt k) ([(56, bP [e13 k]), (83, bP [e11 k]), (84, bP [e10 k])])) (tl := []) [] (acn (txt k) (kS (ta h13 dB) (kS (ta h11 dB) (kS (ta h10 dB) bV)))) aJ w.1.1 w.1.2 (q := (txt k = txt k) /\ qt) ⟨rfl, rfl⟩ w.2
abbrev W15 (k : Nat) : Prop := ((e15 k).ok = true /\ Nat.ble (e15 k).m 16000000 = true) /\ ((txt k = txt k) /\ qt) = (zZ [] ([(38, bP [e5]), (44, bP [e9 k]), (45, bP [e14 k])]) [] 29 (e15 k)).holds fun y => y.1 = .kb true
theorem t15 (k : Nat) (w : W15 k) (h9 : ay prog 44 (e9 k)) (h14 : ay prog 45 (e14 k)) : ay prog 29 (e15 k) := bO (ml := [(38, bP [e5]), (44, bP [e9 k]), (45, bP [e14 k])]) (tl := []) [] (kS (ta t5 dB) (kS (ta h9 dB) (kS (ta h14 dB) bV))) aJ w.1.1 w.1.2 (q := (txt k = txt k) /\ qt) ⟨rfl, rfl⟩ w.2
end Gv.SD
