/- UpgradeChain: what an upgrade does to a number. Printed by genUC.py. -/
import Derived.Test.YtkbdcpkbmfegdaaGreatDoorGvO
set_option linter.unusedSimpArgs false
set_option linter.unusedVariables false
set_option maxRecDepth 100000
open Rx Go Gv Rd
namespace Gv.UC
noncomputable section
def zp : ByteArray := ⟨#[112]⟩
def za : ByteArray := ⟨#[97]⟩
def zx : ByteArray := ⟨#[120]⟩
def zs : ByteArray := ⟨#[115, 104, 111, 119]⟩
def plus : ByteArray := ⟨#[43]⟩
def star : ByteArray := ⟨#[42]⟩
def opT (k : Int) : ByteArray := if k % 2 = 0 then star else plus
def vvS (v : Int) (k : Nat -> Int) (i : Nat) : Int := @Nat.rec (fun _ => Int) v (fun i x => if k i % 2 = 0 then x * k i else x + k i) i
def nz {α : Type} (a : α) (f : Nat -> α) (k : Nat) : α := @Nat.rec (fun _ => α) a (fun t _ => f (Nat.succ t)) k
def upL {α : Type} (f : Nat -> List α) (n : Nat) : List α := @Nat.rec (fun _ => List α) [] (fun t ih => ih ++ f t) n
def nv (v : Int) (k : Nat -> Int) (i : Nat) : SV := nz (.ri .i64 0 99 v) (fun i => .ri .i64 0 (Int.ofNat (Nat.mul 108 (Nat.pow 9 i))) (vvS v k i)) i
def nk (x : Int) : SV := .ri .i64 1 9 x
def ac7 (a b : SV) : Ob := vc 114 3 2 [C 1, a, S s0, C 1, b, S s0] false
def peE (o : SV) (a r : SV) (x : Int) : ME := ⟨1, [J, o, V 0 3 0 2], [some (ac7 a (nk x))], .tup [.agg [C 1, r, S s0], I 0], [some (ac7 a (nk x))]⟩
def prE (i : Nat) (v : Int) (k : Nat -> Int) : ME := peE (.sy (opT (k i))) (nv v k i) (nv v k (Nat.succ i)) (k i)
end
theorem qQ (x : Int) (x0 : 1 <= x) (x1 : x <= 9) : 122167958641 <= Int.tdiv 1099511627776 (bif decide (0 - x > x) then 0 - x else x) := by
 rcases (by omega : x = 1 ∨ x = 2 ∨ x = 3 ∨ x = 4 ∨ x = 5 ∨ x = 6 ∨ x = 7 ∨ x = 8 ∨ x = 9) with rfl | rfl | rfl | rfl | rfl | rfl | rfl | rfl | rfl <;> decide
theorem yH (v : Int) (h : 0 <= v) : (bif decide (0 - v > v) then 0 - v else v) = v := by
 rw [decide_eq_false (by omega)]; rfl
theorem gK (v x A : Int) (h0 : 0 <= v) (h1 : v <= A) (x0 : 1 <= x) (x1 : x <= 9) : 0 <= v * x /\ v * x <= A * 9 :=
 ⟨Int.mul_nonneg h0 (by omega), Int.mul_le_mul h1 x1 (by omega) (by omega)⟩
def Hy (v : Int) (k : Nat -> Int) : Prop := 0 <= v /\ v <= 99 /\ ∀ i, 1 <= k i /\ k i <= 9
theorem jR (v : Int) (k : Nat -> Int) (i : Nat) : vvS v k (i + 1) = if k i % 2 = 0 then vvS v k i * k i else vvS v k i + k i := rfl
theorem Ir {x : Int} (h : x % 2 = 0) : opT x = star := if_pos h
theorem Iq {x : Int} (h : ¬ x % 2 = 0) : opT x = plus := if_neg h
theorem acL (v x y : Int) (h0 : 0 <= v) (h1 : v <= 99) (x0 : 1 <= x) (x1 : x <= 9) (e : y = v + x) : eB prog 203 (peE (S plus) (.ri .i64 0 99 v) (.ri .i64 0 972 y) x) := gL [] aC aA (by kernel_rfl) (by kernel_rfl) (q := ((y = v + x /\ 0 <= y /\ y <= 972) /\ rp (en (v)) 1 (rp (en (x)) 1 qt))) ⟨by omega, bC rfl _ (bC rfl _ rfl)⟩ (by kernel_rfl)
theorem acU (v x y : Int) (h0 : 0 <= v) (h1 : v <= 99) (x0 : 1 <= x) (x1 : x <= 9) (e : y = v * x) : eB prog 203 (peE (S star) (.ri .i64 0 99 v) (.ri .i64 0 972 y) x) := gL [] aC aA (by kernel_rfl) (by kernel_rfl) (q := (((v != 0) = true -> ((decide ((bif decide (0 - v > v) then 0 - v else v) > Int.tdiv 1099511627776 (bif decide (0 - x > x) then 0 - x else x))) = true -> False) /\ ((decide ((bif decide (0 - v > v) then 0 - v else v) > Int.tdiv 1099511627776 (bif decide (0 - x > x) then 0 - x else x))) = false -> (y = v * x /\ 0 <= y /\ y <= 972) /\ rp (en (v)) 1 (rp (en (x)) 1 qt))) /\ ((v != 0) = false -> (y = v * x /\ 0 <= y /\ y <= 972) /\ rp (en (v)) 1 (rp (en (x)) 1 qt)))) (by
 have hm := qQ x x0 x1
 have hb := gK v x 99 h0 h1 x0 x1
 rw [← e] at hb
 rw [yH v h0]
 refine ⟨fun _ => ⟨fun hc => ?_, fun _ => ⟨⟨e, by omega⟩, bC rfl _ (bC rfl _ rfl)⟩⟩, fun _ => ⟨⟨e, by omega⟩, bC rfl _ (bC rfl _ rfl)⟩⟩
 have hc := of_decide_eq_true hc
 omega) (by kernel_rfl)
theorem acM (v x y : Int) (h0 : 0 <= v) (h1 : v <= 972) (x0 : 1 <= x) (x1 : x <= 9) (e : y = v + x) : eB prog 203 (peE (S plus) (.ri .i64 0 972 v) (.ri .i64 0 8748 y) x) := gL [] aC aA (by kernel_rfl) (by kernel_rfl) (q := ((y = v + x /\ 0 <= y /\ y <= 8748) /\ rp (en (v)) 1 (rp (en (x)) 1 qt))) ⟨by omega, bC rfl _ (bC rfl _ rfl)⟩ (by kernel_rfl)
theorem acV (v x y : Int) (h0 : 0 <= v) (h1 : v <= 972) (x0 : 1 <= x) (x1 : x <= 9) (e : y = v * x) : eB prog 203 (peE (S star) (.ri .i64 0 972 v) (.ri .i64 0 8748 y) x) := gL [] aC aA (by kernel_rfl) (by kernel_rfl) (q := (((v != 0) = true -> ((decide ((bif decide (0 - v > v) then 0 - v else v) > Int.tdiv 1099511627776 (bif decide (0 - x > x) then 0 - x else x))) = true -> False) /\ ((decide ((bif decide (0 - v > v) then 0 - v else v) > Int.tdiv 1099511627776 (bif decide (0 - x > x) then 0 - x else x))) = false -> (y = v * x) /\ rp (en (v)) 1 (rp (en (x)) 1 qt))) /\ ((v != 0) = false -> (y = v * x) /\ rp (en (v)) 1 (rp (en (x)) 1 qt)))) (by
 have hm := qQ x x0 x1
 have hb := gK v x 972 h0 h1 x0 x1
 rw [← e] at hb
 rw [yH v h0]
 refine ⟨fun _ => ⟨fun hc => ?_, fun _ => ⟨e, bC rfl _ (bC rfl _ rfl)⟩⟩, fun _ => ⟨e, bC rfl _ (bC rfl _ rfl)⟩⟩
 have hc := of_decide_eq_true hc
 omega) (by kernel_rfl)
theorem acN (v x y : Int) (h0 : 0 <= v) (h1 : v <= 8748) (x0 : 1 <= x) (x1 : x <= 9) (e : y = v + x) : eB prog 203 (peE (S plus) (.ri .i64 0 8748 v) (.ri .i64 0 78732 y) x) := gL [] aC aA (by kernel_rfl) (by kernel_rfl) (q := ((y = v + x /\ 0 <= y /\ y <= 78732) /\ rp (en (v)) 1 (rp (en (x)) 1 qt))) ⟨by omega, bC rfl _ (bC rfl _ rfl)⟩ (by kernel_rfl)
theorem acW (v x y : Int) (h0 : 0 <= v) (h1 : v <= 8748) (x0 : 1 <= x) (x1 : x <= 9) (e : y = v * x) : eB prog 203 (peE (S star) (.ri .i64 0 8748 v) (.ri .i64 0 78732 y) x) := gL [] aC aA (by kernel_rfl) (by kernel_rfl) (q := (((v != 0) = true -> ((decide ((bif decide (0 - v > v) then 0 - v else v) > Int.tdiv 1099511627776 (bif decide (0 - x > x) then 0 - x else x))) = true -> False) /\ ((decide ((bif decide (0 - v > v) then 0 - v else v) > Int.tdiv 1099511627776 (bif decide (0 - x > x) then 0 - x else x))) = false -> (y = v * x) /\ rp (en (v)) 1 (rp (en (x)) 1 qt))) /\ ((v != 0) = false -> (y = v * x) /\ rp (en (v)) 1 (rp (en (x)) 1 qt)))) (by
 have hm := qQ x x0 x1
 have hb := gK v x 8748 h0 h1 x0 x1
 rw [← e] at hb
 rw [yH v h0]
 refine ⟨fun _ => ⟨fun hc => ?_, fun _ => ⟨e, bC rfl _ (bC rfl _ rfl)⟩⟩, fun _ => ⟨e, bC rfl _ (bC rfl _ rfl)⟩⟩
 have hc := of_decide_eq_true hc
 omega) (by kernel_rfl)
theorem acP (v x y : Int) (h0 : 0 <= v) (h1 : v <= 78732) (x0 : 1 <= x) (x1 : x <= 9) (e : y = v + x) : eB prog 203 (peE (S plus) (.ri .i64 0 78732 v) (.ri .i64 0 708588 y) x) := gL [] aC aA (by kernel_rfl) (by kernel_rfl) (q := ((y = v + x /\ 0 <= y /\ y <= 708588) /\ rp (en (v)) 1 (rp (en (x)) 1 qt))) ⟨by omega, bC rfl _ (bC rfl _ rfl)⟩ (by kernel_rfl)
theorem acX (v x y : Int) (h0 : 0 <= v) (h1 : v <= 78732) (x0 : 1 <= x) (x1 : x <= 9) (e : y = v * x) : eB prog 203 (peE (S star) (.ri .i64 0 78732 v) (.ri .i64 0 708588 y) x) := gL [] aC aA (by kernel_rfl) (by kernel_rfl) (q := (((v != 0) = true -> ((decide ((bif decide (0 - v > v) then 0 - v else v) > Int.tdiv 1099511627776 (bif decide (0 - x > x) then 0 - x else x))) = true -> False) /\ ((decide ((bif decide (0 - v > v) then 0 - v else v) > Int.tdiv 1099511627776 (bif decide (0 - x > x) then 0 - x else x))) = false -> (y = v * x) /\ rp (en (v)) 1 (rp (en (x)) 1 qt))) /\ ((v != 0) = false -> (y = v * x) /\ rp (en (v)) 1 (rp (en (x)) 1 qt)))) (by
 have hm := qQ x x0 x1
 have hb := gK v x 78732 h0 h1 x0 x1
 rw [← e] at hb
 rw [yH v h0]
 refine ⟨fun _ => ⟨fun hc => ?_, fun _ => ⟨e, bC rfl _ (bC rfl _ rfl)⟩⟩, fun _ => ⟨e, bC rfl _ (bC rfl _ rfl)⟩⟩
 have hc := of_decide_eq_true hc
 omega) (by kernel_rfl)
theorem acQ (v x y : Int) (h0 : 0 <= v) (h1 : v <= 708588) (x0 : 1 <= x) (x1 : x <= 9) (e : y = v + x) : eB prog 203 (peE (S plus) (.ri .i64 0 708588 v) (.ri .i64 0 6377292 y) x) := gL [] aC aA (by kernel_rfl) (by kernel_rfl) (q := ((y = v + x /\ 0 <= y /\ y <= 6377292) /\ rp (en (v)) 1 (rp (en (x)) 1 qt))) ⟨by omega, bC rfl _ (bC rfl _ rfl)⟩ (by kernel_rfl)
theorem acY (v x y : Int) (h0 : 0 <= v) (h1 : v <= 708588) (x0 : 1 <= x) (x1 : x <= 9) (e : y = v * x) : eB prog 203 (peE (S star) (.ri .i64 0 708588 v) (.ri .i64 0 6377292 y) x) := gL [] aC aA (by kernel_rfl) (by kernel_rfl) (q := (((v != 0) = true -> ((decide ((bif decide (0 - v > v) then 0 - v else v) > Int.tdiv 1099511627776 (bif decide (0 - x > x) then 0 - x else x))) = true -> False) /\ ((decide ((bif decide (0 - v > v) then 0 - v else v) > Int.tdiv 1099511627776 (bif decide (0 - x > x) then 0 - x else x))) = false -> (y = v * x) /\ rp (en (v)) 1 (rp (en (x)) 1 qt))) /\ ((v != 0) = false -> (y = v * x) /\ rp (en (v)) 1 (rp (en (x)) 1 qt)))) (by
 have hm := qQ x x0 x1
 have hb := gK v x 708588 h0 h1 x0 x1
 rw [← e] at hb
 rw [yH v h0]
 refine ⟨fun _ => ⟨fun hc => ?_, fun _ => ⟨e, bC rfl _ (bC rfl _ rfl)⟩⟩, fun _ => ⟨e, bC rfl _ (bC rfl _ rfl)⟩⟩
 have hc := of_decide_eq_true hc
 omega) (by kernel_rfl)
theorem acR (v x y : Int) (h0 : 0 <= v) (h1 : v <= 6377292) (x0 : 1 <= x) (x1 : x <= 9) (e : y = v + x) : eB prog 203 (peE (S plus) (.ri .i64 0 6377292 v) (.ri .i64 0 57395628 y) x) := gL [] aC aA (by kernel_rfl) (by kernel_rfl) (q := ((y = v + x /\ 0 <= y /\ y <= 57395628) /\ rp (en (v)) 1 (rp (en (x)) 1 qt))) ⟨by omega, bC rfl _ (bC rfl _ rfl)⟩ (by kernel_rfl)
theorem acZ (v x y : Int) (h0 : 0 <= v) (h1 : v <= 6377292) (x0 : 1 <= x) (x1 : x <= 9) (e : y = v * x) : eB prog 203 (peE (S star) (.ri .i64 0 6377292 v) (.ri .i64 0 57395628 y) x) := gL [] aC aA (by kernel_rfl) (by kernel_rfl) (q := (((v != 0) = true -> ((decide ((bif decide (0 - v > v) then 0 - v else v) > Int.tdiv 1099511627776 (bif decide (0 - x > x) then 0 - x else x))) = true -> False) /\ ((decide ((bif decide (0 - v > v) then 0 - v else v) > Int.tdiv 1099511627776 (bif decide (0 - x > x) then 0 - x else x))) = false -> (y = v * x) /\ rp (en (v)) 1 (rp (en (x)) 1 qt))) /\ ((v != 0) = false -> (y = v * x) /\ rp (en (v)) 1 (rp (en (x)) 1 qt)))) (by
 have hm := qQ x x0 x1
 have hb := gK v x 6377292 h0 h1 x0 x1
 rw [← e] at hb
 rw [yH v h0]
 refine ⟨fun _ => ⟨fun hc => ?_, fun _ => ⟨e, bC rfl _ (bC rfl _ rfl)⟩⟩, fun _ => ⟨e, bC rfl _ (bC rfl _ rfl)⟩⟩
 have hc := of_decide_eq_true hc
 omega) (by kernel_rfl)
theorem acS (v x y : Int) (h0 : 0 <= v) (h1 : v <= 57395628) (x0 : 1 <= x) (x1 : x <= 9) (e : y = v + x) : eB prog 203 (peE (S plus) (.ri .i64 0 57395628 v) (.ri .i64 0 516560652 y) x) := gL [] aC aA (by kernel_rfl) (by kernel_rfl) (q := ((y = v + x /\ 0 <= y /\ y <= 516560652) /\ rp (en (v)) 1 (rp (en (x)) 1 qt))) ⟨by omega, bC rfl _ (bC rfl _ rfl)⟩ (by kernel_rfl)
theorem ac0 (v x y : Int) (h0 : 0 <= v) (h1 : v <= 57395628) (x0 : 1 <= x) (x1 : x <= 9) (e : y = v * x) : eB prog 203 (peE (S star) (.ri .i64 0 57395628 v) (.ri .i64 0 516560652 y) x) := gL [] aC aA (by kernel_rfl) (by kernel_rfl) (q := (((v != 0) = true -> ((decide ((bif decide (0 - v > v) then 0 - v else v) > Int.tdiv 1099511627776 (bif decide (0 - x > x) then 0 - x else x))) = true -> False) /\ ((decide ((bif decide (0 - v > v) then 0 - v else v) > Int.tdiv 1099511627776 (bif decide (0 - x > x) then 0 - x else x))) = false -> (y = v * x) /\ rp (en (v)) 1 (rp (en (x)) 1 qt))) /\ ((v != 0) = false -> (y = v * x) /\ rp (en (v)) 1 (rp (en (x)) 1 qt)))) (by
 have hm := qQ x x0 x1
 have hb := gK v x 57395628 h0 h1 x0 x1
 rw [← e] at hb
 rw [yH v h0]
 refine ⟨fun _ => ⟨fun hc => ?_, fun _ => ⟨e, bC rfl _ (bC rfl _ rfl)⟩⟩, fun _ => ⟨e, bC rfl _ (bC rfl _ rfl)⟩⟩
 have hc := of_decide_eq_true hc
 omega) (by kernel_rfl)
theorem acT (v x y : Int) (h0 : 0 <= v) (h1 : v <= 516560652) (x0 : 1 <= x) (x1 : x <= 9) (e : y = v + x) : eB prog 203 (peE (S plus) (.ri .i64 0 516560652 v) (.ri .i64 0 4649045868 y) x) := gL [] aC aA (by kernel_rfl) (by kernel_rfl) (q := ((y = v + x /\ 0 <= y /\ y <= 4649045868) /\ rp (en (v)) 1 (rp (en (x)) 1 qt))) ⟨by omega, bC rfl _ (bC rfl _ rfl)⟩ (by kernel_rfl)
theorem ac1 (v x y : Int) (h0 : 0 <= v) (h1 : v <= 516560652) (x0 : 1 <= x) (x1 : x <= 9) (e : y = v * x) : eB prog 203 (peE (S star) (.ri .i64 0 516560652 v) (.ri .i64 0 4649045868 y) x) := gL [] aC aA (by kernel_rfl) (by kernel_rfl) (q := (((v != 0) = true -> ((decide ((bif decide (0 - v > v) then 0 - v else v) > Int.tdiv 1099511627776 (bif decide (0 - x > x) then 0 - x else x))) = true -> False) /\ ((decide ((bif decide (0 - v > v) then 0 - v else v) > Int.tdiv 1099511627776 (bif decide (0 - x > x) then 0 - x else x))) = false -> (y = v * x) /\ rp (en (v)) 1 (rp (en (x)) 1 qt))) /\ ((v != 0) = false -> (y = v * x) /\ rp (en (v)) 1 (rp (en (x)) 1 qt)))) (by
 have hm := qQ x x0 x1
 have hb := gK v x 516560652 h0 h1 x0 x1
 rw [← e] at hb
 rw [yH v h0]
 refine ⟨fun _ => ⟨fun hc => ?_, fun _ => ⟨e, bC rfl _ (bC rfl _ rfl)⟩⟩, fun _ => ⟨e, bC rfl _ (bC rfl _ rfl)⟩⟩
 have hc := of_decide_eq_true hc
 omega) (by kernel_rfl)
theorem VD (v : Int) (k : Nat -> Int) (H : Hy v k) : 0 <= vvS v k 0 /\ vvS v k 0 <= 99 := ⟨H.1, H.2.1⟩
theorem R5 (v : Int) (k : Nat -> Int) (H : Hy v k) : 0 <= vvS v k 1 /\ vvS v k 1 <= 972 := by
 have hb := VD v k H
 have hk := H.2.2 0
 have hm := gK _ _ 99 hb.1 hb.2 hk.1 hk.2
 rw [jR]
 split <;> omega
theorem R6 (v : Int) (k : Nat -> Int) (H : Hy v k) : 0 <= vvS v k 2 /\ vvS v k 2 <= 8748 := by
 have hb := R5 v k H
 have hk := H.2.2 1
 have hm := gK _ _ 972 hb.1 hb.2 hk.1 hk.2
 rw [jR]
 split <;> omega
theorem R7 (v : Int) (k : Nat -> Int) (H : Hy v k) : 0 <= vvS v k 3 /\ vvS v k 3 <= 78732 := by
 have hb := R6 v k H
 have hk := H.2.2 2
 have hm := gK _ _ 8748 hb.1 hb.2 hk.1 hk.2
 rw [jR]
 split <;> omega
theorem R8 (v : Int) (k : Nat -> Int) (H : Hy v k) : 0 <= vvS v k 4 /\ vvS v k 4 <= 708588 := by
 have hb := R7 v k H
 have hk := H.2.2 3
 have hm := gK _ _ 78732 hb.1 hb.2 hk.1 hk.2
 rw [jR]
 split <;> omega
theorem R9 (v : Int) (k : Nat -> Int) (H : Hy v k) : 0 <= vvS v k 5 /\ vvS v k 5 <= 6377292 := by
 have hb := R8 v k H
 have hk := H.2.2 4
 have hm := gK _ _ 708588 hb.1 hb.2 hk.1 hk.2
 rw [jR]
 split <;> omega
theorem Sb (v : Int) (k : Nat -> Int) (H : Hy v k) : 0 <= vvS v k 6 /\ vvS v k 6 <= 57395628 := by
 have hb := R9 v k H
 have hk := H.2.2 5
 have hm := gK _ _ 6377292 hb.1 hb.2 hk.1 hk.2
 rw [jR]
 split <;> omega
theorem Sc (v : Int) (k : Nat -> Int) (H : Hy v k) : 0 <= vvS v k 7 /\ vvS v k 7 <= 516560652 := by
 have hb := Sb v k H
 have hk := H.2.2 6
 have hm := gK _ _ 57395628 hb.1 hb.2 hk.1 hk.2
 rw [jR]
 split <;> omega
theorem ZX (v : Int) (k : Nat -> Int) (H : Hy v k) : 0 <= vvS v k 8 /\ vvS v k 8 <= 4649045868 := by
 have hb := Sc v k H
 have hk := H.2.2 7
 have hm := gK _ _ 516560652 hb.1 hb.2 hk.1 hk.2
 rw [jR]
 split <;> omega
theorem abb (v : Int) (k : Nat -> Int) (H : Hy v k) : eB prog 203 (prE 0 v k) := by
 have hb := VD v k H
 have hk := H.2.2 0
 by_cases h : k 0 % 2 = 0
 · have e : vvS v k 1 = vvS v k 0 * k 0 := by rw [jR, if_pos h]
   have := acU _ _ _ hb.1 hb.2 hk.1 hk.2 e
   unfold prE
   rw [Ir h]
   exact dV (by kernel_rfl) (by kernel_rfl) this
 · have e : vvS v k 1 = vvS v k 0 + k 0 := by rw [jR, if_neg h]
   have := acL _ _ _ hb.1 hb.2 hk.1 hk.2 e
   unfold prE
   rw [Iq h]
   exact dV (by kernel_rfl) (by kernel_rfl) this
theorem abd (v : Int) (k : Nat -> Int) (H : Hy v k) : eB prog 203 (prE 1 v k) := by
 have hb := R5 v k H
 have hk := H.2.2 1
 by_cases h : k 1 % 2 = 0
 · have e : vvS v k 2 = vvS v k 1 * k 1 := by rw [jR, if_pos h]
   have := acV _ _ _ hb.1 hb.2 hk.1 hk.2 e
   unfold prE
   rw [Ir h]
   exact dV (by kernel_rfl) (by kernel_rfl) this
 · have e : vvS v k 2 = vvS v k 1 + k 1 := by rw [jR, if_neg h]
   have := acM _ _ _ hb.1 hb.2 hk.1 hk.2 e
   unfold prE
   rw [Iq h]
   exact dV (by kernel_rfl) (by kernel_rfl) this
theorem abe (v : Int) (k : Nat -> Int) (H : Hy v k) : eB prog 203 (prE 2 v k) := by
 have hb := R6 v k H
 have hk := H.2.2 2
 by_cases h : k 2 % 2 = 0
 · have e : vvS v k 3 = vvS v k 2 * k 2 := by rw [jR, if_pos h]
   have := acW _ _ _ hb.1 hb.2 hk.1 hk.2 e
   unfold prE
   rw [Ir h]
   exact dV (by kernel_rfl) (by kernel_rfl) this
 · have e : vvS v k 3 = vvS v k 2 + k 2 := by rw [jR, if_neg h]
   have := acN _ _ _ hb.1 hb.2 hk.1 hk.2 e
   unfold prE
   rw [Iq h]
   exact dV (by kernel_rfl) (by kernel_rfl) this
theorem abf (v : Int) (k : Nat -> Int) (H : Hy v k) : eB prog 203 (prE 3 v k) := by
 have hb := R7 v k H
 have hk := H.2.2 3
 by_cases h : k 3 % 2 = 0
 · have e : vvS v k 4 = vvS v k 3 * k 3 := by rw [jR, if_pos h]
   have := acX _ _ _ hb.1 hb.2 hk.1 hk.2 e
   unfold prE
   rw [Ir h]
   exact dV (by kernel_rfl) (by kernel_rfl) this
 · have e : vvS v k 4 = vvS v k 3 + k 3 := by rw [jR, if_neg h]
   have := acP _ _ _ hb.1 hb.2 hk.1 hk.2 e
   unfold prE
   rw [Iq h]
   exact dV (by kernel_rfl) (by kernel_rfl) this
theorem abg (v : Int) (k : Nat -> Int) (H : Hy v k) : eB prog 203 (prE 4 v k) := by
 have hb := R8 v k H
 have hk := H.2.2 4
 by_cases h : k 4 % 2 = 0
 · have e : vvS v k 5 = vvS v k 4 * k 4 := by rw [jR, if_pos h]
   have := acY _ _ _ hb.1 hb.2 hk.1 hk.2 e
   unfold prE
   rw [Ir h]
   exact dV (by kernel_rfl) (by kernel_rfl) this
 · have e : vvS v k 5 = vvS v k 4 + k 4 := by rw [jR, if_neg h]
   have := acQ _ _ _ hb.1 hb.2 hk.1 hk.2 e
   unfold prE
   rw [Iq h]
   exact dV (by kernel_rfl) (by kernel_rfl) this
theorem abh (v : Int) (k : Nat -> Int) (H : Hy v k) : eB prog 203 (prE 5 v k) := by
 have hb := R9 v k H
 have hk := H.2.2 5
 by_cases h : k 5 % 2 = 0
 · have e : vvS v k 6 = vvS v k 5 * k 5 := by rw [jR, if_pos h]
   have := acZ _ _ _ hb.1 hb.2 hk.1 hk.2 e
   unfold prE
   rw [Ir h]
   exact dV (by kernel_rfl) (by kernel_rfl) this
 · have e : vvS v k 6 = vvS v k 5 + k 5 := by rw [jR, if_neg h]
   have := acR _ _ _ hb.1 hb.2 hk.1 hk.2 e
   unfold prE
   rw [Iq h]
   exact dV (by kernel_rfl) (by kernel_rfl) this
theorem abj (v : Int) (k : Nat -> Int) (H : Hy v k) : eB prog 203 (prE 6 v k) := by
 have hb := Sb v k H
 have hk := H.2.2 6
 by_cases h : k 6 % 2 = 0
 · have e : vvS v k 7 = vvS v k 6 * k 6 := by rw [jR, if_pos h]
   have := ac0 _ _ _ hb.1 hb.2 hk.1 hk.2 e
   unfold prE
   rw [Ir h]
   exact dV (by kernel_rfl) (by kernel_rfl) this
 · have e : vvS v k 7 = vvS v k 6 + k 6 := by rw [jR, if_neg h]
   have := acS _ _ _ hb.1 hb.2 hk.1 hk.2 e
   unfold prE
   rw [Iq h]
   exact dV (by kernel_rfl) (by kernel_rfl) this
theorem abk (v : Int) (k : Nat -> Int) (H : Hy v k) : eB prog 203 (prE 7 v k) := by
 have hb := Sc v k H
 have hk := H.2.2 7
 by_cases h : k 7 % 2 = 0
 · have e : vvS v k 8 = vvS v k 7 * k 7 := by rw [jR, if_pos h]
   have := ac1 _ _ _ hb.1 hb.2 hk.1 hk.2 e
   unfold prE
   rw [Ir h]
   exact dV (by kernel_rfl) (by kernel_rfl) this
 · have e : vvS v k 8 = vvS v k 7 + k 7 := by rw [jR, if_neg h]
   have := acT _ _ _ hb.1 hb.2 hk.1 hk.2 e
   unfold prE
   rw [Iq h]
   exact dV (by kernel_rfl) (by kernel_rfl) this
end Gv.UC
set_option linter.unusedSimpArgs false
set_option linter.unusedVariables false
set_option maxRecDepth 100000
open Rx Go Gv Rd
namespace Gv.UC
noncomputable section
def O (n : Nat) : SV := C (Int.ofNat n)
def tick : List SV := [C 1, I 0, I 0, S s0, S s0, I 0, I 0, S s0]
def ret : List SV := [C 14, I 0, I 0, S s0, S s0, I 0, I 0, S s0]
def c0 (v : Int) : Ob := vc 206 8 5 (tick ++ (tick ++ ([C 2, I 0, I 0, S s0, S s0, C 1, .ri .i64 0 99 v, S s0, C 19, C 1, I 0, S zp, S s0, I 0, I 0, S s0] ++ ret))) false
def c1 : Ob := vc 206 8 5 (tick ++ (tick ++ ([C 9, I 0, I 0, S zx, S s0, I 0, I 0, S s0, C 21, I 0, I 0, S zp, S za, I 0, I 0, S s0] ++ ret))) false
def cu (o kk : SV) : Ob := vc 206 8 7 (tick ++ (tick ++ ([C 3, C 0, I 0, S s0, S s0, I 0, I 0, S s0] ++ (tick ++ ([C 2, I 0, I 0, S s0, S s0, C 1, kk, S s0, C 18, C 2, I 0, o, S s0, I 0, I 0, S s0] ++ ret))))) false
def Sy : Ob := vc 206 8 6 (tick ++ (tick ++ ([C 9, I 0, I 0, S zs, S s0, I 0, I 0, S s0] ++ (tick ++ [C 2, I 0, I 0, S s0, S s0, C 1, C 0, S s0, C 13, C 1, I 0, S s0, S s0, I 0, I 0, S s0])))) false
def fns (m : Nat) : Ob := nz (vc 119 4 3 [I 0, I 0, I 0, V 10 8 0 5, I 1, I 1, I 0, V 11 8 0 5, I 0, I 0, I 0, V 12 8 0 5] false) (fun m => vc 119 4 (Nat.add 2 m) ([I 0, I 0, I 0, V 10 8 0 5, I 1, I 1, I 0, V 11 8 0 5] ++ upL (fun t => [I 1, I 1, I 0, V (Nat.add 12 t) 8 0 7]) m) false) m
def wf (m : Nat) : SV := nz (.sl 1 4 0 2 (some 2)) (fun m => V 1 4 0 (Nat.add 2 m)) m
def glP : Ob := vc 122 4 2 [S zx, C 5, C 2, S s0, S zs, C 5, C 0, S s0] false
def glC : Ob := vc 122 4 2 [S zx, C 5, I 0, S s0, S zs, C 5, I 4, S s0] false
def glJ : Ob := vc 122 4 2 [S zx, J, J, J, S zs, J, J, J] false
def mvl (m : Nat) : SV := nz aY (fun m => V 6 1 0 m) m
def rcs (m : Nat) : Ob := vc 209 3 1 [S zp, V 5 2 0 (Nat.succ m), mvl m] false
def rcJ : Ob := vc 209 3 1 [S zp, J, J] false
def hP (v : Int) : Ob := vc 114 3 6 [C 8, C 1, S s0, C 1, I 0, S s0, C 9, C 0, S s0, C 1, C 0, S s0, C 1, C 1, S s0, C 1, .ri .i64 0 99 v, S s0] false
def hC (v : Int) : Ob := vc 114 3 6 [C 9, C 0, S s0, C 1, C 0, S s0, C 1, C 1, S s0, C 1, .ri .i64 0 99 v, S s0, C 8, C 1, S s0, C 1, I 0, S s0] false
def rl (i : Nat) (v : Int) (k : Nat -> Int) : List SV := [C 9, C 0, S s0, C 1, O i, S s0, C 1, C 1, S s0, C 1, nv v k i, S s0]
def mvd (a : Nat) : List SV := [C 10, O a, S s0, C 1, I 0, S s0, C 1, C 1, S s0, C 3, I 0, S s0]
def thg (mv : Nat) (v : Int) (k : Nat -> Int) (t : Nat) : List SV := @Bool.rec (fun _ => List SV) (rl t v k) (mvd (Nat.add 6 (Nat.mul 4 t))) (Nat.blt t mv)
def clo : List SV := [C 8, C 1, S s0, C 1, I 0, S s0]
def wN (n : Nat) : Nat := Nat.add 6 (Nat.mul 4 n)
def hM (b : Bool) (n mv : Nat) (v : Int) (k : Nat -> Int) : Ob := vc 114 3 (wN n) (@Bool.rec (fun _ => List SV) (thg mv v k 0 ++ clo) (clo ++ thg mv v k 0) b ++ upL (fun t => thg mv v k (Nat.succ t)) n) false
def mpM (b : Bool) (n : Nat) : Ob := .mp (.int .i64) .bool ((0, true) :: (@Bool.rec (fun _ => Int) 4 2 b, true) :: upL (fun t => [(Int.ofNat (Nat.add 6 (Nat.mul 4 t)), true)]) n)
def WH (m : Nat) (v : Int) (k : Nat -> Int) (h g : Ob) : Hp :=
 (1, fns m) :: (2, g) :: (3, rcs m) :: (4, h) :: (5, vc 211 2 (Nat.succ m) (upL (fun t => [S zp, V (Nat.add 40 t) 1 0 1]) (Nat.succ m)) false) :: (6, vc 39 1 m (upL (fun t => [V (Nat.add 70 t) 1 0 1]) m) false) :: (10, c0 v) :: (11, c1) ::
    (nz [(12, c0 v)] (fun m => upL (fun t => [(Nat.add 12 t, cu (.sy (opT (k t))) (nk (k t)))]) m) m ++ (upL (fun t => [(Nat.add 40 t, vc 9 1 1 [S za] false)]) (Nat.succ m) ++ upL (fun t => [(Nat.add 70 t, vc 3 1 1 [I (Int.ofNat (Nat.add 2 t))] false)]) m))
def WJ (l : Hp) : Hp := (2, glJ) :: (3, rcJ) :: l
def wl (m : Nat) : SV := .agg [wf m, V 2 4 0 2, V 3 3 0 1, V 4 3 0 6, C 1000]
def wlJ : SV := .agg [J, V 2 4 0 2, V 3 3 0 1, J, J]
def stN : TE := mkE [aY] [] (.tup [.nm 1, .kb true]) [(1, .mp (.int .i64) .bool [])]
def hcN : TE := mkE [.agg [aY, C 50]] [] (I 0) []
def ucE : TE := mkE [.agg [V 1 1 0 2, V 2 2 0 1]] [(1, vc 9 1 2 [S zx, S zs] false), (2, vc 211 2 1 [S zp, aY] false)] (I 0) []
def stP (v : Int) : TE := mkE [V 4 3 0 6] [(4, hP v)] (.tup [.nm 1, .kb true]) [(1, .mp (.int .i64) .bool [((0 : Int), true), ((2 : Int), true)])]
def hcP (v : Int) : TE := mkE [.agg [V 4 3 0 6, C 1000]] [(4, hP v)] (I 0) []
def stC (v : Int) : TE := mkE [V 4 3 0 6] [(4, hC v)] (.tup [.nm 1, .kb true]) [(1, .mp (.int .i64) .bool [((0 : Int), true), ((4 : Int), true)])]
def hcC (v : Int) : TE := mkE [.agg [V 4 3 0 6, C 1000]] [(4, hC v)] (I 0) []
def stM (b : Bool) (n mv : Nat) (v : Int) (k : Nat -> Int) : TE := mkE [V 4 3 0 (wN n)] [(4, hM b n mv v k)] (.tup [.nm 1, .kb true]) [(1, mpM b n)]
def hcM (b : Bool) (n mv : Nat) (v : Int) (k : Nat -> Int) : TE := mkE [.agg [V 4 3 0 (wN n), C 1000]] [(4, hM b n mv v k)] (I 0) []
def dxs (o : ByteArray) (x : Int) : List Dx := [ls [sy ⟨#[114, 101, 99, 111, 114, 100]⟩, sy zp, sy za], ls [sy ⟨#[117, 112, 103, 114, 97, 100, 101]⟩, sy zp, ls [sy o, ls [sy ⟨#[119, 97, 115]⟩, sy za], nu 1 9 x]]]
def aci : Hp := [(1, vc 9 1 2 [S zx, S zs] false), (2, vc 211 2 1 [S zp, V 3 1 0 1] false), (3, vc 9 1 1 [S za] false)]
def ucF : TE := mkE [.agg [V 1 1 0 2, V 2 2 0 1]] aci (I 0) []
def unH (o : SV) (x : Int) : Hp := [(101, vc 211 2 1 [S zp, V 103 1 0 1] false), (102, vc 242 2 1 [S zp, V 104 9 0 1] false), (103, vc 9 1 1 [S za] false), (104, vc 108 9 1 [C 10, I 0, I 0, S s0, aY, o, I 0, aY, V 105 9 0 2] false), (105, vc 108 9 2 [C 15, I 0, I 0, S s0, aY, S s0, C 0, aY, aY, C 1, C 1, .dt (.ri .i64 1 9 x), S s0, D (.arr 4 0 (dxL [])), S s0, I 0, aY, aY] false)]
def foE (o : ByteArray) (x : Int) : TE := mkE [D (.arr 4 2 (dxL (dxs o x))), .agg [V 1 1 0 2, V 2 2 0 1]] aci (.tup [.agg [V 101 2 0 1, aY, V 102 2 0 1], I 0, I 0]) (unH (S o) x)
def cf0 (v : Int) : TE := mkE [wlJ, .agg [I 0, I 0, I 0, V 10 8 0 5]] (WJ [(10, c0 v)]) (.kb true) []
def cf1 : TE := mkE [wlJ, .agg [I 1, I 1, I 0, V 11 8 0 5]] (WJ [(11, c1)]) (.kb true) []
def cfR : TE := mkE [wlJ, .agg [I 0, I 0, I 0, V 9 8 0 6]] (WJ [(9, Sy)]) (.kb true) []
def cfU (o : SV) (x : Int) : TE := mkE [wlJ, .agg [I 1, I 1, I 0, V 12 8 0 7]] (WJ [(12, cu o (nk x))]) (.kb true) []
def rcE (m : Nat) (v : Int) (k : Nat -> Int) : TE := mkE [.agg [wf m, J, V 3 3 0 1, J, J], .agg [S zp, V 5 2 0 (Nat.succ m), mvl m]] (WH m v k (hP v) glP) (.kb true) []
def vcP (m : Nat) (v : Int) (k : Nat -> Int) : TE := mkE [wl m] (WH m v k (hP v) glP) (I 0) []
def vcC (m : Nat) (v : Int) (k : Nat -> Int) : TE := mkE [wl m] (WH m v k (hC v) glC) (I 0) []
def Lc (m : Nat) (v : Int) (k : Nat -> Int) : TE := mkE [wl m, .agg [C 5, C 0, S s0]] (WH m v k (hC v) glC) (.tup [.agg [V 91 4 0 (Nat.add 2 m), V 92 4 0 2, V 93 3 0 1, V 94 3 0 (wN m), C 1000], .agg [C 5, I (Int.ofNat (Nat.sub (wN m) 4)), S s0], I 0]) []
def sh (i : Nat) : Nat := @Bool.rec (fun _ => Nat) (Nat.add i 1000) i (Nat.beq i 9)
def shH (l : Hp) : Hp := @List.rec (Nat × Ob) (fun _ => Hp) [] (fun x _ ih => (sh x.1, rnO sh x.2) :: ih) l
def grE (m : Nat) (o : ByteArray) (v : Int) (k : Nat -> Int) : TE := mkE [wl m, .agg [V 101 2 0 1, aY, V 102 2 0 1]] (WH m v k (hP v) glP ++ unH (S o) (k m)) (.tup [rnS sh (wl (Nat.succ m)), I 0]) (shH (WH (Nat.succ m) v k (hP v) glP))
def C8 (o : ByteArray) (x : Int) : ByteArray := ((((ByteArray.mk (#[40, 114, 101, 99, 111, 114, 100, 32, 112, 32, 97, 41, 32, 40, 117, 112, 103, 114, 97, 100, 101, 32, 112, 32, 40])) ++ o) ++ (ByteArray.mk (#[32, 40, 119, 97, 115, 32, 97, 41, 32]))) ++ aL x) ++ (ByteArray.mk (#[41, 41]))
def upE (m : Nat) (o : ByteArray) (v : Int) (k : Nat -> Int) : TE := mkE [wl m, .sy (C8 o (k m))] (WH m v k (hP v) glP) (.tup [rnS sh (wl (Nat.succ m)), I 0]) (shH (WH (Nat.succ m) v k (hP v) glP))
def fnR (m : Nat) : List SV := [I 0, I 0, I 0, V 10 8 0 5, I 1, I 1, I 0, V 11 8 0 5] ++ upL (fun t => [I 1, I 1, I 0, V (Nat.add 12 t) 8 0 7]) m
def WR (f : Ob) (m : Nat) (v : Int) (k : Nat -> Int) : Hp :=
 (1, f) :: (2, glP) :: (3, rcs m) :: (4, hM true m m v k) :: (5, vc 211 2 (Nat.succ m) (upL (fun t => [S zp, V (Nat.add 40 t) 1 0 1]) (Nat.succ m)) false) :: (6, vc 39 1 m (upL (fun t => [V (Nat.add 70 t) 1 0 1]) m) false) :: (10, c0 v) :: (11, c1) ::
    (upL (fun t => [(Nat.add 12 t, cu (.sy (opT (k t))) (nk (k t)))]) m ++ (upL (fun t => [(Nat.add 40 t, vc 9 1 1 [S za] false)]) (Nat.succ m) ++ upL (fun t => [(Nat.add 70 t, vc 3 1 1 [I (Int.ofNat (Nat.add 2 t))] false)]) m))
def WK (m : Nat) (v : Int) (k : Nat -> Int) : Hp := WR (vc 119 4 (Nat.add 3 m) (fnR m ++ [I 0, I 0, I 0, V 9 8 0 6]) false) m v k
def WQ (m : Nat) (v : Int) (k : Nat -> Int) : Hp := WR (vc 119 4 (Nat.add 2 m) (fnR m) false) m v k
def wlX (f : SV) (m : Nat) : SV := .agg [f, V 2 4 0 2, V 3 3 0 1, V 4 3 0 (wN m), C 1000]
def wK (m : Nat) : SV := .sl 1 4 0 (Nat.add 2 m) (some (Nat.add 2 m))
def wlK (m : Nat) : SV := wlX (wK m) m
def wlQ (m : Nat) : SV := wlX (V 1 4 0 (Nat.add 2 m)) m
def val (m : Nat) (v : Int) (k : Nat -> Int) : SV := .agg [C 1, nv v k m, S s0]
def rqF : SV := .agg [I 0, I 0, I 0, V 9 8 0 6]
def rcK (m : Nat) (v : Int) (k : Nat -> Int) : TE := mkE [.agg [wK m, J, V 3 3 0 1, J, J], .agg [S zp, V 5 2 0 (Nat.succ m), mvl m]] (WK m v k) (.kb true) []
def rcQ (m : Nat) (v : Int) (k : Nat -> Int) : TE := mkE [.agg [V 1 4 0 (Nat.add 2 m), J, V 3 3 0 1, J, J], .agg [S zp, V 5 2 0 (Nat.succ m), mvl m]] (WQ m v k) (.kb true) []
def vcK (m : Nat) (v : Int) (k : Nat -> Int) : TE := mkE [wlK m] ((9, Sy) :: WK m v k) (I 0) []
def vcQ (m : Nat) (v : Int) (k : Nat -> Int) : TE := mkE [wlQ m] (WQ m v k) (I 0) []
def ruE (m : Nat) (v : Int) (k : Nat -> Int) : TE := mkE [wl m, rqF, I 5000] ((9, Sy) :: WH m v k (hP v) glP) (.tup [rnS sh (wlK m), val m v k, I 0]) (shH (WK m v k))
def ru2 (m : Nat) (v : Int) (k : Nat -> Int) : TE := mkE [wlQ m, rqF, I 5000] ((9, Sy) :: WQ m v k) (.tup [rnS sh (wlK m), val m v k, I 0]) (shH (WK m v k))
def txt (m : Nat) (v : Int) (k : Nat -> Int) : SV := .sy (aL (vvS v k m))
def shE (m : Nat) (v : Int) (k : Nat -> Int) : TE := mkE [wlK m, val m v k] ((9, Sy) :: WK m v k) (.tup [rnS sh (wlQ m), txt m v k, I 0]) (shH (WQ m v k))
def act : SV := .agg [C 2, S s0, S zs, V 7 4 0 1, C 5000]
def ab0 : Nat × Ob := (7, vc 25 4 1 [C 1, C 0, S s0, aY] true)
def rq1 (m : Nat) (v : Int) (k : Nat -> Int) : TE := mkE [wl m, act] (ab0 :: WH m v k (hP v) glP) (.tup [rnS sh (wlQ m), txt m v k, I 0]) (shH (WQ m v k))
def rq2 (m : Nat) (v : Int) (k : Nat -> Int) : TE := mkE [wlQ m, act] (ab0 :: WQ m v k) (.tup [rnS sh (wlQ m), txt m v k, I 0]) (shH (WQ m v k))
def en2 (m : Nat) (v : Int) (k : Nat -> Int) : TE := mkE [wlQ m] (WQ m v k) (.tup [.agg [V 90 1 0 2, V 91 2 0 1], I 0]) [(90, vc 9 1 2 [S zx, S zs] false), (91, vc 211 2 1 [S zp, V 92 1 0 1] false), (92, vc 9 1 1 [S za] false)]
def enE (m : Nat) (v : Int) (k : Nat -> Int) : TE := mkE [wl m] (WH m v k (hP v) glP) (.tup [.agg [V 90 1 0 2, V 91 2 0 1], I 0]) [(90, vc 9 1 2 [S zx, S zs] false), (91, vc 211 2 1 [S zp, V 92 1 0 1] false), (92, vc 9 1 1 [S za] false)]
end
theorem KI (x : Int) (h0 : 1 <= x) (h1 : x <= 9) : (C8 plus x).size <= 3000 /\ qX 400 (C8 plus x) = some { l := nV (dxs plus x), i := 0, e := 0 } /\ lV (dxs plus x) := by
 rcases (by omega : x = 1 ∨ x = 2 ∨ x = 3 ∨ x = 4 ∨ x = 5 ∨ x = 6 ∨ x = 7 ∨ x = 8 ∨ x = 9) with rfl | rfl | rfl | rfl | rfl | rfl | rfl | rfl | rfl <;> exact ⟨by decide +kernel, by kernel_rfl, by simp [dxs, lV, Dx.fits, ls, sy, num, nu]⟩
theorem KJ (x : Int) (h0 : 1 <= x) (h1 : x <= 9) : (C8 star x).size <= 3000 /\ qX 400 (C8 star x) = some { l := nV (dxs star x), i := 0, e := 0 } /\ lV (dxs star x) := by
 rcases (by omega : x = 1 ∨ x = 2 ∨ x = 3 ∨ x = 4 ∨ x = 5 ∨ x = 6 ∨ x = 7 ∨ x = 8 ∨ x = 9) with rfl | rfl | rfl | rfl | rfl | rfl | rfl | rfl | rfl <;> exact ⟨by decide +kernel, by kernel_rfl, by simp [dxs, lV, Dx.fits, ls, sy, num, nu]⟩
theorem SG : ∀ (i u : Nat), u < 10 ^ (i + 1) -> 0 < (Lib.decDigits u).length /\ (Lib.decDigits u).length <= i + 1
 | i, u, h => by
   rw [Lib.decDigits]
   split
   · exact ⟨Nat.one_pos, by simp⟩
   · rename_i hu
     cases i with
     | zero => omega
     | succ i =>
       have := SG i (u / 10) (by rw [Nat.pow_succ] at h; omega)
       rw [List.length_append]
       exact ⟨by simp, by simp only [List.length_cons, List.length_nil]; omega⟩
theorem Mh {x : Int} (h0 : 0 <= x) (h1 : x < 10000000000) : 0 < (aL x).size /\ (aL x).size <= 10 := by
 have h := SG 9 x.toNat (by omega)
 rw [show (aL x).size = (Lib.itoa x).length from by show (Lib.itoa x).toArray.size = _; simp]
 unfold Lib.itoa
 rw [if_neg (by omega)]
 exact h
def shA (x : Int) : Prop := 0 + (aL x).size <= 100000
def shB (x : Int) : Prop := LJ (0 + (aL x).size) (fK 0 row0 (DW (aL x)))
def shC (x : Int) : Prop := aL x = ByteArray.mk (pF (0 + (aL x).size) (fK 0 row0 (DW (aL x)))).toArray
theorem IX {x : Int} (h0 : 0 <= x) (h1 : x < 10000000000) : shA x /\ shB x /\ shC x := by
 have h := Mh h0 h1
 have hb := Z0 VI (aL x)
 exact ⟨by unfold shA; omega, PZ hb (by omega) (by omega), abO hb (by simp)⟩
noncomputable def cjv (A B C : Prop) (v : Int) (k : Nat -> Int) (c : Nat) : Prop := @Bool.rec (fun _ => Prop) (@Bool.rec (fun _ => Prop) (@Bool.rec (fun _ => Prop) (vvS v k (Nat.sub c 30) = vvS v k (Nat.sub c 30)) (k (Nat.sub c 20) = k (Nat.sub c 20)) (Nat.blt c 30)) (opT (k (Nat.sub c 10)) = opT (k (Nat.sub c 10))) (Nat.blt c 20)) (@Nat.rec (fun _ => Prop) (v = v) (fun c _ => @Nat.rec (fun _ => Prop) A (fun c _ => @Nat.rec (fun _ => Prop) B (fun c _ => @Nat.rec (fun _ => Prop) C (fun _ _ => ((dxL [] : Nat -> Nat -> Dt) = dxL [])) c) c) c) c) (Nat.blt c 10)
noncomputable def cj (A B C : Prop) (v : Int) (k : Nat -> Int) (l : List Nat) : Prop := @List.rec Nat (fun _ => Prop) qt (fun c _ ih => cjv A B C v k c /\ ih) l
theorem LM {A B C : Prop} (hA : A) (hB : B) (hC : C) (v : Int) (k : Nat -> Int) : ∀ l, cj A B C v k l
 | [] => rfl
 | c :: l => ⟨by
     unfold cjv
     cases Nat.blt c 30 <;> cases Nat.blt c 20 <;> cases Nat.blt c 10 <;> first | exact rfl | skip
     all_goals (rcases c with _ | _ | _ | _ | c <;> first | exact rfl | exact hA | exact hB | exact hC), LM hA hB hC v k l⟩
theorem tq {ml : XL} {f : FuncId} {e : TE} (v : Int) (k : Nat -> Int) (hm : MOk ml) (l : List Nat) (hok : e.ok = true := by kernel_rfl) (hb : Nat.ble e.m 16000000 = true := by kernel_rfl) (h : cj True True True v k l = (zm [] ml [] f e).holds fun y => y.1 = .kb true := by kernel_rfl) : aj prog f e := jQ [] hm aA hok hb (LM trivial trivial trivial v k l) h
theorem tqt {ml : XL} {tl : TL} {f : FuncId} {e : TE} (v : Int) (k : Nat -> Int) (hm : MOk ml) (ht : TOk tl) (l : List Nat) (hok : e.ok = true := by kernel_rfl) (hb : Nat.ble e.m 16000000 = true := by kernel_rfl) (h : cj True True True v k l = (zm [] ml tl f e).holds fun y => y.1 = .kb true := by kernel_rfl) : aj prog f e := jQ [] hm ht hok hb (LM trivial trivial trivial v k l) h
theorem tqh {ml : XL} {f : FuncId} {e : TE} {A : Prop} (hA : A) (v : Int) (k : Nat -> Int) (hm : MOk ml) (l : List Nat) (hok : e.ok = true := by kernel_rfl) (hb : Nat.ble e.m 16000000 = true := by kernel_rfl) (h : cj A True True v k l = (zm [] ml [] f e).holds fun y => y.1 = .kb true := by kernel_rfl) : aj prog f e := jQ [] hm aA hok hb (LM hA trivial trivial v k l) h
theorem tqr {ml : XL} {f : FuncId} {e : TE} {A : Prop} (hA : A) (nb : Nat) {d : List Dx} {s : ByteArray} (hB : s.size <= 3000 /\ qX 400 s = some { l := nV d, i := 0, e := 0 } /\ lV d) (v : Int) (k : Nat -> Int) (hm : MOk ml) (l : List Nat) (hok : e.ok = true := by kernel_rfl) (hb : Nat.ble e.m 16000000 = true := by kernel_rfl) (h : cj A (s.size <= 3000 /\ qX 400 s = some { l := nV d, i := 0, e := 0 } /\ lV d) (dxL d = dxL d) v k l = (zm [(nb, d)] ml [] f e).holds fun y => y.1 = .kb true := by kernel_rfl) : aj prog f e := jQ [(nb, d)] hm aA hok hb (LM hA hB rfl v k l) h
theorem tqs {ml : XL} {f : FuncId} {e : TE} {x : Int} (hx : shA x /\ shB x /\ shC x) (v : Int) (k : Nat -> Int) (hm : MOk ml) (l : List Nat) (hok : e.ok = true := by kernel_rfl) (hb : Nat.ble e.m 16000000 = true := by kernel_rfl) (h : cj (shA x) (shB x) (shC x) v k l = (zm [] ml [] f e).holds fun y => y.1 = .kb true := by kernel_rfl) : aj prog f e := jQ [] hm aA hok hb (LM hx.1 hx.2.1 hx.2.2 v k l) h
theorem tqm {f : FuncId} {e : TE} (b : Bool) (n : Nat) (hok : e.ok = true := by kernel_rfl) (hb : Nat.ble e.m 16000000 = true := by kernel_rfl) (h : rp (en (mpM b n)) 1 qt = (zm [] [] [] f e).holds fun y => y.1 = .kb true := by kernel_rfl) : aj prog f e := jQ [] aC aA hok hb (bC rfl _ rfl) h
theorem tq0 {ml : XL} {f : FuncId} {e : TE} (hm : MOk ml) (hok : e.ok = true := by kernel_rfl) (hb : Nat.ble e.m 16000000 = true := by kernel_rfl) (h : qt = (zm [] ml [] f e).holds fun y => y.1 = .kb true := by kernel_rfl) : aj prog f e := jQ [] hm aA hok hb (show qt from rfl) h
theorem wI (x : Int) : opT x = star ∨ opT x = plus := by unfold opT; split <;> simp
theorem m1 {f : Nat} {e : TE} {xl : XL} (h : aj prog f e) (hl : MOk xl) : MOk ((f, Gf [e]) :: xl) := nA (ta h eX) hl
theorem m0 {f : Nat} {e : TE} (h : aj prog f e) : MOk [(f, Gf [e])] := nA (ta h eX) aC
def wT : List (List Nat) := [[0], [0, 10, 20], [11, 21, 0, 10, 20], [11, 21, 0, 12, 22, 10, 20], [11, 21, 13, 23, 0, 12, 22, 10, 20], [11, 21, 13, 23, 0, 12, 22, 10, 20, 14, 24], [15, 25, 11, 21, 13, 23, 0, 12, 22, 10, 20, 14, 24], [15, 25, 11, 21, 13, 23, 0, 16, 26, 12, 22, 10, 20, 14, 24], [15, 25, 11, 21, 17, 27, 13, 23, 0, 16, 26, 12, 22, 10, 20, 14, 24]]
def W (m : Nat) : List Nat := wT.getD m []
def zz (m : Nat) : Nat := Nat.add 30 m
def Kv (z m : Nat) : List Nat := z :: (W m ++ (0 :: (upL (fun i => [Nat.add 10 i, Nat.add 20 i]) m ++ [z, z, z, z])))
def Ke (z m : Nat) : List Nat := z :: W m
def K2 (m : Nat) : List Nat := zz m :: (W m ++ (zz m :: zz m :: zz m :: W m))
def Ks (m : Nat) : List Nat := zz m :: (W m ++ ([zz m, zz m, zz m, zz m, 1, 2, 3, zz m] ++ W m))
def Kq (z m : Nat) : List Nat := z :: (W m ++ (z :: (W m ++ (zz m :: zz m :: (W m ++ (1 :: zz m :: W m))))))
def cc0 : List Nat := [0, 0, 0, 0, 0, 0, 0, 0]
def cc1 : List Nat := [0, 0, 0, 0, 0, 1, 20, 0, 0, 0, 0, 1, 20, 0, 0, 1, 20]
def cc2 : List Nat := [0, 0, 10, 20, 0, 1, 21, 0, 10, 20, 0, 0, 0, 1, 21, 0, 10, 20, 0, 1, 21, 0, 10, 20]
def cc3 : List Nat := [0, 11, 21, 0, 10, 20, 0, 11, 21, 0, 1, 22, 10, 20, 0, 0, 0, 11, 21, 0, 1, 22, 10, 20, 0, 11, 21, 0, 1, 22, 10, 20]
def cc4 : List Nat := [0, 11, 21, 0, 12, 22, 10, 20, 0, 11, 21, 1, 23, 0, 12, 22, 10, 20, 0, 0, 0, 11, 21, 1, 23, 0, 12, 22, 10, 20, 0, 11, 21, 1, 23, 0, 12, 22, 10, 20]
def cc5 : List Nat := [0, 11, 21, 13, 23, 0, 12, 22, 10, 20, 0, 11, 21, 13, 23, 0, 12, 22, 10, 20, 1, 24, 0, 0, 0, 11, 21, 13, 23, 0, 12, 22, 10, 20, 1, 24, 0, 11, 21, 13, 23, 0, 12, 22, 10, 20, 1, 24]
def cc6 : List Nat := [0, 11, 21, 13, 23, 0, 12, 22, 10, 20, 14, 24, 0, 1, 25, 11, 21, 13, 23, 0, 12, 22, 10, 20, 14, 24, 0, 0, 0, 1, 25, 11, 21, 13, 23, 0, 12, 22, 10, 20, 14, 24, 0, 1, 25, 11, 21, 13, 23, 0, 12, 22, 10, 20, 14, 24]
def cc7 : List Nat := [0, 15, 25, 11, 21, 13, 23, 0, 12, 22, 10, 20, 14, 24, 0, 15, 25, 11, 21, 13, 23, 0, 1, 26, 12, 22, 10, 20, 14, 24, 0, 0, 0, 15, 25, 11, 21, 13, 23, 0, 1, 26, 12, 22, 10, 20, 14, 24, 0, 15, 25, 11, 21, 13, 23, 0, 1, 26, 12, 22, 10, 20, 14, 24]
def cc8 : List Nat := [0, 15, 25, 11, 21, 13, 23, 0, 16, 26, 12, 22, 10, 20, 14, 24, 0, 15, 25, 11, 21, 1, 27, 13, 23, 0, 16, 26, 12, 22, 10, 20, 14, 24, 0, 0, 0, 15, 25, 11, 21, 1, 27, 13, 23, 0, 16, 26, 12, 22, 10, 20, 14, 24, 0, 15, 25, 11, 21, 1, 27, 13, 23, 0, 16, 26, 12, 22, 10, 20, 14, 24]
def cc9 : List Nat := [2, 0, 0, 0, 3, 0, 0, 0, 20, 4, 0, 0, 10, 20]
def ab3 : List Nat := [2, 0, 0, 10, 20, 3, 0, 0, 10, 20, 21, 4, 0, 11, 21, 0, 10, 20]
def ab4 : List Nat := [2, 0, 11, 21, 0, 10, 20, 3, 0, 11, 21, 0, 10, 20, 22, 4, 0, 11, 21, 0, 12, 22, 10, 20]
def ab5 : List Nat := [2, 0, 11, 21, 0, 12, 22, 10, 20, 3, 0, 11, 21, 0, 12, 22, 10, 20, 23, 4, 0, 11, 21, 13, 23, 0, 12, 22, 10, 20]
def ab6 : List Nat := [2, 0, 11, 21, 13, 23, 0, 12, 22, 10, 20, 3, 0, 11, 21, 13, 23, 0, 12, 22, 10, 20, 24, 4, 0, 11, 21, 13, 23, 0, 12, 22, 10, 20, 14, 24]
def ab7 : List Nat := [2, 0, 11, 21, 13, 23, 0, 12, 22, 10, 20, 14, 24, 3, 0, 11, 21, 13, 23, 0, 12, 22, 10, 20, 14, 24, 25, 4, 0, 15, 25, 11, 21, 13, 23, 0, 12, 22, 10, 20, 14, 24]
def ab8 : List Nat := [2, 0, 15, 25, 11, 21, 13, 23, 0, 12, 22, 10, 20, 14, 24, 3, 0, 15, 25, 11, 21, 13, 23, 0, 12, 22, 10, 20, 14, 24, 26, 4, 0, 15, 25, 11, 21, 13, 23, 0, 16, 26, 12, 22, 10, 20, 14, 24]
def ab9 : List Nat := [2, 0, 15, 25, 11, 21, 13, 23, 0, 16, 26, 12, 22, 10, 20, 14, 24, 3, 0, 15, 25, 11, 21, 13, 23, 0, 16, 26, 12, 22, 10, 20, 14, 24, 27, 4, 0, 15, 25, 11, 21, 17, 27, 13, 23, 0, 16, 26, 12, 22, 10, 20, 14, 24]
noncomputable def adQ (v : Int) (k : Nat -> Int) : List (Gd × TE) := [(gWd 6 0 9, stC v), (gWd (wN 1) 0 9, stM false 1 0 v k), (gWd (wN 1) 0 10, stM false 1 1 v k), (gWd (wN 2) 6 9, stM false 2 1 v k), (gWd (wN 2) 6 10, stM false 2 2 v k), (gWd (wN 3) 10 9, stM false 3 2 v k), (gWd (wN 3) 10 10, stM false 3 3 v k), (gWd (wN 4) 14 9, stM false 4 3 v k), (gWd (wN 4) 14 10, stM false 4 4 v k), (gWd (wN 5) 18 9, stM false 5 4 v k), (gWd (wN 5) 18 10, stM false 5 5 v k), (gWd (wN 6) 22 9, stM false 6 5 v k), (gWd (wN 6) 22 10, stM false 6 6 v k), (gWd (wN 7) 26 9, stM false 7 6 v k), (gWd (wN 7) 26 10, stM false 7 7 v k), (gWd (wN 8) 30 9, stM false 8 7 v k), (gWd (wN 8) 30 10, stM false 8 8 v k)]
noncomputable def adR (v : Int) (k : Nat -> Int) : List (Gd × TE) := [(gWd 6 0 8, stP v), (gWd (wN 1) 2 9, stM true 1 0 v k), (gWd (wN 1) 2 10, stM true 1 1 v k), (gWd (wN 2) 6 9, stM true 2 1 v k), (gWd (wN 2) 6 10, stM true 2 2 v k), (gWd (wN 3) 10 9, stM true 3 2 v k), (gWd (wN 3) 10 10, stM true 3 3 v k), (gWd (wN 4) 14 9, stM true 4 3 v k), (gWd (wN 4) 14 10, stM true 4 4 v k), (gWd (wN 5) 18 9, stM true 5 4 v k), (gWd (wN 5) 18 10, stM true 5 5 v k), (gWd (wN 6) 22 9, stM true 6 5 v k), (gWd (wN 6) 22 10, stM true 6 6 v k), (gWd (wN 7) 26 9, stM true 7 6 v k), (gWd (wN 7) 26 10, stM true 7 7 v k), (gWd (wN 8) 30 9, stM true 8 7 v k), (gWd (wN 8) 30 10, stM true 8 8 v k)]
noncomputable def adB (v : Int) (k : Nat -> Int) : List (Gd × TE) := [(gWd 6 0 9, hcC v), (gWd (wN 1) 0 9, hcM false 1 0 v k), (gWd (wN 1) 0 10, hcM false 1 1 v k), (gWd (wN 2) 6 9, hcM false 2 1 v k), (gWd (wN 2) 6 10, hcM false 2 2 v k), (gWd (wN 3) 10 9, hcM false 3 2 v k), (gWd (wN 3) 10 10, hcM false 3 3 v k), (gWd (wN 4) 14 9, hcM false 4 3 v k), (gWd (wN 4) 14 10, hcM false 4 4 v k), (gWd (wN 5) 18 9, hcM false 5 4 v k), (gWd (wN 5) 18 10, hcM false 5 5 v k), (gWd (wN 6) 22 9, hcM false 6 5 v k), (gWd (wN 6) 22 10, hcM false 6 6 v k), (gWd (wN 7) 26 9, hcM false 7 6 v k), (gWd (wN 7) 26 10, hcM false 7 7 v k), (gWd (wN 8) 30 9, hcM false 8 7 v k), (gWd (wN 8) 30 10, hcM false 8 8 v k)]
noncomputable def adC (v : Int) (k : Nat -> Int) : List (Gd × TE) := [(gWd 6 0 8, hcP v), (gWd (wN 1) 2 9, hcM true 1 0 v k), (gWd (wN 1) 2 10, hcM true 1 1 v k), (gWd (wN 2) 6 9, hcM true 2 1 v k), (gWd (wN 2) 6 10, hcM true 2 2 v k), (gWd (wN 3) 10 9, hcM true 3 2 v k), (gWd (wN 3) 10 10, hcM true 3 3 v k), (gWd (wN 4) 14 9, hcM true 4 3 v k), (gWd (wN 4) 14 10, hcM true 4 4 v k), (gWd (wN 5) 18 9, hcM true 5 4 v k), (gWd (wN 5) 18 10, hcM true 5 5 v k), (gWd (wN 6) 22 9, hcM true 6 5 v k), (gWd (wN 6) 22 10, hcM true 6 6 v k), (gWd (wN 7) 26 9, hcM true 7 6 v k), (gWd (wN 7) 26 10, hcM true 7 7 v k), (gWd (wN 8) 30 9, hcM true 8 7 v k), (gWd (wN 8) 30 10, hcM true 8 8 v k)]
noncomputable def prL (v : Int) (k : Nat -> Int) : List (Gd × ME) := [(gBd 99, prE 0 v k), (gBd 972, prE 1 v k), (gBd 8748, prE 2 v k), (gBd 78732, prE 3 v k), (gBd 708588, prE 4 v k), (gBd 6377292, prE 5 v k), (gBd 57395628, prE 6 v k), (gBd 516560652, prE 7 v k)]
end Gv.UC
