/- The run of GraftKeeps. Printed by mkproof.py. -/
import Derived.Test.YtcmnmceodhambaaGreatDoorGvW
set_option linter.unusedSimpArgs false
set_option linter.unusedVariables false
open Rx Go
namespace Gv
open Rd
noncomputable def graftKeepsT (a b : Int) : List (Nat × List Dx) := [(9, [ls [sy ⟨#[100, 101, 102, 105, 110, 101]⟩, sy ⟨#[120]⟩, nu 0 999 a], ls [sy ⟨#[100, 101, 102, 105, 110, 101]⟩, ls [sy ⟨#[102]⟩, sy ⟨#[110]⟩], sy ⟨#[120]⟩]]), (148233, [ls [sy ⟨#[100, 101, 102, 105, 110, 101]⟩, sy ⟨#[120]⟩, nu 0 999 b], ls [sy ⟨#[100, 101, 102, 105, 110, 101]⟩, sy ⟨#[121]⟩, nu 0 999 b], ls [sy ⟨#[100, 101, 102, 105, 110, 101]⟩, ls [sy ⟨#[102]⟩, sy ⟨#[110]⟩], ls [sy ⟨#[99, 111, 110, 115]⟩, sy ⟨#[120]⟩, sy ⟨#[121]⟩]]])]
/-- what the run needs -/
def graftKeepsQ (n m : Int) : Prop :=
  ((((ByteArray.mk (#[40, 100, 101, 102, 105, 110, 101, 32, 120, 32])).size : Nat) : Int) + (((itoaB (pickedS n 1000)).size : Nat) : Int) ≤ 9223372036854775807) ∧
  (((((ByteArray.mk (#[40, 100, 101, 102, 105, 110, 101, 32, 120, 32])) ++ itoaB (pickedS n 1000)).size : Nat) : Int) + (((ByteArray.mk (#[41, 32, 40, 100, 101, 102, 105, 110, 101, 32, 40, 102, 32, 110, 41, 32, 120, 41])).size : Nat) : Int) ≤ 9223372036854775807) ∧
  ((((ByteArray.mk (#[40, 100, 101, 102, 105, 110, 101, 32, 120, 32])).size : Nat) : Int) + (((itoaB (pickedS m 1000)).size : Nat) : Int) ≤ 9223372036854775807) ∧
  (((((ByteArray.mk (#[40, 100, 101, 102, 105, 110, 101, 32, 120, 32])) ++ itoaB (pickedS m 1000)).size : Nat) : Int) + (((ByteArray.mk (#[41, 32, 40, 100, 101, 102, 105, 110, 101, 32, 121, 32])).size : Nat) : Int) ≤ 9223372036854775807) ∧
  (((((ByteArray.mk (#[40, 100, 101, 102, 105, 110, 101, 32, 120, 32])) ++ itoaB (pickedS m 1000) ++ (ByteArray.mk (#[41, 32, 40, 100, 101, 102, 105, 110, 101, 32, 121, 32]))).size : Nat) : Int) + (((itoaB (pickedS m 1000)).size : Nat) : Int) ≤ 9223372036854775807) ∧
  (((((ByteArray.mk (#[40, 100, 101, 102, 105, 110, 101, 32, 120, 32])) ++ itoaB (pickedS m 1000) ++ (ByteArray.mk (#[41, 32, 40, 100, 101, 102, 105, 110, 101, 32, 121, 32])) ++ itoaB (pickedS m 1000)).size : Nat) : Int) + (((ByteArray.mk (#[41, 32, 40, 100, 101, 102, 105, 110, 101, 32, 40, 102, 32, 110, 41, 32, 40, 99, 111, 110, 115, 32, 120, 32, 121, 41, 41])).size : Nat) : Int) ≤ 9223372036854775807) ∧
  (((ByteArray.mk (#[40, 100, 101, 102, 105, 110, 101, 32, 120, 32])) ++ itoaB (pickedS n 1000) ++ (ByteArray.mk (#[41, 32, 40, 100, 101, 102, 105, 110, 101, 32, 40, 102, 32, 110, 41, 32, 120, 41]))).size ≤ 3000 ∧ readS 400 ((ByteArray.mk (#[40, 100, 101, 102, 105, 110, 101, 32, 120, 32])) ++ itoaB (pickedS n 1000) ++ (ByteArray.mk (#[41, 32, 40, 100, 101, 102, 105, 110, 101, 32, 40, 102, 32, 110, 41, 32, 120, 41]))) = some (RR.mk (dmsX ([ls [sy (ByteArray.mk (#[100, 101, 102, 105, 110, 101])), sy (ByteArray.mk (#[120])), nu 0 999 (pickedS n 1000)], ls [sy (ByteArray.mk (#[100, 101, 102, 105, 110, 101])), ls [sy (ByteArray.mk (#[102])), sy (ByteArray.mk (#[110]))], sy (ByteArray.mk (#[120]))]])) 0 0) ∧ fitsX ([ls [sy (ByteArray.mk (#[100, 101, 102, 105, 110, 101])), sy (ByteArray.mk (#[120])), nu 0 999 (pickedS n 1000)], ls [sy (ByteArray.mk (#[100, 101, 102, 105, 110, 101])), ls [sy (ByteArray.mk (#[102])), sy (ByteArray.mk (#[110]))], sy (ByteArray.mk (#[120]))]])) ∧
  (SV.dt (Dt.arr 4 [sy (ByteArray.mk (#[102])), sy (ByteArray.mk (#[110]))].length (dxL [sy (ByteArray.mk (#[102])), sy (ByteArray.mk (#[110]))])) = SV.dt (Dt.arr 4 [sy (ByteArray.mk (#[102])), sy (ByteArray.mk (#[110]))].length (dxL [sy (ByteArray.mk (#[102])), sy (ByteArray.mk (#[110]))]))) ∧
  (pickedS n 1000 = pickedS n 1000) ∧
  (pickedS n 1000 = pickedS n 1000) ∧
  (((ByteArray.mk (#[40, 100, 101, 102, 105, 110, 101, 32, 120, 32])) ++ itoaB (pickedS m 1000) ++ (ByteArray.mk (#[41, 32, 40, 100, 101, 102, 105, 110, 101, 32, 121, 32])) ++ itoaB (pickedS m 1000) ++ (ByteArray.mk (#[41, 32, 40, 100, 101, 102, 105, 110, 101, 32, 40, 102, 32, 110, 41, 32, 40, 99, 111, 110, 115, 32, 120, 32, 121, 41, 41]))).size ≤ 3000 ∧ readS 400 ((ByteArray.mk (#[40, 100, 101, 102, 105, 110, 101, 32, 120, 32])) ++ itoaB (pickedS m 1000) ++ (ByteArray.mk (#[41, 32, 40, 100, 101, 102, 105, 110, 101, 32, 121, 32])) ++ itoaB (pickedS m 1000) ++ (ByteArray.mk (#[41, 32, 40, 100, 101, 102, 105, 110, 101, 32, 40, 102, 32, 110, 41, 32, 40, 99, 111, 110, 115, 32, 120, 32, 121, 41, 41]))) = some (RR.mk (dmsX ([ls [sy (ByteArray.mk (#[100, 101, 102, 105, 110, 101])), sy (ByteArray.mk (#[120])), nu 0 999 (pickedS m 1000)], ls [sy (ByteArray.mk (#[100, 101, 102, 105, 110, 101])), sy (ByteArray.mk (#[121])), nu 0 999 (pickedS m 1000)], ls [sy (ByteArray.mk (#[100, 101, 102, 105, 110, 101])), ls [sy (ByteArray.mk (#[102])), sy (ByteArray.mk (#[110]))], ls [sy (ByteArray.mk (#[99, 111, 110, 115])), sy (ByteArray.mk (#[120])), sy (ByteArray.mk (#[121]))]]])) 0 0) ∧ fitsX ([ls [sy (ByteArray.mk (#[100, 101, 102, 105, 110, 101])), sy (ByteArray.mk (#[120])), nu 0 999 (pickedS m 1000)], ls [sy (ByteArray.mk (#[100, 101, 102, 105, 110, 101])), sy (ByteArray.mk (#[121])), nu 0 999 (pickedS m 1000)], ls [sy (ByteArray.mk (#[100, 101, 102, 105, 110, 101])), ls [sy (ByteArray.mk (#[102])), sy (ByteArray.mk (#[110]))], ls [sy (ByteArray.mk (#[99, 111, 110, 115])), sy (ByteArray.mk (#[120])), sy (ByteArray.mk (#[121]))]]])) ∧
  (SV.dt (Dt.arr 4 [sy (ByteArray.mk (#[102])), sy (ByteArray.mk (#[110]))].length (dxL [sy (ByteArray.mk (#[102])), sy (ByteArray.mk (#[110]))])) = SV.dt (Dt.arr 4 [sy (ByteArray.mk (#[102])), sy (ByteArray.mk (#[110]))].length (dxL [sy (ByteArray.mk (#[102])), sy (ByteArray.mk (#[110]))]))) ∧
  (SV.dt (Dt.arr 4 [sy (ByteArray.mk (#[99, 111, 110, 115])), sy (ByteArray.mk (#[120])), sy (ByteArray.mk (#[121]))].length (dxL [sy (ByteArray.mk (#[99, 111, 110, 115])), sy (ByteArray.mk (#[120])), sy (ByteArray.mk (#[121]))])) = SV.dt (Dt.arr 4 [sy (ByteArray.mk (#[99, 111, 110, 115])), sy (ByteArray.mk (#[120])), sy (ByteArray.mk (#[121]))].length (dxL [sy (ByteArray.mk (#[99, 111, 110, 115])), sy (ByteArray.mk (#[120])), sy (ByteArray.mk (#[121]))]))) ∧
  (pickedS m 1000 = pickedS m 1000) ∧
  (pickedS m 1000 = pickedS m 1000) ∧
  ((fun n => n ≤ 100000) 0) ∧
  ((fun n_1 => n_1 + (itoaB (pickedS n 1000)).size ≤ 100000) ((fun n => n + 1) 0)) ∧
  ((fun n => n + (ByteArray.mk (#[32, 46, 32])).size ≤ 100000) ((fun n_1 => n_1 + (itoaB (pickedS n 1000)).size) ((fun n => n + 1) 0))) ∧
  ((fun n => n + (itoaB (pickedS m 1000)).size ≤ 100000) ((fun n => n + (ByteArray.mk (#[32, 46, 32])).size) ((fun n_1 => n_1 + (itoaB (pickedS n 1000)).size) ((fun n => n + 1) 0)))) ∧
  ((fun n => n ≤ 100000) ((fun n => n + (itoaB (pickedS m 1000)).size) ((fun n => n + (ByteArray.mk (#[32, 46, 32])).size) ((fun n_1 => n_1 + (itoaB (pickedS n 1000)).size) ((fun n => n + 1) 0))))) ∧
  (bytesP ((fun n => n + 1) ((fun n => n + (itoaB (pickedS m 1000)).size) ((fun n => n + (ByteArray.mk (#[32, 46, 32])).size) ((fun n_1 => n_1 + (itoaB (pickedS n 1000)).size) ((fun n => n + 1) 0))))) ((fun n f => catF n f (litF 1 [Dt.cell (Value.int IntKind.u8 41)])) ((fun n => n + (itoaB (pickedS m 1000)).size) ((fun n => n + (ByteArray.mk (#[32, 46, 32])).size) ((fun n_1 => n_1 + (itoaB (pickedS n 1000)).size) ((fun n => n + 1) 0)))) ((fun n f => catF n f (bytF (itoaB (pickedS m 1000)))) ((fun n => n + (ByteArray.mk (#[32, 46, 32])).size) ((fun n_1 => n_1 + (itoaB (pickedS n 1000)).size) ((fun n => n + 1) 0))) ((fun n f => catF n f (bytF (ByteArray.mk (#[32, 46, 32])))) ((fun n_1 => n_1 + (itoaB (pickedS n 1000)).size) ((fun n => n + 1) 0)) ((fun n_1 f => catF n_1 f (bytF (itoaB (pickedS n 1000)))) ((fun n => n + 1) 0) ((fun n f => catF n f (litF 1 [Dt.cell (Value.int IntKind.u8 40)])) 0 row0)))))) ∧
  ((((ByteArray.mk (#[40])).size : Nat) : Int) + (((itoaB (pickedS n 1000)).size : Nat) : Int) ≤ 9223372036854775807) ∧
  (((((ByteArray.mk (#[40])) ++ itoaB (pickedS n 1000)).size : Nat) : Int) + (((ByteArray.mk (#[32, 46, 32])).size : Nat) : Int) ≤ 9223372036854775807) ∧
  (((((ByteArray.mk (#[40])) ++ itoaB (pickedS n 1000) ++ (ByteArray.mk (#[32, 46, 32]))).size : Nat) : Int) + (((itoaB (pickedS m 1000)).size : Nat) : Int) ≤ 9223372036854775807) ∧
  (((((ByteArray.mk (#[40])) ++ itoaB (pickedS n 1000) ++ (ByteArray.mk (#[32, 46, 32])) ++ itoaB (pickedS m 1000)).size : Nat) : Int) + (((ByteArray.mk (#[41])).size : Nat) : Int) ≤ 9223372036854775807) ∧
  ((((ByteArray.mk ((rowL ((fun n => n + 1) ((fun n => n + (itoaB (pickedS m 1000)).size) ((fun n => n + (ByteArray.mk (#[32, 46, 32])).size) ((fun n_1 => n_1 + (itoaB (pickedS n 1000)).size) ((fun n => n + 1) 0))))) ((fun n f => catF n f (litF 1 [Dt.cell (Value.int IntKind.u8 41)])) ((fun n => n + (itoaB (pickedS m 1000)).size) ((fun n => n + (ByteArray.mk (#[32, 46, 32])).size) ((fun n_1 => n_1 + (itoaB (pickedS n 1000)).size) ((fun n => n + 1) 0)))) ((fun n f => catF n f (bytF (itoaB (pickedS m 1000)))) ((fun n => n + (ByteArray.mk (#[32, 46, 32])).size) ((fun n_1 => n_1 + (itoaB (pickedS n 1000)).size) ((fun n => n + 1) 0))) ((fun n f => catF n f (bytF (ByteArray.mk (#[32, 46, 32])))) ((fun n_1 => n_1 + (itoaB (pickedS n 1000)).size) ((fun n => n + 1) 0)) ((fun n_1 f => catF n_1 f (bytF (itoaB (pickedS n 1000)))) ((fun n => n + 1) 0) ((fun n f => catF n f (litF 1 [Dt.cell (Value.int IntKind.u8 40)])) 0 row0)))))).toArray)).data.toList == ((ByteArray.mk (#[40])) ++ itoaB (pickedS n 1000) ++ (ByteArray.mk (#[32, 46, 32])) ++ itoaB (pickedS m 1000) ++ (ByteArray.mk (#[41]))).data.toList) = true → ((SV.kb true : SV) = .kb true)) ∧ (((ByteArray.mk ((rowL ((fun n => n + 1) ((fun n => n + (itoaB (pickedS m 1000)).size) ((fun n => n + (ByteArray.mk (#[32, 46, 32])).size) ((fun n_1 => n_1 + (itoaB (pickedS n 1000)).size) ((fun n => n + 1) 0))))) ((fun n f => catF n f (litF 1 [Dt.cell (Value.int IntKind.u8 41)])) ((fun n => n + (itoaB (pickedS m 1000)).size) ((fun n => n + (ByteArray.mk (#[32, 46, 32])).size) ((fun n_1 => n_1 + (itoaB (pickedS n 1000)).size) ((fun n => n + 1) 0)))) ((fun n f => catF n f (bytF (itoaB (pickedS m 1000)))) ((fun n => n + (ByteArray.mk (#[32, 46, 32])).size) ((fun n_1 => n_1 + (itoaB (pickedS n 1000)).size) ((fun n => n + 1) 0))) ((fun n f => catF n f (bytF (ByteArray.mk (#[32, 46, 32])))) ((fun n_1 => n_1 + (itoaB (pickedS n 1000)).size) ((fun n => n + 1) 0)) ((fun n_1 f => catF n_1 f (bytF (itoaB (pickedS n 1000)))) ((fun n => n + 1) 0) ((fun n f => catF n f (litF 1 [Dt.cell (Value.int IntKind.u8 40)])) 0 row0)))))).toArray)).data.toList == ((ByteArray.mk (#[40])) ++ itoaB (pickedS n 1000) ++ (ByteArray.mk (#[32, 46, 32])) ++ itoaB (pickedS m 1000) ++ (ByteArray.mk (#[41]))).data.toList) = false → ((SV.kb false : SV) = .kb true)))
set_option maxRecDepth 100000 in
theorem graftKeeps_run_eq (n m : Int) : graftKeepsQ n m = (runL (graftKeepsT (pickedS n 1000) (pickedS m 1000)) 4 [any n, any m]).holds fun y => y.1 = .kb true := by
  kernel_rfl
set_option maxRecDepth 100000 in
theorem graftKeeps_needs (n m : Int) : graftKeepsQ n m := by
  obtain ⟨ha0, ha1⟩ := picked_bounds n (m := 1000) (by decide)
  obtain ⟨hb0, hb1⟩ := picked_bounds m (m := 1000) (by decide)
  have hA := num_size ha0 ha1
  have hB := num_size hb0 hb1
  unfold graftKeepsQ
  refine ⟨by simp only [ByteArray.size_append, sz_lit, List.size_toArray, List.length_cons, List.length_nil]; omega, ?_⟩
  refine ⟨by simp only [ByteArray.size_append, sz_lit, List.size_toArray, List.length_cons, List.length_nil]; omega, ?_⟩
  refine ⟨by simp only [ByteArray.size_append, sz_lit, List.size_toArray, List.length_cons, List.length_nil]; omega, ?_⟩
  refine ⟨by simp only [ByteArray.size_append, sz_lit, List.size_toArray, List.length_cons, List.length_nil]; omega, ?_⟩
  refine ⟨by simp only [ByteArray.size_append, sz_lit, List.size_toArray, List.length_cons, List.length_nil]; omega, ?_⟩
  refine ⟨by simp only [ByteArray.size_append, sz_lit, List.size_toArray, List.length_cons, List.length_nil]; omega, ?_⟩
  refine ⟨read_dx (by repeat first | exact gd_nil | apply gd_cons | apply gd_ls | exact gd_sy (by kernel_rfl) | exact gd_num (by omega) (by omega) | exact gd_nu (by omega) (by omega) (by omega) (by omega)) (by simp only [ByteArray.size_append, sz_lit, List.size_toArray, List.length_cons, List.length_nil]; omega) (by simp only [tl_app, tl_lit, List.append_assoc]; kernel_rfl) (by kernel_rfl) (by kernel_rfl) (by kernel_rfl), ?_⟩
  refine ⟨rfl, ?_⟩
  refine ⟨rfl, ?_⟩
  refine ⟨rfl, ?_⟩
  refine ⟨read_dx (by repeat first | exact gd_nil | apply gd_cons | apply gd_ls | exact gd_sy (by kernel_rfl) | exact gd_num (by omega) (by omega) | exact gd_nu (by omega) (by omega) (by omega) (by omega)) (by simp only [ByteArray.size_append, sz_lit, List.size_toArray, List.length_cons, List.length_nil]; omega) (by simp only [tl_app, tl_lit, List.append_assoc]; kernel_rfl) (by kernel_rfl) (by kernel_rfl) (by kernel_rfl), ?_⟩
  refine ⟨rfl, ?_⟩
  refine ⟨rfl, ?_⟩
  refine ⟨rfl, ?_⟩
  refine ⟨rfl, ?_⟩
  refine ⟨by simp only [ByteArray.size_append, sz_lit, List.size_toArray, List.length_cons, List.length_nil]; omega, ?_⟩
  refine ⟨by simp only [ByteArray.size_append, sz_lit, List.size_toArray, List.length_cons, List.length_nil]; omega, ?_⟩
  refine ⟨by simp only [ByteArray.size_append, sz_lit, List.size_toArray, List.length_cons, List.length_nil]; omega, ?_⟩
  refine ⟨by simp only [ByteArray.size_append, sz_lit, List.size_toArray, List.length_cons, List.length_nil]; omega, ?_⟩
  refine ⟨by simp only [ByteArray.size_append, sz_lit, List.size_toArray, List.length_cons, List.length_nil]; omega, ?_⟩
  refine ⟨bld_bytes (bld_wb (bld_ws (bld_ws (bld_ws (bld_wb bld_nil 40 rfl) (itoaB (pickedS n 1000))) (ByteArray.mk (#[32, 46, 32]))) (itoaB (pickedS m 1000))) 41 rfl) (by simp only [ByteArray.size_append, sz_lit, List.size_toArray, List.length_cons, List.length_nil]; omega) (by simp only [ByteArray.size_append, sz_lit, List.size_toArray, List.length_cons, List.length_nil]; omega), ?_⟩
  refine ⟨by simp only [ByteArray.size_append, sz_lit, List.size_toArray, List.length_cons, List.length_nil]; omega, ?_⟩
  refine ⟨by simp only [ByteArray.size_append, sz_lit, List.size_toArray, List.length_cons, List.length_nil]; omega, ?_⟩
  refine ⟨by simp only [ByteArray.size_append, sz_lit, List.size_toArray, List.length_cons, List.length_nil]; omega, ?_⟩
  refine ⟨by simp only [ByteArray.size_append, sz_lit, List.size_toArray, List.length_cons, List.length_nil]; omega, ?_⟩
  refine ⟨fun _ => ?_, fun h => absurd ((text_eq (bld_wb (bld_ws (bld_ws (bld_ws (bld_wb bld_nil 40 rfl) (itoaB (pickedS n 1000))) (ByteArray.mk (#[32, 46, 32]))) (itoaB (pickedS m 1000))) 41 rfl) (by simp only [tl_app, tl_lit, List.append_assoc, List.nil_append]; kernel_rfl)).symm.trans h) (by decide)⟩
  rfl

theorem graftKeeps_run (n m : Int) : (runL (graftKeepsT (pickedS n 1000) (pickedS m 1000)) 4 [any n, any m]).holds fun y => y.1 = .kb true := by
  rw [← graftKeeps_run_eq n m]
  exact graftKeeps_needs n m
end Gv
