/- Sources out of raw things: what is drawn. -/
import Derived.Test.YtnalaogenpicfaaDoorRdB
set_option linter.unusedSimpArgs false
set_option linter.unusedVariables false
open Rx Go
namespace Rd
--PROG prog

/-! ## raw things from a place on -/
abbrev Rw := List (List Int)
def rw' (l : Rw) (p j : Nat) : Int := (l.getD p []).getD j 0
def rawD (l : Rw) (p : Nat) : SV := .dt (.arr 4 (l.length - p) fun i j => rowsF l (i + p) j)
def strF (L : List ByteArray) (i _j : Nat) : Dt := .cell (.string (L.getD i noS))
def bOb (l : Rw) (p k : Nat) : Ob := .cells tBard [rawD l p, .nm k, .junk]
def lOb (L : List ByteArray) : Ob := .row tString 1 L.length (strF L)
def rawS (l : Rw) (p : Nat) : SV := .agg [vI .i64 (rw' l p 0), vI .i64 (rw' l p 1), vI .i64 (rw' l p 2), vI .i64 (rw' l p 3)]
def nextO (l : Rw) (p n : Nat) (f : Nat → Nat → Dt) : T Out := .ret (rawS l p, [some (bOb l (p + 1) 1), some (.row tString 1 n f)])

/-! ## a local -/
def localS (L : List ByteArray) (n : Int) : ByteArray := if L.length = 0 then itoaB (pickedS n 9) else L.getD (pickedS n L.length).toNat noS
def localO (x : SV) (L : List ByteArray) (n : Int) : T Out := .need (isInt n ∧ L.length ≤ 100) (.ret (vS (localS L n), [some (.cells tBard [x, .nm 1, .junk]), some (lOb L)]))
def loKs : List (Nat × Nat × FC) := [(2, 1, pickedF), (2, 2, itF), (3, 10, pickedF)]

def nextQ (l : Rw) (p n : Nat) (f : Nat → Nat → Dt) (R : SV → List (Option Ob) → Prop) : Prop :=
(((((↑(List.length l - p) : Int) == (0 : Int)) = Bool.true) →
 (True ∧
  R (SV.agg [SV.ki Go.IntKind.i64 ((0 : Int)), SV.ki Go.IntKind.i64 ((0 : Int)), SV.ki Go.IntKind.i64 ((0 : Int)), SV.ki Go.IntKind.i64 ((0 : Int))]) ([some (Ob.cells 45 [SV.dt (Dt.arr ((4 : Nat)) (List.length l - p) (fun i j => Rx.rowsF l (i + p) j)), SV.nm 1, SV.junk]), some (Ob.row 9 1 (n) (f))]))) ∧
((((↑(List.length l - p) : Int) == (0 : Int)) = Bool.false) →
 ((((0 : Int) ≤ (0 : Int)) ∧
   ((0 : Int) < (↑(List.length l - p) : Int))) ∧
  ((((0 : Int) ≤ (1 : Int)) ∧
    ((1 : Int) ≤ (↑(List.length l - p) : Int))) ∧
   (True ∧
    R (SV.agg [SV.dt (Dt.cell (Go.Value.int Go.IntKind.i64 ((List.getD l (Int.toNat (0 : Int) + p) []).getD (nat_lit 0) (0 : Int)))), SV.dt (Dt.cell (Go.Value.int Go.IntKind.i64 ((List.getD l (Int.toNat (0 : Int) + p) []).getD (nat_lit 1) (0 : Int)))), SV.dt (Dt.cell (Go.Value.int Go.IntKind.i64 ((List.getD l (Int.toNat (0 : Int) + p) []).getD (nat_lit 2) (0 : Int)))), SV.dt (Dt.cell (Go.Value.int Go.IntKind.i64 ((List.getD l (Int.toNat (0 : Int) + p) []).getD (nat_lit 3) (0 : Int))))]) ([some (Ob.cells 45 [SV.dt (Dt.arr ((4 : Nat)) (List.length l - p - Int.toNat (1 : Int)) (fun i j => Rx.rowsF l (i + Int.toNat (1 : Int) + p) j)), SV.nm 1, SV.junk]), some (Ob.row 9 1 (n) (f))]))))))
def localQ (l : Rw) (p : Nat) (L : List ByteArray) (n : Int) (R : SV → List (Option Ob) → Prop) : Prop :=
(((((↑L.length : Int) == (0 : Int)) = Bool.true) →
 ((Rx.leL ([SV.dt (Dt.cell (Go.Value.int Go.IntKind.i64 n)), SV.dt (Dt.cell (Go.Value.int Go.IntKind.i64 (9 : Int)))]) ([SV.dt (Dt.cell (Go.Value.int Go.IntKind.i64 n)), SV.dt (Dt.cell (Go.Value.int Go.IntKind.i64 (9 : Int)))])) ∧
  ((Rx.leObL ([]) ([])) ∧
   (((Rd.isInt n) ∧
     ((9 : Int) ≠ (0 : Int))) ∧
    ((Rx.leL ([SV.dt (Dt.cell (Go.Value.int Go.IntKind.i64 (Rd.pickedS n (9 : Int))))]) ([SV.dt (Dt.cell (Go.Value.int Go.IntKind.i64 (Rd.pickedS n (9 : Int))))])) ∧
     ((Rx.leObL ([]) ([])) ∧
      ((Rd.inI (Rd.pickedS n (9 : Int))) ∧
       (True ∧
        R (SV.dt (Dt.cell (Go.Value.string (Rd.itoaB (Rd.pickedS n (9 : Int)))))) ([some (Ob.cells 45 [SV.dt (Dt.arr ((4 : Nat)) (List.length l - p) (fun i j => Rx.rowsF l (i + p) j)), SV.nm 1, SV.junk]), some (Ob.row 9 1 (L.length) (Rd.strF L))]))))))))) ∧
((((↑L.length : Int) == (0 : Int)) = Bool.false) →
 ((Rx.leL ([SV.dt (Dt.cell (Go.Value.int Go.IntKind.i64 n)), SV.dt (Dt.cell (Go.Value.int Go.IntKind.i64 (↑L.length : Int)))]) ([SV.dt (Dt.cell (Go.Value.int Go.IntKind.i64 n)), SV.dt (Dt.cell (Go.Value.int Go.IntKind.i64 (↑L.length : Int)))])) ∧
  ((Rx.leObL ([]) ([])) ∧
   (((Rd.isInt n) ∧
     ((↑L.length : Int) ≠ (0 : Int))) ∧
    ((((0 : Int) ≤ Rd.pickedS n (↑L.length : Int)) ∧
      (Rd.pickedS n (↑L.length : Int) < (↑L.length : Int))) ∧
     (((Rd.pickedS n (↑L.length : Int)).toNat < L.length) ∧
      (True ∧
       R (SV.dt (Dt.cell (Go.Value.string (L.getD (Rd.pickedS n (↑L.length : Int)).toNat Rd.noS)))) ([some (Ob.cells 45 [SV.dt (Dt.arr ((4 : Nat)) (List.length l - p) (fun i j => Rx.rowsF l (i + p) j)), SV.nm 1, SV.junk]), some (Ob.row 9 1 (L.length) (Rd.strF L))])))))))))
theorem rw_ge {l : Rw} {p : Nat} (h : l.length ≤ p) (j : Nat) : rw' l p j = 0 := by
  unfold rw'
  have : l.getD p [] = [] := by simp [List.getD, List.getElem?_eq_none h]
  rw [this]
  rfl

theorem next_ctr (l : Rw) (p n : Nat) (f : Nat → Nat → Dt) : Ctr prog f_next [.ptr 0 0] [bOb l p 1, .row tString 1 n f] (nextO l p n f) := by
  refine ctr_fn mixed (N := 26) (fn := c_next) (c := bodyOf c_next) (ks := []) (ls := []) (by kernel_rfl) (by kernel_rfl) (by kernel_rfl) all_nil fin0 (no_loops (by kernel_rfl)) (by kernel_rfl) (Q := nextQ l p n f) (fun post hp => ?_) (fun R => by kernel_rfl)
  have hp : post (rawS l p, [some (bOb l (p + 1) 1), some (.row tString 1 n f)]) := hp
  unfold nextQ
  refine ⟨fun h => ⟨trivial, ?_⟩, fun h => ?_⟩
  · have h : l.length ≤ p := by
      have : ((l.length - p : Nat) : Int) = 0 := by simpa using h
      omega
    refine gives2 hp ?_ ⟨⟨rfl, ?_, leS_refl _, leS_refl _, trivial⟩, leOb_refl _, trivial⟩
    · simp only [rawS, leS_agg, leL_cons, leL_nil, and_true, rw_ge h]
      exact ⟨(leS_ki _ _ _).2 rfl, (leS_ki _ _ _).2 rfl, (leS_ki _ _ _).2 rfl, (leS_ki _ _ _).2 rfl⟩
    · rw [rawD, leS_dt, leDt_arr]
      exact ⟨by omega, .inl (by omega)⟩
  · have h : 0 < l.length - p := by
      have : ¬ ((l.length - p : Nat) : Int) = 0 := by simpa using h
      omega
    refine ⟨⟨by decide, by omega⟩, ⟨by decide, by omega⟩, trivial, gives2 hp ?_ ⟨⟨rfl, ?_, leS_refl _, leS_refl _, trivial⟩, leOb_refl _, trivial⟩⟩
    · have e : Int.toNat 0 + p = p := by simp
      rw [e]
      exact leS_refl _
    · rw [rawD, leS_dt, leDt_arr]
      refine ⟨by simp; omega, .inr ⟨rfl, fun k _ j _ => ?_⟩⟩
      have e : k + Int.toNat 1 + p = k + (p + 1) := by simp; omega
      rw [e]
      exact leDt_refl _

theorem loKs_ok : ∀ x ∈ loKs, x.2.2.Ok prog := all_cons pickedF_ok (all_cons itF_ok (all_cons pickedF_ok all_nil))
theorem pickedS_range {n m : Int} (hm : 0 < m) : 0 ≤ pickedS n m ∧ pickedS n m < m := by
  unfold pickedS
  split
  · exact ⟨Int.tmod_nonneg _ (by omega), Int.tmod_lt_of_pos _ hm⟩
  · exact ⟨Int.tmod_nonneg _ (by omega), Int.tmod_lt_of_pos _ hm⟩
theorem local_ctr (l : Rw) (p : Nat) (L : List ByteArray) (n : Int) : Ctr prog f_local [.ptr 0 0, vI .i64 n] [.cells tBard [rawD l p, .nm 1, .junk], lOb L] (localO (rawD l p) L n) := by
  refine ctr_fn mixed (N := 27) (fn := c_local) (c := bodyOf c_local) (ks := loKs) (ls := []) (by kernel_rfl) (by kernel_rfl) (by kernel_rfl) loKs_ok fin0 (no_loops (by kernel_rfl)) (by kernel_rfl) (Q := localQ l p L n) (fun post hp => ?_) (fun R => by kernel_rfl)
  obtain ⟨⟨hn, hL⟩, hp⟩ := hp
  have hp : post (vS (localS L n), [some (.cells tBard [rawD l p, .nm 1, .junk]), some (lOb L)]) := hp
  unfold localQ
  refine ⟨fun h => ?_, fun h => ?_⟩
  · have h : L.length = 0 := by
      have : (L.length : Int) = 0 := by simpa using h
      omega
    have hr := pickedS_range (n := n) (m := 9) (by decide)
    refine ⟨leL_refl _, trivial, ⟨hn, by decide⟩, leL_refl _, trivial, ⟨by omega, by omega⟩, trivial, ?_⟩
    rw [localS, if_pos h] at hp
    exact gives2 hp (leS_refl _) (leOO_refl _)
  · have h : ¬ L.length = 0 := by
      have : ¬ (L.length : Int) = 0 := by simpa using h
      omega
    have hr := pickedS_range (n := n) (m := L.length) (by omega)
    refine ⟨leL_refl _, trivial, ⟨hn, by omega⟩, hr, by omega, trivial, ?_⟩
    rw [localS, if_neg h] at hp
    exact gives2 hp (leS_refl _) (leOO_refl _)
end Rd
