/- A datum is read as it was shown: the walk. -/
import Derived.Test.YtnalaogenpicfaaDoorRdV
import Derived.Test.YtnalaogenpicfaaDoorRdS
set_option linter.unusedSimpArgs false
set_option linter.unusedVariables false
open Rx Go
namespace Rd
--PROG prog
def uF : Nat → Nat → Dt := fun _ _ => undefCell
def showO (d : Dm) : T Out := .need (wrD d ≠ [] ∧ (wrD d).length ≤ 100000) (.ret (.tup [vS ⟨(wrD d).toArray⟩, vI .i64 0], []))
def checkKs (d : Dm) : List (Nat × Nat × FC) := [(1, 1, cF f_check false [dmS d, vI .i64 1] [] ckO)]
def showKs (d : Dm) : List (Nat × Nat × FC) := [(1, 1, cF f_Check false [dmS d] [] ckO), (4, 0, noF), (5, 1, cF f_write true [.ptr 0 0, dmS d] (buO nilP' 0 uF) (wrO 0 uF (wrD d))),
  (6, 0, cF f_bString false [.ptr 0 0] (buO (.ptr 0 0) (wrD d).length (lstF (wrD d))) (strO (wrD d)))]
def okTwo (g : Nat) (s : ByteArray) (d : Dm) : Prop := s.size ≤ 3000 ∧ readS g s = some ⟨[d], 0, 0⟩
def backKs (g : Nat) (l : Rw) (d : Dm) : List (Nat × Nat × FC) := [(1, 1, ExprF l), (1, 2, dataF g), (4, 3, cF f_Show false [dmS d] [] (showO d)), (5, 1, dataF g), (6, 17, cF f_sameDatum false [dmS d, dmS d] [] eqO), (6, 23, cF f_Check false [dmS d] [] ckO)]
def backO (g : Nat) (l : Rw) (d : Dm) : T Out := .need (okR l ∧ okTwo g (exprX l) d ∧ okTwo g ⟨(wrD d).toArray⟩ d ∧ wrD d ≠ []) (.ret (vB true, []))
def checkQ (d : Dm) (R : SV → List (Option Ob) → Prop) : Prop :=
((Rx.leL ([SV.agg [SV.dt (Dt.cell (Go.Value.int Go.IntKind.i64 d.k)), SV.dt (Dt.cell (Go.Value.int Go.IntKind.i64 d.n)), SV.dt (Dt.cell (Go.Value.string d.s)), SV.dt (Dt.arr ((4 : Nat)) (d.l.length) (Rd.dmL d.l))], SV.dt (Dt.cell (Go.Value.int Go.IntKind.i64 (1 : Int)))]) ([SV.agg [SV.dt (Dt.cell (Go.Value.int Go.IntKind.i64 d.k)), SV.dt (Dt.cell (Go.Value.int Go.IntKind.i64 d.n)), SV.dt (Dt.cell (Go.Value.string d.s)), SV.dt (Dt.arr ((4 : Nat)) (d.l.length) (Rd.dmL d.l))], SV.dt (Dt.cell (Go.Value.int Go.IntKind.i64 (1 : Int)))])) ∧
((Rx.leObL ([]) ([])) ∧
 (True ∧
  R (SV.dt (Dt.cell (Go.Value.int Go.IntKind.i64 (0 : Int)))) ([]))))
def showQ (d : Dm) (R : SV → List (Option Ob) → Prop) : Prop :=
((Rx.leL ([SV.agg [SV.dt (Dt.cell (Go.Value.int Go.IntKind.i64 d.k)), SV.dt (Dt.cell (Go.Value.int Go.IntKind.i64 d.n)), SV.dt (Dt.cell (Go.Value.string d.s)), SV.dt (Dt.arr ((4 : Nat)) (d.l.length) (Rd.dmL d.l))]]) ([SV.agg [SV.dt (Dt.cell (Go.Value.int Go.IntKind.i64 d.k)), SV.dt (Dt.cell (Go.Value.int Go.IntKind.i64 d.n)), SV.dt (Dt.cell (Go.Value.string d.s)), SV.dt (Dt.arr ((4 : Nat)) (d.l.length) (Rd.dmL d.l))]])) ∧
((Rx.leObL ([]) ([])) ∧
 ((Rx.leL ([SV.ptr 0 0, SV.agg [SV.dt (Dt.cell (Go.Value.int Go.IntKind.i64 d.k)), SV.dt (Dt.cell (Go.Value.int Go.IntKind.i64 d.n)), SV.dt (Dt.cell (Go.Value.string d.s)), SV.dt (Dt.arr ((4 : Nat)) (d.l.length) (Rd.dmL d.l))]]) ([SV.ptr 0 0, SV.agg [SV.dt (Dt.cell (Go.Value.int Go.IntKind.i64 d.k)), SV.dt (Dt.cell (Go.Value.int Go.IntKind.i64 d.n)), SV.dt (Dt.cell (Go.Value.string d.s)), SV.dt (Dt.arr ((4 : Nat)) (d.l.length) (Rd.dmL d.l))]])) ∧
  ((Rx.leObL ([Ob.cells 55 [SV.dt (Dt.cell (Go.Value.pointer Option.none)), SV.nm 1], Ob.row 5 1 ((0 : Nat)) (fun x x_1 => Rx.undefCell)]) ([Ob.cells 55 [SV.dt (Dt.cell (Go.Value.pointer Option.none)), SV.nm 1], Ob.row 5 1 ((0 : Nat)) (Rd.uF)])) ∧
   (((0 : Nat) + (Rd.wrD d).length ≤ (100000 : Nat)) ∧
    ((Rx.leL ([SV.ptr 0 0]) ([SV.ptr 0 0])) ∧
     ((Rx.leObL ([Ob.cells 55 [SV.ptr 0 0, SV.nm 1], Ob.row 5 1 ((0 : Nat) + (Rd.wrD d).length) (Rx.catF (0 : Nat) Rd.uF (Rd.lstF (Rd.wrD d)))]) ([Ob.cells 55 [SV.ptr 0 0, SV.nm 1], Ob.row 5 1 ((Rd.wrD d).length) (Rd.lstF (Rd.wrD d))])) ∧
      (True ∧
       R (SV.tup [SV.dt (Dt.cell (Go.Value.string (ByteArray.mk (Rd.wrD d).toArray))), SV.dt (Dt.cell (Go.Value.int Go.IntKind.i64 (0 : Int)))]) ([])))))))))
def backQ (g : Nat) (l : Rw) (d : Dm) (R : SV → List (Option Ob) → Prop) : Prop :=
((Rx.leL ([SV.dt (Dt.arr ((4 : Nat)) (List.length l) (Rx.rowsF l))]) ([SV.dt (Dt.arr ((4 : Nat)) (List.length l) (Rx.rowsF l))])) ∧
((Rx.leObL ([]) ([])) ∧
 ((Rd.okR l) ∧
  ((Rx.leL ([SV.dt (Dt.cell (Go.Value.string (Rd.exprX l)))]) ([SV.dt (Dt.cell (Go.Value.string (Rd.exprX l)))])) ∧
   ((Rx.leObL ([]) ([])) ∧
    ((((Rd.exprX l).size ≤ (3000 : Nat)) ∧
      ((Rd.readS g (Rd.exprX l)).isSome = Bool.true)) ∧
     ((((!(Rd.readR g (Rd.exprX l)).e == (0 : Int)) = Bool.true) →
       (True ∧
        R (SV.dt (Dt.cell (Go.Value.bool Bool.false))) ([]))) ∧
      (((!(Rd.readR g (Rd.exprX l)).e == (0 : Int)) = Bool.false) →
       (((((↑(Rd.readR g (Rd.exprX l)).l.length : Int) != (1 : Int)) = Bool.true) →
         (True ∧
          R (SV.dt (Dt.cell (Go.Value.bool Bool.false))) ([]))) ∧
        ((((↑(Rd.readR g (Rd.exprX l)).l.length : Int) != (1 : Int)) = Bool.false) →
         ((((0 : Int) ≤ (0 : Int)) ∧
           ((0 : Int) < (↑(Rd.readR g (Rd.exprX l)).l.length : Int))) ∧
          ((Rx.leL ([SV.agg [SV.dt (Rd.dmL (Rd.readR g (Rd.exprX l)).l (Int.toNat (0 : Int)) (nat_lit 0)), SV.dt (Rd.dmL (Rd.readR g (Rd.exprX l)).l (Int.toNat (0 : Int)) (nat_lit 1)), SV.dt (Rd.dmL (Rd.readR g (Rd.exprX l)).l (Int.toNat (0 : Int)) (nat_lit 2)), SV.dt (Rd.dmL (Rd.readR g (Rd.exprX l)).l (Int.toNat (0 : Int)) (nat_lit 3))]]) ([SV.agg [SV.dt (Dt.cell (Go.Value.int Go.IntKind.i64 d.k)), SV.dt (Dt.cell (Go.Value.int Go.IntKind.i64 d.n)), SV.dt (Dt.cell (Go.Value.string d.s)), SV.dt (Dt.arr ((4 : Nat)) (d.l.length) (Rd.dmL d.l))]])) ∧
           ((Rx.leObL ([]) ([])) ∧
            (((Rd.wrD d ≠ []) ∧
              ((Rd.wrD d).length ≤ (100000 : Nat))) ∧
             ((Rx.leL ([SV.dt (Dt.cell (Go.Value.string (ByteArray.mk (Rd.wrD d).toArray)))]) ([SV.dt (Dt.cell (Go.Value.string (ByteArray.mk (Rd.wrD d).toArray)))])) ∧
              ((Rx.leObL ([]) ([])) ∧
               ((((ByteArray.mk (Rd.wrD d).toArray).size ≤ (3000 : Nat)) ∧
                 ((Rd.readS g (ByteArray.mk (Rd.wrD d).toArray)).isSome = Bool.true)) ∧
                (((((0 : Int) == (0 : Int)) = Bool.true) →
                  (((((Rd.readR g (ByteArray.mk (Rd.wrD d).toArray)).e == (0 : Int)) = Bool.true) →
                    (((((↑(Rd.readR g (ByteArray.mk (Rd.wrD d).toArray)).l.length : Int) == (1 : Int)) = Bool.true) →
                      ((((0 : Int) ≤ (0 : Int)) ∧
                        ((0 : Int) < (↑(Rd.readR g (Rd.exprX l)).l.length : Int))) ∧
                       ((((0 : Int) ≤ (0 : Int)) ∧
                         ((0 : Int) < (↑(Rd.readR g (ByteArray.mk (Rd.wrD d).toArray)).l.length : Int))) ∧
                        ((Rx.leL ([SV.agg [SV.dt (Rd.dmL (Rd.readR g (Rd.exprX l)).l (Int.toNat (0 : Int)) (nat_lit 0)), SV.dt (Rd.dmL (Rd.readR g (Rd.exprX l)).l (Int.toNat (0 : Int)) (nat_lit 1)), SV.dt (Rd.dmL (Rd.readR g (Rd.exprX l)).l (Int.toNat (0 : Int)) (nat_lit 2)), SV.dt (Rd.dmL (Rd.readR g (Rd.exprX l)).l (Int.toNat (0 : Int)) (nat_lit 3))], SV.agg [SV.dt (Rd.dmL (Rd.readR g (ByteArray.mk (Rd.wrD d).toArray)).l (Int.toNat (0 : Int)) (nat_lit 0)), SV.dt (Rd.dmL (Rd.readR g (ByteArray.mk (Rd.wrD d).toArray)).l (Int.toNat (0 : Int)) (nat_lit 1)), SV.dt (Rd.dmL (Rd.readR g (ByteArray.mk (Rd.wrD d).toArray)).l (Int.toNat (0 : Int)) (nat_lit 2)), SV.dt (Rd.dmL (Rd.readR g (ByteArray.mk (Rd.wrD d).toArray)).l (Int.toNat (0 : Int)) (nat_lit 3))]]) ([SV.agg [SV.dt (Dt.cell (Go.Value.int Go.IntKind.i64 d.k)), SV.dt (Dt.cell (Go.Value.int Go.IntKind.i64 d.n)), SV.dt (Dt.cell (Go.Value.string d.s)), SV.dt (Dt.arr ((4 : Nat)) (d.l.length) (Rd.dmL d.l))], SV.agg [SV.dt (Dt.cell (Go.Value.int Go.IntKind.i64 d.k)), SV.dt (Dt.cell (Go.Value.int Go.IntKind.i64 d.n)), SV.dt (Dt.cell (Go.Value.string d.s)), SV.dt (Dt.arr ((4 : Nat)) (d.l.length) (Rd.dmL d.l))]])) ∧
                         ((Rx.leObL ([]) ([])) ∧
                          (((Bool.true = Bool.true) →
                            ((((0 : Int) ≤ (0 : Int)) ∧
                              ((0 : Int) < (↑(Rd.readR g (Rd.exprX l)).l.length : Int))) ∧
                             ((Rx.leL ([SV.agg [SV.dt (Rd.dmL (Rd.readR g (Rd.exprX l)).l (Int.toNat (0 : Int)) (nat_lit 0)), SV.dt (Rd.dmL (Rd.readR g (Rd.exprX l)).l (Int.toNat (0 : Int)) (nat_lit 1)), SV.dt (Rd.dmL (Rd.readR g (Rd.exprX l)).l (Int.toNat (0 : Int)) (nat_lit 2)), SV.dt (Rd.dmL (Rd.readR g (Rd.exprX l)).l (Int.toNat (0 : Int)) (nat_lit 3))]]) ([SV.agg [SV.dt (Dt.cell (Go.Value.int Go.IntKind.i64 d.k)), SV.dt (Dt.cell (Go.Value.int Go.IntKind.i64 d.n)), SV.dt (Dt.cell (Go.Value.string d.s)), SV.dt (Dt.arr ((4 : Nat)) (d.l.length) (Rd.dmL d.l))]])) ∧
                              ((Rx.leObL ([]) ([])) ∧
                               (True ∧
                                R (SV.dt (Dt.cell (Go.Value.bool (Decidable.decide ((0 : Int) = (0 : Int)))))) ([])))))) ∧
                           ((Bool.true = Bool.false) →
                            (True ∧
                             R (SV.dt (Dt.cell (Go.Value.bool Bool.false))) ([]))))))))) ∧
                     ((((↑(Rd.readR g (ByteArray.mk (Rd.wrD d).toArray)).l.length : Int) == (1 : Int)) = Bool.false) →
                      (True ∧
                       R (SV.dt (Dt.cell (Go.Value.bool Bool.false))) ([]))))) ∧
                   ((((Rd.readR g (ByteArray.mk (Rd.wrD d).toArray)).e == (0 : Int)) = Bool.false) →
                    (True ∧
                     R (SV.dt (Dt.cell (Go.Value.bool Bool.false))) ([]))))) ∧
                 ((((0 : Int) == (0 : Int)) = Bool.false) →
                  (True ∧
                   R (SV.dt (Dt.cell (Go.Value.bool Bool.false))) ([])))))))))))))))))))))
theorem Check_ctr {d : Dm} (hd : dmN d ≤ 1000000) (hg : gd d 1) : Ctr prog f_Check [dmS d] [] ckO := by
  refine ctr_fn mixed (N := 5) (fn := c_Check) (c := bodyOf c_Check) (ks := checkKs d) (ls := []) (by kernel_rfl) (by kernel_rfl) (by kernel_rfl) (all_cons (cF_ok (check_ctr d hd 1 (by decide) hg)) all_nil) fin0 (no_loops (by kernel_rfl)) (by kernel_rfl) (Q := checkQ d) (fun post hp => ?_) (fun R => by kernel_rfl)
  have hp : post (.ki .i64 0, []) := hp
  unfold checkQ
  exact ⟨leL_refl _, trivial, trivial, gives1 hp ((leS_dki _ _ _).2 rfl)⟩
theorem Show_ctr {d : Dm} (hd : dmN d ≤ 1000000) (hg : gd d 1) (h0 : wrD d ≠ []) (hl : (wrD d).length ≤ 100000) : Ctr prog f_Show [dmS d] [] (showO d) := by
  refine ctr_fn mixed (N := 14) (fn := c_Show) (c := bodyOf c_Show) (ks := showKs d) (ls := []) (by kernel_rfl) (by kernel_rfl) (by kernel_rfl) (all_cons (cF_ok (Check_ctr hd hg)) (all_cons noF_ok (all_cons (cF_ok (write_ctr d hd 1 hg nilP' 0 uF (.inr rfl))) (all_cons (cF_ok (str_ctr h0 hl)) all_nil)))) fin0 (no_loops (by kernel_rfl)) (by kernel_rfl) (Q := showQ d) (fun post hp => ?_) (fun R => by kernel_rfl)
  obtain ⟨_, hp⟩ := hp
  unfold showQ
  refine ⟨leL_refl _, trivial, leL_refl _, ⟨leOb_refl _, row_le rfl fun k j hk _ => absurd hk (by omega), trivial⟩, by omega, leL_refl _, ⟨leOb_refl _, row_le (by omega) fun k j hk hj => ?_, trivial⟩, trivial, gives1 hp (leS_refl _)⟩
  unfold catF
  rw [blt_f (by omega)]
  rfl
theorem back_law (g : Nat) (l : Rw) {d : Dm} (hd : dmN d ≤ 1000000) (hg : gd d 1) (h0 : wrD d ≠ []) (hl : (wrD d).length ≤ 3000) : Ctr prog f_ReadBack [rawsD l] [] (backO g l d) := by
  refine ctr_fn mixed (N := 60) (fn := c_ReadBack) (c := bodyOf c_ReadBack) (ks := backKs g l d) (ls := []) (by kernel_rfl) (by kernel_rfl) (by kernel_rfl)
    (all_cons (ExprF_ok l) (all_cons (dataF_ok g) (all_cons (cF_ok (Show_ctr hd hg h0 (by omega))) (all_cons (dataF_ok g) (all_cons (cF_ok (same_ctr d hd)) (all_cons (cF_ok (Check_ctr hd hg)) all_nil)))))) fin0 (no_loops (by kernel_rfl)) (by kernel_rfl) (Q := backQ g l d) (fun post hp => ?_) (fun R => by kernel_rfl)
  obtain ⟨⟨hR, h1, h2, _⟩, hp⟩ := hp
  have hp : post (vB true, []) := hp
  unfold okTwo at h1 h2
  have e1 := readR_eq h1.2
  have e2 := readR_eq h2.2
  unfold backQ
  rw [e1, e2]
  have el : leS (.agg [.dt (dmL [d] 0 0), .dt (dmL [d] 0 1), .dt (dmL [d] 0 2), .dt (dmL [d] 0 3)]) (dmS d) := elem_le (l := [d]) (i := 0) rfl
  refine ⟨leL_refl _, trivial, hR, leL_refl _, trivial, ⟨h1.1, some_of h1.2⟩, fun h => absurd h (by simp), fun _ => ⟨fun h => absurd h (by simp), fun _ => ⟨⟨by simp, by simp⟩, ⟨el, trivial⟩, trivial, ⟨h0, by omega⟩, leL_refl _, trivial, ⟨h2.1, some_of h2.2⟩,
    fun _ => ⟨fun _ => ⟨fun _ => ⟨⟨by simp, by simp⟩, ⟨by simp, by simp⟩, ⟨el, el, trivial⟩, trivial, fun _ => ⟨⟨by simp, by simp⟩, ⟨el, trivial⟩, trivial, trivial, ?_⟩, fun h => (by cases h)⟩, fun h => absurd h (by simp)⟩, fun h => absurd h (by simp)⟩, fun h => absurd h (by simp)⟩⟩⟩
  exact gives1 hp (by rw [leS_cell]; simp)

/-! ## trees without quotes -/
mutual
def unq : Sx → Sx
  | .wd w => .wd w
  | .li l => .li (unqL l)
  | .qu l => .li [.wd [113, 117, 111, 116, 101], .li (unqL l)]
def unqL : List Sx → List Sx
  | [] => []
  | x :: l => unq x :: unqL l
end
mutual
theorem unq_ok : ∀ x, okX x = true → okX (unq x) = true
  | .wd w, h => h
  | .li l, h => by simp only [okX] at h; simp only [unq, okX, unqL_ok l h]
  | .qu l, h => by simp only [okX] at h; simp only [unq, okX, okXL, unqL_ok l h, quote_word, Bool.and_true]
theorem unqL_ok : ∀ l, okXL l = true → okXL (unqL l) = true
  | [], _ => by simp [unqL, okXL]
  | x :: l, h => by
    simp only [okXL, Bool.and_eq_true] at h
    simp only [unqL, okXL, unq_ok x h.1, unqL_ok l h.2, Bool.and_true]
end
mutual
theorem unq_h : ∀ x, sxH (unq x) ≤ sxH x
  | .wd w => Nat.le_refl _
  | .li l => by have := unqL_h l; simp only [unq, sxH]; omega
  | .qu l => by have := unqL_h l; simp only [unq, sxH, sxHL]; omega
theorem unqL_h : ∀ l, sxHL (unqL l) ≤ sxHL l
  | [] => Nat.le_refl _
  | x :: l => by have := unq_h x; have := unqL_h l; simp only [unqL, sxHL]; omega
end
mutual
theorem unq_c : ∀ x, okX x = true → sxC (unq x) ≤ (sxT x).length
  | .wd w, h => sxC_le (.wd w) h
  | .li l, h => by
    simp only [okX] at h
    have := unqL_c l h
    simp only [unq, sxC, sxT, List.length_cons, List.length_append, List.length_nil]; omega
  | .qu l, h => by
    simp only [okX] at h
    have := unqL_c l h
    simp only [unq, sxC, sxCL, sxT, List.length_cons, List.length_append, List.length_nil]; omega
theorem unqL_c : ∀ l, okXL l = true → sxCL (unqL l) ≤ (sxTL l).length
  | [], _ => by simp [unqL, sxCL]
  | x :: l, h => by
    simp only [okXL, Bool.and_eq_true] at h
    have := unq_c x h.1
    have := unqS_c l h.2
    simp only [unqL, sxCL, sxTL, List.length_append]; omega
theorem unqS_c : ∀ l, okXL l = true → sxCL (unqL l) ≤ (sxTS l).length
  | [], _ => by simp [unqL, sxCL]
  | x :: l, h => by
    simp only [okXL, Bool.and_eq_true] at h
    have := unq_c x h.1
    have := unqS_c l h.2
    simp only [unqL, sxCL, sxTS, List.length_append, List.length_cons]; omega
end
mutual
theorem unq_t : ∀ x, (sxT (unq x)).length ≤ 4 * (sxT x).length
  | .wd w => by simp only [unq, sxT]; omega
  | .li l => by
    have := unqL_t l
    simp only [unq, sxT, List.length_cons, List.length_append, List.length_nil]; omega
  | .qu l => by
    have := unqL_t l
    simp only [unq, sxT, sxTL, sxTS, List.length_cons, List.length_append, List.length_nil]; omega
theorem unqL_t : ∀ l, (sxTL (unqL l)).length ≤ 4 * (sxTL l).length
  | [] => by simp [unqL, sxTL]
  | x :: l => by
    have := unq_t x
    have := unqS_t l
    simp only [unqL, sxTL, List.length_append]; omega
theorem unqS_t : ∀ l, (sxTS (unqL l)).length ≤ 4 * (sxTS l).length
  | [] => by simp [unqL, sxTS]
  | x :: l => by
    have := unq_t x
    have := unqS_t l
    simp only [unqL, sxTS, List.length_append, List.length_cons]; omega
end
mutual
theorem unq_d : ∀ x, sxD (unq x) = sxD x
  | .wd w => rfl
  | .li l => by simp only [unq, sxD, unqL_d l]
  | .qu l => by simp only [unq, sxD, sxDL, unqL_d l, quote_dm]
theorem unqL_d : ∀ l, sxDL (unqL l) = sxDL l
  | [] => rfl
  | x :: l => by simp only [unqL, sxDL, unq_d x, unqL_d l]
end

/-! ## what is written of a tree's datum -/
def wrTS : List Dm → List UInt8
  | [] => []
  | d :: l => 32 :: (wrD d ++ wrTS l)
def wrTL : List Dm → List UInt8
  | [] => []
  | d :: l => wrD d ++ wrTS l
theorem wrTS_snoc : ∀ (l : List Dm) (d : Dm), wrTS (l ++ [d]) = wrTS l ++ 32 :: wrD d
  | [], d => by simp [wrTS]
  | x :: l, d => by simp [wrTS, wrTS_snoc l d]
theorem wrTL_snoc (l : List Dm) (d : Dm) : wrTL (l ++ [d]) = wrTL l ++ ((if l.length = 0 then [] else [32]) ++ wrD d) := by
  cases l with
  | nil => simp [wrTL, wrTS]
  | cons x l => simp [wrTL, wrTS_snoc]
theorem wrN_take (l : List Dm) : ∀ n, n ≤ l.length → wrN n (itemT l) = wrTL (l.take n)
  | 0, _ => by simp [wrN, wrTL]
  | n + 1, h => by
    have e : l.take (n + 1) = l.take n ++ [l.getD n d0] := by
      rw [List.take_add_one, List.getD_eq_getElem?_getD, List.getElem?_eq_getElem (by omega)]
      rfl
    rw [wrN, wrN_take l n (by omega), e, wrTL_snoc, List.length_take, Nat.min_eq_left (by omega)]
    rfl
theorem wr_list (l : List Dm) : wrN l.length (itemT l) = wrTL l := by
  rw [wrN_take l l.length (Nat.le_refl _), List.take_of_length_le (Nat.le_refl _)]
theorem wr_word {w : List UInt8} (h : okW w = true) : wrD (atD ⟨w.toArray⟩) = w ∧ ∀ lv : Int, lv ≤ 40 → gd (atD ⟨w.toArray⟩) lv := by
  simp only [okW, Bool.and_eq_true, beq_iff_eq] at h
  have he := h.1.2
  have ew : (ByteArray.mk w.toArray).data.toList = w := by simp
  unfold atE at he
  unfold atD
  by_cases h1 : isT ⟨w.toArray⟩ = true
  · rw [if_pos h1]
    have e : w = [35, 116] := by unfold isT at h1; rw [ew] at h1; simpa using h1
    refine ⟨by rw [wrD_mk, e]; rfl, fun lv hlv => by simp only [gd]; exact ⟨hlv, .inr (.inl ⟨by simp, .inr (by simp), by simp, by simp⟩)⟩⟩
  rw [if_neg h1] at he ⊢
  by_cases h2 : isF ⟨w.toArray⟩ = true
  · rw [if_pos h2]
    have e : w = [35, 102] := by unfold isF at h2; rw [ew] at h2; simpa using h2
    refine ⟨by rw [wrD_mk, e]; rfl, fun lv hlv => by simp only [gd]; exact ⟨hlv, .inr (.inl ⟨by simp, .inl (by simp), by simp, by simp⟩)⟩⟩
  rw [if_neg h2] at he ⊢
  by_cases h3 : symB ⟨w.toArray⟩ = true
  · rw [if_pos h3]
    refine ⟨by rw [wrD_mk]; simp [wrI], fun lv hlv => by simp only [gd]; exact ⟨hlv, .inr (.inr (.inl ⟨by simp, by simp, h3, by simp⟩))⟩⟩
  rw [if_neg h3] at he ⊢
  by_cases h4 : isN ⟨w.toArray⟩ = true
  · rw [if_pos h4] at he ⊢
    by_cases h5 : atoiV ⟨w.toArray⟩ < -1099511627776 ∨ 1099511627776 < atoiV ⟨w.toArray⟩
    · rw [if_pos h5] at he; simp at he
    · rw [if_neg h5]
      have e : (itoaB (atoiV ⟨w.toArray⟩)).data.toList = w := by
        unfold isN at h4
        simp only [Bool.and_eq_true, beq_iff_eq] at h4
        rw [h4.2]
      refine ⟨by rw [wrD_mk]; simp only [wrI]; exact e, fun lv hlv => by simp only [gd]; exact ⟨hlv, .inl ⟨by simp, by omega, by omega, by simp, by simp⟩⟩⟩
  · rw [if_neg h4] at he; simp at he
mutual
theorem wr_tree : ∀ x, okX x = true → wrD (sxD x) = sxT (unq x)
  | .wd w, h => by simp only [okX] at h; simp only [sxD, unq, sxT, (wr_word h).1]
  | .li l, h => by
    simp only [okX] at h
    simp only [sxD, unq, sxT]
    rw [wrD_mk, wr_list]
    simp [wrI, wr_treeL l h]
  | .qu l, h => by
    simp only [okX] at h
    simp only [sxD, unq, sxT, sxTL, sxTS]
    rw [wrD_mk, wr_list]
    have e : wrD (.mk 3 0 quoteS []) = [113, 117, 111, 116, 101] := by rw [wrD_mk]; rfl
    simp only [wrTL, wrTS, e]
    rw [wrD_mk, wr_list]
    simp [wrI, wr_treeL l h]
theorem wr_treeL : ∀ l, okXL l = true → wrTL (sxDL l) = sxTL (unqL l)
  | [], _ => by simp [sxDL, wrTL, unqL, sxTL]
  | x :: l, h => by
    simp only [okXL, Bool.and_eq_true] at h
    simp only [sxDL, wrTL, unqL, sxTL, wr_tree x h.1, wr_treeS l h.2]
theorem wr_treeS : ∀ l, okXL l = true → wrTS (sxDL l) = sxTS (unqL l)
  | [], _ => by simp [sxDL, wrTS, unqL, sxTS]
  | x :: l, h => by
    simp only [okXL, Bool.and_eq_true] at h
    simp only [sxDL, wrTS, unqL, sxTS, wr_tree x h.1, wr_treeS l h.2]
end
mutual
theorem gd_tree : ∀ x, okX x = true → ∀ lv : Int, lv + sxH x ≤ 41 → gd (sxD x) lv
  | .wd w, h, lv, hl => by simp only [okX] at h; simp only [sxH] at hl; simp only [sxD]; exact (wr_word h).2 lv (by omega)
  | .li l, h, lv, hl => by
    simp only [okX] at h; simp only [sxH] at hl
    simp only [sxD, gd]
    exact ⟨by omega, .inr (.inr (.inr ⟨by simp, by simp, by simp, gd_treeL l h (lv + 1) (by omega) (by omega)⟩))⟩
  | .qu l, h, lv, hl => by
    simp only [okX] at h; simp only [sxH] at hl
    have hs : symB quoteS = true := by decide +kernel
    simp only [sxD, gd, gdL]
    exact ⟨by omega, .inr (.inr (.inr ⟨by simp, by simp, by simp, ⟨by omega, .inr (.inr (.inl ⟨by simp, by simp, hs, by simp⟩))⟩, ⟨by omega, .inr (.inr (.inr ⟨by simp, by simp, by simp, gd_treeL l h (lv + 1 + 1) (by omega) (by omega)⟩))⟩, trivial⟩))⟩
theorem gd_treeL : ∀ l, okXL l = true → ∀ lv : Int, lv + sxHL l ≤ 41 → lv ≤ 41 → gdL (sxDL l) lv
  | [], _, lv, _, _ => by simp [sxDL, gdL]
  | x :: l, h, lv, hl, h41 => by
    simp only [okXL, Bool.and_eq_true] at h
    simp only [sxHL] at hl
    simp only [sxDL, gdL]
    exact ⟨gd_tree x h.1 lv (by omega), gd_treeL l h.2 lv (by omega) h41⟩
end
end Rd
