/- Sources out of raw things: an expression's function. -/
import Derived.Test.YtnalaogenpicfaaDoorRdI
import Derived.Lib.ItoaLen
set_option linter.unusedSimpArgs false
set_option linter.unusedVariables false
open Rx Go
namespace Rd

theorem exF_ok {l : Rw} {d : Nat} (hE : ∀ L p, Ctr prog f_expr (exArgs d) (exObs l L p) (exprO l d L p)) (L : List ByteArray) (p : Nat) : (exF l d L p).Ok prog := cF_ok (hE L p)
theorem suF_ok {l : Rw} {d : Nat} (hS : ∀ L p, Ctr prog f_sub suArgs (suObs l (d + 1) L p) (subO l d L p)) (L : List ByteArray) (p : Nat) : (suF l d L p).Ok prog := cF_ok (hS L p)
theorem nxF_ok (l : Rw) (p n : Nat) (f : Nat → Nat → Dt) : (nxF l p n f).Ok prog := cF_ok (next_ctr l p n f)
theorem lcF_ok (l : Rw) (p : Nat) (L : List ByteArray) (j q : Nat) : (lcF l p L j q).Ok prog := cF_ok (local_ctr l q L _)
theorem pkF_ok (x k : Int) : (pkF x k).Ok prog := by
  refine cF_ok (ctr_weak (picked_ctr x 20) fun post hp => ?_)
  obtain ⟨⟨hx, hk⟩, hp⟩ := hp
  have hp : post (.ki .i64 k, []) := hp
  refine ⟨⟨hx, by decide⟩, ?_⟩
  exact gives1 hp (by rw [hk]; exact (leS_dki _ _ _).2 rfl)

theorem sz_mk (a : Array UInt8) : (ByteArray.mk a).size = a.size := rfl
theorem getD_size {l : List ByteArray} {i n : Nat} (h : ∀ x ∈ l, x.size ≤ n) : (l.getD i noS).size ≤ n := by
  rw [List.getD_eq_getElem?_getD]
  cases hx : l[i]? with
  | none => exact Nat.zero_le _
  | some x => exact h x (List.mem_of_getElem? hx)
theorem itoaB_size {n : Int} (h0 : -9223372036854775808 ≤ n) (h1 : n ≤ 9223372036854775807) : (itoaB n).size ≤ 21 :=
  Lib.itoa_length_le n h0 h1
theorem localS_size {L : List ByteArray} {d : Nat} (h : okN L d) (n : Int) : (localS L n).size ≤ 21 := by
  unfold localS
  split
  · have := pickedS_range (n := n) (m := 9) (by decide)
    exact itoaB_size (by omega) (by omega)
  · exact Nat.le_trans (getD_size (n := 16) h.2.2) (by decide)
theorem sz_app {a b : ByteArray} {m n : Nat} (h : a.size ≤ m) (k : b.size ≤ n) : (a ++ b).size ≤ m + n := by
  rw [ByteArray.size_append]; omega
theorem okN_app {L : List ByteArray} {d : Nat} {x : ByteArray} (h : okN L (d + 1)) (hx : x.size ≤ 16) : okN (L ++ [x]) d :=
  ⟨by have := h.1; omega, by have := h.2.1; simp; omega, fun y hy => by
    rcases List.mem_append.1 hy with hy | hy
    · exact h.2.2 y hy
    · rw [List.mem_singleton] at hy; subst hy; exact hx⟩
theorem okN_dn {L : List ByteArray} {d : Nat} (h : okN L (d + 1)) : okN L d := ⟨by have := h.1; omega, by have := h.2.1; omega, h.2.2⟩
theorem getD_szc {l : List ByteArray} {i : Nat} (h : (l.all fun x => decide (x.size ≤ 16)) = true) : (l.getD i noS).size ≤ 16 :=
  getD_size fun x hx => of_decide_eq_true (List.all_eq_true.1 h x hx)
theorem getD_sz3 {x y z : ByteArray} {i : Nat} (h : z.size ≤ 21) (hx : x.size ≤ 21) (hy : y.size ≤ 21) : ([x, y, z].getD i noS).size ≤ 21 :=
  getD_size fun u hu => by
    simp only [List.mem_cons, List.not_mem_nil, or_false] at hu
    rcases hu with rfl | rfl | rfl <;> assumption
theorem ite_t {c : Prop} [Decidable c] {a b : EX} {n : Nat} (h1 : a.t.size ≤ n) (h2 : b.t.size ≤ n) : (if c then a else b).t.size ≤ n := by
  split
  · exact h1
  · exact h2
theorem ite_s {c : Prop} [Decidable c] {a b : ByteArray} {n : Nat} (h1 : a.size ≤ n) (h2 : b.size ≤ n) : (if c then a else b).size ≤ n := by
  split
  · exact h1
  · exact h2
set_option maxHeartbeats 1000000 in
theorem exprS_size {l : Rw} : ∀ (d : Nat) (L : List ByteArray) (p : Nat), okN L d → (exprS l d L p).t.size ≤ 64 * 4 ^ d
  | 0, L, p, h => by
    unfold exprS
    refine Nat.le_trans (getD_size (n := 21) fun x hx => ?_) (by decide)
    have := pickedS_range (n := rw' l p 1) (m := 12) (by decide)
    simp only [List.mem_cons, List.not_mem_nil, or_false] at hx
    rcases hx with rfl | rfl | rfl | rfl | rfl | rfl
    · exact itoaB_size (by omega) (by omega)
    · exact localS_size h _
    all_goals decide
  | d + 1, L, p, h => by
    have h' := okN_dn h
    have ih : ∀ (L : List ByteArray) (p : Nat), okN L d → (exprS l d L p).t.size ≤ 64 * 4 ^ d := fun L p h => exprS_size d L p h
    have e4 : 64 * 4 ^ (d + 1) = 4 * (64 * 4 ^ d) := by rw [Nat.pow_succ]; omega
    have p4 : 1 ≤ 4 ^ d := Nat.pos_of_ne_zero (by simp)
    rw [e4]
    have r5 := pickedS_range (n := rw' l p 1) (m := 5) (by decide)
    have r9 := pickedS_range (n := rw' l p 1) (m := 9) (by decide)
    unfold exprS
    repeat' refine ite_t ?_ ?_
    all_goals dsimp only
    all_goals first
      | refine ite_s ?_ ?_
      | skip
    all_goals
      apply Nat.le_trans
      · repeat' first
          | with_reducible apply sz_app
          | with_reducible exact ih _ _ h'
          | with_reducible exact localS_size h _
          | (with_reducible refine ih _ _ (okN_app h ?_); (first | with_reducible refine getD_szc ?_ | skip); decide)
          | (with_reducible refine getD_szc ?_; decide)
          | (with_reducible refine itoaB_size ?_ ?_ <;> omega)
          | (with_reducible refine getD_sz3 (localS_size h _) ?_ ?_ <;> decide)
          | with_reducible exact Nat.le_refl (ByteArray.mk _).size
      · simp only [sz_mk, List.size_toArray, List.length_cons, List.length_nil]
        omega
theorem strF_pre {L : List ByteArray} {x : ByteArray} {k j : Nat} (hk : k < L.length) : leDt (strF (L ++ [x]) k j) (strF L k j) := by
  have e : (L ++ [x]).getD k noS = L.getD k noS := by simp [List.getD, List.getElem?_append, hk]
  unfold strF
  rw [e]
  exact leDt_refl _
theorem strF_snoc {L : List ByteArray} {x : ByteArray} {f : Nat → Nat → Dt} {k j : Nat} (hf : f 0 j = .cell (.string x)) (hk : k < L.length + 1) : leDt (catF L.length (strF L) f k j) (strF (L ++ [x]) k j) := by
  by_cases h : k < L.length
  · have e : (L ++ [x]).getD k noS = L.getD k noS := by simp [List.getD, List.getElem?_append, h]
    have hb : Nat.blt k L.length = true := by rw [Nat.blt_eq]; exact h
    simp only [catF, hb, cond_true, strF, e]
    exact leDt_refl _
  · have hk : k = L.length := by omega
    subst hk
    have hb : Nat.blt L.length L.length = false := by
      cases hq : Nat.blt L.length L.length with
      | false => rfl
      | true => rw [Nat.blt_eq] at hq; omega
    have e : (L ++ [x]).getD L.length noS = x := by simp [List.getD, List.getElem?_append]
    simp only [catF, hb, cond_false, strF, e, Nat.sub_self, hf]
    exact leDt_refl _
theorem pre_lt {L : List ByteArray} {x : ByteArray} {k : Nat} (h : k < (((L ++ [x]).length : Int) - 1).toNat) : k < L.length := by
  simp only [List.length_append, List.length_cons, List.length_nil] at h; omega
theorem len_cut {L : List ByteArray} {x : ByteArray} : L.length = (((L ++ [x]).length : Int) - 1).toNat := by
  simp only [List.length_append, List.length_cons, List.length_nil]; omega


set_option maxRecDepth 100000 in
theorem expr_0 {l : Rw} {d : Nat} (hS : ∀ L p, Ctr prog f_sub suArgs (suObs l (d + 1) L p) (subO l d L p)) (hE : ∀ L p, Ctr prog f_expr (exArgs d) (exObs l L p) (exprO l d L p)) (L : List ByteArray) (p : Nat) (hk : pickedS (rw' l p 0) 20 = 0) :
    Ctr prog f_expr (exArgs (d + 1)) (exObs l L p) (exprO l (d + 1) L p) := by
  refine ctr_fn mixed (N := 377) (fn := c_expr) (c := bodyOf c_expr) (ks := exK_0 l d L p) (ls := []) (by kernel_rfl) (by kernel_rfl) (by kernel_rfl)
    (all_cons (nxF_ok _ _ _ _) (all_cons (pkF_ok _ _) (all_cons pickedF_ok (all_cons (suF_ok hS _ _) (all_cons (suF_ok hS _ _) all_nil))))) fin0 (no_loops (by kernel_rfl)) (by kernel_rfl) (Q := exprQ_0 l d L p) (fun post hp => ?_) (fun R => by kernel_rfl)
  obtain ⟨⟨hR, hN⟩, hp⟩ := hp
  have e : exprS l (d + 1) L p = ⟨(ByteArray.mk #[40]) ++ ([(ByteArray.mk #[43]), (ByteArray.mk #[45]), (ByteArray.mk #[42]), (ByteArray.mk #[113, 117, 111, 116, 105, 101, 110, 116]), (ByteArray.mk #[61]), (ByteArray.mk #[60]), (ByteArray.mk #[114, 101, 109, 97, 105, 110, 100, 101, 114])].getD (pickedS (rw' l p 1) 7).toNat noS) ++ (ByteArray.mk #[32]) ++ (exprS l d L (p + 1)).t ++ (ByteArray.mk #[32]) ++ (exprS l d L (exprS l d L (p + 1)).p).t ++ (ByteArray.mk #[41]), (exprS l d L (exprS l d L (p + 1)).p).p, (exprS l d L (p + 1)).m || (exprS l d L (exprS l d L (p + 1)).p).m⟩ := by
    simp [exprS, hk]
  rw [e] at hp
  clear e
  have hR' : ∀ p j, isInt (rw' l p j) := hR
  have hlen := hN.2.1
  have hN' : okN L d := ⟨by have := hN.1; omega, by have := hN.2.1; omega, hN.2.2⟩
  have z : ∀ (L : List ByteArray) (p : Nat), okN L d → (exprS l d L p).t.size ≤ 4096 := fun L p h => by
    have z1 := exprS_size (l := l) d L p h
    have : 4 ^ d ≤ 4 ^ 3 := Nat.pow_le_pow_right (by decide) hN'.1
    omega
  have q0 := pickedS_range (n := rw' l p 1) (m := 7) (by decide)
  have b0 : ([(ByteArray.mk #[43]), (ByteArray.mk #[45]), (ByteArray.mk #[42]), (ByteArray.mk #[113, 117, 111, 116, 105, 101, 110, 116]), (ByteArray.mk #[61]), (ByteArray.mk #[60]), (ByteArray.mk #[114, 101, 109, 97, 105, 110, 100, 101, 114])].getD (pickedS (rw' l p 1) 7).toNat (ByteArray.mk #[])).size ≤ 16 := getD_szc (by decide)
  have b1 : (exprS l d L (p + 1)).t.size ≤ 4096 := z _ _ (by first | exact hN' | exact okN_app hN (by first | decide | exact getD_szc (by decide)))
  have b2 : (exprS l d L (exprS l d L (p + 1)).p).t.size ≤ 4096 := z _ _ (by first | exact hN' | exact okN_app hN (by first | decide | exact getD_szc (by decide)))
  unfold exprQ_0
  refine ⟨leL_refl _, leObL_refl _, fun h => absurd (of_decide_eq_true h) (by omega), fun _ => ?_⟩
  repeat' (first | exact leL_refl _ | exact leObL_refl _ | with_reducible exact hR | with_reducible exact hR' _ _ | with_reducible exact hN' | with_reducible exact hN2 | (refine And.intro ?_ ?_) | intro _)
  all_goals first
    | trivial
    | omega
    | (exfalso; have := of_decide_eq_true ‹decide ((L.length : Int) > 0) = true›; omega)
    | (exfalso; have := of_decide_eq_false ‹decide ((L.length : Int) > 0) = false›; omega)
    | (simp only [ByteArray.size_append, sz_mk, List.size_toArray, List.length_cons, List.length_nil]; omega)
    | (simp only [lo, hi, List.length_append, List.length_cons, List.length_nil]; omega)
    | exact (leS_int _ _ _).2 (by omega)
    | exact strF_snoc rfl (by assumption)
    | exact strF_pre (pre_lt (by assumption))
    | exact len_cut
    | (simp only [List.length_append, List.length_cons, List.length_nil]; done)
    | exact gives2 (hp.1 rfl) (leS_refl _) ⟨leOb_refl _, trivial, ⟨rfl, rfl, len_cut, fun k hk j _ => strF_pre (pre_lt hk)⟩, trivial⟩
    | exact gives2 (hp.1 (by simp only [*, Bool.or_true, Bool.true_or, Bool.or_false, Bool.false_or])) (leS_refl _) (leOO_refl _)
    | exact gives2 (hp.2 (by simp only [*, Bool.or_true, Bool.true_or, Bool.or_false, Bool.false_or])) (leS_refl _) (leOO_refl _)
set_option maxRecDepth 100000 in
theorem expr_1 {l : Rw} {d : Nat} (hS : ∀ L p, Ctr prog f_sub suArgs (suObs l (d + 1) L p) (subO l d L p)) (hE : ∀ L p, Ctr prog f_expr (exArgs d) (exObs l L p) (exprO l d L p)) (L : List ByteArray) (p : Nat) (hk : pickedS (rw' l p 0) 20 = 1) :
    Ctr prog f_expr (exArgs (d + 1)) (exObs l L p) (exprO l (d + 1) L p) := by
  refine ctr_fn mixed (N := 377) (fn := c_expr) (c := bodyOf c_expr) (ks := exK_1 l d L p) (ls := []) (by kernel_rfl) (by kernel_rfl) (by kernel_rfl)
    (all_cons (nxF_ok _ _ _ _) (all_cons (pkF_ok _ _) (all_cons pickedF_ok (all_cons (suF_ok hS _ _) (all_cons (suF_ok hS _ _) all_nil))))) fin0 (no_loops (by kernel_rfl)) (by kernel_rfl) (Q := exprQ_1 l d L p) (fun post hp => ?_) (fun R => by kernel_rfl)
  obtain ⟨⟨hR, hN⟩, hp⟩ := hp
  have e : exprS l (d + 1) L p = ⟨(ByteArray.mk #[40]) ++ ([(ByteArray.mk #[43]), (ByteArray.mk #[45]), (ByteArray.mk #[42]), (ByteArray.mk #[113, 117, 111, 116, 105, 101, 110, 116]), (ByteArray.mk #[61]), (ByteArray.mk #[60]), (ByteArray.mk #[114, 101, 109, 97, 105, 110, 100, 101, 114])].getD (pickedS (rw' l p 1) 7).toNat noS) ++ (ByteArray.mk #[32]) ++ (exprS l d L (p + 1)).t ++ (ByteArray.mk #[32]) ++ (exprS l d L (exprS l d L (p + 1)).p).t ++ (ByteArray.mk #[41]), (exprS l d L (exprS l d L (p + 1)).p).p, (exprS l d L (p + 1)).m || (exprS l d L (exprS l d L (p + 1)).p).m⟩ := by
    simp [exprS, hk]
  rw [e] at hp
  clear e
  have hR' : ∀ p j, isInt (rw' l p j) := hR
  have hlen := hN.2.1
  have hN' : okN L d := ⟨by have := hN.1; omega, by have := hN.2.1; omega, hN.2.2⟩
  have z : ∀ (L : List ByteArray) (p : Nat), okN L d → (exprS l d L p).t.size ≤ 4096 := fun L p h => by
    have z1 := exprS_size (l := l) d L p h
    have : 4 ^ d ≤ 4 ^ 3 := Nat.pow_le_pow_right (by decide) hN'.1
    omega
  have q0 := pickedS_range (n := rw' l p 1) (m := 7) (by decide)
  have b0 : ([(ByteArray.mk #[43]), (ByteArray.mk #[45]), (ByteArray.mk #[42]), (ByteArray.mk #[113, 117, 111, 116, 105, 101, 110, 116]), (ByteArray.mk #[61]), (ByteArray.mk #[60]), (ByteArray.mk #[114, 101, 109, 97, 105, 110, 100, 101, 114])].getD (pickedS (rw' l p 1) 7).toNat (ByteArray.mk #[])).size ≤ 16 := getD_szc (by decide)
  have b1 : (exprS l d L (p + 1)).t.size ≤ 4096 := z _ _ (by first | exact hN' | exact okN_app hN (by first | decide | exact getD_szc (by decide)))
  have b2 : (exprS l d L (exprS l d L (p + 1)).p).t.size ≤ 4096 := z _ _ (by first | exact hN' | exact okN_app hN (by first | decide | exact getD_szc (by decide)))
  unfold exprQ_1
  refine ⟨leL_refl _, leObL_refl _, fun h => absurd (of_decide_eq_true h) (by omega), fun _ => ?_⟩
  repeat' (first | exact leL_refl _ | exact leObL_refl _ | with_reducible exact hR | with_reducible exact hR' _ _ | with_reducible exact hN' | with_reducible exact hN2 | (refine And.intro ?_ ?_) | intro _)
  all_goals first
    | trivial
    | omega
    | (exfalso; have := of_decide_eq_true ‹decide ((L.length : Int) > 0) = true›; omega)
    | (exfalso; have := of_decide_eq_false ‹decide ((L.length : Int) > 0) = false›; omega)
    | (simp only [ByteArray.size_append, sz_mk, List.size_toArray, List.length_cons, List.length_nil]; omega)
    | (simp only [lo, hi, List.length_append, List.length_cons, List.length_nil]; omega)
    | exact (leS_int _ _ _).2 (by omega)
    | exact strF_snoc rfl (by assumption)
    | exact strF_pre (pre_lt (by assumption))
    | exact len_cut
    | (simp only [List.length_append, List.length_cons, List.length_nil]; done)
    | exact gives2 (hp.1 rfl) (leS_refl _) ⟨leOb_refl _, trivial, ⟨rfl, rfl, len_cut, fun k hk j _ => strF_pre (pre_lt hk)⟩, trivial⟩
    | exact gives2 (hp.1 (by simp only [*, Bool.or_true, Bool.true_or, Bool.or_false, Bool.false_or])) (leS_refl _) (leOO_refl _)
    | exact gives2 (hp.2 (by simp only [*, Bool.or_true, Bool.true_or, Bool.or_false, Bool.false_or])) (leS_refl _) (leOO_refl _)
set_option maxRecDepth 100000 in
theorem expr_2 {l : Rw} {d : Nat} (hS : ∀ L p, Ctr prog f_sub suArgs (suObs l (d + 1) L p) (subO l d L p)) (hE : ∀ L p, Ctr prog f_expr (exArgs d) (exObs l L p) (exprO l d L p)) (L : List ByteArray) (p : Nat) (hk : pickedS (rw' l p 0) 20 = 2) :
    Ctr prog f_expr (exArgs (d + 1)) (exObs l L p) (exprO l (d + 1) L p) := by
  refine ctr_fn mixed (N := 377) (fn := c_expr) (c := bodyOf c_expr) (ks := exK_2 l d L p) (ls := []) (by kernel_rfl) (by kernel_rfl) (by kernel_rfl)
    (all_cons (nxF_ok _ _ _ _) (all_cons (pkF_ok _ _) (all_cons (suF_ok hS _ _) (all_cons (suF_ok hS _ _) (all_cons (suF_ok hS _ _) all_nil))))) fin0 (no_loops (by kernel_rfl)) (by kernel_rfl) (Q := exprQ_2 l d L p) (fun post hp => ?_) (fun R => by kernel_rfl)
  obtain ⟨⟨hR, hN⟩, hp⟩ := hp
  have e : exprS l (d + 1) L p = ⟨(ByteArray.mk #[40, 105, 102, 32]) ++ (exprS l d L (p + 1)).t ++ (ByteArray.mk #[32]) ++ (exprS l d L (exprS l d L (p + 1)).p).t ++ (ByteArray.mk #[32]) ++ (exprS l d L (exprS l d L (exprS l d L (p + 1)).p).p).t ++ (ByteArray.mk #[41]), (exprS l d L (exprS l d L (exprS l d L (p + 1)).p).p).p, (exprS l d L (p + 1)).m || (exprS l d L (exprS l d L (p + 1)).p).m || (exprS l d L (exprS l d L (exprS l d L (p + 1)).p).p).m⟩ := by
    simp [exprS, hk]
  rw [e] at hp
  clear e
  have hR' : ∀ p j, isInt (rw' l p j) := hR
  have hlen := hN.2.1
  have hN' : okN L d := ⟨by have := hN.1; omega, by have := hN.2.1; omega, hN.2.2⟩
  have z : ∀ (L : List ByteArray) (p : Nat), okN L d → (exprS l d L p).t.size ≤ 4096 := fun L p h => by
    have z1 := exprS_size (l := l) d L p h
    have : 4 ^ d ≤ 4 ^ 3 := Nat.pow_le_pow_right (by decide) hN'.1
    omega
  have b0 : (exprS l d L (p + 1)).t.size ≤ 4096 := z _ _ (by first | exact hN' | exact okN_app hN (by first | decide | exact getD_szc (by decide)))
  have b1 : (exprS l d L (exprS l d L (p + 1)).p).t.size ≤ 4096 := z _ _ (by first | exact hN' | exact okN_app hN (by first | decide | exact getD_szc (by decide)))
  have b2 : (exprS l d L (exprS l d L (exprS l d L (p + 1)).p).p).t.size ≤ 4096 := z _ _ (by first | exact hN' | exact okN_app hN (by first | decide | exact getD_szc (by decide)))
  unfold exprQ_2
  refine ⟨leL_refl _, leObL_refl _, fun h => absurd (of_decide_eq_true h) (by omega), fun _ => ?_⟩
  repeat' (first | exact leL_refl _ | exact leObL_refl _ | with_reducible exact hR | with_reducible exact hR' _ _ | with_reducible exact hN' | with_reducible exact hN2 | (refine And.intro ?_ ?_) | intro _)
  all_goals first
    | trivial
    | omega
    | (exfalso; have := of_decide_eq_true ‹decide ((L.length : Int) > 0) = true›; omega)
    | (exfalso; have := of_decide_eq_false ‹decide ((L.length : Int) > 0) = false›; omega)
    | (simp only [ByteArray.size_append, sz_mk, List.size_toArray, List.length_cons, List.length_nil]; omega)
    | (simp only [lo, hi, List.length_append, List.length_cons, List.length_nil]; omega)
    | exact (leS_int _ _ _).2 (by omega)
    | exact strF_snoc rfl (by assumption)
    | exact strF_pre (pre_lt (by assumption))
    | exact len_cut
    | (simp only [List.length_append, List.length_cons, List.length_nil]; done)
    | exact gives2 (hp.1 rfl) (leS_refl _) ⟨leOb_refl _, trivial, ⟨rfl, rfl, len_cut, fun k hk j _ => strF_pre (pre_lt hk)⟩, trivial⟩
    | exact gives2 (hp.1 (by simp only [*, Bool.or_true, Bool.true_or, Bool.or_false, Bool.false_or])) (leS_refl _) (leOO_refl _)
    | exact gives2 (hp.2 (by simp only [*, Bool.or_true, Bool.true_or, Bool.or_false, Bool.false_or])) (leS_refl _) (leOO_refl _)
set_option maxRecDepth 100000 in
theorem expr_3 {l : Rw} {d : Nat} (hS : ∀ L p, Ctr prog f_sub suArgs (suObs l (d + 1) L p) (subO l d L p)) (hE : ∀ L p, Ctr prog f_expr (exArgs d) (exObs l L p) (exprO l d L p)) (L : List ByteArray) (p : Nat) (hk : pickedS (rw' l p 0) 20 = 3) :
    Ctr prog f_expr (exArgs (d + 1)) (exObs l L p) (exprO l (d + 1) L p) := by
  refine ctr_fn mixed (N := 377) (fn := c_expr) (c := bodyOf c_expr) (ks := exK_3 l d L p) (ls := []) (by kernel_rfl) (by kernel_rfl) (by kernel_rfl)
    (all_cons (nxF_ok _ _ _ _) (all_cons (pkF_ok _ _) (all_cons (suF_ok hS _ _) (all_cons (suF_ok hS _ _) all_nil)))) fin0 (no_loops (by kernel_rfl)) (by kernel_rfl) (Q := exprQ_3 l d L p) (fun post hp => ?_) (fun R => by kernel_rfl)
  obtain ⟨⟨hR, hN⟩, hp⟩ := hp
  have e : exprS l (d + 1) L p = ⟨(ByteArray.mk #[40, 99, 111, 110, 115, 32]) ++ (exprS l d L (p + 1)).t ++ (ByteArray.mk #[32]) ++ (exprS l d L (exprS l d L (p + 1)).p).t ++ (ByteArray.mk #[41]), (exprS l d L (exprS l d L (p + 1)).p).p, (exprS l d L (p + 1)).m || (exprS l d L (exprS l d L (p + 1)).p).m⟩ := by
    simp [exprS, hk]
  rw [e] at hp
  clear e
  have hR' : ∀ p j, isInt (rw' l p j) := hR
  have hlen := hN.2.1
  have hN' : okN L d := ⟨by have := hN.1; omega, by have := hN.2.1; omega, hN.2.2⟩
  have z : ∀ (L : List ByteArray) (p : Nat), okN L d → (exprS l d L p).t.size ≤ 4096 := fun L p h => by
    have z1 := exprS_size (l := l) d L p h
    have : 4 ^ d ≤ 4 ^ 3 := Nat.pow_le_pow_right (by decide) hN'.1
    omega
  have b0 : (exprS l d L (p + 1)).t.size ≤ 4096 := z _ _ (by first | exact hN' | exact okN_app hN (by first | decide | exact getD_szc (by decide)))
  have b1 : (exprS l d L (exprS l d L (p + 1)).p).t.size ≤ 4096 := z _ _ (by first | exact hN' | exact okN_app hN (by first | decide | exact getD_szc (by decide)))
  unfold exprQ_3
  refine ⟨leL_refl _, leObL_refl _, fun h => absurd (of_decide_eq_true h) (by omega), fun _ => ?_⟩
  repeat' (first | exact leL_refl _ | exact leObL_refl _ | with_reducible exact hR | with_reducible exact hR' _ _ | with_reducible exact hN' | with_reducible exact hN2 | (refine And.intro ?_ ?_) | intro _)
  all_goals first
    | trivial
    | omega
    | (exfalso; have := of_decide_eq_true ‹decide ((L.length : Int) > 0) = true›; omega)
    | (exfalso; have := of_decide_eq_false ‹decide ((L.length : Int) > 0) = false›; omega)
    | (simp only [ByteArray.size_append, sz_mk, List.size_toArray, List.length_cons, List.length_nil]; omega)
    | (simp only [lo, hi, List.length_append, List.length_cons, List.length_nil]; omega)
    | exact (leS_int _ _ _).2 (by omega)
    | exact strF_snoc rfl (by assumption)
    | exact strF_pre (pre_lt (by assumption))
    | exact len_cut
    | (simp only [List.length_append, List.length_cons, List.length_nil]; done)
    | exact gives2 (hp.1 rfl) (leS_refl _) ⟨leOb_refl _, trivial, ⟨rfl, rfl, len_cut, fun k hk j _ => strF_pre (pre_lt hk)⟩, trivial⟩
    | exact gives2 (hp.1 (by simp only [*, Bool.or_true, Bool.true_or, Bool.or_false, Bool.false_or])) (leS_refl _) (leOO_refl _)
    | exact gives2 (hp.2 (by simp only [*, Bool.or_true, Bool.true_or, Bool.or_false, Bool.false_or])) (leS_refl _) (leOO_refl _)
set_option maxRecDepth 100000 in
theorem expr_4 {l : Rw} {d : Nat} (hS : ∀ L p, Ctr prog f_sub suArgs (suObs l (d + 1) L p) (subO l d L p)) (hE : ∀ L p, Ctr prog f_expr (exArgs d) (exObs l L p) (exprO l d L p)) (L : List ByteArray) (p : Nat) (hk : pickedS (rw' l p 0) 20 = 4) :
    Ctr prog f_expr (exArgs (d + 1)) (exObs l L p) (exprO l (d + 1) L p) := by
  refine ctr_fn mixed (N := 377) (fn := c_expr) (c := bodyOf c_expr) (ks := exK_4 l d L p) (ls := []) (by kernel_rfl) (by kernel_rfl) (by kernel_rfl)
    (all_cons (nxF_ok _ _ _ _) (all_cons (pkF_ok _ _) (all_cons (suF_ok hS _ _) all_nil))) fin0 (no_loops (by kernel_rfl)) (by kernel_rfl) (Q := exprQ_4 l d L p) (fun post hp => ?_) (fun R => by kernel_rfl)
  obtain ⟨⟨hR, hN⟩, hp⟩ := hp
  have e : exprS l (d + 1) L p = ⟨(ByteArray.mk #[40, 99, 97, 114, 32, 40, 99, 111, 110, 115, 32]) ++ (exprS l d L (p + 1)).t ++ (ByteArray.mk #[32, 49, 41, 41]), (exprS l d L (p + 1)).p, (exprS l d L (p + 1)).m⟩ := by
    simp [exprS, hk]
  rw [e] at hp
  clear e
  have hR' : ∀ p j, isInt (rw' l p j) := hR
  have hlen := hN.2.1
  have hN' : okN L d := ⟨by have := hN.1; omega, by have := hN.2.1; omega, hN.2.2⟩
  have z : ∀ (L : List ByteArray) (p : Nat), okN L d → (exprS l d L p).t.size ≤ 4096 := fun L p h => by
    have z1 := exprS_size (l := l) d L p h
    have : 4 ^ d ≤ 4 ^ 3 := Nat.pow_le_pow_right (by decide) hN'.1
    omega
  have b0 : (exprS l d L (p + 1)).t.size ≤ 4096 := z _ _ (by first | exact hN' | exact okN_app hN (by first | decide | exact getD_szc (by decide)))
  unfold exprQ_4
  refine ⟨leL_refl _, leObL_refl _, fun h => absurd (of_decide_eq_true h) (by omega), fun _ => ?_⟩
  repeat' (first | exact leL_refl _ | exact leObL_refl _ | with_reducible exact hR | with_reducible exact hR' _ _ | with_reducible exact hN' | with_reducible exact hN2 | (refine And.intro ?_ ?_) | intro _)
  all_goals first
    | trivial
    | omega
    | (exfalso; have := of_decide_eq_true ‹decide ((L.length : Int) > 0) = true›; omega)
    | (exfalso; have := of_decide_eq_false ‹decide ((L.length : Int) > 0) = false›; omega)
    | (simp only [ByteArray.size_append, sz_mk, List.size_toArray, List.length_cons, List.length_nil]; omega)
    | (simp only [lo, hi, List.length_append, List.length_cons, List.length_nil]; omega)
    | exact (leS_int _ _ _).2 (by omega)
    | exact strF_snoc rfl (by assumption)
    | exact strF_pre (pre_lt (by assumption))
    | exact len_cut
    | (simp only [List.length_append, List.length_cons, List.length_nil]; done)
    | exact gives2 (hp.1 rfl) (leS_refl _) ⟨leOb_refl _, trivial, ⟨rfl, rfl, len_cut, fun k hk j _ => strF_pre (pre_lt hk)⟩, trivial⟩
    | exact gives2 (hp.1 (by simp only [*, Bool.or_true, Bool.true_or, Bool.or_false, Bool.false_or])) (leS_refl _) (leOO_refl _)
    | exact gives2 (hp.2 (by simp only [*, Bool.or_true, Bool.true_or, Bool.or_false, Bool.false_or])) (leS_refl _) (leOO_refl _)
set_option maxRecDepth 100000 in
theorem expr_5 {l : Rw} {d : Nat} (hS : ∀ L p, Ctr prog f_sub suArgs (suObs l (d + 1) L p) (subO l d L p)) (hE : ∀ L p, Ctr prog f_expr (exArgs d) (exObs l L p) (exprO l d L p)) (L : List ByteArray) (p : Nat) (hk : pickedS (rw' l p 0) 20 = 5) :
    Ctr prog f_expr (exArgs (d + 1)) (exObs l L p) (exprO l (d + 1) L p) := by
  refine ctr_fn mixed (N := 377) (fn := c_expr) (c := bodyOf c_expr) (ks := exK_5 l d L p) (ls := []) (by kernel_rfl) (by kernel_rfl) (by kernel_rfl)
    (all_cons (nxF_ok _ _ _ _) (all_cons (pkF_ok _ _) (all_cons pickedF_ok (all_cons (suF_ok hS _ _) all_nil)))) fin0 (no_loops (by kernel_rfl)) (by kernel_rfl) (Q := exprQ_5 l d L p) (fun post hp => ?_) (fun R => by kernel_rfl)
  obtain ⟨⟨hR, hN⟩, hp⟩ := hp
  have e : exprS l (d + 1) L p = ⟨(ByteArray.mk #[40]) ++ ([(ByteArray.mk #[110, 117, 108, 108, 63]), (ByteArray.mk #[112, 97, 105, 114, 63]), (ByteArray.mk #[110, 111, 116]), (ByteArray.mk #[112, 63]), (ByteArray.mk #[99, 100, 114])].getD (pickedS (rw' l p 1) 5).toNat noS) ++ (ByteArray.mk #[32]) ++ (exprS l d L (p + 1)).t ++ (ByteArray.mk #[41]), (exprS l d L (p + 1)).p, (exprS l d L (p + 1)).m⟩ := by
    simp [exprS, hk]
  rw [e] at hp
  clear e
  have hR' : ∀ p j, isInt (rw' l p j) := hR
  have hlen := hN.2.1
  have hN' : okN L d := ⟨by have := hN.1; omega, by have := hN.2.1; omega, hN.2.2⟩
  have z : ∀ (L : List ByteArray) (p : Nat), okN L d → (exprS l d L p).t.size ≤ 4096 := fun L p h => by
    have z1 := exprS_size (l := l) d L p h
    have : 4 ^ d ≤ 4 ^ 3 := Nat.pow_le_pow_right (by decide) hN'.1
    omega
  have q0 := pickedS_range (n := rw' l p 1) (m := 5) (by decide)
  have b0 : ([(ByteArray.mk #[110, 117, 108, 108, 63]), (ByteArray.mk #[112, 97, 105, 114, 63]), (ByteArray.mk #[110, 111, 116]), (ByteArray.mk #[112, 63]), (ByteArray.mk #[99, 100, 114])].getD (pickedS (rw' l p 1) 5).toNat (ByteArray.mk #[])).size ≤ 16 := getD_szc (by decide)
  have b1 : (exprS l d L (p + 1)).t.size ≤ 4096 := z _ _ (by first | exact hN' | exact okN_app hN (by first | decide | exact getD_szc (by decide)))
  unfold exprQ_5
  refine ⟨leL_refl _, leObL_refl _, fun h => absurd (of_decide_eq_true h) (by omega), fun _ => ?_⟩
  repeat' (first | exact leL_refl _ | exact leObL_refl _ | with_reducible exact hR | with_reducible exact hR' _ _ | with_reducible exact hN' | with_reducible exact hN2 | (refine And.intro ?_ ?_) | intro _)
  all_goals first
    | trivial
    | omega
    | (exfalso; have := of_decide_eq_true ‹decide ((L.length : Int) > 0) = true›; omega)
    | (exfalso; have := of_decide_eq_false ‹decide ((L.length : Int) > 0) = false›; omega)
    | (simp only [ByteArray.size_append, sz_mk, List.size_toArray, List.length_cons, List.length_nil]; omega)
    | (simp only [lo, hi, List.length_append, List.length_cons, List.length_nil]; omega)
    | exact (leS_int _ _ _).2 (by omega)
    | exact strF_snoc rfl (by assumption)
    | exact strF_pre (pre_lt (by assumption))
    | exact len_cut
    | (simp only [List.length_append, List.length_cons, List.length_nil]; done)
    | exact gives2 (hp.1 rfl) (leS_refl _) ⟨leOb_refl _, trivial, ⟨rfl, rfl, len_cut, fun k hk j _ => strF_pre (pre_lt hk)⟩, trivial⟩
    | exact gives2 (hp.1 (by simp only [*, Bool.or_true, Bool.true_or, Bool.or_false, Bool.false_or])) (leS_refl _) (leOO_refl _)
    | exact gives2 (hp.2 (by simp only [*, Bool.or_true, Bool.true_or, Bool.or_false, Bool.false_or])) (leS_refl _) (leOO_refl _)
set_option maxRecDepth 100000 in
theorem expr_6 {l : Rw} {d : Nat} (hS : ∀ L p, Ctr prog f_sub suArgs (suObs l (d + 1) L p) (subO l d L p)) (hE : ∀ L p, Ctr prog f_expr (exArgs d) (exObs l L p) (exprO l d L p)) (L : List ByteArray) (p : Nat) (hk : pickedS (rw' l p 0) 20 = 6) :
    Ctr prog f_expr (exArgs (d + 1)) (exObs l L p) (exprO l (d + 1) L p) := by
  refine ctr_fn mixed (N := 377) (fn := c_expr) (c := bodyOf c_expr) (ks := exK_6 l d L p) (ls := []) (by kernel_rfl) (by kernel_rfl) (by kernel_rfl)
    (all_cons (nxF_ok _ _ _ _) (all_cons (pkF_ok _ _) (all_cons (suF_ok hS _ _) (all_cons (suF_ok hS _ _) all_nil)))) fin0 (no_loops (by kernel_rfl)) (by kernel_rfl) (Q := exprQ_6 l d L p) (fun post hp => ?_) (fun R => by kernel_rfl)
  obtain ⟨⟨hR, hN⟩, hp⟩ := hp
  have e : exprS l (d + 1) L p = ⟨(ByteArray.mk #[40, 112, 32]) ++ (exprS l d L (p + 1)).t ++ (ByteArray.mk #[32]) ++ (exprS l d L (exprS l d L (p + 1)).p).t ++ (ByteArray.mk #[41]), (exprS l d L (exprS l d L (p + 1)).p).p, (exprS l d L (p + 1)).m || (exprS l d L (exprS l d L (p + 1)).p).m⟩ := by
    simp [exprS, hk]
  rw [e] at hp
  clear e
  have hR' : ∀ p j, isInt (rw' l p j) := hR
  have hlen := hN.2.1
  have hN' : okN L d := ⟨by have := hN.1; omega, by have := hN.2.1; omega, hN.2.2⟩
  have z : ∀ (L : List ByteArray) (p : Nat), okN L d → (exprS l d L p).t.size ≤ 4096 := fun L p h => by
    have z1 := exprS_size (l := l) d L p h
    have : 4 ^ d ≤ 4 ^ 3 := Nat.pow_le_pow_right (by decide) hN'.1
    omega
  have b0 : (exprS l d L (p + 1)).t.size ≤ 4096 := z _ _ (by first | exact hN' | exact okN_app hN (by first | decide | exact getD_szc (by decide)))
  have b1 : (exprS l d L (exprS l d L (p + 1)).p).t.size ≤ 4096 := z _ _ (by first | exact hN' | exact okN_app hN (by first | decide | exact getD_szc (by decide)))
  unfold exprQ_6
  refine ⟨leL_refl _, leObL_refl _, fun h => absurd (of_decide_eq_true h) (by omega), fun _ => ?_⟩
  repeat' (first | exact leL_refl _ | exact leObL_refl _ | with_reducible exact hR | with_reducible exact hR' _ _ | with_reducible exact hN' | with_reducible exact hN2 | (refine And.intro ?_ ?_) | intro _)
  all_goals first
    | trivial
    | omega
    | (exfalso; have := of_decide_eq_true ‹decide ((L.length : Int) > 0) = true›; omega)
    | (exfalso; have := of_decide_eq_false ‹decide ((L.length : Int) > 0) = false›; omega)
    | (simp only [ByteArray.size_append, sz_mk, List.size_toArray, List.length_cons, List.length_nil]; omega)
    | (simp only [lo, hi, List.length_append, List.length_cons, List.length_nil]; omega)
    | exact (leS_int _ _ _).2 (by omega)
    | exact strF_snoc rfl (by assumption)
    | exact strF_pre (pre_lt (by assumption))
    | exact len_cut
    | (simp only [List.length_append, List.length_cons, List.length_nil]; done)
    | exact gives2 (hp.1 rfl) (leS_refl _) ⟨leOb_refl _, trivial, ⟨rfl, rfl, len_cut, fun k hk j _ => strF_pre (pre_lt hk)⟩, trivial⟩
    | exact gives2 (hp.1 (by simp only [*, Bool.or_true, Bool.true_or, Bool.or_false, Bool.false_or])) (leS_refl _) (leOO_refl _)
    | exact gives2 (hp.2 (by simp only [*, Bool.or_true, Bool.true_or, Bool.or_false, Bool.false_or])) (leS_refl _) (leOO_refl _)
set_option maxRecDepth 100000 in
theorem expr_7 {l : Rw} {d : Nat} (hS : ∀ L p, Ctr prog f_sub suArgs (suObs l (d + 1) L p) (subO l d L p)) (hE : ∀ L p, Ctr prog f_expr (exArgs d) (exObs l L p) (exprO l d L p)) (L : List ByteArray) (p : Nat) (hk : pickedS (rw' l p 0) 20 = 7) :
    Ctr prog f_expr (exArgs (d + 1)) (exObs l L p) (exprO l (d + 1) L p) := by
  refine ctr_fn mixed (N := 377) (fn := c_expr) (c := bodyOf c_expr) (ks := exK_7 l d L p) (ls := []) (by kernel_rfl) (by kernel_rfl) (by kernel_rfl)
    (all_cons (nxF_ok _ _ _ _) (all_cons (pkF_ok _ _) (all_cons (suF_ok hS _ _) (all_cons (suF_ok hS _ _) all_nil)))) fin0 (no_loops (by kernel_rfl)) (by kernel_rfl) (Q := exprQ_7 l d L p) (fun post hp => ?_) (fun R => by kernel_rfl)
  obtain ⟨⟨hR, hN⟩, hp⟩ := hp
  have e : exprS l (d + 1) L p = ⟨(ByteArray.mk #[40, 112, 32]) ++ (exprS l d L (p + 1)).t ++ (ByteArray.mk #[32]) ++ (exprS l d L (exprS l d L (p + 1)).p).t ++ (ByteArray.mk #[41]), (exprS l d L (exprS l d L (p + 1)).p).p, (exprS l d L (p + 1)).m || (exprS l d L (exprS l d L (p + 1)).p).m⟩ := by
    simp [exprS, hk]
  rw [e] at hp
  clear e
  have hR' : ∀ p j, isInt (rw' l p j) := hR
  have hlen := hN.2.1
  have hN' : okN L d := ⟨by have := hN.1; omega, by have := hN.2.1; omega, hN.2.2⟩
  have z : ∀ (L : List ByteArray) (p : Nat), okN L d → (exprS l d L p).t.size ≤ 4096 := fun L p h => by
    have z1 := exprS_size (l := l) d L p h
    have : 4 ^ d ≤ 4 ^ 3 := Nat.pow_le_pow_right (by decide) hN'.1
    omega
  have b0 : (exprS l d L (p + 1)).t.size ≤ 4096 := z _ _ (by first | exact hN' | exact okN_app hN (by first | decide | exact getD_szc (by decide)))
  have b1 : (exprS l d L (exprS l d L (p + 1)).p).t.size ≤ 4096 := z _ _ (by first | exact hN' | exact okN_app hN (by first | decide | exact getD_szc (by decide)))
  unfold exprQ_7
  refine ⟨leL_refl _, leObL_refl _, fun h => absurd (of_decide_eq_true h) (by omega), fun _ => ?_⟩
  repeat' (first | exact leL_refl _ | exact leObL_refl _ | with_reducible exact hR | with_reducible exact hR' _ _ | with_reducible exact hN' | with_reducible exact hN2 | (refine And.intro ?_ ?_) | intro _)
  all_goals first
    | trivial
    | omega
    | (exfalso; have := of_decide_eq_true ‹decide ((L.length : Int) > 0) = true›; omega)
    | (exfalso; have := of_decide_eq_false ‹decide ((L.length : Int) > 0) = false›; omega)
    | (simp only [ByteArray.size_append, sz_mk, List.size_toArray, List.length_cons, List.length_nil]; omega)
    | (simp only [lo, hi, List.length_append, List.length_cons, List.length_nil]; omega)
    | exact (leS_int _ _ _).2 (by omega)
    | exact strF_snoc rfl (by assumption)
    | exact strF_pre (pre_lt (by assumption))
    | exact len_cut
    | (simp only [List.length_append, List.length_cons, List.length_nil]; done)
    | exact gives2 (hp.1 rfl) (leS_refl _) ⟨leOb_refl _, trivial, ⟨rfl, rfl, len_cut, fun k hk j _ => strF_pre (pre_lt hk)⟩, trivial⟩
    | exact gives2 (hp.1 (by simp only [*, Bool.or_true, Bool.true_or, Bool.or_false, Bool.false_or])) (leS_refl _) (leOO_refl _)
    | exact gives2 (hp.2 (by simp only [*, Bool.or_true, Bool.true_or, Bool.or_false, Bool.false_or])) (leS_refl _) (leOO_refl _)
set_option maxRecDepth 100000 in
theorem expr_8 {l : Rw} {d : Nat} (hS : ∀ L p, Ctr prog f_sub suArgs (suObs l (d + 1) L p) (subO l d L p)) (hE : ∀ L p, Ctr prog f_expr (exArgs d) (exObs l L p) (exprO l d L p)) (L : List ByteArray) (p : Nat) (hk : pickedS (rw' l p 0) 20 = 8) :
    Ctr prog f_expr (exArgs (d + 1)) (exObs l L p) (exprO l (d + 1) L p) := by
  refine ctr_fn mixed (N := 377) (fn := c_expr) (c := bodyOf c_expr) (ks := exK_8 l d L p) (ls := []) (by kernel_rfl) (by kernel_rfl) (by kernel_rfl)
    (all_cons (nxF_ok _ _ _ _) (all_cons (pkF_ok _ _) (all_cons pickedF_ok (all_cons (suF_ok hS _ _) (all_cons (suF_ok hS _ _) all_nil))))) fin0 (no_loops (by kernel_rfl)) (by kernel_rfl) (Q := exprQ_8 l d L p) (fun post hp => ?_) (fun R => by kernel_rfl)
  obtain ⟨⟨hR, hN⟩, hp⟩ := hp
  have e : exprS l (d + 1) L p = ⟨(ByteArray.mk #[40]) ++ ([(ByteArray.mk #[112, 45, 97]), (ByteArray.mk #[112, 45, 98])].getD (pickedS (rw' l p 1) 2).toNat noS) ++ (ByteArray.mk #[32, 40, 112, 32]) ++ (exprS l d L (p + 1)).t ++ (ByteArray.mk #[32]) ++ (exprS l d L (exprS l d L (p + 1)).p).t ++ (ByteArray.mk #[41, 41]), (exprS l d L (exprS l d L (p + 1)).p).p, (exprS l d L (p + 1)).m || (exprS l d L (exprS l d L (p + 1)).p).m⟩ := by
    simp [exprS, hk]
  rw [e] at hp
  clear e
  have hR' : ∀ p j, isInt (rw' l p j) := hR
  have hlen := hN.2.1
  have hN' : okN L d := ⟨by have := hN.1; omega, by have := hN.2.1; omega, hN.2.2⟩
  have z : ∀ (L : List ByteArray) (p : Nat), okN L d → (exprS l d L p).t.size ≤ 4096 := fun L p h => by
    have z1 := exprS_size (l := l) d L p h
    have : 4 ^ d ≤ 4 ^ 3 := Nat.pow_le_pow_right (by decide) hN'.1
    omega
  have q0 := pickedS_range (n := rw' l p 1) (m := 2) (by decide)
  have b0 : ([(ByteArray.mk #[112, 45, 97]), (ByteArray.mk #[112, 45, 98])].getD (pickedS (rw' l p 1) 2).toNat (ByteArray.mk #[])).size ≤ 16 := getD_szc (by decide)
  have b1 : (exprS l d L (p + 1)).t.size ≤ 4096 := z _ _ (by first | exact hN' | exact okN_app hN (by first | decide | exact getD_szc (by decide)))
  have b2 : (exprS l d L (exprS l d L (p + 1)).p).t.size ≤ 4096 := z _ _ (by first | exact hN' | exact okN_app hN (by first | decide | exact getD_szc (by decide)))
  unfold exprQ_8
  refine ⟨leL_refl _, leObL_refl _, fun h => absurd (of_decide_eq_true h) (by omega), fun _ => ?_⟩
  repeat' (first | exact leL_refl _ | exact leObL_refl _ | with_reducible exact hR | with_reducible exact hR' _ _ | with_reducible exact hN' | with_reducible exact hN2 | (refine And.intro ?_ ?_) | intro _)
  all_goals first
    | trivial
    | omega
    | (exfalso; have := of_decide_eq_true ‹decide ((L.length : Int) > 0) = true›; omega)
    | (exfalso; have := of_decide_eq_false ‹decide ((L.length : Int) > 0) = false›; omega)
    | (simp only [ByteArray.size_append, sz_mk, List.size_toArray, List.length_cons, List.length_nil]; omega)
    | (simp only [lo, hi, List.length_append, List.length_cons, List.length_nil]; omega)
    | exact (leS_int _ _ _).2 (by omega)
    | exact strF_snoc rfl (by assumption)
    | exact strF_pre (pre_lt (by assumption))
    | exact len_cut
    | (simp only [List.length_append, List.length_cons, List.length_nil]; done)
    | exact gives2 (hp.1 rfl) (leS_refl _) ⟨leOb_refl _, trivial, ⟨rfl, rfl, len_cut, fun k hk j _ => strF_pre (pre_lt hk)⟩, trivial⟩
    | exact gives2 (hp.1 (by simp only [*, Bool.or_true, Bool.true_or, Bool.or_false, Bool.false_or])) (leS_refl _) (leOO_refl _)
    | exact gives2 (hp.2 (by simp only [*, Bool.or_true, Bool.true_or, Bool.or_false, Bool.false_or])) (leS_refl _) (leOO_refl _)
set_option maxRecDepth 100000 in
theorem expr_9 {l : Rw} {d : Nat} (hS : ∀ L p, Ctr prog f_sub suArgs (suObs l (d + 1) L p) (subO l d L p)) (hE : ∀ L p, Ctr prog f_expr (exArgs d) (exObs l L p) (exprO l d L p)) (L : List ByteArray) (p : Nat) (hk : pickedS (rw' l p 0) 20 = 9) :
    Ctr prog f_expr (exArgs (d + 1)) (exObs l L p) (exprO l (d + 1) L p) := by
  refine ctr_fn mixed (N := 377) (fn := c_expr) (c := bodyOf c_expr) (ks := exK_9 l d L p) (ls := []) (by kernel_rfl) (by kernel_rfl) (by kernel_rfl)
    (all_cons (nxF_ok _ _ _ _) (all_cons (pkF_ok _ _) (all_cons pickedF_ok (all_cons (lcF_ok _ _ _ _ _) (all_cons pickedF_ok all_nil))))) fin0 (no_loops (by kernel_rfl)) (by kernel_rfl) (Q := exprQ_9 l d L p) (fun post hp => ?_) (fun R => by kernel_rfl)
  obtain ⟨⟨hR, hN⟩, hp⟩ := hp
  have e : exprS l (d + 1) L p = ⟨(ByteArray.mk #[40]) ++ ([(ByteArray.mk #[112, 45, 97]), (ByteArray.mk #[112, 45, 98])].getD (pickedS (rw' l p 1) 2).toNat noS) ++ (ByteArray.mk #[32]) ++ ([(ByteArray.mk #[120]), (ByteArray.mk #[121]), localS L (rw' l p 2)].getD (pickedS (rw' l p 3) 3).toNat noS) ++ (ByteArray.mk #[41]), (p + 1), false⟩ := by
    simp [exprS, hk]
  rw [e] at hp
  clear e
  have hR' : ∀ p j, isInt (rw' l p j) := hR
  have hlen := hN.2.1
  have hN' : okN L d := ⟨by have := hN.1; omega, by have := hN.2.1; omega, hN.2.2⟩
  have z : ∀ (L : List ByteArray) (p : Nat), okN L d → (exprS l d L p).t.size ≤ 4096 := fun L p h => by
    have z1 := exprS_size (l := l) d L p h
    have : 4 ^ d ≤ 4 ^ 3 := Nat.pow_le_pow_right (by decide) hN'.1
    omega
  have q0 := pickedS_range (n := rw' l p 1) (m := 2) (by decide)
  have q1 := pickedS_range (n := rw' l p 3) (m := 3) (by decide)
  have b0 : ([(ByteArray.mk #[112, 45, 97]), (ByteArray.mk #[112, 45, 98])].getD (pickedS (rw' l p 1) 2).toNat (ByteArray.mk #[])).size ≤ 16 := getD_szc (by decide)
  have b1 : ([(ByteArray.mk #[120]), (ByteArray.mk #[121]), localS L (rw' l p 2)].getD (pickedS (rw' l p 3) 3).toNat (ByteArray.mk #[])).size ≤ 21 := getD_sz3 (localS_size hN _) (by decide) (by decide)
  unfold exprQ_9
  refine ⟨leL_refl _, leObL_refl _, fun h => absurd (of_decide_eq_true h) (by omega), fun _ => ?_⟩
  repeat' (first | exact leL_refl _ | exact leObL_refl _ | with_reducible exact hR | with_reducible exact hR' _ _ | with_reducible exact hN' | with_reducible exact hN2 | (refine And.intro ?_ ?_) | intro _)
  all_goals first
    | trivial
    | omega
    | (exfalso; have := of_decide_eq_true ‹decide ((L.length : Int) > 0) = true›; omega)
    | (exfalso; have := of_decide_eq_false ‹decide ((L.length : Int) > 0) = false›; omega)
    | (simp only [ByteArray.size_append, sz_mk, List.size_toArray, List.length_cons, List.length_nil]; omega)
    | (simp only [lo, hi, List.length_append, List.length_cons, List.length_nil]; omega)
    | exact (leS_int _ _ _).2 (by omega)
    | exact strF_snoc rfl (by assumption)
    | exact strF_pre (pre_lt (by assumption))
    | exact len_cut
    | (simp only [List.length_append, List.length_cons, List.length_nil]; done)
    | exact gives2 (hp.1 rfl) (leS_refl _) ⟨leOb_refl _, trivial, ⟨rfl, rfl, len_cut, fun k hk j _ => strF_pre (pre_lt hk)⟩, trivial⟩
    | exact gives2 (hp.1 (by simp only [*, Bool.or_true, Bool.true_or, Bool.or_false, Bool.false_or])) (leS_refl _) (leOO_refl _)
    | exact gives2 (hp.2 (by simp only [*, Bool.or_true, Bool.true_or, Bool.or_false, Bool.false_or])) (leS_refl _) (leOO_refl _)
set_option maxRecDepth 100000 in
theorem expr_10 {l : Rw} {d : Nat} (hS : ∀ L p, Ctr prog f_sub suArgs (suObs l (d + 1) L p) (subO l d L p)) (hE : ∀ L p, Ctr prog f_expr (exArgs d) (exObs l L p) (exprO l d L p)) (L : List ByteArray) (p : Nat) (hk : pickedS (rw' l p 0) 20 = 10) :
    Ctr prog f_expr (exArgs (d + 1)) (exObs l L p) (exprO l (d + 1) L p) := by
  refine ctr_fn mixed (N := 377) (fn := c_expr) (c := bodyOf c_expr) (ks := exK_10 l d L p) (ls := []) (by kernel_rfl) (by kernel_rfl) (by kernel_rfl)
    (all_cons (nxF_ok _ _ _ _) (all_cons (pkF_ok _ _) (all_cons pickedF_ok (all_cons (suF_ok hS _ _) all_nil)))) fin0 (no_loops (by kernel_rfl)) (by kernel_rfl) (Q := exprQ_10 l d L p) (fun post hp => ?_) (fun R => by kernel_rfl)
  obtain ⟨⟨hR, hN⟩, hp⟩ := hp
  have e : exprS l (d + 1) L p = ⟨(ByteArray.mk #[40, 112, 45, 97, 33, 32]) ++ ([(ByteArray.mk #[120]), (ByteArray.mk #[121])].getD (pickedS (rw' l p 2) 2).toNat noS) ++ (ByteArray.mk #[32]) ++ (exprS l d L (p + 1)).t ++ (ByteArray.mk #[41]), (exprS l d L (p + 1)).p, (exprS l d L (p + 1)).m⟩ := by
    simp [exprS, hk]
  rw [e] at hp
  clear e
  have hR' : ∀ p j, isInt (rw' l p j) := hR
  have hlen := hN.2.1
  have hN' : okN L d := ⟨by have := hN.1; omega, by have := hN.2.1; omega, hN.2.2⟩
  have z : ∀ (L : List ByteArray) (p : Nat), okN L d → (exprS l d L p).t.size ≤ 4096 := fun L p h => by
    have z1 := exprS_size (l := l) d L p h
    have : 4 ^ d ≤ 4 ^ 3 := Nat.pow_le_pow_right (by decide) hN'.1
    omega
  have q0 := pickedS_range (n := rw' l p 2) (m := 2) (by decide)
  have b0 : ([(ByteArray.mk #[120]), (ByteArray.mk #[121])].getD (pickedS (rw' l p 2) 2).toNat (ByteArray.mk #[])).size ≤ 16 := getD_szc (by decide)
  have b1 : (exprS l d L (p + 1)).t.size ≤ 4096 := z _ _ (by first | exact hN' | exact okN_app hN (by first | decide | exact getD_szc (by decide)))
  unfold exprQ_10
  refine ⟨leL_refl _, leObL_refl _, fun h => absurd (of_decide_eq_true h) (by omega), fun _ => ?_⟩
  repeat' (first | exact leL_refl _ | exact leObL_refl _ | with_reducible exact hR | with_reducible exact hR' _ _ | with_reducible exact hN' | with_reducible exact hN2 | (refine And.intro ?_ ?_) | intro _)
  all_goals first
    | trivial
    | omega
    | (exfalso; have := of_decide_eq_true ‹decide ((L.length : Int) > 0) = true›; omega)
    | (exfalso; have := of_decide_eq_false ‹decide ((L.length : Int) > 0) = false›; omega)
    | (simp only [ByteArray.size_append, sz_mk, List.size_toArray, List.length_cons, List.length_nil]; omega)
    | (simp only [lo, hi, List.length_append, List.length_cons, List.length_nil]; omega)
    | exact (leS_int _ _ _).2 (by omega)
    | exact strF_snoc rfl (by assumption)
    | exact strF_pre (pre_lt (by assumption))
    | exact len_cut
    | (simp only [List.length_append, List.length_cons, List.length_nil]; done)
    | exact gives2 (hp.1 rfl) (leS_refl _) ⟨leOb_refl _, trivial, ⟨rfl, rfl, len_cut, fun k hk j _ => strF_pre (pre_lt hk)⟩, trivial⟩
    | exact gives2 (hp.1 (by simp only [*, Bool.or_true, Bool.true_or, Bool.or_false, Bool.false_or])) (leS_refl _) (leOO_refl _)
    | exact gives2 (hp.2 (by simp only [*, Bool.or_true, Bool.true_or, Bool.or_false, Bool.false_or])) (leS_refl _) (leOO_refl _)
set_option maxRecDepth 100000 in
theorem expr_11 {l : Rw} {d : Nat} (hS : ∀ L p, Ctr prog f_sub suArgs (suObs l (d + 1) L p) (subO l d L p)) (hE : ∀ L p, Ctr prog f_expr (exArgs d) (exObs l L p) (exprO l d L p)) (L : List ByteArray) (p : Nat) (hk : pickedS (rw' l p 0) 20 = 11) :
    Ctr prog f_expr (exArgs (d + 1)) (exObs l L p) (exprO l (d + 1) L p) := by
  refine ctr_fn mixed (N := 377) (fn := c_expr) (c := bodyOf c_expr) (ks := exK_11 l d L p) (ls := []) (by kernel_rfl) (by kernel_rfl) (by kernel_rfl)
    (all_cons (nxF_ok _ _ _ _) (all_cons (pkF_ok _ _) (all_cons pickedF_ok (all_cons (suF_ok hS _ _) all_nil)))) fin0 (no_loops (by kernel_rfl)) (by kernel_rfl) (Q := exprQ_11 l d L p) (fun post hp => ?_) (fun R => by kernel_rfl)
  obtain ⟨⟨hR, hN⟩, hp⟩ := hp
  have e : exprS l (d + 1) L p = ⟨(ByteArray.mk #[40]) ++ ([(ByteArray.mk #[102]), (ByteArray.mk #[103]), (ByteArray.mk #[104])].getD (pickedS (rw' l p 1) 3).toNat noS) ++ (ByteArray.mk #[32]) ++ (exprS l d L (p + 1)).t ++ (ByteArray.mk #[41]), (exprS l d L (p + 1)).p, (exprS l d L (p + 1)).m⟩ := by
    simp [exprS, hk]
  rw [e] at hp
  clear e
  have hR' : ∀ p j, isInt (rw' l p j) := hR
  have hlen := hN.2.1
  have hN' : okN L d := ⟨by have := hN.1; omega, by have := hN.2.1; omega, hN.2.2⟩
  have z : ∀ (L : List ByteArray) (p : Nat), okN L d → (exprS l d L p).t.size ≤ 4096 := fun L p h => by
    have z1 := exprS_size (l := l) d L p h
    have : 4 ^ d ≤ 4 ^ 3 := Nat.pow_le_pow_right (by decide) hN'.1
    omega
  have q0 := pickedS_range (n := rw' l p 1) (m := 3) (by decide)
  have b0 : ([(ByteArray.mk #[102]), (ByteArray.mk #[103]), (ByteArray.mk #[104])].getD (pickedS (rw' l p 1) 3).toNat (ByteArray.mk #[])).size ≤ 16 := getD_szc (by decide)
  have b1 : (exprS l d L (p + 1)).t.size ≤ 4096 := z _ _ (by first | exact hN' | exact okN_app hN (by first | decide | exact getD_szc (by decide)))
  unfold exprQ_11
  refine ⟨leL_refl _, leObL_refl _, fun h => absurd (of_decide_eq_true h) (by omega), fun _ => ?_⟩
  repeat' (first | exact leL_refl _ | exact leObL_refl _ | with_reducible exact hR | with_reducible exact hR' _ _ | with_reducible exact hN' | with_reducible exact hN2 | (refine And.intro ?_ ?_) | intro _)
  all_goals first
    | trivial
    | omega
    | (exfalso; have := of_decide_eq_true ‹decide ((L.length : Int) > 0) = true›; omega)
    | (exfalso; have := of_decide_eq_false ‹decide ((L.length : Int) > 0) = false›; omega)
    | (simp only [ByteArray.size_append, sz_mk, List.size_toArray, List.length_cons, List.length_nil]; omega)
    | (simp only [lo, hi, List.length_append, List.length_cons, List.length_nil]; omega)
    | exact (leS_int _ _ _).2 (by omega)
    | exact strF_snoc rfl (by assumption)
    | exact strF_pre (pre_lt (by assumption))
    | exact len_cut
    | (simp only [List.length_append, List.length_cons, List.length_nil]; done)
    | exact gives2 (hp.1 rfl) (leS_refl _) ⟨leOb_refl _, trivial, ⟨rfl, rfl, len_cut, fun k hk j _ => strF_pre (pre_lt hk)⟩, trivial⟩
    | exact gives2 (hp.1 (by simp only [*, Bool.or_true, Bool.true_or, Bool.or_false, Bool.false_or])) (leS_refl _) (leOO_refl _)
    | exact gives2 (hp.2 (by simp only [*, Bool.or_true, Bool.true_or, Bool.or_false, Bool.false_or])) (leS_refl _) (leOO_refl _)
set_option maxRecDepth 100000 in
theorem expr_12 {l : Rw} {d : Nat} (hS : ∀ L p, Ctr prog f_sub suArgs (suObs l (d + 1) L p) (subO l d L p)) (hE : ∀ L p, Ctr prog f_expr (exArgs d) (exObs l L p) (exprO l d L p)) (L : List ByteArray) (p : Nat) (hk : pickedS (rw' l p 0) 20 = 12) :
    Ctr prog f_expr (exArgs (d + 1)) (exObs l L p) (exprO l (d + 1) L p) := by
  refine ctr_fn mixed (N := 377) (fn := c_expr) (c := bodyOf c_expr) (ks := exK_12 l d L p) (ls := []) (by kernel_rfl) (by kernel_rfl) (by kernel_rfl)
    (all_cons (nxF_ok _ _ _ _) (all_cons (pkF_ok _ _) (all_cons pickedF_ok (all_cons (suF_ok hS _ _) all_nil)))) fin0 (no_loops (by kernel_rfl)) (by kernel_rfl) (Q := exprQ_12 l d L p) (fun post hp => ?_) (fun R => by kernel_rfl)
  obtain ⟨⟨hR, hN⟩, hp⟩ := hp
  have e : exprS l (d + 1) L p = ⟨(ByteArray.mk #[40]) ++ ([(ByteArray.mk #[102]), (ByteArray.mk #[103]), (ByteArray.mk #[104])].getD (pickedS (rw' l p 1) 3).toNat noS) ++ (ByteArray.mk #[32]) ++ (exprS l d L (p + 1)).t ++ (ByteArray.mk #[41]), (exprS l d L (p + 1)).p, (exprS l d L (p + 1)).m⟩ := by
    simp [exprS, hk]
  rw [e] at hp
  clear e
  have hR' : ∀ p j, isInt (rw' l p j) := hR
  have hlen := hN.2.1
  have hN' : okN L d := ⟨by have := hN.1; omega, by have := hN.2.1; omega, hN.2.2⟩
  have z : ∀ (L : List ByteArray) (p : Nat), okN L d → (exprS l d L p).t.size ≤ 4096 := fun L p h => by
    have z1 := exprS_size (l := l) d L p h
    have : 4 ^ d ≤ 4 ^ 3 := Nat.pow_le_pow_right (by decide) hN'.1
    omega
  have q0 := pickedS_range (n := rw' l p 1) (m := 3) (by decide)
  have b0 : ([(ByteArray.mk #[102]), (ByteArray.mk #[103]), (ByteArray.mk #[104])].getD (pickedS (rw' l p 1) 3).toNat (ByteArray.mk #[])).size ≤ 16 := getD_szc (by decide)
  have b1 : (exprS l d L (p + 1)).t.size ≤ 4096 := z _ _ (by first | exact hN' | exact okN_app hN (by first | decide | exact getD_szc (by decide)))
  unfold exprQ_12
  refine ⟨leL_refl _, leObL_refl _, fun h => absurd (of_decide_eq_true h) (by omega), fun _ => ?_⟩
  repeat' (first | exact leL_refl _ | exact leObL_refl _ | with_reducible exact hR | with_reducible exact hR' _ _ | with_reducible exact hN' | with_reducible exact hN2 | (refine And.intro ?_ ?_) | intro _)
  all_goals first
    | trivial
    | omega
    | (exfalso; have := of_decide_eq_true ‹decide ((L.length : Int) > 0) = true›; omega)
    | (exfalso; have := of_decide_eq_false ‹decide ((L.length : Int) > 0) = false›; omega)
    | (simp only [ByteArray.size_append, sz_mk, List.size_toArray, List.length_cons, List.length_nil]; omega)
    | (simp only [lo, hi, List.length_append, List.length_cons, List.length_nil]; omega)
    | exact (leS_int _ _ _).2 (by omega)
    | exact strF_snoc rfl (by assumption)
    | exact strF_pre (pre_lt (by assumption))
    | exact len_cut
    | (simp only [List.length_append, List.length_cons, List.length_nil]; done)
    | exact gives2 (hp.1 rfl) (leS_refl _) ⟨leOb_refl _, trivial, ⟨rfl, rfl, len_cut, fun k hk j _ => strF_pre (pre_lt hk)⟩, trivial⟩
    | exact gives2 (hp.1 (by simp only [*, Bool.or_true, Bool.true_or, Bool.or_false, Bool.false_or])) (leS_refl _) (leOO_refl _)
    | exact gives2 (hp.2 (by simp only [*, Bool.or_true, Bool.true_or, Bool.or_false, Bool.false_or])) (leS_refl _) (leOO_refl _)
set_option maxRecDepth 100000 in
theorem expr_13 {l : Rw} {d : Nat} (hS : ∀ L p, Ctr prog f_sub suArgs (suObs l (d + 1) L p) (subO l d L p)) (hE : ∀ L p, Ctr prog f_expr (exArgs d) (exObs l L p) (exprO l d L p)) (L : List ByteArray) (p : Nat) (hk : pickedS (rw' l p 0) 20 = 13) :
    Ctr prog f_expr (exArgs (d + 1)) (exObs l L p) (exprO l (d + 1) L p) := by
  refine ctr_fn mixed (N := 377) (fn := c_expr) (c := bodyOf c_expr) (ks := exK_13 l d L p) (ls := []) (by kernel_rfl) (by kernel_rfl) (by kernel_rfl)
    (all_cons (nxF_ok _ _ _ _) (all_cons (pkF_ok _ _) (all_cons (suF_ok hS _ _) (all_cons pickedF_ok (all_cons (exF_ok hE _ _) all_nil))))) fin0 (no_loops (by kernel_rfl)) (by kernel_rfl) (Q := exprQ_13 l d L p) (fun post hp => ?_) (fun R => by kernel_rfl)
  obtain ⟨⟨hR, hN⟩, hp⟩ := hp
  have e : exprS l (d + 1) L p = ⟨(ByteArray.mk #[40, 108, 101, 116, 32, 40, 40]) ++ ([(ByteArray.mk #[117]), (ByteArray.mk #[118]), (ByteArray.mk #[119])].getD (pickedS (rw' l p 1) 3).toNat noS) ++ (ByteArray.mk #[32]) ++ (exprS l d L (p + 1)).t ++ (ByteArray.mk #[41, 41, 32]) ++ (exprS l d (L ++ [([(ByteArray.mk #[117]), (ByteArray.mk #[118]), (ByteArray.mk #[119])].getD (pickedS (rw' l p 1) 3).toNat noS)]) (exprS l d L (p + 1)).p).t ++ (ByteArray.mk #[41]), (exprS l d (L ++ [([(ByteArray.mk #[117]), (ByteArray.mk #[118]), (ByteArray.mk #[119])].getD (pickedS (rw' l p 1) 3).toNat noS)]) (exprS l d L (p + 1)).p).p, true⟩ := by
    simp [exprS, hk]
  rw [e] at hp
  clear e
  have hR' : ∀ p j, isInt (rw' l p j) := hR
  have hlen := hN.2.1
  have hN' : okN L d := ⟨by have := hN.1; omega, by have := hN.2.1; omega, hN.2.2⟩
  have z : ∀ (L : List ByteArray) (p : Nat), okN L d → (exprS l d L p).t.size ≤ 4096 := fun L p h => by
    have z1 := exprS_size (l := l) d L p h
    have : 4 ^ d ≤ 4 ^ 3 := Nat.pow_le_pow_right (by decide) hN'.1
    omega
  have q0 := pickedS_range (n := rw' l p 1) (m := 3) (by decide)
  have hN2 : okN (L ++ [([(ByteArray.mk #[117]), (ByteArray.mk #[118]), (ByteArray.mk #[119])].getD (pickedS (rw' l p 1) 3).toNat noS)]) d := okN_app hN (by first | decide | exact getD_szc (by decide))
  have b0 : ([(ByteArray.mk #[117]), (ByteArray.mk #[118]), (ByteArray.mk #[119])].getD (pickedS (rw' l p 1) 3).toNat (ByteArray.mk #[])).size ≤ 16 := getD_szc (by decide)
  have b1 : (exprS l d L (p + 1)).t.size ≤ 4096 := z _ _ (by first | exact hN' | exact okN_app hN (by first | decide | exact getD_szc (by decide)))
  have b2 : (exprS l d (L ++ [([(ByteArray.mk #[117]), (ByteArray.mk #[118]), (ByteArray.mk #[119])].getD (pickedS (rw' l p 1) 3).toNat noS)]) (exprS l d L (p + 1)).p).t.size ≤ 4096 := z _ _ (by first | exact hN' | exact okN_app hN (by first | decide | exact getD_szc (by decide)))
  unfold exprQ_13
  refine ⟨leL_refl _, leObL_refl _, fun h => absurd (of_decide_eq_true h) (by omega), fun _ => ?_⟩
  repeat' (first | exact leL_refl _ | exact leObL_refl _ | with_reducible exact hR | with_reducible exact hR' _ _ | with_reducible exact hN' | with_reducible exact hN2 | (refine And.intro ?_ ?_) | intro _)
  all_goals first
    | trivial
    | omega
    | (exfalso; have := of_decide_eq_true ‹decide ((L.length : Int) > 0) = true›; omega)
    | (exfalso; have := of_decide_eq_false ‹decide ((L.length : Int) > 0) = false›; omega)
    | (simp only [ByteArray.size_append, sz_mk, List.size_toArray, List.length_cons, List.length_nil]; omega)
    | (simp only [lo, hi, List.length_append, List.length_cons, List.length_nil]; omega)
    | exact (leS_int _ _ _).2 (by omega)
    | exact strF_snoc rfl (by assumption)
    | exact strF_pre (pre_lt (by assumption))
    | exact len_cut
    | (simp only [List.length_append, List.length_cons, List.length_nil]; done)
    | exact gives2 (hp.1 rfl) (leS_refl _) ⟨leOb_refl _, trivial, ⟨rfl, rfl, len_cut, fun k hk j _ => strF_pre (pre_lt hk)⟩, trivial⟩
    | exact gives2 (hp.1 (by simp only [*, Bool.or_true, Bool.true_or, Bool.or_false, Bool.false_or])) (leS_refl _) (leOO_refl _)
    | exact gives2 (hp.2 (by simp only [*, Bool.or_true, Bool.true_or, Bool.or_false, Bool.false_or])) (leS_refl _) (leOO_refl _)
set_option maxRecDepth 100000 in
theorem expr_14 {l : Rw} {d : Nat} (hS : ∀ L p, Ctr prog f_sub suArgs (suObs l (d + 1) L p) (subO l d L p)) (hE : ∀ L p, Ctr prog f_expr (exArgs d) (exObs l L p) (exprO l d L p)) (L : List ByteArray) (p : Nat) (hk : pickedS (rw' l p 0) 20 = 14) :
    Ctr prog f_expr (exArgs (d + 1)) (exObs l L p) (exprO l (d + 1) L p) := by
  refine ctr_fn mixed (N := 377) (fn := c_expr) (c := bodyOf c_expr) (ks := exK_14 l d L p) (ls := []) (by kernel_rfl) (by kernel_rfl) (by kernel_rfl)
    (all_cons (nxF_ok _ _ _ _) (all_cons (pkF_ok _ _) (all_cons pickedF_ok (all_cons (exF_ok hE _ _) (all_cons (suF_ok hS _ _) all_nil))))) fin0 (no_loops (by kernel_rfl)) (by kernel_rfl) (Q := exprQ_14 l d L p) (fun post hp => ?_) (fun R => by kernel_rfl)
  obtain ⟨⟨hR, hN⟩, hp⟩ := hp
  have e : exprS l (d + 1) L p = ⟨(ByteArray.mk #[40, 40, 108, 97, 109, 98, 100, 97, 32, 40]) ++ ([(ByteArray.mk #[109]), (ByteArray.mk #[110])].getD (pickedS (rw' l p 1) 2).toNat noS) ++ (ByteArray.mk #[41, 32]) ++ (exprS l d (L ++ [([(ByteArray.mk #[109]), (ByteArray.mk #[110])].getD (pickedS (rw' l p 1) 2).toNat noS)]) (p + 1)).t ++ (ByteArray.mk #[41]) ++ (ByteArray.mk #[32]) ++ (exprS l d L (exprS l d (L ++ [([(ByteArray.mk #[109]), (ByteArray.mk #[110])].getD (pickedS (rw' l p 1) 2).toNat noS)]) (p + 1)).p).t ++ (ByteArray.mk #[41]), (exprS l d L (exprS l d (L ++ [([(ByteArray.mk #[109]), (ByteArray.mk #[110])].getD (pickedS (rw' l p 1) 2).toNat noS)]) (p + 1)).p).p, true⟩ := by
    simp [exprS, hk]
  rw [e] at hp
  clear e
  have hR' : ∀ p j, isInt (rw' l p j) := hR
  have hlen := hN.2.1
  have hN' : okN L d := ⟨by have := hN.1; omega, by have := hN.2.1; omega, hN.2.2⟩
  have z : ∀ (L : List ByteArray) (p : Nat), okN L d → (exprS l d L p).t.size ≤ 4096 := fun L p h => by
    have z1 := exprS_size (l := l) d L p h
    have : 4 ^ d ≤ 4 ^ 3 := Nat.pow_le_pow_right (by decide) hN'.1
    omega
  have q0 := pickedS_range (n := rw' l p 1) (m := 2) (by decide)
  have hN2 : okN (L ++ [([(ByteArray.mk #[109]), (ByteArray.mk #[110])].getD (pickedS (rw' l p 1) 2).toNat noS)]) d := okN_app hN (by first | decide | exact getD_szc (by decide))
  have b0 : ([(ByteArray.mk #[109]), (ByteArray.mk #[110])].getD (pickedS (rw' l p 1) 2).toNat (ByteArray.mk #[])).size ≤ 16 := getD_szc (by decide)
  have b1 : (exprS l d (L ++ [([(ByteArray.mk #[109]), (ByteArray.mk #[110])].getD (pickedS (rw' l p 1) 2).toNat noS)]) (p + 1)).t.size ≤ 4096 := z _ _ (by first | exact hN' | exact okN_app hN (by first | decide | exact getD_szc (by decide)))
  have b2 : (exprS l d L (exprS l d (L ++ [([(ByteArray.mk #[109]), (ByteArray.mk #[110])].getD (pickedS (rw' l p 1) 2).toNat noS)]) (p + 1)).p).t.size ≤ 4096 := z _ _ (by first | exact hN' | exact okN_app hN (by first | decide | exact getD_szc (by decide)))
  unfold exprQ_14
  refine ⟨leL_refl _, leObL_refl _, fun h => absurd (of_decide_eq_true h) (by omega), fun _ => ?_⟩
  repeat' (first | exact leL_refl _ | exact leObL_refl _ | with_reducible exact hR | with_reducible exact hR' _ _ | with_reducible exact hN' | with_reducible exact hN2 | (refine And.intro ?_ ?_) | intro _)
  all_goals first
    | trivial
    | omega
    | (exfalso; have := of_decide_eq_true ‹decide ((L.length : Int) > 0) = true›; omega)
    | (exfalso; have := of_decide_eq_false ‹decide ((L.length : Int) > 0) = false›; omega)
    | (simp only [ByteArray.size_append, sz_mk, List.size_toArray, List.length_cons, List.length_nil]; omega)
    | (simp only [lo, hi, List.length_append, List.length_cons, List.length_nil]; omega)
    | exact (leS_int _ _ _).2 (by omega)
    | exact strF_snoc rfl (by assumption)
    | exact strF_pre (pre_lt (by assumption))
    | exact len_cut
    | (simp only [List.length_append, List.length_cons, List.length_nil]; done)
    | exact gives2 (hp.1 rfl) (leS_refl _) ⟨leOb_refl _, trivial, ⟨rfl, rfl, len_cut, fun k hk j _ => strF_pre (pre_lt hk)⟩, trivial⟩
    | exact gives2 (hp.1 (by simp only [*, Bool.or_true, Bool.true_or, Bool.or_false, Bool.false_or])) (leS_refl _) (leOO_refl _)
    | exact gives2 (hp.2 (by simp only [*, Bool.or_true, Bool.true_or, Bool.or_false, Bool.false_or])) (leS_refl _) (leOO_refl _)
set_option maxRecDepth 100000 in
theorem expr_15 {l : Rw} {d : Nat} (hS : ∀ L p, Ctr prog f_sub suArgs (suObs l (d + 1) L p) (subO l d L p)) (hE : ∀ L p, Ctr prog f_expr (exArgs d) (exObs l L p) (exprO l d L p)) (L : List ByteArray) (p : Nat) (hk : pickedS (rw' l p 0) 20 = 15) :
    Ctr prog f_expr (exArgs (d + 1)) (exObs l L p) (exprO l (d + 1) L p) := by
  refine ctr_fn mixed (N := 377) (fn := c_expr) (c := bodyOf c_expr) (ks := exK_15 l d L p) (ls := []) (by kernel_rfl) (by kernel_rfl) (by kernel_rfl)
    (all_cons (nxF_ok _ _ _ _) (all_cons (pkF_ok _ _) (all_cons (suF_ok hS _ _) (all_cons (suF_ok hS _ _) all_nil)))) fin0 (no_loops (by kernel_rfl)) (by kernel_rfl) (Q := exprQ_15 l d L p) (fun post hp => ?_) (fun R => by kernel_rfl)
  obtain ⟨⟨hR, hN⟩, hp⟩ := hp
  have e : exprS l (d + 1) L p = ⟨(ByteArray.mk #[40, 98, 101, 103, 105, 110, 32]) ++ (exprS l d L (p + 1)).t ++ (ByteArray.mk #[32]) ++ (exprS l d L (exprS l d L (p + 1)).p).t ++ (ByteArray.mk #[41]), (exprS l d L (exprS l d L (p + 1)).p).p, (exprS l d L (p + 1)).m || (exprS l d L (exprS l d L (p + 1)).p).m⟩ := by
    simp [exprS, hk]
  rw [e] at hp
  clear e
  have hR' : ∀ p j, isInt (rw' l p j) := hR
  have hlen := hN.2.1
  have hN' : okN L d := ⟨by have := hN.1; omega, by have := hN.2.1; omega, hN.2.2⟩
  have z : ∀ (L : List ByteArray) (p : Nat), okN L d → (exprS l d L p).t.size ≤ 4096 := fun L p h => by
    have z1 := exprS_size (l := l) d L p h
    have : 4 ^ d ≤ 4 ^ 3 := Nat.pow_le_pow_right (by decide) hN'.1
    omega
  have b0 : (exprS l d L (p + 1)).t.size ≤ 4096 := z _ _ (by first | exact hN' | exact okN_app hN (by first | decide | exact getD_szc (by decide)))
  have b1 : (exprS l d L (exprS l d L (p + 1)).p).t.size ≤ 4096 := z _ _ (by first | exact hN' | exact okN_app hN (by first | decide | exact getD_szc (by decide)))
  unfold exprQ_15
  refine ⟨leL_refl _, leObL_refl _, fun h => absurd (of_decide_eq_true h) (by omega), fun _ => ?_⟩
  repeat' (first | exact leL_refl _ | exact leObL_refl _ | with_reducible exact hR | with_reducible exact hR' _ _ | with_reducible exact hN' | with_reducible exact hN2 | (refine And.intro ?_ ?_) | intro _)
  all_goals first
    | trivial
    | omega
    | (exfalso; have := of_decide_eq_true ‹decide ((L.length : Int) > 0) = true›; omega)
    | (exfalso; have := of_decide_eq_false ‹decide ((L.length : Int) > 0) = false›; omega)
    | (simp only [ByteArray.size_append, sz_mk, List.size_toArray, List.length_cons, List.length_nil]; omega)
    | (simp only [lo, hi, List.length_append, List.length_cons, List.length_nil]; omega)
    | exact (leS_int _ _ _).2 (by omega)
    | exact strF_snoc rfl (by assumption)
    | exact strF_pre (pre_lt (by assumption))
    | exact len_cut
    | (simp only [List.length_append, List.length_cons, List.length_nil]; done)
    | exact gives2 (hp.1 rfl) (leS_refl _) ⟨leOb_refl _, trivial, ⟨rfl, rfl, len_cut, fun k hk j _ => strF_pre (pre_lt hk)⟩, trivial⟩
    | exact gives2 (hp.1 (by simp only [*, Bool.or_true, Bool.true_or, Bool.or_false, Bool.false_or])) (leS_refl _) (leOO_refl _)
    | exact gives2 (hp.2 (by simp only [*, Bool.or_true, Bool.true_or, Bool.or_false, Bool.false_or])) (leS_refl _) (leOO_refl _)
set_option maxRecDepth 100000 in
theorem expr_16a {l : Rw} {d : Nat} (hS : ∀ L p, Ctr prog f_sub suArgs (suObs l (d + 1) L p) (subO l d L p)) (hE : ∀ L p, Ctr prog f_expr (exArgs d) (exObs l L p) (exprO l d L p)) (L : List ByteArray) (p : Nat) (hk : pickedS (rw' l p 0) 20 = 16) (hL : 0 < L.length) :
    Ctr prog f_expr (exArgs (d + 1)) (exObs l L p) (exprO l (d + 1) L p) := by
  refine ctr_fn mixed (N := 377) (fn := c_expr) (c := bodyOf c_expr) (ks := exK_16 l d L p) (ls := []) (by kernel_rfl) (by kernel_rfl) (by kernel_rfl)
    (all_cons (nxF_ok _ _ _ _) (all_cons (pkF_ok _ _) (all_cons (lcF_ok _ _ _ _ _) (all_cons (suF_ok hS _ _) (all_cons (lcF_ok _ _ _ _ _) (all_cons (suF_ok hS _ _) all_nil)))))) fin0 (no_loops (by kernel_rfl)) (by kernel_rfl) (Q := exprQ_16 l d L p) (fun post hp => ?_) (fun R => by kernel_rfl)
  obtain ⟨⟨hR, hN⟩, hp⟩ := hp
  have e : exprS l (d + 1) L p = ⟨(ByteArray.mk #[40, 98, 101, 103, 105, 110, 32, 40, 115, 101, 116, 33, 32]) ++ localS L (rw' l p 1) ++ (ByteArray.mk #[32]) ++ (exprS l d L (p + 1)).t ++ (ByteArray.mk #[41, 32]) ++ localS L (rw' l p 2) ++ (ByteArray.mk #[41]), (exprS l d L (p + 1)).p, (exprS l d L (p + 1)).m⟩ := by
    simp [exprS, hk, hL]
  rw [e] at hp
  clear e
  have hR' : ∀ p j, isInt (rw' l p j) := hR
  have hlen := hN.2.1
  have hN' : okN L d := ⟨by have := hN.1; omega, by have := hN.2.1; omega, hN.2.2⟩
  have z : ∀ (L : List ByteArray) (p : Nat), okN L d → (exprS l d L p).t.size ≤ 4096 := fun L p h => by
    have z1 := exprS_size (l := l) d L p h
    have : 4 ^ d ≤ 4 ^ 3 := Nat.pow_le_pow_right (by decide) hN'.1
    omega
  have b0 : (localS L (rw' l p 1)).size ≤ 21 := localS_size hN _
  have b1 : (exprS l d L (p + 1)).t.size ≤ 4096 := z _ _ (by first | exact hN' | exact okN_app hN (by first | decide | exact getD_szc (by decide)))
  have b2 : (localS L (rw' l p 2)).size ≤ 21 := localS_size hN _
  unfold exprQ_16
  refine ⟨leL_refl _, leObL_refl _, fun h => absurd (of_decide_eq_true h) (by omega), fun _ => ?_⟩
  repeat' (first | exact leL_refl _ | exact leObL_refl _ | with_reducible exact hR | with_reducible exact hR' _ _ | with_reducible exact hN' | with_reducible exact hN2 | (refine And.intro ?_ ?_) | intro _)
  all_goals first
    | trivial
    | omega
    | (exfalso; have := of_decide_eq_true ‹decide ((L.length : Int) > 0) = true›; omega)
    | (exfalso; have := of_decide_eq_false ‹decide ((L.length : Int) > 0) = false›; omega)
    | (simp only [ByteArray.size_append, sz_mk, List.size_toArray, List.length_cons, List.length_nil]; omega)
    | (simp only [lo, hi, List.length_append, List.length_cons, List.length_nil]; omega)
    | exact (leS_int _ _ _).2 (by omega)
    | exact strF_snoc rfl (by assumption)
    | exact strF_pre (pre_lt (by assumption))
    | exact len_cut
    | (simp only [List.length_append, List.length_cons, List.length_nil]; done)
    | exact gives2 (hp.1 rfl) (leS_refl _) ⟨leOb_refl _, trivial, ⟨rfl, rfl, len_cut, fun k hk j _ => strF_pre (pre_lt hk)⟩, trivial⟩
    | exact gives2 (hp.1 (by simp only [*, Bool.or_true, Bool.true_or, Bool.or_false, Bool.false_or])) (leS_refl _) (leOO_refl _)
    | exact gives2 (hp.2 (by simp only [*, Bool.or_true, Bool.true_or, Bool.or_false, Bool.false_or])) (leS_refl _) (leOO_refl _)
set_option maxRecDepth 100000 in
theorem expr_16b {l : Rw} {d : Nat} (hS : ∀ L p, Ctr prog f_sub suArgs (suObs l (d + 1) L p) (subO l d L p)) (hE : ∀ L p, Ctr prog f_expr (exArgs d) (exObs l L p) (exprO l d L p)) (L : List ByteArray) (p : Nat) (hk : pickedS (rw' l p 0) 20 = 16) (hL : L.length = 0) :
    Ctr prog f_expr (exArgs (d + 1)) (exObs l L p) (exprO l (d + 1) L p) := by
  refine ctr_fn mixed (N := 377) (fn := c_expr) (c := bodyOf c_expr) (ks := exK_16 l d L p) (ls := []) (by kernel_rfl) (by kernel_rfl) (by kernel_rfl)
    (all_cons (nxF_ok _ _ _ _) (all_cons (pkF_ok _ _) (all_cons (lcF_ok _ _ _ _ _) (all_cons (suF_ok hS _ _) (all_cons (lcF_ok _ _ _ _ _) (all_cons (suF_ok hS _ _) all_nil)))))) fin0 (no_loops (by kernel_rfl)) (by kernel_rfl) (Q := exprQ_16 l d L p) (fun post hp => ?_) (fun R => by kernel_rfl)
  obtain ⟨⟨hR, hN⟩, hp⟩ := hp
  have e : exprS l (d + 1) L p = ⟨(ByteArray.mk #[40, 98, 101, 103, 105, 110, 32, 40, 115, 101, 116, 33, 32, 120, 32]) ++ (exprS l d L (p + 1)).t ++ (ByteArray.mk #[41, 32, 120, 41]), (exprS l d L (p + 1)).p, (exprS l d L (p + 1)).m⟩ := by
    simp [exprS, hk, hL]
  rw [e] at hp
  clear e
  have hR' : ∀ p j, isInt (rw' l p j) := hR
  have hlen := hN.2.1
  have hN' : okN L d := ⟨by have := hN.1; omega, by have := hN.2.1; omega, hN.2.2⟩
  have z : ∀ (L : List ByteArray) (p : Nat), okN L d → (exprS l d L p).t.size ≤ 4096 := fun L p h => by
    have z1 := exprS_size (l := l) d L p h
    have : 4 ^ d ≤ 4 ^ 3 := Nat.pow_le_pow_right (by decide) hN'.1
    omega
  have b0 : (exprS l d L (p + 1)).t.size ≤ 4096 := z _ _ (by first | exact hN' | exact okN_app hN (by first | decide | exact getD_szc (by decide)))
  unfold exprQ_16
  refine ⟨leL_refl _, leObL_refl _, fun h => absurd (of_decide_eq_true h) (by omega), fun _ => ?_⟩
  repeat' (first | exact leL_refl _ | exact leObL_refl _ | with_reducible exact hR | with_reducible exact hR' _ _ | with_reducible exact hN' | with_reducible exact hN2 | (refine And.intro ?_ ?_) | intro _)
  all_goals first
    | trivial
    | omega
    | (exfalso; have := of_decide_eq_true ‹decide ((L.length : Int) > 0) = true›; omega)
    | (exfalso; have := of_decide_eq_false ‹decide ((L.length : Int) > 0) = false›; omega)
    | (simp only [ByteArray.size_append, sz_mk, List.size_toArray, List.length_cons, List.length_nil]; omega)
    | (simp only [lo, hi, List.length_append, List.length_cons, List.length_nil]; omega)
    | exact (leS_int _ _ _).2 (by omega)
    | exact strF_snoc rfl (by assumption)
    | exact strF_pre (pre_lt (by assumption))
    | exact len_cut
    | (simp only [List.length_append, List.length_cons, List.length_nil]; done)
    | exact gives2 (hp.1 rfl) (leS_refl _) ⟨leOb_refl _, trivial, ⟨rfl, rfl, len_cut, fun k hk j _ => strF_pre (pre_lt hk)⟩, trivial⟩
    | exact gives2 (hp.1 (by simp only [*, Bool.or_true, Bool.true_or, Bool.or_false, Bool.false_or])) (leS_refl _) (leOO_refl _)
    | exact gives2 (hp.2 (by simp only [*, Bool.or_true, Bool.true_or, Bool.or_false, Bool.false_or])) (leS_refl _) (leOO_refl _)
set_option maxRecDepth 100000 in
theorem expr_17 {l : Rw} {d : Nat} (hS : ∀ L p, Ctr prog f_sub suArgs (suObs l (d + 1) L p) (subO l d L p)) (hE : ∀ L p, Ctr prog f_expr (exArgs d) (exObs l L p) (exprO l d L p)) (L : List ByteArray) (p : Nat) (hk : pickedS (rw' l p 0) 20 = 17) :
    Ctr prog f_expr (exArgs (d + 1)) (exObs l L p) (exprO l (d + 1) L p) := by
  refine ctr_fn mixed (N := 377) (fn := c_expr) (c := bodyOf c_expr) (ks := exK_17 l d L p) (ls := []) (by kernel_rfl) (by kernel_rfl) (by kernel_rfl)
    (all_cons (nxF_ok _ _ _ _) (all_cons (pkF_ok _ _) (all_cons pickedF_ok (all_cons (suF_ok hS _ _) all_nil)))) fin0 (no_loops (by kernel_rfl)) (by kernel_rfl) (Q := exprQ_17 l d L p) (fun post hp => ?_) (fun R => by kernel_rfl)
  obtain ⟨⟨hR, hN⟩, hp⟩ := hp
  have e : exprS l (d + 1) L p = ⟨(ByteArray.mk #[40, 115, 101, 116, 33, 32]) ++ ([(ByteArray.mk #[120]), (ByteArray.mk #[121])].getD (pickedS (rw' l p 1) 2).toNat noS) ++ (ByteArray.mk #[32]) ++ (exprS l d L (p + 1)).t ++ (ByteArray.mk #[41]), (exprS l d L (p + 1)).p, (exprS l d L (p + 1)).m⟩ := by
    simp [exprS, hk]
  rw [e] at hp
  clear e
  have hR' : ∀ p j, isInt (rw' l p j) := hR
  have hlen := hN.2.1
  have hN' : okN L d := ⟨by have := hN.1; omega, by have := hN.2.1; omega, hN.2.2⟩
  have z : ∀ (L : List ByteArray) (p : Nat), okN L d → (exprS l d L p).t.size ≤ 4096 := fun L p h => by
    have z1 := exprS_size (l := l) d L p h
    have : 4 ^ d ≤ 4 ^ 3 := Nat.pow_le_pow_right (by decide) hN'.1
    omega
  have q0 := pickedS_range (n := rw' l p 1) (m := 2) (by decide)
  have b0 : ([(ByteArray.mk #[120]), (ByteArray.mk #[121])].getD (pickedS (rw' l p 1) 2).toNat (ByteArray.mk #[])).size ≤ 16 := getD_szc (by decide)
  have b1 : (exprS l d L (p + 1)).t.size ≤ 4096 := z _ _ (by first | exact hN' | exact okN_app hN (by first | decide | exact getD_szc (by decide)))
  unfold exprQ_17
  refine ⟨leL_refl _, leObL_refl _, fun h => absurd (of_decide_eq_true h) (by omega), fun _ => ?_⟩
  repeat' (first | exact leL_refl _ | exact leObL_refl _ | with_reducible exact hR | with_reducible exact hR' _ _ | with_reducible exact hN' | with_reducible exact hN2 | (refine And.intro ?_ ?_) | intro _)
  all_goals first
    | trivial
    | omega
    | (exfalso; have := of_decide_eq_true ‹decide ((L.length : Int) > 0) = true›; omega)
    | (exfalso; have := of_decide_eq_false ‹decide ((L.length : Int) > 0) = false›; omega)
    | (simp only [ByteArray.size_append, sz_mk, List.size_toArray, List.length_cons, List.length_nil]; omega)
    | (simp only [lo, hi, List.length_append, List.length_cons, List.length_nil]; omega)
    | exact (leS_int _ _ _).2 (by omega)
    | exact strF_snoc rfl (by assumption)
    | exact strF_pre (pre_lt (by assumption))
    | exact len_cut
    | (simp only [List.length_append, List.length_cons, List.length_nil]; done)
    | exact gives2 (hp.1 rfl) (leS_refl _) ⟨leOb_refl _, trivial, ⟨rfl, rfl, len_cut, fun k hk j _ => strF_pre (pre_lt hk)⟩, trivial⟩
    | exact gives2 (hp.1 (by simp only [*, Bool.or_true, Bool.true_or, Bool.or_false, Bool.false_or])) (leS_refl _) (leOO_refl _)
    | exact gives2 (hp.2 (by simp only [*, Bool.or_true, Bool.true_or, Bool.or_false, Bool.false_or])) (leS_refl _) (leOO_refl _)
set_option maxRecDepth 100000 in
theorem expr_18 {l : Rw} {d : Nat} (hS : ∀ L p, Ctr prog f_sub suArgs (suObs l (d + 1) L p) (subO l d L p)) (hE : ∀ L p, Ctr prog f_expr (exArgs d) (exObs l L p) (exprO l d L p)) (L : List ByteArray) (p : Nat) (hk : pickedS (rw' l p 0) 20 = 18) :
    Ctr prog f_expr (exArgs (d + 1)) (exObs l L p) (exprO l (d + 1) L p) := by
  refine ctr_fn mixed (N := 377) (fn := c_expr) (c := bodyOf c_expr) (ks := exK_18 l d L p) (ls := []) (by kernel_rfl) (by kernel_rfl) (by kernel_rfl)
    (all_cons (nxF_ok _ _ _ _) (all_cons (pkF_ok _ _) (all_cons pickedF_ok (all_cons itF_ok (all_cons (exF_ok hE _ _) all_nil))))) fin0 (no_loops (by kernel_rfl)) (by kernel_rfl) (Q := exprQ_18 l d L p) (fun post hp => ?_) (fun R => by kernel_rfl)
  obtain ⟨⟨hR, hN⟩, hp⟩ := hp
  have e : exprS l (d + 1) L p = ⟨(ByteArray.mk #[40, 108, 101, 116, 32, 40, 40, 107, 32]) ++ itoaB (pickedS (rw' l p 1) 5) ++ (ByteArray.mk #[41, 41, 32, 40, 40, 108, 97, 109, 98, 100, 97, 32, 40, 41, 32, 40, 98, 101, 103, 105, 110, 32, 40, 115, 101, 116, 33, 32, 107, 32, 40, 43, 32, 107, 32, 49, 41, 41, 32]) ++ (exprS l d (L ++ [(ByteArray.mk #[107])]) (p + 1)).t ++ (ByteArray.mk #[41, 41, 41, 41]), (exprS l d (L ++ [(ByteArray.mk #[107])]) (p + 1)).p, true⟩ := by
    simp [exprS, hk]
  rw [e] at hp
  clear e
  have hR' : ∀ p j, isInt (rw' l p j) := hR
  have hlen := hN.2.1
  have hN' : okN L d := ⟨by have := hN.1; omega, by have := hN.2.1; omega, hN.2.2⟩
  have z : ∀ (L : List ByteArray) (p : Nat), okN L d → (exprS l d L p).t.size ≤ 4096 := fun L p h => by
    have z1 := exprS_size (l := l) d L p h
    have : 4 ^ d ≤ 4 ^ 3 := Nat.pow_le_pow_right (by decide) hN'.1
    omega
  have q0 := pickedS_range (n := rw' l p 1) (m := 5) (by decide)
  have hN2 : okN (L ++ [(ByteArray.mk #[107])]) d := okN_app hN (by first | decide | exact getD_szc (by decide))
  have b0 : (itoaB (pickedS (rw' l p 1) 5)).size ≤ 21 := itoaB_size (by omega) (by omega)
  have b1 : (exprS l d (L ++ [(ByteArray.mk #[107])]) (p + 1)).t.size ≤ 4096 := z _ _ (by first | exact hN' | exact okN_app hN (by first | decide | exact getD_szc (by decide)))
  unfold exprQ_18
  refine ⟨leL_refl _, leObL_refl _, fun h => absurd (of_decide_eq_true h) (by omega), fun _ => ?_⟩
  repeat' (first | exact leL_refl _ | exact leObL_refl _ | with_reducible exact hR | with_reducible exact hR' _ _ | with_reducible exact hN' | with_reducible exact hN2 | (refine And.intro ?_ ?_) | intro _)
  all_goals first
    | trivial
    | omega
    | (exfalso; have := of_decide_eq_true ‹decide ((L.length : Int) > 0) = true›; omega)
    | (exfalso; have := of_decide_eq_false ‹decide ((L.length : Int) > 0) = false›; omega)
    | (simp only [ByteArray.size_append, sz_mk, List.size_toArray, List.length_cons, List.length_nil]; omega)
    | (simp only [lo, hi, List.length_append, List.length_cons, List.length_nil]; omega)
    | exact (leS_int _ _ _).2 (by omega)
    | exact strF_snoc rfl (by assumption)
    | exact strF_pre (pre_lt (by assumption))
    | exact len_cut
    | (simp only [List.length_append, List.length_cons, List.length_nil]; done)
    | exact gives2 (hp.1 rfl) (leS_refl _) ⟨leOb_refl _, trivial, ⟨rfl, rfl, len_cut, fun k hk j _ => strF_pre (pre_lt hk)⟩, trivial⟩
    | exact gives2 (hp.1 (by simp only [*, Bool.or_true, Bool.true_or, Bool.or_false, Bool.false_or])) (leS_refl _) (leOO_refl _)
    | exact gives2 (hp.2 (by simp only [*, Bool.or_true, Bool.true_or, Bool.or_false, Bool.false_or])) (leS_refl _) (leOO_refl _)
set_option maxRecDepth 100000 in
theorem expr_19 {l : Rw} {d : Nat} (hS : ∀ L p, Ctr prog f_sub suArgs (suObs l (d + 1) L p) (subO l d L p)) (hE : ∀ L p, Ctr prog f_expr (exArgs d) (exObs l L p) (exprO l d L p)) (L : List ByteArray) (p : Nat) (hk : pickedS (rw' l p 0) 20 = 19) :
    Ctr prog f_expr (exArgs (d + 1)) (exObs l L p) (exprO l (d + 1) L p) := by
  refine ctr_fn mixed (N := 377) (fn := c_expr) (c := bodyOf c_expr) (ks := exK_19 l d L p) (ls := []) (by kernel_rfl) (by kernel_rfl) (by kernel_rfl)
    (all_cons (nxF_ok _ _ _ _) (all_cons (pkF_ok _ _) (all_cons pickedF_ok (all_cons itF_ok (all_cons pickedF_ok all_nil))))) fin0 (no_loops (by kernel_rfl)) (by kernel_rfl) (Q := exprQ_19 l d L p) (fun post hp => ?_) (fun R => by kernel_rfl)
  obtain ⟨⟨hR, hN⟩, hp⟩ := hp
  have e : exprS l (d + 1) L p = ⟨(ByteArray.mk #[39, 40]) ++ itoaB (pickedS (rw' l p 1) 9) ++ (ByteArray.mk #[32, 40, 98, 32, 99, 41, 32]) ++ ([(ByteArray.mk #[35, 116]), (ByteArray.mk #[40, 41])].getD (pickedS (rw' l p 2) 2).toNat noS) ++ (ByteArray.mk #[41]), (p + 1), false⟩ := by
    simp [exprS, hk]
  rw [e] at hp
  clear e
  have hR' : ∀ p j, isInt (rw' l p j) := hR
  have hlen := hN.2.1
  have hN' : okN L d := ⟨by have := hN.1; omega, by have := hN.2.1; omega, hN.2.2⟩
  have z : ∀ (L : List ByteArray) (p : Nat), okN L d → (exprS l d L p).t.size ≤ 4096 := fun L p h => by
    have z1 := exprS_size (l := l) d L p h
    have : 4 ^ d ≤ 4 ^ 3 := Nat.pow_le_pow_right (by decide) hN'.1
    omega
  have q0 := pickedS_range (n := rw' l p 1) (m := 9) (by decide)
  have q1 := pickedS_range (n := rw' l p 2) (m := 2) (by decide)
  have b0 : (itoaB (pickedS (rw' l p 1) 9)).size ≤ 21 := itoaB_size (by omega) (by omega)
  have b1 : ([(ByteArray.mk #[35, 116]), (ByteArray.mk #[40, 41])].getD (pickedS (rw' l p 2) 2).toNat (ByteArray.mk #[])).size ≤ 16 := getD_szc (by decide)
  unfold exprQ_19
  refine ⟨leL_refl _, leObL_refl _, fun h => absurd (of_decide_eq_true h) (by omega), fun _ => ?_⟩
  repeat' (first | exact leL_refl _ | exact leObL_refl _ | with_reducible exact hR | with_reducible exact hR' _ _ | with_reducible exact hN' | with_reducible exact hN2 | (refine And.intro ?_ ?_) | intro _)
  all_goals first
    | trivial
    | omega
    | (exfalso; have := of_decide_eq_true ‹decide ((L.length : Int) > 0) = true›; omega)
    | (exfalso; have := of_decide_eq_false ‹decide ((L.length : Int) > 0) = false›; omega)
    | (simp only [ByteArray.size_append, sz_mk, List.size_toArray, List.length_cons, List.length_nil]; omega)
    | (simp only [lo, hi, List.length_append, List.length_cons, List.length_nil]; omega)
    | exact (leS_int _ _ _).2 (by omega)
    | exact strF_snoc rfl (by assumption)
    | exact strF_pre (pre_lt (by assumption))
    | exact len_cut
    | (simp only [List.length_append, List.length_cons, List.length_nil]; done)
    | exact gives2 (hp.1 rfl) (leS_refl _) ⟨leOb_refl _, trivial, ⟨rfl, rfl, len_cut, fun k hk j _ => strF_pre (pre_lt hk)⟩, trivial⟩
    | exact gives2 (hp.1 (by simp only [*, Bool.or_true, Bool.true_or, Bool.or_false, Bool.false_or])) (leS_refl _) (leOO_refl _)
    | exact gives2 (hp.2 (by simp only [*, Bool.or_true, Bool.true_or, Bool.or_false, Bool.false_or])) (leS_refl _) (leOO_refl _)
theorem picked20 (n : Int) : ∃ k : Nat, k < 20 ∧ pickedS n 20 = k := by
  have h := pickedS_range (n := n) (m := 20) (by decide)
  exact ⟨(pickedS n 20).toNat, by omega, by omega⟩
theorem expr_succ {l : Rw} {d : Nat} (hS : ∀ L p, Ctr prog f_sub suArgs (suObs l (d + 1) L p) (subO l d L p)) (hE : ∀ L p, Ctr prog f_expr (exArgs d) (exObs l L p) (exprO l d L p)) (L : List ByteArray) (p : Nat) :
    Ctr prog f_expr (exArgs (d + 1)) (exObs l L p) (exprO l (d + 1) L p) := by
  obtain ⟨k, hk, h⟩ := picked20 (rw' l p 0)
  match k, hk, h with
  | 0, _, h => exact expr_0 hS hE L p h
  | 1, _, h => exact expr_1 hS hE L p h
  | 2, _, h => exact expr_2 hS hE L p h
  | 3, _, h => exact expr_3 hS hE L p h
  | 4, _, h => exact expr_4 hS hE L p h
  | 5, _, h => exact expr_5 hS hE L p h
  | 6, _, h => exact expr_6 hS hE L p h
  | 7, _, h => exact expr_7 hS hE L p h
  | 8, _, h => exact expr_8 hS hE L p h
  | 9, _, h => exact expr_9 hS hE L p h
  | 10, _, h => exact expr_10 hS hE L p h
  | 11, _, h => exact expr_11 hS hE L p h
  | 12, _, h => exact expr_12 hS hE L p h
  | 13, _, h => exact expr_13 hS hE L p h
  | 14, _, h => exact expr_14 hS hE L p h
  | 15, _, h => exact expr_15 hS hE L p h
  | 16, _, h => exact (Nat.eq_zero_or_pos L.length).elim (fun hL => expr_16b hS hE L p h hL) (fun hL => expr_16a hS hE L p h hL)
  | 17, _, h => exact expr_17 hS hE L p h
  | 18, _, h => exact expr_18 hS hE L p h
  | 19, _, h => exact expr_19 hS hE L p h
  | k + 20, hk, _ => omega
theorem sub_ctr {l : Rw} {d : Nat} (hE : ∀ L p, Ctr prog f_expr (exArgs d) (exObs l L p) (exprO l d L p)) (L : List ByteArray) (p : Nat) : Ctr prog f_sub suArgs (suObs l (d + 1) L p) (subO l d L p) := by
  refine ctr_fn mixed (N := 7) (fn := c_sub) (c := bodyOf c_sub) (ks := [(1, 3, exF l d L p)]) (ls := []) (by kernel_rfl) (by kernel_rfl) (by kernel_rfl)
    (all_cons (exF_ok hE _ _) all_nil) fin0 (no_loops (by kernel_rfl)) (by kernel_rfl) (Q := subQ l d L p) (fun post hp => ?_) (fun R => by kernel_rfl)
  obtain ⟨⟨hR, hN⟩, hp⟩ := hp
  have hd := hN.1
  unfold subQ
  repeat' (first | exact leL_refl _ | exact leObL_refl _ | with_reducible exact hR | with_reducible exact hN | (refine And.intro ?_ ?_) | intro _)
  all_goals first
    | trivial
    | omega
    | (simp only [lo, hi]; omega)
    | exact (leS_int _ _ _).2 (by omega)
    | exact gives2 (hp.1 (by assumption)) (leS_refl _) (leOO_refl _)
    | exact gives2 (hp.2 (by assumption)) (leS_refl _) (leOO_refl _)

theorem expr_zero {l : Rw} (L : List ByteArray) (p : Nat) : Ctr prog f_expr (exArgs 0) (exObs l L p) (exprO l 0 L p) := by
  refine ctr_fn mixed (N := 377) (fn := c_expr) (c := bodyOf c_expr) (ks := exK0 l L p) (ls := []) (by kernel_rfl) (by kernel_rfl) (by kernel_rfl)
    (all_cons (nxF_ok _ _ _ _) (all_cons pickedF_ok (all_cons pickedF_ok (all_cons itF_ok (all_cons (lcF_ok _ _ _ _ _) all_nil))))) fin0 (no_loops (by kernel_rfl)) (by kernel_rfl) (Q := exprQ0 l L p) (fun post hp => ?_) (fun R => by kernel_rfl)
  obtain ⟨⟨hR, hN⟩, hp⟩ := hp
  have hR' : ∀ p j, isInt (rw' l p j) := hR
  have hlen := hN.2.1
  have q0 := pickedS_range (n := rw' l p 1) (m := 12) (by decide)
  have q1 := pickedS_range (n := rw' l p 0) (m := 6) (by decide)
  unfold exprQ0
  repeat' (first | exact leL_refl _ | exact leObL_refl _ | with_reducible exact hR | with_reducible exact hR' _ _ | with_reducible exact hN | (refine And.intro ?_ ?_) | intro _)
  all_goals first
    | trivial
    | omega
    | (simp only [lo, hi]; omega)
    | exact ⟨by omega, by omega⟩
    | exact gives2 (hp.2 rfl) (leS_refl _) (leOO_refl _)

theorem expr_ctr (l : Rw) : ∀ (d : Nat) (L : List ByteArray) (p : Nat), Ctr prog f_expr (exArgs d) (exObs l L p) (exprO l d L p)
  | 0, L, p => expr_zero L p
  | d + 1, L, p => expr_succ (sub_ctr (expr_ctr l d)) (expr_ctr l d) L p
end Rd
