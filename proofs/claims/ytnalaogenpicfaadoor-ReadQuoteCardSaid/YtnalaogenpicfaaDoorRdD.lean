/- A datum is read. -/
import Derived.Test.YtnalaogenpicfaaDoorRdC
set_option linter.unusedSimpArgs false
set_option linter.unusedVariables false
open Rx Go
namespace Rd

theorem liLF_ok {g : Nat} (hD : (datF g).Ok prog) : LFok (daEnv g) (liLF g) liLoop := by
  intro svs obl args obs out h
  unfold liLF at h
  simp only at h
  repeat' split at h
  all_goals first
    | (simp only [Option.some.injEq, Prod.mk.injEq] at h; obtain ⟨rfl, rfl, rfl⟩ := h; apply liLoop_sound hD)
    | cases h

theorem daEnv_Lok {g : Nat} (hD : (datF g).Ok prog) : (daEnv g).Lok (loopsOf (bodyOf c_datum)) := by
  have hl : loopsOf (bodyOf c_datum) = [liLoop] := by kernel_rfl
  rw [hl]
  refine fnE_Lok fun f h c hc hr => ?_
  rw [List.mem_singleton] at hc h
  subst hc; subst h
  exact liLF_ok hD

theorem quote_le (d : Dm) : leS (.agg [vI .i64 4, .ki .i64 0, vS ⟨#[]⟩, .dt (.arr 4 2 (litF 4 [Dt.cell (.int .i64 3), .cell (.int .i64 0), .cell (.string quoteS), .cell (.slice none 0 0), .cell (.int .i64 d.k), .cell (.int .i64 d.n), .cell (.string d.s), .arr 4 d.l.length (dmL d.l)]))]) (dmS (.mk 4 0 noS [.mk 3 0 quoteS [], d])) := by
  simp only [dmS, dmA, Dm.k, Dm.n, Dm.s, Dm.l, leS_agg, leL_cons, leL_nil, and_true]
  refine ⟨leS_refl _, (leS_ki _ _ _).2 rfl, leS_refl _, ?_⟩
  rw [leS_dt, leDt_arr]
  refine ⟨rfl, .inr ⟨rfl, fun k hk j hj => ?_⟩⟩
  rw [litF_eq hj (by simp; omega)]
  match k, hk with
  | 0, _ =>
    match j, hj with
    | 0, _ => simp [dmL, dmT, leDt]
    | 1, _ => simp [dmL, dmT, leDt]
    | 2, _ => simp [dmL, dmT, leDt]
    | 3, _ => simp [dmL, dmT, leDt, isNil]
  | 1, _ =>
    have e : dmL [.mk 3 0 quoteS [], d] 1 j = dmT d j := by simp [dmL]
    rw [e, dmT_eq d j hj]
    match j, hj with
    | 0, _ => exact leDt_refl _
    | 1, _ => exact leDt_refl _
    | 2, _ => exact leDt_refl _
    | 3, _ => exact leDt_refl _

theorem datum_step {g : Nat} (hD : (datF g).Ok prog) (s : ByteArray) (lv a c : Int) : Ctr prog f_datum [.ptr 0 0, vI .i64 lv] [pOb s a c 0] (datumO s (g + 1) lv a c) := by
  refine ctr_fn mixed (N := 153) (fn := c_datum) (c := bodyOf c_datum) (ks := daKs g) (ls := [liLF g]) (by kernel_rfl) (by kernel_rfl) (by kernel_rfl) (daKs_ok hD) ⟨true, none⟩ (daEnv_Lok hD) (by kernel_rfl) (Q := datumQ s g lv a c) (fun post hp => ?_) (fun R => by kernel_rfl)
  obtain ⟨⟨hs, hc, hl, hsome⟩, hp⟩ := hp
  have hp : post (dmS (datR s (g + 1) lv a c).d, [some (pOb s (datR s (g + 1) lv a c).a (datR s (g + 1) lv a c).c (datR s (g + 1) lv a c).e)]) := hp
  obtain ⟨R, hR⟩ := Option.isSome_iff_exists.1 hsome
  rw [datR_eq (Nat.le_refl _) hR] at hp
  have b1 := blk_ge s a
  have b2 := blk_le s a hs.2.2
  have hb : okS s (blk s a) := ⟨hs.1, by have := hs.2.1; omega, b2⟩
  have hcl := hc.1
  have hcu := hc.2
  have hl1 := hl.1
  have hl2 := hl.2
  have hs1 := hs.1
  have hb0 := hb.2.1
  have leaf : ∀ {v : SV} {d : Dm} {a c e : Int}, R = ⟨d, a, c, e⟩ → leS v (dmS d) → Gives post v [some (pOb s a c e)] := fun h hv => by
    rw [h] at hp; exact gives2 hp hv (leOO_refl _)
  rw [datS] at hR
  unfold datumQ
  simp only [lo, hi]
  refine ⟨leL_refl _, leObL_refl _, hs, fun h => (by cases h), fun _ => ⟨fun h => ⟨leL_refl _, leObL_refl _, trivial, ?_⟩, fun h1 => ⟨⟨by omega, by omega⟩, fun h => ⟨leL_refl _, leObL_refl _, trivial, ?_⟩, fun h2 =>
    ⟨fun h => ⟨leL_refl _, leObL_refl _, trivial, ?_⟩, fun h3 => ?_⟩⟩⟩⟩
  · have h : blk s a = s.size := by simpa using h
    rw [if_pos h] at hR
    injection hR with hR
    exact leaf hR.symm (leS_refl _)
  · have h1 : ¬ blk s a = s.size := by simpa using h1
    rw [if_neg h1, if_pos (of_decide_eq_true h)] at hR
    injection hR with hR
    exact leaf hR.symm (leS_refl _)
  · have h1 : ¬ blk s a = s.size := by simpa using h1
    rw [if_neg h1, if_neg (of_decide_eq_false h2), if_pos (of_decide_eq_true h)] at hR
    injection hR with hR
    exact leaf hR.symm (leS_refl _)
  have h1 : ¬ blk s a = s.size := by simpa using h1
  have h2 := of_decide_eq_false h2
  have h3 := of_decide_eq_false h3
  rw [if_neg h1, if_neg h2, if_neg h3] at hR
  have hb1 : okS s (blk s a + 1) := ⟨hs1, by omega, by omega⟩
  have hc1 : okC (c + 1) := ⟨by omega, by omega⟩
  refine ⟨⟨hb0, by omega⟩, fun h => ⟨leL_refl _, leObL_refl _, trivial, ?_⟩, fun h41 => ?_⟩
  · have h : byteAt s (blk s a) = 41 := by simpa using h
    rw [if_pos h] at hR
    injection hR with hR
    exact leaf hR.symm (leS_refl _)
  have h41 : ¬ byteAt s (blk s a) = 41 := by simpa using h41
  rw [if_neg h41] at hR
  refine ⟨fun h => ?_, fun h39 => ?_⟩
  · have h : byteAt s (blk s a) = 39 := by simpa using h
    rw [if_pos h] at hR
    obtain ⟨r, hr, hRr⟩ := Option.map_eq_some_iff.1 hR
    refine ⟨⟨by omega, by omega⟩, ⟨by omega, by omega⟩, leL_refl _, leObL_refl _, ⟨hb1, hc1, ⟨by omega, by omega⟩, by rw [hr]; rfl⟩, trivial, ?_⟩
    rw [datR_eq (Nat.le_refl _) hr]
    exact leaf hRr.symm (quote_le r.d)
  have h39 : ¬ byteAt s (blk s a) = 39 := by simpa using h39
  rw [if_neg h39] at hR
  refine ⟨fun h => ?_, fun h40 => ?_⟩
  · have h : byteAt s (blk s a) = 40 := by simpa using h
    rw [if_pos h] at hR
    obtain ⟨k1, k2, k3, k4⟩ := (datS_ok s g).2 _ _ _ _ _ hR hb1 hc1
    refine ⟨⟨by omega, by omega⟩, ⟨leS_refl _, leS_refl _, leS_refl _, leS_refl _, trivial⟩, ?_, ⟨Nat.le_refl _, hb1, hc1, ⟨by omega, by omega⟩, by simp [nilD]; omega, by
      show (lisS s g lv (blk s a + 1) (c + 1) []).isSome = true
      rw [hR]; rfl⟩, trivial, ?_⟩
    · exact ⟨leOb_refl _, leOb_refl _, ⟨rfl, leS_refl _, (leS_ki _ _ _).2 rfl, leS_refl _, leS_refl _, trivial⟩, ⟨rfl, rfl, rfl, fun k hk => absurd hk (by simp)⟩, trivial⟩
    · have e : lisR s g lv (blk s a + 1) (c + 1) nilD = R := lisR_eq hR
      rw [e]
      refine leaf (d := .mk 4 0 noS R.d.l) (a := R.a) (c := R.c) (e := R.e) (by rw [← k4]) (leS_refl _)
  · have h40 : ¬ byteAt s (blk s a) = 40 := by simpa using h40
    rw [if_neg h40] at hR
    injection hR with hR
    exact ⟨leL_refl _, leObL_refl _, ⟨hb, hb0, Int.le_refl _⟩, trivial, leaf hR.symm (leS_refl _)⟩

theorem datF_ok : ∀ f : Nat, (datF f).Ok prog := by
  have key : ∀ f : Nat, (∀ (s : ByteArray) (lv a c : Int), Ctr prog f_datum [.ptr 0 0, vI .i64 lv] [pOb s a c 0] (datumO s f lv a c)) → (datF f).Ok prog := by
    intro f hf al ol args obs out h
    unfold datF at h
    simp only at h
    repeat' split at h
    all_goals first
      | (simp only [Option.some.injEq, Prod.mk.injEq] at h; obtain ⟨rfl, rfl, rfl⟩ := h; apply hf)
      | cases h
  intro f
  induction f with
  | zero => exact key 0 fun s lv a c => ctr_need fun h => by obtain ⟨_, _, _, h⟩ := h; simp [datS] at h
  | succ f ih => exact key (f + 1) fun s lv a c => datum_step ih s lv a c
theorem datum_ctr (s : ByteArray) (f : Nat) (lv a c : Int) : Ctr prog f_datum [.ptr 0 0, vI .i64 lv] [pOb s a c 0] (datumO s f lv a c) := by
  cases f with
  | zero => exact ctr_need fun h => by obtain ⟨_, _, _, h⟩ := h; simp [datS] at h
  | succ f => exact datum_step (datF_ok f) s lv a c
end Rd
