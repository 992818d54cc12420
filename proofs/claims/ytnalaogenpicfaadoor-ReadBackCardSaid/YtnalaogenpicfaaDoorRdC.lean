/- The reader's recursion. -/
import Derived.Test.YtnalaogenpicfaaDoorRdB
set_option linter.unusedSimpArgs false
set_option linter.unusedVariables false
open Rx Go
namespace Rd

theorem noF_ok : noF.Ok prog := by
  intro al ol args obs out h
  cases h

theorem daKs_ok {g : Nat} (hD : (datF g).Ok prog) : ∀ x ∈ daKs g, x.2.2.Ok prog :=
  all_cons bkF_ok (all_cons stF_ok (all_cons stF_ok (all_cons stF_ok (all_cons stF_ok (all_cons hD (all_cons noF_ok (all_cons bkF_ok (all_cons hD (all_cons amF_ok all_nil)))))))))

theorem datR_eq {s : ByteArray} {f g : Nat} {lv a c : Int} {r : PR} (h : f ≤ g) (hr : datS s f lv a c = some r) : datR s g lv a c = r := by
  unfold datR
  rw [datS_mono h hr]; rfl
theorem lisR_eq {s : ByteArray} {f : Nat} {lv a c : Int} {acc : List Dm} {r : PR} (hr : lisS s f lv a c acc = some r) : lisR s f lv a c acc = r := by
  unfold lisR
  rw [hr]; rfl

theorem liLoop_sound {g : Nat} (hD : (datF g).Ok prog) (s : ByteArray) (lv : Int) (x : LX) : Sound (daEnv g) (.loop liLoop) (mkSt ((liLF g).live.h.zip (liArgs lv)) (liObs s x)) ((liOut s g lv x).map (OutC.st (liLF g).live)) := by
  refine loop_fn mixed (ks := daKs g) (ls := [liLF g]) (c := liLoop) (nb := 1) (N := 153) (daKs_ok hD) (no_loops (by kernel_rfl)) (liLF g).live (fun _ : LX => liArgs lv) (fun x => liObs s x) (fun x => liOut s g lv x) (fun x => x.f)
    (Q := fun x => liLoopQ s g lv x.a x.c x.acc) (fun x post hp => ?_) (fun a Rn Re => by kernel_rfl) x
  obtain ⟨f, a, c, acc⟩ := x
  obtain ⟨⟨hf, hs, hc, ⟨hl1, hl2⟩, ha, hsome⟩, hp⟩ := hp
  have hp : post (.ret, [.ptr 1 0], [some (pOb s (lisR s f lv a c acc).a (lisR s f lv a c acc).c (lisR s f lv a c acc).e),
    some (.cells tDatum [vI .i64 4, vI .i64 0, vS noS, .nm 2]), some (.row tDatum 4 (lisR s f lv a c acc).d.l.length (dmL (lisR s f lv a c acc).d.l))]) := hp
  obtain ⟨R, hR⟩ := Option.isSome_iff_exists.1 hsome
  have eR := lisR_eq hR
  simp only at hf hs hc ha hR
  have b1 := blk_ge s a
  have b2 := blk_le s a hs.2.2
  have hb : okS s (blk s a) := ⟨hs.1, by have := hs.2.1; omega, b2⟩
  cases f with
  | zero => simp [lisS] at hR
  | succ f =>
  -- the call, and what is behind it
  have call : ¬ (blk s a < s.size ∧ byteAt s (blk s a) = 41) → ∃ r, datS s f (lv + 1) (blk s a) c = some r ∧ (if r.e ≠ 0 then R = ⟨.mk 4 0 noS acc, r.a, r.c, r.e⟩ else lisS s f lv r.a r.c (acc ++ [r.d]) = some R) := fun h => by
    rw [lisS, if_neg h] at hR
    split at hR
    · cases hR
    · rename_i r hr
      refine ⟨r, hr, ?_⟩
      split at hR
      · rename_i g; rw [if_pos g]; injection hR with hR; exact hR.symm
      · rename_i g; rw [if_neg g]; exact hR
  unfold liLoopQ
  simp only [lo, hi]
  have part : ¬ (blk s a < s.size ∧ byteAt s (blk s a) = 41) → _ := fun h => call h
  refine ⟨leL_refl _, leObL_refl _, hs, fun _ => ⟨fun hlt => ⟨⟨hb.2.1, of_decide_eq_true hlt⟩, fun h41 => ⟨⟨by have := hb.2.1; omega, by have := hs.1; omega⟩, ?_⟩, fun h41 => ?_⟩, fun hlt => ?_⟩, fun h => (by cases h)⟩
  · have hlt := of_decide_eq_true hlt
    have h41 : byteAt s (blk s a) = 41 := by simpa using h41
    rw [lisS, if_pos ⟨hlt, h41⟩] at hR
    injection hR with hR
    rw [eR, ← hR] at hp
    exact Outs.mk hp (leL_refl _) (leOO_refl _)
  all_goals
    obtain ⟨r, hr, hRr⟩ := call (by first | (rintro ⟨_, h⟩; simp [h] at h41; done) | (rintro ⟨h, _⟩; simp [h] at hlt; done))
    have er := datR_eq (g := g) (by omega : f ≤ g) hr
    obtain ⟨k1, k2, k3, k4⟩ := (datS_ok s f).1 _ _ _ _ hr hb hc
    refine ⟨⟨by omega, by omega⟩, leL_refl _, leObL_refl _, ⟨hb, hc, ⟨by omega, by omega⟩, by rw [datS_mono (by omega : f ≤ g) hr]; rfl⟩, fun he => ?_, fun he => ⟨by have := hc.2; omega, ?_⟩⟩
    · rw [er] at he ⊢
      have he : r.e ≠ 0 := by simpa using he
      rw [if_pos he] at hRr
      rw [eR, hRr] at hp
      exact Outs.mk hp (leL_refl _) (leOO_refl _)
    · rw [er] at he ⊢
      have he : r.e = 0 := by simpa using he
      rw [if_neg (by simpa using he)] at hRr
      rw [eR] at hp
      refine ⟨⟨f, r.a, r.c, acc ++ [r.d]⟩, Nat.lt_succ_self f, leL_refl _, ?_, ⟨by simp only; omega, k1, ⟨Int.le_trans hc.1 k3, k2 he⟩, ⟨hl1, hl2⟩, by have := k4 he; simp; omega, by simp only; rw [hRr]; rfl⟩, ?_⟩
      · rw [he]
        refine ⟨leOb_refl _, leOb_refl _, leOb_refl _, ⟨rfl, rfl, by simp, fun k hk j hj => dmL_snoc acc r.d k j hk hj⟩, trivial⟩
      · simp only
        have : post (.ret, [.ptr 1 0], [some (pOb s (lisR s f lv r.a r.c (acc ++ [r.d])).a (lisR s f lv r.a r.c (acc ++ [r.d])).c (lisR s f lv r.a r.c (acc ++ [r.d])).e),
          some (.cells tDatum [vI .i64 4, vI .i64 0, vS noS, .nm 2]), some (.row tDatum 4 (lisR s f lv r.a r.c (acc ++ [r.d])).d.l.length (dmL (lisR s f lv r.a r.c (acc ++ [r.d])).d.l))]) := by
          rw [lisR_eq hRr]; exact hp
        exact this
end Rd
