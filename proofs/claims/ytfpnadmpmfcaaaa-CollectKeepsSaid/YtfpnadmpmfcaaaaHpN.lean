/- Collect: the contract. -/
import Derived.Test.YtfpnadmpmfcaaaaHpM
open Rx Go
namespace Go.Proofs.Ytfpnadmpmfcaaaa

theorem coLok : coE.Lok (loopsOf (bodyOf Try.f16)) := by
  rw [show loopsOf (bodyOf Try.f16) = [caLoop, cbLoop, cdLoop] from by kernel_rfl]
  have r1 : firstRid caLoop = 6 := by kernel_rfl
  have r2 : firstRid cbLoop = 14 := by kernel_rfl
  have r3 : firstRid cdLoop = 19 := by kernel_rfl
  refine fnE_Lok (all_cons ?_ (all_cons ?_ (all_cons ?_ (all_cons ?_ all_nil))))
  · refine all_cons (fun _ => ?_) (all_cons (fun h => ?_) (all_cons (fun h => ?_) all_nil))
    · intro svs obl args obs out h
      unfold caLF at h
      simp only at h
      repeat' split at h
      all_goals first
        | (simp only [Option.some.injEq, Prod.mk.injEq] at h; obtain ⟨rfl, rfl, rfl⟩ := h; exact caLoop_ok ⟨_, _, _, _, 0⟩)
        | cases h
    · rw [r2] at h; exact absurd h (by decide)
    · rw [r3] at h; exact absurd h (by decide)
  · refine all_cons (fun h => ?_) (all_cons (fun _ => ?_) (all_cons (fun h => ?_) all_nil))
    · rw [r1] at h; exact absurd h (by decide)
    · intro svs obl args obs out h
      unfold cbLF at h
      simp only at h
      repeat' split at h
      all_goals first
        | (simp only [Option.some.injEq, Prod.mk.injEq] at h; obtain ⟨rfl, rfl, rfl⟩ := h; exact cbLoop_ok _ _ _ 0)
        | cases h
    · rw [r3] at h; exact absurd h (by decide)
  · refine all_cons (fun h => ?_) (all_cons (fun h => ?_) (all_cons (fun _ => ?_) all_nil))
    · rw [r1] at h; exact absurd h (by decide)
    · rw [r2] at h; exact absurd h (by decide)
    · intro svs obl args obs out h
      unfold cdLF at h
      simp only at h
      repeat' split at h
      all_goals first
        | (simp only [Option.some.injEq, Prod.mk.injEq] at h; obtain ⟨rfl, rfl, rfl⟩ := h; exact cdLoop_ok _ _ _ ⟨_, 0⟩)
        | cases h
  · refine all_cons (fun h => ?_) (all_cons (fun h => ?_) (all_cons (fun h => ?_) all_nil))
    · rw [r1] at h; exact absurd h (by decide)
    · rw [r2] at h; exact absurd h (by decide)
    · rw [r3] at h; exact absurd h (by decide)

theorem colR_eq {l rs : List Wd} {lim : Int} (hc : checkB l lim = true) (hv : rs.all (valOk l) = true) : rs.map (imgW l (rootK l rs)) = colR l rs := by
  obtain ⟨k1, k2, _⟩ := root_ki hc rs [] (ki_0 l) hv
  obtain ⟨_, x, hx⟩ := k1.last hc (l.length + 1) (by omega)
  have hx : kept l rs = rootK l rs ++ x := hx
  unfold colR
  rw [hx]
  apply List.map_congr_left
  intro r hr
  exact (imgW_ext k1.sp (k2 r hr)).symm
theorem good_fin {post : Out → Prop} {l rs : List Wd} {lim : Int} (hp : post (.tup [hS (colW l rs) lim, wD (colR l rs), .ki .i64 0], [])) {s : SV} (h : s = .tup [hS (colW l rs) lim, wD (colR l rs), vI .i64 0]) : Gives post s [] := by
  subst h
  refine gives1 hp ?_
  simp only [leS_tup, leL_cons, leS_self, leL_nil, leS_dki, and_true]
theorem bad_fin {post : Out → Prop} {e : Int} (hp : post (.tup [noH, nilS, vI .i64 e], [])) : Gives post (.tup [.agg [.dt (.cell (.slice none 0 0)), .ki .i64 0], .dt (.cell (.slice none 0 0)), vI .i64 e]) [] := by
  refine gives1 hp ?_
  simp only [leS_tup, leL_cons, leS_self, leL_nil, noH, nilS, leS_agg, leS_ki, and_true, true_and]
theorem col_ctr (l : List Wd) (lim : Int) (rs : List Wd) : Ctr Try.prog 16 [hS l lim, wD rs] [] (colO l lim rs) := by
  refine ctr_fn mixed (N := 132) (fn := Try.f16) (c := bodyOf Try.f16) (ks := coKs) (ls := [caLF, cbLF, cdLF, ccLF]) (by kernel_rfl) (by kernel_rfl) (by kernel_rfl) coKs_ok finF coLok (by kernel_rfl) (Q := colQ l lim rs) (fun post hp => ?_) (fun R => by kernel_rfl)
  obtain ⟨hlen, hp1, hp2⟩ := hp
  have hlen : rs.length ≤ 1000000 := hlen
  have hp1 : colGood l lim rs = true → post (.tup [hS (colW l rs) lim, wD (colR l rs), .ki .i64 0], []) := hp1
  have hp2 : colGood l lim rs = false → post (.tup [noH, nilS, vI .i64 (if checkB l lim = true then 3 else 9)], []) := hp2
  have n9 : ((9 : Int) != 0) = true := rfl
  unfold colQ
  simp only [rdF_wF, rdKs_mpF, stM_toNat, n9, leL_self, leObL_self, leS_self, leOO_self, true_and, and_true, bne_self_eq_false, Bool.false_eq_true, false_implies, true_implies, reduceCtorEq]
  refine ⟨fun hc => ⟨checkB_fits hc, fun hs => ?_, fun hs => absurd (checkB_starts hc) (by rw [hs]; decide)⟩, fun hc => ?_⟩
  · have hall : (List.drop 0 rs).all (wordOk l ((startsS l).getD [])) = rs.all (valOk l) := rfl
    rw [hall]
    refine ⟨?_, ?_, hlen, fun hv => ⟨?_, ?_, ⟨hc, hv, hlen⟩, ?_, ⟨hc, Nat.zero_le _, ?_⟩, ?_⟩, fun hv => ?_⟩
    · rw [leS_int]; rfl
    · simp only [leOO_cons, leOb_cells, leOb_self, leL_cons, wD_self, leS_self, leS_junk, leL_nil, leOO_nil, and_true, true_and]
    · rw [leS_int]; rfl
    · have h0 : leOb (.row 30 3 0 fun _ _ => undefCell) (.row 30 3 noW.length (wF noW)) := ⟨rfl, rfl, rfl, fun k hk => by omega⟩
      simp only [leOO_cons, leOb_cells, leOb_self, leL_cons, wD_self, leS_self, leS_junk, leL_nil, leOO_nil, and_true, true_and]
      exact ⟨h0, h0⟩
    · rw [leS_int]; rfl
    · exact (root_ki hc rs [] (ki_0 l) hv).1
    · have hp := hp1 (by simp [colGood, hc, hv])
      refine good_fin hp ?_
      rw [← colR_eq hc hv]
      rfl
    · have hp := hp2 (by simp [colGood, hc, hv])
      rw [if_pos hc] at hp
      exact bad_fin hp
  · have hp := hp2 (by simp [colGood, hc])
    rw [if_neg (by rw [hc]; decide)] at hp
    exact bad_fin hp
end Go.Proofs.Ytfpnadmpmfcaaaa
