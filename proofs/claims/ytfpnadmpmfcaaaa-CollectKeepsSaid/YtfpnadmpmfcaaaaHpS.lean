/- CollectKeeps: the contract. -/
import Derived.Test.YtfpnadmpmfcaaaaHpQ
open Rx Go
namespace Go.Proofs.Ytfpnadmpmfcaaaa

theorem cv_vok {d : Bd} (hb : BI d) (hlen : d.ws.length ≤ 150) {w : Wd} (hv : vOk d.bs w) : cvErr d.ws 600 w = 0 := by
  have : valOk d.ws w = true := by
    unfold valOk Bd.ws
    rw [starts_blocks hb.blk]
    exact vOk_word hb.blk hv
  unfold cvErr
  rw [if_pos (bi_check hb (by omega) (by omega) (by omega)), if_pos this]
theorem col_alike {d : Bd} {rs : List Wd} (h : Col d rs) : ∀ (n : Nat) (w : Wd), vOk d.bs w → known d.ws (Kk d rs) w → AL d.ws 600 (gB d rs).ws 600 n w (imgW d.ws (Kk d rs) w) := by
  have base : ∀ w, vOk d.bs w → known d.ws (Kk d rs) w → alB d.ws 600 (gB d rs).ws 600 w (imgW d.ws (Kk d rs) w) := by
    intro w hv hk
    have hi := h.img hv hk
    refine ⟨cv_vok h.bi h.len hv, cv_vok h.gbi (by have := h.glen; have := h.len; omega) hi, ?_, fun h5 => ?_, fun h5 => ?_⟩
    · rw [bi_find h.bi hv, bi_find h.gbi hi]
      by_cases h5 : w.k = 5
      · rw [(h.img_ref hv hk h5).1, h5]
      · rw [h.img_other hv h5]
    · rw [bi_find h.bi hv] at h5 ⊢
      rw [bi_find h.gbi hi, h.img_other hv h5]
    · rw [bi_find h.bi hv] at h5 ⊢
      rw [bi_find h.gbi hi]
      obtain ⟨e, k1, k2⟩ := h.img_ref hv hk h5
      obtain ⟨q1, q2, q3, q4⟩ := h.sp' k1
      obtain ⟨s1, s2, s3, s4, s5, s6⟩ := sp_sz (h.sp _ k1)
      have := q4 0 (by omega)
      rw [newB_get _ _ (by omega), if_neg (by omega)] at this
      rw [e]
      unfold at'
      simp only [Int.toNat_natCast]
      simpa using this.symm
  intro n
  induction n with
  | zero => exact base
  | succ n ih =>
    intro w hv hk
    refine ⟨base w hv hk, fun h5 => ?_⟩
    have hi := h.img hv hk
    rw [bi_find h.bi hv] at h5 ⊢
    rw [bi_find h.gbi hi]
    obtain ⟨e, k1, k2⟩ := h.img_ref hv hk h5
    obtain ⟨q1, q2, q3, q4⟩ := h.sp' k1
    obtain ⟨s1, s2, s3, s4, s5, s6⟩ := sp_sz (h.sp _ k1)
    obtain ⟨t1, t2, t3, t4, t5, t6⟩ := sp_sz q1
    have en : ((w.n.toNat : Nat) : Int) = w.n := Int.toNat_of_nonneg k2
    rw [en] at s5 s6
    have c1 : cntP d.ws w = ((sz d.ws w.n.toNat : Nat) : Int) - (fr d.ws w.n.toNat : Nat) := by unfold cntP; omega
    have c2 : cntP (gB d rs).ws (imgW d.ws (Kk d rs) w) = ((sz d.ws w.n.toNat : Nat) : Int) - (fr d.ws w.n.toNat : Nat) := by
      rw [e]
      unfold cntP
      show spSize (gB d rs).ws (phi d rs w.n.toNat) - spFrom (gB d rs).ws (phi d rs w.n.toNat) = _
      rw [q2] at t5
      rw [q3] at t6
      omega
    refine ⟨by rw [c1, c2], fun i hi' => ?_⟩
    rw [c1] at hi'
    have hlt : fr d.ws w.n.toNat + i < sz d.ws w.n.toNat := by omega
    obtain ⟨w1, w2⟩ := h.word k1 (t := fr d.ws w.n.toNat + i) (by omega) hlt
    have e1 : at' d.ws (partP d.ws w i) = d.ws.getD (w.n.toNat + (fr d.ws w.n.toNat + i)) default := by
      unfold at' partP
      rw [bi_find h.bi hv]
      congr 1
      omega
    have e2 : at' (gB d rs).ws (partP (gB d rs).ws (imgW d.ws (Kk d rs) w) i) = imgW d.ws (Kk d rs) (d.ws.getD (w.n.toNat + (fr d.ws w.n.toNat + i)) default) := by
      have := q4 (fr d.ws w.n.toNat + i) hlt
      rw [newB_get _ _ hlt, if_pos (by omega)] at this
      rw [← this]
      unfold at' partP
      rw [bi_find h.gbi hi, e]
      congr 1
      show ((phi d rs w.n.toNat : Int) + spFrom (gB d rs).ws (phi d rs w.n.toNat) + i).toNat = _
      rw [q3] at t6
      omega
    rw [e1, e2]
    exact ih _ w1 w2

theorem ckRs_succ {ms : List Wd} {ns : List Int} {i : Nat} (h : i < ns.length) : ckRs ms ns (i + 1) = ckRs ms ns i ++ [pickW ms (ns.getD i 0)] := by
  unfold ckRs
  rw [List.take_add_one, List.map_append]
  simp [h]
theorem ckRs_end {ms : List Wd} {ns : List Int} {i : Nat} (h : ¬ (i < ns.length ∧ i < 4)) (hi : i ≤ 4) : ckRs ms ns 4 = ckRs ms ns i := by
  unfold ckRs
  by_cases h1 : i < ns.length
  · rw [show i = 4 by omega]
  · rw [List.take_of_length_le (by omega), List.take_of_length_le (by omega)]
theorem keKs_ok (l : List Rw) (V : KeV) : ∀ k ∈ keKs l V, k.2.2.Ok Try.prog := by
  have n : noF.Ok Try.prog := fun al ol args obs out h => by cases h
  exact all_cons (cF_ok (builtC_ctr _ _ _ _)) (all_cons n (all_cons pickedF_ok (all_cons (cF_ok (colC_ctr _ _ _ _ _)) (all_cons (cF_ok (colC_ctr _ _ _ _ _)) (all_cons (cF_ok (checkC_ctr _ _)) (all_cons (cF_ok (eqC_ctr _ _)) (all_cons (cF_ok (eqC_ctr _ _)) (all_cons (alF_ok 7) all_nil))))))))
theorem kaLoop_ok (l : List Rw) (ns : List Int) (V : KeV) (i : Nat) : Sound (keE l ns V) (.loop kaLoop) (mkSt ((kaLF ns V).live.h.zip (kaArgs ns V.ms i)) (kaObs V.ws V.ms ns i)) ((kaOut V.ws V.ms ns i).map (OutC.st (kaLF ns V).live)) := by
  refine loop_fn mixed (keKs_ok l V) (fun c hc => by rw [show loopsOf kaLoop = [] from by kernel_rfl] at hc; cases hc) (kaLF ns V).live (kaArgs ns V.ms) (kaObs V.ws V.ms ns) (kaOut V.ws V.ms ns) (fun i => ns.length - i) (Q := fun i Rn Re => kaQ l V ns V.ws V.ms (ckRs V.ms ns i) i Rn Re) ?_ (fun i Rn Re => by kernel_rfl) i
  intro i post hp
  obtain ⟨⟨hn, h0, h1, h4⟩, hp⟩ := hp
  have hp : post (.exit 0, [.ptr 0 0, .nm 1], kaObs V.ws V.ms ns 4) := hp
  have hend : ¬ (i < ns.length ∧ i < 4) → Outs post (.exit 0) [.ptr 0 0, .nm 1] (kaObs V.ws V.ms ns i) := by
    intro h
    unfold kaObs at hp
    rw [ckRs_end h h4] at hp
    exact Outs.mk hp (leL_refl _) (leOO_refl _)
  have hlen : (ckRs V.ms ns i).length ≤ i := by unfold ckRs; rw [List.length_map, List.length_take]; omega
  unfold kaQ
  simp only [decide_eq_true_eq, decide_eq_false_iff_not, lo, hi, Int.ofNat_lt, leL_self, leObL_self, true_and]
  refine ⟨fun h => ⟨fun h' => ?_, fun h' => hend (fun hh => h' (by omega))⟩, fun h => hend (fun hh => h hh.1)⟩
  have hin : isInt (ns.getD i 0) := hn _ (by rw [List.getD_eq_getElem?_getD, List.getElem?_eq_getElem h]; exact List.getElem_mem _)
  obtain ⟨p1, p2⟩ := picked_lt hin h0
  refine ⟨⟨by omega, h⟩, ⟨hin, by omega⟩, ⟨p1, p2⟩, by omega, ⟨by omega, by omega⟩, i + 1, by omega, ?_, ?_, ⟨hn, h0, h1, by omega⟩, hp⟩
  · show leL _ (kaArgs ns V.ms (i + 1))
    refine ⟨leS_refl _, leS_refl _, leS_refl _, leS_refl _, ?_, trivial⟩
    rw [leS_int]; omega
  · show leOO _ (kaObs V.ws V.ms ns (i + 1))
    unfold kaObs
    rw [ckRs_succ h]
    exact ⟨leOb_refl _, row_app (ckRs V.ms ns i) (pickW V.ms (ns.getD i 0)), trivial⟩
theorem kbLoop_ok (l : List Rw) (ns : List Int) (V : KeV) (i : Nat) : Sound (keE l ns V) (.loop kbLoop) (mkSt ((kbLF V).live.h.zip (kbArgs V.rs V.out i)) (kbObs V.ws V.g)) ((kbOut V.ws V.g V.rs V.out i).map (OutC.st (kbLF V).live)) := by
  refine loop_fn mixed (keKs_ok l V) (fun c hc => by rw [show loopsOf kbLoop = [] from by kernel_rfl] at hc; cases hc) (kbLF V).live (kbArgs V.rs V.out) (fun _ => kbObs V.ws V.g) (kbOut V.ws V.g V.rs V.out) (fun i => V.rs.length - i) (Q := fun i Rn Re => kbQ l ns V i Rn Re) ?_ (fun i Rn Re => by kernel_rfl) i
  intro i post hp
  obtain ⟨⟨hlen, h1, hal⟩, hp⟩ := hp
  have hp : post (.exit 2, [], []) := hp
  unfold kbQ
  simp only [rdF_wF, wd_eta, decide_eq_true_eq, decide_eq_false_iff_not, lo, hi, Int.ofNat_lt, leL_self, leObL_self, true_and]
  refine ⟨fun h => ⟨⟨by omega, h⟩, ⟨by omega, by omega⟩, ⟨⟨by decide, by decide⟩, by decide, hal i h⟩, ⟨by omega, by omega⟩, i + 1, by omega, ?_, leOO_refl _, ⟨hlen, h1, hal⟩, hp⟩, fun h => Outs.mk hp (leL_refl _) (leOO_refl _)⟩
  show leL _ (kbArgs V.rs V.out (i + 1))
  refine ⟨leS_refl _, leS_refl _, leS_refl _, leS_refl _, leS_refl _, ?_, trivial⟩
  rw [leS_int]; omega
theorem ke_ctr (l : List Rw) (ns : List Int) : Ctr Try.prog 8 [rD l, nD ns] [] (.need (rawOk l ∧ ∀ n ∈ ns, isInt n) (.ret (vB true, []))) := by
  obtain ⟨V, hV⟩ : ∃ V : KeV, V = ⟨(builtD l 30).ws, (builtD l 30).ms, ckRs (builtD l 30).ms ns 4, colW (builtD l 30).ws (ckRs (builtD l 30).ms ns 4), colR (builtD l 30).ws (ckRs (builtD l 30).ms ns 4)⟩ := ⟨_, rfl⟩
  have hlok : (keE l ns V).Lok (loopsOf (bodyOf Try.f8)) := by
    rw [show loopsOf (bodyOf Try.f8) = [kaLoop, kbLoop] from by kernel_rfl]
    have r1 : firstRid kaLoop = 4 := by kernel_rfl
    have r2 : firstRid kbLoop = 12 := by kernel_rfl
    refine fnE_Lok (all_cons (all_cons (fun _ => ?_) (all_cons (fun h => ?_) all_nil)) (all_cons (all_cons (fun h => ?_) (all_cons (fun _ => ?_) all_nil)) all_nil))
    · intro svs obl args obs out h
      simp only [kaLF, Option.some.injEq, Prod.mk.injEq] at h
      obtain ⟨rfl, rfl, rfl⟩ := h
      exact kaLoop_ok l ns V 0
    · rw [r2] at h; exact absurd h (by decide : ¬ (4 = 12))
    · rw [r1] at h; exact absurd h (by decide : ¬ (12 = 4))
    · intro svs obl args obs out h
      simp only [kbLF, Option.some.injEq, Prod.mk.injEq] at h
      obtain ⟨rfl, rfl, rfl⟩ := h
      exact kbLoop_ok l ns V 0
  refine ctr_fn mixed (N := 117) (fn := Try.f8) (c := bodyOf Try.f8) (ks := keKs l V) (ls := [kaLF ns V, kbLF V]) (by kernel_rfl) (by kernel_rfl) (by kernel_rfl) (keKs_ok l V) fin0 hlok (by kernel_rfl) (Q := keQ l ns V) (fun post hp => ?_) (fun R => by kernel_rfl)
  obtain ⟨⟨hr, hn⟩, hp⟩ := hp
  have hp : post (vB true, []) := hp
  obtain ⟨hbi, hw5, hm2⟩ := built_ok hr (most := 30) (by omega) (by omega)
  unfold keQ
  subst hV
  simp only
  generalize builtD l 30 = d at *
  have hcol : Col d (ckRs d.ms ns 4) := ⟨hbi, hw5, fun r hr => by
    obtain ⟨n, hm, rfl⟩ := List.mem_map.1 hr
    exact pickW_mem (hn n (List.mem_of_mem_take hm)) hbi.pos⟩
  have hlen : (ckRs d.ms ns 4).length ≤ 4 := by unfold ckRs; rw [List.length_map, List.length_take]; omega
  have hal : ∀ j, j < (ckRs d.ms ns 4).length → AL d.ws 600 (colW d.ws (ckRs d.ms ns 4)) 600 6 ((ckRs d.ms ns 4).getD j default) ((colR d.ws (ckRs d.ms ns 4)).getD j default) := fun j hj => by
    have hm : (ckRs d.ms ns 4).getD j default ∈ ckRs d.ms ns 4 := by
      rw [List.getD_eq_getElem?_getD, List.getElem?_eq_getElem hj]; exact List.getElem_mem _
    have e : (colR d.ws (ckRs d.ms ns 4)).getD j default = imgW d.ws (Kk d (ckRs d.ms ns 4)) ((ckRs d.ms ns 4).getD j default) := by
      unfold colR
      simp only [List.getD_eq_getElem?_getD, List.getElem?_map, List.getElem?_eq_getElem hj]
      rfl
    rw [e, hcol.g]
    exact col_alike hcol 6 _ (hbi.mv _ (hcol.rt _ hm)) (hcol.known _ hm)
  generalize ckRs d.ms ns 4 = rs at *
  obtain ⟨e1, e2⟩ := hcol.same
  have hg1 : colGood d.ws 600 rs = true := by simp only [colGood, hcol.check, hcol.all, Bool.and_self]
  have hg2 : colGood (gB d rs).ws 600 (colR d.ws rs) = true := by simp only [colGood, hcol.again.check, hcol.again.all, Bool.and_self]
  have hgl := hcol.glen
  have hcr : (colR d.ws rs).length = rs.length := by simp [colR]
  rw [← hcol.g] at e1 e2 hg2 hgl
  have hck : checkB (colW d.ws rs) 600 = true := by rw [hcol.g]; exact hcol.again.check
  generalize colW d.ws rs = g at *
  generalize colR d.ws rs = out at *
  have hgo : (g.length : Int) > d.ws.length → False := by omega
  simp only [leL_self, leObL_self, leS_self, leOO_self, true_and, and_true, bne_iff_ne, bne_eq_false_iff_eq, decide_eq_true_eq, decide_eq_false_iff_not]
  refine ⟨⟨hr, by omega, by omega⟩, by rw [leS_int]; rfl, ⟨leOb_refl _, ⟨rfl, rfl, rfl, fun k hk => by omega⟩, trivial⟩, ⟨hn, hbi.pos, by omega, by omega⟩, ⟨by omega, hg1⟩, ⟨by omega, hg2, e1.symm, e2.symm⟩, fun h => absurd (by omega) h, fun _ => ⟨hck, fun h => (hgo h).elim, fun _ => ⟨checkB_fits hck, ?_, by rw [leS_int]; rfl, ⟨hcr.symm, by omega, hal⟩, gives1 hp (leS_refl _)⟩⟩⟩
  show ((out.length : Nat) : Int) ≤ _
  omega
end Go.Proofs.Ytfpnadmpmfcaaaa
