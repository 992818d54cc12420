/- Rx, part W8: a region that draws its order is sound, whole. -/
import Derived.Test.YtkbdcpkbmfegdaaGreatDoorSRxW5
set_option linter.unusedSectionVars false
set_option linter.unusedSimpArgs false
set_option linter.unusedVariables false
namespace Rx
open Go
variable [Glob]
section
variable {E : CEnv} {ops : Array Oper} {rid : Nat} {ri : RI} {z : List (CS × SV) × CS} {σ : CS} {C : Ctx} {w : World} {a : Act}
theorem uy (hT : TF E ops rid ri.wd z) {j k i : Nat} (hj : j < ops.size) (hk : k < ops.size) (h1 : (atZ z j).h.nob <= i) (h2 : i < (atZ z (j + 1)).h.nob) (h3 : (atZ z k).h.nob <= i) (h4 : i < (atZ z (k + 1)).h.nob) : j = k := by
 rcases Nat.lt_trichotomy j k with h | h | h
 · have := cZ hT (p := j + 1) (q := k) (by omega) (by omega); omega
 · exact h
 · have := cZ hT (p := k + 1) (q := j) (by omega) (by omega); omega
theorem DV.alloc {D D' : Nat -> Bool} {hd : Nat} {a' : Act} {w' : World} {C' : Ctx} (hE : E.Ok) (hDV : DV E ops z σ C w a D hd a' w' C') (hri : gL ops = some ri) (hR : RS ops) (hT : TF E ops rid ri.wd z) (h0 : atZ z 0 = σ) (hcl : Closed ops D)
  {k : Nat} {o : Oper} (ho : ops[k]? = some o) (hdep : ∀ e ∈ o.after, Region.binds .any e = true -> D e.on = true) (hk : D k = false) (hD : ∀ j, D' j = if j = k then true else D j)
  (hal : cu o.op = .alloc) {K : Act -> World -> Prop} {Q : Exit -> Act -> World -> Prop} (hK : ∀ a'' w'' C'', DV E ops z σ C w a D' hd a'' w'' C'' -> K a'' w'') :
  if Region.wanted o (yielded ops a'.tmps) then o.wp E.P a' w' K Q else K (a'.put o.dst undef) w' := by
 have hkn : k < ops.size := (Array.getElem?_eq_some_iff.1 ho).1
 have hnh : (cu o.op).jh = false := by rw [hal]; rfl
 have hnhv : ¬ hvAt ops k := by
  rintro ⟨o', ho', h⟩
  rw [ho] at ho'; injection ho' with ho'; subst ho'
  rw [hnh] at h; cases h
 obtain ⟨s, h', hz, hok, hval, hnext⟩ := hT.st k o ho
 have hsv : svZ z k = s := by unfold svZ; rw [hz]
 rw [Bw hri ho hnh] at hok hval
 have hreads := hDV.reads hR hT h0 hcl ho hdep hk
 obtain ⟨hdd, hcases⟩ := qJ hok hval
 have hgood := T.j6 (iI hE o (hT.ok k (by omega))) hval
 have hA1 : (atZ z (k + 1)).h = h' := by rw [hnext]
 have after : ∀ (y : SV × HS) (v : Value) (w'' : World) (C'' : Ctx), y.1 = s -> (∀ i ob, (atZ z k).h.nob <= i -> i < h'.nob -> h'.obj i = some ob -> y.2.obj i = some ob) -> h'.nob <= max E.top (atZ z k).h.nob ->
   StepC (pV E h'.nob (atZ z k).h.nob) (atZ z k).h.nob C' w' C'' w'' -> HOk h'.nob y.2 C'' w'' -> rel C'' w'' y.1 v -> K (a'.put o.dst v) w'' := by
  intro y v w'' C'' hs hobj hmax hst hk2 hr
  have hmono : (atZ z k).h.nob <= h'.nob := hgood.2.1
  have nX : ∀ i, (i < (atZ z k).h.nob ∨ h'.nob <= i) -> ¬ (pV E h'.nob (atZ z k).h.nob).X i := by
   rintro i hi ⟨h1, h2⟩
   have h1 : (atZ z k).h.nob <= i := h1
   have h2 : i < h'.nob := h2
   omega
  obtain ⟨q1, q2, q3, q4, q5⟩ := hDV.slots hR hst.st ho hD hdd (v := v) (by rw [hsv, ← hs]; exact hr)
  have hle0 : (atZ z 0).h.nob <= (atZ z k).h.nob := cZ hT (Nat.zero_le _) (by omega)
  refine hK _ _ C'' ⟨hDV.hdle, hDV.hdh, fun j hj => ?_, fun j hj => ?_, hk2.wf, q1, q2, q3, q4, fun i ob hi hob => ?_, fun j i ob hj h1 h2 hob => ?_, fun i h1 h2 h3 => ?_, ?_, q5⟩
  · rw [hD, if_neg (by rintro rfl; exact hnhv hj)]
    exact hDV.hv j hj
  · rw [hD] at hj
    split at hj
    · rename_i e; rw [e]; exact hkn
    · exact hDV.lt j hj
  · exact bZ hDV.wf hst.st (nX i (.inl (by omega))) _ (hDV.o0 i ob hi hob)
  · rw [hD] at hj
    by_cases hjk : j = k
    · subst hjk
      rw [hA1] at h2
      have hstab : (atZ z (max hd (j + 1))).h.obj i = h'.obj i := by
        by_cases hle : hd <= j + 1
        · rw [show max hd (j + 1) = j + 1 by omega, hA1]
        · rw [show max hd (j + 1) = hd by omega, ← hA1]
          refine kK hri hT (by omega) hDV.hdle (fun h h4 h5 hh => ?_) (by rw [hA1]; exact h2)
          have hDh := (hDV.hv h hh).2 h5
          obtain ⟨oh, hoh, hhv⟩ := hh
          have hp := hR.pair j h o oh (by omega) ho hoh
          unfold pairC at hp
          simp only [Bool.and_eq_true, Bool.or_eq_true, Bool.not_eq_true'] at hp
          have hbit : (mkAt ops h).testBit j = true := by
            rcases hp.2 with h6 | ⟨_, _, h6⟩
            · exact h6
            · exfalso
              have e1 : (plOf ops (mkAt ops j) o).kd = .alloc := hal
              have e2 : (plOf ops (mkAt ops h) oh).kd.jh = true := hhv
              rw [e1, e2] at h6
              cases h6
          have := dD hcl h oh hoh (hcl h oh hoh hDh) j hbit
          rw [hk] at this; cases this
      rw [hstab] at hob
      exact hk2.ob i ob (hobj i ob h1 h2 hob)
    · rw [if_neg hjk] at hj
      refine bZ hDV.wf hst.st (nX i ?_) _ (hDV.ok j i ob hj h1 h2 hob)
      rcases Nat.lt_or_ge i (atZ z k).h.nob with h3 | h3
      · exact .inl h3
      · right
        rcases Nat.lt_or_ge i h'.nob with h4 | h4
        · exact absurd (uy hT (hDV.lt j hj) hkn h1 h2 h3 (by rw [hA1]; exact h4)) hjk
        · exact h4
  · by_cases hin : (atZ z k).h.nob <= i /\ i < h'.nob
    · exact ⟨k, by rw [hD]; simp, hin.1, by rw [hA1]; exact hin.2⟩
    · rw [hst.tp i (by
       show i < (atZ z k).h.nob ∨ h'.nob <= i
       omega)] at h3
      obtain ⟨j, h4, h5⟩ := hDV.nm i h1 h2 h3
      exact ⟨j, by rw [hD]; split <;> simp_all, h5⟩
  · refine ⟨Step.trans hDV.wf hDV.st.st ⟨hst.st.ext, hst.st.w0, hst.st.own, fun i b hx hb => ?_, ?_⟩, fun i hi => ?_⟩
    ·
     by_cases hin : (atZ z k).h.nob <= i /\ i < h'.nob
     · by_cases hne : E.base <= i /\ i < E.top
       · exact absurd hne hx
       · obtain ⟨u, hu⟩ := hDV.wf.own i b hb
         rcases Nat.lt_or_ge i E.top with h6 | h6
         · have := hst.st.keep i b
           by_cases hX : (pV E h'.nob (atZ z k).h.nob).X i
           · exfalso
             obtain ⟨j, j1, j2, j3⟩ := hDV.nm i (by omega) h6 (by rw [hu]; simp)
             have := uy hT (hDV.lt j j1) hkn j2 j3 hin.1 (by rw [hA1]; exact hin.2)
             subst this
             rw [hk] at j1; cases j1
           · exact this hX hb
         · have : h'.nob <= i := by omega
           omega
     · exact hst.st.keep i b (nX i (by omega)) hb
    · refine hst.st.ag.mono fun b hb hex => ?_
      obtain ⟨i, hi, hib⟩ := hex
      have h1 : (atZ z k).h.nob <= i := hi.1
      have h2 : i < h'.nob := hi.2
      obtain ⟨u, hu⟩ := hDV.wf.own i b hib
      exfalso
      rcases Nat.lt_or_ge i E.top with h6 | h6
      · obtain ⟨j, j1, j2, j3⟩ := hDV.nm i (by omega) h6 (by rw [hu]; simp)
        have := uy hT (hDV.lt j j1) hkn j2 j3 h1 (by rw [hA1]; exact h2)
        subst this
        rw [hk] at j1; cases j1
      · omega
    · by_cases hlt : h'.nob <= E.top
      · exact (hst.tp i (by
         show i < (atZ z k).h.nob ∨ h'.nob <= i
         omega)).trans (hDV.st.tp i hi)
      · exact (hst.tp i (by
         show i < (atZ z k).h.nob ∨ h'.nob <= i
         omega)).trans (hDV.st.tp i hi)
 have hokk : HOk h'.nob ⟨fun _ => none, (atZ z k).h.nob⟩ C' w' := by
  refine ⟨hDV.wf, fun i ob h => (by cases h), fun i h1 h2 => ?_⟩
  have h1 : (atZ z k).h.nob <= i := h1
  cases hn : C'.ν i with
  | none => rfl
  | some u =>
    exfalso
    have hle0 : (atZ z 0).h.nob <= (atZ z k).h.nob := cZ hT (Nat.zero_le _) (by omega)
    have hmax := hgood.2.2
    have hmax : h'.nob <= max E.top (atZ z k).h.nob := hmax
    obtain ⟨j, j1, j2, j3⟩ := hDV.nm i (by omega) (by omega) (by rw [hn]; simp)
    have := uy hT (hDV.lt j j1) hkn j2 j3 h1 (by rw [hA1]; exact h2)
    subst this
    rw [hk] at j1; cases j1
 rcases hcases with ⟨_, hy, hs⟩ | ⟨hskip, hgo⟩
 · injection hy with hy1 hy2
   have hh : (stC (pV E h'.nob (atZ z k).h.nob) ops rid k o ⟨(atZ z k).sl, ⟨fun _ => none, (atZ z k).h.nob⟩⟩).holds fun y => y = (dZ, ⟨fun _ => none, (atZ z k).h.nob⟩) := by
    rw [hs (pV E h'.nob (atZ z k).h.nob) _ rfl]; rfl
   refine pY (GI hE _ _) hokk hDV.sz hreads hh fun _ y v w'' C'' hp hst hk2 hr => after y v w'' C'' (by rw [hp, hy1]) (fun i ob h1 h2 _ => ?_) hgood.2.2 hst hk2 hr
   rw [hy2] at h2
   omega
 · have e0 : stC E ops rid k o (atZ z k) = bG E rid k (evC (atZ z k).sl) (atZ z k).h o := hgo E (atZ z k).h rfl
   rw [e0, qj hnh] at hok hval
   obtain ⟨r, r1, r2, r3, r4, hy⟩ := zw hok hval
   injection hy with hy1 hy2
   obtain ⟨ob0, hre⟩ := NV hal r2
   have hnob' : h'.nob = (atZ z k).h.nob + 1 := by rw [hy2]; show (atZ z k).h.nob + r.eff.new.length = _; rw [hre]; rfl
   have hh : (stC (pV E h'.nob (atZ z k).h.nob) ops rid k o ⟨(atZ z k).sl, ⟨fun _ => none, (atZ z k).h.nob⟩⟩).holds fun y => y = (r.sv, (⟨fun _ => none, (atZ z k).h.nob⟩ : HS).eff r.eff) := by
    rw [hgo (pV E h'.nob (atZ z k).h.nob) _ rfl, qj hnh]
    have he : cxE (pV E h'.nob (atZ z k).h.nob).P (evC (atZ z k).sl) (⟨fun _ => none, (atZ z k).h.nob⟩ : HS).obj (⟨fun _ => none, (atZ z k).h.nob⟩ : HS).nob o = cxE E.P (evC (atZ z k).sl) (atZ z k).h.obj (atZ z k).h.nob o := Pt hal
    rw [he]
    refine Ga r1 r2 r3 ?_
    rw [hre]
    simp [jf, iG, pV, hnob', Nat.blt_eq]
   refine pY (GI hE _ _) hokk hDV.sz hreads hh fun _ y v w'' C'' hp hst hk2 hr => after y v w'' C'' (by rw [hp, hy1]) (fun i ob h1 h2 hob => ?_) hgood.2.2 hst hk2 hr
   have hi : i = (atZ z k).h.nob := by omega
   subst hi
   rw [hp]
   rw [hy2] at hob
   have hob : r.eff.obs (atZ z k).h.obj (atZ z k).h.nob = some ob := hob
   show r.eff.obs (fun _ => none) (atZ z k).h.nob = some ob
   rw [hre] at hob ⊢
   simpa [Eff.obs, List.lookup] using hob
theorem DV.heavy {D D' : Nat -> Bool} {hd : Nat} {a' : Act} {w' : World} {C' : Ctx} (hE : E.Ok) (hDV : DV E ops z σ C w a D hd a' w' C') (hri : gL ops = some ri) (hR : RS ops) (hT : TF E ops rid ri.wd z) (h0 : atZ z 0 = σ) (hcl : Closed ops D)
  {k : Nat} {o : Oper} (ho : ops[k]? = some o) (hdep : ∀ e ∈ o.after, Region.binds .any e = true -> D e.on = true) (hk : D k = false) (hD : ∀ j, D' j = if j = k then true else D j)
  (hhv : (cu o.op).jh = true) {K : Act -> World -> Prop} {Q : Exit -> Act -> World -> Prop} (hK : ∀ hd' a'' w'' C'', DV E ops z σ C w a D' hd' a'' w'' C'' -> K a'' w'') :
  if Region.wanted o (yielded ops a'.tmps) then o.wp E.P a' w' K Q else K (a'.put o.dst undef) w' := by
 have hkn : k < ops.size := (Array.getElem?_eq_some_iff.1 ho).1
 have hkv : hvAt ops k := ⟨o, ho, hhv⟩
 have hle : hd <= k := by
  rcases Nat.lt_or_ge k hd with h | h
  · rw [(hDV.hv k hkv).2 h] at hk; cases hk
  · exact h
 have bitOf : ∀ {i j : Nat} {oi oj : Oper}, i < j -> ops[i]? = some oi -> ops[j]? = some oj -> ((cu oi.op).jh || (cu oi.op).Co) = true -> (cu oj.op).jh = true -> (mkAt ops j).testBit i = true := by
  intro i j oi oj hij hi hj h1 h2
  have hp := hR.pair i j oi oj hij hi hj
  unfold pairC at hp
  simp only [Bool.and_eq_true, Bool.or_eq_true, Bool.not_eq_true'] at hp
  rcases hp.2 with h | ⟨_, _, h⟩
  · exact h
  · exfalso
    have e1 : ((plOf ops (mkAt ops i) oi).kd.jh || (plOf ops (mkAt ops i) oi).kd.Co) = true := h1
    have e2 : (plOf ops (mkAt ops j) oj).kd.jh = true := h2
    rw [e1, e2] at h
    cases h
 have hhd : hd = k := by
  rcases Nat.lt_or_ge hd k with h | h
  · exfalso
    have hhv2 : hvAt ops hd := by
        rcases hDV.hdh with h2 | h2
        · omega
        · exact h2
    obtain ⟨oh, hoh, h3⟩ := hhv2
    have hb := bitOf h hoh ho (by rw [h3]; rfl) hhv
    have := (hDV.hv hd ⟨oh, hoh, h3⟩).1 (dD hcl k o ho hdep hd hb)
    omega
  · omega
 subst hhd
 obtain ⟨s, h', hz, hok, hval, hnext⟩ := hT.st hd o ho
 have hsv : svZ z hd = s := by unfold svZ; rw [hz]
 have hA1 : (atZ z (hd + 1)).h = h' := by rw [hnext]
 have hreads := hDV.reads hR hT h0 hcl ho hdep hk
 have hle0 : (atZ z 0).h.nob <= (atZ z hd).h.nob := cZ hT (Nat.zero_le _) (by omega)
 have hmono : (atZ z hd).h.nob <= h'.nob := by rw [← hA1]; exact hT.mono hd hkn
 have made : ∀ j, j < hd -> (atZ z j).h.nob < (atZ z (j + 1)).h.nob -> D j = true := by
  intro j hj hlt
  have hoj : ops[j]? = some ops[j] := Array.getElem?_eq_getElem (by omega)
  exact dD hcl hd o ho hdep j (bitOf hj hoj ho (uz hri hT hoj hlt) hhv)
 have hob : ObsOk C' w' (atZ z hd).h.obj := by
  intro i ob hi
  have hin : i < (atZ z hd).h.nob := by
   rcases Nat.lt_or_ge i (atZ z hd).h.nob with h4 | h4
   · exact h4
   · rw [hT.ok hd (by omega) i h4] at hi; cases hi
  by_cases hi0 : i < (atZ z 0).h.nob
  · exact hDV.o0 i ob hi0 hi
  · obtain ⟨j, j1, j2, j3⟩ := qb hT hd (by omega) (by omega) hin
    refine hDV.ok j i ob (made j j1 (by omega)) j2 j3 ?_
    rw [show max hd (j + 1) = hd by omega]
    exact hi
 have main : ∀ (T1 : Nat) (y0 : SV × HS), T1 <= E.top -> y0.1 = s -> (∀ i, y0.2.obj i = h'.obj i) -> y0.2.nob <= h'.nob -> (∀ j i, D j = true -> (atZ z j).h.nob <= i -> i < (atZ z (j + 1)).h.nob -> (atZ z hd).h.nob <= i -> T1 <= i) ->
   (stC { E with top := T1 } ops rid hd o (atZ z hd)).ok -> (stC { E with top := T1 } ops rid hd o (atZ z hd)).val = some y0 ->
   if Region.wanted o (yielded ops a'.tmps) then o.wp E.P a' w' K Q else K (a'.put o.dst undef) w' := by
  intro T1 y0 hT1 hy1 hy2 hy3 hfar hok1 hval1
  have hdd := (qJ hok1 hval1).1
  have hokk : HOk T1 (atZ z hd).h C' w' := by
   refine ⟨hDV.wf, hob, fun i h1 h2 => ?_⟩
   cases hn : C'.ν i with
   | none => rfl
   | some u =>
     exfalso
     obtain ⟨j, j1, j2, j3⟩ := hDV.nm i (by omega) (by omega) (by rw [hn]; simp)
     have := hfar j i j1 j2 j3 h1
     omega
  refine pY (E := { E with top := T1 }) (hE.qN T1) hokk hDV.sz hreads (T.holds_of (a := y0) (post := fun y => y = y0) rfl _ hok1 hval1) fun _ y v w'' C'' hp hst hk2 hr => ?_
  subst hp
  obtain ⟨hd', n1, n2, n3, n4⟩ := Gg (ops := ops) (ops.size - (hd + 1)) (hd + 1) (by omega)
  obtain ⟨q1, q2, q3, q4, q5⟩ := hDV.slots hR hst.st ho hD hdd (v := v) (by rw [hsv, ← hy1]; exact hr)
  have stab : ∀ i, i < h'.nob -> (atZ z hd').h.obj i = y.2.obj i := fun i hi => by
   rw [hy2, ← hA1]
   exact kK hri hT n1 n2 n4 (by rw [hA1]; exact hi)
  refine hK hd' _ _ C'' ⟨n2, n3, fun j hj => ?_, fun j hj => ?_, hk2.wf, q1, q2, q3, q4, fun i ob hi hob => ?_, fun j i ob hj h1 h2 hob => ?_, fun i h1 h2 h3 => ?_, ?_, q5⟩
  · rw [hD]
    by_cases hjk : j = hd
    · subst hjk; simp; omega
    · rw [if_neg hjk, hDV.hv j hj]
      constructor
      · intro h; omega
      · intro h
        rcases Nat.lt_or_ge j hd with h5 | h5
        · exact h5
        · exact absurd hj (n4 j (by omega) h)
  · rw [hD] at hj
    split at hj
    · rename_i e; rw [e]; exact hkn
    · exact hDV.lt j hj
  · rw [stab i (by omega)] at hob
    exact hk2.ob i ob hob
  · by_cases hjle : j <= hd
    · have hlt2 : i < h'.nob := by
       have := cZ hT (p := j + 1) (q := hd + 1) (by omega) (by omega)
       rw [hA1] at this; omega
      rw [show max hd' (j + 1) = hd' by omega, stab i hlt2] at hob
      exact hk2.ob i ob hob
    · have hjk : ¬ j = hd := by omega
      rw [hD, if_neg hjk] at hj
      have hge : (atZ z hd).h.nob <= i := by
       have := cZ hT (p := hd) (q := j) (by omega) (by have := hDV.lt j hj; omega)
       omega
      have hT1i := hfar j i hj h1 h2 hge
      have hjn := hDV.lt j hj
      refine bZ hDV.wf hst.st (fun hX => ?_) _ (hDV.ok j i ob hj h1 h2 ?_)
      · have : i < T1 := hX.2
        omega
      · rw [show max hd (j + 1) = j + 1 by omega]
        by_cases hle2 : hd' <= j + 1
        · rw [show max hd' (j + 1) = j + 1 by omega] at hob; exact hob
        · rw [show max hd' (j + 1) = hd' by omega, kK hri hT (p := j + 1) (q := hd') (by omega) n2 (fun h h4 h5 => n4 h (by omega) h5) h2] at hob
          exact hob
  · by_cases hin : (atZ z hd).h.nob <= i /\ i < T1
    · have hlt2 : i < y.2.nob := by
       rcases Nat.lt_or_ge i y.2.nob with h5 | h5
       · exact h5
       · exact absurd (hk2.nb i h5 hin.2) h3
      exact ⟨hd, by rw [hD]; simp, hin.1, by rw [hA1]; omega⟩
    · rw [hst.tp i (by
       show i < (atZ z hd).h.nob ∨ T1 <= i
       omega)] at h3
      obtain ⟨j, h4, h5⟩ := hDV.nm i h1 h2 h3
      exact ⟨j, by rw [hD]; split <;> simp_all, h5⟩
  · refine ⟨Step.trans hDV.wf hDV.st.st (hst.st.mono fun i hi => ⟨hi.1, Nat.lt_of_lt_of_le hi.2 hT1⟩), fun i hi => ?_⟩
    exact (hst.tp i (by
     show i < (atZ z hd).h.nob ∨ T1 <= i
     omega)).trans (hDV.st.tp i hi)
 have hwd := (jJ hri).2.2 hd o ho
 cases hm : jk hd ri.wd with
 | true =>
   have hokw := hok
   have hvalw := hval
   unfold stW at hokw hvalw
   rw [hm, cond_true] at hokw hvalw
   cases hb : Nat.ble ((atZ z hd).h.nob + E.win rid) E.top with
   | false => rw [hb] at hokw; exact hokw.elim
   | true =>
     rw [hb, cond_true] at hokw hvalw
     have hb := Nat.le_of_ble_eq_true hb
     obtain ⟨y0, hy0, hv0⟩ := T.bM hvalw
     obtain ⟨hok0, _⟩ := T.bind_ok hokw
     simp only [T.val, Option.some.injEq, Prod.mk.injEq] at hv0
     obtain ⟨e1, e2⟩ := hv0
     have en : h'.nob = (atZ z hd).h.nob + E.win rid := by rw [← e2]
     have hg := T.j6 (iI (E := { E with top := (atZ z hd).h.nob + E.win rid }) (hE.qN _) o (hT.ok hd (by omega))) hy0
     have hg2 : y0.2.nob <= max ((atZ z hd).h.nob + E.win rid) (atZ z hd).h.nob := hg.2.2
     refine main ((atZ z hd).h.nob + E.win rid) y0 hb e1 (fun i => by rw [← e2]) (by omega) (fun j i hj h1 h2 h3 => ?_) hok0 hy0
     rcases Nat.lt_or_ge i ((atZ z hd).h.nob + E.win rid) with h4 | h4
     · have := uy hT (hDV.lt j hj) hkn h1 h2 h3 (by rw [hA1, en]; exact h4)
       subst this
       rw [hk] at hj; cases hj
     · exact h4
 | false =>
   have hw : Qu (kS ops) hd = false := by
    cases hb : Qu (kS ops) hd with
    | false => rfl
    | true => rw [hwd.2 ⟨hhv, hb⟩] at hm; cases hm
   have hst : stW E ops rid ri.wd hd o (atZ z hd) = stC E ops rid hd o (atZ z hd) := by unfold stW; rw [hm]; rfl
   rw [hst] at hok hval
   refine main E.top (s, h') (Nat.le_refl _) rfl (fun _ => rfl) (Nat.le_refl _) (fun j i hj h1 h2 h3 => ?_) hok hval
   exfalso
   have hjn := hDV.lt j hj
   have hoj : ops[j]? = some ops[j] := Array.getElem?_eq_getElem hjn
   have hmk := uz hri hT hoj (by omega)
   rcases Nat.lt_trichotomy j hd with h4 | h4 | h4
   · have := cZ hT (p := j + 1) (q := hd) (by omega) (by omega)
     omega
   · subst h4; rw [hk] at hj; cases hj
   · rw [Bool.or_eq_true] at hmk
     rcases hmk with h5 | h5
     · have := (hDV.hv j ⟨_, hoj, h5⟩).1 hj
       omega
     · have hb := Ns hw h4 hoj h5
       have := dD hcl j _ hoj (hcl j _ hoj hj) hd hb
       rw [hk] at this; cases this
end
theorem JZ {ops : Array Oper} {listed : Array Bool} (hsz : listed.size = ops.size) (hedge : ∀ j o, ops[j]? = some o -> ∀ e ∈ o.after, Region.binds .any e = true -> e.on < j) (hempty : Region.ready .any ops listed = []) :
  ∀ j, j < ops.size -> listed.getD j false = true := by
 intro j
 induction j using Nat.strongRecOn with
 | _ j ih =>
   intro hj
   cases hd : listed.getD j false with
   | true => rfl
   | false =>
     exfalso
     have hoj : ops[j]? = some ops[j] := Array.getElem?_eq_getElem hj
     have : j ∈ Region.ready .any ops listed := by
       refine mem_ready.2 ⟨?_, ops[j], hoj, fun e he hb => ?_⟩
       · rw [Array.getD_eq_getD_getElem?] at hd ⊢
         rw [Array.getElem?_eq_getElem (by omega)] at hd ⊢
         simpa using hd
       · have hlt := hedge j _ hoj e he hb
         exact ih e.on hlt (by omega)
     rw [hempty] at this
     cases this
theorem Fv {E : CEnv} (hE : E.Ok) {ops : Array Oper} {rid : Nat} {Q : Exit -> Act -> World -> Prop} {post : CS -> Prop} {σ : CS} {C : Ctx} {a : Act} {w : World} (h : InvC E C σ a w)
  (hh : (mK E ops rid σ).holds post) (hQ : ∀ C' σ' a' w', post σ' -> InvC E C' σ' a' w' -> StepC E σ.h.nob C w C' w' -> (∀ j, j ∉ dstsO ops.toList -> a'.tmps.getD j undef = a.tmps.getD j undef) -> Q .normal a' w') (hm : E.P.follows .mixedOrders = true) :
  (Code.region rid ops true).wp E.P Q a w := by
 unfold mK at hh
 split at hh
 · exact hh.elim
 · rename_i ri hri
   rw [T.ak, T.bC _ (T.oO _ (rW hE _ _ _ h.ok))] at hh
   obtain ⟨hok, z, hval, hdyn, hp⟩ := hh
   have hp : post z.2 := hp
   obtain ⟨hT, h0, hn⟩ := ahV hE h.ok hok hval
   have hR := (jJ hri).1
   refine wp_region_any hm ?_
   let Dl : Array Bool -> Nat -> Bool := fun l j => l.getD j false
   refine ET (fun listed a' w' => listed.size = ops.size /\ Closed ops (Dl listed) /\ ∃ hd C', DV E ops z σ C w a (Dl listed) hd a' w' C') (fun l a w hS => hS.1) ?_ ?_ _ _ _ _ ?_ ?_
   ·
    intro listed a' w' k hready ⟨hsz, hcl, hd, C', hDV⟩
    obtain ⟨hun, o, ho, hdep⟩ := mem_ready.1 hready
    have hkn : k < ops.size := (Array.getElem?_eq_some_iff.1 ho).1
    have hk : Dl listed k = false := by
        show listed.getD k false = false
        rw [Array.getD_eq_getD_getElem?] at hun ⊢
        cases hlk : listed[k]? with
        | none => rfl
        | some b => rw [hlk] at hun; simpa using hun
    have hD : ∀ j, Dl (listed.setIfInBounds k true) j = if j = k then true else Dl listed j := by
     intro j
     show (listed.setIfInBounds k true).getD j false = if j = k then true else listed.getD j false
     rw [Array.getD_eq_getD_getElem?, Array.getD_eq_getD_getElem?, Array.getElem?_setIfInBounds]
     by_cases hj : j = k
     · subst hj; simp [show j < listed.size by omega]
     · have : ¬ k = j := fun e => hj e.symm
       simp [hj, this]
    have hcl' : Closed ops (Dl (listed.setIfInBounds k true)) := by
     intro i o' ho' hi e he hb
     rw [hD] at hi ⊢
     by_cases hik : i = k
     · subst hik
       rw [ho] at ho'; injection ho' with ho'; subst ho'
       have := hdep e he hb
       split
       · rfl
       · exact this
     · rw [if_neg hik] at hi
       have := hcl i o' ho' hi e he hb
       split
       · rfl
       · exact this
    have fin : ∀ hd' a'' w'' C'', DV E ops z σ C w a (Dl (listed.setIfInBounds k true)) hd' a'' w'' C'' -> (listed.setIfInBounds k true).size = ops.size /\ Closed ops (Dl (listed.setIfInBounds k true)) /\ ∃ hd C', DV E ops z σ C w a (Dl (listed.setIfInBounds k true)) hd a'' w'' C' :=
     fun hd' a'' w'' C'' h => ⟨by simpa using hsz, hcl', hd', C'', h⟩
    have all : ∀ {Q : Exit -> Act -> World -> Prop}, if Region.wanted o (yielded ops a'.tmps) then o.wp E.P a' w' (fun a'' w'' => (listed.setIfInBounds k true).size = ops.size /\ Closed ops (Dl (listed.setIfInBounds k true)) /\ ∃ hd C', DV E ops z σ C w a (Dl (listed.setIfInBounds k true)) hd a'' w'' C') Q
      else (fun a'' w'' => (listed.setIfInBounds k true).size = ops.size /\ Closed ops (Dl (listed.setIfInBounds k true)) /\ ∃ hd C', DV E ops z σ C w a (Dl (listed.setIfInBounds k true)) hd a'' w'' C') (a'.put o.dst undef) w' := by
     intro Q
     cases hkd : cu o.op with
     | pure => exact hDV.light hE hri hR hT h0 hcl hdyn ho hdep hk hD (by rw [hkd]; rfl) (K := fun a'' w'' => _ /\ _ /\ _) fun a'' w'' C'' h => fin hd a'' w'' C'' h
     | load => exact hDV.light hE hri hR hT h0 hcl hdyn ho hdep hk hD (by rw [hkd]; rfl) (K := fun a'' w'' => _ /\ _ /\ _) fun a'' w'' C'' h => fin hd a'' w'' C'' h
     | alloc => exact hDV.alloc hE hri hR hT h0 hcl ho hdep hk hD hkd (K := fun a'' w'' => _ /\ _ /\ _) fun a'' w'' C'' h => fin hd a'' w'' C'' h
     | heavy => exact hDV.heavy hE hri hR hT h0 hcl ho hdep hk hD (by rw [hkd]; rfl) (K := fun a'' w'' => _ /\ _ /\ _) fun hd' a'' w'' C'' h => fin hd' a'' w'' C'' h
    refine Pe ho (fun hw => ?_) (fun hw => ?_)
    · have := all (Q := Q)
      rw [hw] at this
      simpa using this
    · have := all (Q := Q)
      rw [hw] at this
      simpa using this
   ·
    rintro listed a' w' ⟨hsz, hcl, hd, C', hDV⟩ hnone
    have hall : ∀ k, k < ops.size -> Dl listed k = true := JZ hsz hR.edge hnone
    have hhd : hd = ops.size := by
     rcases hDV.hdh with h1 | h1
     · exact h1
     · obtain ⟨oh, hoh, h2⟩ := h1
       have hlt := (Array.getElem?_eq_some_iff.1 hoh).1
       have := (hDV.hv hd ⟨oh, hoh, h2⟩).1 (hall hd hlt)
       omega
    subst hhd
    have hnn : (atZ z ops.size).h = z.2.h := by rw [hn]
    refine hQ C' z.2 a' w' hp ⟨⟨hDV.wf, fun i ob hi => ?_, fun i h1 h2 => ?_⟩, ?_, hDV.sz, hDV.df, fun t => ?_⟩ (by rw [← h0]; exact hDV.st) hDV.fr
    · rw [← hn] at hi
      have hin : i < (atZ z ops.size).h.nob := by
       rcases Nat.lt_or_ge i (atZ z ops.size).h.nob with h4 | h4
       · exact h4
       · rw [hT.ok _ (Nat.le_refl _) i h4] at hi; cases hi
      by_cases hi0 : i < (atZ z 0).h.nob
      · exact hDV.o0 i ob hi0 hi
      · obtain ⟨j, j1, j2, j3⟩ := qb hT ops.size (Nat.le_refl _) (by omega) hin
        refine hDV.ok j i ob (hall j j1) j2 j3 ?_
        rw [show max ops.size (j + 1) = ops.size by omega]
        exact hi
    · rw [← hn] at h1
      cases hnu : C'.ν i with
      | none => rfl
      | some u =>
        exfalso
        have := cZ hT (p := 0) (q := ops.size) (Nat.zero_le _) (Nat.le_refl _)
        obtain ⟨j, j1, j2, j3⟩ := hDV.nm i (by omega) h2 (by rw [hnu]; simp)
        have := cZ hT (p := j + 1) (q := ops.size) (by have := hDV.lt j j1; omega) (Nat.le_refl _)
        omega
    · rw [← hn]; exact hT.ok _ (Nat.le_refl _)
    · rw [← hn]
      rcases BK hT h0 t ops.size (Nat.le_refl _) with ⟨j, oj, j1, j2, j3, e⟩ | ⟨hno, e⟩
      · rw [e]; exact hDV.s1 j oj t j2 j3 (hall j j1)
      · rw [e]; exact hDV.s0 t fun k o ho hk => hno k o (hDV.lt k hk) ho
   · simp
   ·
    refine ⟨by simp, fun i o ho hi => ?_, ?_⟩
    · exfalso
      have : (Array.replicate ops.size false).getD i false = true := hi
      rw [Array.getD_eq_getD_getElem?, Array.getElem?_replicate] at this
      split at this <;> simp at this
    · obtain ⟨hd, n1, n2, n3, n4⟩ := Gg (ops := ops) ops.size 0 (by omega)
      have hDf : ∀ k, Dl (Array.replicate ops.size false) k = false := by
       intro k
       show (Array.replicate ops.size false).getD k false = false
       rw [Array.getD_eq_getD_getElem?, Array.getElem?_replicate]
       split <;> rfl
      have hst : Step E.X C w C { w with drawn := w.drawn + 1 } := ⟨fun _ _ h => h, rfl, fun j b h => .inl ⟨j, h⟩, fun _ _ _ h => h, ⟨rfl, rfl, rfl, Nat.le_refl _, fun _ _ _ => rfl⟩⟩
      have hst0 : Step (fun _ => False) C w C { w with drawn := w.drawn + 1 } := ⟨fun _ _ h => h, rfl, fun j b h => .inl ⟨j, h⟩, fun _ _ _ h => h, ⟨rfl, rfl, rfl, Nat.le_refl _, fun _ _ _ => rfl⟩⟩
      refine ⟨hd, C, n2, n3, fun k hk => ?_, fun k hk => ?_, jc h.hk.wf hst, h.sz, h.df, fun k o t _ _ hk => ?_, fun t _ => aC hst _ _ (h.sl t), fun i ob hi hob => ?_, fun k i ob hk => ?_, fun i h1 h2 h3 => ?_, ⟨hst, fun _ _ => rfl⟩, fun _ _ => rfl⟩
      · rw [hDf]
        exact ⟨fun h => (by cases h), fun h => absurd hk (n4 k (Nat.zero_le _) h)⟩
      · rw [hDf] at hk; cases hk
      · rw [hDf] at hk; cases hk
      · rw [kK hri hT (Nat.zero_le hd) n2 n4 hi, h0] at hob
        exact bZ h.hk.wf hst0 id _ (h.hk.ob i ob hob)
      · rw [hDf] at hk; cases hk
      · rw [h0] at h1
        exact absurd (h.hk.nb i h1 h2) h3
end Rx
set_option linter.unusedSectionVars false
set_option linter.unusedSimpArgs false
set_option linter.unusedVariables false
namespace Rx
open Go
variable [Glob]
def qV (E : CEnv) (n0 : Nat) (C : Ctx) (w : World) (a : Act) (ds : List Nat) (post : Ex × CS -> Prop) (e : Exit) (a' : Act) (w' : World) : Prop :=
 ∃ x C', post x /\ e = x.1.BM /\ InvC E C' x.2 a' w' /\ n0 <= x.2.h.nob /\ StepC E n0 C w C' w' /\ ∀ j, j ∉ ds -> a'.tmps.getD j undef = a.tmps.getD j undef
def yh (E : CEnv) (c : Code) (ds : List Nat) (σ : CS) (t : T (Ex × CS)) : Prop :=
 ∀ (post : Ex × CS -> Prop), t.holds post -> ∀ C a w, InvC E C σ a w -> c.wp E.P (qV E σ.h.nob C w a ds post) a w
def mg (E : CEnv) (σ : CS) (x : Ex × CS) : Prop := x.2.h.Ok /\ σ.h.nob <= x.2.h.nob /\ x.2.h.nob <= max E.top σ.h.nob
theorem I5 {E : CEnv} {c : Code} {ds : List Nat} {f : CS -> T (Ex × CS)} (hf : ∀ σ, yh E c ds σ (f σ)) (n : Nat) (σ : CS) : yh E (.loop c) ds σ (nP f n σ) := by
 intro post hh C a w hi
 refine wp_loop_ghost (fun k a' w' => ∃ σ' C', (nP f k σ').holds post /\ InvC E C' σ' a' w' /\ σ.h.nob <= σ'.h.nob /\ StepC E σ.h.nob C w C' w' /\ ∀ j, j ∉ ds -> a'.tmps.getD j undef = a.tmps.getD j undef) n ⟨σ, C, hh, hi, Nat.le_refl _, StepC.refl E _ C w, fun _ _ => rfl⟩ ?_
 rintro k a' w' ⟨σ', C', hh, hi, hn, hst, hfr⟩
 cases k with
 | zero => exact hh.elim
 | succ k =>
   simp only [nP, T.ak] at hh
   refine wp_mono (hf σ' _ hh C' a' w' hi) ?_
   rintro e a2 w2 ⟨⟨ex, σ2⟩, C2, hp, rfl, hi2, hn2, hst2, hfr2⟩
   have hn2 : σ'.h.nob <= σ2.h.nob := hn2
   have hst3 := StepC.trans hi.hk.wf hn hst hst2
   have hfr3 : ∀ j, j ∉ ds -> a2.tmps.getD j undef = a.tmps.getD j undef := fun j hj => (hfr2 j hj).trans (hfr j hj)
   cases ex with
   | normal => exact ⟨k, by omega, σ2, C2, hp, hi2, by omega, hst3, hfr3⟩
   | exit id => exact ⟨_, C2, hp, rfl, hi2, by show σ.h.nob <= σ2.h.nob; omega, hst3, hfr3⟩
   | ret => exact ⟨_, C2, hp, rfl, hi2, by show σ.h.nob <= σ2.h.nob; omega, hst3, hfr3⟩
def Ctx.cut (C : Ctx) (n t : Nat) : Ctx := ⟨fun i => if n <= i /\ i < t then none else C.ν i, fun i => if n <= i /\ i < t then none else C.ρ i, C.W0⟩
theorem rH {C : Ctx} {n t i b : Nat} (h : (C.cut n t).ρ i = some b) : C.ρ i = some b := by
 have h : (if n <= i /\ i < t then none else C.ρ i) = some b := h
 split at h
 · cases h
 · exact h
theorem aex {C : Ctx} {n t b : Nat} (h : (C.cut n t).W b) : C.W b := by
 rcases h with h | ⟨i, hi⟩
 · exact .inl h
 · exact .inr ⟨i, rH hi⟩
theorem yL {C : Ctx} {n t i : Nat} (h : ¬ (n <= i /\ i < t)) : (C.cut n t).ν i = C.ν i := if_neg h
theorem NU {C : Ctx} {n t i : Nat} (h : ¬ (n <= i /\ i < t)) : (C.cut n t).ρ i = C.ρ i := if_neg h
theorem Yw {C : Ctx} {w : World} (hw : WF C w) (n t : Nat) : WF (C.cut n t) w :=
 ⟨fun i b h => hw.lt i b (rH h), fun i j b h h' => hw.inj i j b (rH h) (rH h'), hw.w0, fun i b h => by
  obtain ⟨v, hv⟩ := hw.own i b (rH h)
  refine ⟨v, ?_⟩
  have h2 : (if n <= i /\ i < t then none else C.ρ i) = some b := h
  split at h2
  · cases h2
  · rename_i hn; rw [yL hn]; exact hv, fun i b h => hw.dis i b (rH h), bP (fun b => aex) hw.gl⟩
theorem IW {n key : Nat} {seen : List Nat} (h : key ∈ leftOf n seen) : (leftOf n (key :: seen)).length < (leftOf n seen).length := by
 have h1 : leftOf n (key :: seen) = (leftOf n seen).filter fun k => !(k == key) := by
  unfold leftOf
  rw [List.filter_filter]
  refine List.filter_congr fun k _ => ?_
  simp only [List.contains_cons, Bool.not_or]
 rw [h1]
 refine List.length_filter_lt_length_iff_exists.2 ⟨key, h, by simp⟩
def QE (tail : CxT) (ops : Array Oper) (l : List Oper) (rest : Code) (ds : List Nat) : Prop :=
 ∀ (E : CEnv), E.Ok -> E.P.follows .mixedOrders = true -> ∀ σ (post : Ex × CS -> Prop), (tail E σ).holds post -> ∀ C a w, InvC E C σ a w ->
   ∀ R : Exit -> Act -> World -> Prop, (∀ e a' w', qV E σ.h.nob C w a ds post e a' w' -> R e a' w') -> wpList E.P ops (Exit.then (rest.wp E.P R) R) l a w
theorem wC {tail : CS -> T (Ex × CS)} {f : Nat -> CS} {u : T (Ex × CS)} {post : Ex × CS -> Prop} (hd : ∀ k, (tail (f k)).det = true) : ∀ {n : Nat}, (wB tail f u n).holds post ->
  u.holds post /\ ∀ k, k < n -> (tail (f k)).holds fun x => x.1 = .normal
 | 0, h => ⟨h, fun k hk => by omega⟩
 | n + 1, h => by
   simp only [wB, T.ak] at h
   have h2 := (T.bC _ (hd n)).1 h
   obtain ⟨_, y, _, hy⟩ := h2
   have hk : (wB tail f u n).holds post := by
     split at hy
     · exact hy
     · exact hy.elim
   obtain ⟨h3, h4⟩ := wC hd hk
   refine ⟨h3, fun k hk2 => ?_⟩
   by_cases e : k = n
   · subst e
     refine T.aD (fun x hx => ?_) _ h
     split at hx
     · assumption
     · exact hx.elim
   · exact h4 k (by omega)
theorem Ct {E : CEnv} (hE : E.Ok) (hm : E.P.follows .mixedOrders = true) {rid : Nat} {ops : Array Oper} {rest : Code} {o : Oper} {l : List Oper} {t : Tmp} {d : Option Tmp} {tail : CxT} (hops : ops.toList = o :: l) (hop : o.op = .next (.tmp t) false) (hg : o.guard = none) (hd : d = o.dst)
  (ht : QE tail ops l rest (bF (.seq (.region rid ops false) rest))) (hgood : ∀ (E : CEnv), E.Ok -> ∀ σ : CS, σ.h.Ok -> (tail E σ).good (mg E σ)) (σ : CS) :
  yh E (.loop (.seq (.region rid ops false) rest)) (bF (.seq (.region rid ops false) rest)) σ (iY (.seq (.region rid ops false) rest) tail E σ t d) := by
 subst hd
 intro post hh C0 a0 w0 hi0
 let ds := bF (.seq (.region rid ops false) rest)
 have hds : ∀ j, o.dst = some j -> j ∈ ds := fun j hj => by
  show j ∈ bF (.region rid ops false) ++ bF rest
  rw [List.mem_append]
  left
  show j ∈ dstsO ops.toList
  rw [hops]
  simp only [dstsO, List.mem_filterMap]
  exact ⟨o, by simp, hj⟩
 unfold iY at hh
 split at hh
 · rename_i q hq
   split at hh
   · rename_i m n cur hqo
     split at hh
     · rename_i kt vt ml hmo
       cases hb : (Nat.beq n ml.length && (Nat.ble E.base q && (Nat.ble E.base σ.h.nob && (Nat.blt q σ.h.nob && (Nat.blt q E.top && (fT E.N o.dst && !jk t (bF (.seq (.region rid ops false) rest)))))))) with
       | false => rw [hb] at hh; exact hh.elim
       | true =>
       rw [hb, cond_true] at hh
       simp only [Bool.and_eq_true, Nat.blt_eq, Bool.not_eq_true'] at hb
       obtain ⟨b1, b2, b3, b4, b5, b6, b7⟩ := hb
       have b1 := Nat.eq_of_beq_eq_true b1
       have b2 := Nat.le_of_ble_eq_true b2
       have b3 := Nat.le_of_ble_eq_true b3
       have htd : t ∉ ds := fun h => by rw [mD.2 h] at b7; cases b7
       have hmq : m ≠ q := by rintro rfl; rw [hqo] at hmo; cases hmo
       have hEb : CEnv.Ok { E with base := σ.h.nob } := hE.Cb _
       have okU : ∀ c, HS.Ok ⟨upd σ.h.obj q (some (.itx m n c)), σ.h.nob⟩ := fun c i hi => by
        have hi : σ.h.nob <= i := hi
        show upd σ.h.obj q _ i = none
        rw [bE _ _ (by omega)]
        exact hi0.ok i hi
       obtain ⟨hend, hkeys⟩ := wC (fun k => T.oO _ (hgood _ hEb _ (okU _))) hh
       rw [T.ak] at hend
       let cl := oq (bF (.seq (.region rid ops false) rest)) σ.sl
       let hst : HS := ⟨upd σ.h.obj q (some (.itx m n none)), σ.h.nob⟩
       have clj : ∀ j, j ∉ ds -> cl j = σ.sl j := fun j hj => by
        show (bif jk j ds then SV.junk else σ.sl j) = _
        have : jk j ds = false := by
         cases hb : jk j ds with
         | false => rfl
         | true => exact absurd (mD.1 hb) hj
        rw [this]; rfl
       have cli : ∀ j, j ∈ ds -> cl j = .junk := fun j hj => by
        show (bif jk j ds then SV.junk else σ.sl j) = _
        rw [mD.2 hj]; rfl
       have relcl : ∀ {C : Ctx} {w : World} {v : Value} (j : Nat), (j ∉ ds -> rel C w (σ.sl j) v) -> rel C w (cl j) v := fun j h => by
        by_cases hj : j ∈ ds
        · rw [cli j hj]; trivial
        · rw [clj j hj]; exact h hj
       obtain ⟨seen0, _, hseen⟩ := hi0.hk.ob q _ hqo
       refine wp_loop_ghost (fun k a w => ∃ C seen, (leftOf n seen).length = k /\ InvC E C ⟨cl, hst⟩ a w /\ obHolds C w q (.it m n seen) /\ StepC E σ.h.nob C0 w0 C w /\ ∀ j, j ∉ ds -> a.tmps.getD j undef = a0.tmps.getD j undef) (leftOf n seen0).length ?_ ?_
       · refine ⟨C0, seen0, rfl, ⟨⟨hi0.hk.wf, fun i ob hi => ?_, hi0.hk.nb⟩, okU none, hi0.sz, hi0.df, fun j => relcl j fun _ => hi0.sl j⟩, hseen, StepC.refl E _ C0 w0, fun _ _ => rfl⟩
         by_cases hiq : i = q
         · subst hiq
           have : some (Ob.itx m n none) = some ob := by rw [← upd_same σ.h.obj i (some (.itx m n none))]; exact hi
           injection this with this
           subst this
           exact ⟨_, fun k hk => (by cases hk), hseen⟩
         · have hi : upd σ.h.obj q (some (.itx m n none)) i = some ob := hi
           rw [bE _ _ hiq] at hi
           exact hi0.hk.ob i ob hi
       · rintro k a w ⟨C, seen, rfl, hi, hit, hstC, hfr⟩
         refine wp_seq (wp_region_list ?_)
         rw [hops]
         refine wpList_step fun K hK => ?_
         have hw : Region.wanted o (yielded ops a.tmps) = true := by simp [Region.wanted, hg]
         rw [if_pos hw]
         let g' : Nat -> Option Ob := fun i => if i = q then some (.it m n seen) else hst.obj i
         have hsto : ∀ i, i ≠ q -> hst.obj i = σ.h.obj i := fun i hiq => bE _ _ hiq
         have hg' : ObsOk C w g' := by
          intro i ob h
          by_cases hiq : i = q
          · subst hiq
            have : some (Ob.it m n seen) = some ob := by simpa [g'] using h
            injection this with this
            subst this
            exact hit
          · have : hst.obj i = some ob := by simpa [g', hiq] using h
            exact hi.hk.ob i ob this
         have hx : rel C w (.ptr q 0) (a.eval (.tmp t)) := by
          have := hi.sl t
          have e : cl t = .ptr q 0 := by rw [clj t htd, hq]
          rw [show (⟨cl, hst⟩ : CS).sl t = cl t from rfl, e] at this
          exact this
         have eq1 : g' q = some (.it m n seen) := by simp [g']
         have em1 : g' m = some (.mp kt vt ml) := by simp [g', hmq, hsto m hmq, hmo]
         have hnext : (zK g' (.ptr q 0)).holds fun r => ((leftOf n seen).isEmpty = true /\ r = ⟨.tup [.kb false], .none⟩) ∨
           ∃ key, key ∈ leftOf n seen /\ r = ⟨.tup [.kb true, gI kt (bS kt vt ml key).1, gI vt (bS kt vt ml key).2], ⟨[(q, some (.it m n (key :: seen)))], []⟩⟩ := by
          simp only [zK, eq1, em1]
          refine ⟨b1, fun h => .inl ⟨h, rfl⟩, fun h j hj => .inr ⟨(leftOf n seen).getD j 0, ?_, rfl⟩⟩
          rw [List.getD_eq_getElem?_getD, List.getElem?_eq_getElem hj]
          exact List.getElem_mem hj
         refine wG hi.hk.wf hg' hop hx hnext K _ fun r v w1 C1 hr hc => hK _ _ ?_
         rcases hr with ⟨_, rfl⟩ | ⟨key, hkey, rfl⟩
         ·
          have hs1 : Step (fun _ => False) C w C1 w1 := hc.step.mono fun i hi => by simp [Eff.X, Eff.touched, Eff.none] at hi
          have hν1 : ∀ i, C1.ν i = C.ν i := fun i => by
           cases hn : C.ν i with
           | some u => exact hc.step.ext i u hn
           | none =>
             cases hn1 : C1.ν i with
             | none => rfl
             | some u =>
               rcases hc.new i (by rw [hn1]; simp) with h | h
               · exact absurd hn h
               · simp [Eff.none] at h
          have hinv : InvC E C1 ⟨putT o.dst (.tup [.kb false]) cl, hst⟩ (a.put o.dst v) w1 :=
           hi.put (hs1.mono fun _ h => h.elim) ⟨hc.wf, fun i ob h => bZ hi.hk.wf hs1 id _ (hi.hk.ob i ob h), fun i h1 h2 => by rw [hν1]; exact hi.hk.nb i h1 h2⟩ hi.ok hc.rel b6
          have hst1 : StepC E σ.h.nob C0 w0 C1 w1 := ⟨Step.trans hi.hk.wf hstC.st (hs1.mono fun _ h => h.elim), fun i h => (hν1 i).trans (hstC.tp i h)⟩
          have hfr1 : ∀ j, j ∉ ds -> (a.put o.dst v).tmps.getD j undef = a0.tmps.getD j undef := fun j hj => (uh fun t' e1 e2 => hj (by rw [e2]; exact hds t' e1)).trans (hfr j hj)
          refine ht E hE hm _ _ hend C1 _ w1 hinv _ ?_
          rintro e a2 w2 ⟨⟨ex, σ2⟩, C2, hp, rfl, hi2, hn2, hst2, hfr2⟩
          cases ex with
          | normal => exact hp.elim
          | exit id => exact ⟨_, C2, hp, rfl, hi2, hn2, StepC.trans hinv.hk.wf (Nat.le_refl _) hst1 hst2, fun j hj => (hfr2 j hj).trans (hfr1 j hj)⟩
          | ret => exact ⟨_, C2, hp, rfl, hi2, hn2, StepC.trans hinv.hk.wf (Nat.le_refl _) hst1 hst2, fun j hj => (hfr2 j hj).trans (hfr1 j hj)⟩
         ·
          have hkn : key < n := (vg hkey).1
          have hs1 : Step (fun i => i = q) C w C1 w1 := hc.step.mono fun i hi => by
           have : i ∈ [(q, some (Ob.it m n (key :: seen)))].map (·.1) := hi
           simpa using this
          have hν1 : ∀ i, C1.ν i = C.ν i := fun i => by
           cases hn : C.ν i with
           | some u => exact hc.step.ext i u hn
           | none =>
             cases hn1 : C1.ν i with
             | none => rfl
             | some u =>
               rcases hc.new i (by rw [hn1]; simp) with h | h
               · exact absurd hn h
               · simp at h
          have hit1 : obHolds C1 w1 q (.it m n (key :: seen)) := hc.obs q _ (by simp [List.lookup])
          let hsk : HS := ⟨upd σ.h.obj q (some (.itx m n (some key))), σ.h.nob⟩
          have hinv : InvC { E with base := σ.h.nob } C1 ⟨putT o.dst (.tup [.kb true, gI kt (bS kt vt ml key).1, gI vt (bS kt vt ml key).2]) cl, hsk⟩ (a.put o.dst v) w1 := by
           have hlt : ∀ t, o.dst = some t -> t < a.tmps.size := fun t e => by rw [hi.sz]; rw [e] at b6; simpa [fT, Nat.blt_eq] using b6
           refine ⟨⟨hc.wf, fun i ob h => ?_, fun i h1 h2 => by rw [hν1]; exact hi.hk.nb i h1 h2⟩, okU _, ?_, ?_, fun j => ?_⟩
           · by_cases hiq : i = q
             · subst hiq
               have : some (Ob.itx m n (some key)) = some ob := by rw [← upd_same σ.h.obj i (some (.itx m n (some key)))]; exact h
               injection this with this
               subst this
               exact ⟨key :: seen, fun k hk => (by injection hk with hk; subst hk; exact ⟨seen, rfl⟩), hit1⟩
             · have h : upd σ.h.obj q (some (.itx m n (some key))) i = some ob := h
               rw [bE _ _ hiq] at h
               exact bZ hi.hk.wf hs1 hiq _ (hi.hk.ob i ob (by rw [hsto i hiq]; exact h))
           · cases o.dst <;> simp [Act.put, hi.sz]
           · cases o.dst <;> exact hi.df
           · show rel C1 w1 (lq o.dst j _ (cl j)) _
             rw [j5 _ _ _ _ hlt]
             cases hod : o.dst with
             | none => exact aC hs1 _ _ (hi.sl j)
             | some t' =>
               simp only [aS]
               by_cases hj : j = t'
               · subst hj; simp only [if_true]; exact hc.rel
               · simp only [hj, if_false]; exact aC hs1 _ _ (hi.sl j)
          refine ht { E with base := σ.h.nob } hEb hm _ _ (hkeys key hkn) C1 _ w1 hinv _ ?_
          have again : ∀ (e : Exit) (a2 : Act) (w2 : World), qV { E with base := σ.h.nob } σ.h.nob C1 w1 (a.put o.dst v) ds (fun x => x.1 = .normal) e a2 w2 -> e = .normal /\
            ∃ n', n' < (leftOf n seen).length /\ ∃ C seen, (leftOf n seen).length = n' /\ InvC E C ⟨cl, hst⟩ a2 w2 /\ obHolds C w2 q (.it m n seen) /\ StepC E σ.h.nob C0 w0 C w2 /\ ∀ j, j ∉ ds -> a2.tmps.getD j undef = a0.tmps.getD j undef := by
           rintro e a2 w2 ⟨⟨ex, σ2⟩, C2, hp, rfl, hi2, hn2, hst2, hfr2⟩
           have hp : ex = .normal := hp
           subst hp
           refine ⟨rfl, (leftOf n (key :: seen)).length, IW hkey, C2.cut σ.h.nob E.top, key :: seen, rfl, ?_⟩
           have nw : ∀ i u, C.ν i = some u -> ¬ (σ.h.nob <= i /\ i < E.top) := fun i u hu ⟨h1, h2⟩ => by
            rw [hi.hk.nb i h1 h2] at hu; cases hu
           have hX2 : ∀ i, ¬ (σ.h.nob <= i /\ i < E.top) -> ¬ CEnv.X { E with base := σ.h.nob } i := fun i h hX => h hX
           have hs12 := Step.trans hc.wf (hs1.mono fun i hi => (show i = q ∨ CEnv.X { E with base := σ.h.nob } i from .inl hi)) (hst2.st.mono fun i hi => (show i = q ∨ CEnv.X { E with base := σ.h.nob } i from .inr hi))
           have hsc : Step (fun i => i = q) C w (C2.cut σ.h.nob E.top) w2 := by
            refine ⟨fun i u hu => ?_, hs12.w0, fun j b hj => hs12.own j b (rH hj), fun i b hiq hib => ?_, hs12.ag.mono fun b hb hex => ?_⟩
            · rw [yL (nw i u hu)]; exact hs12.ext i u hu
            · obtain ⟨u, hu⟩ := hi.hk.wf.own i b hib
              rw [NU (nw i u hu)]
              exact hs12.keep i b (fun h => h.elim hiq (hX2 i (nw i u hu))) hib
            · obtain ⟨i, hiX, hib⟩ := hex
              obtain ⟨u, hu⟩ := hi.hk.wf.own i b hib
              rcases hiX with h | h
              · exact ⟨i, h, hib⟩
              · exact absurd h (hX2 i (nw i u hu))
           have hit2 : obHolds C2 w2 q (.it m n (key :: seen)) := bZ hc.wf hst2.st (hX2 q (by omega)) _ hit1
           have hmν : ∀ u, C2.ν m = some u -> ¬ (σ.h.nob <= m /\ m < E.top) := fun u _ h => by
            have := hi0.ok m h.1
            rw [hmo] at this; cases this
           have hitc : obHolds (C2.cut σ.h.nob E.top) w2 q (.it m n (key :: seen)) := by
            obtain ⟨b, bm, h1, h2, h3, h4⟩ := hit2
            exact ⟨b, bm, by rw [NU (by omega)]; exact h1, by rw [yL (by omega)]; exact h2, by rw [yL (hmν _ h3)]; exact h3, h4⟩
           have hfr3 : ∀ j, j ∉ ds -> a2.tmps.getD j undef = a.tmps.getD j undef := fun j hj => (hfr2 j hj).trans (uh fun t' e1 e2 => hj (by rw [e2]; exact hds t' e1))
           refine ⟨⟨⟨Yw hi2.hk.wf _ _, fun i ob h => ?_, fun i h1 h2 => if_pos ⟨h1, h2⟩⟩, hi.ok, hi2.sz, hi2.df, fun j => relcl j fun hj => ?_⟩, hitc, ?_, fun j hj => (hfr3 j hj).trans (hfr j hj)⟩
           · by_cases hiq : i = q
             · subst hiq
               have : some (Ob.itx m n none) = some ob := by rw [← upd_same σ.h.obj i (some (.itx m n none))]; exact h
               injection this with this
               subst this
               exact ⟨key :: seen, fun k hk => (by cases hk), hitc⟩
             · exact bZ hi.hk.wf hsc hiq _ (hi.hk.ob i ob h)
           · rw [hfr3 j hj]
             have := hi.sl j
             rw [show (⟨cl, hst⟩ : CS).sl j = cl j from rfl, clj j hj] at this
             exact aC hsc _ _ this
           · refine ⟨Step.trans hi.hk.wf hstC.st (hsc.mono fun i hi => by subst hi; exact ⟨b2, b5⟩), fun i hi' => ?_⟩
             rw [yL (by omega)]
             exact ((hst2.tp i hi').trans (hν1 i)).trans (hstC.tp i hi')
          intro e a2 w2 h
          obtain ⟨h1, h2⟩ := again e a2 w2 h
          subst h1
          exact h2
     · exact hh.elim
   · exact hh.elim
 · exact hh.elim
end Rx
set_option linter.unusedSectionVars false
set_option linter.unusedSimpArgs false
set_option linter.unusedVariables false
namespace Rx
open Go
variable [Glob]
theorem kY {E : CEnv} {σ σ' : CS} {x : Ex × CS} (h : σ'.h.Ok /\ σ.h.nob <= σ'.h.nob /\ σ'.h.nob <= max E.top σ.h.nob) (k : mg E σ' x) : mg E σ x := by
 obtain ⟨_, h1, h2⟩ := h
 obtain ⟨k0, k1, k2⟩ := k
 exact ⟨k0, Nat.le_trans h1 k1, by omega⟩
theorem zA {E : CEnv} {f : CS -> T (Ex × CS)} (hf : ∀ σ : CS, σ.h.Ok -> (f σ).good (mg E σ)) : ∀ (n : Nat) (σ : CS), σ.h.Ok -> (nP f n σ).good (mg E σ)
 | 0, _, _ => trivial
 | n + 1, σ, h => T.aW (fun x hx => by
     obtain ⟨ex, σ'⟩ := x
     cases ex with
     | normal => exact T.fK (fun y hy => kY hx hy) _ (zA hf n σ' hx.1)
     | exit id => exact hx
     | ret => exact hx) _ (hf σ h)
theorem zm {p q : Ex × CS -> Prop} {tail : CS -> T (Ex × CS)} {f : Nat -> CS} {u : T (Ex × CS)} (ht : ∀ k, (tail (f k)).good q) (hu : u.good p) : ∀ n, (wB tail f u n).good p
 | 0 => hu
 | n + 1 => T.aW (fun x hx => by
     obtain ⟨ex, σ'⟩ := x
     cases ex with
     | normal => exact zm ht hu n
     | exit id => trivial
     | ret => trivial) _ (ht n)
theorem O8 {h : HS} (hh : h.Ok) {q : Nat} (hq : q < h.nob) (o : Option Ob) : HS.Ok ⟨upd h.obj q o, h.nob⟩ := by
 intro i hi
 have hi : h.nob <= i := hi
 show upd h.obj q _ i = none
 rw [bE _ _ (by omega)]
 exact hh i hi
theorem Gd {c : Code} {tail : CxT} (ht : ∀ E : CEnv, E.Ok -> ∀ σ : CS, σ.h.Ok -> (tail E σ).good (mg E σ)) {E : CEnv} (hE : E.Ok) (σ : CS) (h : σ.h.Ok) (t : Tmp) (d : Option Tmp) : (iY c tail E σ t d).good (mg E σ) := by
 unfold iY
 split
 · rename_i q _
   split
   · split
     · rename_i m n cur hqo _ kt vt l hmo
       cases hb : (Nat.beq n l.length && (Nat.ble E.base q && (Nat.ble E.base σ.h.nob && (Nat.blt q σ.h.nob && (Nat.blt q E.top && (fT E.N d && !jk t (bF c))))))) with
       | false => trivial
       | true =>
         simp only [Bool.and_eq_true, Nat.blt_eq] at hb
         have hq : q < σ.h.nob := hb.2.2.2.1
         rw [cond_true]
         refine zm (q := fun _ => True) ?_ ?_ n
         · intro k
           exact T.fK (fun _ _ => trivial) _ (ht { E with base := σ.h.nob } (hE.Cb _) ⟨_, ⟨upd σ.h.obj q (some (.itx m n (some k))), σ.h.nob⟩⟩ (O8 h hq _))
         refine T.aW (fun x hx => ?_) _ (ht E hE ⟨_, ⟨upd σ.h.obj q (some (.itx m n none)), σ.h.nob⟩⟩ (O8 h hq _))
         obtain ⟨ex, σ'⟩ := x
         cases ex with
         | normal => trivial
         | exit id => exact hx
         | ret => exact hx
     · trivial
   · trivial
 · trivial
theorem Gt {E : CEnv} (hE : E.Ok) (a : Code) (σ : CS) (h : σ.h.Ok) : (nk E a σ).good fun y => y.h.Ok /\ σ.h.nob <= y.h.nob /\ y.h.nob <= max E.top σ.h.nob := by
 unfold nk
 split
 · split
   · exact iM hE _ _ _ h
   · trivial
 · trivial
theorem dA : ∀ (c : Code), (∀ E : CEnv, E.Ok -> ∀ σ : CS, σ.h.Ok -> ((aN c).1 E σ).good (mg E σ)) /\ (∀ E : CEnv, E.Ok -> ∀ σ : CS, σ.h.Ok -> ((aN c).2 E σ).good (mg E σ)) := by
 have self : ∀ (E : CEnv) (σ : CS) (e : Ex), σ.h.Ok -> mg E σ (e, σ) := fun E σ e h => ⟨h, Nat.le_refl _, Nat.le_max_right _ _⟩
 intro c
 induction c with
 | skip => exact ⟨fun E _ σ h => self E σ _ h, fun _ _ _ _ => trivial⟩
 | region rid ops dr =>
   cases dr with
   | false => exact ⟨fun E hE σ h => T.aW (fun y hy => hy) _ (iM hE _ _ _ h), fun _ _ _ _ => trivial⟩
   | true => exact ⟨fun E hE σ h => T.aW (fun y hy => hy) _ (vW hE h), fun _ _ _ _ => trivial⟩
 | seq a b iha ihb =>
   refine ⟨fun E hE σ h => T.aW (fun x hx => ?_) _ (iha.1 E hE σ h), fun E hE σ h => T.aW (fun y hy => ?_) _ (Gt hE a σ h)⟩
   · obtain ⟨ex, σ'⟩ := x
     cases ex with
     | normal => exact T.fK (fun y hy => kY hx hy) _ (ihb.1 E hE σ' hx.1)
     | exit id => exact hx
     | ret => exact hx
   · exact T.fK (fun z hz => kY (σ' := jm E.fl y) hy hz) _ (ihb.1 E hE (jm E.fl y) hy.1)
 | cond c a b iha ihb =>
   refine ⟨fun E hE σ h => ?_, fun _ _ _ _ => trivial⟩
   show T.good _ (match evC σ.sl c with
    | .kb q => bif q then (aN a).1 E σ else (aN b).1 E σ
    | _ => .fail)
   split
   · rename_i q _
     cases q
     · exact ihb.1 E hE σ h
     · exact iha.1 E hE σ h
   · trivial
 | block id c ih =>
   refine ⟨fun E hE σ h => T.aW (fun x hx => ?_) _ (ih.1 E hE σ h), fun _ _ _ _ => trivial⟩
   obtain ⟨ex, σ'⟩ := x
   cases ex with
   | normal => exact hx
   | exit k =>
     show T.good _ (bif Nat.beq k id then T.ret (Ex.normal, σ') else .ret (.exit k, σ'))
     cases Nat.beq k id
     · exact hx
     · exact hx
   | ret => exact hx
 | loop c ih =>
   refine ⟨fun E hE σ h => ?_, fun _ _ _ _ => trivial⟩
   show T.good _ (match oP c with
    | some (t, d) => iY c (aN c).2 E σ t d
    | none => nP ((aN c).1 E) E.fuel σ)
   split
   · exact Gd ih.2 hE σ h _ _
   · exact zA (fun σ h => ih.1 E hE σ h) _ σ h
 | exit id => exact ⟨fun E _ σ h => self E σ _ h, fun _ _ _ _ => trivial⟩
 | ret => exact ⟨fun E _ σ h => self E σ _ h, fun _ _ _ _ => trivial⟩
 | _ => exact ⟨fun _ _ _ _ => trivial, fun _ _ _ _ => trivial⟩
theorem InvC.clr {E : CEnv} {C : Ctx} {σ : CS} {a : Act} {w : World} (h : InvC E C σ a w) (fl : Nat) : InvC E C (jm fl σ) a w :=
 ⟨h.hk, h.ok, h.sz, h.df, fun j => by
  show rel C w (bif fQ fl j then σ.sl j else .junk) _
  cases fQ fl j
  · exact trivial
  · exact h.sl j⟩
theorem IE {c : Code} {t : Tmp} {d : Option Tmp} (h : oP c = some (t, d)) : ∃ rid ops rest o l, c = .seq (.region rid ops false) rest /\ ops.toList = o :: l /\ o.op = .next (.tmp t) false /\ o.guard = none /\ d = o.dst := by
 unfold oP at h
 split at h
 · rename_i rid ops rest
   split at h
   · rename_i o l hl
     split at h
     · rename_i t' ho hg
       simp only [Option.some.injEq, Prod.mk.injEq] at h
       obtain ⟨rfl, rfl⟩ := h
       exact ⟨rid, ops, rest, o, l, rfl, hl, ho, hg, rfl⟩
     · cases h
   · cases h
 · cases h
theorem qV.trans {E : CEnv} {n0 n1 : Nat} {C C1 : Ctx} {w w1 : World} {a a1 : Act} {ds ds' : List Nat} {post : Ex × CS -> Prop} (hw : WF C1 w1) (hn : n0 <= n1) (hst : StepC E n0 C w C1 w1) (hfr : ∀ j, j ∉ ds -> a1.tmps.getD j undef = a.tmps.getD j undef) (hds : ∀ j, j ∈ ds' -> j ∈ ds)
  {e : Exit} {a' : Act} {w' : World} (h : qV E n1 C1 w1 a1 ds' post e a' w') : qV E n0 C w a ds post e a' w' := by
 obtain ⟨x, C2, hp, he, hi2, hn2, hst2, hfr2⟩ := h
 exact ⟨x, C2, hp, he, hi2, Nat.le_trans hn hn2, StepC.trans hw hn hst hst2, fun j hj => (hfr2 j fun h => hj (hds j h)).trans (hfr j hj)⟩
theorem mJ : ∀ (c : Code), (∀ E : CEnv, E.Ok -> E.P.follows .mixedOrders = true -> ∀ σ, yh E c (bF c) σ ((aN c).1 E σ)) /\
  (∀ rid ops rest o l, c = .seq (.region rid ops false) rest -> ops.toList = o :: l -> QE (aN c).2 ops l rest (bF c)) := by
 intro c
 induction c with
 | skip =>
   refine ⟨fun E hE hm σ post hh C a w hi => wp_skip ⟨_, C, hh, rfl, hi, Nat.le_refl _, StepC.refl E _ C w, fun _ _ => rfl⟩, fun _ _ _ _ _ h => by cases h⟩
 | region rid ops dr =>
   refine ⟨fun E hE hm σ post hh C a w hi => ?_, fun _ _ _ _ _ h => by cases h⟩
   cases dr with
   | false =>
     have hh : ((kU E ops rid 0 ops.toList σ).bind fun σ' => .ret (Ex.normal, jm E.fl σ')).holds post := hh
     rw [T.ak] at hh
     have hh := T.aV (iM hE ops.toList 0 σ hi.ok) hh
     refine wp_region_list (ow hE ops.toList 0 σ C a w hi hh fun C' σ' a' w' hp hi' hst hfr => ?_)
     exact ⟨_, C', hp.2, rfl, hi'.clr _, hp.1.2.1, hst, hfr⟩
   | true =>
     have hh : ((mK E ops rid σ).bind fun σ' => .ret (Ex.normal, jm E.fl σ')).holds post := hh
     rw [T.ak] at hh
     have hh := T.aV (vW hE hi.ok) hh
     exact Fv hE hi hh (fun C' σ' a' w' hp hi' hst hfr => ⟨_, C', hp.2, rfl, hi'.clr _, hp.1.2.1, hst, hfr⟩) hm
 | seq x y ihx ihy =>
   refine ⟨fun E hE hm σ post hh C a w hi => ?_, fun rid ops rest o l hc hl E hE hm σ post hh C a w hi R hR => ?_⟩
   · have hh : (((aN x).1 E σ).bind fun z => match z.1 with
       | .normal => (aN y).1 E z.2
       | e => .ret (e, z.2)).holds post := hh
     rw [T.ak] at hh
     have hh := T.aV ((dA x).1 E hE σ hi.ok) hh
     refine wp_seq (wp_mono (ihx.1 E hE hm σ _ hh C a w hi) ?_)
     rintro e a1 w1 ⟨⟨ex, σ1⟩, C1, ⟨hg, hp⟩, rfl, hi1, hn1, hst1, hfr1⟩
     have hx : ∀ j, j ∉ bF (.seq x y) -> a1.tmps.getD j undef = a.tmps.getD j undef := fun j hj => hfr1 j fun h => hj (List.mem_append.2 (.inl h))
     cases ex with
     | normal => exact wp_mono (ihy.1 E hE hm σ1 _ hp C1 a1 w1 hi1) fun e a' w' h => qV.trans hi1.hk.wf hn1 hst1 hx (fun j hj => List.mem_append.2 (.inr hj)) h
     | exit id => exact ⟨_, C1, hp, rfl, hi1, hn1, hst1, hx⟩
     | ret => exact ⟨_, C1, hp, rfl, hi1, hn1, hst1, hx⟩
   · injection hc with h1 h2
     subst h1; subst h2
     have hh : ((nk E (.region rid ops false) σ).bind fun σ' => (aN y).1 E (jm E.fl σ')).holds post := hh
     have hrt : nk E (.region rid ops false) σ = kU E ops rid 1 l σ := by
       show (match ops.toList with
         | _ :: l => kU E ops rid 1 l σ
         | [] => .fail) = _
       rw [hl]
     rw [hrt, T.ak] at hh
     have hh := T.aV (iM hE l 1 σ hi.ok) hh
     refine ow hE l 1 σ C a w hi hh fun C1 σ1 a1 w1 hp hi1 hst1 hfr1 => ?_
     have hx : ∀ j, j ∉ bF (.seq (.region rid ops false) y) -> a1.tmps.getD j undef = a.tmps.getD j undef := fun j hj => hfr1 j fun h => hj (List.mem_append.2 (.inl (by
      show j ∈ dstsO ops.toList
      rw [hl]
      simp only [dstsO, List.mem_filterMap] at h ⊢
      obtain ⟨q, q1, q2⟩ := h
      exact ⟨q, by simp [q1], q2⟩)))
     exact wp_mono (ihy.1 E hE hm (jm E.fl σ1) _ hp.2 C1 a1 w1 (hi1.clr _)) fun e a' w' h => hR _ _ _ (qV.trans hi1.hk.wf hp.1.2.1 hst1 hx (fun j hj => List.mem_append.2 (.inr hj)) h)
 | cond c x y ihx ihy =>
   refine ⟨fun E hE hm σ post hh C a w hi => ?_, fun _ _ _ _ _ h => by cases h⟩
   have hh : T.holds post (match evC σ.sl c with
    | .kb q => bif q then (aN x).1 E σ else (aN y).1 E σ
    | _ => .fail) := hh
   split at hh
   · rename_i q hq
     have hr := Oa hi.hk.wf σ.sl a c fun t _ => hi.sl t
     rw [hq] at hr
     have hr : a.eval c = .bool q := hr
     refine wp_cond hr ?_
     cases q with
     | true =>
       rw [if_pos rfl]
       exact wp_mono (ihx.1 E hE hm σ _ hh C a w hi) fun e a' w' h => qV.trans hi.hk.wf (Nat.le_refl _) (StepC.refl E _ C w) (fun _ _ => rfl) (fun j hj => List.mem_append.2 (.inl hj)) h
     | false =>
       rw [if_neg (by simp)]
       exact wp_mono (ihy.1 E hE hm σ _ hh C a w hi) fun e a' w' h => qV.trans hi.hk.wf (Nat.le_refl _) (StepC.refl E _ C w) (fun _ _ => rfl) (fun j hj => List.mem_append.2 (.inr hj)) h
   · exact hh.elim
 | block id c ih =>
   refine ⟨fun E hE hm σ post hh C a w hi => ?_, fun _ _ _ _ _ h => by cases h⟩
   have hh : (((aN c).1 E σ).bind fun x => match x.1 with
    | .exit k => bif Nat.beq k id then .ret (.normal, x.2) else .ret (.exit k, x.2)
    | e => .ret (e, x.2)).holds post := hh
   rw [T.ak] at hh
   refine wp_block (wp_mono (ih.1 E hE hm σ _ hh C a w hi) ?_)
   rintro e a1 w1 ⟨⟨ex, σ1⟩, C1, hp, rfl, hi1, hn1, hst1, hfr1⟩
   cases ex with
   | normal => exact ⟨_, C1, hp, rfl, hi1, hn1, hst1, hfr1⟩
   | exit k =>
     have hp : T.holds post (bif Nat.beq k id then T.ret (Ex.normal, σ1) else .ret (.exit k, σ1)) := hp
     by_cases hk : k = id
     · subst hk
       rw [Nat.beq_refl] at hp
       simp only [Exit.inBlock, Ex.BM, if_true]
       exact ⟨_, C1, hp, rfl, hi1, hn1, hst1, hfr1⟩
     · have : Nat.beq k id = false := by
         cases hb : Nat.beq k id with
         | false => rfl
         | true => exact absurd (Nat.eq_of_beq_eq_true hb) hk
       rw [this] at hp
       simp only [Exit.inBlock, Ex.BM, hk, if_false]
       exact ⟨_, C1, hp, rfl, hi1, hn1, hst1, hfr1⟩
   | ret => exact ⟨_, C1, hp, rfl, hi1, hn1, hst1, hfr1⟩
 | loop c ih =>
   refine ⟨fun E hE hm σ => ?_, fun _ _ _ _ _ h => by cases h⟩
   show yh E (.loop c) (bF c) σ (match oP c with
    | some (t, d) => iY c (aN c).2 E σ t d
    | none => nP ((aN c).1 E) E.fuel σ)
   split
   · rename_i t d hh
     obtain ⟨rid, ops, rest, o, l, rfl, hl, ho, hg, hd⟩ := IE hh
     exact Ct hE hm hl ho hg hd (ih.2 _ _ _ _ _ rfl hl) (dA _).2 σ
   · exact I5 (fun σ => ih.1 E hE hm σ) _ σ
 | exit id =>
   refine ⟨fun E hE hm σ post hh C a w hi => wp_exit ⟨_, C, hh, rfl, hi, Nat.le_refl _, StepC.refl E _ C w, fun _ _ => rfl⟩, fun _ _ _ _ _ h => by cases h⟩
 | ret =>
   refine ⟨fun E hE hm σ post hh C a w hi => wp_ret ⟨_, C, hh, rfl, hi, Nat.le_refl _, StepC.refl E _ C w, fun _ _ => rfl⟩, fun _ _ _ _ _ h => by cases h⟩
 | _ => exact ⟨fun E hE hm σ post hh => hh.elim, fun _ _ _ _ _ h => by cases h⟩
theorem Dv (P : Program) (g : Nat -> Option Ob) (t : TypeId) (p : SV) : (fA P g t p).det = true := by
 unfold fA
 repeat' split
 all_goals first
  | exact zx _ _ _ _
  | rfl
  | (cases (Nat.beq _ _ && _) <;> rfl)
theorem Pz (P : Program) (σ : CS) (r : ResultVar) : (yT P σ r).det = true := by
 cases r with
 | tmp t => rfl
 | cell a t => exact T.eu (fun s => rfl) _ (Dv _ _ _ _)
theorem Df (P : Program) (σ : CS) : ∀ l : List ResultVar, (sU P σ l).det = true
 | [] => rfl
 | r :: l => T.eu (fun s => T.eu (fun ss => rfl) _ (Df P σ l)) _ (Pz P σ r)
theorem yU (P : Program) (fn : Func) (σ : CS) : (uS P fn σ).det = true :=
 T.eu (fun ss => by split <;> rfl) _ (Df P σ _)
theorem Ir {P : Program} {C : Ctx} {σ : CS} {a : Act} {w : World} (hob : ObsOk C w σ.h.obj) (hsl : ∀ j, rel C w (σ.sl j) (a.tmps.getD j undef)) (r : ResultVar) {s : SV} (hok : (yT P σ r).ok) (hv : (yT P σ r).val = some s) :
  ∃ v, ((match r with
    | .tmp t => pure (a.tmps.getD t undef)
    | .cell b t => do loadVar t (← asAddr (a.tmps.getD b undef)) : Sem Value)).run P w = .ok v w /\ rel C w s v := by
 cases r with
 | tmp t =>
   simp only [yT, T.val, Option.some.injEq] at hv
   subst hv
   exact ⟨_, rfl, zJ (hsl t)⟩
 | cell b t =>
   simp only [yT] at hok hv
   obtain ⟨s', hs', hv⟩ := T.bM hv
   have hok := (T.bind_ok hok).1
   simp only [T.val, Option.some.injEq] at hv
   subst hv
   obtain ⟨v, h1, h2⟩ := wD (P := P) hob t (σ.sl b) s' (a.tmps.getD b undef) (hsl b) hok hs'
   refine ⟨v, ?_, zJ h2⟩
   show (do loadVar t (← asAddr (a.tmps.getD b undef)) : Sem Value).run P w = _
   revert h1
   generalize a.tmps.getD b undef = u
   intro h1
   cases u with
   | pointer ad =>
     cases ad with
     | none => simp [Instr.loadAt, Instr.sureAddr] at h1
     | some ad => simpa [Instr.loadAt, Instr.sureAddr, asAddr] using h1
   | _ => simp [Instr.loadAt, Instr.sureAddr] at h1
theorem vY {P : Program} {C : Ctx} {σ : CS} {a : Act} {w : World} (hob : ObsOk C w σ.h.obj) (hsl : ∀ j, rel C w (σ.sl j) (a.tmps.getD j undef)) : ∀ (l : List ResultVar) {ss : List SV}, (sU P σ l).ok -> (sU P σ l).val = some ss ->
  ∃ vs : List Value, (l.mapM (fun r => (match r with
    | .tmp t => pure (a.tmps.getD t undef)
    | .cell b t => do loadVar t (← asAddr (a.tmps.getD b undef)) : Sem Value))).run P w = .ok vs w /\ relL C w ss vs
 | [], ss, _, hv => by
   simp only [sU, T.val, Option.some.injEq] at hv
   subst hv
   exact ⟨[], by simp, rfl⟩
 | r :: l, ss, hok, hv => by
   simp only [sU] at hok hv
   obtain ⟨s, h1, hv⟩ := T.bM hv
   obtain ⟨k1, k2⟩ := T.bind_ok hok
   have k2 := k2 s h1
   obtain ⟨ss', h2, hv⟩ := T.bM hv
   have k3 := (T.bind_ok k2).1
   simp only [T.val, Option.some.injEq] at hv
   subst hv
   obtain ⟨v, e1, e2⟩ := Ir hob hsl r k1 h1
   obtain ⟨vs, e3, e4⟩ := vY hob hsl l k3 h2
   refine ⟨v :: vs, ?_, v, vs, rfl, e2, e4⟩
   rw [List.mapM_cons, Sem.run_bind]
   rw [e1]
   simp only [Result.andThen_ok, Sem.run_bind, e3, Sem.run_pure]
theorem yV {P : Program} {C : Ctx} {σ : CS} {a : Act} {w : World} (hob : ObsOk C w σ.h.obj) (hsl : ∀ j, rel C w (σ.sl j) (a.tmps.getD j undef)) (fn : Func) {s : SV} (hok : (uS P fn σ).ok) (hv : (uS P fn σ).val = some s) :
  ∃ v, (results fn a.tmps).run P w = .ok v w /\ rel C w s v := by
 unfold uS at hok hv
 obtain ⟨ss, h1, hv⟩ := T.bM hv
 obtain ⟨k1, k2⟩ := T.bind_ok hok
 obtain ⟨vs, e1, e2⟩ := vY hob hsl fn.results.toList k1 h1
 have hl := aQ e2
 have hrun : (results fn a.tmps).run P w = .ok (if h : vs.toArray.size = 1 then vs.toArray[0] else .tuple vs.toArray) w := by
  unfold results
  rw [Sem.run_bind, Array.mapM_eq_mapM_toList, Sem.run_map]
  refine (congrArg (fun r : Result (List Value) => (r.andThen fun a w' => Result.ok (List.toArray a) w').andThen _) e1).trans ?_
  rfl
 rw [hrun]
 refine ⟨_, rfl, ?_⟩
 match ss, vs, hl, e2, hv with
 | [s'], [v], _, e2, hv =>
   simp only [T.val, Option.some.injEq] at hv
   subst hv
   obtain ⟨v', r, e, h3, _⟩ := e2
   simp only [List.cons.injEq] at e
   obtain ⟨rfl, rfl⟩ := e
   exact h3
 | [], [], _, e2, hv =>
   simp only [T.val, Option.some.injEq] at hv
   subst hv
   exact ⟨[], rfl, e2⟩
 | s1 :: s2 :: ss, v1 :: v2 :: vs, hl, e2, hv =>
   simp only [T.val, Option.some.injEq] at hv
   subst hv
   exact ⟨_, by simp, e2⟩
theorem Fu (h : HS) : h.cut.Ok := by
 intro i hi
 have hi : h.nob <= i := hi
 show (bif Nat.blt i h.nob then h.obj i else none) = none
 have : Nat.blt i h.nob = false := by
  cases hb : Nat.blt i h.nob with
  | false => rfl
  | true => simp only [Nat.blt_eq] at hb; omega
 rw [this]; rfl
theorem NT {top : Nat} {h : HS} {C : Ctx} {w : World} (hk : HOk top h C w) : HOk top h.cut C w := ⟨hk.wf, fun i ob hob => by
 have hob : (bif Nat.blt i h.nob then h.obj i else none) = some ob := hob
 cases hb : Nat.blt i h.nob with
 | false => rw [hb] at hob; cases hob
 | true => rw [hb] at hob; exact hk.ob i ob hob, hk.nb⟩
theorem Da {C : Ctx} {w : World} {al : List SV} {vs : List Value} (h : relL C w al vs) (n j : Nat) : rel C w (al.getD j .junk) ((vs.toArray ++ Array.replicate n undef).getD j undef) := by
 rw [List.getD_eq_getElem?_getD]
 cases ha : al[j]? with
 | none => trivial
 | some s =>
   obtain ⟨v, hv, hr⟩ := aY j s h ha
   have hjl : j < vs.length := (List.getElem?_eq_some_iff.1 hv).1
   have e : (vs.toArray ++ Array.replicate n undef).getD j undef = v := by
    rw [Array.getD_eq_getD_getElem?, Array.getElem?_append_left (by simpa using hjl)]
    simp [hv]
   rw [e]
   exact hr
def bJ (P : Program) (f : FuncId) (s : Summ) : Prop :=
 ∀ (C : Ctx) (w : World) (g : Nat -> Option Ob) (al : List SV) (vs : List Value) (new : Nat) (post : Res -> Prop), WF C w -> ObsOk C w g -> (∀ r, post r -> ∀ i ∈ r.eff.new, C.ν i = none) -> relL C w al vs ->
   (s.run al g new f).holds post -> callable P f = true /\ Calls P f vs.toArray w fun e w' => ∃ v C' r, e = .returned v /\ post r /\ Came C w r C' w' v
def Deps.Ok (D : Deps) : Prop := (∀ f s, D.F f = some s -> bJ D.P f s) /\ D.P.follows .mixedOrders = true
theorem Vl {P : Program} {s : Summ} {f : FuncId} (hs : bJ P f s) (top base : Nat) (al : List SV) (h : HS) (hh0 : h.Ok) : RunOk P (fun i => base <= i /\ i < top) top f al h (JM P top base s f al h) /\
  (JM P top base s f al h).good fun y => y.2.Ok /\ h.nob <= y.2.nob /\ y.2.nob <= max top h.nob := by
 unfold JM
 generalize hE : (⟨P, 0, fun _ _ => none, fun _ _ _ _ _ => .fail, top, base, fun _ => 0, 0, 0⟩ : CEnv) = E
 have e1 : E.top = top := by rw [← hE]
 have e2 : E.base = base := by rw [← hE]
 have hEo : E.Ok := by
  rw [← hE]
  exact ⟨fun _ _ _ h => (by cases h), fun _ _ _ _ _ _ _ _ _ _ _ hh => hh.elim, fun _ _ _ _ _ _ => trivial⟩
 refine ⟨fun C w vs post hk hargs hh => ?_, by rw [← e1]; exact mq hEo hh0 _⟩
 rw [← e1] at hk
 unfold lift at hh
 cases hd : (s.run (al.map nrm) h.obj h.nob f).det with
 | false => rw [hd] at hh; exact hh.elim
 | true =>
   rw [hd, cond_true, T.ak] at hh
   have hh2 := T.aD (q := fun r => jf E h r.eff = true /\ post (r.sv, h.eff r.eff)) (fun r hr => by
    cases hb : jf E h r.eff with
    | false => rw [hb] at hr; exact hr.elim
    | true => rw [hb] at hr; exact ⟨rfl, hr⟩) _ hh
   have hrl : relL C w (al.map nrm) vs := by
    clear hh hh2 hd hk
    induction al generalizing vs with
    | nil => exact hargs
    | cons x l ih =>
      obtain ⟨v, r, rfl, h1, h2⟩ := hargs
      exact ⟨v, r, rfl, aX h1, ih _ h2⟩
   obtain ⟨hc, hcalls⟩ := hs C w h.obj (al.map nrm) vs h.nob _ hk.wf hk.ob (fun r hr i hi => by
    obtain ⟨q1, q2, _⟩ := mM hr.1
    have := dF q1 hi
    exact hk.nb i this.1 (by omega)) hrl hh2
   refine ⟨hc, hcalls.mono ?_⟩
   rintro e w' ⟨v, C', r, rfl, hp, hcame⟩
   obtain ⟨q1, q2, q3⟩ := Came.hok hk hcame hp.1
   refine ⟨v, C', (r.sv, h.eff r.eff), rfl, hp.2, ?_, by rw [← e1]; exact q1, hcame.rel, by rw [← e1]; exact q3⟩
   have : E.X = fun i => base <= i /\ i < top := by
    funext i
    show (E.base <= i /\ i < E.top) = _
    rw [e1, e2]
   rw [← this]
   exact q2
theorem gM {D : Deps} (hD : D.Ok) : ∀ (n top base : Nat) (f : FuncId) (al : List SV) (h : HS), RunOk D.P (fun i => base <= i /\ i < top) top f al h (pR D n top base f al h) /\
  (pR D n top base f al h).good fun y => y.2.Ok /\ h.nob <= y.2.nob /\ y.2.nob <= max top h.nob
 | 0, top, base, f, al, h => ⟨fun _ _ _ _ _ _ hh => hh.elim, trivial⟩
 | n + 1, top, base, f, al, h => by
   unfold pR
   split
   · rename_i s hs
     obtain ⟨k1, k2⟩ := Vl (hD.1 f s hs) top base al h.cut (Fu h)
     exact ⟨fun C w vs post hk hargs hh => k1 C w vs post (NT hk) hargs hh, k2⟩
   split
   · rename_i fn hf
     split
     · rename_i c hb
       cases hc : (callable D.P f && Nat.ble al.length fn.ntmps) with
       | false => exact ⟨fun _ _ _ _ _ _ hh => hh.elim, trivial⟩
       | true =>
         rw [cond_true]
         simp only [Bool.and_eq_true] at hc
         obtain ⟨hc1, hc2⟩ := hc
         have hc2 := Nat.le_of_ble_eq_true hc2
         let E : CEnv := ⟨D.P, fn.ntmps, fun _ _ => none, pR D n, top, base, D.win f n, D.fuel, D.fl f⟩
         have hE : E.Ok := ⟨fun rid i s hs => (by cases hs), fun top base f al h => (gM hD n top base f al h).1, fun top base f al h hh => (gM hD n top base f al h).2⟩
         refine ⟨fun C w vs post hk hargs hh => ⟨hc1, ?_⟩, ?_⟩
         · rw [T.ak] at hh
           have hlen := aQ hargs
           have hinv0 : InvC E C ⟨fun j => al.getD j .junk, h.cut⟩ { tmps := vs.toArray ++ Array.replicate (fn.ntmps - vs.toArray.size) undef, defers := [] } w :=
            ⟨NT hk, Fu h, by
               show (vs.toArray ++ Array.replicate (fn.ntmps - vs.toArray.size) undef).size = fn.ntmps
               simp; omega, rfl, fun j => Da hargs _ j⟩
           have hinv := hinv0.clr (D.fl f)
           refine calls_of_wp hf hb (wp_mono ((mJ c).1 E hE hD.2 _ _ hh C _ w hinv) ?_)
           rintro e a' w' ⟨⟨ex, σ'⟩, C', hp, rfl, hi, hn, hst, hfr⟩
           have fin : ((uS D.P fn σ').bind fun s => T.ret (s, σ'.h)).holds post -> a'.defers = [] /\ ∃ v, (results fn a'.tmps).run D.P w' = .ok v w' /\ ∃ v' C'' y, Ending.returned v = .returned v' /\ post y /\ Step (fun i => base <= i /\ i < top) C w C'' w' /\ HOk top y.2 C'' w' /\ rel C'' w' y.1 v' /\ ∀ i, i < h.nob ∨ top <= i -> C''.ν i = C.ν i := by
            intro hp
            rw [T.ak, T.bC _ (yU _ _ _)] at hp
            obtain ⟨hok, s, hval, hp⟩ := hp
            obtain ⟨v, hrun, hr⟩ := yV hi.hk.ob hi.sl fn hok hval
            exact ⟨hi.df, v, hrun, v, C', (s, σ'.h), rfl, hp, hst.st, hi.hk, hr, hst.tp⟩
           cases ex with
           | normal => exact fin hp
           | exit id => exact hp.elim
           | ret => exact fin hp
         · refine T.aW (fun y hy => ?_) _ ((dA c).1 E hE (jm (D.fl f) ⟨fun j => al.getD j .junk, h.cut⟩) (Fu h))
           obtain ⟨ex, σ'⟩ := y
           have fin : ((uS D.P fn σ').bind fun s => T.ret (s, σ'.h)).good fun y => y.2.Ok /\ h.nob <= y.2.nob /\ y.2.nob <= max top h.nob := by
            refine T.aW (p := fun _ => True) ?_ _ (T.jg _ (yU _ _ _))
            intro s _
            exact hy
           cases ex with
           | normal => exact fin
           | exit id => trivial
           | ret => exact fin
     · exact ⟨fun _ _ _ _ _ _ hh => hh.elim, trivial⟩
   · exact ⟨fun _ _ _ _ _ _ hh => hh.elim, trivial⟩
end Rx
