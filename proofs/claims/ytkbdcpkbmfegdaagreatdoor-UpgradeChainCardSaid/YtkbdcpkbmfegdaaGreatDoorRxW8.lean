/- Rx, part W8: a region that draws its order is sound, whole. -/
import Derived.Test.YtkbdcpkbmfegdaaGreatDoorRxW5
set_option linter.unusedSectionVars false
set_option linter.unusedSimpArgs false
set_option linter.unusedVariables false
namespace Rx
open Go
variable [Glob]
section
variable {E : CEnv} {ops : Array Oper} {rid : Nat} {ri : RI} {z : List (CS × SV) × CS} {σ : CS} {C : Ctx} {w : World} {a : Act}
theorem wZ (hT : TF E ops rid ri.wd z) {j k i : Nat} (hj : j < ops.size) (hk : k < ops.size) (h1 : (atZ z j).h.nob <= i) (h2 : i < (atZ z (j + 1)).h.nob) (h3 : (atZ z k).h.nob <= i) (h4 : i < (atZ z (k + 1)).h.nob) : j = k := by
 rcases Nat.lt_trichotomy j k with h | h | h
 · have := dH hT (p := j + 1) (q := k) (by omega) (by omega); omega
 · exact h
 · have := dH hT (p := k + 1) (q := j) (by omega) (by omega); omega
theorem DV.alloc {D D' : Nat -> Bool} {hd : Nat} {a' : Act} {w' : World} {C' : Ctx} (hE : E.Ok) (hDV : DV E ops z σ C w a D hd a' w' C') (hri : gZ ops = some ri) (hR : RS ops) (hT : TF E ops rid ri.wd z) (h0 : atZ z 0 = σ) (hcl : Closed ops D)
  {k : Nat} {o : Oper} (ho : ops[k]? = some o) (hdep : ∀ e ∈ o.after, Region.binds .any e = true -> D e.on = true) (hk : D k = false) (hD : ∀ j, D' j = if j = k then true else D j)
  (hal : dB o.op = .alloc) {K : Act -> World -> Prop} {Q : Exit -> Act -> World -> Prop} (hK : ∀ a'' w'' C'', DV E ops z σ C w a D' hd a'' w'' C'' -> K a'' w'') :
  if Region.wanted o (yielded ops a'.tmps) then o.wp E.P a' w' K Q else K (a'.put o.dst undef) w' := by
 have hkn : k < ops.size := (Array.getElem?_eq_some_iff.1 ho).1
 have hnh : (dB o.op).jE = false := by rw [hal]; rfl
 have hnhv : ¬ hvAt ops k := by
  rintro ⟨o', ho', h⟩
  rw [ho] at ho'; injection ho' with ho'; subst ho'
  rw [hnh] at h; cases h
 obtain ⟨s, h', hz, hok, hval, hnext⟩ := hT.st k o ho
 have hsv : svZ z k = s := by unfold svZ; rw [hz]
 rw [Da hri ho hnh] at hok hval
 have hreads := hDV.reads hR hT h0 hcl ho hdep hk
 obtain ⟨hdd, hcases⟩ := sK hok hval
 have hgood := T.kU (iU hE o (hT.ok k (by omega))) hval
 have hA1 : (atZ z (k + 1)).h = h' := by rw [hnext]
 have after : ∀ (y : SV × HS) (v : Value) (w'' : World) (C'' : Ctx), y.1 = s -> (∀ i ob, (atZ z k).h.nob <= i -> i < h'.nob -> h'.obj i = some ob -> y.2.obj i = some ob) -> h'.nob <= max E.top (atZ z k).h.nob ->
   StepC (rA E h'.nob (atZ z k).h.nob) (atZ z k).h.nob C' w' C'' w'' -> HOk h'.nob y.2 C'' w'' -> rel C'' w'' y.1 v -> K (a'.put o.dst v) w'' := by
  intro y v w'' C'' hs hobj hmax hst hk2 hr
  have hmono : (atZ z k).h.nob <= h'.nob := hgood.2.1
  have nX : ∀ i, (i < (atZ z k).h.nob ∨ h'.nob <= i) -> ¬ (rA E h'.nob (atZ z k).h.nob).X i := by
   rintro i hi ⟨h1, h2⟩
   have h1 : (atZ z k).h.nob <= i := h1
   have h2 : i < h'.nob := h2
   omega
  obtain ⟨q1, q2, q3, q4, q5⟩ := hDV.slots hR hst.st ho hD hdd (v := v) (by rw [hsv, ← hs]; exact hr)
  have hle0 : (atZ z 0).h.nob <= (atZ z k).h.nob := dH hT (Nat.zero_le _) (by omega)
  refine hK _ _ C'' ⟨hDV.hdle, hDV.hdh, fun j hj => ?_, fun j hj => ?_, hk2.wf, q1, q2, q3, q4, fun i ob hi hob => ?_, fun j i ob hj h1 h2 hob => ?_, fun i h1 h2 h3 => ?_, ?_, q5⟩
  · rw [hD, if_neg (by rintro rfl; exact hnhv hj)]
    exact hDV.hv j hj
  · rw [hD] at hj
    split at hj
    · rename_i e; rw [e]; exact hkn
    · exact hDV.lt j hj
  · exact dA hDV.wf hst.st (nX i (.inl (by omega))) _ (hDV.o0 i ob hi hob)
  · rw [hD] at hj
    by_cases hjk : j = k
    · subst hjk
      rw [hA1] at h2
      have hstab : (atZ z (max hd (j + 1))).h.obj i = h'.obj i := by
        by_cases hle : hd <= j + 1
        · rw [show max hd (j + 1) = j + 1 by omega, hA1]
        · rw [show max hd (j + 1) = hd by omega, ← hA1]
          refine lI hri hT (by omega) hDV.hdle (fun h h4 h5 hh => ?_) (by rw [hA1]; exact h2)
          have hDh := (hDV.hv h hh).2 h5
          obtain ⟨oh, hoh, hhv⟩ := hh
          have hp := hR.pair j h o oh (by omega) ho hoh
          unfold pairC at hp
          simp only [Bool.and_eq_true, Bool.or_eq_true, Bool.not_eq_true'] at hp
          have hbit : (mkAt ops h).testBit j = true := by
            rcases hp.2 with h6 | ⟨_, _, h6⟩
            · exact h6
            · exfalso
              have e1 : (plOf ops (mkAt ops j) o).kd = .alloc := hal
              have e2 : (plOf ops (mkAt ops h) oh).kd.jE = true := hhv
              rw [e1, e2] at h6
              cases h6
          have := dN hcl h oh hoh (hcl h oh hoh hDh) j hbit
          rw [hk] at this; cases this
      rw [hstab] at hob
      exact hk2.ob i ob (hobj i ob h1 h2 hob)
    · rw [if_neg hjk] at hj
      refine dA hDV.wf hst.st (nX i ?_) _ (hDV.ok j i ob hj h1 h2 hob)
      rcases Nat.lt_or_ge i (atZ z k).h.nob with h3 | h3
      · exact .inl h3
      · right
        rcases Nat.lt_or_ge i h'.nob with h4 | h4
        · exact absurd (wZ hT (hDV.lt j hj) hkn h1 h2 h3 (by rw [hA1]; exact h4)) hjk
        · exact h4
  · by_cases hin : (atZ z k).h.nob <= i /\ i < h'.nob
    · exact ⟨k, by rw [hD]; simp, hin.1, by rw [hA1]; exact hin.2⟩
    · rw [hst.tp i (by
       show i < (atZ z k).h.nob ∨ h'.nob <= i
       omega)] at h3
      obtain ⟨j, h4, h5⟩ := hDV.nm i h1 h2 h3
      exact ⟨j, by rw [hD]; split <;> simp_all, h5⟩
  · refine ⟨Step.trans hDV.wf hDV.st.st ⟨hst.st.ext, hst.st.w0, hst.st.own, fun i b hx hb => ?_, ?_⟩, fun i hi => ?_⟩
    ·
     by_cases hin : (atZ z k).h.nob <= i /\ i < h'.nob
     · by_cases hne : E.base <= i /\ i < E.top
       · exact absurd hne hx
       · obtain ⟨u, hu⟩ := hDV.wf.own i b hb
         rcases Nat.lt_or_ge i E.top with h6 | h6
         · have := hst.st.keep i b
           by_cases hX : (rA E h'.nob (atZ z k).h.nob).X i
           · exfalso
             obtain ⟨j, j1, j2, j3⟩ := hDV.nm i (by omega) h6 (by rw [hu]; simp)
             have := wZ hT (hDV.lt j j1) hkn j2 j3 hin.1 (by rw [hA1]; exact hin.2)
             subst this
             rw [hk] at j1; cases j1
           · exact this hX hb
         · have : h'.nob <= i := by omega
           omega
     · exact hst.st.keep i b (nX i (by omega)) hb
    · refine hst.st.ag.mono fun b hb hex => ?_
      obtain ⟨i, hi, hib⟩ := hex
      have h1 : (atZ z k).h.nob <= i := hi.1
      have h2 : i < h'.nob := hi.2
      obtain ⟨u, hu⟩ := hDV.wf.own i b hib
      exfalso
      rcases Nat.lt_or_ge i E.top with h6 | h6
      · obtain ⟨j, j1, j2, j3⟩ := hDV.nm i (by omega) h6 (by rw [hu]; simp)
        have := wZ hT (hDV.lt j j1) hkn j2 j3 h1 (by rw [hA1]; exact h2)
        subst this
        rw [hk] at j1; cases j1
      · omega
    · by_cases hlt : h'.nob <= E.top
      · exact (hst.tp i (by
         show i < (atZ z k).h.nob ∨ h'.nob <= i
         omega)).trans (hDV.st.tp i hi)
      · exact (hst.tp i (by
         show i < (atZ z k).h.nob ∨ h'.nob <= i
         omega)).trans (hDV.st.tp i hi)
 have hokk : HOk h'.nob ⟨fun _ => none, (atZ z k).h.nob⟩ C' w' := by
  refine ⟨hDV.wf, fun i ob h => (by cases h), fun i h1 h2 => ?_⟩
  have h1 : (atZ z k).h.nob <= i := h1
  cases hn : C'.ν i with
  | none => rfl
  | some u =>
    exfalso
    have hle0 : (atZ z 0).h.nob <= (atZ z k).h.nob := dH hT (Nat.zero_le _) (by omega)
    have hmax := hgood.2.2
    have hmax : h'.nob <= max E.top (atZ z k).h.nob := hmax
    obtain ⟨j, j1, j2, j3⟩ := hDV.nm i (by omega) (by omega) (by rw [hn]; simp)
    have := wZ hT (hDV.lt j j1) hkn j2 j3 h1 (by rw [hA1]; exact h2)
    subst this
    rw [hk] at j1; cases j1
 rcases hcases with ⟨_, hy, hs⟩ | ⟨hskip, hgo⟩
 · injection hy with hy1 hy2
   have hh : (stC (rA E h'.nob (atZ z k).h.nob) ops rid k o ⟨(atZ z k).sl, ⟨fun _ => none, (atZ z k).h.nob⟩⟩).holds fun y => y = (eZ, ⟨fun _ => none, (atZ z k).h.nob⟩) := by
    rw [hs (rA E h'.nob (atZ z k).h.nob) _ rfl]; rfl
   refine rE (IY hE _ _) hokk hDV.sz hreads hh fun _ y v w'' C'' hp hst hk2 hr => after y v w'' C'' (by rw [hp, hy1]) (fun i ob h1 h2 _ => ?_) hgood.2.2 hst hk2 hr
   rw [hy2] at h2
   omega
 · have e0 : stC E ops rid k o (atZ z k) = bL E rid k (evC (atZ z k).sl) (atZ z k).h o := hgo E (atZ z k).h rfl
   rw [e0, rU hnh] at hok hval
   obtain ⟨r, r1, r2, r3, r4, hy⟩ := BN hok hval
   injection hy with hy1 hy2
   obtain ⟨ob0, hre⟩ := Oc hal r2
   have hnob' : h'.nob = (atZ z k).h.nob + 1 := by rw [hy2]; show (atZ z k).h.nob + r.eff.new.length = _; rw [hre]; rfl
   have hh : (stC (rA E h'.nob (atZ z k).h.nob) ops rid k o ⟨(atZ z k).sl, ⟨fun _ => none, (atZ z k).h.nob⟩⟩).holds fun y => y = (r.sv, (⟨fun _ => none, (atZ z k).h.nob⟩ : HS).eff r.eff) := by
    rw [hgo (rA E h'.nob (atZ z k).h.nob) _ rfl, rU hnh]
    have he : cxE (rA E h'.nob (atZ z k).h.nob).P (evC (atZ z k).sl) (⟨fun _ => none, (atZ z k).h.nob⟩ : HS).obj (⟨fun _ => none, (atZ z k).h.nob⟩ : HS).nob o = cxE E.P (evC (atZ z k).sl) (atZ z k).h.obj (atZ z k).h.nob o := Qa hal
    rw [he]
    refine Ig r1 r2 r3 ?_
    rw [hre]
    simp [jC, iR, rA, hnob', Nat.blt_eq]
   refine rE (IY hE _ _) hokk hDV.sz hreads hh fun _ y v w'' C'' hp hst hk2 hr => after y v w'' C'' (by rw [hp, hy1]) (fun i ob h1 h2 hob => ?_) hgood.2.2 hst hk2 hr
   have hi : i = (atZ z k).h.nob := by omega
   subst hi
   rw [hp]
   rw [hy2] at hob
   have hob : r.eff.obs (atZ z k).h.obj (atZ z k).h.nob = some ob := hob
   show r.eff.obs (fun _ => none) (atZ z k).h.nob = some ob
   rw [hre] at hob ⊢
   simpa [Eff.obs, List.lookup] using hob
theorem DV.heavy {D D' : Nat -> Bool} {hd : Nat} {a' : Act} {w' : World} {C' : Ctx} (hE : E.Ok) (hDV : DV E ops z σ C w a D hd a' w' C') (hri : gZ ops = some ri) (hR : RS ops) (hT : TF E ops rid ri.wd z) (h0 : atZ z 0 = σ) (hcl : Closed ops D)
  {k : Nat} {o : Oper} (ho : ops[k]? = some o) (hdep : ∀ e ∈ o.after, Region.binds .any e = true -> D e.on = true) (hk : D k = false) (hD : ∀ j, D' j = if j = k then true else D j)
  (hhv : (dB o.op).jE = true) {K : Act -> World -> Prop} {Q : Exit -> Act -> World -> Prop} (hK : ∀ hd' a'' w'' C'', DV E ops z σ C w a D' hd' a'' w'' C'' -> K a'' w'') :
  if Region.wanted o (yielded ops a'.tmps) then o.wp E.P a' w' K Q else K (a'.put o.dst undef) w' := by
 have hkn : k < ops.size := (Array.getElem?_eq_some_iff.1 ho).1
 have hkv : hvAt ops k := ⟨o, ho, hhv⟩
 have hle : hd <= k := by
  rcases Nat.lt_or_ge k hd with h | h
  · rw [(hDV.hv k hkv).2 h] at hk; cases hk
  · exact h
 have bitOf : ∀ {i j : Nat} {oi oj : Oper}, i < j -> ops[i]? = some oi -> ops[j]? = some oj -> ((dB oi.op).jE || (dB oi.op).D7) = true -> (dB oj.op).jE = true -> (mkAt ops j).testBit i = true := by
  intro i j oi oj hij hi hj h1 h2
  have hp := hR.pair i j oi oj hij hi hj
  unfold pairC at hp
  simp only [Bool.and_eq_true, Bool.or_eq_true, Bool.not_eq_true'] at hp
  rcases hp.2 with h | ⟨_, _, h⟩
  · exact h
  · exfalso
    have e1 : ((plOf ops (mkAt ops i) oi).kd.jE || (plOf ops (mkAt ops i) oi).kd.D7) = true := h1
    have e2 : (plOf ops (mkAt ops j) oj).kd.jE = true := h2
    rw [e1, e2] at h
    cases h
 have hhd : hd = k := by
  rcases Nat.lt_or_ge hd k with h | h
  · exfalso
    have hhv2 : hvAt ops hd := by
        rcases hDV.hdh with h2 | h2
        · omega
        · exact h2
    obtain ⟨oh, hoh, h3⟩ := hhv2
    have hb := bitOf h hoh ho (by rw [h3]; rfl) hhv
    have := (hDV.hv hd ⟨oh, hoh, h3⟩).1 (dN hcl k o ho hdep hd hb)
    omega
  · omega
 subst hhd
 obtain ⟨s, h', hz, hok, hval, hnext⟩ := hT.st hd o ho
 have hsv : svZ z hd = s := by unfold svZ; rw [hz]
 have hA1 : (atZ z (hd + 1)).h = h' := by rw [hnext]
 have hreads := hDV.reads hR hT h0 hcl ho hdep hk
 have hle0 : (atZ z 0).h.nob <= (atZ z hd).h.nob := dH hT (Nat.zero_le _) (by omega)
 have hmono : (atZ z hd).h.nob <= h'.nob := by rw [← hA1]; exact hT.mono hd hkn
 have made : ∀ j, j < hd -> (atZ z j).h.nob < (atZ z (j + 1)).h.nob -> D j = true := by
  intro j hj hlt
  have hoj : ops[j]? = some ops[j] := Array.getElem?_eq_getElem (by omega)
  exact dN hcl hd o ho hdep j (bitOf hj hoj ho (w9 hri hT hoj hlt) hhv)
 have hob : ObsOk C' w' (atZ z hd).h.obj := by
  intro i ob hi
  have hin : i < (atZ z hd).h.nob := by
   rcases Nat.lt_or_ge i (atZ z hd).h.nob with h4 | h4
   · exact h4
   · rw [hT.ok hd (by omega) i h4] at hi; cases hi
  by_cases hi0 : i < (atZ z 0).h.nob
  · exact hDV.o0 i ob hi0 hi
  · obtain ⟨j, j1, j2, j3⟩ := rO hT hd (by omega) (by omega) hin
    refine hDV.ok j i ob (made j j1 (by omega)) j2 j3 ?_
    rw [show max hd (j + 1) = hd by omega]
    exact hi
 have main : ∀ (T1 : Nat) (y0 : SV × HS), T1 <= E.top -> y0.1 = s -> (∀ i, y0.2.obj i = h'.obj i) -> y0.2.nob <= h'.nob -> (∀ j i, D j = true -> (atZ z j).h.nob <= i -> i < (atZ z (j + 1)).h.nob -> (atZ z hd).h.nob <= i -> T1 <= i) ->
   (stC { E with top := T1 } ops rid hd o (atZ z hd)).ok -> (stC { E with top := T1 } ops rid hd o (atZ z hd)).val = some y0 ->
   if Region.wanted o (yielded ops a'.tmps) then o.wp E.P a' w' K Q else K (a'.put o.dst undef) w' := by
  intro T1 y0 hT1 hy1 hy2 hy3 hfar hok1 hval1
  have hdd := (sK hok1 hval1).1
  have hokk : HOk T1 (atZ z hd).h C' w' := by
   refine ⟨hDV.wf, hob, fun i h1 h2 => ?_⟩
   cases hn : C'.ν i with
   | none => rfl
   | some u =>
     exfalso
     obtain ⟨j, j1, j2, j3⟩ := hDV.nm i (by omega) (by omega) (by rw [hn]; simp)
     have := hfar j i j1 j2 j3 h1
     omega
  refine rE (E := { E with top := T1 }) (hE.tQ T1) hokk hDV.sz hreads (T.holds_of (a := y0) (post := fun y => y = y0) rfl _ hok1 hval1) fun _ y v w'' C'' hp hst hk2 hr => ?_
  subst hp
  obtain ⟨hd', n1, n2, n3, n4⟩ := Il (ops := ops) (ops.size - (hd + 1)) (hd + 1) (by omega)
  obtain ⟨q1, q2, q3, q4, q5⟩ := hDV.slots hR hst.st ho hD hdd (v := v) (by rw [hsv, ← hy1]; exact hr)
  have stab : ∀ i, i < h'.nob -> (atZ z hd').h.obj i = y.2.obj i := fun i hi => by
   rw [hy2, ← hA1]
   exact lI hri hT n1 n2 n4 (by rw [hA1]; exact hi)
  refine hK hd' _ _ C'' ⟨n2, n3, fun j hj => ?_, fun j hj => ?_, hk2.wf, q1, q2, q3, q4, fun i ob hi hob => ?_, fun j i ob hj h1 h2 hob => ?_, fun i h1 h2 h3 => ?_, ?_, q5⟩
  · rw [hD]
    by_cases hjk : j = hd
    · subst hjk; simp; omega
    · rw [if_neg hjk, hDV.hv j hj]
      constructor
      · intro h; omega
      · intro h
        rcases Nat.lt_or_ge j hd with h5 | h5
        · exact h5
        · exact absurd hj (n4 j (by omega) h)
  · rw [hD] at hj
    split at hj
    · rename_i e; rw [e]; exact hkn
    · exact hDV.lt j hj
  · rw [stab i (by omega)] at hob
    exact hk2.ob i ob hob
  · by_cases hjle : j <= hd
    · have hlt2 : i < h'.nob := by
       have := dH hT (p := j + 1) (q := hd + 1) (by omega) (by omega)
       rw [hA1] at this; omega
      rw [show max hd' (j + 1) = hd' by omega, stab i hlt2] at hob
      exact hk2.ob i ob hob
    · have hjk : ¬ j = hd := by omega
      rw [hD, if_neg hjk] at hj
      have hge : (atZ z hd).h.nob <= i := by
       have := dH hT (p := hd) (q := j) (by omega) (by have := hDV.lt j hj; omega)
       omega
      have hT1i := hfar j i hj h1 h2 hge
      have hjn := hDV.lt j hj
      refine dA hDV.wf hst.st (fun hX => ?_) _ (hDV.ok j i ob hj h1 h2 ?_)
      · have : i < T1 := hX.2
        omega
      · rw [show max hd (j + 1) = j + 1 by omega]
        by_cases hle2 : hd' <= j + 1
        · rw [show max hd' (j + 1) = j + 1 by omega] at hob; exact hob
        · rw [show max hd' (j + 1) = hd' by omega, lI hri hT (p := j + 1) (q := hd') (by omega) n2 (fun h h4 h5 => n4 h (by omega) h5) h2] at hob
          exact hob
  · by_cases hin : (atZ z hd).h.nob <= i /\ i < T1
    · have hlt2 : i < y.2.nob := by
       rcases Nat.lt_or_ge i y.2.nob with h5 | h5
       · exact h5
       · exact absurd (hk2.nb i h5 hin.2) h3
      exact ⟨hd, by rw [hD]; simp, hin.1, by rw [hA1]; omega⟩
    · rw [hst.tp i (by
       show i < (atZ z hd).h.nob ∨ T1 <= i
       omega)] at h3
      obtain ⟨j, h4, h5⟩ := hDV.nm i h1 h2 h3
      exact ⟨j, by rw [hD]; split <;> simp_all, h5⟩
  · refine ⟨Step.trans hDV.wf hDV.st.st (hst.st.mono fun i hi => ⟨hi.1, Nat.lt_of_lt_of_le hi.2 hT1⟩), fun i hi => ?_⟩
    exact (hst.tp i (by
     show i < (atZ z hd).h.nob ∨ T1 <= i
     omega)).trans (hDV.st.tp i hi)
 have hwd := (j6 hri).2.2 hd o ho
 cases hm : jG hd ri.wd with
 | true =>
   have hokw := hok
   have hvalw := hval
   unfold stW at hokw hvalw
   rw [hm, cond_true] at hokw hvalw
   cases hb : Nat.ble ((atZ z hd).h.nob + E.win rid) E.top with
   | false => rw [hb] at hokw; exact hokw.elim
   | true =>
     rw [hb, cond_true] at hokw hvalw
     have hb := Nat.le_of_ble_eq_true hb
     obtain ⟨y0, hy0, hv0⟩ := T.bS hvalw
     obtain ⟨hok0, _⟩ := T.bind_ok hokw
     simp only [T.val, Option.some.injEq, Prod.mk.injEq] at hv0
     obtain ⟨e1, e2⟩ := hv0
     have en : h'.nob = (atZ z hd).h.nob + E.win rid := by rw [← e2]
     have hg := T.kU (iU (E := { E with top := (atZ z hd).h.nob + E.win rid }) (hE.tQ _) o (hT.ok hd (by omega))) hy0
     have hg2 : y0.2.nob <= max ((atZ z hd).h.nob + E.win rid) (atZ z hd).h.nob := hg.2.2
     refine main ((atZ z hd).h.nob + E.win rid) y0 hb e1 (fun i => by rw [← e2]) (by omega) (fun j i hj h1 h2 h3 => ?_) hok0 hy0
     rcases Nat.lt_or_ge i ((atZ z hd).h.nob + E.win rid) with h4 | h4
     · have := wZ hT (hDV.lt j hj) hkn h1 h2 h3 (by rw [hA1, en]; exact h4)
       subst this
       rw [hk] at hj; cases hj
     · exact h4
 | false =>
   have hw : Rw (lQ ops) hd = false := by
    cases hb : Rw (lQ ops) hd with
    | false => rfl
    | true => rw [hwd.2 ⟨hhv, hb⟩] at hm; cases hm
   have hst : stW E ops rid ri.wd hd o (atZ z hd) = stC E ops rid hd o (atZ z hd) := by unfold stW; rw [hm]; rfl
   rw [hst] at hok hval
   refine main E.top (s, h') (Nat.le_refl _) rfl (fun _ => rfl) (Nat.le_refl _) (fun j i hj h1 h2 h3 => ?_) hok hval
   exfalso
   have hjn := hDV.lt j hj
   have hoj : ops[j]? = some ops[j] := Array.getElem?_eq_getElem hjn
   have hmk := w9 hri hT hoj (by omega)
   rcases Nat.lt_trichotomy j hd with h4 | h4 | h4
   · have := dH hT (p := j + 1) (q := hd) (by omega) (by omega)
     omega
   · subst h4; rw [hk] at hj; cases hj
   · rw [Bool.or_eq_true] at hmk
     rcases hmk with h5 | h5
     · have := (hDV.hv j ⟨_, hoj, h5⟩).1 hj
       omega
     · have hb := NA hw h4 hoj h5
       have := dN hcl j _ hoj (hcl j _ hoj hj) hd hb
       rw [hk] at this; cases this
end
theorem Ls {ops : Array Oper} {listed : Array Bool} (hsz : listed.size = ops.size) (hedge : ∀ j o, ops[j]? = some o -> ∀ e ∈ o.after, Region.binds .any e = true -> e.on < j) (hempty : Region.ready .any ops listed = []) :
  ∀ j, j < ops.size -> listed.getD j false = true := by
 intro j
 induction j using Nat.strongRecOn with
 | _ j ih =>
   intro hj
   cases hd : listed.getD j false with
   | true => rfl
   | false =>
     exfalso
     have hoj : ops[j]? = some ops[j] := Array.getElem?_eq_getElem hj
     have : j ∈ Region.ready .any ops listed := by
       refine mem_ready.2 ⟨?_, ops[j], hoj, fun e he hb => ?_⟩
       · rw [Array.getD_eq_getD_getElem?] at hd ⊢
         rw [Array.getElem?_eq_getElem (by omega)] at hd ⊢
         simpa using hd
       · have hlt := hedge j _ hoj e he hb
         exact ih e.on hlt (by omega)
     rw [hempty] at this
     cases this
theorem GU {E : CEnv} (hE : E.Ok) {ops : Array Oper} {rid : Nat} {Q : Exit -> Act -> World -> Prop} {post : CS -> Prop} {σ : CS} {C : Ctx} {a : Act} {w : World} (h : InvC E C σ a w)
  (hh : (nU E ops rid σ).holds post) (hQ : ∀ C' σ' a' w', post σ' -> InvC E C' σ' a' w' -> StepC E σ.h.nob C w C' w' -> (∀ j, j ∉ dstsO ops.toList -> a'.tmps.getD j undef = a.tmps.getD j undef) -> Q .normal a' w') (hm : E.P.follows .mixedOrders = true) :
  (Code.region rid ops true).wp E.P Q a w := by
 unfold nU at hh
 split at hh
 · exact hh.elim
 · rename_i ri hri
   rw [T.ak, T.bH _ (T.qD _ (uY hE _ _ _ h.ok))] at hh
   obtain ⟨hok, z, hval, hdyn, hp⟩ := hh
   have hp : post z.2 := hp
   obtain ⟨hT, h0, hn⟩ := adn hE h.ok hok hval
   have hR := (j6 hri).1
   refine wp_region_any hm ?_
   let Dl : Array Bool -> Nat -> Bool := fun l j => l.getD j false
   refine Gn (fun listed a' w' => listed.size = ops.size /\ Closed ops (Dl listed) /\ ∃ hd C', DV E ops z σ C w a (Dl listed) hd a' w' C') (fun l a w hS => hS.1) ?_ ?_ _ _ _ _ ?_ ?_
   ·
    intro listed a' w' k hready ⟨hsz, hcl, hd, C', hDV⟩
    obtain ⟨hun, o, ho, hdep⟩ := mem_ready.1 hready
    have hkn : k < ops.size := (Array.getElem?_eq_some_iff.1 ho).1
    have hk : Dl listed k = false := by
        show listed.getD k false = false
        rw [Array.getD_eq_getD_getElem?] at hun ⊢
        cases hlk : listed[k]? with
        | none => rfl
        | some b => rw [hlk] at hun; simpa using hun
    have hD : ∀ j, Dl (listed.setIfInBounds k true) j = if j = k then true else Dl listed j := by
     intro j
     show (listed.setIfInBounds k true).getD j false = if j = k then true else listed.getD j false
     rw [Array.getD_eq_getD_getElem?, Array.getD_eq_getD_getElem?, Array.getElem?_setIfInBounds]
     by_cases hj : j = k
     · subst hj; simp [show j < listed.size by omega]
     · have : ¬ k = j := fun e => hj e.symm
       simp [hj, this]
    have hcl' : Closed ops (Dl (listed.setIfInBounds k true)) := by
     intro i o' ho' hi e he hb
     rw [hD] at hi ⊢
     by_cases hik : i = k
     · subst hik
       rw [ho] at ho'; injection ho' with ho'; subst ho'
       have := hdep e he hb
       split
       · rfl
       · exact this
     · rw [if_neg hik] at hi
       have := hcl i o' ho' hi e he hb
       split
       · rfl
       · exact this
    have fin : ∀ hd' a'' w'' C'', DV E ops z σ C w a (Dl (listed.setIfInBounds k true)) hd' a'' w'' C'' -> (listed.setIfInBounds k true).size = ops.size /\ Closed ops (Dl (listed.setIfInBounds k true)) /\ ∃ hd C', DV E ops z σ C w a (Dl (listed.setIfInBounds k true)) hd a'' w'' C' :=
     fun hd' a'' w'' C'' h => ⟨by simpa using hsz, hcl', hd', C'', h⟩
    have all : ∀ {Q : Exit -> Act -> World -> Prop}, if Region.wanted o (yielded ops a'.tmps) then o.wp E.P a' w' (fun a'' w'' => (listed.setIfInBounds k true).size = ops.size /\ Closed ops (Dl (listed.setIfInBounds k true)) /\ ∃ hd C', DV E ops z σ C w a (Dl (listed.setIfInBounds k true)) hd a'' w'' C') Q
      else (fun a'' w'' => (listed.setIfInBounds k true).size = ops.size /\ Closed ops (Dl (listed.setIfInBounds k true)) /\ ∃ hd C', DV E ops z σ C w a (Dl (listed.setIfInBounds k true)) hd a'' w'' C') (a'.put o.dst undef) w' := by
     intro Q
     cases hkd : dB o.op with
     | pure => exact hDV.light hE hri hR hT h0 hcl hdyn ho hdep hk hD (by rw [hkd]; rfl) (K := fun a'' w'' => _ /\ _ /\ _) fun a'' w'' C'' h => fin hd a'' w'' C'' h
     | load => exact hDV.light hE hri hR hT h0 hcl hdyn ho hdep hk hD (by rw [hkd]; rfl) (K := fun a'' w'' => _ /\ _ /\ _) fun a'' w'' C'' h => fin hd a'' w'' C'' h
     | alloc => exact hDV.alloc hE hri hR hT h0 hcl ho hdep hk hD hkd (K := fun a'' w'' => _ /\ _ /\ _) fun a'' w'' C'' h => fin hd a'' w'' C'' h
     | heavy => exact hDV.heavy hE hri hR hT h0 hcl ho hdep hk hD (by rw [hkd]; rfl) (K := fun a'' w'' => _ /\ _ /\ _) fun hd' a'' w'' C'' h => fin hd' a'' w'' C'' h
    refine PU ho (fun hw => ?_) (fun hw => ?_)
    · have := all (Q := Q)
      rw [hw] at this
      simpa using this
    · have := all (Q := Q)
      rw [hw] at this
      simpa using this
   ·
    rintro listed a' w' ⟨hsz, hcl, hd, C', hDV⟩ hnone
    have hall : ∀ k, k < ops.size -> Dl listed k = true := Ls hsz hR.edge hnone
    have hhd : hd = ops.size := by
     rcases hDV.hdh with h1 | h1
     · exact h1
     · obtain ⟨oh, hoh, h2⟩ := h1
       have hlt := (Array.getElem?_eq_some_iff.1 hoh).1
       have := (hDV.hv hd ⟨oh, hoh, h2⟩).1 (hall hd hlt)
       omega
    subst hhd
    have hnn : (atZ z ops.size).h = z.2.h := by rw [hn]
    refine hQ C' z.2 a' w' hp ⟨⟨hDV.wf, fun i ob hi => ?_, fun i h1 h2 => ?_⟩, ?_, hDV.sz, hDV.df, fun t => ?_⟩ (by rw [← h0]; exact hDV.st) hDV.fr
    · rw [← hn] at hi
      have hin : i < (atZ z ops.size).h.nob := by
       rcases Nat.lt_or_ge i (atZ z ops.size).h.nob with h4 | h4
       · exact h4
       · rw [hT.ok _ (Nat.le_refl _) i h4] at hi; cases hi
      by_cases hi0 : i < (atZ z 0).h.nob
      · exact hDV.o0 i ob hi0 hi
      · obtain ⟨j, j1, j2, j3⟩ := rO hT ops.size (Nat.le_refl _) (by omega) hin
        refine hDV.ok j i ob (hall j j1) j2 j3 ?_
        rw [show max ops.size (j + 1) = ops.size by omega]
        exact hi
    · rw [← hn] at h1
      cases hnu : C'.ν i with
      | none => rfl
      | some u =>
        exfalso
        have := dH hT (p := 0) (q := ops.size) (Nat.zero_le _) (Nat.le_refl _)
        obtain ⟨j, j1, j2, j3⟩ := hDV.nm i (by omega) h2 (by rw [hnu]; simp)
        have := dH hT (p := j + 1) (q := ops.size) (by have := hDV.lt j j1; omega) (Nat.le_refl _)
        omega
    · rw [← hn]; exact hT.ok _ (Nat.le_refl _)
    · rw [← hn]
      rcases Dr hT h0 t ops.size (Nat.le_refl _) with ⟨j, oj, j1, j2, j3, e⟩ | ⟨hno, e⟩
      · rw [e]; exact hDV.s1 j oj t j2 j3 (hall j j1)
      · rw [e]; exact hDV.s0 t fun k o ho hk => hno k o (hDV.lt k hk) ho
   · simp
   ·
    refine ⟨by simp, fun i o ho hi => ?_, ?_⟩
    · exfalso
      have : (Array.replicate ops.size false).getD i false = true := hi
      rw [Array.getD_eq_getD_getElem?, Array.getElem?_replicate] at this
      split at this <;> simp at this
    · obtain ⟨hd, n1, n2, n3, n4⟩ := Il (ops := ops) ops.size 0 (by omega)
      have hDf : ∀ k, Dl (Array.replicate ops.size false) k = false := by
       intro k
       show (Array.replicate ops.size false).getD k false = false
       rw [Array.getD_eq_getD_getElem?, Array.getElem?_replicate]
       split <;> rfl
      have hst : Step E.X C w C { w with drawn := w.drawn + 1 } := ⟨fun _ _ h => h, rfl, fun j b h => .inl ⟨j, h⟩, fun _ _ _ h => h, ⟨rfl, rfl, rfl, Nat.le_refl _, fun _ _ _ => rfl⟩⟩
      have hst0 : Step (fun _ => False) C w C { w with drawn := w.drawn + 1 } := ⟨fun _ _ h => h, rfl, fun j b h => .inl ⟨j, h⟩, fun _ _ _ h => h, ⟨rfl, rfl, rfl, Nat.le_refl _, fun _ _ _ => rfl⟩⟩
      refine ⟨hd, C, n2, n3, fun k hk => ?_, fun k hk => ?_, jy h.hk.wf hst, h.sz, h.df, fun k o t _ _ hk => ?_, fun t _ => aF hst _ _ (h.sl t), fun i ob hi hob => ?_, fun k i ob hk => ?_, fun i h1 h2 h3 => ?_, ⟨hst, fun _ _ => rfl⟩, fun _ _ => rfl⟩
      · rw [hDf]
        exact ⟨fun h => (by cases h), fun h => absurd hk (n4 k (Nat.zero_le _) h)⟩
      · rw [hDf] at hk; cases hk
      · rw [hDf] at hk; cases hk
      · rw [lI hri hT (Nat.zero_le hd) n2 n4 hi, h0] at hob
        exact dA h.hk.wf hst0 id _ (h.hk.ob i ob hob)
      · rw [hDf] at hk; cases hk
      · rw [h0] at h1
        exact absurd (h.hk.nb i h1 h2) h3
end Rx
