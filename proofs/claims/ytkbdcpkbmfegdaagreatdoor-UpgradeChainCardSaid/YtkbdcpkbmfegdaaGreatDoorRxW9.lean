/- Rx, part W9: loops. -/
import Derived.Test.YtkbdcpkbmfegdaaGreatDoorRxW8
set_option linter.unusedSectionVars false
set_option linter.unusedSimpArgs false
set_option linter.unusedVariables false
namespace Rx
open Go
variable [Glob]
def uf (E : CEnv) (n0 : Nat) (C : Ctx) (w : World) (a : Act) (ds : List Nat) (post : Ex × CS -> Prop) (e : Exit) (a' : Act) (w' : World) : Prop :=
 ∃ x C', post x /\ e = x.1.Dv /\ InvC E C' x.2 a' w' /\ n0 <= x.2.h.nob /\ StepC E n0 C w C' w' /\ ∀ j, j ∉ ds -> a'.tmps.getD j undef = a.tmps.getD j undef
def AJ (E : CEnv) (c : Code) (ds : List Nat) (σ : CS) (t : T (Ex × CS)) : Prop :=
 ∀ (post : Ex × CS -> Prop), t.holds post -> ∀ C a w, InvC E C σ a w -> c.wp E.P (uf E σ.h.nob C w a ds post) a w
def mY (E : CEnv) (σ : CS) (x : Ex × CS) : Prop := x.2.h.Ok /\ σ.h.nob <= x.2.h.nob /\ x.2.h.nob <= max E.top σ.h.nob
theorem Ki {E : CEnv} {c : Code} {ds : List Nat} {f : CS -> T (Ex × CS)} (hf : ∀ σ, AJ E c ds σ (f σ)) (n : Nat) (σ : CS) : AJ E (.loop c) ds σ (pz f n σ) := by
 intro post hh C a w hi
 refine wp_loop_ghost (fun k a' w' => ∃ σ' C', (pz f k σ').holds post /\ InvC E C' σ' a' w' /\ σ.h.nob <= σ'.h.nob /\ StepC E σ.h.nob C w C' w' /\ ∀ j, j ∉ ds -> a'.tmps.getD j undef = a.tmps.getD j undef) n ⟨σ, C, hh, hi, Nat.le_refl _, StepC.refl E _ C w, fun _ _ => rfl⟩ ?_
 rintro k a' w' ⟨σ', C', hh, hi, hn, hst, hfr⟩
 cases k with
 | zero => exact hh.elim
 | succ k =>
   simp only [pz, T.ak] at hh
   refine wp_mono (hf σ' _ hh C' a' w' hi) ?_
   rintro e a2 w2 ⟨⟨ex, σ2⟩, C2, hp, rfl, hi2, hn2, hst2, hfr2⟩
   have hn2 : σ'.h.nob <= σ2.h.nob := hn2
   have hst3 := StepC.trans hi.hk.wf hn hst hst2
   have hfr3 : ∀ j, j ∉ ds -> a2.tmps.getD j undef = a.tmps.getD j undef := fun j hj => (hfr2 j hj).trans (hfr j hj)
   cases ex with
   | normal => exact ⟨k, by omega, σ2, C2, hp, hi2, by omega, hst3, hfr3⟩
   | exit id => exact ⟨_, C2, hp, rfl, hi2, by show σ.h.nob <= σ2.h.nob; omega, hst3, hfr3⟩
   | ret => exact ⟨_, C2, hp, rfl, hi2, by show σ.h.nob <= σ2.h.nob; omega, hst3, hfr3⟩
def Ctx.cut (C : Ctx) (n t : Nat) : Ctx := ⟨fun i => if n <= i /\ i < t then none else C.ν i, fun i => if n <= i /\ i < t then none else C.ρ i, C.W0⟩
theorem uN {C : Ctx} {n t i b : Nat} (h : (C.cut n t).ρ i = some b) : C.ρ i = some b := by
 have h : (if n <= i /\ i < t then none else C.ρ i) = some b := h
 split at h
 · cases h
 · exact h
theorem acd {C : Ctx} {n t b : Nat} (h : (C.cut n t).W b) : C.W b := by
 rcases h with h | ⟨i, hi⟩
 · exact .inl h
 · exact .inr ⟨i, uN hi⟩
theorem Bh {C : Ctx} {n t i : Nat} (h : ¬ (n <= i /\ i < t)) : (C.cut n t).ν i = C.ν i := if_neg h
theorem Oa {C : Ctx} {n t i : Nat} (h : ¬ (n <= i /\ i < t)) : (C.cut n t).ρ i = C.ρ i := if_neg h
theorem aaf {C : Ctx} {w : World} (hw : WF C w) (n t : Nat) : WF (C.cut n t) w :=
 ⟨fun i b h => hw.lt i b (uN h), fun i j b h h' => hw.inj i j b (uN h) (uN h'), hw.w0, fun i b h => by
  obtain ⟨v, hv⟩ := hw.own i b (uN h)
  refine ⟨v, ?_⟩
  have h2 : (if n <= i /\ i < t then none else C.ρ i) = some b := h
  split at h2
  · cases h2
  · rename_i hn; rw [Bh hn]; exact hv, fun i b h => hw.dis i b (uN h), bV (fun b => acd) hw.gl⟩
theorem J8 {n key : Nat} {seen : List Nat} (h : key ∈ leftOf n seen) : (leftOf n (key :: seen)).length < (leftOf n seen).length := by
 have h1 : leftOf n (key :: seen) = (leftOf n seen).filter fun k => !(k == key) := by
  unfold leftOf
  rw [List.filter_filter]
  refine List.filter_congr fun k _ => ?_
  simp only [List.contains_cons, Bool.not_or]
 rw [h1]
 refine List.length_filter_lt_length_iff_exists.2 ⟨key, h, by simp⟩
def RH (tail : CxT) (ops : Array Oper) (l : List Oper) (rest : Code) (ds : List Nat) : Prop :=
 ∀ (E : CEnv), E.Ok -> E.P.follows .mixedOrders = true -> ∀ σ (post : Ex × CS -> Prop), (tail E σ).holds post -> ∀ C a w, InvC E C σ a w ->
   ∀ R : Exit -> Act -> World -> Prop, (∀ e a' w', uf E σ.h.nob C w a ds post e a' w' -> R e a' w') -> wpList E.P ops (Exit.then (rest.wp E.P R) R) l a w
theorem yV {tail : CS -> T (Ex × CS)} {f : Nat -> CS} {u : T (Ex × CS)} {post : Ex × CS -> Prop} (hd : ∀ k, (tail (f k)).det = true) : ∀ {n : Nat}, (yU tail f u n).holds post ->
  u.holds post /\ ∀ k, k < n -> (tail (f k)).holds fun x => x.1 = .normal
 | 0, h => ⟨h, fun k hk => by omega⟩
 | n + 1, h => by
   simp only [yU, T.ak] at h
   have h2 := (T.bH _ (hd n)).1 h
   obtain ⟨_, y, _, hy⟩ := h2
   have hk : (yU tail f u n).holds post := by
     split at hy
     · exact hy
     · exact hy.elim
   obtain ⟨h3, h4⟩ := yV hd hk
   refine ⟨h3, fun k hk2 => ?_⟩
   by_cases e : k = n
   · subst e
     refine T.aD (fun x hx => ?_) _ h
     split at hx
     · assumption
     · exact hx.elim
   · exact h4 k (by omega)
theorem Ea {E : CEnv} (hE : E.Ok) (hm : E.P.follows .mixedOrders = true) {rid : Nat} {ops : Array Oper} {rest : Code} {o : Oper} {l : List Oper} {t : Tmp} {d : Option Tmp} {tail : CxT} (hops : ops.toList = o :: l) (hop : o.op = .next (.tmp t) false) (hg : o.guard = none) (hd : d = o.dst)
  (ht : RH tail ops l rest (bK (.seq (.region rid ops false) rest))) (hgood : ∀ (E : CEnv), E.Ok -> ∀ σ : CS, σ.h.Ok -> (tail E σ).good (mY E σ)) (σ : CS) :
  AJ E (.loop (.seq (.region rid ops false) rest)) (bK (.seq (.region rid ops false) rest)) σ (jr (.seq (.region rid ops false) rest) tail E σ t d) := by
 subst hd
 intro post hh C0 a0 w0 hi0
 let ds := bK (.seq (.region rid ops false) rest)
 have hds : ∀ j, o.dst = some j -> j ∈ ds := fun j hj => by
  show j ∈ bK (.region rid ops false) ++ bK rest
  rw [List.mem_append]
  left
  show j ∈ dstsO ops.toList
  rw [hops]
  simp only [dstsO, List.mem_filterMap]
  exact ⟨o, by simp, hj⟩
 unfold jr at hh
 split at hh
 · rename_i q hq
   split at hh
   · rename_i m n cur hqo
     split at hh
     · rename_i kt vt ml hmo
       cases hb : (Nat.beq n ml.length && (Nat.ble E.base q && (Nat.ble E.base σ.h.nob && (Nat.blt q σ.h.nob && (Nat.blt q E.top && (gI E.N o.dst && !jG t (bK (.seq (.region rid ops false) rest)))))))) with
       | false => rw [hb] at hh; exact hh.elim
       | true =>
       rw [hb, cond_true] at hh
       simp only [Bool.and_eq_true, Nat.blt_eq, Bool.not_eq_true'] at hb
       obtain ⟨b1, b2, b3, b4, b5, b6, b7⟩ := hb
       have b1 := Nat.eq_of_beq_eq_true b1
       have b2 := Nat.le_of_ble_eq_true b2
       have b3 := Nat.le_of_ble_eq_true b3
       have htd : t ∉ ds := fun h => by rw [ny.2 h] at b7; cases b7
       have hmq : m ≠ q := by rintro rfl; rw [hqo] at hmo; cases hmo
       have hEb : CEnv.Ok { E with base := σ.h.nob } := hE.DN _
       have okU : ∀ c, HS.Ok ⟨upd σ.h.obj q (some (.itx m n c)), σ.h.nob⟩ := fun c i hi => by
        have hi : σ.h.nob <= i := hi
        show upd σ.h.obj q _ i = none
        rw [bJ _ _ (by omega)]
        exact hi0.ok i hi
       obtain ⟨hend, hkeys⟩ := yV (fun k => T.qD _ (hgood _ hEb _ (okU _))) hh
       rw [T.ak] at hend
       let cl := pX (bK (.seq (.region rid ops false) rest)) σ.sl
       let hst : HS := ⟨upd σ.h.obj q (some (.itx m n none)), σ.h.nob⟩
       have clj : ∀ j, j ∉ ds -> cl j = σ.sl j := fun j hj => by
        show (bif jG j ds then SV.junk else σ.sl j) = _
        have : jG j ds = false := by
         cases hb : jG j ds with
         | false => rfl
         | true => exact absurd (ny.1 hb) hj
        rw [this]; rfl
       have cli : ∀ j, j ∈ ds -> cl j = .junk := fun j hj => by
        show (bif jG j ds then SV.junk else σ.sl j) = _
        rw [ny.2 hj]; rfl
       have relcl : ∀ {C : Ctx} {w : World} {v : Value} (j : Nat), (j ∉ ds -> rel C w (σ.sl j) v) -> rel C w (cl j) v := fun j h => by
        by_cases hj : j ∈ ds
        · rw [cli j hj]; trivial
        · rw [clj j hj]; exact h hj
       obtain ⟨seen0, _, hseen⟩ := hi0.hk.ob q _ hqo
       refine wp_loop_ghost (fun k a w => ∃ C seen, (leftOf n seen).length = k /\ InvC E C ⟨cl, hst⟩ a w /\ obHolds C w q (.it m n seen) /\ StepC E σ.h.nob C0 w0 C w /\ ∀ j, j ∉ ds -> a.tmps.getD j undef = a0.tmps.getD j undef) (leftOf n seen0).length ?_ ?_
       · refine ⟨C0, seen0, rfl, ⟨⟨hi0.hk.wf, fun i ob hi => ?_, hi0.hk.nb⟩, okU none, hi0.sz, hi0.df, fun j => relcl j fun _ => hi0.sl j⟩, hseen, StepC.refl E _ C0 w0, fun _ _ => rfl⟩
         by_cases hiq : i = q
         · subst hiq
           have : some (Ob.itx m n none) = some ob := by rw [← upd_same σ.h.obj i (some (.itx m n none))]; exact hi
           injection this with this
           subst this
           exact ⟨_, fun k hk => (by cases hk), hseen⟩
         · have hi : upd σ.h.obj q (some (.itx m n none)) i = some ob := hi
           rw [bJ _ _ hiq] at hi
           exact hi0.hk.ob i ob hi
       · rintro k a w ⟨C, seen, rfl, hi, hit, hstC, hfr⟩
         refine wp_seq (wp_region_list ?_)
         rw [hops]
         refine wpList_step fun K hK => ?_
         have hw : Region.wanted o (yielded ops a.tmps) = true := by simp [Region.wanted, hg]
         rw [if_pos hw]
         let g' : Nat -> Option Ob := fun i => if i = q then some (.it m n seen) else hst.obj i
         have hsto : ∀ i, i ≠ q -> hst.obj i = σ.h.obj i := fun i hiq => bJ _ _ hiq
         have hg' : ObsOk C w g' := by
          intro i ob h
          by_cases hiq : i = q
          · subst hiq
            have : some (Ob.it m n seen) = some ob := by simpa [g'] using h
            injection this with this
            subst this
            exact hit
          · have : hst.obj i = some ob := by simpa [g', hiq] using h
            exact hi.hk.ob i ob this
         have hx : rel C w (.ptr q 0) (a.eval (.tmp t)) := by
          have := hi.sl t
          have e : cl t = .ptr q 0 := by rw [clj t htd, hq]
          rw [show (⟨cl, hst⟩ : CS).sl t = cl t from rfl, e] at this
          exact this
         have eq1 : g' q = some (.it m n seen) := by simp [g']
         have em1 : g' m = some (.mp kt vt ml) := by simp [g', hmq, hsto m hmq, hmo]
         have hnext : (Ck g' (.ptr q 0)).holds fun r => ((leftOf n seen).isEmpty = true /\ r = ⟨.tup [.kb false], .none⟩) ∨
           ∃ key, key ∈ leftOf n seen /\ r = ⟨.tup [.kb true, gW kt (cB kt vt ml key).1, gW vt (cB kt vt ml key).2], ⟨[(q, some (.it m n (key :: seen)))], []⟩⟩ := by
          simp only [Ck, eq1, em1]
          refine ⟨b1, fun h => .inl ⟨h, rfl⟩, fun h j hj => .inr ⟨(leftOf n seen).getD j 0, ?_, rfl⟩⟩
          rw [List.getD_eq_getElem?_getD, List.getElem?_eq_getElem hj]
          exact List.getElem_mem hj
         refine y8 hi.hk.wf hg' hop hx hnext K _ fun r v w1 C1 hr hc => hK _ _ ?_
         rcases hr with ⟨_, rfl⟩ | ⟨key, hkey, rfl⟩
         ·
          have hs1 : Step (fun _ => False) C w C1 w1 := hc.step.mono fun i hi => by simp [Eff.X, Eff.touched, Eff.none] at hi
          have hν1 : ∀ i, C1.ν i = C.ν i := fun i => by
           cases hn : C.ν i with
           | some u => exact hc.step.ext i u hn
           | none =>
             cases hn1 : C1.ν i with
             | none => rfl
             | some u =>
               rcases hc.new i (by rw [hn1]; simp) with h | h
               · exact absurd hn h
               · simp [Eff.none] at h
          have hinv : InvC E C1 ⟨putT o.dst (.tup [.kb false]) cl, hst⟩ (a.put o.dst v) w1 :=
           hi.put (hs1.mono fun _ h => h.elim) ⟨hc.wf, fun i ob h => dA hi.hk.wf hs1 id _ (hi.hk.ob i ob h), fun i h1 h2 => by rw [hν1]; exact hi.hk.nb i h1 h2⟩ hi.ok hc.rel b6
          have hst1 : StepC E σ.h.nob C0 w0 C1 w1 := ⟨Step.trans hi.hk.wf hstC.st (hs1.mono fun _ h => h.elim), fun i h => (hν1 i).trans (hstC.tp i h)⟩
          have hfr1 : ∀ j, j ∉ ds -> (a.put o.dst v).tmps.getD j undef = a0.tmps.getD j undef := fun j hj => (wO fun t' e1 e2 => hj (by rw [e2]; exact hds t' e1)).trans (hfr j hj)
          refine ht E hE hm _ _ hend C1 _ w1 hinv _ ?_
          rintro e a2 w2 ⟨⟨ex, σ2⟩, C2, hp, rfl, hi2, hn2, hst2, hfr2⟩
          cases ex with
          | normal => exact hp.elim
          | exit id => exact ⟨_, C2, hp, rfl, hi2, hn2, StepC.trans hinv.hk.wf (Nat.le_refl _) hst1 hst2, fun j hj => (hfr2 j hj).trans (hfr1 j hj)⟩
          | ret => exact ⟨_, C2, hp, rfl, hi2, hn2, StepC.trans hinv.hk.wf (Nat.le_refl _) hst1 hst2, fun j hj => (hfr2 j hj).trans (hfr1 j hj)⟩
         ·
          have hkn : key < n := (xX hkey).1
          have hs1 : Step (fun i => i = q) C w C1 w1 := hc.step.mono fun i hi => by
           have : i ∈ [(q, some (Ob.it m n (key :: seen)))].map (·.1) := hi
           simpa using this
          have hν1 : ∀ i, C1.ν i = C.ν i := fun i => by
           cases hn : C.ν i with
           | some u => exact hc.step.ext i u hn
           | none =>
             cases hn1 : C1.ν i with
             | none => rfl
             | some u =>
               rcases hc.new i (by rw [hn1]; simp) with h | h
               · exact absurd hn h
               · simp at h
          have hit1 : obHolds C1 w1 q (.it m n (key :: seen)) := hc.obs q _ (by simp [List.lookup])
          let hsk : HS := ⟨upd σ.h.obj q (some (.itx m n (some key))), σ.h.nob⟩
          have hinv : InvC { E with base := σ.h.nob } C1 ⟨putT o.dst (.tup [.kb true, gW kt (cB kt vt ml key).1, gW vt (cB kt vt ml key).2]) cl, hsk⟩ (a.put o.dst v) w1 := by
           have hlt : ∀ t, o.dst = some t -> t < a.tmps.size := fun t e => by rw [hi.sz]; rw [e] at b6; simpa [gI, Nat.blt_eq] using b6
           refine ⟨⟨hc.wf, fun i ob h => ?_, fun i h1 h2 => by rw [hν1]; exact hi.hk.nb i h1 h2⟩, okU _, ?_, ?_, fun j => ?_⟩
           · by_cases hiq : i = q
             · subst hiq
               have : some (Ob.itx m n (some key)) = some ob := by rw [← upd_same σ.h.obj i (some (.itx m n (some key)))]; exact h
               injection this with this
               subst this
               exact ⟨key :: seen, fun k hk => (by injection hk with hk; subst hk; exact ⟨seen, rfl⟩), hit1⟩
             · have h : upd σ.h.obj q (some (.itx m n (some key))) i = some ob := h
               rw [bJ _ _ hiq] at h
               exact dA hi.hk.wf hs1 hiq _ (hi.hk.ob i ob (by rw [hsto i hiq]; exact h))
           · cases o.dst <;> simp [Act.put, hi.sz]
           · cases o.dst <;> exact hi.df
           · show rel C1 w1 (l5 o.dst j _ (cl j)) _
             rw [kT _ _ _ _ hlt]
             cases hod : o.dst with
             | none => exact aF hs1 _ _ (hi.sl j)
             | some t' =>
               simp only [aX]
               by_cases hj : j = t'
               · subst hj; simp only [if_true]; exact hc.rel
               · simp only [hj, if_false]; exact aF hs1 _ _ (hi.sl j)
          refine ht { E with base := σ.h.nob } hEb hm _ _ (hkeys key hkn) C1 _ w1 hinv _ ?_
          have again : ∀ (e : Exit) (a2 : Act) (w2 : World), uf { E with base := σ.h.nob } σ.h.nob C1 w1 (a.put o.dst v) ds (fun x => x.1 = .normal) e a2 w2 -> e = .normal /\
            ∃ n', n' < (leftOf n seen).length /\ ∃ C seen, (leftOf n seen).length = n' /\ InvC E C ⟨cl, hst⟩ a2 w2 /\ obHolds C w2 q (.it m n seen) /\ StepC E σ.h.nob C0 w0 C w2 /\ ∀ j, j ∉ ds -> a2.tmps.getD j undef = a0.tmps.getD j undef := by
           rintro e a2 w2 ⟨⟨ex, σ2⟩, C2, hp, rfl, hi2, hn2, hst2, hfr2⟩
           have hp : ex = .normal := hp
           subst hp
           refine ⟨rfl, (leftOf n (key :: seen)).length, J8 hkey, C2.cut σ.h.nob E.top, key :: seen, rfl, ?_⟩
           have nw : ∀ i u, C.ν i = some u -> ¬ (σ.h.nob <= i /\ i < E.top) := fun i u hu ⟨h1, h2⟩ => by
            rw [hi.hk.nb i h1 h2] at hu; cases hu
           have hX2 : ∀ i, ¬ (σ.h.nob <= i /\ i < E.top) -> ¬ CEnv.X { E with base := σ.h.nob } i := fun i h hX => h hX
           have hs12 := Step.trans hc.wf (hs1.mono fun i hi => (show i = q ∨ CEnv.X { E with base := σ.h.nob } i from .inl hi)) (hst2.st.mono fun i hi => (show i = q ∨ CEnv.X { E with base := σ.h.nob } i from .inr hi))
           have hsc : Step (fun i => i = q) C w (C2.cut σ.h.nob E.top) w2 := by
            refine ⟨fun i u hu => ?_, hs12.w0, fun j b hj => hs12.own j b (uN hj), fun i b hiq hib => ?_, hs12.ag.mono fun b hb hex => ?_⟩
            · rw [Bh (nw i u hu)]; exact hs12.ext i u hu
            · obtain ⟨u, hu⟩ := hi.hk.wf.own i b hib
              rw [Oa (nw i u hu)]
              exact hs12.keep i b (fun h => h.elim hiq (hX2 i (nw i u hu))) hib
            · obtain ⟨i, hiX, hib⟩ := hex
              obtain ⟨u, hu⟩ := hi.hk.wf.own i b hib
              rcases hiX with h | h
              · exact ⟨i, h, hib⟩
              · exact absurd h (hX2 i (nw i u hu))
           have hit2 : obHolds C2 w2 q (.it m n (key :: seen)) := dA hc.wf hst2.st (hX2 q (by omega)) _ hit1
           have hmν : ∀ u, C2.ν m = some u -> ¬ (σ.h.nob <= m /\ m < E.top) := fun u _ h => by
            have := hi0.ok m h.1
            rw [hmo] at this; cases this
           have hitc : obHolds (C2.cut σ.h.nob E.top) w2 q (.it m n (key :: seen)) := by
            obtain ⟨b, bm, h1, h2, h3, h4⟩ := hit2
            exact ⟨b, bm, by rw [Oa (by omega)]; exact h1, by rw [Bh (by omega)]; exact h2, by rw [Bh (hmν _ h3)]; exact h3, h4⟩
           have hfr3 : ∀ j, j ∉ ds -> a2.tmps.getD j undef = a.tmps.getD j undef := fun j hj => (hfr2 j hj).trans (wO fun t' e1 e2 => hj (by rw [e2]; exact hds t' e1))
           refine ⟨⟨⟨aaf hi2.hk.wf _ _, fun i ob h => ?_, fun i h1 h2 => if_pos ⟨h1, h2⟩⟩, hi.ok, hi2.sz, hi2.df, fun j => relcl j fun hj => ?_⟩, hitc, ?_, fun j hj => (hfr3 j hj).trans (hfr j hj)⟩
           · by_cases hiq : i = q
             · subst hiq
               have : some (Ob.itx m n none) = some ob := by rw [← upd_same σ.h.obj i (some (.itx m n none))]; exact h
               injection this with this
               subst this
               exact ⟨key :: seen, fun k hk => (by cases hk), hitc⟩
             · exact dA hi.hk.wf hsc hiq _ (hi.hk.ob i ob h)
           · rw [hfr3 j hj]
             have := hi.sl j
             rw [show (⟨cl, hst⟩ : CS).sl j = cl j from rfl, clj j hj] at this
             exact aF hsc _ _ this
           · refine ⟨Step.trans hi.hk.wf hstC.st (hsc.mono fun i hi => by subst hi; exact ⟨b2, b5⟩), fun i hi' => ?_⟩
             rw [Bh (by omega)]
             exact ((hst2.tp i hi').trans (hν1 i)).trans (hstC.tp i hi')
          intro e a2 w2 h
          obtain ⟨h1, h2⟩ := again e a2 w2 h
          subst h1
          exact h2
     · exact hh.elim
   · exact hh.elim
 · exact hh.elim
end Rx
set_option linter.unusedSectionVars false
set_option linter.unusedSimpArgs false
set_option linter.unusedVariables false
namespace Rx
open Go
variable [Glob]
theorem lX {E : CEnv} {σ σ' : CS} {x : Ex × CS} (h : σ'.h.Ok /\ σ.h.nob <= σ'.h.nob /\ σ'.h.nob <= max E.top σ.h.nob) (k : mY E σ' x) : mY E σ x := by
 obtain ⟨_, h1, h2⟩ := h
 obtain ⟨k0, k1, k2⟩ := k
 exact ⟨k0, Nat.le_trans h1 k1, by omega⟩
theorem BX {E : CEnv} {f : CS -> T (Ex × CS)} (hf : ∀ σ : CS, σ.h.Ok -> (f σ).good (mY E σ)) : ∀ (n : Nat) (σ : CS), σ.h.Ok -> (pz f n σ).good (mY E σ)
 | 0, _, _ => trivial
 | n + 1, σ, h => T.bf (fun x hx => by
     obtain ⟨ex, σ'⟩ := x
     cases ex with
     | normal => exact T.gy (fun y hy => lX hx hy) _ (BX hf n σ' hx.1)
     | exit id => exact hx
     | ret => exact hx) _ (hf σ h)
theorem BJ {p q : Ex × CS -> Prop} {tail : CS -> T (Ex × CS)} {f : Nat -> CS} {u : T (Ex × CS)} (ht : ∀ k, (tail (f k)).good q) (hu : u.good p) : ∀ n, (yU tail f u n).good p
 | 0 => hu
 | n + 1 => T.bf (fun x hx => by
     obtain ⟨ex, σ'⟩ := x
     cases ex with
     | normal => exact BJ ht hu n
     | exit id => trivial
     | ret => trivial) _ (ht n)
theorem PL {h : HS} (hh : h.Ok) {q : Nat} (hq : q < h.nob) (o : Option Ob) : HS.Ok ⟨upd h.obj q o, h.nob⟩ := by
 intro i hi
 have hi : h.nob <= i := hi
 show upd h.obj q _ i = none
 rw [bJ _ _ (by omega)]
 exact hh i hi
theorem Ij {c : Code} {tail : CxT} (ht : ∀ E : CEnv, E.Ok -> ∀ σ : CS, σ.h.Ok -> (tail E σ).good (mY E σ)) {E : CEnv} (hE : E.Ok) (σ : CS) (h : σ.h.Ok) (t : Tmp) (d : Option Tmp) : (jr c tail E σ t d).good (mY E σ) := by
 unfold jr
 split
 · rename_i q _
   split
   · split
     · rename_i m n cur hqo _ kt vt l hmo
       cases hb : (Nat.beq n l.length && (Nat.ble E.base q && (Nat.ble E.base σ.h.nob && (Nat.blt q σ.h.nob && (Nat.blt q E.top && (gI E.N d && !jG t (bK c))))))) with
       | false => trivial
       | true =>
         simp only [Bool.and_eq_true, Nat.blt_eq] at hb
         have hq : q < σ.h.nob := hb.2.2.2.1
         rw [cond_true]
         refine BJ (q := fun _ => True) ?_ ?_ n
         · intro k
           exact T.gy (fun _ _ => trivial) _ (ht { E with base := σ.h.nob } (hE.DN _) ⟨_, ⟨upd σ.h.obj q (some (.itx m n (some k))), σ.h.nob⟩⟩ (PL h hq _))
         refine T.bf (fun x hx => ?_) _ (ht E hE ⟨_, ⟨upd σ.h.obj q (some (.itx m n none)), σ.h.nob⟩⟩ (PL h hq _))
         obtain ⟨ex, σ'⟩ := x
         cases ex with
         | normal => trivial
         | exit id => exact hx
         | ret => exact hx
     · trivial
   · trivial
 · trivial
theorem IG {E : CEnv} (hE : E.Ok) (a : Code) (σ : CS) (h : σ.h.Ok) : (oI E a σ).good fun y => y.h.Ok /\ σ.h.nob <= y.h.nob /\ y.h.nob <= max E.top σ.h.nob := by
 unfold oI
 split
 · split
   · exact iZ hE _ _ _ h
   · trivial
 · trivial
theorem bO : ∀ (c : Code), (∀ E : CEnv, E.Ok -> ∀ σ : CS, σ.h.Ok -> ((aQ c).1 E σ).good (mY E σ)) /\ (∀ E : CEnv, E.Ok -> ∀ σ : CS, σ.h.Ok -> ((aQ c).2 E σ).good (mY E σ)) := by
 have self : ∀ (E : CEnv) (σ : CS) (e : Ex), σ.h.Ok -> mY E σ (e, σ) := fun E σ e h => ⟨h, Nat.le_refl _, Nat.le_max_right _ _⟩
 intro c
 induction c with
 | skip => exact ⟨fun E _ σ h => self E σ _ h, fun _ _ _ _ => trivial⟩
 | region rid ops dr =>
   cases dr with
   | false => exact ⟨fun E hE σ h => T.bf (fun y hy => hy) _ (iZ hE _ _ _ h), fun _ _ _ _ => trivial⟩
   | true => exact ⟨fun E hE σ h => T.bf (fun y hy => hy) _ (yM hE h), fun _ _ _ _ => trivial⟩
 | seq a b iha ihb =>
   refine ⟨fun E hE σ h => T.bf (fun x hx => ?_) _ (iha.1 E hE σ h), fun E hE σ h => T.bf (fun y hy => ?_) _ (IG hE a σ h)⟩
   · obtain ⟨ex, σ'⟩ := x
     cases ex with
     | normal => exact T.gy (fun y hy => lX hx hy) _ (ihb.1 E hE σ' hx.1)
     | exit id => exact hx
     | ret => exact hx
   · exact T.gy (fun z hz => lX (σ' := jK E.fl y) hy hz) _ (ihb.1 E hE (jK E.fl y) hy.1)
 | cond c a b iha ihb =>
   refine ⟨fun E hE σ h => ?_, fun _ _ _ _ => trivial⟩
   show T.good _ (match evC σ.sl c with
    | .kb q => bif q then (aQ a).1 E σ else (aQ b).1 E σ
    | _ => .fail)
   split
   · rename_i q _
     cases q
     · exact ihb.1 E hE σ h
     · exact iha.1 E hE σ h
   · trivial
 | block id c ih =>
   refine ⟨fun E hE σ h => T.bf (fun x hx => ?_) _ (ih.1 E hE σ h), fun _ _ _ _ => trivial⟩
   obtain ⟨ex, σ'⟩ := x
   cases ex with
   | normal => exact hx
   | exit k =>
     show T.good _ (bif Nat.beq k id then T.ret (Ex.normal, σ') else .ret (.exit k, σ'))
     cases Nat.beq k id
     · exact hx
     · exact hx
   | ret => exact hx
 | loop c ih =>
   refine ⟨fun E hE σ h => ?_, fun _ _ _ _ => trivial⟩
   show T.good _ (match qE c with
    | some (t, d) => jr c (aQ c).2 E σ t d
    | none => pz ((aQ c).1 E) E.fuel σ)
   split
   · exact Ij ih.2 hE σ h _ _
   · exact BX (fun σ h => ih.1 E hE σ h) _ σ h
 | exit id => exact ⟨fun E _ σ h => self E σ _ h, fun _ _ _ _ => trivial⟩
 | ret => exact ⟨fun E _ σ h => self E σ _ h, fun _ _ _ _ => trivial⟩
 | _ => exact ⟨fun _ _ _ _ => trivial, fun _ _ _ _ => trivial⟩
theorem InvC.clr {E : CEnv} {C : Ctx} {σ : CS} {a : Act} {w : World} (h : InvC E C σ a w) (fl : Nat) : InvC E C (jK fl σ) a w :=
 ⟨h.hk, h.ok, h.sz, h.df, fun j => by
  show rel C w (bif gH fl j then σ.sl j else .junk) _
  cases gH fl j
  · exact trivial
  · exact h.sl j⟩
theorem JZ {c : Code} {t : Tmp} {d : Option Tmp} (h : qE c = some (t, d)) : ∃ rid ops rest o l, c = .seq (.region rid ops false) rest /\ ops.toList = o :: l /\ o.op = .next (.tmp t) false /\ o.guard = none /\ d = o.dst := by
 unfold qE at h
 split at h
 · rename_i rid ops rest
   split at h
   · rename_i o l hl
     split at h
     · rename_i t' ho hg
       simp only [Option.some.injEq, Prod.mk.injEq] at h
       obtain ⟨rfl, rfl⟩ := h
       exact ⟨rid, ops, rest, o, l, rfl, hl, ho, hg, rfl⟩
     · cases h
   · cases h
 · cases h
theorem uf.trans {E : CEnv} {n0 n1 : Nat} {C C1 : Ctx} {w w1 : World} {a a1 : Act} {ds ds' : List Nat} {post : Ex × CS -> Prop} (hw : WF C1 w1) (hn : n0 <= n1) (hst : StepC E n0 C w C1 w1) (hfr : ∀ j, j ∉ ds -> a1.tmps.getD j undef = a.tmps.getD j undef) (hds : ∀ j, j ∈ ds' -> j ∈ ds)
  {e : Exit} {a' : Act} {w' : World} (h : uf E n1 C1 w1 a1 ds' post e a' w') : uf E n0 C w a ds post e a' w' := by
 obtain ⟨x, C2, hp, he, hi2, hn2, hst2, hfr2⟩ := h
 exact ⟨x, C2, hp, he, hi2, Nat.le_trans hn hn2, StepC.trans hw hn hst hst2, fun j hj => (hfr2 j fun h => hj (hds j h)).trans (hfr j hj)⟩
theorem jW : ∀ (c : Code), (∀ E : CEnv, E.Ok -> E.P.follows .mixedOrders = true -> ∀ σ, AJ E c (bK c) σ ((aQ c).1 E σ)) /\
  (∀ rid ops rest o l, c = .seq (.region rid ops false) rest -> ops.toList = o :: l -> RH (aQ c).2 ops l rest (bK c)) := by
 intro c
 induction c with
 | skip =>
   refine ⟨fun E hE hm σ post hh C a w hi => wp_skip ⟨_, C, hh, rfl, hi, Nat.le_refl _, StepC.refl E _ C w, fun _ _ => rfl⟩, fun _ _ _ _ _ h => by cases h⟩
 | region rid ops dr =>
   refine ⟨fun E hE hm σ post hh C a w hi => ?_, fun _ _ _ _ _ h => by cases h⟩
   cases dr with
   | false =>
     have hh : ((lS E ops rid 0 ops.toList σ).bind fun σ' => .ret (Ex.normal, jK E.fl σ')).holds post := hh
     rw [T.ak] at hh
     have hh := T.aT (iZ hE ops.toList 0 σ hi.ok) hh
     refine wp_region_list (qc hE ops.toList 0 σ C a w hi hh fun C' σ' a' w' hp hi' hst hfr => ?_)
     exact ⟨_, C', hp.2, rfl, hi'.clr _, hp.1.2.1, hst, hfr⟩
   | true =>
     have hh : ((nU E ops rid σ).bind fun σ' => .ret (Ex.normal, jK E.fl σ')).holds post := hh
     rw [T.ak] at hh
     have hh := T.aT (yM hE hi.ok) hh
     exact GU hE hi hh (fun C' σ' a' w' hp hi' hst hfr => ⟨_, C', hp.2, rfl, hi'.clr _, hp.1.2.1, hst, hfr⟩) hm
 | seq x y ihx ihy =>
   refine ⟨fun E hE hm σ post hh C a w hi => ?_, fun rid ops rest o l hc hl E hE hm σ post hh C a w hi R hR => ?_⟩
   · have hh : (((aQ x).1 E σ).bind fun z => match z.1 with
       | .normal => (aQ y).1 E z.2
       | e => .ret (e, z.2)).holds post := hh
     rw [T.ak] at hh
     have hh := T.aT ((bO x).1 E hE σ hi.ok) hh
     refine wp_seq (wp_mono (ihx.1 E hE hm σ _ hh C a w hi) ?_)
     rintro e a1 w1 ⟨⟨ex, σ1⟩, C1, ⟨hg, hp⟩, rfl, hi1, hn1, hst1, hfr1⟩
     have hx : ∀ j, j ∉ bK (.seq x y) -> a1.tmps.getD j undef = a.tmps.getD j undef := fun j hj => hfr1 j fun h => hj (List.mem_append.2 (.inl h))
     cases ex with
     | normal => exact wp_mono (ihy.1 E hE hm σ1 _ hp C1 a1 w1 hi1) fun e a' w' h => uf.trans hi1.hk.wf hn1 hst1 hx (fun j hj => List.mem_append.2 (.inr hj)) h
     | exit id => exact ⟨_, C1, hp, rfl, hi1, hn1, hst1, hx⟩
     | ret => exact ⟨_, C1, hp, rfl, hi1, hn1, hst1, hx⟩
   · injection hc with h1 h2
     subst h1; subst h2
     have hh : ((oI E (.region rid ops false) σ).bind fun σ' => (aQ y).1 E (jK E.fl σ')).holds post := hh
     have hrt : oI E (.region rid ops false) σ = lS E ops rid 1 l σ := by
       show (match ops.toList with
         | _ :: l => lS E ops rid 1 l σ
         | [] => .fail) = _
       rw [hl]
     rw [hrt, T.ak] at hh
     have hh := T.aT (iZ hE l 1 σ hi.ok) hh
     refine qc hE l 1 σ C a w hi hh fun C1 σ1 a1 w1 hp hi1 hst1 hfr1 => ?_
     have hx : ∀ j, j ∉ bK (.seq (.region rid ops false) y) -> a1.tmps.getD j undef = a.tmps.getD j undef := fun j hj => hfr1 j fun h => hj (List.mem_append.2 (.inl (by
      show j ∈ dstsO ops.toList
      rw [hl]
      simp only [dstsO, List.mem_filterMap] at h ⊢
      obtain ⟨q, q1, q2⟩ := h
      exact ⟨q, by simp [q1], q2⟩)))
     exact wp_mono (ihy.1 E hE hm (jK E.fl σ1) _ hp.2 C1 a1 w1 (hi1.clr _)) fun e a' w' h => hR _ _ _ (uf.trans hi1.hk.wf hp.1.2.1 hst1 hx (fun j hj => List.mem_append.2 (.inr hj)) h)
 | cond c x y ihx ihy =>
   refine ⟨fun E hE hm σ post hh C a w hi => ?_, fun _ _ _ _ _ h => by cases h⟩
   have hh : T.holds post (match evC σ.sl c with
    | .kb q => bif q then (aQ x).1 E σ else (aQ y).1 E σ
    | _ => .fail) := hh
   split at hh
   · rename_i q hq
     have hr := Oj hi.hk.wf σ.sl a c fun t _ => hi.sl t
     rw [hq] at hr
     have hr : a.eval c = .bool q := hr
     refine wp_cond hr ?_
     cases q with
     | true =>
       rw [if_pos rfl]
       exact wp_mono (ihx.1 E hE hm σ _ hh C a w hi) fun e a' w' h => uf.trans hi.hk.wf (Nat.le_refl _) (StepC.refl E _ C w) (fun _ _ => rfl) (fun j hj => List.mem_append.2 (.inl hj)) h
     | false =>
       rw [if_neg (by simp)]
       exact wp_mono (ihy.1 E hE hm σ _ hh C a w hi) fun e a' w' h => uf.trans hi.hk.wf (Nat.le_refl _) (StepC.refl E _ C w) (fun _ _ => rfl) (fun j hj => List.mem_append.2 (.inr hj)) h
   · exact hh.elim
 | block id c ih =>
   refine ⟨fun E hE hm σ post hh C a w hi => ?_, fun _ _ _ _ _ h => by cases h⟩
   have hh : (((aQ c).1 E σ).bind fun x => match x.1 with
    | .exit k => bif Nat.beq k id then .ret (.normal, x.2) else .ret (.exit k, x.2)
    | e => .ret (e, x.2)).holds post := hh
   rw [T.ak] at hh
   refine wp_block (wp_mono (ih.1 E hE hm σ _ hh C a w hi) ?_)
   rintro e a1 w1 ⟨⟨ex, σ1⟩, C1, hp, rfl, hi1, hn1, hst1, hfr1⟩
   cases ex with
   | normal => exact ⟨_, C1, hp, rfl, hi1, hn1, hst1, hfr1⟩
   | exit k =>
     have hp : T.holds post (bif Nat.beq k id then T.ret (Ex.normal, σ1) else .ret (.exit k, σ1)) := hp
     by_cases hk : k = id
     · subst hk
       rw [Nat.beq_refl] at hp
       simp only [Exit.inBlock, Ex.Dv, if_true]
       exact ⟨_, C1, hp, rfl, hi1, hn1, hst1, hfr1⟩
     · have : Nat.beq k id = false := by
         cases hb : Nat.beq k id with
         | false => rfl
         | true => exact absurd (Nat.eq_of_beq_eq_true hb) hk
       rw [this] at hp
       simp only [Exit.inBlock, Ex.Dv, hk, if_false]
       exact ⟨_, C1, hp, rfl, hi1, hn1, hst1, hfr1⟩
   | ret => exact ⟨_, C1, hp, rfl, hi1, hn1, hst1, hfr1⟩
 | loop c ih =>
   refine ⟨fun E hE hm σ => ?_, fun _ _ _ _ _ h => by cases h⟩
   show AJ E (.loop c) (bK c) σ (match qE c with
    | some (t, d) => jr c (aQ c).2 E σ t d
    | none => pz ((aQ c).1 E) E.fuel σ)
   split
   · rename_i t d hh
     obtain ⟨rid, ops, rest, o, l, rfl, hl, ho, hg, hd⟩ := JZ hh
     exact Ea hE hm hl ho hg hd (ih.2 _ _ _ _ _ rfl hl) (bO _).2 σ
   · exact Ki (fun σ => ih.1 E hE hm σ) _ σ
 | exit id =>
   refine ⟨fun E hE hm σ post hh C a w hi => wp_exit ⟨_, C, hh, rfl, hi, Nat.le_refl _, StepC.refl E _ C w, fun _ _ => rfl⟩, fun _ _ _ _ _ h => by cases h⟩
 | ret =>
   refine ⟨fun E hE hm σ post hh C a w hi => wp_ret ⟨_, C, hh, rfl, hi, Nat.le_refl _, StepC.refl E _ C w, fun _ _ => rfl⟩, fun _ _ _ _ _ h => by cases h⟩
 | _ => exact ⟨fun E hE hm σ post hh => hh.elim, fun _ _ _ _ _ h => by cases h⟩
theorem ES (P : Program) (g : Nat -> Option Ob) (t : TypeId) (p : SV) : (fV P g t p).det = true := by
 unfold fV
 repeat' split
 all_goals first
  | exact BQ _ _ _ _
  | rfl
  | (cases (Nat.beq _ _ && _) <;> rfl)
theorem Qh (P : Program) (σ : CS) (r : ResultVar) : (Bq P σ r).det = true := by
 cases r with
 | tmp t => rfl
 | cell a t => exact T.fA (fun s => rfl) _ (ES _ _ _ _)
theorem EF (P : Program) (σ : CS) : ∀ l : List ResultVar, (vU P σ l).det = true
 | [] => rfl
 | r :: l => T.fA (fun s => T.fA (fun ss => rfl) _ (EF P σ l)) _ (Qh P σ r)
theorem Br (P : Program) (fn : Func) (σ : CS) : (vT P fn σ).det = true :=
 T.fA (fun ss => by split <;> rfl) _ (EF P σ _)
theorem JU {P : Program} {C : Ctx} {σ : CS} {a : Act} {w : World} (hob : ObsOk C w σ.h.obj) (hsl : ∀ j, rel C w (σ.sl j) (a.tmps.getD j undef)) (r : ResultVar) {s : SV} (hok : (Bq P σ r).ok) (hv : (Bq P σ r).val = some s) :
  ∃ v, ((match r with
    | .tmp t => pure (a.tmps.getD t undef)
    | .cell b t => do loadVar t (← asAddr (a.tmps.getD b undef)) : Sem Value)).run P w = .ok v w /\ rel C w s v := by
 cases r with
 | tmp t =>
   simp only [Bq, T.val, Option.some.injEq] at hv
   subst hv
   exact ⟨_, rfl, Cj (hsl t)⟩
 | cell b t =>
   simp only [Bq] at hok hv
   obtain ⟨s', hs', hv⟩ := T.bS hv
   have hok := (T.bind_ok hok).1
   simp only [T.val, Option.some.injEq] at hv
   subst hv
   obtain ⟨v, h1, h2⟩ := yX (P := P) hob t (σ.sl b) s' (a.tmps.getD b undef) (hsl b) hok hs'
   refine ⟨v, ?_, Cj h2⟩
   show (do loadVar t (← asAddr (a.tmps.getD b undef)) : Sem Value).run P w = _
   revert h1
   generalize a.tmps.getD b undef = u
   intro h1
   cases u with
   | pointer ad =>
     cases ad with
     | none => simp [Instr.loadAt, Instr.sureAddr] at h1
     | some ad => simpa [Instr.loadAt, Instr.sureAddr, asAddr] using h1
   | _ => simp [Instr.loadAt, Instr.sureAddr] at h1
theorem yP {P : Program} {C : Ctx} {σ : CS} {a : Act} {w : World} (hob : ObsOk C w σ.h.obj) (hsl : ∀ j, rel C w (σ.sl j) (a.tmps.getD j undef)) : ∀ (l : List ResultVar) {ss : List SV}, (vU P σ l).ok -> (vU P σ l).val = some ss ->
  ∃ vs : List Value, (l.mapM (fun r => (match r with
    | .tmp t => pure (a.tmps.getD t undef)
    | .cell b t => do loadVar t (← asAddr (a.tmps.getD b undef)) : Sem Value))).run P w = .ok vs w /\ relL C w ss vs
 | [], ss, _, hv => by
   simp only [vU, T.val, Option.some.injEq] at hv
   subst hv
   exact ⟨[], by simp, rfl⟩
 | r :: l, ss, hok, hv => by
   simp only [vU] at hok hv
   obtain ⟨s, h1, hv⟩ := T.bS hv
   obtain ⟨k1, k2⟩ := T.bind_ok hok
   have k2 := k2 s h1
   obtain ⟨ss', h2, hv⟩ := T.bS hv
   have k3 := (T.bind_ok k2).1
   simp only [T.val, Option.some.injEq] at hv
   subst hv
   obtain ⟨v, e1, e2⟩ := JU hob hsl r k1 h1
   obtain ⟨vs, e3, e4⟩ := yP hob hsl l k3 h2
   refine ⟨v :: vs, ?_, v, vs, rfl, e2, e4⟩
   rw [List.mapM_cons, Sem.run_bind]
   rw [e1]
   simp only [Result.andThen_ok, Sem.run_bind, e3, Sem.run_pure]
theorem Bt {P : Program} {C : Ctx} {σ : CS} {a : Act} {w : World} (hob : ObsOk C w σ.h.obj) (hsl : ∀ j, rel C w (σ.sl j) (a.tmps.getD j undef)) (fn : Func) {s : SV} (hok : (vT P fn σ).ok) (hv : (vT P fn σ).val = some s) :
  ∃ v, (results fn a.tmps).run P w = .ok v w /\ rel C w s v := by
 unfold vT at hok hv
 obtain ⟨ss, h1, hv⟩ := T.bS hv
 obtain ⟨k1, k2⟩ := T.bind_ok hok
 obtain ⟨vs, e1, e2⟩ := yP hob hsl fn.results.toList k1 h1
 have hl := aV e2
 have hrun : (results fn a.tmps).run P w = .ok (if h : vs.toArray.size = 1 then vs.toArray[0] else .tuple vs.toArray) w := by
  unfold results
  rw [Sem.run_bind, Array.mapM_eq_mapM_toList, Sem.run_map]
  refine (congrArg (fun r : Result (List Value) => (r.andThen fun a w' => Result.ok (List.toArray a) w').andThen _) e1).trans ?_
  rfl
 rw [hrun]
 refine ⟨_, rfl, ?_⟩
 match ss, vs, hl, e2, hv with
 | [s'], [v], _, e2, hv =>
   simp only [T.val, Option.some.injEq] at hv
   subst hv
   obtain ⟨v', r, e, h3, _⟩ := e2
   simp only [List.cons.injEq] at e
   obtain ⟨rfl, rfl⟩ := e
   exact h3
 | [], [], _, e2, hv =>
   simp only [T.val, Option.some.injEq] at hv
   subst hv
   exact ⟨[], rfl, e2⟩
 | s1 :: s2 :: ss, v1 :: v2 :: vs, hl, e2, hv =>
   simp only [T.val, Option.some.injEq] at hv
   subst hv
   exact ⟨_, by simp, e2⟩
theorem GR (h : HS) : h.cut.Ok := by
 intro i hi
 have hi : h.nob <= i := hi
 show (bif Nat.blt i h.nob then h.obj i else none) = none
 have : Nat.blt i h.nob = false := by
  cases hb : Nat.blt i h.nob with
  | false => rfl
  | true => simp only [Nat.blt_eq] at hb; omega
 rw [this]; rfl
theorem N9 {top : Nat} {h : HS} {C : Ctx} {w : World} (hk : HOk top h C w) : HOk top h.cut C w := ⟨hk.wf, fun i ob hob => by
 have hob : (bif Nat.blt i h.nob then h.obj i else none) = some ob := hob
 cases hb : Nat.blt i h.nob with
 | false => rw [hb] at hob; cases hob
 | true => rw [hb] at hob; exact hk.ob i ob hob, hk.nb⟩
theorem Ez {C : Ctx} {w : World} {al : List SV} {vs : List Value} (h : relL C w al vs) (n j : Nat) : rel C w (al.getD j .junk) ((vs.toArray ++ Array.replicate n undef).getD j undef) := by
 rw [List.getD_eq_getElem?_getD]
 cases ha : al[j]? with
 | none => trivial
 | some s =>
   obtain ⟨v, hv, hr⟩ := bA j s h ha
   have hjl : j < vs.length := (List.getElem?_eq_some_iff.1 hv).1
   have e : (vs.toArray ++ Array.replicate n undef).getD j undef = v := by
    rw [Array.getD_eq_getD_getElem?, Array.getElem?_append_left (by simpa using hjl)]
    simp [hv]
   rw [e]
   exact hr
def dW (P : Program) (f : FuncId) (s : Summ) : Prop :=
 ∀ (C : Ctx) (w : World) (g : Nat -> Option Ob) (al : List SV) (vs : List Value) (new : Nat) (post : Res -> Prop), WF C w -> ObsOk C w g -> (∀ r, post r -> ∀ i ∈ r.eff.new, C.ν i = none) -> relL C w al vs ->
   (s.run al g new f).holds post -> callable P f = true /\ Calls P f vs.toArray w fun e w' => ∃ v C' r, e = .returned v /\ post r /\ Came C w r C' w' v
def Deps.Ok (D : Deps) : Prop := (∀ f s, D.F f = some s -> dW D.P f s) /\ D.P.follows .mixedOrders = true
theorem Vj {P : Program} {s : Summ} {f : FuncId} (hs : dW P f s) (top base : Nat) (al : List SV) (h : HS) (hh0 : h.Ok) : RunOk P (fun i => base <= i /\ i < top) top f al h (Lf P top base s f al h) /\
  (Lf P top base s f al h).good fun y => y.2.Ok /\ h.nob <= y.2.nob /\ y.2.nob <= max top h.nob := by
 unfold Lf
 generalize hE : (⟨P, 0, fun _ _ => none, fun _ _ _ _ _ => .fail, top, base, fun _ => 0, 0, 0⟩ : CEnv) = E
 have e1 : E.top = top := by rw [← hE]
 have e2 : E.base = base := by rw [← hE]
 have hEo : E.Ok := by
  rw [← hE]
  exact ⟨fun _ _ _ h => (by cases h), fun _ _ _ _ _ _ _ _ _ _ _ hh => hh.elim, fun _ _ _ _ _ _ => trivial⟩
 refine ⟨fun C w vs post hk hargs hh => ?_, by rw [← e1]; exact ng hEo hh0 _⟩
 rw [← e1] at hk
 unfold lift at hh
 cases hd : (s.run (al.map nrm) h.obj h.nob f).det with
 | false => rw [hd] at hh; exact hh.elim
 | true =>
   rw [hd, cond_true, T.ak] at hh
   have hh2 := T.aD (q := fun r => jC E h r.eff = true /\ post (r.sv, h.eff r.eff)) (fun r hr => by
    cases hb : jC E h r.eff with
    | false => rw [hb] at hr; exact hr.elim
    | true => rw [hb] at hr; exact ⟨rfl, hr⟩) _ hh
   have hrl : relL C w (al.map nrm) vs := by
    clear hh hh2 hd hk
    induction al generalizing vs with
    | nil => exact hargs
    | cons x l ih =>
      obtain ⟨v, r, rfl, h1, h2⟩ := hargs
      exact ⟨v, r, rfl, bg h1, ih _ h2⟩
   obtain ⟨hc, hcalls⟩ := hs C w h.obj (al.map nrm) vs h.nob _ hk.wf hk.ob (fun r hr i hi => by
    obtain ⟨q1, q2, _⟩ := nW hr.1
    have := dO q1 hi
    exact hk.nb i this.1 (by omega)) hrl hh2
   refine ⟨hc, hcalls.mono ?_⟩
   rintro e w' ⟨v, C', r, rfl, hp, hcame⟩
   obtain ⟨q1, q2, q3⟩ := Came.hok hk hcame hp.1
   refine ⟨v, C', (r.sv, h.eff r.eff), rfl, hp.2, ?_, by rw [← e1]; exact q1, hcame.rel, by rw [← e1]; exact q3⟩
   have : E.X = fun i => base <= i /\ i < top := by
    funext i
    show (E.base <= i /\ i < E.top) = _
    rw [e1, e2]
   rw [← this]
   exact q2
theorem ig {D : Deps} (hD : D.Ok) : ∀ (n top base : Nat) (f : FuncId) (al : List SV) (h : HS), RunOk D.P (fun i => base <= i /\ i < top) top f al h (q9 D n top base f al h) /\
  (q9 D n top base f al h).good fun y => y.2.Ok /\ h.nob <= y.2.nob /\ y.2.nob <= max top h.nob
 | 0, top, base, f, al, h => ⟨fun _ _ _ _ _ _ hh => hh.elim, trivial⟩
 | n + 1, top, base, f, al, h => by
   unfold q9
   split
   · rename_i s hs
     obtain ⟨k1, k2⟩ := Vj (hD.1 f s hs) top base al h.cut (GR h)
     exact ⟨fun C w vs post hk hargs hh => k1 C w vs post (N9 hk) hargs hh, k2⟩
   split
   · rename_i fn hf
     split
     · rename_i c hb
       cases hc : (callable D.P f && Nat.ble al.length fn.ntmps) with
       | false => exact ⟨fun _ _ _ _ _ _ hh => hh.elim, trivial⟩
       | true =>
         rw [cond_true]
         simp only [Bool.and_eq_true] at hc
         obtain ⟨hc1, hc2⟩ := hc
         have hc2 := Nat.le_of_ble_eq_true hc2
         let E : CEnv := ⟨D.P, fn.ntmps, fun _ _ => none, q9 D n, top, base, D.win f n, D.fuel, D.fl f⟩
         have hE : E.Ok := ⟨fun rid i s hs => (by cases hs), fun top base f al h => (ig hD n top base f al h).1, fun top base f al h hh => (ig hD n top base f al h).2⟩
         refine ⟨fun C w vs post hk hargs hh => ⟨hc1, ?_⟩, ?_⟩
         · rw [T.ak] at hh
           have hlen := aV hargs
           have hinv0 : InvC E C ⟨fun j => al.getD j .junk, h.cut⟩ { tmps := vs.toArray ++ Array.replicate (fn.ntmps - vs.toArray.size) undef, defers := [] } w :=
            ⟨N9 hk, GR h, by
               show (vs.toArray ++ Array.replicate (fn.ntmps - vs.toArray.size) undef).size = fn.ntmps
               simp; omega, rfl, fun j => Ez hargs _ j⟩
           have hinv := hinv0.clr (D.fl f)
           refine calls_of_wp hf hb (wp_mono ((jW c).1 E hE hD.2 _ _ hh C _ w hinv) ?_)
           rintro e a' w' ⟨⟨ex, σ'⟩, C', hp, rfl, hi, hn, hst, hfr⟩
           have fin : ((vT D.P fn σ').bind fun s => T.ret (s, σ'.h)).holds post -> a'.defers = [] /\ ∃ v, (results fn a'.tmps).run D.P w' = .ok v w' /\ ∃ v' C'' y, Ending.returned v = .returned v' /\ post y /\ Step (fun i => base <= i /\ i < top) C w C'' w' /\ HOk top y.2 C'' w' /\ rel C'' w' y.1 v' /\ ∀ i, i < h.nob ∨ top <= i -> C''.ν i = C.ν i := by
            intro hp
            rw [T.ak, T.bH _ (Br _ _ _)] at hp
            obtain ⟨hok, s, hval, hp⟩ := hp
            obtain ⟨v, hrun, hr⟩ := Bt hi.hk.ob hi.sl fn hok hval
            exact ⟨hi.df, v, hrun, v, C', (s, σ'.h), rfl, hp, hst.st, hi.hk, hr, hst.tp⟩
           cases ex with
           | normal => exact fin hp
           | exit id => exact hp.elim
           | ret => exact fin hp
         · refine T.bf (fun y hy => ?_) _ ((bO c).1 E hE (jK (D.fl f) ⟨fun j => al.getD j .junk, h.cut⟩) (GR h))
           obtain ⟨ex, σ'⟩ := y
           have fin : ((vT D.P fn σ').bind fun s => T.ret (s, σ'.h)).good fun y => y.2.Ok /\ h.nob <= y.2.nob /\ y.2.nob <= max top h.nob := by
            refine T.bf (p := fun _ => True) ?_ _ (T.jD _ (Br _ _ _))
            intro s _
            exact hy
           cases ex with
           | normal => exact fin
           | exit id => trivial
           | ret => exact fin
     · exact ⟨fun _ _ _ _ _ _ hh => hh.elim, trivial⟩
   · exact ⟨fun _ _ _ _ _ _ hh => hh.elim, trivial⟩
end Rx
