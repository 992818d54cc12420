/- What is collected is as it was; collected again it stays as it is: the plain law. -/
import Derived.Test.YtfpnadmpmfcaaaaHpP
open Rx Go
namespace Go.Proofs.Ytfpnadmpmfcaaaa

/-- a thing, its words turned -/
def newB (l : List Wd) (K : List Nat) (k : Nat) : List Wd := (List.range (sz l k)).map fun t => if fr l k ≤ t then imgW l K (l.getD (k + t) default) else l.getD (k + t) default
theorem newB_length (l : List Wd) (K : List Nat) (k : Nat) : (newB l K k).length = sz l k := by simp [newB]
theorem newB_get (l : List Wd) (K : List Nat) {k t : Nat} (h : t < sz l k) : (newB l K k).getD t default = if fr l k ≤ t then imgW l K (l.getD (k + t) default) else l.getD (k + t) default := by
  unfold newB
  rw [List.getD_eq_getElem?_getD, List.getElem?_map, List.getElem?_range h]
  rfl
def gBs (l : List Wd) (K ks : List Nat) : List (List Wd) := ks.map (newB l K)
theorem gBs_length {l : List Wd} {K : List Nat} : ∀ {ks : List Nat}, (∀ k ∈ ks, spP l k) → (gBs l K ks).flatten.length = (rawTo l ks).length
  | [], _ => rfl
  | k :: ks, h => by
    have ih := gBs_length (K := K) (ks := ks) fun x hx => h x (by simp [hx])
    unfold gBs at ih ⊢
    rw [List.map_cons, List.flatten_cons, List.length_append, newB_length, ih, rawTo_cons, List.length_append, blkAt_length (h k (by simp))]
theorem gBs_at {l : List Wd} {K a b : List Nat} {k t : Nat} (hk : ∀ x ∈ a, spP l x) (ht : t < sz l k) : (gBs l K (a ++ k :: b)).flatten.getD ((rawTo l a).length + t) default = (newB l K k).getD t default := by
  have hl := gBs_length (K := K) hk
  unfold gBs at hl ⊢
  rw [List.map_append, List.flatten_append, List.getD_eq_getElem?_getD, List.getElem?_append_right (by omega), hl, Nat.add_sub_cancel_left, List.map_cons, List.flatten_cons, List.getElem?_append_left (by rw [newB_length]; exact ht), List.getD_eq_getElem?_getD]
/-- all that is kept, thing by thing -/
theorem cook_bs {l : List Wd} {K : List Nat} (h : ∀ k ∈ K, spP l k) : cook l K (rawTo l K).length = (gBs l K K).flatten := by
  apply List.ext_getElem?
  intro q
  by_cases hq : q < (rawTo l K).length
  · have e1 : (cook l K (rawTo l K).length)[q]? = some ((cook l K (rawTo l K).length).getD q default) := by
      rw [List.getD_eq_getElem?_getD, List.getElem?_eq_getElem (by rw [cook_length]; exact hq)]; rfl
    have e2 : ((gBs l K K).flatten)[q]? = some ((gBs l K K).flatten.getD q default) := by
      rw [List.getD_eq_getElem?_getD, List.getElem?_eq_getElem (by rw [gBs_length h]; exact hq)]; rfl
    rw [e1, e2, cook_get _ _ _ hq]
    congr 1
    obtain ⟨a, k, b, t, hK, ht, rfl⟩ := place h hq
    have hka : ∀ x ∈ a, spP l x := fun x hx => h x (by rw [hK]; simp [hx])
    have hks : spP l k := h k (by rw [hK]; simp)
    obtain ⟨e3, e4⟩ := at_blk (ks := a) (ks' := b) hka hks ht
    rw [← hK] at e3 e4
    have e5 := gBs_at (K := K) (b := b) hka ht
    rw [← hK] at e5
    rw [e5, newB_get _ _ ht, e3, e4]
    by_cases hf : fr l k ≤ t
    · rw [if_pos ⟨hq, decide_eq_true hf⟩, if_pos hf]
    · rw [if_neg (fun h => hf (of_decide_eq_true h.2)), if_neg hf]
  · rw [List.getElem?_eq_none (by rw [cook_length]; omega), List.getElem?_eq_none (by rw [gBs_length h]; omega)]

section
variable {d : Bd} (hb : BI d)
include hb
/-- a word of what was built -/
theorem word_vOk {k : Nat} (hk : k ∈ offs d.bs 0) {t : Nat} (h1 : fr d.ws k ≤ t) (h2 : t < sz d.ws k) : vOk d.bs (d.ws.getD (k + t) default) := by
  have key : ∀ (bs : List (List Wd)) (p : List Wd), (∀ b ∈ bs, isBlk b) → k ∈ offs bs p.length → ∃ b ∈ bs, spFrom (p ++ bs.flatten) k = spFrom b 0 ∧ spSize (p ++ bs.flatten) k = b.length ∧ ∀ t, t < b.length → (p ++ bs.flatten).getD (k + t) default = b.getD t default := by
    intro bs
    induction bs with
    | nil => intro p _ h; cases h
    | cons b bs ih =>
      intro p hb h
      have e : p ++ (b :: bs).flatten = p ++ b ++ bs.flatten := by simp
      rw [e]
      simp only [offs, List.mem_cons] at h
      rcases h with rfl | h
      · obtain ⟨g1, g2, g3, g4⟩ := blk_at (p := p) (r := bs.flatten) (hb b (by simp))
        refine ⟨b, by simp, g3, g2, fun t ht => ?_⟩
        rw [List.getD_eq_getElem?_getD, List.getD_eq_getElem?_getD, List.append_assoc, List.getElem?_append_right (by omega), Nat.add_sub_cancel_left, List.getElem?_append_left ht]
      · obtain ⟨b', hb', g1, g2, g3⟩ := ih (p ++ b) (fun x hx => hb x (by simp [hx])) (by rw [List.length_append]; exact h)
        exact ⟨b', by simp [hb'], g1, g2, g3⟩
  obtain ⟨b, hbm, g1, g2, g3⟩ := key d.bs [] hb.blk (by simpa using hk)
  rw [List.nil_append] at g1 g2 g3
  have e1 : fr d.ws k = (spFrom b 0).toNat := by unfold fr; rw [show spFrom d.ws k = spFrom b 0 from g1]
  have e2 : sz d.ws k = b.length := by unfold sz; rw [show spSize d.ws k = b.length from g2]; simp
  rw [show d.ws.getD (k + t) default = b.getD t default from g3 t (by omega)]
  apply hb.val b hbm
  unfold wordsOf
  have : b.getD t default = (b.drop (spFrom b 0).toNat).getD (t - (spFrom b 0).toNat) default := by
    rw [List.getD_eq_getElem?_getD, List.getD_eq_getElem?_getD, List.getElem?_drop]
    congr 2
    omega
  rw [this, List.getD_eq_getElem?_getD, List.getElem?_eq_getElem (by rw [List.length_drop]; omega)]
  exact List.getElem_mem _
theorem acc_offs {k : Nat} (h : k ∈ (startsS d.ws).getD []) : k ∈ offs d.bs 0 := by
  have hs : startsS d.ws = some (offs d.bs 0) := starts_blocks hb.blk
  rwa [hs] at h
end
theorem offs_at : ∀ (bs cs : List (List Wd)) (b : List Wd) (o : Nat), o + bs.flatten.length ∈ offs (bs ++ b :: cs) o
  | [], cs, b, o => by simp [offs]
  | x :: bs, cs, b, o => by
    have := offs_at bs cs b (o + x.length)
    rw [List.cons_append, offs, List.flatten_cons, List.length_append, ← Nat.add_assoc]
    exact List.mem_cons_of_mem _ this

/-- a collection of what was built, from roots that were made -/
structure Col (d : Bd) (rs : List Wd) : Prop where
  bi : BI d
  len : d.ws.length ≤ 150
  rt : ∀ r ∈ rs, r ∈ d.ms
def Kk (d : Bd) (rs : List Wd) : List Nat := kept d.ws rs
def gB (d : Bd) (rs : List Wd) : Bd := ⟨gBs d.ws (Kk d rs) (Kk d rs), ⟨1, 0, noS⟩ :: colR d.ws rs⟩
section
variable {d : Bd} {rs : List Wd} (h : Col d rs)
include h
theorem Col.check : checkB d.ws 600 = true := bi_check h.bi (by omega) (by omega) (by have := h.len; omega)
theorem Col.all : rs.all (valOk d.ws) = true := ms_all h.bi h.rt
theorem Col.ki : KI d.ws (Kk d rs) (rawTo d.ws (Kk d rs)).length := (kept_ki h.check h.all).1
theorem Col.known : ∀ r ∈ rs, known d.ws (Kk d rs) r := (kept_ki h.check h.all).2
theorem Col.sp : ∀ k ∈ Kk d rs, spP d.ws k := h.ki.sp
theorem Col.off : ∀ k ∈ Kk d rs, k ∈ offs d.bs 0 := fun k hk => acc_offs h.bi (h.ki.mem k hk).1
theorem Col.g : colW d.ws rs = (gB d rs).ws := cook_bs h.sp
theorem Col.glen : (gB d rs).ws.length ≤ d.ws.length := by
  rw [← h.g]
  unfold colW
  rw [cook_length]
  exact rawTo_le h.ki
/-- a value's image may be -/
theorem Col.img {w : Wd} (hv : vOk d.bs w) (hk : Go.Proofs.Ytfpnadmpmfcaaaa.known d.ws (Kk d rs) w) : vOk (gB d rs).bs (imgW d.ws (Kk d rs) w) := by
  have hf := bi_find h.bi hv
  unfold imgW
  rw [hf]
  by_cases h5 : w.k = 5
  · rw [if_pos h5]
    have hk := hk
    unfold Go.Proofs.Ytfpnadmpmfcaaaa.known at hk
    rw [hf] at hk
    obtain ⟨k1, k2⟩ := hk h5
    obtain ⟨a, b, hab⟩ := List.append_of_mem k1
    have hna : w.n.toNat ∉ a := fun hm => by
      have hn := h.ki.nd
      rw [hab, List.nodup_append] at hn
      exact hn.2.2 _ hm _ (by simp) rfl
    have hka : ∀ x ∈ a, spP d.ws x := fun x hx => h.sp x (by rw [hab]; simp [hx])
    have e : ((w.n.toNat : Nat) : Int) = w.n := Int.toNat_of_nonneg k2
    have := mvGet_at (b := b) hka hna
    rw [← hab, e] at this
    rw [this]
    refine ⟨hv.1, .inr (.inr ⟨h5, (rawTo d.ws a).length, ?_, rfl⟩)⟩
    have hl := gBs_length (K := Kk d rs) hka
    have := offs_at (gBs d.ws (Kk d rs) a) (gBs d.ws (Kk d rs) b) (newB d.ws (Kk d rs) w.n.toNat) 0
    rw [hl, Nat.zero_add] at this
    unfold gB
    simp only
    have e2 : gBs d.ws (Kk d rs) (Kk d rs) = gBs d.ws (Kk d rs) a ++ newB d.ws (Kk d rs) w.n.toNat :: gBs d.ws (Kk d rs) b := by
      conv => lhs; rw [show gBs d.ws (Kk d rs) (Kk d rs) = gBs d.ws (Kk d rs) (a ++ w.n.toNat :: b) from by rw [← hab]]
      simp [gBs]
    rw [e2]
    exact this
  · rw [if_neg h5]
    obtain ⟨v1, v2⟩ := hv
    refine ⟨v1, ?_⟩
    rcases v2 with v2 | v2 | v2
    · exact .inl v2
    · exact .inr (.inl v2)
    · exact absurd v2.1 h5
/-- a word of a thing that is kept: it may be, and where it leads is kept -/
theorem Col.word {k : Nat} (hk : k ∈ Kk d rs) {t : Nat} (h1 : fr d.ws k ≤ t) (h2 : t < sz d.ws k) : vOk d.bs (d.ws.getD (k + t) default) ∧ Go.Proofs.Ytfpnadmpmfcaaaa.known d.ws (Kk d rs) (d.ws.getD (k + t) default) := by
  refine ⟨word_vOk h.bi (h.off k hk) h1 h2, ?_⟩
  obtain ⟨a, b, hab⟩ := List.append_of_mem hk
  have hka : ∀ x ∈ a, spP d.ws x := fun x hx => h.sp x (by rw [hab]; simp [hx])
  obtain ⟨e1, e2⟩ := at_blk (ks := a) (ks' := b) hka (h.sp k hk) h2
  rw [← hab] at e1 e2
  have := h.ki.kn ((rawTo d.ws a).length + t) ?_ (by rw [e2]; exact decide_eq_true h1)
  · rwa [e1] at this
  · conv => rhs; rw [show rawTo d.ws (Kk d rs) = rawTo d.ws (a ++ k :: b) from by rw [← hab]]
    rw [rawTo_app, rawTo_cons, List.length_append, List.length_append, blkAt_length (h.sp k hk)]
    omega
theorem Col.isBlk {k : Nat} (hk : k ∈ Kk d rs) : isBlk (newB d.ws (Kk d rs) k) ∧ spFrom (newB d.ws (Kk d rs) k) 0 = spFrom d.ws k := by
  have hs := h.sp k hk
  obtain ⟨s1, s2, s3, s4, s5, s6⟩ := sp_sz hs
  obtain ⟨g1, g2, g3⟩ := sp_frame (L := newB d.ws (Kk d rs) k) (a := 0) hs (fun t ht => by
    rw [Nat.zero_add, newB_get _ _ (by omega), if_neg (by omega)]) (by rw [newB_length]; omega)
  have g2 : spSize (newB d.ws (Kk d rs) k) 0 = spSize d.ws k := g2
  exact ⟨⟨g1, by rw [g2, newB_length]; exact s5.symm⟩, g3⟩
/-- what is collected is as if it was built -/
theorem Col.gbi : BI (gB d rs) := by
  refine ⟨fun b hb => ?_, fun b hb w hw => ?_, fun w hw => ?_, by simp [gB]⟩
  · obtain ⟨k, hk, rfl⟩ := List.mem_map.1 hb
    exact (h.isBlk hk).1
  · obtain ⟨k, hk, rfl⟩ := List.mem_map.1 hb
    obtain ⟨s1, s2, s3, s4, s5, s6⟩ := sp_sz (h.sp k hk)
    unfold wordsOf at hw
    rw [(h.isBlk hk).2] at hw
    have hw' : w ∈ (newB d.ws (Kk d rs) k).drop (fr d.ws k) := hw
    obtain ⟨i, hi⟩ := List.getElem?_of_mem hw'
    rw [List.getElem?_drop] at hi
    have hlt : fr d.ws k + i < sz d.ws k := by
      have := (List.getElem?_eq_some_iff.1 hi).1
      rwa [newB_length] at this
    have : w = (newB d.ws (Kk d rs) k).getD (fr d.ws k + i) default := by rw [List.getD_eq_getElem?_getD, hi]; rfl
    rw [this, newB_get _ _ hlt, if_pos (by omega)]
    obtain ⟨w1, w2⟩ := h.word hk (show fr d.ws k ≤ fr d.ws k + i by omega) hlt
    exact h.img w1 w2
  · have hw : w ∈ (⟨1, 0, noS⟩ : Wd) :: colR d.ws rs := hw
    rcases List.mem_cons.1 hw with rfl | hw
    · exact ⟨rfl, .inl ⟨rfl, by decide, by decide⟩⟩
    · obtain ⟨r, hr, rfl⟩ := List.mem_map.1 hw
      exact h.img (h.bi.mv r (h.rt r hr)) (h.known r hr)
theorem Col.again : Col (gB d rs) (colR d.ws rs) := ⟨h.gbi, by have := h.glen; have := h.len; omega, fun r hr => List.mem_cons_of_mem _ hr⟩
end
/-! ## collected again -/
def phi (d : Bd) (rs : List Wd) (k : Nat) : Nat := ((mvGet (mpF d.ws (Kk d rs) 0) k).getD 0).toNat
theorem runS_step' {l : List Wd} {ks : List Nat} {p : Nat} (hl : (rawTo l ks).length ≤ l.length) (hp : p < (rawTo l ks).length) : runS l ks p = runS l (if valAt l ks p = true then addK l ks (rawAt l ks p) else ks) (p + 1) := by
  unfold runS
  rw [show l.length + 1 - p = (l.length + 1 - (p + 1)) + 1 by omega, runK, if_pos hp]
theorem foldl_ext (l : List Wd) : ∀ (rs : List Wd) (ks : List Nat), ∃ x, rs.foldl (addK l) ks = ks ++ x
  | [], ks => ⟨[], by simp⟩
  | r :: rs, ks => by
    obtain ⟨x, hx⟩ := addK_ext l ks r
    obtain ⟨y, hy⟩ := foldl_ext l rs (addK l ks r)
    exact ⟨x ++ y, by rw [List.foldl_cons, hy, hx, List.append_assoc]⟩
section
variable {d : Bd} {rs : List Wd} (h : Col d rs)
include h
theorem Col.phi_at {a b : List Nat} {k : Nat} (hK : Kk d rs = a ++ k :: b) : phi d rs k = (rawTo d.ws a).length := by
  have hka : ∀ x ∈ a, spP d.ws x := fun x hx => h.sp x (by rw [hK]; simp [hx])
  have hna : k ∉ a := fun hm => by
    have hn := h.ki.nd
    rw [hK, List.nodup_append] at hn
    exact hn.2.2 _ hm _ (by simp) rfl
  have := mvGet_at (b := b) hka hna
  rw [← hK] at this
  unfold phi
  rw [this]
  simp
theorem Col.phi_inj {k k' : Nat} (hk : k ∈ Kk d rs) (hk' : k' ∈ Kk d rs) (e : phi d rs k = phi d rs k') : k = k' := by
  obtain ⟨x, hx⟩ := Option.isSome_iff_exists.1 ((mvGet_mem d.ws (Kk d rs) 0 (k : Int)).2 ⟨by simpa using hk, by omega⟩)
  obtain ⟨y, hy⟩ := Option.isSome_iff_exists.1 ((mvGet_mem d.ws (Kk d rs) 0 (k' : Int)).2 ⟨by simpa using hk', by omega⟩)
  have gx := mvGet_ge _ _ _ _ _ hx
  have gy := mvGet_ge _ _ _ _ _ hy
  unfold phi at e
  rw [hx, hy] at e
  simp only [Option.getD_some] at e
  have : x = y := by omega
  subst this
  have := mvGet_inj (Kk d rs) 0 _ _ _ h.sp hx hy
  omega
theorem Col.img_ref {w : Wd} (hv : vOk d.bs w) (hk : Go.Proofs.Ytfpnadmpmfcaaaa.known d.ws (Kk d rs) w) (h5 : w.k = 5) : imgW d.ws (Kk d rs) w = ⟨5, phi d rs w.n.toNat, w.s⟩ ∧ w.n.toNat ∈ Kk d rs ∧ 0 ≤ w.n := by
  have hf := bi_find h.bi hv
  unfold Go.Proofs.Ytfpnadmpmfcaaaa.known at hk
  rw [hf] at hk
  obtain ⟨k1, k2⟩ := hk h5
  refine ⟨?_, k1, k2⟩
  unfold imgW
  rw [hf, if_pos h5]
  have e : ((w.n.toNat : Nat) : Int) = w.n := Int.toNat_of_nonneg k2
  obtain ⟨x, hx⟩ := Option.isSome_iff_exists.1 ((mvGet_mem d.ws (Kk d rs) 0 w.n).2 ⟨k1, k2⟩)
  have gx := mvGet_ge _ _ _ _ _ hx
  unfold phi
  rw [e, hx, h5]
  simp only [Option.getD_some, Wd.mk.injEq, true_and, and_true]
  omega
theorem Col.img_other {w : Wd} (hv : vOk d.bs w) (h5 : w.k ≠ 5) : imgW d.ws (Kk d rs) w = w := by
  have hf := bi_find h.bi hv
  unfold imgW
  rw [hf, if_neg h5]
theorem Col.add {ks : List Nat} (hs : ∀ k ∈ ks, k ∈ Kk d rs) {w : Wd} (hv : vOk d.bs w) (hk : Go.Proofs.Ytfpnadmpmfcaaaa.known d.ws (Kk d rs) w) :
    addK (gB d rs).ws (ks.map (phi d rs)) (imgW d.ws (Kk d rs) w) = (addK d.ws ks w).map (phi d rs) := by
  have hf := bi_find h.bi hv
  have hf' := bi_find h.gbi (h.img hv hk)
  unfold addK
  rw [hf, hf']
  by_cases h5 : w.k = 5
  · obtain ⟨e, k1, k2⟩ := h.img_ref hv hk h5
    rw [e]
    simp only [Int.toNat_natCast]
    have hm : phi d rs w.n.toNat ∈ ks.map (phi d rs) ↔ w.n.toNat ∈ ks := by
      rw [List.mem_map]
      exact ⟨fun ⟨k, hk, e⟩ => by rw [← h.phi_inj (hs k hk) k1 e]; exact hk, fun hk => ⟨_, hk, rfl⟩⟩
    by_cases hn : w.n.toNat ∈ ks
    · rw [if_neg (fun h => h.2 (hm.2 hn)), if_neg (fun h => h.2 hn)]
    · rw [if_pos ⟨trivial, fun h => hn (hm.1 h)⟩, if_pos ⟨h5, hn⟩]
      simp
  · rw [h.img_other hv h5, if_neg (fun h => h5 h.1), if_neg (fun h => h5 h.1)]
/-- a thing, where it is now -/
theorem Col.sp' {k : Nat} (hk : k ∈ Kk d rs) : spP (gB d rs).ws (phi d rs k) ∧ sz (gB d rs).ws (phi d rs k) = sz d.ws k ∧ fr (gB d rs).ws (phi d rs k) = fr d.ws k ∧
    ∀ t, t < sz d.ws k → (gB d rs).ws.getD (phi d rs k + t) default = (newB d.ws (Kk d rs) k).getD t default := by
  obtain ⟨a, b, hab⟩ := List.append_of_mem hk
  have hp := h.phi_at hab
  have hka : ∀ x ∈ a, spP d.ws x := fun x hx => h.sp x (by rw [hab]; simp [hx])
  obtain ⟨g1, g2, g3⟩ := cook_sp h.ki hab
  rw [← hp, show cook d.ws (Kk d rs) (rawTo d.ws (Kk d rs)).length = (gB d rs).ws from h.g] at g1 g2 g3
  refine ⟨g1, by unfold sz; rw [g2], by unfold fr; rw [g3], fun t ht => ?_⟩
  have := gBs_at (K := Kk d rs) (b := b) hka ht
  rw [← hab, ← hp] at this
  exact this
theorem Col.raw' : ∀ {ks : List Nat}, (∀ k ∈ ks, k ∈ Kk d rs) → (rawTo (gB d rs).ws (ks.map (phi d rs))).length = (rawTo d.ws ks).length
  | [], _ => rfl
  | k :: ks, hs => by
    obtain ⟨g1, g2, _, _⟩ := h.sp' (hs k (by simp))
    rw [List.map_cons, rawTo_cons, rawTo_cons, List.length_append, List.length_append, blkAt_length g1, g2, blkAt_length (h.sp k (hs k (by simp))), Col.raw' (ks := ks) fun x hx => hs x (by simp [hx])]
theorem Col.run : ∀ (n : Nat) {ks : List Nat} {p : Nat}, KI d.ws ks p → (∃ x, Kk d rs = runS d.ws ks p ++ x) → d.ws.length < p + n → runS (gB d rs).ws (ks.map (phi d rs)) p = (runS d.ws ks p).map (phi d rs)
  | 0, ks, p, hk, _, hn => by have := rawTo_le hk; have := hk.le; omega
  | n + 1, ks, p, hk, ⟨x, hx⟩, hn => by
    obtain ⟨_, y, hy⟩ := hk.last h.check (d.ws.length + 1) (by omega)
    have hK : Kk d rs = ks ++ (y ++ x) := by rw [hx, hy, List.append_assoc]
    have hs : ∀ k ∈ ks, k ∈ Kk d rs := fun k hk => by rw [hK]; exact List.mem_append_left _ hk
    have hr := h.raw' hs
    have hle : (rawTo d.ws ks).length ≤ (gB d rs).ws.length := by
      rw [← h.g]
      unfold colW
      rw [cook_length]
      conv => rhs; rw [show kept d.ws rs = ks ++ (y ++ x) from hK]
      rw [rawTo_app, List.length_append]; omega
    by_cases hp : p < (rawTo d.ws ks).length
    · rw [runS_step hk hp, runS_step' (by rw [hr]; exact hle) (by rw [hr]; exact hp)]
      obtain ⟨a, k, b, t, hab, ht, hpt⟩ := place hk.sp hp
      have hkm : k ∈ Kk d rs := hs k (by rw [hab]; simp)
      obtain ⟨q1, q2, q3, q4⟩ := h.sp' hkm
      have hka : ∀ x ∈ a, spP d.ws x := fun x hx => hk.sp x (by rw [hab]; simp [hx])
      have hka' : ∀ x ∈ a.map (phi d rs), spP (gB d rs).ws x := fun x hx => by
        obtain ⟨z, hz, rfl⟩ := List.mem_map.1 hx
        exact (h.sp' (hs z (by rw [hab]; simp [hz]))).1
      obtain ⟨e1, e2⟩ := at_blk (ks := a) (ks' := b) hka (hk.sp k (by rw [hab]; simp)) ht
      obtain ⟨e3, e4⟩ := at_blk (ks := a.map (phi d rs)) (ks' := b.map (phi d rs)) hka' q1 (t := t) (by rw [q2]; exact ht)
      have hra := h.raw' (ks := a) fun x hx => hs x (by rw [hab]; simp [hx])
      have em : ks.map (phi d rs) = a.map (phi d rs) ++ phi d rs k :: b.map (phi d rs) := by rw [hab]; simp
      rw [hra, ← em, ← hpt] at e3 e4
      rw [← hab, ← hpt] at e1 e2
      rw [q3] at e4
      rw [e4, e2]
      have hnx := hk.next h.check hp
      rw [e2] at hnx
      by_cases hf : fr d.ws k ≤ t
      · rw [if_pos (decide_eq_true hf)] at hnx
        rw [if_pos (decide_eq_true hf), if_pos (decide_eq_true hf), e3, e1, q4 t ht, newB_get _ _ ht, if_pos hf]
        obtain ⟨w1, w2⟩ := h.word hkm hf ht
        rw [h.add hs w1 w2]
        rw [e1] at hnx
        refine Col.run n hnx ⟨x, ?_⟩ (by omega)
        rw [hx, runS_step hk hp, e2, if_pos (decide_eq_true hf), e1]
      · rw [if_neg (by rw [decide_eq_false hf]; decide)] at hnx
        rw [if_neg (by rw [decide_eq_false hf]; decide), if_neg (by rw [decide_eq_false hf]; decide)]
        refine Col.run n hnx ⟨x, ?_⟩ (by omega)
        rw [hx, runS_step hk hp, e2, if_neg (by rw [decide_eq_false hf]; decide)]
    · rw [runS_end hp, runS_end (by rw [hr]; exact hp)]
theorem Col.roots : ∀ (rs' : List Wd) (ks : List Nat), (∀ k ∈ rs'.foldl (addK d.ws) ks, k ∈ Kk d rs) → (∀ r ∈ rs', r ∈ rs) →
    (rs'.map (imgW d.ws (Kk d rs))).foldl (addK (gB d rs).ws) (ks.map (phi d rs)) = (rs'.foldl (addK d.ws) ks).map (phi d rs)
  | [], _, _, _ => rfl
  | r :: rs', ks, hs, hr => by
    obtain ⟨x, hx⟩ := foldl_ext d.ws rs' (addK d.ws ks r)
    obtain ⟨y, hy⟩ := addK_ext d.ws ks r
    have hks : ∀ k ∈ ks, k ∈ Kk d rs := fun k hk => hs k (by rw [List.foldl_cons, hx, hy]; simp [hk])
    have hm := hr r (by simp)
    rw [List.map_cons, List.foldl_cons, List.foldl_cons, h.add hks (h.bi.mv r (h.rt r hm)) (h.known r hm)]
    exact Col.roots rs' _ (by rwa [List.foldl_cons] at hs) fun q hq => hr q (by simp [hq])
/-- the order stays -/
theorem Col.order : Kk (gB d rs) (colR d.ws rs) = (Kk d rs).map (phi d rs) := by
  obtain ⟨k1, _, _⟩ := root_ki h.check rs [] (ki_0 d.ws) h.all
  obtain ⟨_, x, hx⟩ := k1.last h.check (d.ws.length + 1) (by omega)
  have hx : Kk d rs = rootK d.ws rs ++ x := hx
  have h1 := h.roots rs [] (fun k hk => by rw [hx]; exact List.mem_append_left _ hk) fun r hr => hr
  have h2 := h.run (d.ws.length + 1) k1 ⟨[], by simp; rfl⟩ (by omega)
  show runS (gB d rs).ws ((rs.map (imgW d.ws (Kk d rs))).foldl (addK (gB d rs).ws) []) 0 = _
  have h1 : (rs.map (imgW d.ws (Kk d rs))).foldl (addK (gB d rs).ws) [] = (rs.foldl (addK d.ws) []).map (phi d rs) := h1
  rw [h1]
  exact h2
theorem Col.offs' : ∀ {a c : List Nat}, Kk d rs = a ++ c → c.map (phi d rs) = offs (gBs d.ws (Kk d rs) c) (rawTo d.ws a).length
  | a, [], _ => rfl
  | a, k :: c, hK => by
    have ih := Col.offs' (a := a ++ [k]) (c := c) (by rw [hK]; simp)
    rw [rawTo_app, rawTo_one, List.length_append, blkAt_length (h.sp k (by rw [hK]; simp))] at ih
    rw [List.map_cons, ih, h.phi_at hK]
    simp only [gBs, List.map_cons, offs, newB_length]
/-- collected again a value stays -/
theorem Col.idem {w : Wd} (hv : vOk (gB d rs).bs w) (hk : Go.Proofs.Ytfpnadmpmfcaaaa.known (gB d rs).ws (Kk (gB d rs) (colR d.ws rs)) w) : imgW (gB d rs).ws (Kk (gB d rs) (colR d.ws rs)) w = w := by
  by_cases h5 : w.k = 5
  · obtain ⟨e, k1, k2⟩ := h.again.img_ref hv hk h5
    rw [e]
    rw [h.order] at k1
    obtain ⟨k, hkm, hk⟩ := List.mem_map.1 k1
    obtain ⟨a, b, hab⟩ := List.append_of_mem hkm
    have hp := h.phi_at hab
    have ho : Kk (gB d rs) (colR d.ws rs) = a.map (phi d rs) ++ w.n.toNat :: b.map (phi d rs) := by
      rw [h.order]
      conv => lhs; rw [hab]
      simp [hk]
    have := h.again.phi_at ho
    rw [h.raw' (ks := a) fun x hx => by rw [hab]; simp [hx]] at this
    rw [this, ← hp, hk]
    cases w
    simp only at h5 k2 ⊢
    rw [h5]
    congr 1
    omega
  · exact h.again.img_other hv h5
theorem Col.same : colW (gB d rs).ws (colR d.ws rs) = (gB d rs).ws ∧ colR (gB d rs).ws (colR d.ws rs) = colR d.ws rs := by
  constructor
  · rw [h.again.g]
    show (gBs (gB d rs).ws (Kk (gB d rs) (colR d.ws rs)) (Kk (gB d rs) (colR d.ws rs))).flatten = (gBs d.ws (Kk d rs) (Kk d rs)).flatten
    have e : gBs (gB d rs).ws (Kk (gB d rs) (colR d.ws rs)) (Kk (gB d rs) (colR d.ws rs)) = gBs d.ws (Kk d rs) (Kk d rs) := by
      conv => lhs; unfold gBs; rw [show (Kk (gB d rs) (colR d.ws rs)).map (newB (gB d rs).ws (Kk (gB d rs) (colR d.ws rs))) = ((Kk d rs).map (phi d rs)).map (newB (gB d rs).ws (Kk (gB d rs) (colR d.ws rs))) from by conv => lhs; arg 2; rw [h.order]]
      rw [List.map_map]
      apply List.map_congr_left
      intro k hk
      obtain ⟨q1, q2, q3, q4⟩ := h.sp' hk
      apply List.ext_getElem?
      intro t
      by_cases ht : t < sz d.ws k
      · have e1 : ((newB (gB d rs).ws (Kk (gB d rs) (colR d.ws rs)) ∘ phi d rs) k)[t]? = some ((newB (gB d rs).ws (Kk (gB d rs) (colR d.ws rs)) (phi d rs k)).getD t default) := by
          rw [List.getD_eq_getElem?_getD]
          show (newB (gB d rs).ws (Kk (gB d rs) (colR d.ws rs)) (phi d rs k))[t]? = _
          rw [List.getElem?_eq_getElem (by rw [newB_length, q2]; exact ht)]; rfl
        have e2 : (newB d.ws (Kk d rs) k)[t]? = some ((newB d.ws (Kk d rs) k).getD t default) := by
          rw [List.getD_eq_getElem?_getD, List.getElem?_eq_getElem (by rw [newB_length]; exact ht)]; rfl
        rw [e1, e2, newB_get _ _ (by rw [q2]; exact ht), q4 t ht, q3]
        by_cases hf : fr d.ws k ≤ t
        · rw [if_pos hf]
          have hkm : phi d rs k ∈ Kk (gB d rs) (colR d.ws rs) := by rw [h.order]; exact List.mem_map.2 ⟨k, hk, rfl⟩
          obtain ⟨w1, w2⟩ := h.again.word hkm (t := t) (by rw [q3]; exact hf) (by rw [q2]; exact ht)
          rw [q4 t ht] at w1 w2
          rw [h.idem w1 w2]
        · rw [if_neg hf]
      · rw [List.getElem?_eq_none (by show (newB _ _ (phi d rs k)).length ≤ t; rw [newB_length, q2]; omega), List.getElem?_eq_none (by rw [newB_length]; omega)]
    rw [e]
  · unfold colR
    rw [List.map_map]
    apply List.map_congr_left
    intro r hr
    have hm : imgW d.ws (kept d.ws rs) r ∈ colR d.ws rs := List.mem_map.2 ⟨r, hr, rfl⟩
    exact h.idem (h.gbi.mv _ (List.mem_cons_of_mem _ hm)) (h.again.known _ hm)
end
end Go.Proofs.Ytfpnadmpmfcaaaa
