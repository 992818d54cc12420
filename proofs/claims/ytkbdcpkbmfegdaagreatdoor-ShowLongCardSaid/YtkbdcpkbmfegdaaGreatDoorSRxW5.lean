/- Rx, part W5: a region that draws its order: what is known of its text, and of its trace. -/
import Derived.Test.YtkbdcpkbmfegdaaGreatDoorSRxW2
set_option linter.unusedSectionVars false
set_option linter.unusedSimpArgs false
set_option linter.unusedVariables false
namespace Rx
open Go
variable [Glob]
theorem mD {t : Nat} : ∀ {l : List Nat}, jk t l = true ↔ t ∈ l
 | [] => by simp [jk]
 | x :: l => by
   unfold jk
   cases h : Nat.beq x t with
   | true =>
     have := Nat.eq_of_beq_eq_true h
     subst this
     simp
   | false =>
     have : ¬ t = x := fun e => by rw [e, Nat.beq_refl] at h; cases h
     rw [cond_false, mD]
     simp [this]
def mkAt (ops : Array Oper) (k : Nat) : Nat := (masks ops.toList []).getD k 0
theorem EA {ops : Array Oper} : ∀ (l : List Oper) (ms : List Nat) (k : Nat) (o : Oper), l.length <= ms.length -> l[k]? = some o -> (pI ops l ms)[k]? = some (plOf ops (ms.getD k 0) o)
 | [], _, k, _, _, h => by simp at h
 | o :: l, [], _, _, hl, _ => by simp at hl
 | o :: l, m :: ms, 0, o', _, h => by
   simp only [List.getElem?_cons_zero, Option.some.injEq] at h
   subst h
   simp [pI]
 | o :: l, m :: ms, k + 1, o', hl, h => by
   simp only [pI, List.getElem?_cons_succ] at h ⊢
   rw [EA l ms k o' (by simpa using hl) h]
   simp
theorem EB {ops : Array Oper} : ∀ (l : List Oper) (ms : List Nat), l.length <= ms.length -> (pI ops l ms).length = l.length
 | [], _, _ => by unfold pI; simp
 | o :: l, [], hl => by simp at hl
 | o :: l, m :: ms, hl => by simp only [pI, List.length_cons]; rw [EB l ms (by simpa using hl)]
def kS (ops : Array Oper) : List Pl := pI ops ops.toList (masks ops.toList [])
theorem iE {ops : Array Oper} {k : Nat} {o : Oper} (h : ops[k]? = some o) : (kS ops)[k]? = some (plOf ops (mkAt ops k) o) := by
 have hm := (iO ops.toList [] 0).2.2
 exact EA ops.toList _ k o (by rw [hm]; simp) (by simpa using h)
theorem mG (ops : Array Oper) : (kS ops).length = ops.size := by
 have hm := (iO ops.toList [] 0).2.2
 show (pI ops ops.toList _).length = _
 rw [EB _ _ (by rw [hm]; simp)]
 simp
structure RS (ops : Array Oper) : Prop where
 pair : ∀ i j oi oj, i < j -> ops[i]? = some oi -> ops[j]? = some oj -> pairC i (plOf ops (mkAt ops i) oi) (plOf ops (mkAt ops j) oj) = true
 edge : ∀ j o, ops[j]? = some o -> ∀ e ∈ o.after, Region.binds .any e = true -> e.on < j
theorem Pq {α : Type} {b : Bool} {x y : α} (h : (bif b then some x else none) = some y) : b = true /\ x = y := by
 cases b
 · cases h
 · exact ⟨rfl, Option.some.inj h⟩
theorem jJ {ops : Array Oper} {ri : RI} (h : gL ops = some ri) :
  RS ops /\ (∀ k o, ops[k]? = some o -> cu o.op = .load -> (Cw (kS ops) k (plOf ops (mkAt ops k) o) = false /\ sD (kS ops) k (plOf ops (mkAt ops k) o) = []) ∨
        (k, Cw (kS ops) k (plOf ops (mkAt ops k) o), sD (kS ops) k (plOf ops (mkAt ops k) o)) ∈ ri.ld) /\
   (∀ k o, ops[k]? = some o -> (jk k ri.wd = true ↔ (cu o.op).jh = true /\ Qu (kS ops) k = true)) := by
 unfold gL at h
 simp only at h
 have ep : pI ops ops.toList (masks ops.toList []) = kS ops := rfl
 rw [ep] at h
 obtain ⟨hb, h⟩ := Pq h
 subst h
 · simp only [Bool.and_eq_true] at hb
   obtain ⟨_, h2, h3⟩ := hb
   refine ⟨⟨fun i j oi oj hij hi hj => ?_, fun j o ho e he hbd => ?_⟩, fun k o ho hk => ?_, fun k o ho => ?_⟩
   · unfold Ht at h2
     have hjl : j < ops.size := (Array.getElem?_eq_some_iff.1 hj).1
     have h4 := List.all_eq_true.1 h2 j (by rw [List.mem_range, mG]; exact hjl)
     rw [iE hj] at h4
     have h5 := List.all_eq_true.1 h4 i (List.mem_range.2 hij)
     rw [iE hi] at h5
     exact h5
   · have hjl : j < ops.size := (Array.getElem?_eq_some_iff.1 ho).1
     have h4 := List.all_eq_true.1 h3 j (List.mem_range.2 hjl)
     rw [ho] at h4
     have h5 := List.all_eq_true.1 h4 e (by simpa using he)
     simp only [hbd, Bool.not_true, Bool.false_or, Nat.blt_eq] at h5
     exact h5
   · have hkl : k < ops.size := (Array.getElem?_eq_some_iff.1 ho).1
     cases hq : (Cw (kS ops) k (plOf ops (mkAt ops k) o) || !(sD (kS ops) k (plOf ops (mkAt ops k) o)).isEmpty) with
     | false =>
       left
       simp only [Bool.or_eq_false_iff, Bool.not_eq_false', List.isEmpty_iff] at hq
       exact hq
     | true =>
       right
       rw [List.mem_filterMap]
       refine ⟨k, by rw [List.mem_range, mG]; exact hkl, ?_⟩
       rw [iE ho]
       have : (plOf ops (mkAt ops k) o).kd.YJ = true := by
        show (cu o.op).YJ = true
        rw [hk]; rfl
       simp only [this, hq, Bool.and_self, cond_true]
   · have hkl : k < ops.size := (Array.getElem?_eq_some_iff.1 ho).1
     rw [mD, List.mem_filter, List.mem_range, mG]
     rw [iE ho]
     simp only [Bool.and_eq_true]
     exact ⟨fun hh => hh.2, fun hh => ⟨hkl, hh⟩⟩
theorem Ns {ops : Array Oper} {k : Nat} (h : Qu (kS ops) k = false) {j : Nat} {o : Oper} (hkj : k < j) (ho : ops[j]? = some o) (ha : (cu o.op).Co = true) : (mkAt ops j).testBit k = true := by
 unfold Qu at h
 have hjl : j < ops.size := (Array.getElem?_eq_some_iff.1 ho).1
 have h1 := List.any_eq_false.1 h j (by rw [List.mem_range, mG]; exact hjl)
 rw [iE ho] at h1
 have hb : Nat.blt k j = true := by rw [Nat.blt_eq]; exact hkj
 cases hm : (mkAt ops j).testBit k with
 | true => rfl
 | false =>
   exfalso
   apply h1
   show (Nat.blt k j && ((cu o.op).Co && !(mkAt ops j).testBit k)) = true
   rw [hb, ha, hm]
   rfl
theorem rQ {ops : Array Oper} {j : Nat} {y : Pl} (h : Cw (kS ops) j y = false) {k : Nat} {o : Oper} (hkj : k < j) (ho : ops[k]? = some o) (ha : ((cu o.op).jh || (cu o.op).Co) = true) : y.ms.testBit k = true := by
 unfold Cw at h
 have h1 := List.any_eq_false.1 h k (List.mem_range.2 hkj)
 rw [iE ho] at h1
 cases hm : y.ms.testBit k with
 | true => rfl
 | false =>
   exfalso
   apply h1
   show (((cu o.op).jh || (cu o.op).Co) && !y.ms.testBit k) = true
   rw [ha, hm]
   rfl
def hvAt (ops : Array Oper) (h : Nat) : Prop := ∃ o, ops[h]? = some o /\ (cu o.op).jh = true
theorem Pn {ops : Array Oper} {j q : Nat} {y : Pl} (hq : q = ops.size ∨ hvAt ops q) (h1 : ∀ h, hvAt ops h -> q <= h -> y.ms.testBit h = false) (h2 : ∀ h, hvAt ops h -> h < q -> (mkAt ops h).testBit j = false)
  (h3 : q < j ∨ ∃ h, hvAt ops h /\ j <= h /\ h < q) : q ∈ sD (kS ops) j y := by
 have hs : ∀ h, h ∈ uV (kS ops) ↔ hvAt ops h := by
  intro h
  unfold uV
  rw [List.mem_filter, List.mem_range, mG]
  constructor
  · rintro ⟨hl, hh⟩
    have ho : ops[h]? = some ops[h] := Array.getElem?_eq_getElem hl
    unfold hvB at hh
    rw [iE ho] at hh
    exact ⟨_, ho, hh⟩
  · rintro ⟨o, ho, hh⟩
    refine ⟨(Array.getElem?_eq_some_iff.1 ho).1, ?_⟩
    unfold hvB
    rw [iE ho]; exact hh
 unfold sD
 rw [List.mem_filter]
 refine ⟨?_, ?_⟩
 · rw [List.mem_append, hs]
   rcases hq with rfl | hq
   · right; rw [mG]; simp
   · exact .inl hq
 · simp only [Bool.and_eq_true, Bool.or_eq_true]
   refine ⟨⟨List.all_eq_true.2 fun h hh => ?_, List.all_eq_true.2 fun h hh => ?_⟩, ?_⟩
   · rw [hs] at hh
     cases hb : Nat.ble q h with
     | false => rfl
     | true => rw [h1 h hh (Nat.le_of_ble_eq_true hb)]; rfl
   · rw [hs] at hh
     cases hb : Nat.blt h q with
     | false => rfl
     | true =>
       rw [Nat.blt_eq] at hb
       obtain ⟨o, ho, _⟩ := hh
       have h4 := h2 h ⟨o, ho, by assumption⟩ hb
       have : Sw (kS ops) h j = (mkAt ops h).testBit j := by
         unfold Sw
         rw [iE ho]; rfl
       rw [this, h4]; rfl
   · rcases h3 with h3 | ⟨h, hh, h4, h5⟩
     · left; rw [Nat.blt_eq]; exact h3
     · right
       rw [List.any_eq_true]
       refine ⟨h, (hs h).2 hh, ?_⟩
       rw [Bool.and_eq_true, Nat.blt_eq]
       exact ⟨Nat.ble_eq_true_of_le h4, h5⟩
def atZ (z : List (CS × SV) × CS) (k : Nat) : CS :=
 match z.1[k]? with
 | some x => x.1
 | none => z.2
theorem Wj (z : List (CS × SV) × CS) (q : Nat) : hsAt z.1 z.2 q = (atZ z q).h := by
 unfold hsAt atZ
 cases z.1[q]? <;> rfl
theorem wW {E : CEnv} {ops : Array Oper} {rid : Nat} {wd : List Nat} : ∀ (l : List Oper) (i : Nat) (σ : CS) (z : List (CS × SV) × CS), (dS E ops rid wd i l σ).ok -> (dS E ops rid wd i l σ).val = some z ->
  z.1.length = l.length /\ atZ z 0 = σ /\ ∀ m o, l[m]? = some o -> ∃ s h', z.1[m]? = some (atZ z m, s) /\ (stW E ops rid wd (i + m) o (atZ z m)).ok /\ (stW E ops rid wd (i + m) o (atZ z m)).val = some (s, h') /\ atZ z (m + 1) = ⟨putT o.dst s (atZ z m).sl, h'⟩
 | [], i, σ, z, _, hv => by
   simp only [dS, T.val, Option.some.injEq] at hv
   subst hv
   exact ⟨rfl, rfl, fun m o h => by simp at h⟩
 | o :: l, i, σ, z, hok, hv => by
   simp only [dS] at hok hv
   obtain ⟨y, hy, hv⟩ := T.bM hv
   obtain ⟨h1, h2⟩ := T.bind_ok hok
   have h2 := h2 y hy
   obtain ⟨z', hz', hv⟩ := T.bM hv
   obtain ⟨h3, _⟩ := T.bind_ok h2
   simp only [T.val, Option.some.injEq] at hv
   subst hv
   obtain ⟨q1, q2, q3⟩ := wW l (i + 1) _ z' h3 hz'
   have shift : ∀ m, atZ ((σ, y.1) :: z'.1, z'.2) (m + 1) = atZ z' m := fun m => by simp [atZ]
   refine ⟨by simp [q1], rfl, fun m o' hm => ?_⟩
   cases m with
   | zero =>
     simp only [List.getElem?_cons_zero, Option.some.injEq] at hm
     subst hm
     refine ⟨y.1, y.2, rfl, h1, hy, ?_⟩
     rw [shift, q2]
     rfl
   | succ m =>
     simp only [List.getElem?_cons_succ] at hm
     obtain ⟨s, h', r1, r2, r3, r4⟩ := q3 m o' hm
     refine ⟨s, h', by simpa [shift] using r1, ?_, ?_, ?_⟩
     · rw [shift, show i + (m + 1) = i + 1 + m by omega]; exact r2
     · rw [shift, show i + (m + 1) = i + 1 + m by omega]; exact r3
     · rw [shift, shift]; exact r4
theorem CEnv.Ok.qN {E : CEnv} (h : E.Ok) (t : Nat) : CEnv.Ok { E with top := t } := ⟨h.K, h.I, h.G⟩
theorem CEnv.Ok.Cb {E : CEnv} (h : E.Ok) (t : Nat) : CEnv.Ok { E with base := t } := ⟨h.K, h.I, h.G⟩
theorem Bv {E : CEnv} (hE : E.Ok) {ops : Array Oper} {rid : Nat} {wd : List Nat} {i : Nat} (o : Oper) {σ : CS} (hh : σ.h.Ok) : (stW E ops rid wd i o σ).good fun y => y.2.Ok /\ σ.h.nob <= y.2.nob /\ y.2.nob <= max E.top σ.h.nob := by
 unfold stW
 cases jk i wd with
 | false => exact iI hE o hh
 | true =>
   rw [cond_true]
   cases hb : Nat.ble (σ.h.nob + E.win rid) E.top with
   | false => trivial
   | true =>
     have hb := Nat.le_of_ble_eq_true hb
     rw [cond_true]
     refine T.aW (fun y hy => ?_) _ (iI (hE.qN _) o hh)
     have h2 := hy.2.2
     simp only at h2
     refine ⟨fun i hi => hy.1 i ?_, ?_, ?_⟩
     · have hi : σ.h.nob + E.win rid <= i := hi
       omega
     · show σ.h.nob <= σ.h.nob + E.win rid; omega
     · show σ.h.nob + E.win rid <= _; omega
structure TF (E : CEnv) (ops : Array Oper) (rid : Nat) (wd : List Nat) (z : List (CS × SV) × CS) : Prop where
 len : z.1.length = ops.size
 st : ∀ k o, ops[k]? = some o -> ∃ s h', z.1[k]? = some (atZ z k, s) /\ (stW E ops rid wd k o (atZ z k)).ok /\ (stW E ops rid wd k o (atZ z k)).val = some (s, h') /\ atZ z (k + 1) = ⟨putT o.dst s (atZ z k).sl, h'⟩
 ok : ∀ k, k <= ops.size -> (atZ z k).h.Ok
 mono : ∀ k, k < ops.size -> (atZ z k).h.nob <= (atZ z (k + 1)).h.nob
theorem ahV {E : CEnv} (hE : E.Ok) {ops : Array Oper} {rid : Nat} {wd : List Nat} {σ : CS} {z : List (CS × SV) × CS} (hh : σ.h.Ok) (hok : (dS E ops rid wd 0 ops.toList σ).ok) (hv : (dS E ops rid wd 0 ops.toList σ).val = some z) :
  TF E ops rid wd z /\ atZ z 0 = σ /\ atZ z ops.size = z.2 := by
 obtain ⟨q1, q2, q3⟩ := wW ops.toList 0 σ z hok hv
 have q1 : z.1.length = ops.size := by simpa using q1
 have st : ∀ k o, ops[k]? = some o -> ∃ s h', z.1[k]? = some (atZ z k, s) /\ (stW E ops rid wd k o (atZ z k)).ok /\ (stW E ops rid wd k o (atZ z k)).val = some (s, h') /\ atZ z (k + 1) = ⟨putT o.dst s (atZ z k).sl, h'⟩ := fun k o ho => by
  have := q3 k o (by simpa using ho)
  simpa only [Nat.zero_add] using this
 have ok : ∀ k, k <= ops.size -> (atZ z k).h.Ok := by
  intro k
  induction k with
  | zero => intro _; rw [q2]; exact hh
  | succ k ih =>
    intro hk
    obtain ⟨s, h', _, r2, r3, r4⟩ := st k ops[k] (Array.getElem?_eq_getElem (by omega))
    rw [r4]
    exact (T.j6 (Bv hE _ (ih (by omega))) r3).1
 refine ⟨⟨q1, st, ok, fun k hk => ?_⟩, q2, ?_⟩
 · obtain ⟨s, h', _, r2, r3, r4⟩ := st k ops[k] (Array.getElem?_eq_getElem hk)
   rw [r4]
   exact (T.j6 (Bv hE _ (ok k (by omega))) r3).2.1
 · unfold atZ
   rw [List.getElem?_eq_none (by omega)]
theorem rW {E : CEnv} (hE : E.Ok) {ops : Array Oper} {rid : Nat} {wd : List Nat} : ∀ (l : List Oper) (i : Nat) (σ : CS), σ.h.Ok -> (dS E ops rid wd i l σ).good fun z => z.2.h.Ok /\ σ.h.nob <= z.2.h.nob /\ z.2.h.nob <= max E.top σ.h.nob
 | [], _, σ, h => ⟨h, Nat.le_refl _, Nat.le_max_right _ _⟩
 | o :: l, i, σ, h => by
   refine T.aW (fun y hy => ?_) _ (Bv hE o h)
   refine T.aW (fun z hz => ?_) _ (rW hE l (i + 1) ⟨putT o.dst y.1 σ.sl, y.2⟩ hy.1)
   have h1 : z.2.h.nob <= max E.top y.2.nob := hz.2.2
   have h2 := hy.2.2
   exact ⟨hz.1, Nat.le_trans hy.2.1 hz.2.1, Nat.le_trans h1 (by omega)⟩
theorem vW {E : CEnv} (hE : E.Ok) {ops : Array Oper} {rid : Nat} {σ : CS} (h : σ.h.Ok) : (mK E ops rid σ).good fun y => y.h.Ok /\ σ.h.nob <= y.h.nob /\ y.h.nob <= max E.top σ.h.nob := by
 unfold mK
 split
 · trivial
 · exact T.aW (fun z hz => hz) _ (rW hE _ _ _ h)
end Rx
set_option linter.unusedSectionVars false
set_option linter.unusedSimpArgs false
set_option linter.unusedVariables false
namespace Rx
open Go
variable [Glob]
theorem zw {E : CEnv} {h : HS} {t : T Res} {y : SV × HS} (hok : (lift E h t).ok) (hv : (lift E h t).val = some y) : ∃ r, t.ok /\ t.val = some r /\ t.det = true /\ jf E h r.eff = true /\ y = (r.sv, h.eff r.eff) := by
 unfold lift at hok hv
 cases hd : t.det with
 | false => rw [hd] at hok; exact hok.elim
 | true =>
   rw [hd, cond_true] at hok hv
   obtain ⟨r, hr, hv⟩ := T.bM hv
   obtain ⟨h1, h2⟩ := T.bind_ok hok
   cases he : jf E h r.eff with
   | false => rw [he] at hv; cases hv
   | true =>
     rw [he, cond_true] at hv
     simp only [T.val, Option.some.injEq] at hv
     exact ⟨r, h1, hr, rfl, he, hv.symm⟩
theorem Ga {E : CEnv} {h : HS} {t : T Res} {r : Res} (h1 : t.ok) (h2 : t.val = some r) (h3 : t.det = true) (h4 : jf E h r.eff = true) : (lift E h t).holds fun y => y = (r.sv, h.eff r.eff) := by
 unfold lift
 rw [h3, cond_true, T.ak]
 refine T.holds_of (a := r) ?_ t h1 h2
 rw [h4, cond_true]
 rfl
theorem qj {E : CEnv} {rid i : Nat} {rw : Operand -> SV} {h : HS} {o : Oper} (hk : (cu o.op).jh = false) : bG E rid i rw h o = lift E h (cxE E.P rw h.obj h.nob o) := by
 unfold cu at hk
 split at hk <;> first | (simp [Kd.jh] at hk; done) | (rename_i ho; unfold bG; simp only [ho])
theorem qJ {E : CEnv} {ops : Array Oper} {rid i : Nat} {o : Oper} {σ : CS} {y : SV × HS} (hok : (stC E ops rid i o σ).ok) (hv : (stC E ops rid i o σ).val = some y) : fT E.N o.dst = true /\
  ((iH ops o σ = true /\ y = (dZ, σ.h) /\ ∀ (E1 : CEnv) h1, E1.N = E.N -> stC E1 ops rid i o ⟨σ.sl, h1⟩ = .ret (dZ, h1)) ∨
   (iH ops o σ = false /\ ∀ (E1 : CEnv) h1, E1.N = E.N -> stC E1 ops rid i o ⟨σ.sl, h1⟩ = bG E1 rid i (evC σ.sl) h1 o)) := by
 unfold stC at hok hv
 cases hd : fT E.N o.dst with
 | false => rw [hd] at hok; exact hok.elim
 | true =>
 rw [hd, cond_true] at hok hv
 refine ⟨rfl, ?_⟩
 cases hg : o.guard with
 | none =>
   right
   refine ⟨by simp [iH, hg], fun E1 h1 hN => ?_⟩
   unfold stC
   rw [hN, hd, cond_true]
   simp only [hg]
 | some jw =>
   obtain ⟨j, want⟩ := jw
   rw [hg] at hok hv
   simp only at hok hv
   cases hj : (ops[j]?).bind (·.dst) with
   | none => rw [hj] at hok; exact hok.elim
   | some t =>
     rw [hj] at hok hv
     simp only at hok hv
     cases hd2 : fT E.N (some t) with
     | false => rw [hd2] at hok; exact hok.elim
     | true =>
       rw [hd2, cond_true] at hok hv
       have skip : ∀ (hs : iH ops o σ = true) (hy : (T.ret (dZ, σ.h) : T (SV × HS)).val = some y) (hE : ∀ (E1 : CEnv) h1, E1.N = E.N -> stC E1 ops rid i o ⟨σ.sl, h1⟩ = .ret (dZ, h1)),
         (iH ops o σ = true /\ y = (dZ, σ.h) /\ ∀ (E1 : CEnv) h1, E1.N = E.N -> stC E1 ops rid i o ⟨σ.sl, h1⟩ = .ret (dZ, h1)) := fun hs hy hE => ⟨hs, by
        simp only [T.val, Option.some.injEq] at hy; exact hy.symm, hE⟩
       cases hs : σ.sl t with
       | kb b =>
         rw [hs] at hok hv
         simp only at hok hv
         cases hq : (bif b then want else !want) with
         | true =>
           right
           refine ⟨by simp only [iH, hg, hj, hs, hq, cond_true], fun E1 h1 hN => ?_⟩
           unfold stC
           rw [hN, hd, cond_true]
           simp only [hg, hj, hs]
           rw [hd2, cond_true, hq, cond_true]
         | false =>
           left
           rw [hq] at hv
           refine skip (by simp only [iH, hg, hj, hs, hq, cond_false]) hv fun E1 h1 hN => ?_
           unfold stC
           rw [hN, hd, cond_true]
           simp only [hg, hj, hs]
           rw [hd2, cond_true, hq, cond_false]
       | dt d =>
         cases d with
         | cell v =>
           cases v with
           | tuple x =>
             left
             rw [hs] at hv
             refine skip (by simp only [iH, hg, hj, hs]) hv fun E1 h1 hN => ?_
             unfold stC
             rw [hN, hd, cond_true]
             simp only [hg, hj, hs]
             rw [hd2, cond_true]
           | _ => rw [hs] at hok; exact hok.elim
         | _ => rw [hs] at hok; exact hok.elim
       | _ => rw [hs] at hok; exact hok.elim
theorem GK {E : CEnv} {ops : Array Oper} {rid i : Nat} {o : Oper} {σ : CS} {y : SV × HS} (hk : (cu o.op).jh = false) (hok : (stC E ops rid i o σ).ok) (hv : (stC E ops rid i o σ).val = some y) :
  (∀ i, i < σ.h.nob -> y.2.obj i = σ.h.obj i) /\ (RH (cu o.op) = true -> y.2 = σ.h) := by
 obtain ⟨hd, hc⟩ := qJ hok hv
 rcases hc with ⟨_, rfl, _⟩ | ⟨_, hE⟩
 · exact ⟨fun _ _ => rfl, fun _ => rfl⟩
 · have e := hE E σ.h rfl
   have e : stC E ops rid i o σ = bG E rid i (evC σ.sl) σ.h o := e
   rw [e, qj hk] at hok hv
   obtain ⟨r, r1, r2, r3, r4, rfl⟩ := zw hok hv
   have pl : RH (cu o.op) = true -> σ.h.eff r.eff = σ.h := fun hp => by
    rw [uN hp r2]; rfl
   refine ⟨fun j hj => ?_, pl⟩
   cases hkd : cu o.op with
   | pure => rw [pl (by rw [hkd]; rfl)]
   | load => rw [pl (by rw [hkd]; rfl)]
   | heavy => rw [hkd] at hk; cases hk
   | alloc =>
     obtain ⟨ob, he⟩ := NV hkd r2
     show r.eff.obs σ.h.obj j = _
     rw [he]
     have : (j == σ.h.nob) = false := by
        have : j ≠ σ.h.nob := by omega
        simpa using this
     simp [Eff.obs, List.lookup, this]
section
variable {E : CEnv} {ops : Array Oper} {rid : Nat} {ri : RI} {z : List (CS × SV) × CS}
theorem Bw (hri : gL ops = some ri) {k : Nat} {o : Oper} (ho : ops[k]? = some o) (hk : (cu o.op).jh = false) (σ : CS) : stW E ops rid ri.wd k o σ = stC E ops rid k o σ := by
 have h := (jJ hri).2.2 k o ho
 have hm : jk k ri.wd = false := by
  cases hb : jk k ri.wd with
  | false => rfl
  | true => rw [(h.1 hb).1] at hk; cases hk
 unfold stW
 rw [hm]; rfl
theorem cZ (hT : TF E ops rid ri.wd z) {p q : Nat} (hpq : p <= q) (hq : q <= ops.size) : (atZ z p).h.nob <= (atZ z q).h.nob := by
 induction q with
 | zero => have : p = 0 := by omega
           subst this; exact Nat.le_refl _
 | succ q ih =>
   by_cases h : p = q + 1
   · subst h; exact Nat.le_refl _
   · exact Nat.le_trans (ih (by omega) (by omega)) (hT.mono q (by omega))
theorem EK (hri : gL ops = some ri) (hT : TF E ops rid ri.wd z) {p : Nat} : ∀ (d : Nat), p + d <= ops.size -> (∀ k, p <= k -> k < p + d -> ¬ hvAt ops k) -> ∀ i, i < (atZ z p).h.nob -> (atZ z (p + d)).h.obj i = (atZ z p).h.obj i
 | 0, _, _, _, _ => rfl
 | d + 1, hd, hn, i, hi => by
   have hlt : p + d < ops.size := by omega
   have ho : ops[p + d]? = some ops[p + d] := Array.getElem?_eq_getElem hlt
   obtain ⟨s, h', _, h1, h2, h3⟩ := hT.st (p + d) _ ho
   have hk : (cu (ops[p + d]).op).jh = false := by
     cases hb : (cu (ops[p + d]).op).jh with
     | false => rfl
     | true => exact absurd ⟨_, ho, hb⟩ (hn (p + d) (by omega) (by omega))
   rw [Bw hri ho hk] at h1 h2
   have h4 := (GK hk h1 h2).1 i (Nat.lt_of_lt_of_le hi (cZ hT (by omega) (by omega)))
   have e : (atZ z (p + (d + 1))).h = h' := by rw [show p + (d + 1) = p + d + 1 by omega, h3]
   rw [e]
   rw [h4]
   exact EK hri hT d (by omega) (fun k h1 h2 => hn k h1 (by omega)) i hi
theorem kK (hri : gL ops = some ri) (hT : TF E ops rid ri.wd z) {p q : Nat} (hpq : p <= q) (hq : q <= ops.size) (hn : ∀ k, p <= k -> k < q -> ¬ hvAt ops k) {i : Nat} (hi : i < (atZ z p).h.nob) : (atZ z q).h.obj i = (atZ z p).h.obj i := by
 have := EK hri hT (p := p) (q - p) (by omega) (fun k h1 h2 => hn k h1 (by omega)) i hi
 rwa [show p + (q - p) = q by omega] at this
theorem qb (hT : TF E ops rid ri.wd z) {i : Nat} : ∀ (q : Nat), q <= ops.size -> (atZ z 0).h.nob <= i -> i < (atZ z q).h.nob -> ∃ k, k < q /\ (atZ z k).h.nob <= i /\ i < (atZ z (k + 1)).h.nob
 | 0, _, h1, h2 => by omega
 | q + 1, hq, h1, h2 => by
   by_cases h : i < (atZ z q).h.nob
   · obtain ⟨k, h3, h4⟩ := qb hT q (by omega) h1 h
     exact ⟨k, by omega, h4⟩
   · exact ⟨q, by omega, by omega, h2⟩
theorem uz (hri : gL ops = some ri) (hT : TF E ops rid ri.wd z) {k : Nat} {o : Oper} (ho : ops[k]? = some o) (h : (atZ z k).h.nob < (atZ z (k + 1)).h.nob) : ((cu o.op).jh || (cu o.op).Co) = true := by
 obtain ⟨s, h', _, h1, h2, h3⟩ := hT.st k o ho
 cases hk : cu o.op with
 | heavy => rfl
 | alloc => rfl
 | pure =>
   exfalso
   have hh : (cu o.op).jh = false := by rw [hk]; rfl
   rw [Bw hri ho hh] at h1 h2
   have := (GK hh h1 h2).2 (by rw [hk]; rfl)
   have e : (atZ z (k + 1)).h = h' := by rw [h3]
   rw [e, show h' = (atZ z k).h from this] at h
   omega
 | load =>
   exfalso
   have hh : (cu o.op).jh = false := by rw [hk]; rfl
   rw [Bw hri ho hh] at h1 h2
   have := (GK hh h1 h2).2 (by rw [hk]; rfl)
   have e : (atZ z (k + 1)).h = h' := by rw [h3]
   rw [e, show h' = (atZ z k).h from this] at h
   omega
def svZ (z : List (CS × SV) × CS) (k : Nat) : SV :=
 match z.1[k]? with
 | some x => x.2
 | none => .junk
theorem VU (hR : RS ops) {i j : Nat} {oi oj : Oper} {t : Nat} (hi : ops[i]? = some oi) (hj : ops[j]? = some oj) (hdi : oi.dst = some t) (hdj : oj.dst = some t) : i = j := by
 have key : ∀ {i j : Nat} {oi oj : Oper}, i < j -> ops[i]? = some oi -> ops[j]? = some oj -> oi.dst = some t -> oj.dst = some t -> False := by
  intro i j oi oj hij hi hj hdi hdj
  have h := hR.pair i j oi oj hij hi hj
  unfold pairC at h
  simp only [plOf, hdi, hdj, XQ, Bool.and_eq_true, Bool.not_eq_true'] at h
  have := h.1
  rw [Nat.beq_refl] at this
  cases this
 rcases Nat.lt_trichotomy i j with h | h | h
 · exact (key h hi hj hdi hdj).elim
 · exact h
 · exact (key h hj hi hdj hdi).elim
theorem BK (hT : TF E ops rid ri.wd z) {σ : CS} (h0 : atZ z 0 = σ) (t : Nat) : ∀ (k : Nat), k <= ops.size -> (∃ j o, j < k /\ ops[j]? = some o /\ o.dst = some t /\ (atZ z k).sl t = svZ z j) ∨ ((∀ j o, j < k -> ops[j]? = some o -> o.dst ≠ some t) /\ (atZ z k).sl t = σ.sl t)
 | 0, _ => .inr ⟨fun j o h => by omega, by rw [h0]⟩
 | k + 1, hk => by
   have ho : ops[k]? = some ops[k] := Array.getElem?_eq_getElem (by omega)
   obtain ⟨s, h', h1, _, _, h3⟩ := hT.st k _ ho
   have hs : svZ z k = s := by unfold svZ; rw [h1]
   have hsl : (atZ z (k + 1)).sl t = lq (ops[k]).dst t s ((atZ z k).sl t) := by rw [h3]; rfl
   by_cases hd : (ops[k]).dst = some t
   · left
     refine ⟨k, _, by omega, ho, hd, ?_⟩
     rw [hsl, hd, aS, if_pos rfl, hs]
   · have e : lq (ops[k]).dst t s ((atZ z k).sl t) = (atZ z k).sl t := by
       cases hdd : (ops[k]).dst with
       | none => rfl
       | some d =>
         rw [aS, if_neg]
         intro e
         exact hd (by rw [hdd, e])
     rw [hsl, e]
     rcases BK hT h0 t k (by omega) with ⟨j, o, h4, h5⟩ | ⟨h4, h5⟩
     · exact .inl ⟨j, o, by omega, h5⟩
     · refine .inr ⟨fun j o hj hoj => ?_, h5⟩
       by_cases hjk : j = k
       · subst hjk
         rw [ho] at hoj
         injection hoj with hoj
         subst hoj
         exact hd
       · exact h4 j o (by omega) hoj
end
end Rx
set_option linter.unusedSectionVars false
set_option linter.unusedSimpArgs false
set_option linter.unusedVariables false
namespace Rx
open Go
variable [Glob]
structure DV (E : CEnv) (ops : Array Oper) (z : List (CS × SV) × CS) (σ : CS) (C : Ctx) (w : World) (a : Act) (D : Nat -> Bool) (hd : Nat) (a' : Act) (w' : World) (C' : Ctx) : Prop where
 hdle : hd <= ops.size
 hdh : hd = ops.size ∨ hvAt ops hd
 hv : ∀ k, hvAt ops k -> (D k = true ↔ k < hd)
 lt : ∀ k, D k = true -> k < ops.size
 wf : WF C' w'
 sz : a'.tmps.size = E.N
 df : a'.defers = []
 s1 : ∀ k o t, ops[k]? = some o -> o.dst = some t -> D k = true -> rel C' w' (svZ z k) (a'.tmps.getD t undef)
 s0 : ∀ t, (∀ k o, ops[k]? = some o -> D k = true -> o.dst ≠ some t) -> rel C' w' (σ.sl t) (a'.tmps.getD t undef)
 o0 : ∀ i ob, i < (atZ z 0).h.nob -> (atZ z hd).h.obj i = some ob -> obHolds C' w' i ob
 ok : ∀ k i ob, D k = true -> (atZ z k).h.nob <= i -> i < (atZ z (k + 1)).h.nob -> (atZ z (max hd (k + 1))).h.obj i = some ob -> obHolds C' w' i ob
 nm : ∀ i, (atZ z 0).h.nob <= i -> i < E.top -> C'.ν i ≠ none -> ∃ k, D k = true /\ (atZ z k).h.nob <= i /\ i < (atZ z (k + 1)).h.nob
 st : StepC E (atZ z 0).h.nob C w C' w'
 fr : ∀ j, j ∉ dstsO ops.toList -> a'.tmps.getD j undef = a.tmps.getD j undef
theorem Gg {ops : Array Oper} : ∀ (d p : Nat), p + d = ops.size -> ∃ q, p <= q /\ q <= ops.size /\ (q = ops.size ∨ hvAt ops q) /\ ∀ k, p <= k -> k < q -> ¬ hvAt ops k
 | 0, p, h => ⟨p, Nat.le_refl _, by omega, .inl (by omega), fun k h1 h2 => by omega⟩
 | d + 1, p, h => by
   rcases Classical.em (hvAt ops p) with hp | hp
   · exact ⟨p, Nat.le_refl _, by omega, .inr hp, fun k h1 h2 => by omega⟩
   · obtain ⟨q, h1, h2, h3, h4⟩ := Gg (ops := ops) d (p + 1) (by omega)
     refine ⟨q, by omega, h2, h3, fun k h5 h6 => ?_⟩
     by_cases hk : k = p
     · subst hk; exact hp
     · exact h4 k (by omega) h6
section
variable {E : CEnv} {ops : Array Oper} {rid : Nat} {ri : RI} {z : List (CS × SV) × CS} {σ : CS} {C : Ctx} {w : World} {a : Act}
theorem DV.slots {D D' : Nat -> Bool} {hd : Nat} {a' : Act} {w' w'' : World} {C' C'' : Ctx} (hDV : DV E ops z σ C w a D hd a' w' C') (hR : RS ops) {X : Nat -> Prop} (hst : Step X C' w' C'' w'')
  {k : Nat} {o : Oper} (ho : ops[k]? = some o) (hD : ∀ j, D' j = if j = k then true else D j) (hdd : fT E.N o.dst = true) {v : Value} (hr : rel C'' w'' (svZ z k) v) :
  (a'.put o.dst v).tmps.size = E.N /\ (a'.put o.dst v).defers = [] /\
  (∀ k o' t, ops[k]? = some o' -> o'.dst = some t -> D' k = true -> rel C'' w'' (svZ z k) ((a'.put o.dst v).tmps.getD t undef)) /\
  (∀ t, (∀ k o', ops[k]? = some o' -> D' k = true -> o'.dst ≠ some t) -> rel C'' w'' (σ.sl t) ((a'.put o.dst v).tmps.getD t undef)) /\
  (∀ j, j ∉ dstsO ops.toList -> (a'.put o.dst v).tmps.getD j undef = a.tmps.getD j undef) := by
 have hlt : ∀ t, o.dst = some t -> t < a'.tmps.size := fun t e => by rw [e] at hdd; rw [hDV.sz]; simpa [fT, Nat.blt_eq] using hdd
 refine ⟨?_, ?_, fun k' o' t ho' ht hk' => ?_, fun t hno => ?_, fun j hj => ?_⟩
 · cases o.dst <;> simp [Act.put, hDV.sz]
 · cases o.dst <;> exact hDV.df
 · rw [hD] at hk'
   by_cases hkk : k' = k
   · subst hkk
     rw [ho] at ho'
     injection ho' with ho'
     subst ho'
     rw [j5 _ _ _ _ hlt, ht, aS, if_pos rfl]
     exact hr
   · rw [if_neg hkk] at hk'
     have h1 := aC hst _ _ (hDV.s1 k' o' t ho' ht hk')
     rw [j5 _ _ _ _ hlt]
     cases hod : o.dst with
     | none => exact h1
     | some t' =>
       rw [aS, if_neg]
       · exact h1
       · intro e
         subst e
         exact hkk (VU hR ho' ho ht hod)
 · have h1 := aC hst _ _ (hDV.s0 t fun k' o' ho' hk' => hno k' o' ho' (by rw [hD]; split <;> simp_all))
   rw [j5 _ _ _ _ hlt]
   cases hod : o.dst with
   | none => exact h1
   | some t' =>
     rw [aS, if_neg]
     · exact h1
     · intro e
       subst e
       exact hno k o ho (by rw [hD]; simp) hod
 · rw [← hDV.fr j hj]
   refine uh fun t ht e => hj ?_
   simp only [dstsO, List.mem_filterMap]
   exact ⟨o, by
    have := Array.mem_of_getElem? ho
    simpa using this, by rw [ht, e]⟩
theorem Sn {o : Oper} {t : Nat} (h : Operand.tmp t ∈ o.op.operands) : t ∈ tmpsOf o := by
 unfold tmpsOf
 rw [List.mem_filterMap]
 exact ⟨.tmp t, by simpa using h, rfl⟩
theorem IC {t : Nat} {l : List Nat} (h : t ∈ l) : FN (some t) l = true := mD.2 h
theorem DV.reads {D : Nat -> Bool} {hd : Nat} {a' : Act} {w' : World} {C' : Ctx} (hDV : DV E ops z σ C w a D hd a' w' C') (hR : RS ops) (hT : TF E ops rid ri.wd z) (h0 : atZ z 0 = σ) (hcl : Closed ops D)
  {k : Nat} {o : Oper} (ho : ops[k]? = some o) (hdep : ∀ e ∈ o.after, Region.binds .any e = true -> D e.on = true) (hk : D k = false) :
  ∀ t, (Operand.tmp t ∈ o.op.operands ∨ t ∈ jF ops o) -> rel C' w' ((atZ z k).sl t) (a'.tmps.getD t undef) := by
 intro t ht
 have hkn : k < ops.size := (Array.getElem?_eq_some_iff.1 ho).1
 have hrd : t ∈ tmpsOf o ++ jF ops o := by
  rw [List.mem_append]
  exact ht.imp Sn id
 rcases BK hT h0 t k (by omega) with ⟨j, oj, hjk, hj, hdj, e⟩ | ⟨hno, e⟩
 · rw [e]
   have hp := hR.pair j k oj o hjk hj ho
   unfold pairC at hp
   simp only [Bool.and_eq_true, Bool.or_eq_true, Bool.not_eq_true'] at hp
   have hbit : (mkAt ops k).testBit j = true := by
    rcases hp.2 with h | ⟨h, _⟩
    · exact h
    · have : FN oj.dst (tmpsOf o ++ jF ops o) = true := by rw [hdj]; exact IC hrd
      rw [show FN (plOf ops (mkAt ops j) oj).dst (plOf ops (mkAt ops k) o).rd = FN oj.dst (tmpsOf o ++ jF ops o) from rfl, this] at h
      cases h
   exact hDV.s1 j oj t hj hdj (dD hcl k o ho hdep j hbit)
 · rw [e]
   refine hDV.s0 t fun k' o' ho' hk' hdt => ?_
   by_cases h1 : k' < k
   · exact hno k' o' h1 ho' hdt
   · by_cases h2 : k' = k
     · subst h2; rw [hk] at hk'; cases hk'
     · have hp := hR.pair k k' o o' (by omega) ho ho'
       unfold pairC at hp
       simp only [Bool.and_eq_true, Bool.or_eq_true, Bool.not_eq_true'] at hp
       have hbit : (mkAt ops k').testBit k = true := by
        rcases hp.2 with h | ⟨_, h, _⟩
        · exact h
        · have : FN o'.dst (tmpsOf o ++ jF ops o) = true := by rw [hdt]; exact IC hrd
          rw [show FN (plOf ops (mkAt ops k') o').dst (plOf ops (mkAt ops k) o).rd = FN o'.dst (tmpsOf o ++ jF ops o) from rfl, this] at h
          cases h
       have := dD hcl k' o' ho' (hcl k' o' ho' hk') k hbit
       rw [hk] at this
       cases this
def pV (E : CEnv) (top base : Nat) : CEnv := { E with top := top, base := base }
theorem GI (h : E.Ok) (t b : Nat) : (pV E t b).Ok := ⟨h.K, h.I, h.G⟩
theorem uQ (E1 : CEnv) {h : HS} (hle : h.nob <= E1.top) : jf E1 h Eff.none = true := by
 simp only [jf, Eff.none, iG, List.length_nil, Nat.add_zero, List.all_nil, Bool.and_true, Bool.true_and]
 exact Nat.ble_eq_true_of_le hle
theorem DV.light {D D' : Nat -> Bool} {hd : Nat} {a' : Act} {w' : World} {C' : Ctx} (hE : E.Ok) (hDV : DV E ops z σ C w a D hd a' w' C') (hri : gL ops = some ri) (hR : RS ops) (hT : TF E ops rid ri.wd z) (h0 : atZ z 0 = σ) (hcl : Closed ops D)
  (hdyn : ∀ x ∈ ri.ld, Yc E.P ops z.1 z.2 σ.h.nob x)
  {k : Nat} {o : Oper} (ho : ops[k]? = some o) (hdep : ∀ e ∈ o.after, Region.binds .any e = true -> D e.on = true) (hk : D k = false) (hD : ∀ j, D' j = if j = k then true else D j)
  (hpl : RH (cu o.op) = true) {K : Act -> World -> Prop} {Q : Exit -> Act -> World -> Prop} (hK : ∀ a'' w'' C'', DV E ops z σ C w a D' hd a'' w'' C'' -> K a'' w'') :
  if Region.wanted o (yielded ops a'.tmps) then o.wp E.P a' w' K Q else K (a'.put o.dst undef) w' := by
 have hkn : k < ops.size := (Array.getElem?_eq_some_iff.1 ho).1
 have hnh : (cu o.op).jh = false := by cases hh : cu o.op <;> rw [hh] at hpl <;> first | rfl | cases hpl
 have hnhv : ¬ hvAt ops k := by
  rintro ⟨o', ho', h⟩
  rw [ho] at ho'; injection ho' with ho'; subst ho'
  rw [hnh] at h; cases h
 obtain ⟨s, h', hz, hok, hval, hnext⟩ := hT.st k o ho
 have hsv : svZ z k = s := by unfold svZ; rw [hz]
 rw [Bw hri ho hnh] at hok hval
 have hh' : h' = (atZ z k).h := (GK hnh hok hval).2 hpl
 have hnob : (atZ z (k + 1)).h.nob = (atZ z k).h.nob := by rw [hnext]; show h'.nob = _; rw [hh']
 have hreads := hDV.reads hR hT h0 hcl ho hdep hk
 obtain ⟨hdd, hcases⟩ := qJ hok hval
 have enough : ∀ (g : Nat -> Option Ob), ObsOk C' w' g -> (stC (pV E E.top E.top) ops rid k o ⟨(atZ z k).sl, ⟨g, E.top⟩⟩).holds (fun y => ∀ (C : Ctx) (w : World) (v : Value), rel C w y.1 v -> rel C w s v) ->
   if Region.wanted o (yielded ops a'.tmps) then o.wp E.P a' w' K Q else K (a'.put o.dst undef) w' := by
  intro g hg hh
  have hokk : HOk (pV E E.top E.top).top ⟨g, E.top⟩ C' w' := ⟨hDV.wf, hg, fun i h1 h2 => by
   have h1 : E.top <= i := h1
   have h2 : i < E.top := h2
   omega⟩
  refine pY (GI hE _ _) hokk hDV.sz hreads hh fun _ y v w'' C'' hp hst hk2 hr => ?_
  have hst0 : Step (fun _ => False) C' w' C'' w'' := hst.st.mono fun i hi => by
   have h1 : E.top <= i := hi.1
   have h2 : i < E.top := hi.2
   omega
  have hν : ∀ i, C''.ν i = C'.ν i := fun i => hst.tp i (by
   show i < E.top ∨ E.top <= i
   omega)
  obtain ⟨q1, q2, q3, q4, q5⟩ := hDV.slots hR hst0 ho hD hdd (v := v) (by rw [hsv]; exact hp _ _ _ hr)
  refine hK _ _ C'' ⟨hDV.hdle, hDV.hdh, fun j hj => ?_, fun j hj => ?_, hk2.wf, q1, q2, q3, q4, fun i ob hi hob => ?_, fun j i ob hj h1 h2 hob => ?_, fun i h1 h2 h3 => ?_, ?_, q5⟩
  · rw [hD, if_neg (by rintro rfl; exact hnhv hj)]
    exact hDV.hv j hj
  · rw [hD] at hj
    split at hj
    · rename_i e; rw [e]; exact hkn
    · exact hDV.lt j hj
  · exact bZ hDV.wf hst0 id _ (hDV.o0 i ob hi hob)
  · rw [hD] at hj
    by_cases hjk : j = k
    · subst hjk; omega
    · rw [if_neg hjk] at hj
      exact bZ hDV.wf hst0 id _ (hDV.ok j i ob hj h1 h2 hob)
  · rw [hν] at h3
    obtain ⟨j, h4, h5⟩ := hDV.nm i h1 h2 h3
    exact ⟨j, by rw [hD]; split <;> simp_all, h5⟩
  · exact ⟨Step.trans hDV.wf hDV.st.st (hst0.mono fun _ h => h.elim), fun i hi => (hν i).trans (hDV.st.tp i hi)⟩
 rcases hcases with ⟨_, hy, hs⟩ | ⟨hskip, hgo⟩
 · refine enough (fun _ => none) (fun i ob h => by cases h) ?_
   rw [hs (pV E E.top E.top) _ rfl]
   injection hy with hy1 hy2
   show ∀ (C : Ctx) (w : World) (v : Value), rel C w dZ v -> rel C w s v
   rw [hy1]
   exact fun _ _ _ h => h
 · have e0 : stC E ops rid k o (atZ z k) = bG E rid k (evC (atZ z k).sl) (atZ z k).h o := hgo E (atZ z k).h rfl
   rw [e0, qj hnh] at hok hval
   obtain ⟨r, r1, r2, r3, r4, hy⟩ := zw hok hval
   injection hy with hy1 hy2
   have same : ∀ (g : Nat -> Option Ob), ObsOk C' w' g -> cxE E.P (evC (atZ z k).sl) g E.top o = cxE E.P (evC (atZ z k).sl) (atZ z k).h.obj (atZ z k).h.nob o -> if Region.wanted o (yielded ops a'.tmps) then o.wp E.P a' w' K Q else K (a'.put o.dst undef) w' := by
    intro g hg he
    refine enough g hg ?_
    rw [hgo (pV E E.top E.top) ⟨g, E.top⟩ rfl, qj hnh]
    refine T.aD (p := fun y => y = (r.sv, (⟨g, E.top⟩ : HS).eff r.eff)) (fun y hy C w v hr => by rw [hy] at hr; rw [hy1]; exact hr) _ ?_
    have he' : cxE (pV E E.top E.top).P (evC (atZ z k).sl) (⟨g, E.top⟩ : HS).obj (⟨g, E.top⟩ : HS).nob o = cxE E.P (evC (atZ z k).sl) (atZ z k).h.obj (atZ z k).h.nob o := he
    rw [he']
    exact Ga r1 r2 r3 (by rw [uN hpl r2]; exact uQ _ (Nat.le_refl _))
   cases hkd : cu o.op with
   | heavy => rw [hkd] at hpl; cases hpl
   | alloc => rw [hkd] at hpl; cases hpl
   | pure => exact same (fun _ => none) (fun i ob h => by cases h) (Ra hkd)
   | load =>
     have hcand : ∀ h, hvAt ops h -> (hd <= h -> (mkAt ops k).testBit h = false) /\ (h < hd -> (mkAt ops h).testBit k = false) := by
      intro h hh
      refine ⟨fun hle => ?_, fun hlt => ?_⟩
      · cases hb : (mkAt ops k).testBit h with
        | false => rfl
        | true =>
          have := (hDV.hv h hh).1 (dD hcl k o ho hdep h hb)
          omega
      · cases hb : (mkAt ops h).testBit k with
        | false => rfl
        | true =>
          obtain ⟨oh, hoh, _⟩ := hh
          have hDh := (hDV.hv h ⟨oh, hoh, by assumption⟩).2 hlt
          have := dD hcl h oh hoh (hcl h oh hoh hDh) k hb
          rw [hk] at this; cases this
     let y := plOf ops (mkAt ops k) o
     have hlist := (jJ hri).2.1 k o ho hkd
     by_cases hc : hd < k ∨ ∃ h, hvAt ops h /\ k <= h /\ h < hd
     ·
      have hmem : hd ∈ sD (kS ops) k (plOf ops (mkAt ops k) o) := Pn hDV.hdh (fun h hh hle => (hcand h hh).1 hle) (fun h hh hlt => (hcand h hh).2 hlt) hc
      have hin : (k, Cw (kS ops) k (plOf ops (mkAt ops k) o), sD (kS ops) k (plOf ops (mkAt ops k) o)) ∈ ri.ld := by
       rcases hlist with ⟨_, h⟩ | h
       · rw [h] at hmem; simp at hmem
       · exact h
      obtain ⟨ht, hq⟩ := hdyn _ hin o (atZ z k, s) ho hz hskip
      obtain ⟨r', hr', hsame⟩ := hq hd hmem
      rw [Wj] at hr'
      have hσ : σ.h.nob = (atZ z 0).h.nob := by rw [h0]
      let g : Nat -> Option Ob := fun i => if i ∈ tgt (evC (atZ z k).sl) o then (atZ z hd).h.obj i else none
      have hg : ObsOk C' w' g := fun i ob h => by
       have h : (if i ∈ tgt (evC (atZ z k).sl) o then (atZ z hd).h.obj i else none) = some ob := h
       split at h
       · rename_i hi
         have hti := ht i hi
         by_cases hi0 : i < (atZ z 0).h.nob
         · exact hDV.o0 i ob hi0 h
         · cases hold : Cw (kS ops) k (plOf ops (mkAt ops k) o) with
           | true =>
             rw [hold] at hti
             have hti : i < σ.h.nob := hti
             omega
           | false =>
             rw [hold] at hti
             have hik : i < (atZ z k).h.nob := hti
             obtain ⟨j, j1, j2, j3⟩ := qb hT k (by omega) (by omega) hik
             have hoj : ops[j]? = some ops[j] := Array.getElem?_eq_getElem (by omega)
             have hmk := uz hri hT hoj (by omega)
             have hDj := dD hcl k o ho hdep j (rQ hold j1 hoj hmk)
             have hih : i < (atZ z hd).h.nob := by
              rcases Nat.lt_or_ge i (atZ z hd).h.nob with h4 | h4
              · exact h4
              · rw [hT.ok hd hDV.hdle i h4] at h; cases h
             rcases Nat.lt_or_ge j hd with h6 | h6
             · refine hDV.ok j i ob hDj j2 j3 ?_
               rw [show max hd (j + 1) = hd by omega]
               exact h
             · have := cZ hT h6 (by omega)
               omega
       · cases h
      have he : cxE E.P (evC (atZ z k).sl) g E.top o = .ret r' := by
       rw [← hr']
       refine Ih hkd fun i hi => ?_
       show (if i ∈ tgt (evC (atZ z k).sl) o then (atZ z hd).h.obj i else none) = _
       rw [if_pos hi]
      refine enough g hg ?_
      rw [hgo (pV E E.top E.top) ⟨g, E.top⟩ rfl, qj hnh]
      have he' : cxE (pV E E.top E.top).P (evC (atZ z k).sl) (⟨g, E.top⟩ : HS).obj (⟨g, E.top⟩ : HS).nob o = .ret r' := he
      rw [he']
      have hre : r'.eff = Eff.none := uN (P := E.P) (rw := evC (atZ z k).sl) (g := g) (new := E.top) hpl (by rw [he]; rfl)
      refine T.aD (p := fun y => y = (r'.sv, (⟨g, E.top⟩ : HS).eff r'.eff)) (fun y hy C w v hr => by rw [hy] at hr; exact hsame C w v hr) _ ?_
      exact Ga trivial rfl rfl (by rw [hre]; exact uQ _ (Nat.le_refl _))
     ·
      have hkhd : k <= hd := by
       rcases Nat.lt_or_ge hd k with h | h
       · exact absurd (.inl h) hc
       · exact h
      have hst : ∀ i, i < (atZ z k).h.nob -> (atZ z hd).h.obj i = (atZ z k).h.obj i := fun i hi => kK hri hT hkhd hDV.hdle (fun h h1 h2 hh => hc (.inr ⟨h, hh, h1, h2⟩)) hi
      let g : Nat -> Option Ob := fun i => if i ∈ tgt (evC (atZ z k).sl) o then (atZ z k).h.obj i else none
      have hg : ObsOk C' w' g := fun i ob h => by
       have h : (if i ∈ tgt (evC (atZ z k).sl) o then (atZ z k).h.obj i else none) = some ob := h
       split at h
       · rename_i hi
         have hik : i < (atZ z k).h.nob := by
          rcases Nat.lt_or_ge i (atZ z k).h.nob with h4 | h4
          · exact h4
          · rw [hT.ok k (by omega) i h4] at h; cases h
         by_cases hi0 : i < (atZ z 0).h.nob
         · exact hDV.o0 i ob hi0 (by rw [hst i hik]; exact h)
         ·
          obtain ⟨j, j1, j2, j3⟩ := qb hT k (by omega) (by omega) hik
          have hoj : ops[j]? = some ops[j] := Array.getElem?_eq_getElem (by omega)
          have hmk := uz hri hT hoj (by omega)
          have hbit : (mkAt ops k).testBit j = true := by
              rcases hlist with ⟨h5, _⟩ | h5
              · exact rQ h5 j1 hoj hmk
              · obtain ⟨ht, _⟩ := hdyn _ h5 o (atZ z k, s) ho hz hskip
                have hti := ht i hi
                cases hold : Cw (kS ops) k (plOf ops (mkAt ops k) o) with
                | true =>
                  rw [hold] at hti
                  have hti : i < σ.h.nob := hti
                  rw [← h0] at hti
                  omega
                | false => exact rQ hold j1 hoj hmk
          have hDj := dD hcl k o ho hdep j hbit
          refine hDV.ok j i ob hDj j2 j3 ?_
          rw [show max hd (j + 1) = hd by omega, hst i hik]
          exact h
       · cases h
      refine same g hg (Ih hkd fun i hi => ?_)
      show (if i ∈ tgt (evC (atZ z k).sl) o then (atZ z k).h.obj i else none) = _
      rw [if_pos hi]
end
end Rx
