/- Rx, part X5: a region that draws its order, for the kernel: it does as the specification says. -/
import Derived.Test.YtkbdcpkbmfegdaaGreatDoorRxX4
set_option linter.unusedSectionVars false
set_option linter.unusedSimpArgs false
set_option linter.unusedVariables false
namespace Rx
open Go
variable [Glob]
noncomputable section
theorem gM {b : Bool} {c : R} {post : SV × HD -> Prop} (h : (BR b c .fail).holds post) : b = true /\ c.holds post := by
 rw [dI] at h
 cases b
 · exact h.elim
 · exact ⟨rfl, h⟩
theorem S9 {a b : Bool} (h : eqB a b = true) : a = b := by
 cases a <;> cases b <;> first | rfl | cases h
theorem mF {a b : Nat} (h : Nat.beq a b = true) : a = b := Nat.eq_of_beq_eq_true h
theorem dP {a b : SV} {c : R} {post : SV × HD -> Prop} (h : (jh a b c).holds post) : a = b /\ c.holds post := by
 unfold jh at h
 split at h
 · obtain ⟨hb, h'⟩ := gM h
   simp only [Bool.and_eq_true, eG, decide_eq_true_eq, xM] at hb
   rw [hb.1, hb.2]
   exact ⟨rfl, h'⟩
 · obtain ⟨hb, h⟩ := gM h
   rw [S9 hb]
   exact ⟨rfl, h⟩
 · obtain ⟨hb, h⟩ := gM h
   simp only [Bool.and_eq_true] at hb
   rw [mF hb.1, mF hb.2]
   exact ⟨rfl, h⟩
 · obtain ⟨hb, h⟩ := gM h
   simp only [Bool.and_eq_true] at hb
   rw [mF hb.1, mF hb.2.1, mF hb.2.2.1, mF hb.2.2.2]
   exact ⟨rfl, h⟩
 · obtain ⟨hb, h⟩ := gM h
   simp only [Bool.and_eq_true] at hb
   rw [mF hb.1, mF hb.2.1, mF hb.2.2.1, mF hb.2.2.2]
   exact ⟨rfl, h⟩
 · obtain ⟨hb, h⟩ := gM h
   simp only [Bool.and_eq_true] at hb
   rw [mF hb.1, mF hb.2.1, mF hb.2.2.1, mF hb.2.2.2.1, mF hb.2.2.2.2]
   exact ⟨rfl, h⟩
 · exact ⟨rfl, h⟩
 · exact ⟨rfl, h⟩
 · rename_i s t
   obtain ⟨hb, h'⟩ := gM h
   have e : s.data.toList = t.data.toList := by simpa using hb
   have : s = t := by
    cases s with | mk s => cases t with | mk t =>
    congr 1
    exact Array.toList_inj.1 e
   rw [this]
   exact ⟨rfl, h'⟩
 · obtain ⟨hb, h⟩ := gM h
   rw [mF hb]
   exact ⟨rfl, h⟩
 · obtain ⟨hb, h'⟩ := gM h
   simp only [Bool.and_eq_true, eG, decide_eq_true_eq, xM] at hb
   rw [hb.1, hb.2]
   exact ⟨rfl, h'⟩
 · obtain ⟨hb, h'⟩ := gM h
   rw [S9 hb]
   exact ⟨rfl, h'⟩
 · obtain ⟨hb, h'⟩ := gM h
   simp only [Bool.and_eq_true, eG, decide_eq_true_eq, xM] at hb
   rw [hb.1, hb.2.1, hb.2.2, h'.1]
   exact ⟨rfl, h'.2⟩
 · exact ⟨by rw [h.1], h.2⟩
 · exact h
theorem K7 {c : R} {post : SV × HD -> Prop} : ∀ {l m : List SV}, (aa4 l m c).holds post -> l = m /\ c.holds post
 | [], [], h => ⟨rfl, h⟩
 | [], _ :: _, h => h.elim
 | _ :: _, [], h => h.elim
 | x :: l, y :: m, h => by
   obtain ⟨h1, h2⟩ := dP (show (jh x y (aa4 l m c)).holds post from h)
   obtain ⟨h3, h4⟩ := K7 h2
   rw [h1, h3]
   exact ⟨rfl, h4⟩
theorem Xp {a b : SV} {c : R} {post : SV × HD -> Prop} (h : (svQ a b c).holds post) : a = b /\ c.holds post := by
 unfold svQ at h
 split at h
 · obtain ⟨h1, h2⟩ := K7 h
   rw [h1]
   exact ⟨rfl, h2⟩
 · exact dP h
def abZ (P : Program) (fl : Nat) (ops : Array Oper) (sts : List FSt) (nob : Nat) (x : Nat × Bool × List Nat) : Prop :=
 ∀ o s s', ops[x.1]? = some o -> sts[x.1]? = some s -> sts[x.1 + 1]? = some s' -> iT ops o (s.cs fl) = false -> (∀ i ∈ tgt (evG fl s.sl s.lo) o, i < lim x nob s.nb) /\
   ∃ d, o.dst = some d /\ ∀ q ∈ x.2.2, ∃ sq r, sts[q]? = some sq /\ cxE P (evG fl s.sl s.lo) (av sq.ob) 0 o = .ret r /\ r.sv = view fl s'.sl s'.lo d
theorem dQ {a b : SV} {c : R} {post : SV × HD -> Prop} (h : (aa5 a b c).holds post) : a = b /\ c.holds post := by
 cases a with
 | dt d => cases b with
   | dt d' => exact dP (show (jh (.dt d) (.dt d') c).holds post from h)
   | _ => exact h.elim
 | ptr i o => cases b with
   | ptr j p =>
     have h : (BR (aP (Nat.beq i j) (Nat.beq o p)) c .fail).holds post := h
     rw [iI] at h
     exact dP (show (jh (.ptr i o) (.ptr j p) c).holds post from h)
   | _ => exact h.elim
 | kb p => cases b with
   | kb q => exact dP (show (jh (.kb p) (.kb q) c).holds post from h)
   | _ => exact h.elim
 | ki k n => cases b with
   | ki k' m =>
     have h : (BR (aP (eG k k') (eqI n m)) c .fail).holds post := h
     rw [iI] at h
     exact dP (show (jh (.ki k n) (.ki k' m) c).holds post from h)
   | _ => exact h.elim
 | nm i => cases b with
   | nm j => exact dP (show (jh (.nm i) (.nm j) c).holds post from h)
   | _ => exact h.elim
 | rp i o y z => cases b with
   | rp i' o' y' z' =>
     have h : (BR (aP (Nat.beq i i') (aP (Nat.beq o o') (aP (Nat.beq y y') (Nat.beq z z')))) c .fail).holds post := h
     simp only [iI] at h
     exact dP (show (jh (.rp i o y z) (.rp i' o' y' z') c).holds post from h)
   | _ => exact h.elim
 | ri k a b' n => cases b with
   | ri k' a' b'' n' =>
     have h : (BR (aP (eG k k') (aP (eqI a a') (eqI b' b''))) (.need (n = n') c) .fail).holds post := h
     simp only [iI] at h
     exact dP (show (jh (.ri k a b' n) (.ri k' a' b'' n') c).holds post from h)
   | _ => exact h.elim
 | sl i o y z k => cases b with
   | sl i' o' y' z' k' =>
     have h : (BR (aP (Nat.beq i i') (aP (Nat.beq o o') (aP (Nat.beq y y') (Nat.beq z z')))) (onQ k k' c) .fail).holds post := h
     simp only [iI] at h
     obtain ⟨h1, h2⟩ := gM h
     simp only [Bool.and_eq_true] at h1
     obtain ⟨e1, e2, e3, e4⟩ := h1
     cases mF e1
     cases mF e2
     cases mF e3
     cases mF e4
     cases k with
     | none => cases k' with
       | none => exact ⟨rfl, h2⟩
       | some _ => exact h2.elim
     | some m => cases k' with
       | none => exact h2.elim
       | some m' =>
         obtain ⟨h1, h3⟩ := gM (show (BR (Nat.beq m m') c .fail).holds post from h2)
         cases mF h1
         exact ⟨rfl, h3⟩
   | _ => exact h.elim
 | sy s => cases b with
   | sy t =>
     have h : s = t /\ c.holds post := h
     exact ⟨by rw [h.1], h.2⟩
   | _ => exact h.elim
 | junk => exact dP (show (jh .junk b c).holds post from h)
 | agg l => exact dP (show (jh (.agg l) b c).holds post from h)
 | tup l => exact dP (show (jh (.tup l) b c).holds post from h)
 | el m g => exact dP (show (jh (.el m g) b c).holds post from h)
 | fn f l => exact dP (show (jh (.fn f l) b c).holds post from h)
theorem K8 {c : R} {post : SV × HD -> Prop} : ∀ {l m : List SV}, (Xq l m c).holds post -> l = m /\ c.holds post
 | [], [], h => ⟨rfl, h⟩
 | [], _ :: _, h => h.elim
 | _ :: _, [], h => h.elim
 | x :: l, y :: m, h => by
   obtain ⟨h1, h2⟩ := dQ (show (aa5 x y (Xq l m c)).holds post from h)
   obtain ⟨h3, h4⟩ := K8 h2
   rw [h1, h3]
   exact ⟨rfl, h4⟩
theorem Xr {a b : SV} {c : R} {post : SV × HD -> Prop} (h : (svS a b c).holds post) : a = b /\ c.holds post := by
 cases a with
 | agg l => cases b with
   | agg m =>
     obtain ⟨h1, h2⟩ := K8 (show (Xq l m c).holds post from h)
     rw [h1]
     exact ⟨rfl, h2⟩
   | _ => exact h.elim
 | junk => exact dQ (a := .junk) h
 | dt d => exact dQ (a := .dt d) h
 | tup l => exact dQ (a := .tup l) h
 | ptr i o => exact dQ (a := .ptr i o) h
 | el m g => exact dQ (a := .el m g) h
 | fn f l => exact dQ (a := .fn f l) h
 | kb p => exact dQ (a := .kb p) h
 | ki k n => exact dQ (a := .ki k n) h
 | nm i => exact dQ (a := .nm i) h
 | rp i o y z => exact dQ (a := .rp i o y z) h
 | ri k a b n => exact dQ (a := .ri k a b n) h
 | sl i o y z k => exact dQ (a := .sl i o y z k) h
 | sy s => exact dQ (a := .sy s) h
theorem Qy {s : SV} {P : Program} {t : TypeId} {ob : OB} {g : R} {k : SV -> R} {post : SV × HD -> Prop} (h : (TW s P t ob g k).holds post) : g.holds post ∨ ∃ v, fV P (av ob) t s = .ret v /\ (k (nK v)).holds post := by
 cases s with
 | ptr i off =>
   have h : (TQ (av ob i) P t off g k).holds post := h
   cases hg : av ob i with
   | none => rw [hg] at h; exact h.elim
   | some b =>
     rw [hg] at h
     cases b with
     | cells t' cs =>
       have h : (oB (ldK P t) .fail g (Kt cs off .fail fun s => k (nKS s))).holds post := h
       rw [OJ] at h
       unfold ldK at h
       cases ha : pE P t with
       | none => simp only [ha] at h; exact h.elim
       | some b =>
         cases hz : bF P t with
         | none => simp only [ha, hz] at h; exact h.elim
         | some n =>
           simp only [ha, hz] at h
           cases b with
           | true => exact .inl h
           | false =>
             rw [cond_false, Ak] at h
             split at h
             · rename_i s hs
               rw [xZ] at h
               exact .inr ⟨s, by simp only [fV, gJ, ha, hz, hg, hs], h⟩
             · exact h.elim
     | _ => exact h.elim
 | rp i idx sz off =>
   have h : (Zu (av ob i) P t idx sz off g k).holds post := h
   cases hg : av ob i with
   | none => rw [hg] at h; exact .inl h
   | some b =>
     rw [hg] at h
     cases b with
     | vec t' sz' len tr ex =>
       have h : (oB (ldK P t) .fail (szK P t fun n => BR (aP (Nat.beq sz sz') (aP (Nat.ble (Nat.add off n) sz) (Nat.blt idx len))) (k (.agg (oP tr n (Nat.add (Nat.mul idx sz) off)))) .fail) (BR (aP (Nat.beq sz sz') (aP (Nat.blt off sz) (Nat.blt idx len))) (k (nKS (iF tr (Nat.add (Nat.mul idx sz) off)))) .fail)).holds post := h
       rw [OJ] at h
       unfold ldK at h
       simp only [iI, Nat.add_eq, Nat.mul_eq] at h
       cases ha : pE P t with
       | none => simp only [ha] at h; exact h.elim
       | some b =>
         cases hz : bF P t with
         | none => simp only [ha, hz] at h; exact h.elim
         | some n =>
           simp only [ha, hz] at h
           cases b with
           | true =>
             unfold szK at h
             simp only [hz, cond_true] at h
             rw [dI] at h
             cases hb : (Nat.beq sz sz' && (Nat.ble (off + n) sz && Nat.blt idx len)) with
             | false => rw [hb] at h; exact h.elim
             | true =>
               rw [hb, cond_true, oQ] at h
               exact .inr ⟨.agg (eY tr (idx * sz + off) n), by simp only [fV, ha, hz, hg, hb]; rfl, h⟩
           | false =>
             rw [cond_false, dI] at h
             cases hb : (Nat.beq sz sz' && (Nat.blt off sz && Nat.blt idx len)) with
             | false => rw [hb] at h; exact h.elim
             | true =>
               rw [hb, cond_true, BD, xZ] at h
               exact .inr ⟨_, by simp only [fV, ha, hz, hg, hb]; rfl, h⟩
     | _ => exact .inl h
 | _ => exact .inl h
theorem Aj (l : List FSt) : ∀ (n : Nat) (f : R) (k : FSt -> R), Un l n f k = match l[n]? with
  | some s => k s
  | none => f := by
 induction l with
 | nil => intro n f k; rfl
 | cons s l ih =>
   intro n f k
   cases n with
   | zero => rfl
   | succ n => exact ih n f k
theorem FB {P : Program} {fl : Nat} {o : Oper} {s : FSt} {y : SV} {c : R} {sq : FSt} {post : SV × HD -> Prop} (h : (Fz P fl o s y c sq).holds post) : c.holds post /\ ∃ r, cxE P (evG fl s.sl s.lo) (av sq.ob) 0 o = .ret r /\ r.sv = y := by
 unfold Fz at h
 split at h
 · rename_i r hr
   obtain ⟨h1, h2⟩ := Xp h
   exact ⟨h2, r, hr, h1⟩
 · exact h.elim
theorem K3 {o : Oper} {t : TypeId} {x : Operand} (h : stB o = some (t, x)) : o.op = .load t x := by
 unfold stB at h
 split at h
 · rename_i t' x' e
   cases h
   exact e
 · cases h
theorem Xm {P : Program} {fl : Nat} {sts : List FSt} {o : Oper} {s : FSt} {y : SV} {q : Nat} {c : R} {post : SV × HD -> Prop} (h : (stQ P fl sts o s y q c).holds post) :
  c.holds post /\ ∃ sq r, sts[q]? = some sq /\ cxE P (evG fl s.sl s.lo) (av sq.ob) 0 o = .ret r /\ r.sv = y := by
 unfold stQ at h
 rw [Aj] at h
 split at h
 · rename_i sq hsq
   cases hb : stB o with
   | none =>
     rw [hb] at h
     obtain ⟨h1, r, h2, h3⟩ := FB (show (Fz P fl o s y c sq).holds post from h)
     exact ⟨h1, sq, r, hsq, h2, h3⟩
   | some tx =>
     obtain ⟨t, x⟩ := tx
     rw [hb] at h
     have ho := K3 hb
     rcases Qy (show (TW (evG fl s.sl s.lo x) P t sq.ob (Fz P fl o s y c sq) (fun z => svS z y c)).holds post from h) with h | ⟨v, hv, h⟩
     · obtain ⟨h1, r, h2, h3⟩ := FB h
       exact ⟨h1, sq, r, hsq, h2, h3⟩
     · obtain ⟨h1, h2⟩ := Xr h
       refine ⟨h2, sq, ⟨nK v, .none⟩, hsq, ?_, h1⟩
       have eC : cxE P (evG fl s.sl s.lo) (av sq.ob) 0 o = (fV P (av sq.ob) t (evG fl s.sl s.lo x)).bind kg := by unfold cxE; simp only [ho]
       rw [eC, hv]
       rfl
 · exact h.elim
theorem OQ {P : Program} {fl : Nat} {sts : List FSt} {o : Oper} {s : FSt} {y : SV} {c : R} {post : SV × HD -> Prop} : ∀ {qs : List Nat}, (qsQ P fl sts o s y qs c).holds post ->
  c.holds post /\ ∀ q ∈ qs, ∃ sq r, sts[q]? = some sq /\ cxE P (evG fl s.sl s.lo) (av sq.ob) 0 o = .ret r /\ r.sv = y
 | [], h => ⟨h, fun q hq => by cases hq⟩
 | q :: qs, h => by
   obtain ⟨h1, h2⟩ := Xm (show (stQ P fl sts o s y q (qsQ P fl sts o s y qs c)).holds post from h)
   obtain ⟨h3, h4⟩ := OQ h1
   refine ⟨h3, fun q' hq => ?_⟩
   rcases List.mem_cons.1 hq with rfl | hq
   · exact h2
   · exact h4 q' hq
theorem QH {s : SV} {n : Nat} (h : Zy s n = true) : ∀ i ∈ lg s, i < n := by
 cases s with
 | ptr i o =>
   intro j hj
   have : Nat.blt i n = true := h
   rw [Nat.blt_eq] at this
   simp only [lg, List.mem_singleton] at hj
   omega
 | rp i a z o =>
   intro j hj
   have : Nat.blt i n = true := h
   rw [Nat.blt_eq] at this
   simp only [lg, List.mem_singleton] at hj
   omega
 | _ => intro j hj; cases hj
theorem Y7 {fl nob : Nat} {o : Oper} {s : FSt} (h : tgQ fl nob o s = true) : ∀ i ∈ tgt (evG fl s.sl s.lo) o, i < nob := by
 unfold tgQ at h
 cases hb : stB o with
 | none =>
   rw [hb] at h
   intro i hi
   have := List.all_eq_true.1 h i hi
   simpa [Nat.blt_eq] using this
 | some tx =>
   obtain ⟨t, x⟩ := tx
   rw [hb] at h
   have ho := K3 hb
   intro i hi
   have e : tgt (evG fl s.sl s.lo) o = lg (evG fl s.sl s.lo x) := by unfold tgt; simp only [ho]
   rw [e] at hi
   exact QH h i hi
theorem aa1 (ops : Array Oper) (fl : Nat) (o : Oper) (s : FSt) : skQ ops fl o s = iT ops o (s.cs fl) := by
 unfold skQ
 cases h : o.guard with
 | none => unfold iT; rw [h]
 | some g => rfl
theorem Ux {P : Program} {fl : Nat} {ops : Array Oper} {sts : List FSt} {nob : Nat} {x : Nat × Bool × List Nat} {c : R} {post : SV × HD -> Prop} (h : (WT P fl ops sts nob x c).holds post) : c.holds post /\ abZ P fl ops sts nob x := by
 unfold WT at h
 cases h1 : ops[x.1]? with
 | none => rw [h1] at h; exact h.elim
 | some o =>
   rw [h1] at h
   have h : (Uw P fl ops sts nob x c o).holds post := h
   unfold Uw at h
   rw [Aj] at h
   split at h
   · rename_i s h2
     rw [dI, aa1] at h
     cases hs : iT ops o (s.cs fl) with
     | true =>
       rw [hs, cond_true, Aj] at h
       split at h
       · rename_i s' h3
         refine ⟨h, fun o' s1 s1' e1 e2 e3 e4 => ?_⟩
         rw [h1] at e1; injection e1 with e1; subst e1
         rw [h2] at e2; injection e2 with e2; subst e2
         rw [hs] at e4; cases e4
       · exact h.elim
     | false =>
       rw [hs, cond_false] at h
       obtain ⟨h4, h⟩ := gM h
       rw [Aj] at h
       split at h
       · rename_i s' h3
         cases hd : o.dst with
         | none => rw [hd] at h; exact h.elim
         | some d =>
           rw [hd] at h
           obtain ⟨h5, h6⟩ := OQ (show (qsQ P fl sts o s (view fl s'.sl s'.lo d) x.2.2 c).holds post from h)
           refine ⟨h5, fun o' s1 s1' e1 e2 e3 e4 => ?_⟩
           rw [h1] at e1; injection e1 with e1; subst e1
           rw [h2] at e2; injection e2 with e2; subst e2
           have h3 : sts[x.1 + 1]? = some s' := h3
           rw [h3] at e3; injection e3 with e3; subst e3
           exact ⟨Y7 h4, d, hd, h6⟩
       · exact h.elim
   · exact h.elim
theorem Jt {P : Program} {fl : Nat} {ops : Array Oper} {sts : List FSt} {nob : Nat} {c : R} {post : SV × HD -> Prop} : ∀ {l : List (Nat × Bool × List Nat)}, (Vw P fl ops sts nob l c).holds post -> c.holds post /\ ∀ x ∈ l, abZ P fl ops sts nob x
 | [], h => ⟨h, fun x hx => by cases hx⟩
 | x :: l, h => by
   obtain ⟨h1, h2⟩ := Ux (show (WT P fl ops sts nob x (Vw P fl ops sts nob l c)).holds post from h)
   obtain ⟨h3, h4⟩ := Jt h1
   refine ⟨h3, fun y hy => ?_⟩
   rcases List.mem_cons.1 hy with rfl | hy
   · exact h2
   · exact h4 y hy
def Ry (fl : Nat) : List Oper -> List FSt -> List (CS × SV) -> CS -> Prop
 | [], [s], [], z => z = s.cs fl
 | o :: l, s :: s' :: r, y :: t, z => y.1 = s.cs fl /\ (s'.cs fl).sl = putT o.dst y.2 (s.cs fl).sl /\ Ry fl l (s' :: r) t z
 | _, _, _, _ => False
theorem N7 {fl : Nat} {z : CS} : ∀ {l : List Oper} {sts : List FSt} {tr : List (CS × SV)}, Ry fl l sts tr z -> (∀ q sq, sts[q]? = some sq -> hsAt tr z q = (sq.cs fl).h) /\
  ∀ k o y, l[k]? = some o -> tr[k]? = some y -> ∃ s s', sts[k]? = some s /\ sts[k + 1]? = some s' /\ y.1 = s.cs fl /\ (s'.cs fl).sl = putT o.dst y.2 (s.cs fl).sl
 | [], [s], [], h => by
   have h : z = s.cs fl := h
   refine ⟨fun q sq hq => ?_, fun k o y ho => by simp at ho⟩
   cases q with
   | zero => simp at hq; subst hq; simp [hsAt, h]
   | succ q => simp at hq
 | [], [], _, h => h.elim
 | [], _ :: _ :: _, _, h => by cases h
 | [], [_], _ :: _, h => h.elim
 | _ :: _, [], _, h => by cases h
 | _ :: _, [_], _, h => by cases h
 | _ :: _, _ :: _ :: _, [], h => h.elim
 | o :: l, s :: s' :: r, y :: t, h => by
   obtain ⟨h1, h2, h3⟩ := h
   obtain ⟨h4, h5⟩ := N7 h3
   refine ⟨fun q sq hq => ?_, fun k o' y' ho hy => ?_⟩
   · cases q with
     | zero => simp at hq; subst hq; simp [hsAt, h1]
     | succ q =>
       have := h4 q sq (by simpa using hq)
       simpa [hsAt] using this
   · cases k with
     | zero =>
       simp at ho hy
       subst ho; subst hy
       exact ⟨s, s', rfl, rfl, h1, h2⟩
     | succ k =>
       obtain ⟨u, u', q1, q2, q3⟩ := h5 k o' y' (by simpa using ho) (by simpa using hy)
       exact ⟨u, u', by simpa using q1, by simpa using q2, q3⟩
section
variable {E : CEnv} {X : EX} {fl : Nat} {post : SV × HD -> Prop}
theorem XRef.tQ (h : XRef X E) (n : Nat) : XRef ⟨X.I, n, X.base, X.W⟩ { E with top := n } := ⟨h.I, rfl, h.base, h.W, h.K⟩
theorem Ky (hE : E.Ok) {ops : Array Oper} {k : KT} {rid : Nat} {wd : List Nat} (hX : XRef X E) (hok : okD E.N ops = true) (hN : E.N <= 16777215) : ∀ (l : List Oper) (i : Nat) (s : FSt) (acc : List FSt), (∀ o ∈ l, gI E.N o.dst = true) -> dJ E.top s.nb -> FOk s.ob s.nb ->
  (QF E.P X fl (E.win rid) wd ops l i s acc k).holds post -> (eH E ops rid wd i l (s.cs fl)).holds fun z => ∃ sts, Ry fl l (s :: sts) z.1 z.2 /\ (k ((s :: sts).reverse ++ acc)).holds post
 | [], i, s, acc, _, _, _, h => ⟨[], rfl, h⟩
 | o :: l, i, s, acc, hd, hT, hF, h => by
   have h : (BR (jG i wd)
     (BR (Nat.ble (s.nb + E.win rid) X.top) (fN (s.nb + E.win rid) fun n => stG E.P ⟨X.I, n, X.base, X.W⟩ fl ops o (fun sl lo ob _ _ => QF E.P X fl (E.win rid) wd ops l (Nat.succ i) ⟨sl, lo, ob, n⟩ (s :: acc) k) s.sl s.lo s.ob s.nb (fun _ _ _ => .fail)) .fail)
     (stG E.P X fl ops o (fun sl lo ob nb _ => QF E.P X fl (E.win rid) wd ops l (Nat.succ i) ⟨sl, lo, ob, nb⟩ (s :: acc) k) s.sl s.lo s.ob s.nb (fun _ _ _ => .fail))).holds post := h
   simp only [eH, T.ak]
   have hdo := hd o (by simp)
   have next : ∀ (y : SV × HS) (s' : FSt), (⟨putT o.dst y.1 (view fl s.sl s.lo), y.2⟩ : CS) = s'.cs fl -> dJ E.top s'.nb -> FOk s'.ob s'.nb -> (QF E.P X fl (E.win rid) wd ops l (Nat.succ i) s' (s :: acc) k).holds post ->
        T.holds (fun a => T.holds (fun z => ∃ sts, Ry fl (o :: l) (s :: sts) z.1 z.2 /\ (k ((s :: sts).reverse ++ acc)).holds post) (T.ret ((s.cs fl, y.1) :: a.1, a.2))) (eH E ops rid wd (i + 1) l ⟨putT o.dst y.1 (s.cs fl).sl, y.2⟩) := by
     intro y s' e hT' hF' hh
     have e' : (⟨putT o.dst y.1 (s.cs fl).sl, y.2⟩ : CS) = s'.cs fl := e
     rw [e']
     refine T.aD (fun z hz => ?_) _ (Ky hE hX hok hN l (i + 1) s' (s :: acc) (fun o ho => hd o (by simp [ho])) hT' hF' hh)
     obtain ⟨sts, h1, h2⟩ := hz
     refine ⟨s' :: sts, ⟨rfl, by rw [← e'], h1⟩, ?_⟩
     simpa [List.reverse_cons, List.append_assoc] using h2
   rw [dI] at h
   unfold stW
   cases hm : jG i wd with
   | false =>
     rw [hm, cond_false] at h
     rw [cond_false]
     have h1 := I4 (rid := rid) (i := i) hX hok hdo hN hT hF h
     have h2 := T.aT (iU hE (ops := ops) (rid := rid) (i := i) o (σ := ⟨view fl s.sl s.lo, ⟨av s.ob, s.nb⟩⟩) hF) h1
     refine T.aD (fun y hy => ?_) _ h2
     obtain ⟨⟨g1, g2, g3⟩, sl', lo', ob', e, hh⟩ := hy
     have eh : y.2 = ⟨av ob', y.2.nob⟩ := congrArg CS.h e
     refine next y ⟨sl', lo', ob', y.2.nob⟩ e ?_ ?_ hh
     · have g3 : y.2.nob <= max E.top s.nb := g3
       have := hT.1
       exact ⟨by show y.2.nob <= _; omega, hT.2⟩
     · intro j hj
       have := g1 j hj
       rw [eh] at this
       exact this
   | true =>
     rw [hm, cond_true] at h
     obtain ⟨hle, h⟩ := gM h
     rw [qp] at h
     rw [hX.top] at hle
     have hle' := Nat.le_of_ble_eq_true hle
     rw [cond_true, show Nat.ble ((s.cs fl).h.nob + E.win rid) E.top = true from hle, cond_true, T.ak]
     have hT1 : dJ (s.nb + E.win rid) s.nb := ⟨by omega, Nat.le_trans hle' hT.2⟩
     have h1 := I4 (E := { E with top := s.nb + E.win rid }) (rid := rid) (i := i) (hX.tQ _) hok hdo hN hT1 hF h
     have h2 := T.aT (iU (hE.tQ (s.nb + E.win rid)) (ops := ops) (rid := rid) (i := i) o (σ := ⟨view fl s.sl s.lo, ⟨av s.ob, s.nb⟩⟩) hF) h1
     refine T.aD (fun y hy => ?_) _ h2
     obtain ⟨⟨g1, g2, g3⟩, sl', lo', ob', e, hh⟩ := hy
     have eh : y.2 = ⟨av ob', y.2.nob⟩ := congrArg CS.h e
     have es : putT o.dst y.1 (view fl s.sl s.lo) = view fl sl' lo' := congrArg CS.sl e
     refine next (y.1, ⟨y.2.obj, s.nb + E.win rid⟩) ⟨sl', lo', ob', s.nb + E.win rid⟩ ?_ ⟨hle', hT.2⟩ ?_ hh
     · show (⟨putT o.dst y.1 (view fl s.sl s.lo), ⟨y.2.obj, s.nb + E.win rid⟩⟩ : CS) = ⟨view fl sl' lo', ⟨av ob', s.nb + E.win rid⟩⟩
       rw [es, eh]
     · intro j hj
       have hj : s.nb + E.win rid <= j := hj
       have g3 : y.2.nob <= max (s.nb + E.win rid) s.nb := g3
       have := g1 j (by omega)
       rw [eh] at this
       exact this
theorem vG (fl : Nat) (sl : Tr SV) (lo : Lo) (h : HS) : jK fl ⟨view fl sl lo, h⟩ = ⟨view fl sl .nil, h⟩ := by
 unfold jK
 congr 1
 funext j
 show (bif gH fl j then BS (gH fl j) (iF sl j) (look lo j) else .junk) = BS (gH fl j) (iF sl j) .junk
 cases gH fl j <;> rfl
theorem zG {ops : Array Oper} {rid : Nat} {p : CS -> Prop} : ∀ (l : List Oper) (i : Nat) (σ : CS), (lS E ops rid i l σ).holds p -> (eH E ops rid [] i l σ).holds fun z => p z.2
 | [], _, _, h => h
 | o :: l, i, σ, h => by
   simp only [lS, T.ak] at h
   simp only [eH, T.ak]
   have e : stW E ops rid [] i o σ = stC E ops rid i o σ := rfl
   rw [e]
   exact T.aD (fun y hy => T.aD (fun z hz => hz) _ (zG l (i + 1) _ hy)) _ h
def Zl (kn : KS) (ke : Nat -> KS) (kr : KS) : Ex -> KS
 | .normal => kn
 | .exit k => ke k
 | .ret => kr
def KC (fl : Nat) (post : SV × HD -> Prop) (kn : KS) (ke : Nat -> KS) (kr : KS) (x : Ex × CS) : Prop :=
 ∃ sl ob, x.2 = ⟨view fl sl .nil, ⟨av ob, x.2.h.nob⟩⟩ /\ (Zl kn ke kr x.1 sl ob x.2.h.nob).holds post
theorem Am {N : Nat} {ops : Array Oper} (h : okD N ops = true) : ∀ o ∈ ops.toList, gI N o.dst = true := List.all_eq_true.1 h
theorem Qf (hE : E.Ok) {ops : Array Oper} {rid N fu : Nat} {kn : KS} {ke : Nat -> KS} {kr : KS} (hX : XRef X E) (hok : okD E.N ops = true) (hN : E.N <= 16777215) {sl : Tr SV} {ob : OB} {nb : Nat} (hT : dJ E.top nb) (hF : FOk ob nb)
  (h : (SS rid ops E.P X fl N fu kn ke kr sl ob nb).holds post) : (nU E ops rid ⟨view fl sl .nil, ⟨av ob, nb⟩⟩).holds fun σ' => KC fl post kn ke kr (.normal, jK fl σ') := by
 unfold SS at h
 unfold nU
 cases hri : gZ ops with
 | none => rw [hri] at h; exact h.elim
 | some ri =>
   rw [hri] at h
   simp only [T.ak]
   obtain ⟨ld, wd⟩ := ri
   have slow : (QF E.P X fl (X.W rid) wd ops ops.toList 0 ⟨sl, .nil, ob, nb⟩ [] (Zr E.P fl ops ld nb kn)).holds post ->
        T.holds (fun a => T.holds (fun σ' => KC fl post kn ke kr (Ex.normal, jK fl σ')) (.need (∀ x ∈ ld, ZP E.P ops a.1 a.2 nb x) (.ret a.2))) (eH E ops rid wd 0 ops.toList ⟨view fl sl .nil, ⟨av ob, nb⟩⟩) := by
    intro h
    rw [hX.W] at h
    refine T.aD (fun z hz => ?_) _ (Ky hE hX hok hN ops.toList 0 ⟨sl, .nil, ob, nb⟩ [] (Am hok) hT hF h)
    obtain ⟨sts, hc, hh⟩ := hz
    rw [List.append_nil] at hh
    obtain ⟨c1, c2⟩ := N7 hc
    have hlast : ∃ s' acc, ((⟨sl, .nil, ob, nb⟩ : FSt) :: sts).reverse = s' :: acc := by
        cases hr : ((⟨sl, .nil, ob, nb⟩ : FSt) :: sts).reverse with
        | nil => simp at hr
        | cons s' acc => exact ⟨s', acc, rfl⟩
    obtain ⟨s', acc, hr⟩ := hlast
    have hrev : (s' :: acc).reverse = (⟨sl, .nil, ob, nb⟩ : FSt) :: sts := by rw [← hr, List.reverse_reverse]
    rw [hr] at hh
    have hh : (Vw E.P fl ops (s' :: acc).reverse nb ld (kn s'.sl s'.ob s'.nb)).holds post := hh
    rw [hrev] at hh
    obtain ⟨h1, h2⟩ := Jt hh
    have hz2 : z.2 = s'.cs fl := by
     have key : ∀ (l : List Oper) (sts : List FSt) (tr : List (CS × SV)) (z : CS), Ry fl l sts tr z -> ∀ s' acc, sts.reverse = s' :: acc -> z = s'.cs fl := by
      intro l
      induction l with
      | nil =>
        intro sts tr z h s' acc hr
        match sts, tr, h with
        | [s], [], h =>
          simp at hr
          obtain ⟨rfl, _⟩ := hr
          exact h
      | cons o l ih =>
        intro sts tr z h s' acc hr
        match sts, tr, h with
        | s :: s1 :: r, y :: t, h =>
          refine ih (s1 :: r) t z h.2.2 s' acc.dropLast ?_
          have : (s1 :: r).reverse ++ [s] = s' :: acc := by simpa using hr
          have h4 := congrArg List.dropLast this
          rw [List.dropLast_concat] at h4
          rw [h4]
          cases acc with
          | nil =>
            have := congrArg List.length this
            simp at this
          | cons a acc => rfl
     exact key _ _ _ _ hc s' acc hr
    refine ⟨fun x hx => ?_, ?_⟩
    · intro o y ho hy hsk
      obtain ⟨s, s1, q1, q2, q3, q4⟩ := c2 x.1 o y (by simpa using ho) hy
      obtain ⟨r1, d, r2, r3⟩ := h2 x hx o s s1 ho q1 q2 (by rw [← q3]; exact hsk)
      have eev : evC y.1.sl = evG fl s.sl s.lo := by rw [q3, L8]; rfl
      refine ⟨fun i hi => by rw [q3]; exact r1 i (by rw [← eev]; exact hi), fun q hq => ?_⟩
      obtain ⟨sq, r, t1, t2, t3⟩ := r3 q hq
      refine ⟨r, ?_, fun C w v hr => ?_⟩
      · rw [eev, c1 q sq t1]
        exact t2
      · have e : r.sv = y.2 := by
         rw [t3]
         show (s1.cs fl).sl d = _
         rw [q4, r2]
         show l5 (some d) d y.2 _ = _
         rw [aX, if_pos rfl]
        rw [← e]; exact hr
    · show KC fl post kn ke kr (Ex.normal, jK fl z.2)
      rw [hz2]
      show KC fl post kn ke kr (Ex.normal, jK fl ⟨view fl s'.sl s'.lo, ⟨av s'.ob, s'.nb⟩⟩)
      rw [vG]
      exact ⟨s'.sl, s'.ob, rfl, h1⟩
   split at h
   · rename_i e
     injection e with e
     injection e with e1 e2
     subst e1; subst e2
     have h1 := wJ hE (rid := rid) hX hok hN ops.toList 0 sl .nil ob nb (Am hok) hT hF h
     refine T.aD (fun z hz => ⟨fun x hx => (by cases hx), ?_⟩) _ (zG ops.toList 0 _ h1)
     obtain ⟨sl', lo', ob', e, hh⟩ := hz
     show KC fl post kn ke kr (Ex.normal, jK fl z.2)
     have eh : z.2.h.nob = z.2.h.nob := rfl
     rw [e, vG]
     exact ⟨sl', ob', rfl, hh⟩
   · rename_i ri' _ e
     injection e with e
     subst e
     exact slow h
   · rename_i e; cases e
end
end
end Rx
