/- Rx, part X5: a region that draws its order, for the kernel: it does as the specification says. -/
import Derived.Test.YtildnaomamnkgaaGreatDoorRxX4
set_option linter.unusedSectionVars false
set_option linter.unusedSimpArgs false
set_option linter.unusedVariables false
namespace Rx
open Go
variable [Glob]
noncomputable section
theorem gP {b : Bool} {c : R} {post : SV × HD -> Prop} (h : (BR b c .fail).holds post) : b = true /\ c.holds post := by
 rw [dH] at h
 cases b
 · exact h.elim
 · exact ⟨rfl, h⟩
theorem RV {a b : Bool} (h : eqB a b = true) : a = b := by
 cases a <;> cases b <;> first | rfl | cases h
theorem l5 {a b : Nat} (h : Nat.beq a b = true) : a = b := Nat.eq_of_beq_eq_true h
theorem dM {a b : SV} {c : R} {post : SV × HD -> Prop} (h : (iP a b c).holds post) : a = b /\ c.holds post := by
 unfold iP at h
 split at h
 · obtain ⟨hb, h'⟩ := gP h
   simp only [Bool.and_eq_true, dX, decide_eq_true_eq, wC] at hb
   rw [hb.1, hb.2]
   exact ⟨rfl, h'⟩
 · obtain ⟨hb, h⟩ := gP h
   rw [RV hb]
   exact ⟨rfl, h⟩
 · obtain ⟨hb, h⟩ := gP h
   simp only [Bool.and_eq_true] at hb
   rw [l5 hb.1, l5 hb.2]
   exact ⟨rfl, h⟩
 · obtain ⟨hb, h⟩ := gP h
   simp only [Bool.and_eq_true] at hb
   rw [l5 hb.1, l5 hb.2.1, l5 hb.2.2.1, l5 hb.2.2.2]
   exact ⟨rfl, h⟩
 · obtain ⟨hb, h⟩ := gP h
   simp only [Bool.and_eq_true] at hb
   rw [l5 hb.1, l5 hb.2.1, l5 hb.2.2.1, l5 hb.2.2.2]
   exact ⟨rfl, h⟩
 · obtain ⟨hb, h⟩ := gP h
   simp only [Bool.and_eq_true] at hb
   rw [l5 hb.1, l5 hb.2.1, l5 hb.2.2.1, l5 hb.2.2.2.1, l5 hb.2.2.2.2]
   exact ⟨rfl, h⟩
 · exact ⟨rfl, h⟩
 · exact ⟨rfl, h⟩
 · rename_i s t
   obtain ⟨hb, h'⟩ := gP h
   have e : s.data.toList = t.data.toList := by simpa using hb
   have : s = t := by
    cases s with | mk s => cases t with | mk t =>
    congr 1
    exact Array.toList_inj.1 e
   rw [this]
   exact ⟨rfl, h'⟩
 · obtain ⟨hb, h⟩ := gP h
   rw [l5 hb]
   exact ⟨rfl, h⟩
 · obtain ⟨hb, h'⟩ := gP h
   simp only [Bool.and_eq_true, dX, decide_eq_true_eq, wC] at hb
   rw [hb.1, hb.2]
   exact ⟨rfl, h'⟩
 · obtain ⟨hb, h'⟩ := gP h
   rw [RV hb]
   exact ⟨rfl, h'⟩
 · obtain ⟨hb, h'⟩ := gP h
   simp only [Bool.and_eq_true, dX, decide_eq_true_eq, wC] at hb
   rw [hb.1, hb.2.1, hb.2.2, h'.1]
   exact ⟨rfl, h'.2⟩
 · exact ⟨by rw [h.1], h.2⟩
 · exact h
theorem IX {c : R} {post : SV × HD -> Prop} : ∀ {l m : List SV}, (Wv l m c).holds post -> l = m /\ c.holds post
 | [], [], h => ⟨rfl, h⟩
 | [], _ :: _, h => h.elim
 | _ :: _, [], h => h.elim
 | x :: l, y :: m, h => by
   obtain ⟨h1, h2⟩ := dM (show (iP x y (Wv l m c)).holds post from h)
   obtain ⟨h3, h4⟩ := IX h2
   rw [h1, h3]
   exact ⟨rfl, h4⟩
theorem Ud {a b : SV} {c : R} {post : SV × HD -> Prop} (h : (svQ a b c).holds post) : a = b /\ c.holds post := by
 unfold svQ at h
 split at h
 · obtain ⟨h1, h2⟩ := IX h
   rw [h1]
   exact ⟨rfl, h2⟩
 · exact dM h
def Yw (P : Program) (fl : Nat) (ops : Array Oper) (sts : List FSt) (nob : Nat) (x : Nat × Bool × List Nat) : Prop :=
 ∀ o s s', ops[x.1]? = some o -> sts[x.1]? = some s -> sts[x.1 + 1]? = some s' -> iH ops o (s.cs fl) = false -> (∀ i ∈ tgt (evG fl s.sl s.lo) o, i < lim x nob s.nb) /\
   ∃ d, o.dst = some d /\ ∀ q ∈ x.2.2, ∃ sq r, sts[q]? = some sq /\ cxE P (evG fl s.sl s.lo) (au sq.ob) 0 o = .ret r /\ r.sv = view fl s'.sl s'.lo d
theorem dF {a b : SV} {c : R} {post : SV × HD -> Prop} (h : (VZ a b c).holds post) : a = b /\ c.holds post := by
 cases a with
 | dt d => cases b with
   | dt d' => exact dM (show (iP (.dt d) (.dt d') c).holds post from h)
   | _ => exact h.elim
 | ptr i o => cases b with
   | ptr j p =>
     have h : (BR (aN (Nat.beq i j) (Nat.beq o p)) c .fail).holds post := h
     rw [gY] at h
     exact dM (show (iP (.ptr i o) (.ptr j p) c).holds post from h)
   | _ => exact h.elim
 | kb p => cases b with
   | kb q => exact dM (show (iP (.kb p) (.kb q) c).holds post from h)
   | _ => exact h.elim
 | ki k n => cases b with
   | ki k' m =>
     have h : (BR (aN (dX k k') (eqI n m)) c .fail).holds post := h
     rw [gY] at h
     exact dM (show (iP (.ki k n) (.ki k' m) c).holds post from h)
   | _ => exact h.elim
 | nm i => cases b with
   | nm j => exact dM (show (iP (.nm i) (.nm j) c).holds post from h)
   | _ => exact h.elim
 | rp i o y z => cases b with
   | rp i' o' y' z' =>
     have h : (BR (aN (Nat.beq i i') (aN (Nat.beq o o') (aN (Nat.beq y y') (Nat.beq z z')))) c .fail).holds post := h
     simp only [gY] at h
     exact dM (show (iP (.rp i o y z) (.rp i' o' y' z') c).holds post from h)
   | _ => exact h.elim
 | ri k a b' n => cases b with
   | ri k' a' b'' n' =>
     have h : (BR (aN (dX k k') (aN (eqI a a') (eqI b' b''))) (.need (n = n') c) .fail).holds post := h
     simp only [gY] at h
     exact dM (show (iP (.ri k a b' n) (.ri k' a' b'' n') c).holds post from h)
   | _ => exact h.elim
 | sl i o y z k => cases b with
   | sl i' o' y' z' k' =>
     have h : (BR (aN (Nat.beq i i') (aN (Nat.beq o o') (aN (Nat.beq y y') (Nat.beq z z')))) (onQ k k' c) .fail).holds post := h
     simp only [gY] at h
     obtain ⟨h1, h2⟩ := gP h
     simp only [Bool.and_eq_true] at h1
     obtain ⟨e1, e2, e3, e4⟩ := h1
     cases l5 e1
     cases l5 e2
     cases l5 e3
     cases l5 e4
     cases k with
     | none => cases k' with
       | none => exact ⟨rfl, h2⟩
       | some _ => exact h2.elim
     | some m => cases k' with
       | none => exact h2.elim
       | some m' =>
         obtain ⟨h1, h3⟩ := gP (show (BR (Nat.beq m m') c .fail).holds post from h2)
         cases l5 h1
         exact ⟨rfl, h3⟩
   | _ => exact h.elim
 | sy s => cases b with
   | sy t =>
     have h : s = t /\ c.holds post := h
     exact ⟨by rw [h.1], h.2⟩
   | _ => exact h.elim
 | junk => exact dM (show (iP .junk b c).holds post from h)
 | agg l => exact dM (show (iP (.agg l) b c).holds post from h)
 | tup l => exact dM (show (iP (.tup l) b c).holds post from h)
 | el m g => exact dM (show (iP (.el m g) b c).holds post from h)
 | fn f l => exact dM (show (iP (.fn f l) b c).holds post from h)
theorem Ir {c : R} {post : SV × HD -> Prop} : ∀ {l m : List SV}, (Tx l m c).holds post -> l = m /\ c.holds post
 | [], [], h => ⟨rfl, h⟩
 | [], _ :: _, h => h.elim
 | _ :: _, [], h => h.elim
 | x :: l, y :: m, h => by
   obtain ⟨h1, h2⟩ := dF (show (VZ x y (Tx l m c)).holds post from h)
   obtain ⟨h3, h4⟩ := Ir h2
   rw [h1, h3]
   exact ⟨rfl, h4⟩
theorem Un {a b : SV} {c : R} {post : SV × HD -> Prop} (h : (svS a b c).holds post) : a = b /\ c.holds post := by
 cases a with
 | agg l => cases b with
   | agg m =>
     obtain ⟨h1, h2⟩ := Ir (show (Tx l m c).holds post from h)
     rw [h1]
     exact ⟨rfl, h2⟩
   | _ => exact h.elim
 | junk => exact dF (a := .junk) h
 | dt d => exact dF (a := .dt d) h
 | tup l => exact dF (a := .tup l) h
 | ptr i o => exact dF (a := .ptr i o) h
 | el m g => exact dF (a := .el m g) h
 | fn f l => exact dF (a := .fn f l) h
 | kb p => exact dF (a := .kb p) h
 | ki k n => exact dF (a := .ki k n) h
 | nm i => exact dF (a := .nm i) h
 | rp i o y z => exact dF (a := .rp i o y z) h
 | ri k a b n => exact dF (a := .ri k a b n) h
 | sl i o y z k => exact dF (a := .sl i o y z k) h
 | sy s => exact dF (a := .sy s) h
theorem Nl {s : SV} {P : Program} {t : TypeId} {ob : OB} {g : R} {k : SV -> R} {post : SV × HD -> Prop} (h : (Qz s P t ob g k).holds post) : g.holds post ∨ ∃ v, fH P (au ob) t s = .ret v /\ (k (nK v)).holds post := by
 cases s with
 | ptr i off =>
   have h : (PL (au ob i) P t off g k).holds post := h
   cases hg : au ob i with
   | none => rw [hg] at h; exact h.elim
   | some b =>
     rw [hg] at h
     cases b with
     | cells t' cs =>
       have h : (oB (ldK P t) .fail g (IZ cs off .fail fun s => k (nKS s))).holds post := h
       rw [Li] at h
       unfold ldK at h
       cases ha : ow P t with
       | none => simp only [ha] at h; exact h.elim
       | some b =>
         cases hz : bA P t with
         | none => simp only [ha, hz] at h; exact h.elim
         | some n =>
           simp only [ha, hz] at h
           cases b with
           | true => exact .inl h
           | false =>
             rw [cond_false, yS] at h
             split at h
             · rename_i s hs
               rw [vO] at h
               exact .inr ⟨s, by simp only [fH, fQ, ha, hz, hg, hs], h⟩
             · exact h.elim
     | _ => exact h.elim
 | rp i idx sz off =>
   have h : (Uu (au ob i) P t idx sz off g k).holds post := h
   cases hg : au ob i with
   | none => rw [hg] at h; exact .inl h
   | some b =>
     rw [hg] at h
     cases b with
     | vec t' sz' len tr ex =>
       have h : (oB (ldK P t) .fail (szK P t fun n => BR (aN (Nat.beq sz sz') (aN (Nat.ble (Nat.add off n) sz) (Nat.blt idx len))) (k (.agg (nA tr n (Nat.add (Nat.mul idx sz) off)))) .fail) (BR (aN (Nat.beq sz sz') (aN (Nat.blt off sz) (Nat.blt idx len))) (k (nKS (gU tr (Nat.add (Nat.mul idx sz) off)))) .fail)).holds post := h
       rw [Li] at h
       unfold ldK at h
       simp only [gY, Nat.add_eq, Nat.mul_eq] at h
       cases ha : ow P t with
       | none => simp only [ha] at h; exact h.elim
       | some b =>
         cases hz : bA P t with
         | none => simp only [ha, hz] at h; exact h.elim
         | some n =>
           simp only [ha, hz] at h
           cases b with
           | true =>
             unfold szK at h
             simp only [hz, cond_true] at h
             rw [dH] at h
             cases hb : (Nat.beq sz sz' && (Nat.ble (off + n) sz && Nat.blt idx len)) with
             | false => rw [hb] at h; exact h.elim
             | true =>
               rw [hb, cond_true, nT] at h
               exact .inr ⟨.agg (eD tr (idx * sz + off) n), by simp only [fH, ha, hz, hg, hb]; rfl, h⟩
           | false =>
             rw [cond_false, dH] at h
             cases hb : (Nat.beq sz sz' && (Nat.blt off sz && Nat.blt idx len)) with
             | false => rw [hb] at h; exact h.elim
             | true =>
               rw [hb, cond_true, zf, vO] at h
               exact .inr ⟨_, by simp only [fH, ha, hz, hg, hb]; rfl, h⟩
     | _ => exact .inl h
 | _ => exact .inl h
theorem yQ (l : List FSt) : ∀ (n : Nat) (f : R) (k : FSt -> R), Q6 l n f k = match l[n]? with
  | some s => k s
  | none => f := by
 induction l with
 | nil => intro n f k; rfl
 | cons s l ih =>
   intro n f k
   cases n with
   | zero => rfl
   | succ n => exact ih n f k
theorem CZ {P : Program} {fl : Nat} {o : Oper} {s : FSt} {y : SV} {c : R} {sq : FSt} {post : SV × HD -> Prop} (h : (CK P fl o s y c sq).holds post) : c.holds post /\ ∃ r, cxE P (evG fl s.sl s.lo) (au sq.ob) 0 o = .ret r /\ r.sv = y := by
 unfold CK at h
 split at h
 · rename_i r hr
   obtain ⟨h1, h2⟩ := Ud h
   exact ⟨h2, r, hr, h1⟩
 · exact h.elim
theorem Jq {o : Oper} {t : TypeId} {x : Operand} (h : stB o = some (t, x)) : o.op = .load t x := by
 unfold stB at h
 split at h
 · rename_i t' x' e
   cases h
   exact e
 · cases h
theorem SQ {P : Program} {fl : Nat} {sts : List FSt} {o : Oper} {s : FSt} {y : SV} {q : Nat} {c : R} {post : SV × HD -> Prop} (h : (stQ P fl sts o s y q c).holds post) :
  c.holds post /\ ∃ sq r, sts[q]? = some sq /\ cxE P (evG fl s.sl s.lo) (au sq.ob) 0 o = .ret r /\ r.sv = y := by
 unfold stQ at h
 rw [yQ] at h
 split at h
 · rename_i sq hsq
   cases hb : stB o with
   | none =>
     rw [hb] at h
     obtain ⟨h1, r, h2, h3⟩ := CZ (show (CK P fl o s y c sq).holds post from h)
     exact ⟨h1, sq, r, hsq, h2, h3⟩
   | some tx =>
     obtain ⟨t, x⟩ := tx
     rw [hb] at h
     have ho := Jq hb
     rcases Nl (show (Qz (evG fl s.sl s.lo x) P t sq.ob (CK P fl o s y c sq) (fun z => svS z y c)).holds post from h) with h | ⟨v, hv, h⟩
     · obtain ⟨h1, r, h2, h3⟩ := CZ h
       exact ⟨h1, sq, r, hsq, h2, h3⟩
     · obtain ⟨h1, h2⟩ := Un h
       refine ⟨h2, sq, ⟨nK v, .none⟩, hsq, ?_, h1⟩
       have eC : cxE P (evG fl s.sl s.lo) (au sq.ob) 0 o = (fH P (au sq.ob) t (evG fl s.sl s.lo x)).bind jI := by unfold cxE; simp only [ho]
       rw [eC, hv]
       rfl
 · exact h.elim
theorem LZ {P : Program} {fl : Nat} {sts : List FSt} {o : Oper} {s : FSt} {y : SV} {c : R} {post : SV × HD -> Prop} : ∀ {qs : List Nat}, (qsQ P fl sts o s y qs c).holds post ->
  c.holds post /\ ∀ q ∈ qs, ∃ sq r, sts[q]? = some sq /\ cxE P (evG fl s.sl s.lo) (au sq.ob) 0 o = .ret r /\ r.sv = y
 | [], h => ⟨h, fun q hq => by cases hq⟩
 | q :: qs, h => by
   obtain ⟨h1, h2⟩ := SQ (show (stQ P fl sts o s y q (qsQ P fl sts o s y qs c)).holds post from h)
   obtain ⟨h3, h4⟩ := LZ h1
   refine ⟨h3, fun q' hq => ?_⟩
   rcases List.mem_cons.1 hq with rfl | hq
   · exact h2
   · exact h4 q' hq
theorem NS {s : SV} {n : Nat} (h : UN s n = true) : ∀ i ∈ j4 s, i < n := by
 cases s with
 | ptr i o =>
   intro j hj
   have : Nat.blt i n = true := h
   rw [Nat.blt_eq] at this
   simp only [j4, List.mem_singleton] at hj
   omega
 | rp i a z o =>
   intro j hj
   have : Nat.blt i n = true := h
   rw [Nat.blt_eq] at this
   simp only [j4, List.mem_singleton] at hj
   omega
 | _ => intro j hj; cases hj
theorem SG {fl nob : Nat} {o : Oper} {s : FSt} (h : tgQ fl nob o s = true) : ∀ i ∈ tgt (evG fl s.sl s.lo) o, i < nob := by
 unfold tgQ at h
 cases hb : stB o with
 | none =>
   rw [hb] at h
   intro i hi
   have := List.all_eq_true.1 h i hi
   simpa [Nat.blt_eq] using this
 | some tx =>
   obtain ⟨t, x⟩ := tx
   rw [hb] at h
   have ho := Jq hb
   intro i hi
   have e : tgt (evG fl s.sl s.lo) o = j4 (evG fl s.sl s.lo x) := by unfold tgt; simp only [ho]
   rw [e] at hi
   exact NS h i hi
theorem WB (ops : Array Oper) (fl : Nat) (o : Oper) (s : FSt) : skQ ops fl o s = iH ops o (s.cs fl) := by
 unfold skQ
 cases h : o.guard with
 | none => unfold iH; rw [h]
 | some g => rfl
theorem O9 {P : Program} {fl : Nat} {ops : Array Oper} {sts : List FSt} {nob : Nat} {x : Nat × Bool × List Nat} {c : R} {post : SV × HD -> Prop} (h : (RY P fl ops sts nob x c).holds post) : c.holds post /\ Yw P fl ops sts nob x := by
 unfold RY at h
 cases h1 : ops[x.1]? with
 | none => rw [h1] at h; exact h.elim
 | some o =>
   rw [h1] at h
   have h : (Pj P fl ops sts nob x c o).holds post := h
   unfold Pj at h
   rw [yQ] at h
   split at h
   · rename_i s h2
     rw [dH, WB] at h
     cases hs : iH ops o (s.cs fl) with
     | true =>
       rw [hs, cond_true, yQ] at h
       split at h
       · rename_i s' h3
         refine ⟨h, fun o' s1 s1' e1 e2 e3 e4 => ?_⟩
         rw [h1] at e1; injection e1 with e1; subst e1
         rw [h2] at e2; injection e2 with e2; subst e2
         rw [hs] at e4; cases e4
       · exact h.elim
     | false =>
       rw [hs, cond_false] at h
       obtain ⟨h4, h⟩ := gP h
       rw [yQ] at h
       split at h
       · rename_i s' h3
         cases hd : o.dst with
         | none => rw [hd] at h; exact h.elim
         | some d =>
           rw [hd] at h
           obtain ⟨h5, h6⟩ := LZ (show (qsQ P fl sts o s (view fl s'.sl s'.lo d) x.2.2 c).holds post from h)
           refine ⟨h5, fun o' s1 s1' e1 e2 e3 e4 => ?_⟩
           rw [h1] at e1; injection e1 with e1; subst e1
           rw [h2] at e2; injection e2 with e2; subst e2
           have h3 : sts[x.1 + 1]? = some s' := h3
           rw [h3] at e3; injection e3 with e3; subst e3
           exact ⟨SG h4, d, hd, h6⟩
       · exact h.elim
   · exact h.elim
theorem Iq {P : Program} {fl : Nat} {ops : Array Oper} {sts : List FSt} {nob : Nat} {c : R} {post : SV × HD -> Prop} : ∀ {l : List (Nat × Bool × List Nat)}, (Ul P fl ops sts nob l c).holds post -> c.holds post /\ ∀ x ∈ l, Yw P fl ops sts nob x
 | [], h => ⟨h, fun x hx => by cases hx⟩
 | x :: l, h => by
   obtain ⟨h1, h2⟩ := O9 (show (RY P fl ops sts nob x (Ul P fl ops sts nob l c)).holds post from h)
   obtain ⟨h3, h4⟩ := Iq h1
   refine ⟨h3, fun y hy => ?_⟩
   rcases List.mem_cons.1 hy with rfl | hy
   · exact h2
   · exact h4 y hy
def Qi (fl : Nat) : List Oper -> List FSt -> List (CS × SV) -> CS -> Prop
 | [], [s], [], z => z = s.cs fl
 | o :: l, s :: s' :: r, y :: t, z => y.1 = s.cs fl /\ (s'.cs fl).sl = putT o.dst y.2 (s.cs fl).sl /\ Qi fl l (s' :: r) t z
 | _, _, _, _ => False
theorem MZ {fl : Nat} {z : CS} : ∀ {l : List Oper} {sts : List FSt} {tr : List (CS × SV)}, Qi fl l sts tr z -> (∀ q sq, sts[q]? = some sq -> hsAt tr z q = (sq.cs fl).h) /\
  ∀ k o y, l[k]? = some o -> tr[k]? = some y -> ∃ s s', sts[k]? = some s /\ sts[k + 1]? = some s' /\ y.1 = s.cs fl /\ (s'.cs fl).sl = putT o.dst y.2 (s.cs fl).sl
 | [], [s], [], h => by
   have h : z = s.cs fl := h
   refine ⟨fun q sq hq => ?_, fun k o y ho => by simp at ho⟩
   cases q with
   | zero => simp at hq; subst hq; simp [hsAt, h]
   | succ q => simp at hq
 | [], [], _, h => h.elim
 | [], _ :: _ :: _, _, h => by cases h
 | [], [_], _ :: _, h => h.elim
 | _ :: _, [], _, h => by cases h
 | _ :: _, [_], _, h => by cases h
 | _ :: _, _ :: _ :: _, [], h => h.elim
 | o :: l, s :: s' :: r, y :: t, h => by
   obtain ⟨h1, h2, h3⟩ := h
   obtain ⟨h4, h5⟩ := MZ h3
   refine ⟨fun q sq hq => ?_, fun k o' y' ho hy => ?_⟩
   · cases q with
     | zero => simp at hq; subst hq; simp [hsAt, h1]
     | succ q =>
       have := h4 q sq (by simpa using hq)
       simpa [hsAt] using this
   · cases k with
     | zero =>
       simp at ho hy
       subst ho; subst hy
       exact ⟨s, s', rfl, rfl, h1, h2⟩
     | succ k =>
       obtain ⟨u, u', q1, q2, q3⟩ := h5 k o' y' (by simpa using ho) (by simpa using hy)
       exact ⟨u, u', by simpa using q1, by simpa using q2, q3⟩
section
variable {E : CEnv} {X : EX} {fl : Nat} {post : SV × HD -> Prop}
theorem XRef.qU (h : XRef X E) (n : Nat) : XRef ⟨X.I, n, X.base, X.W⟩ { E with top := n } := ⟨h.I, rfl, h.base, h.W, h.K⟩
theorem Hg (hE : E.Ok) {ops : Array Oper} {k : KT} {rid : Nat} {wd : List Nat} (hX : XRef X E) (hok : okD E.N ops = true) (hN : E.N <= 16777215) : ∀ (l : List Oper) (i : Nat) (s : FSt) (acc : List FSt), (∀ o ∈ l, fV E.N o.dst = true) -> dN E.top s.nb -> FOk s.ob s.nb ->
  (NV E.P X fl (E.win rid) wd ops l i s acc k).holds post -> (dY E ops rid wd i l (s.cs fl)).holds fun z => ∃ sts, Qi fl l (s :: sts) z.1 z.2 /\ (k ((s :: sts).reverse ++ acc)).holds post
 | [], i, s, acc, _, _, _, h => ⟨[], rfl, h⟩
 | o :: l, i, s, acc, hd, hT, hF, h => by
   have h : (BR (iZ i wd)
     (BR (Nat.ble (s.nb + E.win rid) X.top) (fN (s.nb + E.win rid) fun n => stG E.P ⟨X.I, n, X.base, X.W⟩ fl ops o (fun sl lo ob _ _ => NV E.P X fl (E.win rid) wd ops l (Nat.succ i) ⟨sl, lo, ob, n⟩ (s :: acc) k) s.sl s.lo s.ob s.nb (fun _ _ _ => .fail)) .fail)
     (stG E.P X fl ops o (fun sl lo ob nb _ => NV E.P X fl (E.win rid) wd ops l (Nat.succ i) ⟨sl, lo, ob, nb⟩ (s :: acc) k) s.sl s.lo s.ob s.nb (fun _ _ _ => .fail))).holds post := h
   simp only [dY, T.aj]
   have hdo := hd o (by simp)
   have next : ∀ (y : SV × HS) (s' : FSt), (⟨putT o.dst y.1 (view fl s.sl s.lo), y.2⟩ : CS) = s'.cs fl -> dN E.top s'.nb -> FOk s'.ob s'.nb -> (NV E.P X fl (E.win rid) wd ops l (Nat.succ i) s' (s :: acc) k).holds post ->
        T.holds (fun a => T.holds (fun z => ∃ sts, Qi fl (o :: l) (s :: sts) z.1 z.2 /\ (k ((s :: sts).reverse ++ acc)).holds post) (T.ret ((s.cs fl, y.1) :: a.1, a.2))) (dY E ops rid wd (i + 1) l ⟨putT o.dst y.1 (s.cs fl).sl, y.2⟩) := by
     intro y s' e hT' hF' hh
     have e' : (⟨putT o.dst y.1 (s.cs fl).sl, y.2⟩ : CS) = s'.cs fl := e
     rw [e']
     refine T.ay (fun z hz => ?_) _ (Hg hE hX hok hN l (i + 1) s' (s :: acc) (fun o ho => hd o (by simp [ho])) hT' hF' hh)
     obtain ⟨sts, h1, h2⟩ := hz
     refine ⟨s' :: sts, ⟨rfl, by rw [← e'], h1⟩, ?_⟩
     simpa [List.reverse_cons, List.append_assoc] using h2
   rw [dH] at h
   unfold stW
   cases hm : iZ i wd with
   | false =>
     rw [hm, cond_false] at h
     rw [cond_false]
     have h1 := Fa (rid := rid) (i := i) hX hok hdo hN hT hF h
     have h2 := T.aV (iB hE (ops := ops) (rid := rid) (i := i) o (σ := ⟨view fl s.sl s.lo, ⟨au s.ob, s.nb⟩⟩) hF) h1
     refine T.ay (fun y hy => ?_) _ h2
     obtain ⟨⟨g1, g2, g3⟩, sl', lo', ob', e, hh⟩ := hy
     have eh : y.2 = ⟨au ob', y.2.nob⟩ := congrArg CS.h e
     refine next y ⟨sl', lo', ob', y.2.nob⟩ e ?_ ?_ hh
     · have g3 : y.2.nob <= max E.top s.nb := g3
       have := hT.1
       exact ⟨by show y.2.nob <= _; omega, hT.2⟩
     · intro j hj
       have := g1 j hj
       rw [eh] at this
       exact this
   | true =>
     rw [hm, cond_true] at h
     obtain ⟨hle, h⟩ := gP h
     rw [qF] at h
     rw [hX.top] at hle
     have hle' := Nat.le_of_ble_eq_true hle
     rw [cond_true, show Nat.ble ((s.cs fl).h.nob + E.win rid) E.top = true from hle, cond_true, T.aj]
     have hT1 : dN (s.nb + E.win rid) s.nb := ⟨by omega, Nat.le_trans hle' hT.2⟩
     have h1 := Fa (E := { E with top := s.nb + E.win rid }) (rid := rid) (i := i) (hX.qU _) hok hdo hN hT1 hF h
     have h2 := T.aV (iB (hE.qU (s.nb + E.win rid)) (ops := ops) (rid := rid) (i := i) o (σ := ⟨view fl s.sl s.lo, ⟨au s.ob, s.nb⟩⟩) hF) h1
     refine T.ay (fun y hy => ?_) _ h2
     obtain ⟨⟨g1, g2, g3⟩, sl', lo', ob', e, hh⟩ := hy
     have eh : y.2 = ⟨au ob', y.2.nob⟩ := congrArg CS.h e
     have es : putT o.dst y.1 (view fl s.sl s.lo) = view fl sl' lo' := congrArg CS.sl e
     refine next (y.1, ⟨y.2.obj, s.nb + E.win rid⟩) ⟨sl', lo', ob', s.nb + E.win rid⟩ ?_ ⟨hle', hT.2⟩ ?_ hh
     · show (⟨putT o.dst y.1 (view fl s.sl s.lo), ⟨y.2.obj, s.nb + E.win rid⟩⟩ : CS) = ⟨view fl sl' lo', ⟨au ob', s.nb + E.win rid⟩⟩
       rw [es, eh]
     · intro j hj
       have hj : s.nb + E.win rid <= j := hj
       have g3 : y.2.nob <= max (s.nb + E.win rid) s.nb := g3
       have := g1 j (by omega)
       rw [eh] at this
       exact this
theorem uM (fl : Nat) (sl : Tr SV) (lo : Lo) (h : HS) : jr fl ⟨view fl sl lo, h⟩ = ⟨view fl sl .nil, h⟩ := by
 unfold jr
 congr 1
 funext j
 show (bif fU fl j then BS (fU fl j) (gU sl j) (look lo j) else .junk) = BS (fU fl j) (gU sl j) .junk
 cases fU fl j <;> rfl
theorem xP {ops : Array Oper} {rid : Nat} {p : CS -> Prop} : ∀ (l : List Oper) (i : Nat) (σ : CS), (lQ E ops rid i l σ).holds p -> (dY E ops rid [] i l σ).holds fun z => p z.2
 | [], _, _, h => h
 | o :: l, i, σ, h => by
   simp only [lQ, T.aj] at h
   simp only [dY, T.aj]
   have e : stW E ops rid [] i o σ = stC E ops rid i o σ := rfl
   rw [e]
   exact T.ay (fun y hy => T.ay (fun z hz => hz) _ (xP l (i + 1) _ hy)) _ h
def UK (kn : KS) (ke : Nat -> KS) (kr : KS) : Ex -> KS
 | .normal => kn
 | .exit k => ke k
 | .ret => kr
def KC (fl : Nat) (post : SV × HD -> Prop) (kn : KS) (ke : Nat -> KS) (kr : KS) (x : Ex × CS) : Prop :=
 ∃ sl ob, x.2 = ⟨view fl sl .nil, ⟨au ob, x.2.h.nob⟩⟩ /\ (UK kn ke kr x.1 sl ob x.2.h.nob).holds post
theorem yY {N : Nat} {ops : Array Oper} (h : okD N ops = true) : ∀ o ∈ ops.toList, fV N o.dst = true := List.all_eq_true.1 h
theorem Oo (hE : E.Ok) {ops : Array Oper} {rid N fu : Nat} {kn : KS} {ke : Nat -> KS} {kr : KS} (hX : XRef X E) (hok : okD E.N ops = true) (hN : E.N <= 16777215) {sl : Tr SV} {ob : OB} {nb : Nat} (hT : dN E.top nb) (hF : FOk ob nb)
  (h : (QK rid ops E.P X fl N fu kn ke kr sl ob nb).holds post) : (ng E ops rid ⟨view fl sl .nil, ⟨au ob, nb⟩⟩).holds fun σ' => KC fl post kn ke kr (.normal, jr fl σ') := by
 unfold QK at h
 unfold ng
 cases hri : gG ops with
 | none => rw [hri] at h; exact h.elim
 | some ri =>
   rw [hri] at h
   simp only [T.aj]
   obtain ⟨ld, wd⟩ := ri
   have slow : (NV E.P X fl (X.W rid) wd ops ops.toList 0 ⟨sl, .nil, ob, nb⟩ [] (UO E.P fl ops ld nb kn)).holds post ->
        T.holds (fun a => T.holds (fun σ' => KC fl post kn ke kr (Ex.normal, jr fl σ')) (.need (∀ x ∈ ld, Wn E.P ops a.1 a.2 nb x) (.ret a.2))) (dY E ops rid wd 0 ops.toList ⟨view fl sl .nil, ⟨au ob, nb⟩⟩) := by
    intro h
    rw [hX.W] at h
    refine T.ay (fun z hz => ?_) _ (Hg hE hX hok hN ops.toList 0 ⟨sl, .nil, ob, nb⟩ [] (yY hok) hT hF h)
    obtain ⟨sts, hc, hh⟩ := hz
    rw [List.append_nil] at hh
    obtain ⟨c1, c2⟩ := MZ hc
    have hlast : ∃ s' acc, ((⟨sl, .nil, ob, nb⟩ : FSt) :: sts).reverse = s' :: acc := by
        cases hr : ((⟨sl, .nil, ob, nb⟩ : FSt) :: sts).reverse with
        | nil => simp at hr
        | cons s' acc => exact ⟨s', acc, rfl⟩
    obtain ⟨s', acc, hr⟩ := hlast
    have hrev : (s' :: acc).reverse = (⟨sl, .nil, ob, nb⟩ : FSt) :: sts := by rw [← hr, List.reverse_reverse]
    rw [hr] at hh
    have hh : (Ul E.P fl ops (s' :: acc).reverse nb ld (kn s'.sl s'.ob s'.nb)).holds post := hh
    rw [hrev] at hh
    obtain ⟨h1, h2⟩ := Iq hh
    have hz2 : z.2 = s'.cs fl := by
     have key : ∀ (l : List Oper) (sts : List FSt) (tr : List (CS × SV)) (z : CS), Qi fl l sts tr z -> ∀ s' acc, sts.reverse = s' :: acc -> z = s'.cs fl := by
      intro l
      induction l with
      | nil =>
        intro sts tr z h s' acc hr
        match sts, tr, h with
        | [s], [], h =>
          simp at hr
          obtain ⟨rfl, _⟩ := hr
          exact h
      | cons o l ih =>
        intro sts tr z h s' acc hr
        match sts, tr, h with
        | s :: s1 :: r, y :: t, h =>
          refine ih (s1 :: r) t z h.2.2 s' acc.dropLast ?_
          have : (s1 :: r).reverse ++ [s] = s' :: acc := by simpa using hr
          have h4 := congrArg List.dropLast this
          rw [List.dropLast_concat] at h4
          rw [h4]
          cases acc with
          | nil =>
            have := congrArg List.length this
            simp at this
          | cons a acc => rfl
     exact key _ _ _ _ hc s' acc hr
    refine ⟨fun x hx => ?_, ?_⟩
    · intro o y ho hy hsk
      obtain ⟨s, s1, q1, q2, q3, q4⟩ := c2 x.1 o y (by simpa using ho) hy
      obtain ⟨r1, d, r2, r3⟩ := h2 x hx o s s1 ho q1 q2 (by rw [← q3]; exact hsk)
      have eev : evC y.1.sl = evG fl s.sl s.lo := by rw [q3, KD]; rfl
      refine ⟨fun i hi => by rw [q3]; exact r1 i (by rw [← eev]; exact hi), fun q hq => ?_⟩
      obtain ⟨sq, r, t1, t2, t3⟩ := r3 q hq
      refine ⟨r, ?_, fun C w v hr => ?_⟩
      · rw [eev, c1 q sq t1]
        exact t2
      · have e : r.sv = y.2 := by
         rw [t3]
         show (s1.cs fl).sl d = _
         rw [q4, r2]
         show lM (some d) d y.2 _ = _
         rw [aU, if_pos rfl]
        rw [← e]; exact hr
    · show KC fl post kn ke kr (Ex.normal, jr fl z.2)
      rw [hz2]
      show KC fl post kn ke kr (Ex.normal, jr fl ⟨view fl s'.sl s'.lo, ⟨au s'.ob, s'.nb⟩⟩)
      rw [uM]
      exact ⟨s'.sl, s'.ob, rfl, h1⟩
   split at h
   · rename_i e
     injection e with e
     injection e with e1 e2
     subst e1; subst e2
     have h1 := uW hE (rid := rid) hX hok hN ops.toList 0 sl .nil ob nb (yY hok) hT hF h
     refine T.ay (fun z hz => ⟨fun x hx => (by cases hx), ?_⟩) _ (xP ops.toList 0 _ h1)
     obtain ⟨sl', lo', ob', e, hh⟩ := hz
     show KC fl post kn ke kr (Ex.normal, jr fl z.2)
     have eh : z.2.h.nob = z.2.h.nob := rfl
     rw [e, uM]
     exact ⟨sl', ob', rfl, hh⟩
   · rename_i ri' _ e
     injection e with e
     subst e
     exact slow h
   · rename_i e; cases e
end
end
end Rx
