/- Rx, part X5: a region that draws its order, for the kernel: it does as the specification says. -/
import Derived.Test.YtcmnmceodhambaaGreatDoorRxX4
set_option linter.unusedSectionVars false
set_option linter.unusedSimpArgs false
set_option linter.unusedVariables false
namespace Rx
open Go
variable [Glob]
noncomputable section
theorem gN {b : Bool} {c : R} {post : SV × HD -> Prop} (h : (BR b c .fail).holds post) : b = true /\ c.holds post := by
 rw [dz] at h
 cases b
 · exact h.elim
 · exact ⟨rfl, h⟩
theorem OY {a b : Bool} (h : eqB a b = true) : a = b := by
 cases a <;> cases b <;> first | rfl | cases h
theorem lZ {a b : Nat} (h : Nat.beq a b = true) : a = b := Nat.eq_of_beq_eq_true h
theorem dD {a b : SV} {c : R} {post : SV × HD -> Prop} (h : (iI a b c).holds post) : a = b /\ c.holds post := by
 unfold iI at h
 split at h
 · obtain ⟨hb, h'⟩ := gN h
   simp only [Bool.and_eq_true, dU, decide_eq_true_eq, vw] at hb
   rw [hb.1, hb.2]
   exact ⟨rfl, h'⟩
 · obtain ⟨hb, h⟩ := gN h
   rw [OY hb]
   exact ⟨rfl, h⟩
 · obtain ⟨hb, h⟩ := gN h
   simp only [Bool.and_eq_true] at hb
   rw [lZ hb.1, lZ hb.2]
   exact ⟨rfl, h⟩
 · obtain ⟨hb, h⟩ := gN h
   simp only [Bool.and_eq_true] at hb
   rw [lZ hb.1, lZ hb.2.1, lZ hb.2.2.1, lZ hb.2.2.2]
   exact ⟨rfl, h⟩
 · obtain ⟨hb, h⟩ := gN h
   simp only [Bool.and_eq_true] at hb
   rw [lZ hb.1, lZ hb.2.1, lZ hb.2.2.1, lZ hb.2.2.2]
   exact ⟨rfl, h⟩
 · obtain ⟨hb, h⟩ := gN h
   simp only [Bool.and_eq_true] at hb
   rw [lZ hb.1, lZ hb.2.1, lZ hb.2.2.1, lZ hb.2.2.2.1, lZ hb.2.2.2.2]
   exact ⟨rfl, h⟩
 · exact ⟨rfl, h⟩
 · exact ⟨rfl, h⟩
 · rename_i s t
   obtain ⟨hb, h'⟩ := gN h
   have e : s.data.toList = t.data.toList := by simpa using hb
   have : s = t := by
    cases s with | mk s => cases t with | mk t =>
    congr 1
    exact Array.toList_inj.1 e
   rw [this]
   exact ⟨rfl, h'⟩
 · obtain ⟨hb, h⟩ := gN h
   rw [lZ hb]
   exact ⟨rfl, h⟩
 · obtain ⟨hb, h'⟩ := gN h
   simp only [Bool.and_eq_true, dU, decide_eq_true_eq, vw] at hb
   rw [hb.1, hb.2]
   exact ⟨rfl, h'⟩
 · obtain ⟨hb, h'⟩ := gN h
   rw [OY hb]
   exact ⟨rfl, h'⟩
 · obtain ⟨hb, h'⟩ := gN h
   simp only [Bool.and_eq_true, dU, decide_eq_true_eq, vw] at hb
   rw [hb.1, hb.2.1, hb.2.2, h'.1]
   exact ⟨rfl, h'.2⟩
 · exact ⟨by rw [h.1], h.2⟩
 · exact h
theorem Jb {c : R} {post : SV × HD -> Prop} : ∀ {l m : List SV}, (Va l m c).holds post -> l = m /\ c.holds post
 | [], [], h => ⟨rfl, h⟩
 | [], _ :: _, h => h.elim
 | _ :: _, [], h => h.elim
 | x :: l, y :: m, h => by
   obtain ⟨h1, h2⟩ := dD (show (iI x y (Va l m c)).holds post from h)
   obtain ⟨h3, h4⟩ := Jb h2
   rw [h1, h3]
   exact ⟨rfl, h4⟩
theorem Tv {a b : SV} {c : R} {post : SV × HD -> Prop} (h : (svQ a b c).holds post) : a = b /\ c.holds post := by
 unfold svQ at h
 split at h
 · obtain ⟨h1, h2⟩ := Jb h
   rw [h1]
   exact ⟨rfl, h2⟩
 · exact dD h
def WV (P : Program) (fl : Nat) (ops : Array Oper) (sts : List FSt) (nob : Nat) (x : Nat × Bool × List Nat) : Prop :=
 ∀ o s s', ops[x.1]? = some o -> sts[x.1]? = some s -> sts[x.1 + 1]? = some s' -> iE ops o (s.cs fl) = false -> (∀ i ∈ tgt (evG fl s.sl s.lo) o, i < lim x nob s.nb) /\
   ∃ d, o.dst = some d /\ ∀ q ∈ x.2.2, ∃ sq r, sts[q]? = some sq /\ cxE P (evG fl s.sl s.lo) (au sq.ob) 0 o = .ret r /\ r.sv = view fl s'.sl s'.lo d
theorem dF {a b : SV} {c : R} {post : SV × HD -> Prop} (h : (U1 a b c).holds post) : a = b /\ c.holds post := by
 cases a with
 | dt d => cases b with
   | dt d' => exact dD (show (iI (.dt d) (.dt d') c).holds post from h)
   | _ => exact h.elim
 | ptr i o => cases b with
   | ptr j p =>
     have h : (BR (aM (Nat.beq i j) (Nat.beq o p)) c .fail).holds post := h
     rw [gT] at h
     exact dD (show (iI (.ptr i o) (.ptr j p) c).holds post from h)
   | _ => exact h.elim
 | kb p => cases b with
   | kb q => exact dD (show (iI (.kb p) (.kb q) c).holds post from h)
   | _ => exact h.elim
 | ki k n => cases b with
   | ki k' m =>
     have h : (BR (aM (dU k k') (eqI n m)) c .fail).holds post := h
     rw [gT] at h
     exact dD (show (iI (.ki k n) (.ki k' m) c).holds post from h)
   | _ => exact h.elim
 | nm i => cases b with
   | nm j => exact dD (show (iI (.nm i) (.nm j) c).holds post from h)
   | _ => exact h.elim
 | rp i o y z => cases b with
   | rp i' o' y' z' =>
     have h : (BR (aM (Nat.beq i i') (aM (Nat.beq o o') (aM (Nat.beq y y') (Nat.beq z z')))) c .fail).holds post := h
     simp only [gT] at h
     exact dD (show (iI (.rp i o y z) (.rp i' o' y' z') c).holds post from h)
   | _ => exact h.elim
 | ri k a b' n => cases b with
   | ri k' a' b'' n' =>
     have h : (BR (aM (dU k k') (aM (eqI a a') (eqI b' b''))) (.need (n = n') c) .fail).holds post := h
     simp only [gT] at h
     exact dD (show (iI (.ri k a b' n) (.ri k' a' b'' n') c).holds post from h)
   | _ => exact h.elim
 | sl i o y z k => cases b with
   | sl i' o' y' z' k' =>
     have h : (BR (aM (Nat.beq i i') (aM (Nat.beq o o') (aM (Nat.beq y y') (Nat.beq z z')))) (onQ k k' c) .fail).holds post := h
     simp only [gT] at h
     obtain ⟨h1, h2⟩ := gN h
     simp only [Bool.and_eq_true] at h1
     obtain ⟨e1, e2, e3, e4⟩ := h1
     cases lZ e1
     cases lZ e2
     cases lZ e3
     cases lZ e4
     cases k with
     | none => cases k' with
       | none => exact ⟨rfl, h2⟩
       | some _ => exact h2.elim
     | some m => cases k' with
       | none => exact h2.elim
       | some m' =>
         obtain ⟨h1, h3⟩ := gN (show (BR (Nat.beq m m') c .fail).holds post from h2)
         cases lZ h1
         exact ⟨rfl, h3⟩
   | _ => exact h.elim
 | sy s => cases b with
   | sy t =>
     have h : s = t /\ c.holds post := h
     exact ⟨by rw [h.1], h.2⟩
   | _ => exact h.elim
 | junk => exact dD (show (iI .junk b c).holds post from h)
 | agg l => exact dD (show (iI (.agg l) b c).holds post from h)
 | tup l => exact dD (show (iI (.tup l) b c).holds post from h)
 | el m g => exact dD (show (iI (.el m g) b c).holds post from h)
 | fn f l => exact dD (show (iI (.fn f l) b c).holds post from h)
theorem Jg {c : R} {post : SV × HD -> Prop} : ∀ {l m : List SV}, (TV l m c).holds post -> l = m /\ c.holds post
 | [], [], h => ⟨rfl, h⟩
 | [], _ :: _, h => h.elim
 | _ :: _, [], h => h.elim
 | x :: l, y :: m, h => by
   obtain ⟨h1, h2⟩ := dF (show (U1 x y (TV l m c)).holds post from h)
   obtain ⟨h3, h4⟩ := Jg h2
   rw [h1, h3]
   exact ⟨rfl, h4⟩
theorem Sj {a b : SV} {c : R} {post : SV × HD -> Prop} (h : (svS a b c).holds post) : a = b /\ c.holds post := by
 cases a with
 | agg l => cases b with
   | agg m =>
     obtain ⟨h1, h2⟩ := Jg (show (TV l m c).holds post from h)
     rw [h1]
     exact ⟨rfl, h2⟩
   | _ => exact h.elim
 | junk => exact dF (a := .junk) h
 | dt d => exact dF (a := .dt d) h
 | tup l => exact dF (a := .tup l) h
 | ptr i o => exact dF (a := .ptr i o) h
 | el m g => exact dF (a := .el m g) h
 | fn f l => exact dF (a := .fn f l) h
 | kb p => exact dF (a := .kb p) h
 | ki k n => exact dF (a := .ki k n) h
 | nm i => exact dF (a := .nm i) h
 | rp i o y z => exact dF (a := .rp i o y z) h
 | ri k a b n => exact dF (a := .ri k a b n) h
 | sl i o y z k => exact dF (a := .sl i o y z k) h
 | sy s => exact dF (a := .sy s) h
theorem ND {s : SV} {P : Program} {t : TypeId} {ob : OB} {g : R} {k : SV -> R} {post : SV × HD -> Prop} (h : (Ou s P t ob g k).holds post) : g.holds post ∨ ∃ v, fF P (au ob) t s = .ret v /\ (k (nK v)).holds post := by
 cases s with
 | ptr i off =>
   have h : (RF (au ob i) P t off g k).holds post := h
   cases hg : au ob i with
   | none => rw [hg] at h; exact h.elim
   | some b =>
     rw [hg] at h
     cases b with
     | cells t' cs =>
       have h : (oB (ldK P t) .fail g (Jm cs off .fail fun s => k (nKS s))).holds post := h
       rw [Mc] at h
       unfold ldK at h
       cases ha : nZ P t with
       | none => simp only [ha] at h; exact h.elim
       | some b =>
         cases hz : bC P t with
         | none => simp only [ha, hz] at h; exact h.elim
         | some n =>
           simp only [ha, hz] at h
           cases b with
           | true => exact .inl h
           | false =>
             rw [cond_false, yT] at h
             split at h
             · rename_i s hs
               rw [vV] at h
               exact .inr ⟨s, by simp only [fF, fP, ha, hz, hg, hs], h⟩
             · exact h.elim
     | _ => exact h.elim
 | rp i idx sz off =>
   have h : (Uw (au ob i) P t idx sz off g k).holds post := h
   cases hg : au ob i with
   | none => rw [hg] at h; exact .inl h
   | some b =>
     rw [hg] at h
     cases b with
     | vec t' sz' len tr ex =>
       have h : (oB (ldK P t) .fail (szK P t fun n => BR (aM (Nat.beq sz sz') (aM (Nat.ble (Nat.add off n) sz) (Nat.blt idx len))) (k (.agg (ny tr n (Nat.add (Nat.mul idx sz) off)))) .fail) (BR (aM (Nat.beq sz sz') (aM (Nat.blt off sz) (Nat.blt idx len))) (k (nKS (gP tr (Nat.add (Nat.mul idx sz) off)))) .fail)).holds post := h
       rw [Mc] at h
       unfold ldK at h
       simp only [gT, Nat.add_eq, Nat.mul_eq] at h
       cases ha : nZ P t with
       | none => simp only [ha] at h; exact h.elim
       | some b =>
         cases hz : bC P t with
         | none => simp only [ha, hz] at h; exact h.elim
         | some n =>
           simp only [ha, hz] at h
           cases b with
           | true =>
             unfold szK at h
             simp only [hz, cond_true] at h
             rw [dz] at h
             cases hb : (Nat.beq sz sz' && (Nat.ble (off + n) sz && Nat.blt idx len)) with
             | false => rw [hb] at h; exact h.elim
             | true =>
               rw [hb, cond_true, nM] at h
               exact .inr ⟨.agg (eu tr (idx * sz + off) n), by simp only [fF, ha, hz, hg, hb]; rfl, h⟩
           | false =>
             rw [cond_false, dz] at h
             cases hb : (Nat.beq sz sz' && (Nat.blt off sz && Nat.blt idx len)) with
             | false => rw [hb] at h; exact h.elim
             | true =>
               rw [hb, cond_true, Ap, vV] at h
               exact .inr ⟨_, by simp only [fF, ha, hz, hg, hb]; rfl, h⟩
     | _ => exact .inl h
 | _ => exact .inl h
theorem yx (l : List FSt) : ∀ (n : Nat) (f : R) (k : FSt -> R), Oz l n f k = match l[n]? with
  | some s => k s
  | none => f := by
 induction l with
 | nil => intro n f k; rfl
 | cons s l ih =>
   intro n f k
   cases n with
   | zero => rfl
   | succ n => exact ih n f k
theorem DX {P : Program} {fl : Nat} {o : Oper} {s : FSt} {y : SV} {c : R} {sq : FSt} {post : SV × HD -> Prop} (h : (Dg P fl o s y c sq).holds post) : c.holds post /\ ∃ r, cxE P (evG fl s.sl s.lo) (au sq.ob) 0 o = .ret r /\ r.sv = y := by
 unfold Dg at h
 split at h
 · rename_i r hr
   obtain ⟨h1, h2⟩ := Tv h
   exact ⟨h2, r, hr, h1⟩
 · exact h.elim
theorem JB {o : Oper} {t : TypeId} {x : Operand} (h : stB o = some (t, x)) : o.op = .load t x := by
 unfold stB at h
 split at h
 · rename_i t' x' e
   cases h
   exact e
 · cases h
theorem TA {P : Program} {fl : Nat} {sts : List FSt} {o : Oper} {s : FSt} {y : SV} {q : Nat} {c : R} {post : SV × HD -> Prop} (h : (stQ P fl sts o s y q c).holds post) :
  c.holds post /\ ∃ sq r, sts[q]? = some sq /\ cxE P (evG fl s.sl s.lo) (au sq.ob) 0 o = .ret r /\ r.sv = y := by
 unfold stQ at h
 rw [yx] at h
 split at h
 · rename_i sq hsq
   cases hb : stB o with
   | none =>
     rw [hb] at h
     obtain ⟨h1, r, h2, h3⟩ := DX (show (Dg P fl o s y c sq).holds post from h)
     exact ⟨h1, sq, r, hsq, h2, h3⟩
   | some tx =>
     obtain ⟨t, x⟩ := tx
     rw [hb] at h
     have ho := JB hb
     rcases ND (show (Ou (evG fl s.sl s.lo x) P t sq.ob (Dg P fl o s y c sq) (fun z => svS z y c)).holds post from h) with h | ⟨v, hv, h⟩
     · obtain ⟨h1, r, h2, h3⟩ := DX h
       exact ⟨h1, sq, r, hsq, h2, h3⟩
     · obtain ⟨h1, h2⟩ := Sj h
       refine ⟨h2, sq, ⟨nK v, .none⟩, hsq, ?_, h1⟩
       have eC : cxE P (evG fl s.sl s.lo) (au sq.ob) 0 o = (fF P (au sq.ob) t (evG fl s.sl s.lo x)).bind jI := by unfold cxE; simp only [ho]
       rw [eC, hv]
       rfl
 · exact h.elim
theorem MS {P : Program} {fl : Nat} {sts : List FSt} {o : Oper} {s : FSt} {y : SV} {c : R} {post : SV × HD -> Prop} : ∀ {qs : List Nat}, (qsQ P fl sts o s y qs c).holds post ->
  c.holds post /\ ∀ q ∈ qs, ∃ sq r, sts[q]? = some sq /\ cxE P (evG fl s.sl s.lo) (au sq.ob) 0 o = .ret r /\ r.sv = y
 | [], h => ⟨h, fun q hq => by cases hq⟩
 | q :: qs, h => by
   obtain ⟨h1, h2⟩ := TA (show (stQ P fl sts o s y q (qsQ P fl sts o s y qs c)).holds post from h)
   obtain ⟨h3, h4⟩ := MS h1
   refine ⟨h3, fun q' hq => ?_⟩
   rcases List.mem_cons.1 hq with rfl | hq
   · exact h2
   · exact h4 q' hq
theorem NK {s : SV} {n : Nat} (h : UA s n = true) : ∀ i ∈ kg s, i < n := by
 cases s with
 | ptr i o =>
   intro j hj
   have : Nat.blt i n = true := h
   rw [Nat.blt_eq] at this
   simp only [kg, List.mem_singleton] at hj
   omega
 | rp i a z o =>
   intro j hj
   have : Nat.blt i n = true := h
   rw [Nat.blt_eq] at this
   simp only [kg, List.mem_singleton] at hj
   omega
 | _ => intro j hj; cases hj
theorem Tx {fl nob : Nat} {o : Oper} {s : FSt} (h : tgQ fl nob o s = true) : ∀ i ∈ tgt (evG fl s.sl s.lo) o, i < nob := by
 unfold tgQ at h
 cases hb : stB o with
 | none =>
   rw [hb] at h
   intro i hi
   have := List.all_eq_true.1 h i hi
   simpa [Nat.blt_eq] using this
 | some tx =>
   obtain ⟨t, x⟩ := tx
   rw [hb] at h
   have ho := JB hb
   intro i hi
   have e : tgt (evG fl s.sl s.lo) o = kg (evG fl s.sl s.lo x) := by unfold tgt; simp only [ho]
   rw [e] at hi
   exact NK h i hi
theorem VX (ops : Array Oper) (fl : Nat) (o : Oper) (s : FSt) : skQ ops fl o s = iE ops o (s.cs fl) := by
 unfold skQ
 cases h : o.guard with
 | none => unfold iE; rw [h]
 | some g => rfl
theorem Q9 {P : Program} {fl : Nat} {ops : Array Oper} {sts : List FSt} {nob : Nat} {x : Nat × Bool × List Nat} {c : R} {post : SV × HD -> Prop} (h : (Td P fl ops sts nob x c).holds post) : c.holds post /\ WV P fl ops sts nob x := by
 unfold Td at h
 cases h1 : ops[x.1]? with
 | none => rw [h1] at h; exact h.elim
 | some o =>
   rw [h1] at h
   have h : (QV P fl ops sts nob x c o).holds post := h
   unfold QV at h
   rw [yx] at h
   split at h
   · rename_i s h2
     rw [dz, VX] at h
     cases hs : iE ops o (s.cs fl) with
     | true =>
       rw [hs, cond_true, yx] at h
       split at h
       · rename_i s' h3
         refine ⟨h, fun o' s1 s1' e1 e2 e3 e4 => ?_⟩
         rw [h1] at e1; injection e1 with e1; subst e1
         rw [h2] at e2; injection e2 with e2; subst e2
         rw [hs] at e4; cases e4
       · exact h.elim
     | false =>
       rw [hs, cond_false] at h
       obtain ⟨h4, h⟩ := gN h
       rw [yx] at h
       split at h
       · rename_i s' h3
         cases hd : o.dst with
         | none => rw [hd] at h; exact h.elim
         | some d =>
           rw [hd] at h
           obtain ⟨h5, h6⟩ := MS (show (qsQ P fl sts o s (view fl s'.sl s'.lo d) x.2.2 c).holds post from h)
           refine ⟨h5, fun o' s1 s1' e1 e2 e3 e4 => ?_⟩
           rw [h1] at e1; injection e1 with e1; subst e1
           rw [h2] at e2; injection e2 with e2; subst e2
           have h3 : sts[x.1 + 1]? = some s' := h3
           rw [h3] at e3; injection e3 with e3; subst e3
           exact ⟨Tx h4, d, hd, h6⟩
       · exact h.elim
   · exact h.elim
theorem H6 {P : Program} {fl : Nat} {ops : Array Oper} {sts : List FSt} {nob : Nat} {c : R} {post : SV × HD -> Prop} : ∀ {l : List (Nat × Bool × List Nat)}, (Tj P fl ops sts nob l c).holds post -> c.holds post /\ ∀ x ∈ l, WV P fl ops sts nob x
 | [], h => ⟨h, fun x hx => by cases hx⟩
 | x :: l, h => by
   obtain ⟨h1, h2⟩ := Q9 (show (Td P fl ops sts nob x (Tj P fl ops sts nob l c)).holds post from h)
   obtain ⟨h3, h4⟩ := H6 h1
   refine ⟨h3, fun y hy => ?_⟩
   rcases List.mem_cons.1 hy with rfl | hy
   · exact h2
   · exact h4 y hy
def RD (fl : Nat) : List Oper -> List FSt -> List (CS × SV) -> CS -> Prop
 | [], [s], [], z => z = s.cs fl
 | o :: l, s :: s' :: r, y :: t, z => y.1 = s.cs fl /\ (s'.cs fl).sl = putT o.dst y.2 (s.cs fl).sl /\ RD fl l (s' :: r) t z
 | _, _, _, _ => False
theorem MK {fl : Nat} {z : CS} : ∀ {l : List Oper} {sts : List FSt} {tr : List (CS × SV)}, RD fl l sts tr z -> (∀ q sq, sts[q]? = some sq -> hsAt tr z q = (sq.cs fl).h) /\
  ∀ k o y, l[k]? = some o -> tr[k]? = some y -> ∃ s s', sts[k]? = some s /\ sts[k + 1]? = some s' /\ y.1 = s.cs fl /\ (s'.cs fl).sl = putT o.dst y.2 (s.cs fl).sl
 | [], [s], [], h => by
   have h : z = s.cs fl := h
   refine ⟨fun q sq hq => ?_, fun k o y ho => by simp at ho⟩
   cases q with
   | zero => simp at hq; subst hq; simp [hsAt, h]
   | succ q => simp at hq
 | [], [], _, h => h.elim
 | [], _ :: _ :: _, _, h => by cases h
 | [], [_], _ :: _, h => h.elim
 | _ :: _, [], _, h => by cases h
 | _ :: _, [_], _, h => by cases h
 | _ :: _, _ :: _ :: _, [], h => h.elim
 | o :: l, s :: s' :: r, y :: t, h => by
   obtain ⟨h1, h2, h3⟩ := h
   obtain ⟨h4, h5⟩ := MK h3
   refine ⟨fun q sq hq => ?_, fun k o' y' ho hy => ?_⟩
   · cases q with
     | zero => simp at hq; subst hq; simp [hsAt, h1]
     | succ q =>
       have := h4 q sq (by simpa using hq)
       simpa [hsAt] using this
   · cases k with
     | zero =>
       simp at ho hy
       subst ho; subst hy
       exact ⟨s, s', rfl, rfl, h1, h2⟩
     | succ k =>
       obtain ⟨u, u', q1, q2, q3⟩ := h5 k o' y' (by simpa using ho) (by simpa using hy)
       exact ⟨u, u', by simpa using q1, by simpa using q2, q3⟩
section
variable {E : CEnv} {X : EX} {fl : Nat} {post : SV × HD -> Prop}
theorem XRef.qK (h : XRef X E) (n : Nat) : XRef ⟨X.I, n, X.base, X.W⟩ { E with top := n } := ⟨h.I, rfl, h.base, h.W, h.K⟩
theorem I9 (hE : E.Ok) {ops : Array Oper} {k : KT} {rid : Nat} {wd : List Nat} (hX : XRef X E) (hok : okD E.N ops = true) (hN : E.N <= 16777215) : ∀ (l : List Oper) (i : Nat) (s : FSt) (acc : List FSt), (∀ o ∈ l, fT E.N o.dst = true) -> dM E.top s.nb -> FOk s.ob s.nb ->
  (NA E.P X fl (E.win rid) wd ops l i s acc k).holds post -> (dZ E ops rid wd i l (s.cs fl)).holds fun z => ∃ sts, RD fl l (s :: sts) z.1 z.2 /\ (k ((s :: sts).reverse ++ acc)).holds post
 | [], i, s, acc, _, _, _, h => ⟨[], rfl, h⟩
 | o :: l, i, s, acc, hd, hT, hF, h => by
   have h : (BR (je i wd)
     (BR (Nat.ble (s.nb + E.win rid) X.top) (fN (s.nb + E.win rid) fun n => stG E.P ⟨X.I, n, X.base, X.W⟩ fl ops o (fun sl lo ob _ _ => NA E.P X fl (E.win rid) wd ops l (Nat.succ i) ⟨sl, lo, ob, n⟩ (s :: acc) k) s.sl s.lo s.ob s.nb (fun _ _ _ => .fail)) .fail)
     (stG E.P X fl ops o (fun sl lo ob nb _ => NA E.P X fl (E.win rid) wd ops l (Nat.succ i) ⟨sl, lo, ob, nb⟩ (s :: acc) k) s.sl s.lo s.ob s.nb (fun _ _ _ => .fail))).holds post := h
   simp only [dZ, T.ak]
   have hdo := hd o (by simp)
   have next : ∀ (y : SV × HS) (s' : FSt), (⟨putT o.dst y.1 (view fl s.sl s.lo), y.2⟩ : CS) = s'.cs fl -> dM E.top s'.nb -> FOk s'.ob s'.nb -> (NA E.P X fl (E.win rid) wd ops l (Nat.succ i) s' (s :: acc) k).holds post ->
        T.holds (fun a => T.holds (fun z => ∃ sts, RD fl (o :: l) (s :: sts) z.1 z.2 /\ (k ((s :: sts).reverse ++ acc)).holds post) (T.ret ((s.cs fl, y.1) :: a.1, a.2))) (dZ E ops rid wd (i + 1) l ⟨putT o.dst y.1 (s.cs fl).sl, y.2⟩) := by
     intro y s' e hT' hF' hh
     have e' : (⟨putT o.dst y.1 (s.cs fl).sl, y.2⟩ : CS) = s'.cs fl := e
     rw [e']
     refine T.ay (fun z hz => ?_) _ (I9 hE hX hok hN l (i + 1) s' (s :: acc) (fun o ho => hd o (by simp [ho])) hT' hF' hh)
     obtain ⟨sts, h1, h2⟩ := hz
     refine ⟨s' :: sts, ⟨rfl, by rw [← e'], h1⟩, ?_⟩
     simpa [List.reverse_cons, List.append_assoc] using h2
   rw [dz] at h
   unfold stW
   cases hm : je i wd with
   | false =>
     rw [hm, cond_false] at h
     rw [cond_false]
     have h1 := Fg (rid := rid) (i := i) hX hok hdo hN hT hF h
     have h2 := T.aU (gW hE (ops := ops) (rid := rid) (i := i) o (σ := ⟨view fl s.sl s.lo, ⟨au s.ob, s.nb⟩⟩) hF) h1
     refine T.ay (fun y hy => ?_) _ h2
     obtain ⟨⟨g1, g2, g3⟩, sl', lo', ob', e, hh⟩ := hy
     have eh : y.2 = ⟨au ob', y.2.nob⟩ := congrArg CS.h e
     refine next y ⟨sl', lo', ob', y.2.nob⟩ e ?_ ?_ hh
     · have g3 : y.2.nob <= max E.top s.nb := g3
       have := hT.1
       exact ⟨by show y.2.nob <= _; omega, hT.2⟩
     · intro j hj
       have := g1 j hj
       rw [eh] at this
       exact this
   | true =>
     rw [hm, cond_true] at h
     obtain ⟨hle, h⟩ := gN h
     rw [qp] at h
     rw [hX.top] at hle
     have hle' := Nat.le_of_ble_eq_true hle
     rw [cond_true, show Nat.ble ((s.cs fl).h.nob + E.win rid) E.top = true from hle, cond_true, T.ak]
     have hT1 : dM (s.nb + E.win rid) s.nb := ⟨by omega, Nat.le_trans hle' hT.2⟩
     have h1 := Fg (E := { E with top := s.nb + E.win rid }) (rid := rid) (i := i) (hX.qK _) hok hdo hN hT1 hF h
     have h2 := T.aU (gW (hE.qK (s.nb + E.win rid)) (ops := ops) (rid := rid) (i := i) o (σ := ⟨view fl s.sl s.lo, ⟨au s.ob, s.nb⟩⟩) hF) h1
     refine T.ay (fun y hy => ?_) _ h2
     obtain ⟨⟨g1, g2, g3⟩, sl', lo', ob', e, hh⟩ := hy
     have eh : y.2 = ⟨au ob', y.2.nob⟩ := congrArg CS.h e
     have es : putT o.dst y.1 (view fl s.sl s.lo) = view fl sl' lo' := congrArg CS.sl e
     refine next (y.1, ⟨y.2.obj, s.nb + E.win rid⟩) ⟨sl', lo', ob', s.nb + E.win rid⟩ ?_ ⟨hle', hT.2⟩ ?_ hh
     · show (⟨putT o.dst y.1 (view fl s.sl s.lo), ⟨y.2.obj, s.nb + E.win rid⟩⟩ : CS) = ⟨view fl sl' lo', ⟨au ob', s.nb + E.win rid⟩⟩
       rw [es, eh]
     · intro j hj
       have hj : s.nb + E.win rid <= j := hj
       have g3 : y.2.nob <= max (s.nb + E.win rid) s.nb := g3
       have := g1 j (by omega)
       rw [eh] at this
       exact this
theorem tu (fl : Nat) (sl : Tr SV) (lo : Lo) (h : HS) : jo fl ⟨view fl sl lo, h⟩ = ⟨view fl sl .nil, h⟩ := by
 unfold jo
 congr 1
 funext j
 show (bif fQ fl j then BS (fQ fl j) (gP sl j) (look lo j) else .junk) = BS (fQ fl j) (gP sl j) .junk
 cases fQ fl j <;> rfl
theorem wU {ops : Array Oper} {rid : Nat} {p : CS -> Prop} : ∀ (l : List Oper) (i : Nat) (σ : CS), (lg E ops rid i l σ).holds p -> (dZ E ops rid [] i l σ).holds fun z => p z.2
 | [], _, _, h => h
 | o :: l, i, σ, h => by
   simp only [lg, T.ak] at h
   simp only [dZ, T.ak]
   have e : stW E ops rid [] i o σ = stC E ops rid i o σ := rfl
   rw [e]
   exact T.ay (fun y hy => T.ay (fun z hz => hz) _ (wU l (i + 1) _ hy)) _ h
def Uh (kn : KS) (ke : Nat -> KS) (kr : KS) : Ex -> KS
 | .normal => kn
 | .exit k => ke k
 | .ret => kr
def KC (fl : Nat) (post : SV × HD -> Prop) (kn : KS) (ke : Nat -> KS) (kr : KS) (x : Ex × CS) : Prop :=
 ∃ sl ob, x.2 = ⟨view fl sl .nil, ⟨au ob, x.2.h.nob⟩⟩ /\ (Uh kn ke kr x.1 sl ob x.2.h.nob).holds post
theorem yI {N : Nat} {ops : Array Oper} (h : okD N ops = true) : ∀ o ∈ ops.toList, fT N o.dst = true := List.all_eq_true.1 h
theorem Np (hE : E.Ok) {ops : Array Oper} {rid N fu : Nat} {kn : KS} {ke : Nat -> KS} {kr : KS} (hX : XRef X E) (hok : okD E.N ops = true) (hN : E.N <= 16777215) {sl : Tr SV} {ob : OB} {nb : Nat} (hT : dM E.top nb) (hF : FOk ob nb)
  (h : (P7 rid ops E.P X fl N fu kn ke kr sl ob nb).holds post) : (mY E ops rid ⟨view fl sl .nil, ⟨au ob, nb⟩⟩).holds fun σ' => KC fl post kn ke kr (.normal, jo fl σ') := by
 unfold P7 at h
 unfold mY
 cases hri : gH ops with
 | none => rw [hri] at h; exact h.elim
 | some ri =>
   rw [hri] at h
   simp only [T.ak]
   obtain ⟨ld, wd⟩ := ri
   have slow : (NA E.P X fl (X.W rid) wd ops ops.toList 0 ⟨sl, .nil, ob, nb⟩ [] (Um E.P fl ops ld nb kn)).holds post ->
        T.holds (fun a => T.holds (fun σ' => KC fl post kn ke kr (Ex.normal, jo fl σ')) (.need (∀ x ∈ ld, V8 E.P ops a.1 a.2 nb x) (.ret a.2))) (dZ E ops rid wd 0 ops.toList ⟨view fl sl .nil, ⟨au ob, nb⟩⟩) := by
    intro h
    rw [hX.W] at h
    refine T.ay (fun z hz => ?_) _ (I9 hE hX hok hN ops.toList 0 ⟨sl, .nil, ob, nb⟩ [] (yI hok) hT hF h)
    obtain ⟨sts, hc, hh⟩ := hz
    rw [List.append_nil] at hh
    obtain ⟨c1, c2⟩ := MK hc
    have hlast : ∃ s' acc, ((⟨sl, .nil, ob, nb⟩ : FSt) :: sts).reverse = s' :: acc := by
        cases hr : ((⟨sl, .nil, ob, nb⟩ : FSt) :: sts).reverse with
        | nil => simp at hr
        | cons s' acc => exact ⟨s', acc, rfl⟩
    obtain ⟨s', acc, hr⟩ := hlast
    have hrev : (s' :: acc).reverse = (⟨sl, .nil, ob, nb⟩ : FSt) :: sts := by rw [← hr, List.reverse_reverse]
    rw [hr] at hh
    have hh : (Tj E.P fl ops (s' :: acc).reverse nb ld (kn s'.sl s'.ob s'.nb)).holds post := hh
    rw [hrev] at hh
    obtain ⟨h1, h2⟩ := H6 hh
    have hz2 : z.2 = s'.cs fl := by
     have key : ∀ (l : List Oper) (sts : List FSt) (tr : List (CS × SV)) (z : CS), RD fl l sts tr z -> ∀ s' acc, sts.reverse = s' :: acc -> z = s'.cs fl := by
      intro l
      induction l with
      | nil =>
        intro sts tr z h s' acc hr
        match sts, tr, h with
        | [s], [], h =>
          simp at hr
          obtain ⟨rfl, _⟩ := hr
          exact h
      | cons o l ih =>
        intro sts tr z h s' acc hr
        match sts, tr, h with
        | s :: s1 :: r, y :: t, h =>
          refine ih (s1 :: r) t z h.2.2 s' acc.dropLast ?_
          have : (s1 :: r).reverse ++ [s] = s' :: acc := by simpa using hr
          have h4 := congrArg List.dropLast this
          rw [List.dropLast_concat] at h4
          rw [h4]
          cases acc with
          | nil =>
            have := congrArg List.length this
            simp at this
          | cons a acc => rfl
     exact key _ _ _ _ hc s' acc hr
    refine ⟨fun x hx => ?_, ?_⟩
    · intro o y ho hy hsk
      obtain ⟨s, s1, q1, q2, q3, q4⟩ := c2 x.1 o y (by simpa using ho) hy
      obtain ⟨r1, d, r2, r3⟩ := h2 x hx o s s1 ho q1 q2 (by rw [← q3]; exact hsk)
      have eev : evC y.1.sl = evG fl s.sl s.lo := by rw [q3, Kv]; rfl
      refine ⟨fun i hi => by rw [q3]; exact r1 i (by rw [← eev]; exact hi), fun q hq => ?_⟩
      obtain ⟨sq, r, t1, t2, t3⟩ := r3 q hq
      refine ⟨r, ?_, fun C w v hr => ?_⟩
      · rw [eev, c1 q sq t1]
        exact t2
      · have e : r.sv = y.2 := by
         rw [t3]
         show (s1.cs fl).sl d = _
         rw [q4, r2]
         show lC (some d) d y.2 _ = _
         rw [aS, if_pos rfl]
        rw [← e]; exact hr
    · show KC fl post kn ke kr (Ex.normal, jo fl z.2)
      rw [hz2]
      show KC fl post kn ke kr (Ex.normal, jo fl ⟨view fl s'.sl s'.lo, ⟨au s'.ob, s'.nb⟩⟩)
      rw [tu]
      exact ⟨s'.sl, s'.ob, rfl, h1⟩
   split at h
   · rename_i e
     injection e with e
     injection e with e1 e2
     subst e1; subst e2
     have h1 := uH hE (rid := rid) hX hok hN ops.toList 0 sl .nil ob nb (yI hok) hT hF h
     refine T.ay (fun z hz => ⟨fun x hx => (by cases hx), ?_⟩) _ (wU ops.toList 0 _ h1)
     obtain ⟨sl', lo', ob', e, hh⟩ := hz
     show KC fl post kn ke kr (Ex.normal, jo fl z.2)
     have eh : z.2.h.nob = z.2.h.nob := rfl
     rw [e, tu]
     exact ⟨sl', ob', rfl, hh⟩
   · rename_i ri' _ e
     injection e with e
     subst e
     exact slow h
   · rename_i e; cases e
end
end
end Rx
