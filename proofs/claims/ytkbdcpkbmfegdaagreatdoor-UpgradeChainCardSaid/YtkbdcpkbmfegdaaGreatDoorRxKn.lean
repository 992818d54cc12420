/- Rx, part Kn: a map that is gone over; operations in the order of the text. -/
import Derived.Test.YtkbdcpkbmfegdaaGreatDoorRxK
set_option linter.unusedSectionVars false
set_option linter.unusedSimpArgs false
set_option linter.unusedVariables false
namespace Rx
open Go
variable [Glob]
def cB (kt vt : Ty) (l : List (kt.den × vt.den)) (k : Nat) : kt.den × vt.den := l.getD k (kt.dflt, vt.dflt)
theorem uR (kt vt : Ty) : ∀ (l : List (kt.den × vt.den)) (i : Nat), iw kt vt i l = (List.range' i l.length).map fun k => ⟨kt.val (cB kt vt l (k - i)).1, vt.val (cB kt vt l (k - i)).2, k⟩
 | [], i => rfl
 | x :: l, i => by
   simp only [iw, List.length_cons, List.range'_succ, List.map_cons, Nat.sub_self]
   rw [uR kt vt l (i + 1)]
   congr 1
   apply List.map_congr_left
   intro k hk
   have : i + 1 <= k := by
     have := (List.mem_range'.1 hk)
     obtain ⟨j, _, rfl⟩ := this; omega
   have e : k - i = (k - (i + 1)) + 1 := by omega
   rw [e]; rfl
def leftOf (n : Nat) (seen : List Nat) : List Nat := (List.range n).filter fun k => !seen.contains k
theorem xX {n : Nat} {seen : List Nat} {k : Nat} (h : k ∈ leftOf n seen) : k < n /\ k ∉ seen := by
 unfold leftOf at h
 rw [List.mem_filter] at h
 exact ⟨List.mem_range.1 h.1, by simpa using h.2⟩
def Ck (g : Nat -> Option Ob) (x : SV) : T Res :=
 match x with
 | .ptr i 0 => match g i with
   | some (.it m n seen) => match g m with
     | some (.mp kt vt l) => .need (n = l.length) (.ite (leftOf n seen).isEmpty (.ret ⟨.tup [.kb false], .none⟩)
       (.all (leftOf n seen).length fun j => .ret ⟨.tup [.kb true, gW kt (cB kt vt l ((leftOf n seen).getD j 0)).1, gW vt (cB kt vt l ((leftOf n seen).getD j 0)).2], ⟨[(i, some (.it m n ((leftOf n seen).getD j 0 :: seen)))], []⟩⟩))
     | _ => .fail
   | _ => .fail
 | _ => .fail
def Aa (g : Nat -> Option Ob) (x : SV) : T Res :=
 match x with
 | .ptr i 0 => match g i with
   | some (.it m n (k :: _)) => match g m with
     | some (.mp kt vt l) => .need (n = l.length /\ k < l.length) (.ret ⟨.tup [gW kt (cB kt vt l k).1, gW vt (cB kt vt l k).2], .none⟩)
     | _ => .fail
   | _ => .fail
 | _ => .fail
theorem Ui {P : Program} {w : World} {ty : TypeId} {b bm : Nat} {kt vt : Ty} {l : List (kt.den × vt.den)} {seen : List Nat} (hb : w.heap[b]? = some (.mapIter (some bm) l.length seen.reverse.toArray l.length))
  (hm : w.heap[bm]? = some (.map (iw kt vt 0 l).toArray l.length)) :
  ((leftOf l.length seen).isEmpty = true -> ∃ w', (w' = w ∨ w' = { w with drawn := w.drawn + 1 }) /\ (Instr.next (.pointer (some ⟨b, 0, none⟩)) false ty).run P w = .ok (.tuple #[.bool false]) w') /\
  ((leftOf l.length seen).isEmpty = false -> ∃ j, j < (leftOf l.length seen).length /\ ∃ w', (w' = w ∨ w' = { w with drawn := w.drawn + 1 }) /\
    (Instr.next (.pointer (some ⟨b, 0, none⟩)) false ty).run P w = .ok (.tuple #[.bool true, kt.val (cB kt vt l ((leftOf l.length seen).getD j 0)).1, vt.val (cB kt vt l ((leftOf l.length seen).getD j 0)).2])
        { w' with heap := w.heap.setIfInBounds b (.mapIter (some bm) l.length ((leftOf l.length seen).getD j 0 :: seen).reverse.toArray l.length) }) := by
 have hgo : ∀ {r : Nat} {o : Obj}, w.heap[r]? = some o -> (∀ c e f, o ≠ .cells c e f) -> (getObj r).run P w = .ok o w := by
  intro r o h hn
  cases o <;> first | (simp [getObj, Sem.run, h]; done) | exact absurd rfl (hn _ _ _)
 have h1 := hgo hb (fun _ _ _ h => by cases h)
 have h2 := hgo hm (fun _ _ _ h => by cases h)
 let ent : Nat -> MapEntry := fun k => ⟨kt.val (cB kt vt l k).1, vt.val (cB kt vt l k).2, k⟩
 have hent : iw kt vt 0 l = (List.range l.length).map ent := by
  rw [uR, List.range_eq_range']; rfl
 have hleft : (iw kt vt 0 l).filter (fun e => !seen.reverse.toArray.contains e.born) = (leftOf l.length seen).map ent := by
  rw [hent, List.filter_map]
  congr 1
  unfold leftOf
  apply List.filter_congr
  intro k _
  simp [ent, Function.comp]
 have hold : ((leftOf l.length seen).map ent).filter (fun e => decide (e.born < l.length)) = (leftOf l.length seen).map ent := by
  rw [List.filter_eq_self]
  intro e he
  obtain ⟨k, hk, rfl⟩ := List.mem_map.1 he
  simpa [ent] using (xX hk).1
 have hnew : ((leftOf l.length seen).map ent).filter (fun e => decide (e.born ≥ l.length)) = [] := by
  rw [List.filter_eq_nil_iff]
  intro e he
  obtain ⟨k, hk, rfl⟩ := List.mem_map.1 he
  have := (xX hk).1
  simp [ent]; omega
 have hall : (!seen.reverse.toArray.isEmpty && !(iw kt vt 0 l).toArray.isEmpty && (iw kt vt 0 l).toArray.all fun e => decide (e.born ≥ l.length)) = false := by
  cases l with
  | nil => simp [iw]
  | cons x l => simp [iw]
 have hcand : ∀ (q : Sem Value), (Instr.next (.pointer (some ⟨b, 0, none⟩)) false ty).run P w = (do
   match ((if ((leftOf l.length seen).map ent).toArray.isEmpty then #[none] else #[]) ++ (((leftOf l.length seen).map ent).toArray ++ #[]).map some)[← choose (.mapNext ((if ((leftOf l.length seen).map ent).toArray.isEmpty then #[none] else #[]) ++ (((leftOf l.length seen).map ent).toArray ++ #[]).map some).size)]? with
   | some (some e) =>
     setObj b (.mapIter (some bm) l.length (seen.reverse.toArray.push e.born) l.length)
     pure (.tuple #[.bool true, e.key, e.val])
   | some none => pure (.tuple #[.bool false])
   | none => stuck "Next: no such candidate" : Sem Value).run P w := by
  intro _
  unfold Instr.next
  have f1 : ((iw kt vt 0 l).toArray.filter fun e => !seen.reverse.toArray.contains e.born) = ((leftOf l.length seen).map ent).toArray := by
   apply Array.ext'; rw [Array.toList_filter]; exact hleft
  have f2 : ((leftOf l.length seen).map ent).toArray.filter (fun e => decide (e.born < l.length)) = ((leftOf l.length seen).map ent).toArray := by
   apply Array.ext'; rw [Array.toList_filter]; exact hold
  have f3 : ((leftOf l.length seen).map ent).toArray.filter (fun e => decide (e.born ≥ l.length)) = #[] := by
   apply Array.ext'; rw [Array.toList_filter]; exact hnew
  simp only [Sem.run_bind, h1, Result.andThen_ok, h2, hall, Bool.false_eq_true, if_false, f1, f2, f3, Sem.run_pure]
  rfl
 have hc := hcand (pure undef)
 refine ⟨fun he => ?_, fun he => ?_⟩
 · have he' : leftOf l.length seen = [] := by simpa using he
   refine ⟨w, .inl rfl, ?_⟩
   rw [hc, he']
   simp [choose, Sem.run, Question.forced]
 · have hne : (leftOf l.length seen) ≠ [] := fun h => by rw [h] at he; cases he
   have hpos : 0 < (leftOf l.length seen).length := List.length_pos_iff.2 hne
   have hemp : ((leftOf l.length seen).map ent).toArray.isEmpty = false := by
    cases hl : leftOf l.length seen with
    | nil => exact absurd hl hne
    | cons x y => simp
   have hcs : ((if ((leftOf l.length seen).map ent).toArray.isEmpty then #[none] else #[]) ++ (((leftOf l.length seen).map ent).toArray ++ #[]).map some) = ((leftOf l.length seen).map fun k => some (ent k)).toArray := by
    rw [hemp]; apply Array.ext'; simp
   rw [hcs] at hc
   have hstep : ∀ (w' : World) (j : Nat), (w' = w ∨ w' = { w with drawn := w.drawn + 1 }) -> j < (leftOf l.length seen).length ->
        (match ((leftOf l.length seen).map fun k => some (ent k)).toArray[j]? with
    | some (some e) => (do
      setObj b (.mapIter (some bm) l.length (seen.reverse.toArray.push e.born) l.length)
      pure (.tuple #[.bool true, e.key, e.val]) : Sem Value)
    | some none => pure (.tuple #[.bool false])
    | none => stuck "Next: no such candidate").run P w' = .ok (.tuple #[.bool true, kt.val (cB kt vt l ((leftOf l.length seen).getD j 0)).1, vt.val (cB kt vt l ((leftOf l.length seen).getD j 0)).2])
      { w' with heap := w.heap.setIfInBounds b (.mapIter (some bm) l.length ((leftOf l.length seen).getD j 0 :: seen).reverse.toArray l.length) } := by
    intro w' j hw' hj
    have hh : w'.heap = w.heap := by rcases hw' with rfl | rfl <;> rfl
    have hg : ((leftOf l.length seen).map fun k => some (ent k)).toArray[j]? = some (some (ent ((leftOf l.length seen).getD j 0))) := by
     simp [List.getD_eq_getElem?_getD, hj]
    have hset : (setObj b (.mapIter (some bm) l.length (seen.reverse.toArray.push ((leftOf l.length seen).getD j 0)) l.length)).run P w' = .ok () { w' with heap := w'.heap.setIfInBounds b (.mapIter (some bm) l.length (seen.reverse.toArray.push ((leftOf l.length seen).getD j 0)) l.length) } := by
     have hb' : w'.heap[b]? = some (.mapIter (some bm) l.length seen.reverse.toArray l.length) := by rw [hh]; exact hb
     simp [setObj, Sem.run, hb']
    rw [hg]
    have hpush : (seen.reverse.toArray.push ((leftOf l.length seen).getD j 0)) = ((leftOf l.length seen).getD j 0 :: seen).reverse.toArray := by simp
    simp only [Sem.run_bind, ent]
    rw [hset]
    simp only [Result.andThen_ok, Sem.run_pure, hpush, hh]
   by_cases hf : (leftOf l.length seen).length <= 1
   · refine ⟨0, hpos, w, .inl rfl, ?_⟩
     rw [hc]
     have := hstep w 0 (.inl rfl) hpos
     rw [← this]
     simp [choose, Sem.run, Question.forced, hf]
   · have hlt : w.tape w.drawn (.mapNext (leftOf l.length seen).length) % (leftOf l.length seen).length < (leftOf l.length seen).length := Nat.mod_lt _ hpos
     refine ⟨_, hlt, _, .inr rfl, ?_⟩
     rw [hc]
     have := hstep _ _ (.inr rfl) hlt
     rw [← this]
     have hff : decide ((leftOf l.length seen).length <= 1) = false := by simpa using hf
     simp [choose, Sem.run, Question.forced, Question.cut, hff]
theorem y8 {P : Program} {C : Ctx} {w : World} {g : Nat -> Option Ob} {a : Act} {o : Oper} {it : Operand} {x : SV} {post : Res -> Prop} (hw : WF C w) (hg : ObsOk C w g) (ho : o.op = .next it false) (hx : rel C w x (a.eval it))
  (hh : (Ck g x).holds post) : Goes P a o C w post := by
 intro K Q hK
 unfold Ck at hh
 split at hh
 · rename_i i
   split at hh
   · rename_i m n seen hi
     split at hh
     · rename_i kt vt l hm
       simp only [T.holds] at hh
       obtain ⟨hn, hh1, hh2⟩ := hh
       subst hn
       obtain ⟨b, bm, e1, e2, e3, e4⟩ := hg i _ hi
       obtain ⟨bm', f1, f2, f3⟩ := hg m _ hm
       rw [e3] at f2
       injection f2 with f2; injection f2 with f2; injection f2 with f2
       subst f2
       obtain ⟨b', hb', hv⟩ := hx
       rw [e2] at hb'
       injection hb' with hb'; injection hb' with hb'; injection hb' with hb'; injection hb' with hb'
       subst hb'
       obtain ⟨n1, n2⟩ := Ui (P := P) (ty := o.type) e4 f3
       have drew : ∀ w', (w' = w ∨ w' = { w with drawn := w.drawn + 1 }) -> Ag (fun _ => False) w w' := by
        rintro w' (rfl | rfl)
        · exact Ag.refl _ _
        · exact ⟨rfl, rfl, rfl, Nat.le_refl _, fun _ _ _ => rfl⟩
       unfold Oper.wp
       cases hq : (leftOf l.length seen).isEmpty with
       | true =>
         obtain ⟨w', hw', hr⟩ := n1 hq
         have hex : (execOp a.eval o).run P w = .ok (.value (.tuple #[.bool false])) w' := by
          simp only [execOp, ho, hv, Sem.run_bind, hr, Result.andThen_ok, Sem.run_pure]
         rw [hex]
         refine hK _ _ _ _ (hh1 hq) ⟨⟨[_], rfl, _, _, rfl, rfl, rfl⟩, iA (drew w' hw'), rR hw (drew w' hw'), fun _ h => .inl h, fun j ob hj => ?_⟩
         simp [Eff.none] at hj
       | false =>
         obtain ⟨j, hj, w', hw', hr⟩ := n2 hq
         have hex : (execOp a.eval o).run P w = .ok (.value (.tuple #[.bool true, kt.val (cB kt vt l ((leftOf l.length seen).getD j 0)).1, vt.val (cB kt vt l ((leftOf l.length seen).getD j 0)).2]))
           { w' with heap := w.heap.setIfInBounds b (.mapIter (some bm) l.length ((leftOf l.length seen).getD j 0 :: seen).reverse.toArray l.length) } := by
          simp only [execOp, ho, hv, Sem.run_bind, hr, Result.andThen_ok, Sem.run_pure]
         rw [hex]
         have hlt : b < w.heap.size := hw.lt i b e1
         have hh' : w'.heap = w.heap := by rcases hw' with rfl | rfl <;> rfl
         refine hK _ _ _ _ (hh2 hq j hj) ⟨⟨[_, _, _], rfl, _, _, rfl, rfl, _, _, rfl, kL _ _, _, _, rfl, kL _ _, rfl⟩, ?_, ?_, fun _ h => .inl h, fun k ob hk => ?_⟩
         · refine ⟨fun _ _ h => h, rfl, fun j c h => .inl ⟨j, h⟩, fun _ _ _ h => h, ⟨(drew w' hw').os, (drew w' hw').tape, (drew w' hw').output, by simp, fun k hk hn => ?_⟩⟩
           have : b ≠ k := fun e => hn ⟨i, by simp [Eff.X, Eff.touched], e ▸ e1⟩
           simp [Array.getElem?_setIfInBounds_ne this]
         · refine jy (X := fun j => j = i) hw ⟨fun _ _ h => h, rfl, fun j c h => .inl ⟨j, h⟩, fun _ _ _ h => h, ⟨(drew w' hw').os, (drew w' hw').tape, (drew w' hw').output, by simp, fun k hk hn => ?_⟩⟩
           have : b ≠ k := fun e => hn ⟨i, rfl, e ▸ e1⟩
           simp [Array.getElem?_setIfInBounds_ne this]
         · by_cases hki : k = i
           · subst hki
             simp [List.lookup] at hk
             subst hk
             exact ⟨b, bm, e1, e2, e3, by simp [hlt]⟩
           · have : (k == i) = false := by simpa using hki
             simp [List.lookup, this] at hk
     · exact hh.elim
   · exact hh.elim
 · exact hh.elim
theorem vK {P : Program} {C : Ctx} {w : World} {g : Nat -> Option Ob} {a : Act} {o : Oper} {it : Operand} {x : SV} {post : Res -> Prop} (hw : WF C w) (hg : ObsOk C w g) (ho : o.op = .entry it) (hx : rel C w x (a.eval it))
  (hh : (Aa g x).holds post) : Goes P a o C w post := by
 intro K Q hK
 unfold Aa at hh
 split at hh
 · rename_i i
   split at hh
   · rename_i m n k seen hi
     split at hh
     · rename_i kt vt l hm
       simp only [T.holds] at hh
       obtain ⟨⟨hn, hk⟩, hp⟩ := hh
       subst hn
       obtain ⟨b, bm, e1, e2, e3, e4⟩ := hg i _ hi
       obtain ⟨bm', f1, f2, f3⟩ := hg m _ hm
       rw [e3] at f2
       injection f2 with f2; injection f2 with f2; injection f2 with f2
       subst f2
       obtain ⟨b', hb', hv⟩ := hx
       rw [e2] at hb'
       injection hb' with hb'; injection hb' with hb'; injection hb' with hb'; injection hb' with hb'
       subst hb'
       have hgo : ∀ {r : Nat} {o : Obj}, w.heap[r]? = some o -> (∀ c e f, o ≠ .cells c e f) -> (getObj r).run P w = .ok o w := by
        intro r o h hn
        cases o <;> first | (simp [getObj, Sem.run, h]; done) | exact absurd rfl (hn _ _ _)
       have h1 := hgo e4 (fun _ _ _ h => by cases h)
       have h2 := hgo f3 (fun _ _ _ h => by cases h)
       have hback : (k :: seen).reverse.toArray.back? = some k := by simp
       have hfind : (iw kt vt 0 l).toArray.find? (fun e => e.born == k) = some ⟨kt.val (cB kt vt l k).1, vt.val (cB kt vt l k).2, k⟩ := by
        rw [List.find?_toArray, uR, List.find?_map]
        have : (List.range' 0 l.length).find? ((fun e : MapEntry => e.born == k) ∘ fun k => ⟨kt.val (cB kt vt l (k - 0)).1, vt.val (cB kt vt l (k - 0)).2, k⟩) = some k := by
         rw [List.find?_eq_some_iff_append]
         refine ⟨by simp, List.range' 0 k, List.range' (k + 1) (l.length - (k + 1)), ?_, fun x hx => ?_⟩
         · have := List.range'_append (s := 0) (m := k) (n := l.length - k) (step := 1)
           rw [show k + (l.length - k) = l.length by omega] at this
           rw [← this, show l.length - k = (l.length - (k + 1)) + 1 by omega, List.range'_succ]
           simp
         · have := (List.mem_range'.1 hx)
           obtain ⟨j, hj, rfl⟩ := this
           simp; omega
        rw [this]; rfl
       have hex : (execOp a.eval o).run P w = .ok (.value (.tuple #[kt.val (cB kt vt l k).1, vt.val (cB kt vt l k).2])) w := by
        simp only [execOp, ho, hv, Instr.entry, Sem.run_bind, h1, h2, Result.andThen_ok, hback, hfind, Sem.run_pure, bne_self_eq_false, Bool.false_eq_true, if_false]
       unfold Oper.wp
       rw [hex]
       exact hK _ _ _ _ hp (Came.pure hw ⟨[_, _], rfl, _, _, rfl, kL _ _, _, _, rfl, kL _ _, rfl⟩)
     · exact hh.elim
   · exact hh.elim
 · exact hh.elim
def kZ (neg : Bool) (b : Bool) : T Res := .ret ⟨.kb (bif neg then !b else b), .none⟩
def OH (P : Program) (neg : Bool) (t : TypeId) (g : Nat -> Option Ob) (x : SV) : T Res :=
 match P.underlying t with
 | some (.slice _) => match x with
   | .dt (.cell (.slice none 0 _)) => kZ neg true
   | .dt (.arr _ n _) => .ite (Nat.beq n 0) (.both (kZ neg true) (kZ neg false)) (kZ neg false)
   | .nm i => match g i with
     | some (.row _ _ n _) => .ite (Nat.beq n 0) (.both (kZ neg true) (kZ neg false)) (kZ neg false)
     | _ => .fail
   | _ => .fail
 | _ => .fail
theorem Cn {P : Program} {C : Ctx} {w : World} {g : Nat -> Option Ob} {a : Act} {o : Oper} {t t' : TypeId} {x : Operand} {s : SV} {neg : Bool} {post : Res -> Prop} (hw : WF C w) (hg : ObsOk C w g)
  (ho : o.op = .binOp (bif neg then .neq else .eql) t x (.const (.slice none 0 0)) t') (hx : rel C w s (a.eval x)) (hh : (OH P neg t g s).holds post) : Goes P a o C w post := by
 intro K Q hK
 unfold OH at hh
 split at hh
 · rename_i e ht
   have key : ∀ (A : Option Addr) (n c : Nat), a.eval x = .slice A n c -> (kZ neg A.isNone).holds post -> o.wp P a w K Q := by
    intro A n c hv hp
    have hex : (execOp a.eval o).run P w = .ok (.value (.bool (bif neg then !A.isNone else A.isNone))) w := by
        have hc : a.eval (.const (.slice none 0 0)) = .slice none 0 0 := rfl
        have he : (Op.equal t (.slice A n c) (.slice none 0 0)).run P w = .ok A.isNone w := by
         have : ∀ d, (Op.equalIn (d + 1) t (.slice A n c) (.slice none 0 0)).run P w = .ok A.isNone w := fun d => by
          cases A <;> simp [Op.equalIn, underlying, ht]
         exact this 9999
        have hgd : ∀ (op : BinOp) (x y : Operand), (eqGuard op t x y (.slice A n c) (.slice none 0 0)).run P w = .ok () w := fun op x y => by
         unfold eqGuard; split <;> rfl
        cases neg with
        | false =>
          have hb : binOp .eql t (.slice A n c) (.slice none 0 0) = (do pure (.bool (← Op.equal t (.slice A n c) (.slice none 0 0)))) := rfl
          simp only [execOp, ho, cond_false, hv, hc, Sem.run_bind, hgd, Result.andThen_ok, hb, he, Sem.run_pure]
        | true =>
          have hb : binOp .neq t (.slice A n c) (.slice none 0 0) = (do pure (.bool (!(← Op.equal t (.slice A n c) (.slice none 0 0))))) := rfl
          simp only [execOp, ho, cond_true, hv, hc, Sem.run_bind, hgd, Result.andThen_ok, hb, he, Sem.run_pure]
    unfold Oper.wp
    rw [hex]
    exact hK _ _ _ _ hp (Came.pure hw rfl)
   have arr : ∀ (A : Option Addr) (n c : Nat), a.eval x = .slice A n c -> (0 < n -> A.isNone = false) ->
     (T.ite (Nat.beq n 0) (.both (kZ neg true) (kZ neg false)) (kZ neg false)).holds post -> o.wp P a w K Q := by
    intro A n c hv hA h
    obtain ⟨h1, h2⟩ := h
    refine key A n c hv ?_
    cases hn : Nat.beq n 0 with
    | true =>
      obtain ⟨h3, h4⟩ := h1 hn
      cases A with
      | none => exact h3
      | some _ => exact h4
    | false =>
      have : 0 < n := by
       rcases Nat.eq_zero_or_pos n with h | h
       · subst h; cases hn
       · exact h
      rw [hA this]
      exact h2 hn
   split at hh
   · rw [ah] at hx
     exact key _ _ _ hx hh
   · obtain ⟨A, c, hv, _, hc⟩ := hx.here
     refine arr A _ c hv (fun hn => ?_) hh
     obtain ⟨b, off, rfl, _⟩ := hc hn
     rfl
   · rename_i i
     split at hh
     · rename_i t2 sz n f hgi
       obtain ⟨A, c, h1, h2⟩ := hg i _ hgi
       have hx : C.ν i = some (a.eval x) := hx.1
       rw [hx] at h1
       injection h1 with h1
       refine arr A n c h1 (fun hn => ?_) hh
       rcases h2 with ⟨_, h2, _⟩ | ⟨b, _, rfl, _⟩
       · omega
       · rfl
     · exact hh.elim
   · exact hh.elim
 · exact hh.elim
def yE (E : Env) (o : Oper) (t : T Res) (σ : St) : T (Res × St) :=
 match o.guard with
 | none => t.bind fun r => bif effOk r.eff && dstOk E.N o.dst && newOk r.eff σ.nob then .ret (r, σ) else .fail
 | some _ => .fail
def Jc (E : Env) (ops : Array Oper) (rid i : Nat) (o : Oper) (σ : St) : T (Res × St) :=
 match o.op with
 | .next it false => yE E o (Ck σ.obj (evS σ it)) σ
 | .entry it => yE E o (Aa σ.obj (evS σ it)) σ
 | .binOp .eql t x (.const (.slice none 0 0)) _ => yE E o (OH E.P false t σ.obj (evS σ x)) σ
 | .binOp .neq t x (.const (.slice none 0 0)) _ => yE E o (OH E.P true t σ.obj (evS σ x)) σ
 | _ => jP E ops rid i o σ
theorem kD {E : Env} {ops : Array Oper} {o : Oper} {σ : St} {C : Ctx} {a : Act} {w : World} {post : Res × St -> Prop} {t : T Res} (h : Inv E.N C σ a w)
  (hh : (yE E o t σ).holds post) {K : Act -> World -> Prop} {Q : Exit -> Act -> World -> Prop} (hk : Stepped E C a w o K post) (hgo : ∀ p : Res -> Prop, t.holds p -> Goes E.P a o C w p) :
  if Region.wanted o (yielded ops a.tmps) then o.wp E.P a w K Q else K (a.put o.dst undef) w := by
 unfold yE at hh
 split at hh
 · rename_i hg
   have hw : Region.wanted o (yielded ops a.tmps) = true := by simp [Region.wanted, hg]
   rw [if_pos hw]
   rw [T.ak] at hh
   have hh2 := T.aD (q := fun r => (effOk r.eff && dstOk E.N o.dst && newOk r.eff σ.nob) = true /\ post (r, σ)) (fun r hr => by
    cases hb : (effOk r.eff && dstOk E.N o.dst && newOk r.eff σ.nob) with
    | false => rw [hb] at hr; exact hr.elim
    | true => rw [hb] at hr; exact ⟨rfl, hr⟩) _ hh
   refine hgo _ hh2 K Q fun r v w' C' hp hc => ?_
   have hb := hp.1
   simp only [Bool.and_eq_true] at hb
   exact hk r σ v w' C' hp.2 h hc hb.1.1 hb.1.2 hb.2
 · exact hh.elim
theorem Ei {E : Env} (hK : E.Kok) {ops : Array Oper} {rid i : Nat} {o : Oper} {σ : St} {C : Ctx} {a : Act} {w : World} {post : Res × St -> Prop} (h : Inv E.N C σ a w)
  (hh : (Jc E ops rid i o σ).holds post) {K : Act -> World -> Prop} {Q : Exit -> Act -> World -> Prop} (hk : Stepped E C a w o K post) :
  if Region.wanted o (yielded ops a.tmps) then o.wp E.P a w K Q else K (a.put o.dst undef) w := by
 unfold Jc at hh
 split at hh
 · rename_i it ho
   exact kD h hh hk fun p hp => y8 h.wf h.ob ho (nZ C w σ a it (fun i _ ob hob => h.ob i ob hob) (fun t _ => h.sl t)) hp
 · rename_i it ho
   exact kD h hh hk fun p hp => vK h.wf h.ob ho (nZ C w σ a it (fun i _ ob hob => h.ob i ob hob) (fun t _ => h.sl t)) hp
 · rename_i t x t' ho
   exact kD h hh hk fun p hp => Cn (neg := false) h.wf h.ob ho (nZ C w σ a x (fun i _ ob hob => h.ob i ob hob) (fun t _ => h.sl t)) hp
 · rename_i t x t' ho
   exact kD h hh hk fun p hp => Cn (neg := true) h.wf h.ob ho (nZ C w σ a x (fun i _ ob hob => h.ob i ob hob) (fun t _ => h.sl t)) hp
 · exact Jd hK h hh hk
def O8 (E : Env) (ops : Array Oper) (rid : Nat) : Nat -> List Oper -> St -> T St
 | _, [], σ => .ret σ
 | i, o :: l, σ => (Jc E ops rid i o σ).bind fun x => O8 E ops rid (i + 1) l ((x.2.eff x.1.eff).put o.dst x.1.sv)
theorem zu {E : Env} (hK : E.Kok) {ops : Array Oper} {rid : Nat} {Q : Exit -> Act -> World -> Prop} {post : St -> Prop} : ∀ (l : List Oper) (i : Nat) (σ : St) (C : Ctx) (a : Act) (w : World), Inv E.N C σ a w ->
  (O8 E ops rid i l σ).holds post -> (∀ C' σ' a' w', post σ' -> Inv E.N C' σ' a' w' -> Step Top C w C' w' -> Q .normal a' w') -> wpList E.P ops Q l a w
 | [], _, σ, C, a, w, h, hh, hQ => hQ C σ a w hh h (Step.refl C w)
 | o :: l, i, σ, C, a, w, h, hh, hQ => by
   simp only [O8, T.ak] at hh
   refine wpList_step fun K hK' => ?_
   refine Ei hK h hh fun r σ' v w' C' hp hi hc h1 h2 h3 => hK' _ _ ?_
   have hst : Step Top C w C' w' := hc.step.mono fun _ _ => trivial
   exact zu hK l (i + 1) _ C' _ w' (hi.next hc h1 h2 h3) hp fun C2 σ2 a2 w2 p2 i2 s2 => hQ C2 σ2 a2 w2 p2 i2 (Step.trans hc.wf hst s2)
end Rx
set_option linter.unusedSectionVars false
set_option linter.unusedSimpArgs false
set_option linter.unusedVariables false
namespace Rx
open Go
variable [Glob]
def lg : SV -> List Nat
 | .ptr i _ => [i]
 | .rp i _ _ _ => [i]
 | _ => []
def Vv (rw : Operand -> SV) (o : Oper) : List Nat :=
 match o.op with
 | .load _ x => lg (nrm (rw x))
 | .store _ p _ => lg (nrm (rw p))
 | _ => []
def El (rw : Operand -> SV) (o : Oper) : List Nat := o.op.operands.toList.flatMap fun x => dS (rw x)
def callArgs (rw : Operand -> SV) (o : Oper) : List SV :=
 match o.op with
 | .call { callee := .value f, args, argTypes := _ } =>
   match rw f with
   | .fn _ caps => args.toList.map (fun x => nrm (rw x)) ++ caps
   | _ => []
 | _ => []
def DR (E : Env) (rid i : Nat) (σ : St) (o : Oper) : List Nat :=
 (match E.K rid i with
 | some s => s.acc (callArgs (evS σ) o) σ.obj σ.nob
 | none => Vv (evS σ) o) ++ o.op.operands.toList.flatMap (aaQ σ)
theorem wD {P : Program} {g g' : Nat -> Option Ob} {t : TypeId} {p : SV} (h : ∀ i ∈ lg p, g i = g' i) : gJ P g t p = gJ P g' t p := by
 cases p with
 | ptr i off => have := h i (by simp [lg]); simp only [gJ, this]
 | rp i x z off => have := h i (by simp [lg]); simp only [gJ, this]
 | _ => simp only [gJ]
theorem Eh {P : Program} {g g' : Nat -> Option Ob} {t : TypeId} {p v : SV} (h : ∀ i ∈ lg p, g i = g' i) : jv P g t p v = jv P g' t p v := by
 unfold jv
 cases bF P t with
 | none => rfl
 | some n =>
   cases dL v with
   | none => rfl
   | some us =>
     cases p with
     | ptr i off => have := h i (by simp [lg]); simp only [this]
     | rp i x z off => have := h i (by simp [lg]); simp only [this]
     | _ => rfl
theorem Um (s : SV) : dS (nrm s) = dS s := by cases s <;> rfl
theorem Vy (P : Program) (t : TypeId) (s : SV) : ∀ i ∈ dS (Gr P t s), i ∈ dS s := by
 intro i h
 unfold Gr at h
 split at h
 · simp [dS] at h
 · exact h
theorem wo {P : Program} {g g' : Nat -> Option Ob} {t : TypeId} {x ix : SV} (h : ∀ i ∈ dS x, g i = g' i) : fT P g t x ix = fT P g' t x ix := by
 have h : ∀ i, x = .nm i -> g i = g' i := fun i hi => h i (by rw [hi]; simp [dS])
 unfold fT
 generalize P.underlying t = d
 split <;> simp_all
theorem J9 {P : Program} {g g' : Nat -> Option Ob} {t : TypeId} {x : SV} (h : ∀ i ∈ dS x, g i = g' i) : BM P g t x = BM P g' t x := by
 have h : ∀ i, x = .nm i -> g i = g' i := fun i hi => h i (by rw [hi]; simp [dS])
 unfold BM
 generalize P.underlying t = d
 split <;> simp_all
theorem zk {g g' : Nat -> Option Ob} {e : TypeId} {sz : Nat} {s : SV} (h : ∀ i ∈ dS s, g i = g' i) : qZ g e sz s = qZ g' e sz s := by
 have h : ∀ i, s = .nm i -> g i = g' i := fun i hi => h i (by rw [hi]; simp [dS])
 unfold qZ
 split <;> simp_all
theorem AL {P : Program} {g g' : Nat -> Option Ob} {new : Nat} {t : TypeId} {s x : SV} (h : ∀ i ∈ dS s, g i = g' i) : jA P g new t s x = jA P g' new t s x := by
 have : ∀ e sz, qZ g e sz s = qZ g' e sz s := fun e sz => zk h
 simp only [jA, this]
theorem vv {P : Program} {g g' : Nat -> Option Ob} {new : Nat} {t tx : TypeId} {s x : SV} (h : ∀ i ∈ dS s, g i = g' i) : eD P g new t tx s x = eD P g' new t tx s x := by
 have : ∀ e sz, qZ g e sz s = qZ g' e sz s := fun e sz => zk h
 simp only [eD, this]
theorem Bf {P : Program} {g g' : Nat -> Option Ob} {new : Nat} {t : TypeId} {i : Nat} {low : Option SV} {high : SV} (h : g i = g' i) : jB P g new t i low high = jB P g' new t i low high := by
 simp only [jB, h]
theorem Kl {P : Program} {g g' : Nat -> Option Ob} {t : TypeId} {x : SV} (h : ∀ i ∈ dS x, g i = g' i) : EU P g t x = EU P g' t x := by
 have h : ∀ i, x = .nm i -> g i = g' i := fun i hi => h i (by rw [hi]; simp [dS])
 unfold EU
 generalize P.underlying t = d
 split
 · split <;> simp_all
 · rfl
theorem qK {P : Program} {g g' : Nat -> Option Ob} {t : TypeId} {x ix : SV} {ok : Bool} (h : ∀ i ∈ dS x, g i = g' i) : gP P g t x ix ok = gP P g' t x ix ok := by
 simp only [gP, Kl h]
theorem qN {P : Program} {g g' : Nat -> Option Ob} {t : TypeId} {x ix y : SV} (h : ∀ i ∈ dS x, g i = g' i) : jF P g t x ix y = jF P g' t x ix y := by
 have h : ∀ i, x = .nm i -> g i = g' i := fun i hi => h i (by rw [hi]; simp [dS])
 unfold jF
 generalize P.underlying t = d
 split <;> simp_all
theorem Ef {P : Program} {g g' : Nat -> Option Ob} {new : Nat} {t : TypeId} {x : SV} (h : ∀ i ∈ dS x, g i = g' i) : l7 P g new t x = l7 P g' new t x := by
 have h : ∀ i, x = .nm i -> g i = g' i := fun i hi => h i (by rw [hi]; simp [dS])
 unfold l7
 generalize P.underlying t = d
 split <;> simp_all
theorem d9 {rw : Operand -> SV} {o : Oper} {x : Operand} (hx : x ∈ o.op.operands) {i : Nat} (hi : i ∈ dS (rw x)) : i ∈ El rw o := by
 unfold El
 rw [List.mem_flatMap]
 exact ⟨x, by simpa using hx, hi⟩
theorem Na {P : Program} {rw : Operand -> SV} {g g' : Nat -> Option Ob} {new : Nat} {o : Oper} (h : ∀ i ∈ Vv rw o, g i = g' i) (h' : ∀ i ∈ El rw o, g i = g' i) : ji P rw g new o = ji P rw g' new o := by
 unfold Vv at h
 unfold ji
 dsimp only
 split
 all_goals first
  | rfl
  | skip
 · rename_i t x ho
   simp only [ho] at h
   rw [wD h]
 · rename_i t x y ho
   simp only [ho] at h
   exact Eh h
 · rename_i t x i ho
   rw [wo fun j hj => h' j (d9 (x := x) (by rw [ho]; simp [Op.operands]) (Um _ ▸ Vy _ _ _ j hj))]
 · rename_i x t ho
   rw [J9 fun j hj => h' j (d9 (x := x) (by rw [ho]; simp [Op.operands, Call.operands]) (Um _ ▸ hj))]
theorem QT {P : Program} {rw : Operand -> SV} {g g' : Nat -> Option Ob} {new : Nat} {o : Oper} (h : ∀ i ∈ Vv rw o, g i = g' i) (h' : ∀ i ∈ El rw o, g i = g' i) : sxE P rw g new o = sxE P rw g' new o := by
 have base := Na (P := P) (new := new) h h'
 unfold sxE
 dsimp only
 split
 · rfl
 · rename_i s x t tx ho
   have hs : ∀ j ∈ dS (rw s), g j = g' j := fun j hj => h' j (d9 (x := s) (by rw [ho]; simp [Op.operands, Call.operands]) hj)
   rw [AL hs, vv hs]
 · rfl
 · rename_i t x low high ho
   split
   · rename_i i hs
     exact Bf (h' i (d9 (x := x) (by rw [ho]; simp [Op.operands]) (by rw [hs]; simp [dS])))
   · rfl
   · exact base
 · rfl
 · rfl
 · rfl
 · rfl
 · rfl
 · rename_i t x i ok ho
   rw [qK fun j hj => h' j (d9 (x := x) (by rw [ho]; simp [Op.operands]) hj)]
 · rename_i t m k y ho
   rw [qN fun j hj => h' j (d9 (x := m) (by rw [ho]; simp [Op.operands]) hj)]
 · rename_i t m k y ho
   rw [qN fun j hj => h' j (d9 (x := m) (by rw [ho]; simp [Op.operands]) hj)]
 · rename_i t x ho
   rw [Ef fun j hj => h' j (d9 (x := x) (by rw [ho]; simp [Op.operands]) hj)]
 · rfl
 · rename_i t n ps _ ho
   have e : (o.op.operands.toList.flatMap fun x => dF g [] (rw x)) = o.op.operands.toList.flatMap fun x => dF g' [] (rw x) := by
    rw [List.flatMap_def, List.flatMap_def]
    congr 1
    exact List.map_congr_left fun x hx => vX _ fun i hi => h' i (d9 (by simpa using hx) hi)
   have hsub : ∀ j ∈ (o.op.operands.toList.flatMap fun x => dF g' [] (rw x)), j ∈ El rw o := by
    intro j hj
    rw [List.mem_flatMap] at hj
    obtain ⟨x, hx, hj⟩ := hj
    exact d9 (by simpa using hx) (Bw _ j hj)
   rw [e]
   split
   · exact base
   · rename_i i l hL
     rw [hL] at hsub
     have h1 : kS g (i :: l) = kS g' (i :: l) := by
        simp only [kS, rowOf]
        exact List.map_congr_left fun j hj => by rw [h' j (hsub j hj)]
     rw [h1]
     congr 1
     simp only [ji, ho]
     congr 2
     exact List.map_congr_left fun p hp => by rw [yS (rw p.2) fun j hj => h' j (d9 (x := p.2) (by rw [ho]; simp [Op.operands]; exact ⟨p.1, by simpa using hp⟩) hj)]
 · exact base
def mq (E : Env) (ops : Array Oper) (rid : Nat) : Nat -> List Oper -> St -> T (List (Res × St))
 | _, [], _ => .ret []
 | i, o :: l, σ => bif (jP E ops rid i o σ).det then (jP E ops rid i o σ).bind fun x => (mq E ops rid (i + 1) l ((x.2.eff x.1.eff).put o.dst x.1.sv)).bind fun tr => .ret (x :: tr) else .fail
theorem T.fA {α β : Type} {f : α -> T β} (hf : ∀ a, (f a).det = true) : ∀ t : T α, t.det = true -> (t.bind f).det = true
 | .ret a, _ => hf a
 | .ite b t e, h => by
   simp only [T.det, Bool.and_eq_true] at h
   simp only [T.bind, T.det, Bool.and_eq_true]
   exact ⟨T.fA hf t h.1, T.fA hf e h.2⟩
 | .need p t, h => T.fA hf t h
 | .fail, _ => rfl
 | .both _ _, h => by simp [T.det] at h
 | .all _ _, h => by simp [T.det] at h
theorem Gi {E : Env} {ops : Array Oper} {rid : Nat} : ∀ (l : List Oper) (i : Nat) (σ : St), (mq E ops rid i l σ).det = true
 | [], _, _ => rfl
 | o :: l, i, σ => by
   simp only [mq]
   cases hd : (jP E ops rid i o σ).det with
   | false => rfl
   | true =>
     rw [cond_true]
     exact T.fA (fun x => T.fA (fun tr => rfl) _ (Gi l (i + 1) _)) _ hd
def ku (ops : List Oper) (σ : St) (tr : List (Res × St)) : Nat -> St
 | 0 => σ
 | k + 1 => match tr[k]?, ops[k]? with
   | some x, some o => (x.2.eff x.1.eff).put o.dst x.1.sv
   | _, _ => σ
theorem DF {E : Env} {ops : Array Oper} {rid : Nat} : ∀ (l : List Oper) (i : Nat) (σ : St) (tr : List (Res × St)), (mq E ops rid i l σ).ok -> (mq E ops rid i l σ).val = some tr ->
  tr.length = l.length /\ ∀ (m : Nat) (o : Oper), l[m]? = some o -> ∃ x, tr[m]? = some x /\ (jP E ops rid (i + m) o (ku l σ tr m)).ok /\ (jP E ops rid (i + m) o (ku l σ tr m)).val = some x
 | [], i, σ, tr, _, hv => by
   simp only [mq, T.val, Option.some.injEq] at hv
   subst hv
   exact ⟨rfl, fun m o h => by simp at h⟩
 | o :: l, i, σ, tr, hok, hv => by
   simp only [mq] at hok hv
   cases hd : (jP E ops rid i o σ).det with
   | false => rw [hd] at hv; cases hv
   | true =>
   rw [hd, cond_true] at hok hv
   obtain ⟨x, hx, hv⟩ := T.bS hv
   obtain ⟨hok1, hok2⟩ := T.bind_ok hok
   have hok2 := hok2 x hx
   obtain ⟨tr', ht, hv⟩ := T.bS hv
   simp only [T.val, Option.some.injEq] at hv
   subst hv
   have hok3 := (T.bind_ok hok2).1
   obtain ⟨hl, hf⟩ := DF l (i + 1) _ tr' hok3 ht
   refine ⟨by simp [hl], fun m o' ho' => ?_⟩
   cases m with
   | zero =>
     simp only [List.getElem?_cons_zero, Option.some.injEq] at ho'
     subst ho'
     exact ⟨x, rfl, hok1, hx⟩
   | succ m =>
     simp only [List.getElem?_cons_succ] at ho'
     obtain ⟨y, hy, h1, h2⟩ := hf m o' ho'
     refine ⟨y, by simpa using hy, ?_⟩
     have e : ku (o :: l) σ (x :: tr') (m + 1) = ku l ((x.2.eff x.1.eff).put o.dst x.1.sv) tr' m := by
        cases m with
        | zero => rfl
        | succ m =>
          simp only [ku, List.getElem?_cons_succ]
          have hm : m < l.length := by
           have := (List.getElem?_eq_some_iff.1 ho').1; omega
          have hm' : m < tr'.length := by omega
          rw [List.getElem?_eq_getElem hm, List.getElem?_eq_getElem hm']
     rw [e]
     have e2 : i + (m + 1) = i + 1 + m := by omega
     rw [e2]
     exact ⟨h1, h2⟩
end Rx
set_option linter.unusedSectionVars false
set_option linter.unusedSimpArgs false
set_option linter.unusedVariables false
namespace Rx
open Go
variable [Glob]
theorem Gn {P : Program} {ops : Array Oper} {Q : Exit -> Act -> World -> Prop} (S : Array Bool -> Act -> World -> Prop)
  (hsz : ∀ listed a w, S listed a w -> listed.size = ops.size)
  (hstep : ∀ listed a w i, i ∈ Region.ready .any ops listed -> S listed a w -> wpOp P ops Q i (S (listed.setIfInBounds i true)) a w)
  (hend : ∀ listed a w, S listed a w -> Region.ready .any ops listed = [] -> Q .normal a w) :
  ∀ (fuel : Nat) (listed : Array Bool) (a : Act) (w : World), (listed.toList.filter (fun b => !b)).length <= fuel -> S listed a w -> wpAny P .any ops Q fuel listed a w := by
 intro fuel
 induction fuel with
 | zero =>
   intro listed a w hc hS
   have hr : Region.ready .any ops listed = [] := by
    apply List.eq_nil_iff_forall_not_mem.2
    intro i hi
    obtain ⟨hun, o, ho, _⟩ := mem_ready.1 hi
    have hlt : i < ops.size := (Array.getElem?_eq_some_iff.1 ho).1
    have hlt' : i < listed.size := by rw [hsz _ _ _ hS]; exact hlt
    have hf : listed[i] = false := by
        rw [Array.getD_eq_getD_getElem?, Array.getElem?_eq_getElem hlt'] at hun
        simpa using hun
    have hm : listed[i] ∈ listed.toList.filter (fun b => !b) := by
     rw [List.mem_filter]
     exact ⟨by simp, by rw [hf]; rfl⟩
    have := List.length_pos_of_mem hm
    omega
   exact ⟨hr, hend _ _ _ hS hr⟩
 | succ fuel ih =>
   intro listed a w hc hS
   refine ⟨fun hr => hend _ _ _ hS hr, fun i hi => ?_⟩
   refine wpOp_mono (fun a' w' hS' => ih _ a' w' ?_ hS') (hstep _ _ _ i hi hS)
   obtain ⟨hun, o, ho, _⟩ := mem_ready.1 hi
   have hlt : i < ops.size := (Array.getElem?_eq_some_iff.1 ho).1
   have hlt' : i < listed.size := by rw [hsz _ _ _ hS]; exact hlt
   have hf : listed[i] = false := by
    rw [Array.getD_eq_getD_getElem?, Array.getElem?_eq_getElem hlt'] at hun
    simpa using hun
   have key : ∀ (l : List Bool) (k : Nat), l[k]? = some false -> ((l.set k true).filter (fun b => !b)).length + 1 = (l.filter (fun b => !b)).length := by
    intro l
    induction l with
    | nil => intro k h; simp at h
    | cons b l ihl =>
      intro k h
      cases k with
      | zero => simp at h; subst h; simp
      | succ k =>
        have := ihl k (by simpa using h)
        cases b <;> simp [← this]
   have hk := key listed.toList i (by simp [hlt', hf])
   rw [Array.toList_setIfInBounds]
   omega
def mK (acc : List Nat) (o : Oper) : Nat :=
 o.after.toList.foldl (fun m e => bif Region.binds .any e then m ||| 2 ^ e.on ||| acc.getD e.on 0 else m) 0
def masks : List Oper -> List Nat -> List Nat
 | [], acc => acc
 | o :: l, acc => masks l (acc ++ [mK acc o])
theorem je : ∀ (l : List Oper) (acc : List Nat) (i : Nat), (i < acc.length -> (masks l acc)[i]? = acc[i]?) /\
  (∀ o, l[i]? = some o -> (masks l acc)[acc.length + i]? = some (mK ((masks l acc).take (acc.length + i)) o)) /\ (masks l acc).length = acc.length + l.length
 | [], acc, i => ⟨fun _ => rfl, fun o h => by simp at h, by simp [masks]⟩
 | o :: l, acc, i => by
   simp only [masks]
   obtain ⟨h1, h2, h3⟩ := je l (acc ++ [mK acc o]) i
   refine ⟨fun hi => ?_, fun o' ho' => ?_, by rw [h3]; simp; omega⟩
   · rw [h1 (by simp; omega), List.getElem?_append_left hi]
   · cases i with
     | zero =>
       simp only [List.getElem?_cons_zero, Option.some.injEq] at ho'
       subst ho'
       have h1' := (je l (acc ++ [mK acc o]) acc.length).1 (by simp)
       rw [Nat.add_zero, h1']
       have htake : (masks l (acc ++ [mK acc o])).take acc.length = acc := by
        apply List.ext_getElem?
        intro j
        rw [List.getElem?_take]
        split
        · rename_i hj
          rw [(je l (acc ++ [mK acc o]) j).1 (by simp; omega), List.getElem?_append_left hj]
        · rename_i hj
          rw [List.getElem?_eq_none (by omega)]
       rw [htake]
       simp
     | succ i =>
       simp only [List.getElem?_cons_succ] at ho'
       have h2' := (je l (acc ++ [mK acc o]) i).2.1 o' ho'
       have e : (acc ++ [mK acc o]).length + i = acc.length + (i + 1) := by simp; omega
       rw [e] at h2'
       exact h2'
theorem MK {acc : List Nat} {o : Oper} {j : Nat} (h : (mK acc o).testBit j = true) :
  ∃ e ∈ o.after, Region.binds .any e = true /\ (e.on = j ∨ (acc.getD e.on 0).testBit j = true) := by
 unfold mK at h
 have key : ∀ (l : List Edge) (m : Nat), (l.foldl (fun m e => bif Region.binds .any e then m ||| 2 ^ e.on ||| acc.getD e.on 0 else m) m).testBit j = true ->
   m.testBit j = true ∨ ∃ e ∈ l, Region.binds .any e = true /\ (e.on = j ∨ (acc.getD e.on 0).testBit j = true) := by
  intro l
  induction l with
  | nil => intro m h; exact .inl h
  | cons e l ih =>
    intro m h
    simp only [List.foldl_cons] at h
    rcases ih _ h with h | ⟨e', he', h1, h2⟩
    · cases hb : Region.binds .any e with
      | false => rw [hb] at h; exact .inl h
      | true =>
        rw [hb, cond_true, Nat.testBit_or, Nat.testBit_or, Bool.or_eq_true, Bool.or_eq_true] at h
        rcases h with (h | h) | h
        · exact .inl h
        · rw [Nat.testBit_two_pow] at h
          exact .inr ⟨e, by simp, hb, .inl (by simpa using h)⟩
        · exact .inr ⟨e, by simp, hb, .inr h⟩
    · exact .inr ⟨e', by simp [he'], h1, h2⟩
 rcases key _ _ h with h | ⟨e, he, h1, h2⟩
 · simp at h
 · exact ⟨e, by simpa using he, h1, h2⟩
def Closed (ops : Array Oper) (D : Nat -> Bool) : Prop :=
 ∀ (i : Nat) (o : Oper), ops[i]? = some o -> D i = true -> ∀ e ∈ o.after, Region.binds .any e = true -> D e.on = true
theorem dN {ops : Array Oper} {D : Nat -> Bool} (hD : Closed ops D) : ∀ (k : Nat) (o : Oper), ops[k]? = some o -> (∀ e ∈ o.after, Region.binds .any e = true -> D e.on = true) ->
  ∀ j, ((masks ops.toList []).getD k 0).testBit j = true -> D j = true := by
 intro k
 induction k using Nat.strongRecOn with
 | _ k ih =>
   intro o ho hd j hj
   have hg := (je ops.toList [] k).2.1 o (by simpa using ho)
   simp only [List.length_nil, Nat.zero_add] at hg
   rw [List.getD_eq_getElem?_getD, hg, Option.getD_some] at hj
   obtain ⟨e, he, h1, h2⟩ := MK hj
   rcases h2 with h2 | h2
   · rw [← h2]; exact hd e he h1
   · have hlt : e.on < k := by
       rcases Nat.lt_or_ge e.on k with h | h
       · exact h
       · rw [List.getD_eq_getElem?_getD, List.getElem?_take, if_neg (by omega)] at h2
         simp at h2
     have hkn : k < ops.size := (Array.getElem?_eq_some_iff.1 ho).1
     have hon : ops[e.on]? = some (ops[e.on]'(by omega)) := Array.getElem?_eq_getElem (by omega)
     refine ih e.on hlt _ hon (fun e' he' hb' => hD e.on _ hon (hd e he h1) e' he' hb') j ?_
     rw [List.getD_eq_getElem?_getD, List.getElem?_take, if_pos hlt] at h2
     rw [List.getD_eq_getElem?_getD]
     exact h2
end Rx
