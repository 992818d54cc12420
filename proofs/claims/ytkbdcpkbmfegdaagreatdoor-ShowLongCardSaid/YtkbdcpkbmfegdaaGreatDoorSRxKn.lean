/- Rx, part Kn: a map that is gone over; operations in the order of the text. -/
import Derived.Test.YtkbdcpkbmfegdaaGreatDoorSRxK
set_option linter.unusedSectionVars false
set_option linter.unusedSimpArgs false
set_option linter.unusedVariables false
namespace Rx
open Go
variable [Glob]
def bS (kt vt : Ty) (l : List (kt.den × vt.den)) (k : Nat) : kt.den × vt.den := l.getD k (kt.dflt, vt.dflt)
theorem rP (kt vt : Ty) : ∀ (l : List (kt.den × vt.den)) (i : Nat), gQ kt vt i l = (List.range' i l.length).map fun k => ⟨kt.val (bS kt vt l (k - i)).1, vt.val (bS kt vt l (k - i)).2, k⟩
 | [], i => rfl
 | x :: l, i => by
   simp only [gQ, List.length_cons, List.range'_succ, List.map_cons, Nat.sub_self]
   rw [rP kt vt l (i + 1)]
   congr 1
   apply List.map_congr_left
   intro k hk
   have : i + 1 <= k := by
     have := (List.mem_range'.1 hk)
     obtain ⟨j, _, rfl⟩ := this; omega
   have e : k - i = (k - (i + 1)) + 1 := by omega
   rw [e]; rfl
def leftOf (n : Nat) (seen : List Nat) : List Nat := (List.range n).filter fun k => !seen.contains k
theorem vg {n : Nat} {seen : List Nat} {k : Nat} (h : k ∈ leftOf n seen) : k < n /\ k ∉ seen := by
 unfold leftOf at h
 rw [List.mem_filter] at h
 exact ⟨List.mem_range.1 h.1, by simpa using h.2⟩
def zK (g : Nat -> Option Ob) (x : SV) : T Res :=
 match x with
 | .ptr i 0 => match g i with
   | some (.it m n seen) => match g m with
     | some (.mp kt vt l) => .need (n = l.length) (.ite (leftOf n seen).isEmpty (.ret ⟨.tup [.kb false], .none⟩)
       (.all (leftOf n seen).length fun j => .ret ⟨.tup [.kb true, gI kt (bS kt vt l ((leftOf n seen).getD j 0)).1, gI vt (bS kt vt l ((leftOf n seen).getD j 0)).2], ⟨[(i, some (.it m n ((leftOf n seen).getD j 0 :: seen)))], []⟩⟩))
     | _ => .fail
   | _ => .fail
 | _ => .fail
def xJ (g : Nat -> Option Ob) (x : SV) : T Res :=
 match x with
 | .ptr i 0 => match g i with
   | some (.it m n (k :: _)) => match g m with
     | some (.mp kt vt l) => .need (n = l.length /\ k < l.length) (.ret ⟨.tup [gI kt (bS kt vt l k).1, gI vt (bS kt vt l k).2], .none⟩)
     | _ => .fail
   | _ => .fail
 | _ => .fail
theorem Sz {P : Program} {w : World} {ty : TypeId} {b bm : Nat} {kt vt : Ty} {l : List (kt.den × vt.den)} {seen : List Nat} (hb : w.heap[b]? = some (.mapIter (some bm) l.length seen.reverse.toArray l.length))
  (hm : w.heap[bm]? = some (.map (gQ kt vt 0 l).toArray l.length)) :
  ((leftOf l.length seen).isEmpty = true -> ∃ w', (w' = w ∨ w' = { w with drawn := w.drawn + 1 }) /\ (Instr.next (.pointer (some ⟨b, 0, none⟩)) false ty).run P w = .ok (.tuple #[.bool false]) w') /\
  ((leftOf l.length seen).isEmpty = false -> ∃ j, j < (leftOf l.length seen).length /\ ∃ w', (w' = w ∨ w' = { w with drawn := w.drawn + 1 }) /\
    (Instr.next (.pointer (some ⟨b, 0, none⟩)) false ty).run P w = .ok (.tuple #[.bool true, kt.val (bS kt vt l ((leftOf l.length seen).getD j 0)).1, vt.val (bS kt vt l ((leftOf l.length seen).getD j 0)).2])
        { w' with heap := w.heap.setIfInBounds b (.mapIter (some bm) l.length ((leftOf l.length seen).getD j 0 :: seen).reverse.toArray l.length) }) := by
 have hgo : ∀ {r : Nat} {o : Obj}, w.heap[r]? = some o -> (∀ c e f, o ≠ .cells c e f) -> (getObj r).run P w = .ok o w := by
  intro r o h hn
  cases o <;> first | (simp [getObj, Sem.run, h]; done) | exact absurd rfl (hn _ _ _)
 have h1 := hgo hb (fun _ _ _ h => by cases h)
 have h2 := hgo hm (fun _ _ _ h => by cases h)
 let ent : Nat -> MapEntry := fun k => ⟨kt.val (bS kt vt l k).1, vt.val (bS kt vt l k).2, k⟩
 have hent : gQ kt vt 0 l = (List.range l.length).map ent := by
  rw [rP, List.range_eq_range']; rfl
 have hleft : (gQ kt vt 0 l).filter (fun e => !seen.reverse.toArray.contains e.born) = (leftOf l.length seen).map ent := by
  rw [hent, List.filter_map]
  congr 1
  unfold leftOf
  apply List.filter_congr
  intro k _
  simp [ent, Function.comp]
 have hold : ((leftOf l.length seen).map ent).filter (fun e => decide (e.born < l.length)) = (leftOf l.length seen).map ent := by
  rw [List.filter_eq_self]
  intro e he
  obtain ⟨k, hk, rfl⟩ := List.mem_map.1 he
  simpa [ent] using (vg hk).1
 have hnew : ((leftOf l.length seen).map ent).filter (fun e => decide (e.born ≥ l.length)) = [] := by
  rw [List.filter_eq_nil_iff]
  intro e he
  obtain ⟨k, hk, rfl⟩ := List.mem_map.1 he
  have := (vg hk).1
  simp [ent]; omega
 have hall : (!seen.reverse.toArray.isEmpty && !(gQ kt vt 0 l).toArray.isEmpty && (gQ kt vt 0 l).toArray.all fun e => decide (e.born ≥ l.length)) = false := by
  cases l with
  | nil => simp [gQ]
  | cons x l => simp [gQ]
 have hcand : ∀ (q : Sem Value), (Instr.next (.pointer (some ⟨b, 0, none⟩)) false ty).run P w = (do
   match ((if ((leftOf l.length seen).map ent).toArray.isEmpty then #[none] else #[]) ++ (((leftOf l.length seen).map ent).toArray ++ #[]).map some)[← choose (.mapNext ((if ((leftOf l.length seen).map ent).toArray.isEmpty then #[none] else #[]) ++ (((leftOf l.length seen).map ent).toArray ++ #[]).map some).size)]? with
   | some (some e) =>
     setObj b (.mapIter (some bm) l.length (seen.reverse.toArray.push e.born) l.length)
     pure (.tuple #[.bool true, e.key, e.val])
   | some none => pure (.tuple #[.bool false])
   | none => stuck "Next: no such candidate" : Sem Value).run P w := by
  intro _
  unfold Instr.next
  have f1 : ((gQ kt vt 0 l).toArray.filter fun e => !seen.reverse.toArray.contains e.born) = ((leftOf l.length seen).map ent).toArray := by
   apply Array.ext'; rw [Array.toList_filter]; exact hleft
  have f2 : ((leftOf l.length seen).map ent).toArray.filter (fun e => decide (e.born < l.length)) = ((leftOf l.length seen).map ent).toArray := by
   apply Array.ext'; rw [Array.toList_filter]; exact hold
  have f3 : ((leftOf l.length seen).map ent).toArray.filter (fun e => decide (e.born ≥ l.length)) = #[] := by
   apply Array.ext'; rw [Array.toList_filter]; exact hnew
  simp only [Sem.run_bind, h1, Result.andThen_ok, h2, hall, Bool.false_eq_true, if_false, f1, f2, f3, Sem.run_pure]
  rfl
 have hc := hcand (pure undef)
 refine ⟨fun he => ?_, fun he => ?_⟩
 · have he' : leftOf l.length seen = [] := by simpa using he
   refine ⟨w, .inl rfl, ?_⟩
   rw [hc, he']
   simp [choose, Sem.run, Question.forced]
 · have hne : (leftOf l.length seen) ≠ [] := fun h => by rw [h] at he; cases he
   have hpos : 0 < (leftOf l.length seen).length := List.length_pos_iff.2 hne
   have hemp : ((leftOf l.length seen).map ent).toArray.isEmpty = false := by
    cases hl : leftOf l.length seen with
    | nil => exact absurd hl hne
    | cons x y => simp
   have hcs : ((if ((leftOf l.length seen).map ent).toArray.isEmpty then #[none] else #[]) ++ (((leftOf l.length seen).map ent).toArray ++ #[]).map some) = ((leftOf l.length seen).map fun k => some (ent k)).toArray := by
    rw [hemp]; apply Array.ext'; simp
   rw [hcs] at hc
   have hstep : ∀ (w' : World) (j : Nat), (w' = w ∨ w' = { w with drawn := w.drawn + 1 }) -> j < (leftOf l.length seen).length ->
        (match ((leftOf l.length seen).map fun k => some (ent k)).toArray[j]? with
    | some (some e) => (do
      setObj b (.mapIter (some bm) l.length (seen.reverse.toArray.push e.born) l.length)
      pure (.tuple #[.bool true, e.key, e.val]) : Sem Value)
    | some none => pure (.tuple #[.bool false])
    | none => stuck "Next: no such candidate").run P w' = .ok (.tuple #[.bool true, kt.val (bS kt vt l ((leftOf l.length seen).getD j 0)).1, vt.val (bS kt vt l ((leftOf l.length seen).getD j 0)).2])
      { w' with heap := w.heap.setIfInBounds b (.mapIter (some bm) l.length ((leftOf l.length seen).getD j 0 :: seen).reverse.toArray l.length) } := by
    intro w' j hw' hj
    have hh : w'.heap = w.heap := by rcases hw' with rfl | rfl <;> rfl
    have hg : ((leftOf l.length seen).map fun k => some (ent k)).toArray[j]? = some (some (ent ((leftOf l.length seen).getD j 0))) := by
     simp [List.getD_eq_getElem?_getD, hj]
    have hset : (setObj b (.mapIter (some bm) l.length (seen.reverse.toArray.push ((leftOf l.length seen).getD j 0)) l.length)).run P w' = .ok () { w' with heap := w'.heap.setIfInBounds b (.mapIter (some bm) l.length (seen.reverse.toArray.push ((leftOf l.length seen).getD j 0)) l.length) } := by
     have hb' : w'.heap[b]? = some (.mapIter (some bm) l.length seen.reverse.toArray l.length) := by rw [hh]; exact hb
     simp [setObj, Sem.run, hb']
    rw [hg]
    have hpush : (seen.reverse.toArray.push ((leftOf l.length seen).getD j 0)) = ((leftOf l.length seen).getD j 0 :: seen).reverse.toArray := by simp
    simp only [Sem.run_bind, ent]
    rw [hset]
    simp only [Result.andThen_ok, Sem.run_pure, hpush, hh]
   by_cases hf : (leftOf l.length seen).length <= 1
   · refine ⟨0, hpos, w, .inl rfl, ?_⟩
     rw [hc]
     have := hstep w 0 (.inl rfl) hpos
     rw [← this]
     simp [choose, Sem.run, Question.forced, hf]
   · have hlt : w.tape w.drawn (.mapNext (leftOf l.length seen).length) % (leftOf l.length seen).length < (leftOf l.length seen).length := Nat.mod_lt _ hpos
     refine ⟨_, hlt, _, .inr rfl, ?_⟩
     rw [hc]
     have := hstep _ _ (.inr rfl) hlt
     rw [← this]
     have hff : decide ((leftOf l.length seen).length <= 1) = false := by simpa using hf
     simp [choose, Sem.run, Question.forced, Question.cut, hff]
theorem wG {P : Program} {C : Ctx} {w : World} {g : Nat -> Option Ob} {a : Act} {o : Oper} {it : Operand} {x : SV} {post : Res -> Prop} (hw : WF C w) (hg : ObsOk C w g) (ho : o.op = .next it false) (hx : rel C w x (a.eval it))
  (hh : (zK g x).holds post) : Goes P a o C w post := by
 intro K Q hK
 unfold zK at hh
 split at hh
 · rename_i i
   split at hh
   · rename_i m n seen hi
     split at hh
     · rename_i kt vt l hm
       simp only [T.holds] at hh
       obtain ⟨hn, hh1, hh2⟩ := hh
       subst hn
       obtain ⟨b, bm, e1, e2, e3, e4⟩ := hg i _ hi
       obtain ⟨bm', f1, f2, f3⟩ := hg m _ hm
       rw [e3] at f2
       injection f2 with f2; injection f2 with f2; injection f2 with f2
       subst f2
       obtain ⟨b', hb', hv⟩ := hx
       rw [e2] at hb'
       injection hb' with hb'; injection hb' with hb'; injection hb' with hb'; injection hb' with hb'
       subst hb'
       obtain ⟨n1, n2⟩ := Sz (P := P) (ty := o.type) e4 f3
       have drew : ∀ w', (w' = w ∨ w' = { w with drawn := w.drawn + 1 }) -> Ag (fun _ => False) w w' := by
        rintro w' (rfl | rfl)
        · exact Ag.refl _ _
        · exact ⟨rfl, rfl, rfl, Nat.le_refl _, fun _ _ _ => rfl⟩
       unfold Oper.wp
       cases hq : (leftOf l.length seen).isEmpty with
       | true =>
         obtain ⟨w', hw', hr⟩ := n1 hq
         have hex : (execOp a.eval o).run P w = .ok (.value (.tuple #[.bool false])) w' := by
          simp only [execOp, ho, hv, Sem.run_bind, hr, Result.andThen_ok, Sem.run_pure]
         rw [hex]
         refine hK _ _ _ _ (hh1 hq) ⟨⟨[_], rfl, _, _, rfl, rfl, rfl⟩, dV (drew w' hw'), kP hw (drew w' hw'), fun _ h => .inl h, fun j ob hj => ?_⟩
         simp [Eff.none] at hj
       | false =>
         obtain ⟨j, hj, w', hw', hr⟩ := n2 hq
         have hex : (execOp a.eval o).run P w = .ok (.value (.tuple #[.bool true, kt.val (bS kt vt l ((leftOf l.length seen).getD j 0)).1, vt.val (bS kt vt l ((leftOf l.length seen).getD j 0)).2]))
           { w' with heap := w.heap.setIfInBounds b (.mapIter (some bm) l.length ((leftOf l.length seen).getD j 0 :: seen).reverse.toArray l.length) } := by
          simp only [execOp, ho, hv, Sem.run_bind, hr, Result.andThen_ok, Sem.run_pure]
         rw [hex]
         have hlt : b < w.heap.size := hw.lt i b e1
         have hh' : w'.heap = w.heap := by rcases hw' with rfl | rfl <;> rfl
         refine hK _ _ _ _ (hh2 hq j hj) ⟨⟨[_, _, _], rfl, _, _, rfl, rfl, _, _, rfl, jT _ _, _, _, rfl, jT _ _, rfl⟩, ?_, ?_, fun _ h => .inl h, fun k ob hk => ?_⟩
         · refine ⟨fun _ _ h => h, rfl, fun j c h => .inl ⟨j, h⟩, fun _ _ _ h => h, ⟨(drew w' hw').os, (drew w' hw').tape, (drew w' hw').output, by simp, fun k hk hn => ?_⟩⟩
           have : b ≠ k := fun e => hn ⟨i, by simp [Eff.X, Eff.touched], e ▸ e1⟩
           simp [Array.getElem?_setIfInBounds_ne this]
         · refine jc (X := fun j => j = i) hw ⟨fun _ _ h => h, rfl, fun j c h => .inl ⟨j, h⟩, fun _ _ _ h => h, ⟨(drew w' hw').os, (drew w' hw').tape, (drew w' hw').output, by simp, fun k hk hn => ?_⟩⟩
           have : b ≠ k := fun e => hn ⟨i, rfl, e ▸ e1⟩
           simp [Array.getElem?_setIfInBounds_ne this]
         · by_cases hki : k = i
           · subst hki
             simp [List.lookup] at hk
             subst hk
             exact ⟨b, bm, e1, e2, e3, by simp [hlt]⟩
           · have : (k == i) = false := by simpa using hki
             simp [List.lookup, this] at hk
     · exact hh.elim
   · exact hh.elim
 · exact hh.elim
theorem sI {P : Program} {C : Ctx} {w : World} {g : Nat -> Option Ob} {a : Act} {o : Oper} {it : Operand} {x : SV} {post : Res -> Prop} (hw : WF C w) (hg : ObsOk C w g) (ho : o.op = .entry it) (hx : rel C w x (a.eval it))
  (hh : (xJ g x).holds post) : Goes P a o C w post := by
 intro K Q hK
 unfold xJ at hh
 split at hh
 · rename_i i
   split at hh
   · rename_i m n k seen hi
     split at hh
     · rename_i kt vt l hm
       simp only [T.holds] at hh
       obtain ⟨⟨hn, hk⟩, hp⟩ := hh
       subst hn
       obtain ⟨b, bm, e1, e2, e3, e4⟩ := hg i _ hi
       obtain ⟨bm', f1, f2, f3⟩ := hg m _ hm
       rw [e3] at f2
       injection f2 with f2; injection f2 with f2; injection f2 with f2
       subst f2
       obtain ⟨b', hb', hv⟩ := hx
       rw [e2] at hb'
       injection hb' with hb'; injection hb' with hb'; injection hb' with hb'; injection hb' with hb'
       subst hb'
       have hgo : ∀ {r : Nat} {o : Obj}, w.heap[r]? = some o -> (∀ c e f, o ≠ .cells c e f) -> (getObj r).run P w = .ok o w := by
        intro r o h hn
        cases o <;> first | (simp [getObj, Sem.run, h]; done) | exact absurd rfl (hn _ _ _)
       have h1 := hgo e4 (fun _ _ _ h => by cases h)
       have h2 := hgo f3 (fun _ _ _ h => by cases h)
       have hback : (k :: seen).reverse.toArray.back? = some k := by simp
       have hfind : (gQ kt vt 0 l).toArray.find? (fun e => e.born == k) = some ⟨kt.val (bS kt vt l k).1, vt.val (bS kt vt l k).2, k⟩ := by
        rw [List.find?_toArray, rP, List.find?_map]
        have : (List.range' 0 l.length).find? ((fun e : MapEntry => e.born == k) ∘ fun k => ⟨kt.val (bS kt vt l (k - 0)).1, vt.val (bS kt vt l (k - 0)).2, k⟩) = some k := by
         rw [List.find?_eq_some_iff_append]
         refine ⟨by simp, List.range' 0 k, List.range' (k + 1) (l.length - (k + 1)), ?_, fun x hx => ?_⟩
         · have := List.range'_append (s := 0) (m := k) (n := l.length - k) (step := 1)
           rw [show k + (l.length - k) = l.length by omega] at this
           rw [← this, show l.length - k = (l.length - (k + 1)) + 1 by omega, List.range'_succ]
           simp
         · have := (List.mem_range'.1 hx)
           obtain ⟨j, hj, rfl⟩ := this
           simp; omega
        rw [this]; rfl
       have hex : (execOp a.eval o).run P w = .ok (.value (.tuple #[kt.val (bS kt vt l k).1, vt.val (bS kt vt l k).2])) w := by
        simp only [execOp, ho, hv, Instr.entry, Sem.run_bind, h1, h2, Result.andThen_ok, hback, hfind, Sem.run_pure, bne_self_eq_false, Bool.false_eq_true, if_false]
       unfold Oper.wp
       rw [hex]
       exact hK _ _ _ _ hp (Came.pure hw ⟨[_, _], rfl, _, _, rfl, jT _ _, _, _, rfl, jT _ _, rfl⟩)
     · exact hh.elim
   · exact hh.elim
 · exact hh.elim
def kC (neg : Bool) (b : Bool) : T Res := .ret ⟨.kb (bif neg then !b else b), .none⟩
def Oy (P : Program) (neg : Bool) (t : TypeId) (g : Nat -> Option Ob) (x : SV) : T Res :=
 match P.underlying t with
 | some (.slice _) => match x with
   | .dt (.cell (.slice none 0 _)) => kC neg true
   | .dt (.arr _ n _) => .ite (Nat.beq n 0) (.both (kC neg true) (kC neg false)) (kC neg false)
   | .nm i => match g i with
     | some (.row _ _ n _) => .ite (Nat.beq n 0) (.both (kC neg true) (kC neg false)) (kC neg false)
     | _ => .fail
   | _ => .fail
 | _ => .fail
theorem zM {P : Program} {C : Ctx} {w : World} {g : Nat -> Option Ob} {a : Act} {o : Oper} {t t' : TypeId} {x : Operand} {s : SV} {neg : Bool} {post : Res -> Prop} (hw : WF C w) (hg : ObsOk C w g)
  (ho : o.op = .binOp (bif neg then .neq else .eql) t x (.const (.slice none 0 0)) t') (hx : rel C w s (a.eval x)) (hh : (Oy P neg t g s).holds post) : Goes P a o C w post := by
 intro K Q hK
 unfold Oy at hh
 split at hh
 · rename_i e ht
   have key : ∀ (A : Option Addr) (n c : Nat), a.eval x = .slice A n c -> (kC neg A.isNone).holds post -> o.wp P a w K Q := by
    intro A n c hv hp
    have hex : (execOp a.eval o).run P w = .ok (.value (.bool (bif neg then !A.isNone else A.isNone))) w := by
        have hc : a.eval (.const (.slice none 0 0)) = .slice none 0 0 := rfl
        have he : (Op.equal t (.slice A n c) (.slice none 0 0)).run P w = .ok A.isNone w := by
         have : ∀ d, (Op.equalIn (d + 1) t (.slice A n c) (.slice none 0 0)).run P w = .ok A.isNone w := fun d => by
          cases A <;> simp [Op.equalIn, underlying, ht]
         exact this 9999
        have hgd : ∀ (op : BinOp) (x y : Operand), (eqGuard op t x y (.slice A n c) (.slice none 0 0)).run P w = .ok () w := fun op x y => by
         unfold eqGuard; split <;> rfl
        cases neg with
        | false =>
          have hb : binOp .eql t (.slice A n c) (.slice none 0 0) = (do pure (.bool (← Op.equal t (.slice A n c) (.slice none 0 0)))) := rfl
          simp only [execOp, ho, cond_false, hv, hc, Sem.run_bind, hgd, Result.andThen_ok, hb, he, Sem.run_pure]
        | true =>
          have hb : binOp .neq t (.slice A n c) (.slice none 0 0) = (do pure (.bool (!(← Op.equal t (.slice A n c) (.slice none 0 0))))) := rfl
          simp only [execOp, ho, cond_true, hv, hc, Sem.run_bind, hgd, Result.andThen_ok, hb, he, Sem.run_pure]
    unfold Oper.wp
    rw [hex]
    exact hK _ _ _ _ hp (Came.pure hw rfl)
   have arr : ∀ (A : Option Addr) (n c : Nat), a.eval x = .slice A n c -> (0 < n -> A.isNone = false) ->
     (T.ite (Nat.beq n 0) (.both (kC neg true) (kC neg false)) (kC neg false)).holds post -> o.wp P a w K Q := by
    intro A n c hv hA h
    obtain ⟨h1, h2⟩ := h
    refine key A n c hv ?_
    cases hn : Nat.beq n 0 with
    | true =>
      obtain ⟨h3, h4⟩ := h1 hn
      cases A with
      | none => exact h3
      | some _ => exact h4
    | false =>
      have : 0 < n := by
       rcases Nat.eq_zero_or_pos n with h | h
       · subst h; cases hn
       · exact h
      rw [hA this]
      exact h2 hn
   split at hh
   · rw [aj] at hx
     exact key _ _ _ hx hh
   · obtain ⟨A, c, hv, _, hc⟩ := hx.here
     refine arr A _ c hv (fun hn => ?_) hh
     obtain ⟨b, off, rfl, _⟩ := hc hn
     rfl
   · rename_i i
     split at hh
     · rename_i t2 sz n f hgi
       obtain ⟨A, c, h1, h2⟩ := hg i _ hgi
       have hx : C.ν i = some (a.eval x) := hx.1
       rw [hx] at h1
       injection h1 with h1
       refine arr A n c h1 (fun hn => ?_) hh
       rcases h2 with ⟨_, h2, _⟩ | ⟨b, _, rfl, _⟩
       · omega
       · rfl
     · exact hh.elim
   · exact hh.elim
 · exact hh.elim
def vO (E : Env) (o : Oper) (t : T Res) (σ : St) : T (Res × St) :=
 match o.guard with
 | none => t.bind fun r => bif effOk r.eff && dstOk E.N o.dst && newOk r.eff σ.nob then .ret (r, σ) else .fail
 | some _ => .fail
def GY (E : Env) (ops : Array Oper) (rid i : Nat) (o : Oper) (σ : St) : T (Res × St) :=
 match o.op with
 | .next it false => vO E o (zK σ.obj (evS σ it)) σ
 | .entry it => vO E o (xJ σ.obj (evS σ it)) σ
 | .binOp .eql t x (.const (.slice none 0 0)) _ => vO E o (Oy E.P false t σ.obj (evS σ x)) σ
 | .binOp .neq t x (.const (.slice none 0 0)) _ => vO E o (Oy E.P true t σ.obj (evS σ x)) σ
 | _ => jA E ops rid i o σ
theorem jN {E : Env} {ops : Array Oper} {o : Oper} {σ : St} {C : Ctx} {a : Act} {w : World} {post : Res × St -> Prop} {t : T Res} (h : Inv E.N C σ a w)
  (hh : (vO E o t σ).holds post) {K : Act -> World -> Prop} {Q : Exit -> Act -> World -> Prop} (hk : Stepped E C a w o K post) (hgo : ∀ p : Res -> Prop, t.holds p -> Goes E.P a o C w p) :
  if Region.wanted o (yielded ops a.tmps) then o.wp E.P a w K Q else K (a.put o.dst undef) w := by
 unfold vO at hh
 split at hh
 · rename_i hg
   have hw : Region.wanted o (yielded ops a.tmps) = true := by simp [Region.wanted, hg]
   rw [if_pos hw]
   rw [T.ak] at hh
   have hh2 := T.aD (q := fun r => (effOk r.eff && dstOk E.N o.dst && newOk r.eff σ.nob) = true /\ post (r, σ)) (fun r hr => by
    cases hb : (effOk r.eff && dstOk E.N o.dst && newOk r.eff σ.nob) with
    | false => rw [hb] at hr; exact hr.elim
    | true => rw [hb] at hr; exact ⟨rfl, hr⟩) _ hh
   refine hgo _ hh2 K Q fun r v w' C' hp hc => ?_
   have hb := hp.1
   simp only [Bool.and_eq_true] at hb
   exact hk r σ v w' C' hp.2 h hc hb.1.1 hb.1.2 hb.2
 · exact hh.elim
theorem CK {E : Env} (hK : E.Kok) {ops : Array Oper} {rid i : Nat} {o : Oper} {σ : St} {C : Ctx} {a : Act} {w : World} {post : Res × St -> Prop} (h : Inv E.N C σ a w)
  (hh : (GY E ops rid i o σ).holds post) {K : Act -> World -> Prop} {Q : Exit -> Act -> World -> Prop} (hk : Stepped E C a w o K post) :
  if Region.wanted o (yielded ops a.tmps) then o.wp E.P a w K Q else K (a.put o.dst undef) w := by
 unfold GY at hh
 split at hh
 · rename_i it ho
   exact jN h hh hk fun p hp => wG h.wf h.ob ho (mP C w σ a it (fun i _ ob hob => h.ob i ob hob) (fun t _ => h.sl t)) hp
 · rename_i it ho
   exact jN h hh hk fun p hp => sI h.wf h.ob ho (mP C w σ a it (fun i _ ob hob => h.ob i ob hob) (fun t _ => h.sl t)) hp
 · rename_i t x t' ho
   exact jN h hh hk fun p hp => zM (neg := false) h.wf h.ob ho (mP C w σ a x (fun i _ ob hob => h.ob i ob hob) (fun t _ => h.sl t)) hp
 · rename_i t x t' ho
   exact jN h hh hk fun p hp => zM (neg := true) h.wf h.ob ho (mP C w σ a x (fun i _ ob hob => h.ob i ob hob) (fun t _ => h.sl t)) hp
 · exact GZ hK h hh hk
def OW (E : Env) (ops : Array Oper) (rid : Nat) : Nat -> List Oper -> St -> T St
 | _, [], σ => .ret σ
 | i, o :: l, σ => (GY E ops rid i o σ).bind fun x => OW E ops rid (i + 1) l ((x.2.eff x.1.eff).put o.dst x.1.sv)
theorem wQ {E : Env} (hK : E.Kok) {ops : Array Oper} {rid : Nat} {Q : Exit -> Act -> World -> Prop} {post : St -> Prop} : ∀ (l : List Oper) (i : Nat) (σ : St) (C : Ctx) (a : Act) (w : World), Inv E.N C σ a w ->
  (OW E ops rid i l σ).holds post -> (∀ C' σ' a' w', post σ' -> Inv E.N C' σ' a' w' -> Step Top C w C' w' -> Q .normal a' w') -> wpList E.P ops Q l a w
 | [], _, σ, C, a, w, h, hh, hQ => hQ C σ a w hh h (Step.refl C w)
 | o :: l, i, σ, C, a, w, h, hh, hQ => by
   simp only [OW, T.ak] at hh
   refine wpList_step fun K hK' => ?_
   refine CK hK h hh fun r σ' v w' C' hp hi hc h1 h2 h3 => hK' _ _ ?_
   have hst : Step Top C w C' w' := hc.step.mono fun _ _ => trivial
   exact wQ hK l (i + 1) _ C' _ w' (hi.next hc h1 h2 h3) hp fun C2 σ2 a2 w2 p2 i2 s2 => hQ C2 σ2 a2 w2 p2 i2 (Step.trans hc.wf hst s2)
end Rx
set_option linter.unusedSectionVars false
set_option linter.unusedSimpArgs false
set_option linter.unusedVariables false
namespace Rx
open Go
variable [Glob]
def kD : SV -> List Nat
 | .ptr i _ => [i]
 | .rp i _ _ _ => [i]
 | _ => []
def Vw (rw : Operand -> SV) (o : Oper) : List Nat :=
 match o.op with
 | .load _ x => kD (nrm (rw x))
 | .store _ p _ => kD (nrm (rw p))
 | _ => []
def CQ (rw : Operand -> SV) (o : Oper) : List Nat := o.op.operands.toList.flatMap fun x => dI (rw x)
def callArgs (rw : Operand -> SV) (o : Oper) : List SV :=
 match o.op with
 | .call { callee := .value f, args, argTypes := _ } =>
   match rw f with
   | .fn _ caps => args.toList.map (fun x => nrm (rw x)) ++ caps
   | _ => []
 | _ => []
def Cc (E : Env) (rid i : Nat) (σ : St) (o : Oper) : List Nat :=
 (match E.K rid i with
 | some s => s.acc (callArgs (evS σ) o) σ.obj σ.nob
 | none => Vw (evS σ) o) ++ o.op.operands.toList.flatMap (aam σ)
theorem tQ {P : Program} {g g' : Nat -> Option Ob} {t : TypeId} {p : SV} (h : ∀ i ∈ kD p, g i = g' i) : fU P g t p = fU P g' t p := by
 cases p with
 | ptr i off => have := h i (by simp [kD]); simp only [fU, this]
 | rp i x z off => have := h i (by simp [kD]); simp only [fU, this]
 | _ => simp only [fU]
theorem CJ {P : Program} {g g' : Nat -> Option Ob} {t : TypeId} {p v : SV} (h : ∀ i ∈ kD p, g i = g' i) : iZ P g t p v = iZ P g' t p v := by
 unfold iZ
 cases bg P t with
 | none => rfl
 | some n =>
   cases dz v with
   | none => rfl
   | some us =>
     cases p with
     | ptr i off => have := h i (by simp [kD]); simp only [this]
     | rp i x z off => have := h i (by simp [kD]); simp only [this]
     | _ => rfl
theorem SE (s : SV) : dI (nrm s) = dI s := by cases s <;> rfl
theorem Vz (P : Program) (t : TypeId) (s : SV) : ∀ i ∈ dI (EW P t s), i ∈ dI s := by
 intro i h
 unfold EW at h
 split at h
 · simp [dI] at h
 · exact h
theorem tF {P : Program} {g g' : Nat -> Option Ob} {t : TypeId} {x ix : SV} (h : ∀ i ∈ dI x, g i = g' i) : eZ P g t x ix = eZ P g' t x ix := by
 have h : ∀ i, x = .nm i -> g i = g' i := fun i hi => h i (by rw [hi]; simp [dI])
 unfold eZ
 generalize P.underlying t = d
 split <;> simp_all
theorem IX {P : Program} {g g' : Nat -> Option Ob} {t : TypeId} {x : SV} (h : ∀ i ∈ dI x, g i = g' i) : zu P g t x = zu P g' t x := by
 have h : ∀ i, x = .nm i -> g i = g' i := fun i hi => h i (by rw [hi]; simp [dI])
 unfold zu
 generalize P.underlying t = d
 split <;> simp_all
theorem wM {g g' : Nat -> Option Ob} {e : TypeId} {sz : Nat} {s : SV} (h : ∀ i ∈ dI s, g i = g' i) : pO g e sz s = pO g' e sz s := by
 have h : ∀ i, s = .nm i -> g i = g' i := fun i hi => h i (by rw [hi]; simp [dI])
 unfold pO
 split <;> simp_all
theorem yj {P : Program} {g g' : Nat -> Option Ob} {new : Nat} {t : TypeId} {s x : SV} (h : ∀ i ∈ dI s, g i = g' i) : jd P g new t s x = jd P g' new t s x := by
 have : ∀ e sz, pO g e sz s = pO g' e sz s := fun e sz => wM h
 simp only [jd, this]
theorem sj {P : Program} {g g' : Nat -> Option Ob} {new : Nat} {t tx : TypeId} {s x : SV} (h : ∀ i ∈ dI s, g i = g' i) : dQ P g new t tx s x = dQ P g' new t tx s x := by
 have : ∀ e sz, pO g e sz s = pO g' e sz s := fun e sz => wM h
 simp only [dQ, this]
theorem yJ {P : Program} {g g' : Nat -> Option Ob} {new : Nat} {t : TypeId} {i : Nat} {low : Option SV} {high : SV} (h : g i = g' i) : je P g new t i low high = je P g' new t i low high := by
 simp only [je, h]
theorem I8 {P : Program} {g g' : Nat -> Option Ob} {t : TypeId} {x : SV} (h : ∀ i ∈ dI x, g i = g' i) : Dy P g t x = Dy P g' t x := by
 have h : ∀ i, x = .nm i -> g i = g' i := fun i hi => h i (by rw [hi]; simp [dI])
 unfold Dy
 generalize P.underlying t = d
 split
 · split <;> simp_all
 · rfl
theorem o9 {P : Program} {g g' : Nat -> Option Ob} {t : TypeId} {x ix : SV} {ok : Bool} (h : ∀ i ∈ dI x, g i = g' i) : gu P g t x ix ok = gu P g' t x ix ok := by
 simp only [gu, I8 h]
theorem pE {P : Program} {g g' : Nat -> Option Ob} {t : TypeId} {x ix y : SV} (h : ∀ i ∈ dI x, g i = g' i) : ji P g t x ix y = ji P g' t x ix y := by
 have h : ∀ i, x = .nm i -> g i = g' i := fun i hi => h i (by rw [hi]; simp [dI])
 unfold ji
 generalize P.underlying t = d
 split <;> simp_all
theorem Cz {P : Program} {g g' : Nat -> Option Ob} {new : Nat} {t : TypeId} {x : SV} (h : ∀ i ∈ dI x, g i = g' i) : lC P g new t x = lC P g' new t x := by
 have h : ∀ i, x = .nm i -> g i = g' i := fun i hi => h i (by rw [hi]; simp [dI])
 unfold lC
 generalize P.underlying t = d
 split <;> simp_all
theorem dP {rw : Operand -> SV} {o : Oper} {x : Operand} (hx : x ∈ o.op.operands) {i : Nat} (hi : i ∈ dI (rw x)) : i ∈ CQ rw o := by
 unfold CQ
 rw [List.mem_flatMap]
 exact ⟨x, by simpa using hx, hi⟩
theorem LD {P : Program} {rw : Operand -> SV} {g g' : Nat -> Option Ob} {new : Nat} {o : Oper} (h : ∀ i ∈ Vw rw o, g i = g' i) (h' : ∀ i ∈ CQ rw o, g i = g' i) : iT P rw g new o = iT P rw g' new o := by
 unfold Vw at h
 unfold iT
 dsimp only
 split
 all_goals first
  | rfl
  | skip
 · rename_i t x ho
   simp only [ho] at h
   rw [tQ h]
 · rename_i t x y ho
   simp only [ho] at h
   exact CJ h
 · rename_i t x i ho
   rw [tF fun j hj => h' j (dP (x := x) (by rw [ho]; simp [Op.operands]) (SE _ ▸ Vz _ _ _ j hj))]
 · rename_i x t ho
   rw [IX fun j hj => h' j (dP (x := x) (by rw [ho]; simp [Op.operands, Call.operands]) (SE _ ▸ hj))]
theorem Qo {P : Program} {rw : Operand -> SV} {g g' : Nat -> Option Ob} {new : Nat} {o : Oper} (h : ∀ i ∈ Vw rw o, g i = g' i) (h' : ∀ i ∈ CQ rw o, g i = g' i) : sxE P rw g new o = sxE P rw g' new o := by
 have base := LD (P := P) (new := new) h h'
 unfold sxE
 dsimp only
 split
 · rfl
 · rename_i s x t tx ho
   have hs : ∀ j ∈ dI (rw s), g j = g' j := fun j hj => h' j (dP (x := s) (by rw [ho]; simp [Op.operands, Call.operands]) hj)
   rw [yj hs, sj hs]
 · rfl
 · rename_i t x low high ho
   split
   · rename_i i hs
     exact yJ (h' i (dP (x := x) (by rw [ho]; simp [Op.operands]) (by rw [hs]; simp [dI])))
   · rfl
   · exact base
 · rfl
 · rfl
 · rfl
 · rfl
 · rfl
 · rename_i t x i ok ho
   rw [o9 fun j hj => h' j (dP (x := x) (by rw [ho]; simp [Op.operands]) hj)]
 · rename_i t m k y ho
   rw [pE fun j hj => h' j (dP (x := m) (by rw [ho]; simp [Op.operands]) hj)]
 · rename_i t m k y ho
   rw [pE fun j hj => h' j (dP (x := m) (by rw [ho]; simp [Op.operands]) hj)]
 · rename_i t x ho
   rw [Cz fun j hj => h' j (dP (x := x) (by rw [ho]; simp [Op.operands]) hj)]
 · rfl
 · rename_i t n ps _ ho
   have e : (o.op.operands.toList.flatMap fun x => cB g [] (rw x)) = o.op.operands.toList.flatMap fun x => cB g' [] (rw x) := by
    rw [List.flatMap_def, List.flatMap_def]
    congr 1
    exact List.map_congr_left fun x hx => sW _ fun i hi => h' i (dP (by simpa using hx) hi)
   have hsub : ∀ j ∈ (o.op.operands.toList.flatMap fun x => cB g' [] (rw x)), j ∈ CQ rw o := by
    intro j hj
    rw [List.mem_flatMap] at hj
    obtain ⟨x, hx, hj⟩ := hj
    exact dP (by simpa using hx) (y8 _ j hj)
   rw [e]
   split
   · exact base
   · rename_i i l hL
     rw [hL] at hsub
     have h1 : jZ g (i :: l) = jZ g' (i :: l) := by
        simp only [jZ, rowOf]
        exact List.map_congr_left fun j hj => by rw [h' j (hsub j hj)]
     rw [h1]
     congr 1
     simp only [iT, ho]
     congr 2
     exact List.map_congr_left fun p hp => by rw [wm (rw p.2) fun j hj => h' j (dP (x := p.2) (by rw [ho]; simp [Op.operands]; exact ⟨p.1, by simpa using hp⟩) hj)]
 · exact base
def lH (E : Env) (ops : Array Oper) (rid : Nat) : Nat -> List Oper -> St -> T (List (Res × St))
 | _, [], _ => .ret []
 | i, o :: l, σ => bif (jA E ops rid i o σ).det then (jA E ops rid i o σ).bind fun x => (lH E ops rid (i + 1) l ((x.2.eff x.1.eff).put o.dst x.1.sv)).bind fun tr => .ret (x :: tr) else .fail
theorem T.eu {α β : Type} {f : α -> T β} (hf : ∀ a, (f a).det = true) : ∀ t : T α, t.det = true -> (t.bind f).det = true
 | .ret a, _ => hf a
 | .ite b t e, h => by
   simp only [T.det, Bool.and_eq_true] at h
   simp only [T.bind, T.det, Bool.and_eq_true]
   exact ⟨T.eu hf t h.1, T.eu hf e h.2⟩
 | .need p t, h => T.eu hf t h
 | .fail, _ => rfl
 | .both _ _, h => by simp [T.det] at h
 | .all _ _, h => by simp [T.det] at h
theorem EO {E : Env} {ops : Array Oper} {rid : Nat} : ∀ (l : List Oper) (i : Nat) (σ : St), (lH E ops rid i l σ).det = true
 | [], _, _ => rfl
 | o :: l, i, σ => by
   simp only [lH]
   cases hd : (jA E ops rid i o σ).det with
   | false => rfl
   | true =>
     rw [cond_true]
     exact T.eu (fun x => T.eu (fun tr => rfl) _ (EO l (i + 1) _)) _ hd
def jM (ops : List Oper) (σ : St) (tr : List (Res × St)) : Nat -> St
 | 0 => σ
 | k + 1 => match tr[k]?, ops[k]? with
   | some x, some o => (x.2.eff x.1.eff).put o.dst x.1.sv
   | _, _ => σ
theorem BU {E : Env} {ops : Array Oper} {rid : Nat} : ∀ (l : List Oper) (i : Nat) (σ : St) (tr : List (Res × St)), (lH E ops rid i l σ).ok -> (lH E ops rid i l σ).val = some tr ->
  tr.length = l.length /\ ∀ (m : Nat) (o : Oper), l[m]? = some o -> ∃ x, tr[m]? = some x /\ (jA E ops rid (i + m) o (jM l σ tr m)).ok /\ (jA E ops rid (i + m) o (jM l σ tr m)).val = some x
 | [], i, σ, tr, _, hv => by
   simp only [lH, T.val, Option.some.injEq] at hv
   subst hv
   exact ⟨rfl, fun m o h => by simp at h⟩
 | o :: l, i, σ, tr, hok, hv => by
   simp only [lH] at hok hv
   cases hd : (jA E ops rid i o σ).det with
   | false => rw [hd] at hv; cases hv
   | true =>
   rw [hd, cond_true] at hok hv
   obtain ⟨x, hx, hv⟩ := T.bM hv
   obtain ⟨hok1, hok2⟩ := T.bind_ok hok
   have hok2 := hok2 x hx
   obtain ⟨tr', ht, hv⟩ := T.bM hv
   simp only [T.val, Option.some.injEq] at hv
   subst hv
   have hok3 := (T.bind_ok hok2).1
   obtain ⟨hl, hf⟩ := BU l (i + 1) _ tr' hok3 ht
   refine ⟨by simp [hl], fun m o' ho' => ?_⟩
   cases m with
   | zero =>
     simp only [List.getElem?_cons_zero, Option.some.injEq] at ho'
     subst ho'
     exact ⟨x, rfl, hok1, hx⟩
   | succ m =>
     simp only [List.getElem?_cons_succ] at ho'
     obtain ⟨y, hy, h1, h2⟩ := hf m o' ho'
     refine ⟨y, by simpa using hy, ?_⟩
     have e : jM (o :: l) σ (x :: tr') (m + 1) = jM l ((x.2.eff x.1.eff).put o.dst x.1.sv) tr' m := by
        cases m with
        | zero => rfl
        | succ m =>
          simp only [jM, List.getElem?_cons_succ]
          have hm : m < l.length := by
           have := (List.getElem?_eq_some_iff.1 ho').1; omega
          have hm' : m < tr'.length := by omega
          rw [List.getElem?_eq_getElem hm, List.getElem?_eq_getElem hm']
     rw [e]
     have e2 : i + (m + 1) = i + 1 + m := by omega
     rw [e2]
     exact ⟨h1, h2⟩
end Rx
set_option linter.unusedSectionVars false
set_option linter.unusedSimpArgs false
set_option linter.unusedVariables false
namespace Rx
open Go
variable [Glob]
theorem ET {P : Program} {ops : Array Oper} {Q : Exit -> Act -> World -> Prop} (S : Array Bool -> Act -> World -> Prop)
  (hsz : ∀ listed a w, S listed a w -> listed.size = ops.size)
  (hstep : ∀ listed a w i, i ∈ Region.ready .any ops listed -> S listed a w -> wpOp P ops Q i (S (listed.setIfInBounds i true)) a w)
  (hend : ∀ listed a w, S listed a w -> Region.ready .any ops listed = [] -> Q .normal a w) :
  ∀ (fuel : Nat) (listed : Array Bool) (a : Act) (w : World), (listed.toList.filter (fun b => !b)).length <= fuel -> S listed a w -> wpAny P .any ops Q fuel listed a w := by
 intro fuel
 induction fuel with
 | zero =>
   intro listed a w hc hS
   have hr : Region.ready .any ops listed = [] := by
    apply List.eq_nil_iff_forall_not_mem.2
    intro i hi
    obtain ⟨hun, o, ho, _⟩ := mem_ready.1 hi
    have hlt : i < ops.size := (Array.getElem?_eq_some_iff.1 ho).1
    have hlt' : i < listed.size := by rw [hsz _ _ _ hS]; exact hlt
    have hf : listed[i] = false := by
        rw [Array.getD_eq_getD_getElem?, Array.getElem?_eq_getElem hlt'] at hun
        simpa using hun
    have hm : listed[i] ∈ listed.toList.filter (fun b => !b) := by
     rw [List.mem_filter]
     exact ⟨by simp, by rw [hf]; rfl⟩
    have := List.length_pos_of_mem hm
    omega
   exact ⟨hr, hend _ _ _ hS hr⟩
 | succ fuel ih =>
   intro listed a w hc hS
   refine ⟨fun hr => hend _ _ _ hS hr, fun i hi => ?_⟩
   refine wpOp_mono (fun a' w' hS' => ih _ a' w' ?_ hS') (hstep _ _ _ i hi hS)
   obtain ⟨hun, o, ho, _⟩ := mem_ready.1 hi
   have hlt : i < ops.size := (Array.getElem?_eq_some_iff.1 ho).1
   have hlt' : i < listed.size := by rw [hsz _ _ _ hS]; exact hlt
   have hf : listed[i] = false := by
    rw [Array.getD_eq_getD_getElem?, Array.getElem?_eq_getElem hlt'] at hun
    simpa using hun
   have key : ∀ (l : List Bool) (k : Nat), l[k]? = some false -> ((l.set k true).filter (fun b => !b)).length + 1 = (l.filter (fun b => !b)).length := by
    intro l
    induction l with
    | nil => intro k h; simp at h
    | cons b l ihl =>
      intro k h
      cases k with
      | zero => simp at h; subst h; simp
      | succ k =>
        have := ihl k (by simpa using h)
        cases b <;> simp [← this]
   have hk := key listed.toList i (by simp [hlt', hf])
   rw [Array.toList_setIfInBounds]
   omega
def lW (acc : List Nat) (o : Oper) : Nat :=
 o.after.toList.foldl (fun m e => bif Region.binds .any e then m ||| 2 ^ e.on ||| acc.getD e.on 0 else m) 0
def masks : List Oper -> List Nat -> List Nat
 | [], acc => acc
 | o :: l, acc => masks l (acc ++ [lW acc o])
theorem iO : ∀ (l : List Oper) (acc : List Nat) (i : Nat), (i < acc.length -> (masks l acc)[i]? = acc[i]?) /\
  (∀ o, l[i]? = some o -> (masks l acc)[acc.length + i]? = some (lW ((masks l acc).take (acc.length + i)) o)) /\ (masks l acc).length = acc.length + l.length
 | [], acc, i => ⟨fun _ => rfl, fun o h => by simp at h, by simp [masks]⟩
 | o :: l, acc, i => by
   simp only [masks]
   obtain ⟨h1, h2, h3⟩ := iO l (acc ++ [lW acc o]) i
   refine ⟨fun hi => ?_, fun o' ho' => ?_, by rw [h3]; simp; omega⟩
   · rw [h1 (by simp; omega), List.getElem?_append_left hi]
   · cases i with
     | zero =>
       simp only [List.getElem?_cons_zero, Option.some.injEq] at ho'
       subst ho'
       have h1' := (iO l (acc ++ [lW acc o]) acc.length).1 (by simp)
       rw [Nat.add_zero, h1']
       have htake : (masks l (acc ++ [lW acc o])).take acc.length = acc := by
        apply List.ext_getElem?
        intro j
        rw [List.getElem?_take]
        split
        · rename_i hj
          rw [(iO l (acc ++ [lW acc o]) j).1 (by simp; omega), List.getElem?_append_left hj]
        · rename_i hj
          rw [List.getElem?_eq_none (by omega)]
       rw [htake]
       simp
     | succ i =>
       simp only [List.getElem?_cons_succ] at ho'
       have h2' := (iO l (acc ++ [lW acc o]) i).2.1 o' ho'
       have e : (acc ++ [lW acc o]).length + i = acc.length + (i + 1) := by simp; omega
       rw [e] at h2'
       exact h2'
theorem KW {acc : List Nat} {o : Oper} {j : Nat} (h : (lW acc o).testBit j = true) :
  ∃ e ∈ o.after, Region.binds .any e = true /\ (e.on = j ∨ (acc.getD e.on 0).testBit j = true) := by
 unfold lW at h
 have key : ∀ (l : List Edge) (m : Nat), (l.foldl (fun m e => bif Region.binds .any e then m ||| 2 ^ e.on ||| acc.getD e.on 0 else m) m).testBit j = true ->
   m.testBit j = true ∨ ∃ e ∈ l, Region.binds .any e = true /\ (e.on = j ∨ (acc.getD e.on 0).testBit j = true) := by
  intro l
  induction l with
  | nil => intro m h; exact .inl h
  | cons e l ih =>
    intro m h
    simp only [List.foldl_cons] at h
    rcases ih _ h with h | ⟨e', he', h1, h2⟩
    · cases hb : Region.binds .any e with
      | false => rw [hb] at h; exact .inl h
      | true =>
        rw [hb, cond_true, Nat.testBit_or, Nat.testBit_or, Bool.or_eq_true, Bool.or_eq_true] at h
        rcases h with (h | h) | h
        · exact .inl h
        · rw [Nat.testBit_two_pow] at h
          exact .inr ⟨e, by simp, hb, .inl (by simpa using h)⟩
        · exact .inr ⟨e, by simp, hb, .inr h⟩
    · exact .inr ⟨e', by simp [he'], h1, h2⟩
 rcases key _ _ h with h | ⟨e, he, h1, h2⟩
 · simp at h
 · exact ⟨e, by simpa using he, h1, h2⟩
def Closed (ops : Array Oper) (D : Nat -> Bool) : Prop :=
 ∀ (i : Nat) (o : Oper), ops[i]? = some o -> D i = true -> ∀ e ∈ o.after, Region.binds .any e = true -> D e.on = true
theorem dD {ops : Array Oper} {D : Nat -> Bool} (hD : Closed ops D) : ∀ (k : Nat) (o : Oper), ops[k]? = some o -> (∀ e ∈ o.after, Region.binds .any e = true -> D e.on = true) ->
  ∀ j, ((masks ops.toList []).getD k 0).testBit j = true -> D j = true := by
 intro k
 induction k using Nat.strongRecOn with
 | _ k ih =>
   intro o ho hd j hj
   have hg := (iO ops.toList [] k).2.1 o (by simpa using ho)
   simp only [List.length_nil, Nat.zero_add] at hg
   rw [List.getD_eq_getElem?_getD, hg, Option.getD_some] at hj
   obtain ⟨e, he, h1, h2⟩ := KW hj
   rcases h2 with h2 | h2
   · rw [← h2]; exact hd e he h1
   · have hlt : e.on < k := by
       rcases Nat.lt_or_ge e.on k with h | h
       · exact h
       · rw [List.getD_eq_getElem?_getD, List.getElem?_take, if_neg (by omega)] at h2
         simp at h2
     have hkn : k < ops.size := (Array.getElem?_eq_some_iff.1 ho).1
     have hon : ops[e.on]? = some (ops[e.on]'(by omega)) := Array.getElem?_eq_getElem (by omega)
     refine ih e.on hlt _ hon (fun e' he' hb' => hD e.on _ hon (hd e he h1) e' he' hb') j ?_
     rw [List.getD_eq_getElem?_getD, List.getElem?_take, if_pos hlt] at h2
     rw [List.getD_eq_getElem?_getD]
     exact h2
end Rx
