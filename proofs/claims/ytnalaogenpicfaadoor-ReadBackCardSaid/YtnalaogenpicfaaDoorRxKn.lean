/- Rx, part Kn: a map that is gone over; operations in the order of the text. -/
import Derived.Test.YtnalaogenpicfaaDoorRxK
set_option linter.unusedSectionVars false
set_option linter.unusedSimpArgs false
set_option linter.unusedVariables false
namespace Rx
open Go
variable [Glob]

def entAt (kt vt : Ty) (l : List (kt.den × vt.den)) (k : Nat) : kt.den × vt.den := l.getD k (kt.dflt, vt.dflt)

theorem mEnt_range (kt vt : Ty) : ∀ (l : List (kt.den × vt.den)) (i : Nat), mEnt kt vt i l = (List.range' i l.length).map fun k => ⟨kt.val (entAt kt vt l (k - i)).1, vt.val (entAt kt vt l (k - i)).2, k⟩
  | [], i => rfl
  | x :: l, i => by
    simp only [mEnt, List.length_cons, List.range'_succ, List.map_cons, Nat.sub_self]
    rw [mEnt_range kt vt l (i + 1)]
    congr 1
    apply List.map_congr_left
    intro k hk
    have : i + 1 ≤ k := by
      have := (List.mem_range'.1 hk)
      obtain ⟨j, _, rfl⟩ := this; omega
    have e : k - i = (k - (i + 1)) + 1 := by omega
    rw [e]; rfl

/-- what was not yet seen -/
def leftOf (n : Nat) (seen : List Nat) : List Nat := (List.range n).filter fun k => !seen.contains k

theorem leftOf_lt {n : Nat} {seen : List Nat} {k : Nat} (h : k ∈ leftOf n seen) : k < n ∧ k ∉ seen := by
  unfold leftOf at h
  rw [List.mem_filter] at h
  exact ⟨List.mem_range.1 h.1, by simpa using h.2⟩

def nextSV (g : Nat → Option Ob) (x : SV) : T Res :=
  match x with
  | .ptr i 0 => match g i with
    | some (.it m n seen) => match g m with
      | some (.mp kt vt l) => .need (n = l.length) (.ite (leftOf n seen).isEmpty (.ret ⟨.tup [.kb false], .none⟩)
          (.all (leftOf n seen).length fun j => .ret ⟨.tup [.kb true, valSV kt (entAt kt vt l ((leftOf n seen).getD j 0)).1, valSV vt (entAt kt vt l ((leftOf n seen).getD j 0)).2], ⟨[(i, some (.it m n ((leftOf n seen).getD j 0 :: seen)))], []⟩⟩))
      | _ => .fail
    | _ => .fail
  | _ => .fail

def entrySV (g : Nat → Option Ob) (x : SV) : T Res :=
  match x with
  | .ptr i 0 => match g i with
    | some (.it m n (k :: _)) => match g m with
      | some (.mp kt vt l) => .need (n = l.length ∧ k < l.length) (.ret ⟨.tup [valSV kt (entAt kt vt l k).1, valSV vt (entAt kt vt l k).2], .none⟩)
      | _ => .fail
    | _ => .fail
  | _ => .fail

theorem next_run {P : Program} {w : World} {ty : TypeId} {b bm : Nat} {kt vt : Ty} {l : List (kt.den × vt.den)} {seen : List Nat} (hb : w.heap[b]? = some (.mapIter (some bm) l.length seen.reverse.toArray l.length))
    (hm : w.heap[bm]? = some (.map (mEnt kt vt 0 l).toArray l.length)) :
    ((leftOf l.length seen).isEmpty = true → ∃ w', (w' = w ∨ w' = { w with drawn := w.drawn + 1 }) ∧ (Instr.next (.pointer (some ⟨b, 0, none⟩)) false ty).run P w = .ok (.tuple #[.bool false]) w') ∧
    ((leftOf l.length seen).isEmpty = false → ∃ j, j < (leftOf l.length seen).length ∧ ∃ w', (w' = w ∨ w' = { w with drawn := w.drawn + 1 }) ∧
      (Instr.next (.pointer (some ⟨b, 0, none⟩)) false ty).run P w = .ok (.tuple #[.bool true, kt.val (entAt kt vt l ((leftOf l.length seen).getD j 0)).1, vt.val (entAt kt vt l ((leftOf l.length seen).getD j 0)).2])
        { w' with heap := w.heap.setIfInBounds b (.mapIter (some bm) l.length ((leftOf l.length seen).getD j 0 :: seen).reverse.toArray l.length) }) := by
  have hgo : ∀ {r : Nat} {o : Obj}, w.heap[r]? = some o → (∀ c e f, o ≠ .cells c e f) → (getObj r).run P w = .ok o w := by
    intro r o h hn
    cases o <;> first | (simp [getObj, Sem.run, h]; done) | exact absurd rfl (hn _ _ _)
  have h1 := hgo hb (fun _ _ _ h => by cases h)
  have h2 := hgo hm (fun _ _ _ h => by cases h)
  -- what is left
  let ent : Nat → MapEntry := fun k => ⟨kt.val (entAt kt vt l k).1, vt.val (entAt kt vt l k).2, k⟩
  have hent : mEnt kt vt 0 l = (List.range l.length).map ent := by
    rw [mEnt_range, List.range_eq_range']; rfl
  have hleft : (mEnt kt vt 0 l).filter (fun e => !seen.reverse.toArray.contains e.born) = (leftOf l.length seen).map ent := by
    rw [hent, List.filter_map]
    congr 1
    unfold leftOf
    apply List.filter_congr
    intro k _
    simp [ent, Function.comp]
  have hold : ((leftOf l.length seen).map ent).filter (fun e => decide (e.born < l.length)) = (leftOf l.length seen).map ent := by
    rw [List.filter_eq_self]
    intro e he
    obtain ⟨k, hk, rfl⟩ := List.mem_map.1 he
    simpa [ent] using (leftOf_lt hk).1
  have hnew : ((leftOf l.length seen).map ent).filter (fun e => decide (e.born ≥ l.length)) = [] := by
    rw [List.filter_eq_nil_iff]
    intro e he
    obtain ⟨k, hk, rfl⟩ := List.mem_map.1 he
    have := (leftOf_lt hk).1
    simp [ent]; omega
  have hall : (!seen.reverse.toArray.isEmpty && !(mEnt kt vt 0 l).toArray.isEmpty && (mEnt kt vt 0 l).toArray.all fun e => decide (e.born ≥ l.length)) = false := by
    cases l with
    | nil => simp [mEnt]
    | cons x l => simp [mEnt]
  have hcand : ∀ (q : Sem Value), (Instr.next (.pointer (some ⟨b, 0, none⟩)) false ty).run P w = (do
      match ((if ((leftOf l.length seen).map ent).toArray.isEmpty then #[none] else #[]) ++ (((leftOf l.length seen).map ent).toArray ++ #[]).map some)[← choose (.mapNext ((if ((leftOf l.length seen).map ent).toArray.isEmpty then #[none] else #[]) ++ (((leftOf l.length seen).map ent).toArray ++ #[]).map some).size)]? with
      | some (some e) =>
        setObj b (.mapIter (some bm) l.length (seen.reverse.toArray.push e.born) l.length)
        pure (.tuple #[.bool true, e.key, e.val])
      | some none => pure (.tuple #[.bool false])
      | none => stuck "Next: no such candidate" : Sem Value).run P w := by
    intro _
    unfold Instr.next
    have f1 : ((mEnt kt vt 0 l).toArray.filter fun e => !seen.reverse.toArray.contains e.born) = ((leftOf l.length seen).map ent).toArray := by
      apply Array.ext'; rw [Array.toList_filter]; exact hleft
    have f2 : ((leftOf l.length seen).map ent).toArray.filter (fun e => decide (e.born < l.length)) = ((leftOf l.length seen).map ent).toArray := by
      apply Array.ext'; rw [Array.toList_filter]; exact hold
    have f3 : ((leftOf l.length seen).map ent).toArray.filter (fun e => decide (e.born ≥ l.length)) = #[] := by
      apply Array.ext'; rw [Array.toList_filter]; exact hnew
    simp only [Sem.run_bind, h1, Result.andThen_ok, h2, hall, Bool.false_eq_true, if_false, f1, f2, f3, Sem.run_pure]
    rfl
  have hc := hcand (pure undef)
  refine ⟨fun he => ?_, fun he => ?_⟩
  · have he' : leftOf l.length seen = [] := by simpa using he
    refine ⟨w, .inl rfl, ?_⟩
    rw [hc, he']
    simp [choose, Sem.run, Question.forced]
  · have hne : (leftOf l.length seen) ≠ [] := fun h => by rw [h] at he; cases he
    have hpos : 0 < (leftOf l.length seen).length := List.length_pos_iff.2 hne
    have hemp : ((leftOf l.length seen).map ent).toArray.isEmpty = false := by
      cases hl : leftOf l.length seen with
      | nil => exact absurd hl hne
      | cons x y => simp
    have hcs : ((if ((leftOf l.length seen).map ent).toArray.isEmpty then #[none] else #[]) ++ (((leftOf l.length seen).map ent).toArray ++ #[]).map some) = ((leftOf l.length seen).map fun k => some (ent k)).toArray := by
      rw [hemp]; apply Array.ext'; simp
    rw [hcs] at hc
    have hstep : ∀ (w' : World) (j : Nat), (w' = w ∨ w' = { w with drawn := w.drawn + 1 }) → j < (leftOf l.length seen).length →
        (match ((leftOf l.length seen).map fun k => some (ent k)).toArray[j]? with
      | some (some e) => (do
        setObj b (.mapIter (some bm) l.length (seen.reverse.toArray.push e.born) l.length)
        pure (.tuple #[.bool true, e.key, e.val]) : Sem Value)
      | some none => pure (.tuple #[.bool false])
      | none => stuck "Next: no such candidate").run P w' = .ok (.tuple #[.bool true, kt.val (entAt kt vt l ((leftOf l.length seen).getD j 0)).1, vt.val (entAt kt vt l ((leftOf l.length seen).getD j 0)).2])
        { w' with heap := w.heap.setIfInBounds b (.mapIter (some bm) l.length ((leftOf l.length seen).getD j 0 :: seen).reverse.toArray l.length) } := by
      intro w' j hw' hj
      have hh : w'.heap = w.heap := by rcases hw' with rfl | rfl <;> rfl
      have hg : ((leftOf l.length seen).map fun k => some (ent k)).toArray[j]? = some (some (ent ((leftOf l.length seen).getD j 0))) := by
        simp [List.getD_eq_getElem?_getD, hj]
      have hset : (setObj b (.mapIter (some bm) l.length (seen.reverse.toArray.push ((leftOf l.length seen).getD j 0)) l.length)).run P w' = .ok () { w' with heap := w'.heap.setIfInBounds b (.mapIter (some bm) l.length (seen.reverse.toArray.push ((leftOf l.length seen).getD j 0)) l.length) } := by
        have hb' : w'.heap[b]? = some (.mapIter (some bm) l.length seen.reverse.toArray l.length) := by rw [hh]; exact hb
        simp [setObj, Sem.run, hb']
      rw [hg]
      have hpush : (seen.reverse.toArray.push ((leftOf l.length seen).getD j 0)) = ((leftOf l.length seen).getD j 0 :: seen).reverse.toArray := by simp
      simp only [Sem.run_bind, ent]
      rw [hset]
      simp only [Result.andThen_ok, Sem.run_pure, hpush, hh]
    by_cases hf : (leftOf l.length seen).length ≤ 1
    · refine ⟨0, hpos, w, .inl rfl, ?_⟩
      rw [hc]
      have := hstep w 0 (.inl rfl) hpos
      rw [← this]
      simp [choose, Sem.run, Question.forced, hf]
    · have hlt : w.tape w.drawn (.mapNext (leftOf l.length seen).length) % (leftOf l.length seen).length < (leftOf l.length seen).length := Nat.mod_lt _ hpos
      refine ⟨_, hlt, _, .inr rfl, ?_⟩
      rw [hc]
      have := hstep _ _ (.inr rfl) hlt
      rw [← this]
      have hff : decide ((leftOf l.length seen).length ≤ 1) = false := by simpa using hf
      simp [choose, Sem.run, Question.forced, Question.cut, hff]
theorem nextSV_goes {P : Program} {C : Ctx} {w : World} {g : Nat → Option Ob} {a : Act} {o : Oper} {it : Operand} {x : SV} {post : Res → Prop} (hw : WF C w) (hg : ObsOk C w g) (ho : o.op = .next it false) (hx : rel C w x (a.eval it))
    (hh : (nextSV g x).holds post) : Goes P a o C w post := by
  intro K Q hK
  unfold nextSV at hh
  split at hh
  · rename_i i
    split at hh
    · rename_i m n seen hi
      split at hh
      · rename_i kt vt l hm
        simp only [T.holds] at hh
        obtain ⟨hn, hh1, hh2⟩ := hh
        subst hn
        obtain ⟨b, bm, e1, e2, e3, e4⟩ := hg i _ hi
        obtain ⟨bm', f1, f2, f3⟩ := hg m _ hm
        rw [e3] at f2
        injection f2 with f2; injection f2 with f2; injection f2 with f2
        subst f2
        obtain ⟨b', hb', hv⟩ := hx
        rw [e2] at hb'
        injection hb' with hb'; injection hb' with hb'; injection hb' with hb'; injection hb' with hb'
        subst hb'
        obtain ⟨n1, n2⟩ := next_run (P := P) (ty := o.type) e4 f3
        have drew : ∀ w', (w' = w ∨ w' = { w with drawn := w.drawn + 1 }) → Ag (fun _ => False) w w' := by
          rintro w' (rfl | rfl)
          · exact Ag.refl _ _
          · exact ⟨rfl, rfl, rfl, Nat.le_refl _, fun _ _ _ => rfl⟩
        unfold Oper.wp
        cases hq : (leftOf l.length seen).isEmpty with
        | true =>
          obtain ⟨w', hw', hr⟩ := n1 hq
          have hex : (execOp a.eval o).run P w = .ok (.value (.tuple #[.bool false])) w' := by
            simp only [execOp, ho, hv, Sem.run_bind, hr, Result.andThen_ok, Sem.run_pure]
          rw [hex]
          refine hK _ _ _ _ (hh1 hq) ⟨⟨[_], rfl, _, _, rfl, rfl, rfl⟩, step_grown (drew w' hw'), wf_grown hw (drew w' hw'), fun _ h => .inl h, fun j ob hj => ?_⟩
          simp [Eff.none] at hj
        | false =>
          obtain ⟨j, hj, w', hw', hr⟩ := n2 hq
          have hex : (execOp a.eval o).run P w = .ok (.value (.tuple #[.bool true, kt.val (entAt kt vt l ((leftOf l.length seen).getD j 0)).1, vt.val (entAt kt vt l ((leftOf l.length seen).getD j 0)).2]))
              { w' with heap := w.heap.setIfInBounds b (.mapIter (some bm) l.length ((leftOf l.length seen).getD j 0 :: seen).reverse.toArray l.length) } := by
            simp only [execOp, ho, hv, Sem.run_bind, hr, Result.andThen_ok, Sem.run_pure]
          rw [hex]
          have hlt : b < w.heap.size := hw.lt i b e1
          have hh' : w'.heap = w.heap := by rcases hw' with rfl | rfl <;> rfl
          refine hK _ _ _ _ (hh2 hq j hj) ⟨⟨[_, _, _], rfl, _, _, rfl, rfl, _, _, rfl, valSV_rel _ _, _, _, rfl, valSV_rel _ _, rfl⟩, ?_, ?_, fun _ h => .inl h, fun k ob hk => ?_⟩
          · refine ⟨fun _ _ h => h, rfl, fun j c h => .inl ⟨j, h⟩, fun _ _ _ h => h, ⟨(drew w' hw').os, (drew w' hw').tape, (drew w' hw').output, by simp, fun k hk hn => ?_⟩⟩
            have : b ≠ k := fun e => hn ⟨i, by simp [Eff.X, Eff.touched], e ▸ e1⟩
            simp [Array.getElem?_setIfInBounds_ne this]
          · refine wf_step (X := fun j => j = i) hw ⟨fun _ _ h => h, rfl, fun j c h => .inl ⟨j, h⟩, fun _ _ _ h => h, ⟨(drew w' hw').os, (drew w' hw').tape, (drew w' hw').output, by simp, fun k hk hn => ?_⟩⟩
            have : b ≠ k := fun e => hn ⟨i, rfl, e ▸ e1⟩
            simp [Array.getElem?_setIfInBounds_ne this]
          · by_cases hki : k = i
            · subst hki
              simp [List.lookup] at hk
              subst hk
              exact ⟨b, bm, e1, e2, e3, by simp [hlt]⟩
            · have : (k == i) = false := by simpa using hki
              simp [List.lookup, this] at hk
      · exact hh.elim
    · exact hh.elim
  · exact hh.elim

theorem entrySV_goes {P : Program} {C : Ctx} {w : World} {g : Nat → Option Ob} {a : Act} {o : Oper} {it : Operand} {x : SV} {post : Res → Prop} (hw : WF C w) (hg : ObsOk C w g) (ho : o.op = .entry it) (hx : rel C w x (a.eval it))
    (hh : (entrySV g x).holds post) : Goes P a o C w post := by
  intro K Q hK
  unfold entrySV at hh
  split at hh
  · rename_i i
    split at hh
    · rename_i m n k seen hi
      split at hh
      · rename_i kt vt l hm
        simp only [T.holds] at hh
        obtain ⟨⟨hn, hk⟩, hp⟩ := hh
        subst hn
        obtain ⟨b, bm, e1, e2, e3, e4⟩ := hg i _ hi
        obtain ⟨bm', f1, f2, f3⟩ := hg m _ hm
        rw [e3] at f2
        injection f2 with f2; injection f2 with f2; injection f2 with f2
        subst f2
        obtain ⟨b', hb', hv⟩ := hx
        rw [e2] at hb'
        injection hb' with hb'; injection hb' with hb'; injection hb' with hb'; injection hb' with hb'
        subst hb'
        have hgo : ∀ {r : Nat} {o : Obj}, w.heap[r]? = some o → (∀ c e f, o ≠ .cells c e f) → (getObj r).run P w = .ok o w := by
          intro r o h hn
          cases o <;> first | (simp [getObj, Sem.run, h]; done) | exact absurd rfl (hn _ _ _)
        have h1 := hgo e4 (fun _ _ _ h => by cases h)
        have h2 := hgo f3 (fun _ _ _ h => by cases h)
        have hback : (k :: seen).reverse.toArray.back? = some k := by simp
        have hfind : (mEnt kt vt 0 l).toArray.find? (fun e => e.born == k) = some ⟨kt.val (entAt kt vt l k).1, vt.val (entAt kt vt l k).2, k⟩ := by
          rw [List.find?_toArray, mEnt_range, List.find?_map]
          have : (List.range' 0 l.length).find? ((fun e : MapEntry => e.born == k) ∘ fun k => ⟨kt.val (entAt kt vt l (k - 0)).1, vt.val (entAt kt vt l (k - 0)).2, k⟩) = some k := by
            rw [List.find?_eq_some_iff_append]
            refine ⟨by simp, List.range' 0 k, List.range' (k + 1) (l.length - (k + 1)), ?_, fun x hx => ?_⟩
            · have := List.range'_append (s := 0) (m := k) (n := l.length - k) (step := 1)
              rw [show k + (l.length - k) = l.length by omega] at this
              rw [← this, show l.length - k = (l.length - (k + 1)) + 1 by omega, List.range'_succ]
              simp
            · have := (List.mem_range'.1 hx)
              obtain ⟨j, hj, rfl⟩ := this
              simp; omega
          rw [this]; rfl
        have hex : (execOp a.eval o).run P w = .ok (.value (.tuple #[kt.val (entAt kt vt l k).1, vt.val (entAt kt vt l k).2])) w := by
          simp only [execOp, ho, hv, Instr.entry, Sem.run_bind, h1, h2, Result.andThen_ok, hback, hfind, Sem.run_pure, bne_self_eq_false, Bool.false_eq_true, if_false]
        unfold Oper.wp
        rw [hex]
        exact hK _ _ _ _ hp (Came.pure hw ⟨[_, _], rfl, _, _, rfl, valSV_rel _ _, _, _, rfl, valSV_rel _ _, rfl⟩)
      · exact hh.elim
    · exact hh.elim
  · exact hh.elim

/-! ## is a slice nil? -/
def nilRes (neg : Bool) (b : Bool) : T Res := .ret ⟨.kb (bif neg then !b else b), .none⟩
def nilSV (P : Program) (neg : Bool) (t : TypeId) (g : Nat → Option Ob) (x : SV) : T Res :=
  match P.underlying t with
  | some (.slice _) => match x with
    | .dt (.cell (.slice none 0 _)) => nilRes neg true
    | .dt (.arr _ n _) => .ite (Nat.beq n 0) (.both (nilRes neg true) (nilRes neg false)) (nilRes neg false)
    | .nm i => match g i with
      | some (.row _ _ n _) => .ite (Nat.beq n 0) (.both (nilRes neg true) (nilRes neg false)) (nilRes neg false)
      | _ => .fail
    | _ => .fail
  | _ => .fail

theorem nilSV_goes {P : Program} {C : Ctx} {w : World} {g : Nat → Option Ob} {a : Act} {o : Oper} {t t' : TypeId} {x : Operand} {s : SV} {neg : Bool} {post : Res → Prop} (hw : WF C w) (hg : ObsOk C w g)
    (ho : o.op = .binOp (bif neg then .neq else .eql) t x (.const (.slice none 0 0)) t') (hx : rel C w s (a.eval x)) (hh : (nilSV P neg t g s).holds post) : Goes P a o C w post := by
  intro K Q hK
  unfold nilSV at hh
  split at hh
  · rename_i e ht
    have key : ∀ (A : Option Addr) (n c : Nat), a.eval x = .slice A n c → (nilRes neg A.isNone).holds post → o.wp P a w K Q := by
      intro A n c hv hp
      have hex : (execOp a.eval o).run P w = .ok (.value (.bool (bif neg then !A.isNone else A.isNone))) w := by
        have hc : a.eval (.const (.slice none 0 0)) = .slice none 0 0 := rfl
        have he : (Op.equal t (.slice A n c) (.slice none 0 0)).run P w = .ok A.isNone w := by
          have : ∀ d, (Op.equalIn (d + 1) t (.slice A n c) (.slice none 0 0)).run P w = .ok A.isNone w := fun d => by
            cases A <;> simp [Op.equalIn, underlying, ht]
          exact this 9999
        have hgd : ∀ (op : BinOp) (x y : Operand), (eqGuard op t x y (.slice A n c) (.slice none 0 0)).run P w = .ok () w := fun op x y => by
          unfold eqGuard; split <;> rfl
        cases neg with
        | false =>
          have hb : binOp .eql t (.slice A n c) (.slice none 0 0) = (do pure (.bool (← Op.equal t (.slice A n c) (.slice none 0 0)))) := rfl
          simp only [execOp, ho, cond_false, hv, hc, Sem.run_bind, hgd, Result.andThen_ok, hb, he, Sem.run_pure]
        | true =>
          have hb : binOp .neq t (.slice A n c) (.slice none 0 0) = (do pure (.bool (!(← Op.equal t (.slice A n c) (.slice none 0 0))))) := rfl
          simp only [execOp, ho, cond_true, hv, hc, Sem.run_bind, hgd, Result.andThen_ok, hb, he, Sem.run_pure]
      unfold Oper.wp
      rw [hex]
      exact hK _ _ _ _ hp (Came.pure hw rfl)
    have arr : ∀ (A : Option Addr) (n c : Nat), a.eval x = .slice A n c → (0 < n → A.isNone = false) →
        (T.ite (Nat.beq n 0) (.both (nilRes neg true) (nilRes neg false)) (nilRes neg false)).holds post → o.wp P a w K Q := by
      intro A n c hv hA h
      obtain ⟨h1, h2⟩ := h
      refine key A n c hv ?_
      cases hn : Nat.beq n 0 with
      | true =>
        obtain ⟨h3, h4⟩ := h1 hn
        cases A with
        | none => exact h3
        | some _ => exact h4
      | false =>
        have : 0 < n := by
          rcases Nat.eq_zero_or_pos n with h | h
          · subst h; cases hn
          · exact h
        rw [hA this]
        exact h2 hn
    split at hh
    · rw [rel_cell] at hx
      exact key _ _ _ hx hh
    · obtain ⟨A, c, hv, _, hc⟩ := hx.here
      refine arr A _ c hv (fun hn => ?_) hh
      obtain ⟨b, off, rfl, _⟩ := hc hn
      rfl
    · rename_i i
      split at hh
      · rename_i t2 sz n f hgi
        obtain ⟨A, c, h1, h2⟩ := hg i _ hgi
        have hx : C.ν i = some (a.eval x) := hx.1
        rw [hx] at h1
        injection h1 with h1
        refine arr A n c h1 (fun hn => ?_) hh
        rcases h2 with ⟨_, h2, _⟩ | ⟨b, _, rfl, _⟩
        · omega
        · rfl
      · exact hh.elim
    · exact hh.elim
  · exact hh.elim

/-! ## operations one behind the other, in the order of the text -/
/-- an operation that may go more than one way -/
def sxMany (E : Env) (o : Oper) (t : T Res) (σ : St) : T (Res × St) :=
  match o.guard with
  | none => t.bind fun r => bif effOk r.eff && dstOk E.N o.dst && newOk r.eff σ.nob then .ret (r, σ) else .fail
  | some _ => .fail

def sxStepN (E : Env) (ops : Array Oper) (rid i : Nat) (o : Oper) (σ : St) : T (Res × St) :=
  match o.op with
  | .next it false => sxMany E o (nextSV σ.obj (evS σ it)) σ
  | .entry it => sxMany E o (entrySV σ.obj (evS σ it)) σ
  | .binOp .eql t x (.const (.slice none 0 0)) _ => sxMany E o (nilSV E.P false t σ.obj (evS σ x)) σ
  | .binOp .neq t x (.const (.slice none 0 0)) _ => sxMany E o (nilSV E.P true t σ.obj (evS σ x)) σ
  | _ => sxStep E ops rid i o σ

theorem sxMany_sound {E : Env} {ops : Array Oper} {o : Oper} {σ : St} {C : Ctx} {a : Act} {w : World} {post : Res × St → Prop} {t : T Res} (h : Inv E.N C σ a w)
    (hh : (sxMany E o t σ).holds post) {K : Act → World → Prop} {Q : Exit → Act → World → Prop} (hk : Stepped E C a w o K post) (hgo : ∀ p : Res → Prop, t.holds p → Goes E.P a o C w p) :
    if Region.wanted o (yielded ops a.tmps) then o.wp E.P a w K Q else K (a.put o.dst undef) w := by
  unfold sxMany at hh
  split at hh
  · rename_i hg
    have hw : Region.wanted o (yielded ops a.tmps) = true := by simp [Region.wanted, hg]
    rw [if_pos hw]
    rw [T.holds_bind] at hh
    have hh2 := T.holds_mono (q := fun r => (effOk r.eff && dstOk E.N o.dst && newOk r.eff σ.nob) = true ∧ post (r, σ)) (fun r hr => by
      cases hb : (effOk r.eff && dstOk E.N o.dst && newOk r.eff σ.nob) with
      | false => rw [hb] at hr; exact hr.elim
      | true => rw [hb] at hr; exact ⟨rfl, hr⟩) _ hh
    refine hgo _ hh2 K Q fun r v w' C' hp hc => ?_
    have hb := hp.1
    simp only [Bool.and_eq_true] at hb
    exact hk r σ v w' C' hp.2 h hc hb.1.1 hb.1.2 hb.2
  · exact hh.elim

theorem sxStepN_sound {E : Env} (hK : E.Kok) {ops : Array Oper} {rid i : Nat} {o : Oper} {σ : St} {C : Ctx} {a : Act} {w : World} {post : Res × St → Prop} (h : Inv E.N C σ a w)
    (hh : (sxStepN E ops rid i o σ).holds post) {K : Act → World → Prop} {Q : Exit → Act → World → Prop} (hk : Stepped E C a w o K post) :
    if Region.wanted o (yielded ops a.tmps) then o.wp E.P a w K Q else K (a.put o.dst undef) w := by
  unfold sxStepN at hh
  split at hh
  · rename_i it ho
    exact sxMany_sound h hh hk fun p hp => nextSV_goes h.wf h.ob ho (evS_rel C w σ a it (fun i _ ob hob => h.ob i ob hob) (fun t _ => h.sl t)) hp
  · rename_i it ho
    exact sxMany_sound h hh hk fun p hp => entrySV_goes h.wf h.ob ho (evS_rel C w σ a it (fun i _ ob hob => h.ob i ob hob) (fun t _ => h.sl t)) hp
  · rename_i t x t' ho
    exact sxMany_sound h hh hk fun p hp => nilSV_goes (neg := false) h.wf h.ob ho (evS_rel C w σ a x (fun i _ ob hob => h.ob i ob hob) (fun t _ => h.sl t)) hp
  · rename_i t x t' ho
    exact sxMany_sound h hh hk fun p hp => nilSV_goes (neg := true) h.wf h.ob ho (evS_rel C w σ a x (fun i _ ob hob => h.ob i ob hob) (fun t _ => h.sl t)) hp
  · exact sxStep_sound hK h hh hk

def sxOps (E : Env) (ops : Array Oper) (rid : Nat) : Nat → List Oper → St → T St
  | _, [], σ => .ret σ
  | i, o :: l, σ => (sxStepN E ops rid i o σ).bind fun x => sxOps E ops rid (i + 1) l ((x.2.eff x.1.eff).put o.dst x.1.sv)

theorem sxOps_sound {E : Env} (hK : E.Kok) {ops : Array Oper} {rid : Nat} {Q : Exit → Act → World → Prop} {post : St → Prop} : ∀ (l : List Oper) (i : Nat) (σ : St) (C : Ctx) (a : Act) (w : World), Inv E.N C σ a w →
    (sxOps E ops rid i l σ).holds post → (∀ C' σ' a' w', post σ' → Inv E.N C' σ' a' w' → Step Top C w C' w' → Q .normal a' w') → wpList E.P ops Q l a w
  | [], _, σ, C, a, w, h, hh, hQ => hQ C σ a w hh h (Step.refl C w)
  | o :: l, i, σ, C, a, w, h, hh, hQ => by
    simp only [sxOps, T.holds_bind] at hh
    refine wpList_step fun K hK' => ?_
    refine sxStepN_sound hK h hh fun r σ' v w' C' hp hi hc h1 h2 h3 => hK' _ _ ?_
    have hst : Step Top C w C' w' := hc.step.mono fun _ _ => trivial
    exact sxOps_sound hK l (i + 1) _ C' _ w' (hi.next hc h1 h2 h3) hp fun C2 σ2 a2 w2 p2 i2 s2 => hQ C2 σ2 a2 w2 p2 i2 (Step.trans hc.wf hst s2)
end Rx
