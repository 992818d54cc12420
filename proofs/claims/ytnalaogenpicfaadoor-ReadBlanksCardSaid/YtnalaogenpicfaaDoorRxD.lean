/- Rx, part D: the other operations; one operation whole. -/
import Derived.Test.YtnalaogenpicfaaDoorRxC
set_option linter.unusedSectionVars false
set_option linter.unusedSimpArgs false
set_option linter.unusedVariables false
namespace Rx
open Go
variable [Glob]

theorem agS_eq {X : Nat → Prop} {w : World} (w' : World) (h : w' = w) : Ag X w w' := by subst h; exact Ag.refl _ _

theorem toDts_rel {C : Ctx} {w : World} : ∀ {l : List SV} {ds : List Dt} {vs : List Value}, toDts l = some ds → relL C w l vs →
    ds.length = l.length ∧ ∀ (j : Nat) (d : Dt), ds[j]? = some d → ∃ v, vs[j]? = some v ∧ v.oneCell' = true ∧ rel C w (.dt d) v
  | [], ds, vs, h, _ => by simp only [toDts, Option.some.injEq] at h; subst h; simp
  | s :: l, ds, vs, h, hr => by
    have key : ∀ d, (toDts l).map (d :: ·) = some ds → (∀ v, rel C w s v → v.oneCell' = true ∧ rel C w (.dt d) v) → ds.length = (s :: l).length ∧ ∀ (j : Nat) (d : Dt), ds[j]? = some d → ∃ v, vs[j]? = some v ∧ v.oneCell' = true ∧ rel C w (.dt d) v := by
      intro d h hs
      obtain ⟨v, r, rfl, h1, h2⟩ := hr
      have h1 := hs v h1
      cases ht : toDts l with
      | none => simp [ht] at h
      | some ds' =>
        simp only [ht, Option.map_some, Option.some.injEq] at h
        subst h
        obtain ⟨hl, hg⟩ := toDts_rel ht h2
        refine ⟨by simp [hl], fun j d' hj => ?_⟩
        cases j with
        | zero => simp at hj; subst hj; exact ⟨v, rfl, h1⟩
        | succ j => simpa using hg j d' (by simpa using hj)
    cases s with
    | dt d =>
      simp only [toDts] at h
      cases ho : oneSV (.dt d) with
      | false => rw [ho] at h; cases h
      | true => rw [ho] at h; exact key d h (fun v h => ⟨oneSV_sound ho h, h⟩)
    | kb b => exact key (.cell (.bool b)) h (fun v h => ⟨oneSV_sound (s := .kb b) rfl h, rel_cell.2 h⟩)
    | ki k n => exact key (.cell (.int k n)) h (fun v h => ⟨oneSV_sound (s := .ki k n) rfl h, rel_cell.2 h⟩)
    | _ => simp [toDts] at h

theorem splice_get {α : Type} (l cs : List α) (off j : Nat) (h : off + cs.length ≤ l.length) : (splice l off cs)[j]? = if off ≤ j ∧ j < off + cs.length then cs[j - off]? else l[j]? := by
  unfold splice
  have e1 : (l.take off).length = off := by simp; omega
  rw [List.append_assoc, List.getElem?_append, e1]
  by_cases h1 : j < off
  · rw [if_pos h1, if_neg (by omega), List.getElem?_take, if_pos h1]
  · rw [if_neg h1, List.getElem?_append]
    by_cases h2 : j - off < cs.length
    · rw [if_pos h2, if_pos (by omega)]
    · rw [if_neg h2, if_neg (by omega), List.getElem?_drop]
      congr 1; omega

/-- a store into a tracked object -/
theorem storeSV_sound {P : Program} {C : Ctx} {w : World} {g : Nat → Option Ob} (hw : WF C w) (hg : ObsOk C w g) (t : TypeId) (p v : SV) (u x : Value) {r : Res}
    (hp : rel C w p u) (hx : rel C w v x) (hok : (storeSV P g t p v).ok) (hv : (storeSV P g t p v).val = some r) :
    ∃ w', (Instr.storeAt t u x).run P w = .ok () w' ∧ Came C w r C w' undef := by
  unfold storeSV at hok hv
  cases hz : szOf P t with
  | none => simp [hz, T.ok] at hok
  | some n =>
  cases hc : cellsSV v with
  | none => simp [hz, hc, T.ok] at hok
  | some us =>
  simp only [hz, hc] at hok hv
  cases hb : (Nat.beq us.length n && us.all oneSV) with
  | false => rw [hb] at hok; simp [T.ok] at hok
  | true =>
  rw [hb] at hok hv
  simp only [cond_true] at hok hv
  simp only [Bool.and_eq_true] at hb
  obtain ⟨h1, h3⟩ := hb
  have e1 := Nat.eq_of_beq_eq_true h1
  obtain ⟨xs, hxs, hrx⟩ := cellsSV_sound hc hx
  have hxl := relL_length hrx
  have hones : ∀ y ∈ xs, y.oneCell' = true := by
    intro y hy
    obtain ⟨j, hj⟩ := List.getElem?_of_mem hy
    have hjl : j < us.length := by
      have := (List.getElem?_eq_some_iff.1 hj).1; omega
    have hus : us[j]? = some us[j] := List.getElem?_eq_getElem hjl
    obtain ⟨y', hy', hry⟩ := relL_get j _ hrx hus
    rw [hj] at hy'; injection hy' with hy'; subst hy'
    exact oneSV_sound (List.all_eq_true.1 h3 _ (List.getElem_mem hjl)) hry
  -- whatever the object: a block that is ours, written in the middle
  have write : ∀ (i b off : Nat) (cur : Array Value) (t' : TypeId), C.ρ i = some b → w.heap[b]? = some (.cells cur t' (0, 0)) → off + n ≤ cur.size → ∀ ob, (∀ w', Step (fun j => j = i) C w C w' → w'.heap[b]? = some (.cells (splice cur.toList off xs).toArray t' (0, 0)) → obHolds C w' i ob) →
      ∃ w', (Instr.storeAt t (.pointer (some ⟨b, off, none⟩)) x).run P w = .ok () w' ∧ Came C w ⟨.junk, ⟨[(i, some ob)], []⟩⟩ C w' undef := by
    intro i b off cur t' hb hrow hlen ob hob
    have hrun := run_storeCells_at (P := P) b off t' xs 0 cur w hrow (by omega) hones
    have econ : (cur.toList.take (off + 0) ++ xs ++ cur.toList.drop (off + 0 + xs.length)).toArray = (splice cur.toList off xs).toArray := by simp [splice]
    rw [econ] at hrun
    have hset := setRow_heap w b cur (splice cur.toList off xs).toArray t' (0, 0) hrow
    have hstep : Step (fun j => j = i) C w C (w.setRow b (splice cur.toList off xs).toArray) := by
      refine ⟨fun _ _ h => h, rfl, fun j _ h => .inl ⟨j, h⟩, fun _ _ _ h => h, ⟨rfl, rfl, rfl, by simp, fun k hk hn => ?_⟩⟩
      have : k ≠ b := fun e => hn ⟨i, rfl, e ▸ hb⟩
      exact setRow_other w b k _ this
    refine ⟨w.setRow b (splice cur.toList off xs).toArray, ?_, trivial, hstep.mono fun j hj => (by subst hj; simp [Eff.X, Eff.touched]), wf_step hw hstep, fun j h => .inl h, fun j ob' hj => ?_⟩
    · simp only [Instr.storeAt, Instr.sureAddr, storeVar, Sem.run_bind, Sem.run_pure, Result.andThen_ok, szOf_run hz, hxs]
      rw [if_neg (by simp; omega)]
      exact hrun
    · by_cases hji : j = i
      · subst hji
        simp [List.lookup] at hj
        subst hj
        exact hob _ hstep hset
      · have : (j == i) = false := by simpa using hji
        simp [List.lookup, this] at hj
  cases p with
  | ptr i off =>
    simp only at hok hv
    cases hgi : g i with
    | none => simp [hgi, T.ok] at hok
    | some ob =>
      cases ob with
      | row _ _ _ _ => simp [hgi, T.ok] at hok
      | frz _ => simp [hgi, T.ok] at hok
      | mp _ _ _ => simp [hgi, T.ok] at hok
      | it _ _ _ => simp [hgi, T.ok] at hok
      | cells t' cs =>
        simp only [hgi] at hok hv
        cases hb : (off + n).ble cs.length with
        | false => rw [hb] at hok; simp [T.ok] at hok
        | true =>
          rw [hb] at hv
          simp only [cond_true, T.val, Option.some.injEq] at hv
          subst hv
          have e2 := Nat.le_of_ble_eq_true hb
          obtain ⟨b, hb', rfl⟩ := hp
          obtain ⟨vs, hb, hrow, hr⟩ := ob_cells (hg i _ hgi) hb'
          have hvl := relL_length hr
          refine write i b off vs.toArray t' hb hrow (by simp; omega) _ fun w' hstep hh => ⟨b, hb, hb', splice vs off xs, by simpa using hh, relL_splice off (relL_step hstep _ _ hr) (relL_step hstep _ _ hrx)⟩
  | rp i idx sz off =>
    simp only at hok hv
    cases hgi : g i with
    | none => simp [hgi, T.ok] at hok
    | some ob =>
      cases ob with
      | cells _ _ => simp [hgi, T.ok] at hok
      | frz _ => simp [hgi, T.ok] at hok
      | mp _ _ _ => simp [hgi, T.ok] at hok
      | it _ _ _ => simp [hgi, T.ok] at hok
      | row t' sz' m f =>
        cases hd : toDts us with
        | none => simp [hgi, hd, T.ok] at hok
        | some ds =>
        simp only [hgi, hd] at hok hv
        cases hb : (Nat.beq sz sz' && (off + n).ble sz) with
        | false => rw [hb] at hok; simp [T.ok] at hok
        | true =>
          rw [hb] at hok hv
          simp only [cond_true, T.val, T.ok, and_true, Option.some.injEq] at hok hv
          subst hv
          simp only [Bool.and_eq_true] at hb
          have e2 := Nat.eq_of_beq_eq_true hb.1
          have e3 := Nat.le_of_ble_eq_true hb.2
          subst e2
          obtain ⟨b, n', c', hb', rfl⟩ := hp
          obtain ⟨hn', hnc, cur, hb, hrow, hsz, hcells⟩ := ob_row (hg i _ hgi) hb'
          obtain ⟨hdl, hdg⟩ := toDts_rel hd hrx
          have hfit : idx * sz + sz ≤ cur.size := by
            rw [hsz]
            have : (idx + 1) * sz ≤ c' * sz := Nat.mul_le_mul_right sz (by omega)
            rw [Nat.add_mul, Nat.one_mul] at this
            exact this
          refine write i b (idx * sz + off) cur t' hb hrow (by omega) _ fun w' hstep hh => ⟨some ⟨b, 0, none⟩, c', by rw [hb', hn'], .inr ⟨b, hb, rfl, hnc, _, hh, ?_, fun k j hk hj => ?_⟩⟩
          · rw [← hsz]
            simp [splice]; omega
          · have hsg := splice_get cur.toList xs (idx * sz + off) (k * sz + j) (by simp; omega)
            simp only [List.getElem?_toArray]
            rw [hsg]
            have lin : ∀ a c : Nat, a < c → a * sz + sz ≤ c * sz := fun a c h => by
              have : (a + 1) * sz ≤ c * sz := Nat.mul_le_mul_right sz h
              rw [Nat.add_mul, Nat.one_mul] at this
              exact this
            by_cases hki : k = idx
            · subst hki
              by_cases hin : off ≤ j ∧ j < off + xs.length
              · rw [if_pos (by omega)]
                have hjd : ds[j - off]? = some (ds[j - off]'(by omega)) := List.getElem?_eq_getElem _
                obtain ⟨v', hv1, hv2⟩ := hdg _ _ hjd
                refine ⟨v', by rw [← hv1]; congr 1; omega, hv2.1, ?_⟩
                have hst := rel_step hstep _ _ hv2.2
                have e : setRow f k off ds k j = ds[j - off]'(by omega) := by
                  have a1 : off.ble j = true := by rw [Nat.ble_eq]; exact hin.1
                  have a2 : Nat.blt j (off + ds.length) = true := by rw [Nat.blt_eq]; omega
                  simp only [setRow, if_true, a1, a2, Bool.and_self, cond_true, List.getD_eq_getElem?_getD, hjd, Option.getD_some]
                rw [e]
                exact hst
              · rw [if_neg (by omega)]
                obtain ⟨u', hu1, hu2⟩ := hcells k j hk hj
                refine ⟨u', by simpa using hu1, hu2.1, ?_⟩
                have hst := rel_step hstep _ _ hu2.2
                have e : setRow f k off ds k j = f k j := by
                  have a1 : (off.ble j && Nat.blt j (off + ds.length)) = false := by
                    cases h1 : off.ble j with
                    | false => rfl
                    | true =>
                      cases h2 : Nat.blt j (off + ds.length) with
                      | false => rfl
                      | true => rw [Nat.blt_eq] at h2; have := Nat.le_of_ble_eq_true h1; omega
                  simp only [setRow, if_true, a1, cond_false]
                rw [e]
                exact hst
            · have hne : ¬ (idx * sz + off ≤ k * sz + j ∧ k * sz + j < idx * sz + off + xs.length) := by
                rcases Nat.lt_or_gt_of_ne hki with h | h
                · have := lin k idx h; omega
                · have := lin idx k h; omega
              rw [if_neg hne]
              obtain ⟨u', hu1, hu2⟩ := hcells k j hk hj
              refine ⟨u', by simpa using hu1, hu2.1, ?_⟩
              have e : setRow f idx off ds k j = f k j := by simp only [setRow, hki, if_false]
              rw [e]
              exact rel_step hstep _ _ hu2.2
  | _ => simp [T.ok] at hok

theorem fieldOf_some {P : Program} {s : TypeId} {f : Nat} {fl : Field} (h : fieldOf P s f = some fl) : ∃ fs, P.underlying s = some (.struct fs) ∧ fs[f]? = some fl := by
  unfold fieldOf at h
  split at h
  · exact ⟨_, ‹_›, h⟩
  · cases h

theorem fieldAddrSV_sound {P : Program} {C : Ctx} {w : World} (t : TypeId) (f : Nat) (p s : SV) (u : Value)
    (hp : rel C w p u) (hok : (fieldAddrSV P t f p).ok) (hv : (fieldAddrSV P t f p).val = some s) :
    ∃ v, (Instr.fieldAt t u f).run P w = .ok v w ∧ rel C w s v := by
  unfold fieldAddrSV at hok hv
  cases hf : fieldOf P t f with
  | none => simp [hf, T.ok] at hok
  | some fl =>
  simp only [hf] at hok hv
  obtain ⟨fs, hu, hfs⟩ := fieldOf_some hf
  cases hz : szOf P fl.type with
  | none => simp [hz, T.ok] at hok
  | some n =>
  cases n with
  | zero => simp [hz, T.ok] at hok
  | succ n =>
  simp only [hz] at hok hv
  have hrun : ∀ a : Addr, a.spot = none → (Instr.fieldAt t (.pointer (some a)) f).run P w = .ok (.pointer (some (a.add fl.offset))) w := by
    intro a _
    simp [Instr.fieldAt, underlying, hu, hfs, Instr.sureAddr, fieldPlace, szOf_run hz]
  cases p with
  | ptr i off =>
    simp only [T.val, Option.some.injEq] at hv
    subst hv
    obtain ⟨b, hb, rfl⟩ := hp
    exact ⟨_, hrun _ rfl, b, hb, by rw [add_none]⟩
  | rp i idx sz off =>
    simp only [T.val, Option.some.injEq] at hv
    subst hv
    obtain ⟨b, n', c', hb, rfl⟩ := hp
    exact ⟨_, hrun _ rfl, b, n', c', hb, by rw [add_none, Nat.add_assoc]⟩
  | el m g =>
    simp only at hok hv
    cases hc : fl.offset.ble m with
    | false => simp [hc, T.ok] at hok
    | true =>
      simp only [hc, cond_true, T.val, Option.some.injEq] at hv
      subst hv
      have hle := Nat.le_of_ble_eq_true hc
      obtain ⟨b, off, rfl, hP⟩ := hp
      refine ⟨_, hrun _ rfl, b, off + fl.offset, by rw [add_none], hP.mono fun w' hw' j hj => ?_⟩
      obtain ⟨u, h1, h2⟩ := hw' (j + fl.offset) (by omega)
      refine ⟨u, ?_, h2⟩
      rw [← h1]; congr 2; omega
  | _ => simp [T.ok] at hok

theorem indexAddrSV_sound {P : Program} {C : Ctx} {w : World} {g : Nat → Option Ob} (hg : ObsOk C w g) (t : TypeId) (x ix s : SV) (u v : Value)
    (hx : rel C w x u) (hi : rel C w ix v) (hok : (indexAddrSV P g t x ix).ok) (hv : (indexAddrSV P g t x ix).val = some s) :
    ∃ y, (Instr.indexAt t u v).run P w = .ok y w ∧ rel C w s y := by
  unfold indexAddrSV at hok hv
  split at hok
  · rename_i e i k iv hu
    simp only [hu] at hv
    cases hz : szOf P e with
    | none => simp [hz, T.ok] at hok
    | some z =>
    cases hgi : g i with
    | none => simp [hz, hgi, T.ok] at hok
    | some ob =>
    cases ob with
    | cells _ _ => simp [hz, hgi, T.ok] at hok
    | frz _ => simp [hz, hgi, T.ok] at hok
    | mp _ _ _ => simp [hz, hgi, T.ok] at hok
    | it _ _ _ => simp [hz, hgi, T.ok] at hok
    | row t' sz n f =>
      simp only [hz, hgi] at hok hv
      cases hb : Nat.beq z sz with
      | false => simp [hb, T.ok] at hok
      | true =>
        have := Nat.eq_of_beq_eq_true hb
        subst this
        simp only [hb, cond_true, T.val, T.ok, Option.some.injEq, and_true] at hv hok
        subst hv
        obtain ⟨h0, h1⟩ := hok
        rw [rel_cell] at hi
        subst hi
        have hh := hg i _ hgi
        obtain ⟨A, c, h2, h3⟩ := hh
        have hu' : C.ν i = some u := hx.1
        rw [h2] at hu'
        injection hu' with hu'
        subst hu'
        rcases h3 with ⟨_, h3, _⟩ | ⟨b, _, rfl, _, _⟩
        · omega
        · refine ⟨.pointer (some ⟨b, iv.toNat * z, none⟩), ?_, b, n, c, h2, rfl⟩
          simp only [Instr.indexAt, asIntOf, underlying, Sem.run_bind, Sem.run_pure, run_program, Result.andThen_ok, hu]
          rw [if_pos ⟨h0, h1⟩]
          simp only [Sem.run_bind, Sem.run_pure, Result.andThen_ok, szOf_run hz, add_none, Nat.zero_add]
  · rename_i e sz n f k i hu
    simp only [hu] at hv
    cases hz : szOf P e with
    | none => simp [hz, T.ok] at hok
    | some z =>
      simp only [hz] at hok hv
      cases hb : Nat.beq z sz with
      | false => simp [hb, T.ok] at hok
      | true =>
        have := Nat.eq_of_beq_eq_true hb
        subst this
        simp only [hb, cond_true, T.val, T.ok, Option.some.injEq, and_true] at hv hok
        subst hv
        obtain ⟨h0, h1⟩ := hok
        rw [rel_cell] at hi
        subst hi
        obtain ⟨A, c, rfl, hnc, hcells⟩ := hx.here
        have hn : 0 < n := by omega
        obtain ⟨b, off, rfl, _⟩ := hcells hn
        refine ⟨.pointer (some ⟨b, off + i.toNat * z, none⟩), ?_, b, off + i.toNat * z, rfl, hx.mono fun w' hw' j hj => ?_⟩
        · simp only [Instr.indexAt, asIntOf, underlying, Sem.run_bind, Sem.run_pure, run_program, Result.andThen_ok, hu]
          rw [if_pos ⟨h0, h1⟩]
          simp only [Sem.run_bind, Sem.run_pure, Result.andThen_ok, szOf_run hz, add_none]
        · obtain ⟨A', c', e', _, hcells'⟩ := hw'
          injection e' with e1 e2 e3
          subst e1
          obtain ⟨b', off', e4, hh⟩ := hcells' hn
          injection e4 with e4
          injection e4 with e5 e6
          subst e5; subst e6
          obtain ⟨u, q1, q2⟩ := hh i.toNat (by omega) j hj
          exact ⟨u, q1, q2.2⟩
  · simp [T.ok] at hok

theorem unSV_sound {P : Program} {C : Ctx} {w : World} (op : UnOp) (x s : SV) (u : Value)
    (hx : rel C w x u) (hok : (unSV op x).ok) (hv : (unSV op x).val = some s) : ∃ y, (Op.unary op u).run P w = .ok y w ∧ rel C w s y := by
  unfold unSV at hok hv
  split at hok
  · rw [rel_cell] at hx; subst hx
    simp only [T.val, T.ok, and_true, Option.some.injEq] at hok hv
    subst hv
    exact ⟨_, by simp only [Op.unary, Op.intArith, Sem.run_pure]; rfl, rel_cell.2 (by rw [wrap_in _ _ hok])⟩
  · rw [rel_cell] at hx; subst hx
    simp only [T.val, Option.some.injEq] at hv
    subst hv
    exact ⟨_, by simp only [Op.unary, Sem.run_pure], rel_cell.2 rfl⟩
  · rename_i b
    have hx : u = .bool b := hx
    subst hx
    simp only [T.val, Option.some.injEq] at hv
    subst hv
    exact ⟨.bool (!b), by simp only [Op.unary, Sem.run_pure], rfl⟩
  · simp [T.ok] at hok

theorem extractSV_sound {P : Program} {C : Ctx} {w : World} (x s : SV) (u : Value) (i : Nat)
    (hx : rel C w x u) (hok : (extractSV x i).ok) (hv : (extractSV x i).val = some s) : ∃ y, (Instr.extract u i).run P w = .ok y w ∧ rel C w s y := by
  cases x with
  | tup l =>
    unfold extractSV at hok hv
    simp only at hok hv
    cases hl : l[i]? with
    | none => simp [hl, T.ok] at hok
    | some s' =>
      simp only [hl, T.val, Option.some.injEq] at hv
      subst hv
      obtain ⟨vs, rfl, hr⟩ := hx
      obtain ⟨v, h1, h2⟩ := relL_get i s' hr hl
      exact ⟨v, by simp [Instr.extract, h1], h2⟩
  | _ => simp [extractSV, T.ok] at hok

theorem partSV_sound {P : Program} {C : Ctx} {w : World} (t : TypeId) (l : List SV) (vs : List Value) (off : Nat) (s : SV)
    (hx : relL C w l vs) (hok : (partSV P t l off).ok) (hv : (partSV P t l off).val = some s) : ∃ y, (part t vs.toArray off).run P w = .ok y w ∧ rel C w s y := by
  unfold partSV at hok hv
  cases ha : aggT P t with
  | none => simp [ha, T.ok] at hok
  | some ag =>
  cases hz : szOf P t with
  | none => cases ag <;> simp [ha, hz, T.ok] at hok
  | some n =>
  cases ag with
  | true =>
    simp only [ha, hz, T.val, Option.some.injEq] at hv
    subst hv
    refine ⟨.agg ((vs.drop off).take n).toArray, ?_, _, rfl, relL_take _ (relL_drop _ hx)⟩
    simp only [part, Sem.run_bind, Sem.run_pure, Result.andThen_ok, aggT_run ha, szOf_run hz, if_true]
    congr 2
    apply Array.ext'
    rw [Array.toList_extract]
    simp [List.extract]
  | false =>
    simp only [ha, hz] at hok hv
    cases hl : l[off]? with
    | none => simp [hl, T.ok] at hok
    | some s' =>
      simp only [hl, T.val, Option.some.injEq] at hv
      subst hv
      obtain ⟨v, h1, h2⟩ := relL_get off s' hx hl
      exact ⟨v, by simp [part, aggT_run ha, h1], h2⟩

theorem fieldSV_sound {P : Program} {C : Ctx} {w : World} (t : TypeId) (x s : SV) (u : Value) (f : Nat)
    (hx : rel C w x u) (hok : (fieldSV P t x f).ok) (hv : (fieldSV P t x f).val = some s) : ∃ y, (Instr.field t u f).run P w = .ok y w ∧ rel C w s y := by
  unfold fieldSV at hok hv
  cases hf : fieldOf P t f with
  | none => simp [hf, T.ok] at hok
  | some fl =>
  obtain ⟨fs, hu, hfs⟩ := fieldOf_some hf
  cases x with
  | agg l =>
    simp only [hf] at hok hv
    obtain ⟨vs, rfl, hr⟩ := hx
    obtain ⟨y, h1, h2⟩ := partSV_sound fl.type l vs fl.offset s hr hok hv
    exact ⟨y, by simp [Instr.field, underlying, hu, hfs, asAgg, h1], h2⟩
  | _ => simp [hf, T.ok] at hok

theorem lenSV_sound {P : Program} {C : Ctx} {w : World} {g : Nat → Option Ob} (hg : ObsOk C w g) (x s : SV) (u : Value) (t ty : TypeId)
    (hx : rel C w x u) (hok : (lenSV P g t x).ok) (hv : (lenSV P g t x).val = some s) : ∃ y, (Builtin.len_ #[t] ty #[u]).run P w = .ok y w ∧ rel C w s y := by
  unfold lenSV at hok hv
  split at hok
  · rename_i e i hu
    simp only [hu] at hv
    cases hgi : g i with
    | none => simp [hgi, T.ok] at hok
    | some ob =>
    cases ob with
    | cells _ _ => simp [hgi, T.ok] at hok
    | frz _ => simp [hgi, T.ok] at hok
    | mp _ _ _ => simp [hgi, T.ok] at hok
    | it _ _ _ => simp [hgi, T.ok] at hok
    | row t' sz n f =>
      simp only [hgi, T.val, Option.some.injEq] at hv
      subst hv
      obtain ⟨A, c, h2, _⟩ := hg i _ hgi
      have hu' : C.ν i = some u := hx.1
      rw [h2] at hu'
      injection hu' with hu'
      subst hu'
      exact ⟨_, by simp [Builtin.len_, underlying, hu]; rfl, rel_cell.2 rfl⟩
  · rename_i e A n c hu
    rw [rel_cell] at hx
    subst hx
    simp only [hu, T.val, Option.some.injEq] at hv
    subst hv
    exact ⟨_, by simp [Builtin.len_, underlying, hu]; rfl, rel_cell.2 rfl⟩
  · rename_i e sz n f hu
    obtain ⟨A, c, rfl, _⟩ := hx.here
    simp only [hu, T.val, Option.some.injEq] at hv
    subst hv
    exact ⟨_, by simp [Builtin.len_, underlying, hu]; rfl, rel_cell.2 rfl⟩
  · rename_i str hu
    rw [rel_cell] at hx
    subst hx
    simp only [hu, T.val, Option.some.injEq] at hv
    subst hv
    exact ⟨_, by simp [Builtin.len_, underlying, hu]; rfl, rel_cell.2 rfl⟩
  · simp [T.ok] at hok
end Rx
