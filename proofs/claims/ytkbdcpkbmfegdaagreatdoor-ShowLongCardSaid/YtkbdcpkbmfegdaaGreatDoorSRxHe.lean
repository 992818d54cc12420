/- Rx, part He: one operation, whole. -/
import Derived.Test.YtkbdcpkbmfegdaaGreatDoorSRxHm
set_option linter.unusedSectionVars false
set_option linter.unusedSimpArgs false
set_option linter.unusedVariables false
namespace Rx
open Go
variable [Glob]
def xI (P : Program) (new : Nat) (t : TypeId) : T Res :=
 match P.underlying t with
 | some (.slice e) => match bg P e with
   | some sz => .ret ⟨.nm new, ⟨[(new, some (.row e sz 0 fun _ _ => aR))], [new]⟩⟩
   | none => .fail
 | _ => .fail
theorem Im {P : Program} {C : Ctx} {w : World} (hw : WF C w) {new : Nat} (hnew : C.ν new = none) (t : TypeId) {r : Res} (hval : (xI P new t).val = some r) :
  ∃ v w' C', (Instr.buildSlice t 0 #[]).run P w = .ok v w' /\ Came C w r C' w' v := by
 unfold xI at hval
 split at hval
 · rename_i e ht
   split at hval
   · rename_i sz hz
     simp only [T.val, Option.some.injEq] at hval
     subst hval
     have hr : (Instr.buildSlice t 0 #[]).run P w = .ok (.slice (some ⟨w.heap.size, 0, none⟩) 0 0) (w.alloc (.cells #[] e)) := by
        simp [Instr.buildSlice, underlying, ht, aL hz, Instr.fill, newRow, Result.andThen]
        congr 2
        apply Array.ext'
        simp
     exact ⟨_, _, _, hr, Came.move (old := none) (b := some w.heap.size) hw hnew (fun c hc => by injection hc with hc; subst hc; exact ⟨by simp, .inl (Nat.le_refl _)⟩)
      ⟨rfl, rfl, rfl, by simp, fun k hk _ => heap_alloc_old w _ hk⟩ ⟨_, 0, upd_same _ _ _, .inr ⟨w.heap.size, iC, rfl, Nat.le_refl _, #[], heap_alloc_new w _, by simp, fun k j hk _ => by omega⟩⟩⟩
   · cases hval
 · cases hval
def xu (s : SV) : T Res := .ret ⟨s, .none⟩
def SB (P : Program) (t : TypeId) (x : SV) : Option Bool :=
 match P.underlying t, x with
 | some (.interface _), .dt .ifc => some false
 | some (.interface _), .dt (.cell .nilIface) => some true
 | _, _ => none
def aah (P : Program) (t : TypeId) (x : SV) : Option Bool :=
 match P.underlying t, x with
 | some (.pointer _), .ptr _ _ => some false
 | some (.pointer _), .dt (.cell (.pointer none)) => some true
 | _, _ => none
theorem mX {P : Program} {C : Ctx} {w : World} {t : TypeId} {s : SV} {v : Value} {b : Bool} (hr : rel C w s v) (h : SB P t s = some b) (op : BinOp) (ho : op = .eql ∨ op = .neq) (x : Operand) (k : Value) :
  (do eqGuard op t x (.const k) v .nilIface; binOp op t v .nilIface : Sem Value).run P w = .ok (.bool (if op = .eql then b else !b)) w := by
 unfold SB at h
 split at h
 · rename_i ms hu
   simp only [Option.some.injEq] at h
   subst h
   obtain ⟨T, y, rfl⟩ := hr.here
   have he : ∀ d, (Op.equalIn (d + 1) t (.iface T y) .nilIface).run P w = .ok false w := fun d => by simp [Op.equalIn, underlying, hu]
   have he := he 9999
   rcases ho with rfl | rfl
   · have hb : binOp .eql t (.iface T y) .nilIface = (do pure (.bool (← Op.equal t (.iface T y) .nilIface))) := rfl
     have hg : (eqGuard .eql t x (.const k) (.iface T y) .nilIface).run P w = .ok () w := rfl
     simp only [Sem.run_bind, hg, Result.andThen_ok, hb, Op.equal, Op.maxDepth, he, Sem.run_pure, if_true]
   · have hb : binOp .neq t (.iface T y) .nilIface = (do pure (.bool (!(← Op.equal t (.iface T y) .nilIface)))) := rfl
     have hg : (eqGuard .neq t x (.const k) (.iface T y) .nilIface).run P w = .ok () w := rfl
     simp [Sem.run_bind, hg, Result.andThen_ok, hb, Op.equal, Op.maxDepth, he, Sem.run_pure]
 · rename_i ms hu
   simp only [Option.some.injEq] at h
   subst h
   rw [aj] at hr
   subst hr
   have he : ∀ d, (Op.equalIn (d + 1) t .nilIface .nilIface).run P w = .ok true w := fun d => by simp [Op.equalIn, underlying, hu]
   have he := he 9999
   rcases ho with rfl | rfl
   · have hb : binOp .eql t .nilIface .nilIface = (do pure (.bool (← Op.equal t .nilIface .nilIface))) := rfl
     have hg : (eqGuard .eql t x (.const k) .nilIface .nilIface).run P w = .ok () w := by cases x <;> rfl
     simp only [Sem.run_bind, hg, Result.andThen_ok, hb, Op.equal, Op.maxDepth, he, Sem.run_pure, if_true]
   · have hb : binOp .neq t .nilIface .nilIface = (do pure (.bool (!(← Op.equal t .nilIface .nilIface)))) := rfl
     have hg : (eqGuard .neq t x (.const k) .nilIface .nilIface).run P w = .ok () w := by cases x <;> rfl
     simp [Sem.run_bind, hg, Result.andThen_ok, hb, Op.equal, Op.maxDepth, he, Sem.run_pure]
 · cases h
theorem zL {P : Program} {C : Ctx} {w : World} {t : TypeId} {s : SV} {v : Value} {b : Bool} (hr : rel C w s v) (h : aah P t s = some b) (op : BinOp) (ho : op = .eql ∨ op = .neq) (x : Operand) (k : Value) :
  (do eqGuard op t x (.const k) v (.pointer none); binOp op t v (.pointer none) : Sem Value).run P w = .ok (.bool (if op = .eql then b else !b)) w := by
 have key : ∀ A : Option Addr, b = A.isNone -> v = .pointer A -> (∃ e, P.underlying t = some (.pointer e)) -> (do eqGuard op t x (.const k) v (.pointer none); binOp op t v (.pointer none) : Sem Value).run P w = .ok (.bool (if op = .eql then b else !b)) w := by
  rintro A rfl rfl ⟨e, hu⟩
  have he : ∀ d, (Op.equalIn (d + 1) t (.pointer A) (.pointer none)).run P w = .ok A.isNone w := fun d => by cases A <;> simp [Op.equalIn, underlying, hu]
  have he := he 9999
  rcases ho with rfl | rfl
  · have hb : binOp .eql t (.pointer A) (.pointer none) = (do pure (.bool (← Op.equal t (.pointer A) (.pointer none)))) := by cases A <;> rfl
    have hg : (eqGuard .eql t x (.const k) (.pointer A) (.pointer none)).run P w = .ok () w := rfl
    simp only [Sem.run_bind, hg, Result.andThen_ok, hb, Op.equal, Op.maxDepth, he, Sem.run_pure, if_true]
  · have hb : binOp .neq t (.pointer A) (.pointer none) = (do pure (.bool (!(← Op.equal t (.pointer A) (.pointer none))))) := by cases A <;> rfl
    have hg : (eqGuard .neq t x (.const k) (.pointer A) (.pointer none)).run P w = .ok () w := rfl
    simp [Sem.run_bind, hg, Result.andThen_ok, hb, Op.equal, Op.maxDepth, he, Sem.run_pure]
 unfold aah at h
 split at h
 · rename_i e hu
   simp only [Option.some.injEq] at h
   obtain ⟨b', _, rfl⟩ := hr
   exact key (some ⟨b', _, none⟩) h.symm rfl ⟨_, hu⟩
 · rename_i e hu
   simp only [Option.some.injEq] at h
   rw [aj] at hr
   exact key none h.symm hr ⟨_, hu⟩
 · cases h
def Fe (P : Program) (t : TypeId) (x h m : SV) : T Res :=
 match P.underlying t, x, h, m with
 | some (.slice e), .dt (.arr sz n f), .dt (.cell (.int _ h)), .dt (.cell (.int _ m)) => match bg P e with
   | some z => bif Nat.beq z sz then .need (0 <= h /\ h <= m /\ m <= n) (xu (.dt (.arr sz h.toNat f))) else .fail
   | none => .fail
 | _, _, _, _ => .fail
theorem Kg {P : Program} {C : Ctx} {w : World} {t : TypeId} {x h m : SV} {u vh vm : Value} {r : Res} (hw : WF C w) (hx : rel C w x u) (hh : rel C w h vh) (hm : rel C w m vm)
  (hok : (Fe P t x h m).ok) (hv : (Fe P t x h m).val = some r) : ∃ y, (Instr.sliceAt t u none (some vh) (some vm)).run P w = .ok y w /\ Came C w r C w y := by
 unfold Fe at hok hv
 split at hok
 · rename_i e sz n f k1 h1 k2 m1 hu
   simp only [hu] at hv
   cases hz : bg P e with
   | none => simp [hz, T.ok] at hok
   | some z =>
     simp only [hz] at hok hv
     cases hb : Nat.beq z sz with
     | false => simp [hb, T.ok] at hok
     | true =>
       have := Nat.eq_of_beq_eq_true hb
       subst this
       simp only [hb, cond_true, xu, T.val, T.ok, and_true, Option.some.injEq] at hv hok
       subst hv
       rw [aj] at hh hm
       subst hh; subst hm
       obtain ⟨A, c, rfl, hnc, hcells⟩ := hx.here
       have b1 := aG (P := P) (w := w) k2 m1 c .slice3Acap ⟨by omega, by omega⟩
       have b2 := aG (P := P) (w := w) k1 h1 m1.toNat .slice3B ⟨by omega, by omega⟩
       refine ⟨.slice A h1.toNat m1.toNat, ?_, Came.pure hw (hx.mono fun w' hw' => ?_)⟩
       · simp only [Instr.sliceAt, Instr.slice, Instr.sliceBounds, underlying, Sem.run_bind, Sem.run_pure, run_program, Result.andThen_ok, hu, b1, b2, if_true, aL hz, Nat.sub_zero, Nat.zero_mul]
         have : ∀ A : Option Addr, (if m1.toNat = 0 then A else A.map (·.add 0)) = A := fun A => by
          split
          · rfl
          · cases A with
            | none => rfl
            | some a =>
              have h0 : a.add 0 = a := by
               first | rfl | (unfold Addr.add; split <;> simp_all)
              simp only [Option.map_some, h0]
         rw [this]
       · obtain ⟨A', c', e1, h2, h3⟩ := hw'
         injection e1 with e1 e2 e3
         subst e1
         refine ⟨_, _, rfl, by omega, fun hpos => ?_⟩
         obtain ⟨b, off, hA, hc⟩ := h3 (by omega)
         exact ⟨b, off, hA, fun i hi j hj => hc i (by omega) j hj⟩
 · exact hok.elim
def Ov (x y : SV) : T Res :=
 match x, y with
 | .dt (.cell (.int k a)), .dt (.cell (.int k' b)) => if k = k' then xu (vI k (if b > a then b else a)) else .fail
 | _, _ => .fail
theorem P8 {P : Program} {C : Ctx} {w : World} {x y : SV} {u v : Value} {r : Res} (ts : Array TypeId) (t : TypeId) (hw : WF C w) (hx : rel C w x u) (hy : rel C w y v)
  (hok : (Ov x y).ok) (hv : (Ov x y).val = some r) : ∃ z, (Builtin.max_ ts t #[u, v]).run P w = .ok z w /\ Came C w r C w z := by
 unfold Ov at hok hv
 split at hok
 · rename_i k a k' b
   by_cases hk : k = k'
   · subst hk
     simp only [if_true, xu, T.val, Option.some.injEq] at hv
     subst hv
     rw [aj] at hx hy
     subst hx; subst hy
     exact ⟨_, by simp [Builtin.max_, Builtin.max2], Came.pure hw (aj.2 rfl)⟩
   · simp [hk, T.ok] at hok
 · exact hok.elim
def sxE (P : Program) (rw : Operand -> SV) (g : Nat -> Option Ob) (new : Nat) (o : Oper) : T Res :=
 let ev := fun x => nrm (rw x)
 match o.op with
 | .nilCheck x => match rw x with
   | .ptr i f => .ret ⟨.ptr i f, .none⟩
   | .el m h => .ret ⟨.el m h, .none⟩
   | .rp i x z f => .ret ⟨.rp i x z f, .none⟩
   | .dt (.cell (.pointer (some a))) => .ret ⟨.dt (.cell (.pointer (some a))), .none⟩
   | _ => .fail
 | .call { callee := .builtin .append, args := ⟨[s, x]⟩, argTypes := ⟨[t, tx]⟩ } => bif Nat.beq tx t then jd P g new t (rw s) (rw x) else match P.underlying tx with
   | some .string => dQ P g new t tx (rw s) (ev x)
   | _ => qO P new t tx (rw s) (rw x)
 | .call { callee := .builtin .cap, args := ⟨[x]⟩, argTypes := ⟨[t]⟩ } => match P.underlying t, rw x with
   | some (.slice _), .dt (.cell (.slice _ _ c)) => .ret ⟨vI .i64 c, .none⟩
   | _, _ => .fail
 | .slice t x low (some high) none => match rw x with
   | .nm i => je P g new t i (low.map ev) (ev high)
   | .dt (.cell (.slice none 0 0)) => match (P.underlying t).bind (fun d => match d with
        | .slice e => bg P e
        | _ => none), ev high with
     | some _, .dt (.cell (.int _ h)) => bif nL (low.map ev) then .need (h = 0) (.ret ⟨.dt (.cell (.slice none 0 0)), .none⟩) else .fail
     | _, _ => .fail
   | _ => iT P rw g new o
 | .slice t x none (some high) (some most) => Fe P t (EW P t (ev x)) (ev high) (ev most)
 | .call { callee := .builtin .max, args := ⟨[x, y]⟩, argTypes := ats } => Ov (ev x) (ev y)
 | .binOp op t x (.const .nilIface) _ => match op, SB P t (ev x) with
   | .eql, some b => xu (.kb b)
   | .neq, some b => xu (.kb (!b))
   | _, _ => .fail
 | .binOp op t x (.const (.pointer none)) _ => match op, aah P t (ev x) with
   | .eql, some b => xu (.kb b)
   | .neq, some b => xu (.kb (!b))
   | _, _ => .fail
 | .makeMap t none => pz P new t
 | .lookup t x i ok => (gu P g t (rw x) (ev i) ok).bind fun s => .ret ⟨s, .none⟩
 | .mapUpdate t m k y => ji P g t (rw m) (ev k) (ev y)
 | .insert t m k y => ji P g t (rw m) (ev k) (ev y)
 | .range t x => lC P g new t (rw x)
 | .buildSlice t 0 ⟨[]⟩ => xI P new t
 | .buildSlice .. => match o.op.operands.toList.flatMap (fun x => cB g [] (rw x)) with
   | [] => iT P rw g new o
   | i :: l => (iT P (fun x => oK g (i :: l) (rw x)) (Ku g (i :: l)) new o).bind fun r => .ret ⟨r.sv, ⟨r.eff.us ++ jZ g (i :: l), r.eff.new⟩⟩
 | _ => iT P rw g new o
theorem jP {α β : Type} (t : T α) (f : α -> β) : (t.bind fun s => .ret (f s)).ok = t.ok /\ (t.bind fun s => .ret (f s)).val = t.val.map f := nZ t f
theorem qK {P : Program} {C : Ctx} {w : World} {g : Nat -> Option Ob} {rw : Operand -> SV} {a : Act} {new : Nat} {o : Oper} {r : Res}
  (hw : WF C w) (hg : ObsOk C w g) (hnew : ∀ i, i ∈ r.eff.new -> C.ν i = none) (hrw : ∀ x ∈ o.op.operands, rel C w (rw x) (a.eval x))
  (hok : (sxE P rw g new o).ok) (hval : (sxE P rw g new o).val = some r) : Did P a o C w r := by
 unfold sxE at hok hval
 simp only at hok hval
 split at hok
 · rename_i x ho
   simp only [ho] at hval
   have hx := hrw x (by rw [ho]; simp [Op.operands])
   have fin : ∀ s, rw x = s -> r = ⟨s, .none⟩ -> (∃ ad, a.eval x = .pointer (some ad)) -> Did P a o C w r := by
    rintro s hs rfl ⟨ad, had⟩
    refine ⟨a.eval x, w, C, .inl ?_, Came.pure hw (hs ▸ hx)⟩
    simp only [execOp, ho, had, Sem.run_pure]
   split at hok
   all_goals first | (exact hok.elim; done) | skip
   · rename_i i f hs
     simp only [hs, T.val, Option.some.injEq] at hval
     rw [hs] at hx
     obtain ⟨b, _, h2⟩ := hx
     exact fin _ hs hval.symm ⟨_, h2⟩
   · rename_i m h hs
     simp only [hs, T.val, Option.some.injEq] at hval
     rw [hs] at hx
     obtain ⟨b, off, h2, _⟩ := hx
     exact fin _ hs hval.symm ⟨_, h2⟩
   · rename_i i y z f hs
     simp only [hs, T.val, Option.some.injEq] at hval
     rw [hs] at hx
     obtain ⟨b, n, c, _, h2⟩ := hx
     exact fin _ hs hval.symm ⟨_, h2⟩
   · rename_i ad hs
     simp only [hs, T.val, Option.some.injEq] at hval
     rw [hs, aj] at hx
     exact fin _ hs hval.symm ⟨_, hx⟩
 · rename_i s x t tx ho
   simp only [ho] at hval
   have hs := hrw s (by rw [ho]; simp [Op.operands, Call.operands])
   have hx := hrw x (by rw [ho]; simp [Op.operands, Call.operands])
   have fin : (∃ v' w' C', (Builtin.append_ #[t, tx] o.type #[a.eval s, a.eval x]).run P w = .ok v' w' /\ Came C w r C' w' v') -> Did P a o C w r := by
    rintro ⟨v', w', C', hr, hc⟩
    refine ⟨v', w', C', .inl ?_, hc⟩
    simp only [execOp, ho, resolve, Sem.run_bind, Sem.run_pure, Result.andThen_ok, invoke, builtin]
    simp [hr]
   cases hb : Nat.beq tx t with
   | true =>
     rw [hb] at hok hval
     have := Nat.eq_of_beq_eq_true hb
     subst this
     have hn : C.ν new = none := by
        have hv := hval
        unfold jd at hv
        simp only [cond_true] at hv
        split at hv
        · split at hv
          · split at hv
            · simp only [T.val, Option.some.injEq] at hv
              subst hv
              exact hnew _ (by simp)
            · cases hv
          · cases hv
        · cases hv
     exact fin (yt hw hg hn _ _ _ _ _ _ hs hx hok hval)
   | false =>
     rw [hb] at hok hval
     simp only [cond_false] at hok hval
     split at hok
     · rename_i hu
       simp only [hu] at hval
       have hn : C.ν new = none := by
        have hv := hval
        unfold dQ at hv
        repeat' split at hv
        all_goals first
           | (cases hv; done)
           | skip
        rename_i b _ _
        cases hb2 : (Nat.beq _ 1 && Nat.beq _ 1) with
        | false => rw [hb2] at hv; cases hv
        | true =>
          rw [hb2] at hv
          simp only [cond_true, T.val, Option.some.injEq] at hv
          subst hv
          exact hnew _ (by simp)
       exact fin (wZ hw hg hn _ _ _ _ _ _ _ hs (aX hx) hok hval)
     · rename_i hu
       have hval : (qO P new t tx (rw s) (rw x)).val = some r := by
        rw [← hval]
        split
        · rename_i h; exact absurd h hu
        · rfl
       have hn : C.ν new = none := by
        have hv := hval
        unfold qO at hv
        split at hv
        · split at hv
          · simp only [T.val, Option.some.injEq] at hv
            subst hv
            exact hnew _ (by simp)
          · cases hv
        · cases hv
       exact fin (JX hw hn _ _ _ _ _ _ _ hs hx hok hval)
 · rename_i x t ho
   simp only [ho] at hval
   have hx := hrw x (by rw [ho]; simp [Op.operands, Call.operands])
   split at hok
   · rename_i e A n c ht hs
     simp only [ht, hs, T.val, Option.some.injEq] at hval
     subst hval
     rw [hs, aj] at hx
     refine ⟨_, w, C, .inl ?_, Came.pure hw (aj.2 rfl)⟩
     simp only [execOp, ho, resolve, Sem.run_bind, Sem.run_pure, Result.andThen_ok, invoke, builtin]
     simp [Builtin.cap_, run_underlying ht, hx, goInt]
   · exact hok.elim
 · rename_i t x low high ho
   simp only [ho] at hval
   have hx := hrw x (by rw [ho]; simp [Op.operands])
   have hlow : ∀ s', low.map (fun x => nrm (rw x)) = some s' -> ∃ v, low.map a.eval = some v /\ rel C w s' v := fun s' hs => by
    cases low with
    | none => cases hs
    | some l => simp only [Option.map_some, Option.some.injEq] at hs; subst hs; exact ⟨_, rfl, aX (hrw l (by rw [ho]; simp [Op.operands]))⟩
   have hlow0 : low.map (fun x => nrm (rw x)) = none -> low.map a.eval = none := fun hs => by cases low with | none => rfl | some l => cases hs
   have hhigh : rel C w (nrm (rw high)) (a.eval high) := aX (hrw high (by rw [ho]; cases low <;> simp [Op.operands]))
   split at hok
   · rename_i i hs
     simp only [hs] at hval
     rw [hs] at hx
     have hn : C.ν new = none := by
      have hv := hval
      unfold je at hv
      split at hv
      · split at hv
        · rename_i z t' sz n f k h _ _ _
          cases hb : (Nat.beq z sz && nL (low.map fun x => nrm (rw x))) with
          | false => rw [hb] at hv; cases hv
          | true =>
            rw [hb] at hv
            simp only [cond_true, T.val, Option.some.injEq] at hv
            subst hv
            exact hnew _ (by simp)
        · cases hv
      · cases hv
     obtain ⟨v', C', hr, hc⟩ := Fj hw hg hn t i _ _ _ _ _ hx hlow hlow0 hhigh hok hval
     refine ⟨v', w, C', .inl ?_, hc⟩
     simp only [execOp, ho, Option.map_some, Option.map_none, Sem.run_bind, hr, Result.andThen_ok, Sem.run_pure]
   · rename_i hs
     simp only [hs] at hval
     rw [hs, aj] at hx
     split at hok
     · rename_i z k h hz hh
       simp only [hz, hh] at hval
       cases hb : nL (low.map fun x => nrm (rw x)) with
       | false => rw [hb] at hok; exact hok.elim
       | true =>
         rw [hb] at hok hval
         simp only [cond_true, T.ok, T.val, and_true, Option.some.injEq] at hok hval
         subst hval; subst hok
         rw [hh, aj] at hhigh
         have : ∃ e, P.underlying t = some (.slice e) /\ bg P e = some z := by
          obtain ⟨d, h1, h2⟩ := Option.bind_eq_some_iff.1 hz
          split at h2
          · exact ⟨_, h1, h2⟩
          · cases h2
         obtain ⟨e, ht, hze⟩ := this
         have hr := wP (P := P) (w := w) (A := none) (n := 0) (c := 0) ht hze k (Int.le_refl 0) (Int.le_refl 0) (wY (P := P) hb hlow hlow0)
         refine ⟨_, w, C, .inl ?_, Came.pure hw (aj.2 rfl)⟩
         simp only [execOp, ho, hx, hhigh, Option.map_some, Option.map_none, Sem.run_bind, hr, Result.andThen_ok, Sem.run_pure]
         rfl
     · exact hok.elim
   · rename_i h1 h2
     have hval : (iT P rw g new o).val = some r := by
      revert hval
      split
      · rename_i i hs; exact absurd hs (h1 i)
      · rename_i hs; exact absurd hs h2
      · exact id
     exact nG hw hg hnew hrw hok hval
 · rename_i t x high most ho
   simp only [ho] at hval
   have hx := hrw x (by rw [ho]; simp [Op.operands])
   have hhigh := hrw high (by rw [ho]; simp [Op.operands])
   have hmost := hrw most (by rw [ho]; simp [Op.operands])
   obtain ⟨y, h1, h2⟩ := Kg (P := P) hw (yu (aX hx)) (aX hhigh) (aX hmost) hok hval
   exact ⟨y, w, C, .inl (by simp only [execOp, ho, Option.map_some, Option.map_none, Sem.run_bind, h1, Result.andThen_ok, Sem.run_pure]), h2⟩
 · rename_i x y ats ho
   simp only [ho] at hval
   have hx := hrw x (by rw [ho]; simp [Op.operands, Call.operands])
   have hy := hrw y (by rw [ho]; simp [Op.operands, Call.operands])
   obtain ⟨z, h1, h2⟩ := P8 (P := P) ats o.type hw (aX hx) (aX hy) hok hval
   refine ⟨z, w, C, .inl ?_, h2⟩
   simp only [execOp, ho, resolve, Sem.run_bind, Sem.run_pure, Result.andThen_ok, invoke, builtin]
   simp [h1]
 · rename_i op t x ty ho
   simp only [ho] at hval
   have hx := hrw x (by rw [ho]; simp [Op.operands])
   have hc : a.eval (.const .nilIface) = .nilIface := rfl
   split at hok
   · rename_i b hb
     simp only [hb, xu, T.val, Option.some.injEq] at hval
     subst hval
     have := mX (P := P) (aX hx) hb .eql (.inl rfl) x .nilIface
     exact ⟨.bool b, w, C, .inl (by simp only [execOp, ho, hc]; rw [Sem.run_bind, this]; simp), Came.pure hw rfl⟩
   · rename_i b hb
     simp only [hb, xu, T.val, Option.some.injEq] at hval
     subst hval
     have := mX (P := P) (aX hx) hb .neq (.inr rfl) x .nilIface
     exact ⟨.bool (!b), w, C, .inl (by simp only [execOp, ho, hc]; rw [Sem.run_bind, this]; simp), Came.pure hw rfl⟩
   · exact hok.elim
 · rename_i op t x ty ho
   simp only [ho] at hval
   have hx := hrw x (by rw [ho]; simp [Op.operands])
   have hc : a.eval (.const (.pointer none)) = .pointer none := rfl
   split at hok
   · rename_i b hb
     simp only [hb, xu, T.val, Option.some.injEq] at hval
     subst hval
     have := zL (P := P) (aX hx) hb .eql (.inl rfl) x (.pointer none)
     exact ⟨.bool b, w, C, .inl (by simp only [execOp, ho, hc]; rw [Sem.run_bind, this]; simp), Came.pure hw rfl⟩
   · rename_i b hb
     simp only [hb, xu, T.val, Option.some.injEq] at hval
     subst hval
     have := zL (P := P) (aX hx) hb .neq (.inr rfl) x (.pointer none)
     exact ⟨.bool (!b), w, C, .inl (by simp only [execOp, ho, hc]; rw [Sem.run_bind, this]; simp), Came.pure hw rfl⟩
   · exact hok.elim
 · rename_i t ho
   simp only [ho] at hval
   have hn : C.ν new = none := by
    have hv := hval
    unfold pz at hv
    split at hv
    · split at hv
      · simp only [T.val, Option.some.injEq] at hv
        subst hv
        exact hnew _ (by simp)
      · cases hv
    · cases hv
   obtain ⟨v, w', C', hr, hc⟩ := Gf (P := P) hw hn t hval
   exact ⟨v, w', C', .inl (by simp only [execOp, ho, Option.map_none, Sem.run_bind, hr, Result.andThen_ok, Sem.run_pure]), hc⟩
 · rename_i t x i ok' ho
   simp only [ho] at hval
   have hx := hrw x (by rw [ho]; simp [Op.operands])
   have hi := hrw i (by rw [ho]; simp [Op.operands])
   refine Did.value hw hok hval fun s h1 h2 => ?_
   obtain ⟨y, hr, hc⟩ := pq (P := P) hg t _ _ ok' _ _ hx (aX hi) h1 h2
   exact ⟨y, by simp only [execOp, ho, Sem.run_bind, hr, Result.andThen_ok, Sem.run_pure], hc⟩
 · rename_i t m k y ho
   simp only [ho] at hval
   have hm := hrw m (by rw [ho]; simp [Op.operands])
   have hk := hrw k (by rw [ho]; simp [Op.operands])
   have hy := hrw y (by rw [ho]; simp [Op.operands])
   obtain ⟨w', C', hr, hc⟩ := tT (P := P) hw hg t _ _ _ _ _ _ hm (aX hk) (aX hy) hok hval
   exact ⟨undef, w', C', .inr ⟨by simp only [execOp, ho, Sem.run_bind, hr, Result.andThen_ok, Sem.run_pure], rfl⟩, hc⟩
 · rename_i t m k y ho
   simp only [ho] at hval
   have hm := hrw m (by rw [ho]; simp [Op.operands])
   have hk := hrw k (by rw [ho]; simp [Op.operands])
   have hy := hrw y (by rw [ho]; simp [Op.operands])
   obtain ⟨w', C', hr, hc⟩ := tT (P := P) hw hg t _ _ _ _ _ _ hm (aX hk) (aX hy) hok hval
   exact ⟨undef, w', C', .inr ⟨by simp only [execOp, ho, Sem.run_bind, hr, Result.andThen_ok, Sem.run_pure], rfl⟩, hc⟩
 · rename_i t x ho
   simp only [ho] at hval
   have hx := hrw x (by rw [ho]; simp [Op.operands])
   have hn : C.ν new = none := by
    have hv := hval
    unfold lC at hv
    split at hv
    · split at hv
      · simp only [T.val, Option.some.injEq] at hv
        subst hv
        exact hnew _ (by simp)
      · cases hv
    · cases hv
   obtain ⟨v, w', C', hr, hc⟩ := wJ (P := P) hw hg hn t _ _ hx hval
   exact ⟨v, w', C', .inl (by simp only [execOp, ho, Sem.run_bind, hr, Result.andThen_ok, Sem.run_pure]), hc⟩
 · rename_i t ho
   simp only [ho] at hval
   have hn : C.ν new = none := by
    have hv := hval
    unfold xI at hv
    split at hv
    · split at hv
      · simp only [T.val, Option.some.injEq] at hv
        subst hv
        exact hnew _ (by simp)
      · cases hv
    · cases hv
   obtain ⟨v, w', C', hr, hc⟩ := Im (P := P) hw hn t hval
   refine ⟨v, w', C', .inl ?_, hc⟩
   have : (Array.map (fun (x : Nat × Operand) => (x.1, a.eval x.2)) #[]) = #[] := by simp
   simp only [execOp, ho, this, Sem.run_bind, hr, Result.andThen_ok, Sem.run_pure]
 · rename_i t n ps hne ho
   simp only [ho] at hval
   split at hok
   · rename_i hL
     rw [ho] at hL
     simp only [hL] at hval
     exact nG hw hg hnew hrw hok hval
   · rename_i i l hL
     rw [ho] at hL
     simp only [hL] at hval
     rw [(jP _ _).1] at hok
     rw [(jP _ _).2] at hval
     cases hv : (iT P (fun x => oK g (i :: l) (rw x)) (Ku g (i :: l)) new o).val with
     | none => rw [hv] at hval; cases hval
     | some r0 =>
       rw [hv] at hval
       simp only [Option.map_some, Option.some.injEq] at hval
       subst hval
       obtain ⟨v, w', C', hr, hc⟩ := nG (r := r0) (sH hw (i :: l)) (FH hw hg (i :: l)) hnew (fun x hx => FI hw hg (i :: l) _ _ (hrw x hx)) hok hv
       exact ⟨v, w', C', hr, Came.frz hw hg hc⟩
 · rename_i h1 h2 h3 h4 h12 h13 h14 h15 h6 h7 h8 h9 h10 h11 h5
   have hval : (iT P rw g new o).val = some r := by
    revert hval
    split
    · rename_i ho; exact absurd ho (h1 _)
    · rename_i ho; exact absurd ho (h2 _ _ _ _)
    · rename_i ho; exact absurd ho (h3 _ _)
    · rename_i ho; exact absurd ho (h4 _ _ _ _)
    · rename_i ho; exact absurd ho (h12 _ _ _ _)
    · rename_i ho; exact absurd ho (h13 _ _ _)
    · rename_i ho; exact absurd ho (h14 _ _ _ _)
    · rename_i ho; exact absurd ho (h15 _ _ _ _)
    · rename_i ho; exact absurd ho (h6 _)
    · rename_i ho; exact absurd ho (h7 _ _ _ _)
    · rename_i ho; exact absurd ho (h8 _ _ _ _)
    · rename_i ho; exact absurd ho (h9 _ _ _ _)
    · rename_i ho; exact absurd ho (h10 _ _)
    · rename_i ho; exact absurd ho (h11 _)
    · rename_i ho; exact absurd ho (h5 _ _ _)
    · exact id
   exact nG hw hg hnew hrw hok hval
end Rx
set_option linter.unusedSectionVars false
set_option linter.unusedSimpArgs false
set_option linter.unusedVariables false
namespace Rx
open Go
variable [Glob]
structure St where
 sl : Tr SV
 ob : Tr (Option Ob)
 nob : Nat
def St.get (σ : St) (j : Nat) : SV := σ.sl.get .junk j
def St.obj (σ : St) (i : Nat) : Option Ob := σ.ob.get none i
def ofConst : Value -> SV
 | .agg cs => .agg (cs.toList.map mZ)
 | v => mZ v
theorem wL (C : Ctx) (w : World) (v : Value) : rel C w (ofConst v) v := by
 unfold ofConst
 split
 · exact ⟨_, rfl, ny C w _⟩
 · exact Bj C w _
def evS (σ : St) : Operand -> SV
 | .tmp t => thaw σ.obj (σ.get t)
 | .const v => ofConst v
 | .global g => .dt (.cell (.pointer (some ⟨g, 0, none⟩)))
 | .func f => .fn f []
def aam (σ : St) : Operand -> List Nat
 | .tmp t => dI (σ.get t)
 | _ => []
theorem Er (v : Value) : dI (mZ v) = [] := by unfold mZ; split <;> rfl
theorem AZ : ∀ l : List Value, gH (l.map mZ) = []
 | [] => rfl
 | v :: l => by simp only [List.map_cons, gH, Er, AZ l, List.append_nil]
theorem YC (σ : St) (x : Operand) : ∀ i ∈ dI (evS σ x), i ∈ aam σ x := by
 intro i h
 cases x with
 | tmp t => exact O6 _ i h
 | const v =>
   have h : i ∈ dI (ofConst v) := h
   unfold ofConst at h
   split at h
   · simp only [dI, AZ] at h; simp at h
   · rw [Er] at h; simp at h
 | global g => simp [evS, dI] at h
 | func f => simp [evS, dI, gH] at h
theorem mP (C : Ctx) (w : World) (σ : St) (a : Act) (x : Operand) (hg : ∀ i ∈ aam σ x, ∀ ob, σ.obj i = some ob -> obHolds C w i ob) (h : ∀ t, x = .tmp t -> rel C w (σ.get t) (a.tmps.getD t undef)) : rel C w (evS σ x) (a.eval x) := by
 cases x with
 | tmp t => exact qc _ _ hg (h t rfl)
 | const v => exact wL C w v
 | global g => exact aj.2 rfl
 | func f => exact ⟨[], rfl, rfl⟩
def CAP : Nat := 16
def bU (n : Nat) : Bool := Nat.blt n 65535
theorem oo {n : Nat} (h : bU n = true) : n < 2 ^ CAP - 1 := by
 have : n < 65535 := by simpa [bU, Nat.blt_eq] using h
 simpa [CAP] using this
def St.put (σ : St) (d : Option Tmp) (s : SV) : St :=
 match d with
 | some d => { σ with sl := σ.sl.set .junk CAP d s }
 | none => σ
def St.Bq (σ : St) (i : Nat) (ob : Option Ob) : St := { σ with ob := σ.ob.set none CAP i ob }
def St.eff (σ : St) (e : Eff) : St :=
 let σ' := e.us.foldr (fun x σ => σ.Bq x.1 x.2) σ
 match e.new with
 | [] => σ'
 | _ => { σ' with nob := σ.nob + e.new.length }
def effOk (e : Eff) : Bool := e.us.all fun x => bU x.1
def lq {α : Type} (d : Option Nat) (j : Nat) (a b : α) : α :=
 match d with
 | some t => if j = t then a else b
 | none => b
theorem aS {α : Type} (t j : Nat) (a b : α) : lq (some t) j a b = if j = t then a else b := rfl
theorem Lg {α : Type} (j : Nat) (a b : α) : lq none j a b = b := rfl
theorem ug (σ : St) (d : Option Tmp) (s : SV) (j : Nat) (h : ∀ t, d = some t -> bU t = true) : (σ.put d s).get j = lq d j s (σ.get j) := by
 cases d with
 | none => rfl
 | some t => exact Tr.qw _ _ _ _ _ _ (oo (h t rfl))
theorem Qi (σ : St) (i : Nat) (ob : Option Ob) (j : Nat) (h : bU i = true) : (σ.Bq i ob).obj j = if j = i then ob else σ.obj j := Tr.qw _ _ _ _ _ _ (oo h)
theorem ni (σ : St) (d : Option Tmp) (s : SV) (j : Nat) : (σ.put d s).obj j = σ.obj j := by cases d <;> rfl
theorem lu (σ : St) (d : Option Tmp) (s : SV) : (σ.put d s).nob = σ.nob := by cases d <;> rfl
theorem Dj (σ : St) : ∀ (l : List (Nat × Option Ob)) (j : Nat), (l.all fun x => bU x.1) = true -> (l.foldr (fun x σ => σ.Bq x.1 x.2) σ).obj j = (l.lookup j).getD (σ.obj j)
 | [], _, _ => rfl
 | (i, ob) :: l, j, h => by
   simp only [List.all_cons, Bool.and_eq_true] at h
   simp only [List.foldr_cons]
   rw [Qi _ _ _ _ h.1]
   by_cases hj : j = i
   · subst hj; simp [List.lookup]
   · have : (j == i) = false := by simpa using hj
     simp only [hj, if_false, List.lookup, this]
     exact Dj σ l j h.2
theorem Dh (σ : St) : ∀ (l : List (Nat × Option Ob)) (j : Nat), (l.foldr (fun x σ => σ.Bq x.1 x.2) σ).get j = σ.get j
 | [], _ => rfl
 | (i, ob) :: l, j => Dh σ l j
theorem Di (σ : St) : ∀ (l : List (Nat × Option Ob)), (l.foldr (fun x σ => σ.Bq x.1 x.2) σ).nob = σ.nob
 | [] => rfl
 | (i, ob) :: l => Di σ l
theorem N8 (σ : St) (e : Eff) (j : Nat) (h : effOk e = true) : (σ.eff e).obj j = e.obs σ.obj j := by
 unfold St.eff
 simp only
 split <;> exact Dj σ e.us j h
theorem xH (σ : St) (e : Eff) (j : Nat) : (σ.eff e).get j = σ.get j := by
 unfold St.eff
 simp only
 split <;> exact Dh σ e.us j
theorem Fx (σ : St) (e : Eff) : (σ.eff e).nob = σ.nob + e.new.length := by
 unfold St.eff
 simp only
 split
 · rename_i h
   rw [h]; exact Di σ e.us
 · rfl
def iG : Nat -> List Nat -> Bool
 | _, [] => true
 | n, x :: l => Nat.beq x n && iG (n + 1) l
theorem dF : ∀ {l : List Nat} {n i : Nat}, iG n l = true -> i ∈ l -> n <= i /\ i < n + l.length
 | [], _, _, _, h => by simp at h
 | x :: l, n, i, h, hi => by
   simp only [iG, Bool.and_eq_true] at h
   have := Nat.eq_of_beq_eq_true h.1
   subst this
   simp only [List.mem_cons] at hi
   simp only [List.length_cons]
   rcases hi with rfl | hi
   · omega
   · have := dF h.2 hi; omega
def newOk (e : Eff) (n : Nat) : Bool := iG n e.new
structure Inv (N : Nat) (C : Ctx) (σ : St) (a : Act) (w : World) : Prop where
 wf : WF C w
 sz : a.tmps.size = N
 df : a.defers = []
 sl : ∀ j, rel C w (σ.get j) (a.tmps.getD j undef)
 ob : ObsOk C w σ.obj
 nb : ∀ i, σ.nob <= i -> C.ν i = none
abbrev Top : Nat -> Prop := fun _ => True
def dstOk (N : Nat) (d : Option Tmp) : Bool :=
 match d with
 | some t => Nat.blt t N && bU t
 | none => true
theorem j5 (a : Act) (d : Option Tmp) (v : Value) (j : Nat) (h : ∀ t, d = some t -> t < a.tmps.size) : (a.put d v).tmps.getD j undef = lq d j v (a.tmps.getD j undef) := by
 cases d with
 | none => rfl
 | some t =>
   have ht := h t rfl
   simp only [Act.put, aS]
   rw [Array.getD_eq_getD_getElem?, Array.getD_eq_getD_getElem?, Array.getElem?_setIfInBounds]
   by_cases hj : j = t
   · subst hj; simp [ht]
   · have : ¬ t = j := fun e => hj e.symm
     simp [hj, this]
theorem Came.SK {C C' : Ctx} {w w' : World} {g : Nat -> Option Ob} {r : Res} {v : Value} (hw : WF C w) (hg : ObsOk C w g) (hc : Came C w r C' w' v) : ObsOk C' w' (r.eff.obs g) := by
 intro i ob h
 unfold Eff.obs at h
 cases hl : r.eff.us.lookup i with
 | some x =>
   rw [hl] at h
   simp only [Option.getD_some] at h
   exact hc.obs i ob (by rw [hl, h])
 | none =>
   rw [hl] at h
   exact bZ hw hc.step (iD hl) ob (hg i ob h)
theorem Inv.next {N : Nat} {C C' : Ctx} {σ : St} {a : Act} {w w' : World} {r : Res} {v : Value} {d : Option Tmp} (h : Inv N C σ a w) (hc : Came C w r C' w' v)
  (he : effOk r.eff = true) (hd : dstOk N d = true) (hnew : newOk r.eff σ.nob = true) : Inv N C' ((σ.eff r.eff).put d r.sv) (a.put d v) w' := by
 have hcap : ∀ t, d = some t -> bU t = true := fun t e => by subst e; simp only [dstOk, Bool.and_eq_true] at hd; exact hd.2
 have hlt : ∀ t, d = some t -> t < a.tmps.size := fun t e => by subst e; simp only [dstOk, Bool.and_eq_true] at hd; rw [h.sz]; simpa [Nat.blt_eq] using hd.1
 refine ⟨hc.wf, ?_, ?_, fun j => ?_, fun i ob hob => ?_, fun i hi => ?_⟩
 · cases d <;> simp [Act.put, h.sz]
 · cases d <;> exact h.df
 · rw [ug _ _ _ _ hcap, j5 _ _ _ _ hlt]
   cases d with
   | none => rw [xH]; exact aC hc.step _ _ (h.sl j)
   | some t =>
     simp only [aS]
     by_cases hj : j = t
     · subst hj; simp only [if_true]; exact hc.rel
     · simp only [hj, if_false]; rw [xH]; exact aC hc.step _ _ (h.sl j)
 · rw [ni, N8 _ _ _ he] at hob
   exact hc.SK h.wf h.ob i ob hob
 · rw [lu, Fx] at hi
   cases hn : C'.ν i with
   | none => rfl
   | some b =>
     exfalso
     rcases hc.new i (by rw [hn]; simp) with h2 | h2
     · exact h2 (h.nb i (by omega))
     · have := dF hnew h2
       omega
end Rx
