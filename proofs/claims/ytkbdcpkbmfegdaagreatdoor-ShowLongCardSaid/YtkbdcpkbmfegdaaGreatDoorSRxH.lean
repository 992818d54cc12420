/- Rx, part H: one operation is sound. -/
import Derived.Test.YtkbdcpkbmfegdaaGreatDoorSRxE
set_option linter.unusedSectionVars false
set_option linter.unusedSimpArgs false
set_option linter.unusedVariables false
namespace Rx
open Go
variable [Glob]
theorem iF {C : Ctx} {w : World} {ev : Operand -> SV} {a : Act} : ∀ (l : List Operand), (∀ x ∈ l, rel C w (ev x) (a.eval x)) -> relL C w (l.map ev) (l.map a.eval)
 | [], _ => rfl
 | x :: l, h => ⟨a.eval x, _, rfl, h x (by simp), iF l fun y hy => h y (by simp [hy])⟩
theorem nG {P : Program} {C : Ctx} {w : World} {g : Nat -> Option Ob} {rw : Operand -> SV} {a : Act} {new : Nat} {o : Oper} {r : Res}
  (hw : WF C w) (hg : ObsOk C w g) (hnew : ∀ i, i ∈ r.eff.new -> C.ν i = none) (hrw : ∀ x ∈ o.op.operands, rel C w (rw x) (a.eval x))
  (hok : (iT P rw g new o).ok) (hval : (iT P rw g new o).val = some r) : Did P a o C w r := by
 unfold iT at hok hval
 obtain ⟨ev, hevd⟩ : ∃ ev : Operand -> SV, ev = fun x => nrm (rw x) := ⟨_, rfl⟩
 rw [← hevd] at hok hval
 have hev : ∀ x ∈ o.op.operands, rel C w (ev x) (a.eval x) := fun x hx => by subst hevd; exact aX (hrw x hx)
 clear hevd
 simp only at hok hval
 split at hok
 · rename_i x ho
   simp only [ho, T.val, Option.some.injEq] at hval
   subst hval
   have h := hrw x (by rw [ho]; simp [Op.operands])
   exact ⟨a.eval x, w, C, .inl (by simp [execOp, ho]), Came.pure hw h⟩
 · rename_i x ho
   simp only [ho, T.val, Option.some.injEq] at hval
   subst hval
   have h := hrw x (by rw [ho]; simp [Op.operands])
   exact ⟨a.eval x, w, C, .inl (by simp [execOp, ho]), Came.pure hw h⟩
 · rename_i c x y ho
   have h1 := hrw c (by rw [ho]; simp [Op.operands])
   have h2 := hrw x (by rw [ho]; simp [Op.operands])
   have h3 := hrw y (by rw [ho]; simp [Op.operands])
   simp only [ho] at hval
   split at hok
   · rename_i q hc
     rw [hc] at h1
     have h1 : a.eval c = .bool q := h1
     simp only [hc] at hval
     cases q with
     | true =>
       simp only [cond_true, T.val, Option.some.injEq] at hval
       subst hval
       exact ⟨a.eval x, w, C, .inl (by simp [execOp, ho, h1, asBool]), Came.pure hw h2⟩
     | false =>
       simp only [cond_false, T.val, Option.some.injEq] at hval
       subst hval
       exact ⟨a.eval y, w, C, .inl (by simp [execOp, ho, h1, asBool]), Came.pure hw h3⟩
   · rename_i q hc
     rw [hc, aj] at h1
     simp only [hc] at hval
     cases q with
     | true =>
       simp only [T.val, if_true, Option.some.injEq] at hval
       subst hval
       exact ⟨a.eval x, w, C, .inl (by simp [execOp, ho, h1, asBool]), Came.pure hw h2⟩
     | false =>
       simp only [T.val, Bool.false_eq_true, if_false, Option.some.injEq] at hval
       subst hval
       exact ⟨a.eval y, w, C, .inl (by simp [execOp, ho, h1, asBool]), Came.pure hw h3⟩
   · simp [T.ok] at hok
 · rename_i t ho
   simp only [ho] at hval
   cases hz : zeroOf P t with
   | none => simp [hz, T.ok] at hok
   | some cs =>
     simp only [hz, T.val, Option.some.injEq] at hval
     subst hval
     obtain ⟨z, hzr, hzl⟩ := fH hz C w
     refine ⟨.pointer (some ⟨w.heap.size, 0, none⟩), _, _, .inl ?_, Came.alloc hw (hnew _ (by simp)) hzl⟩
     simp [execOp, ho, Instr.alloc, hzr, newVar, newRow]
 · rename_i t x ho
   simp only [ho] at hval
   have h := hev x (by rw [ho]; simp [Op.operands])
   cases hc : dz (ev x) with
   | none => simp [hc, T.ok] at hok
   | some cs =>
     simp only [hc, T.val, Option.some.injEq] at hval
     subst hval
     obtain ⟨vs, hvs, hr⟩ := gq hc h
     refine ⟨.pointer (some ⟨w.heap.size, 0, none⟩), _, _, .inl ?_, Came.alloc hw (hnew _ (by simp)) hr⟩
     simp [execOp, ho, Instr.box, hvs, newVar, newRow]
 · rename_i t ps ho
   simp only [ho] at hval
   refine Did.value hw hok hval fun s h1 h2 => ?_
   have hps : relL C w ((ps.toList.map fun p => (p.1, ev p.2)).map (·.2)) ((ps.toList.map fun p => (p.1, a.eval p.2)).map (·.2)) := by
    have := iF (C := C) (w := w) (ev := ev) (a := a) (ps.toList.map (·.2)) (fun x hx => hev x (by rw [ho]; simpa [Op.operands] using hx))
    simpa [List.map_map, Function.comp_def] using this
   obtain ⟨y, h3, h4⟩ := qX t _ (ps.toList.map fun p => (p.1, a.eval p.2)) s (by simp [List.map_map, Function.comp_def]) hps h1 h2
   have e : (ps.map fun p => (p.1, a.eval p.2)) = (ps.toList.map fun p => (p.1, a.eval p.2)).toArray := by apply Array.ext'; simp
   exact ⟨y, by simp only [execOp, ho, e, Sem.run_bind, h3, Result.andThen_ok, Sem.run_pure], h4⟩
 · rename_i t n ps ho
   simp only [ho] at hval
   have hps : relL C w ((ps.toList.map fun p => (p.1, ev p.2)).map (·.2)) ((ps.toList.map fun p => (p.1, a.eval p.2)).map (·.2)) := by
    have := iF (C := C) (w := w) (ev := ev) (a := a) (ps.toList.map (·.2)) (fun x hx => hev x (by rw [ho]; simpa [Op.operands] using hx))
    simpa [List.map_map, Function.comp_def] using this
   rw [(nZ _ _).1] at hok
   rw [(nZ _ _).2] at hval
   cases hv : (dw P t n (ps.toList.map fun p => (p.1, ev p.2))).val with
   | none => rw [hv] at hval; cases hval
   | some s =>
     rw [hv] at hval
     simp only [Option.map_some, Option.some.injEq] at hval
     subst hval
     obtain ⟨y, ob, h3, h4⟩ := rE hw t n _ (ps.toList.map fun p => (p.1, a.eval p.2)) s (by simp [List.map_map, Function.comp_def]) hps hok hv
     have e : (ps.map fun p => (p.1, a.eval p.2)) = (ps.toList.map fun p => (p.1, a.eval p.2)).toArray := by apply Array.ext'; simp
     refine ⟨y, w.alloc ob, C, .inl (by simp only [execOp, ho, e, Sem.run_bind, h3, Result.andThen_ok, Sem.run_pure]), h4, BA ob, Vs hw ob, fun _ h => .inl h, fun _ _ h => (by simp [Eff.none] at h)⟩
 · rename_i t x ho
   simp only [ho] at hval
   refine Did.value hw hok hval fun s h1 h2 => ?_
   obtain ⟨v, h3, h4⟩ := jG hg t (ev x) s (a.eval x) (hev x (by rw [ho]; simp [Op.operands])) h1 h2
   exact ⟨v, by simp only [execOp, ho, Sem.run_bind, h3, Result.andThen_ok, Sem.run_pure], h4⟩
 · rename_i t p x ho
   simp only [ho] at hval
   obtain ⟨w', h3, h4⟩ := lY hw hg t (ev p) (ev x) (a.eval p) (a.eval x) (hev p (by rw [ho]; simp [Op.operands])) (hev x (by rw [ho]; simp [Op.operands])) hok hval
   exact ⟨undef, w', C, .inr ⟨by simp only [execOp, ho, Sem.run_bind, h3, Result.andThen_ok, Sem.run_pure], rfl⟩, h4⟩
 · rename_i op t x y ty ho
   simp only [ho] at hval
   refine Did.value hw hok hval fun s h1 h2 => ?_
   obtain ⟨v, h3, h4⟩ := J6 (P := P) op (rw x) (rw y) (a.eval x) (a.eval y) t x y (hrw x (by rw [ho]; simp [Op.operands])) (hrw y (by rw [ho]; simp [Op.operands])) h1 h2
   exact ⟨v, by simp only [execOp, ho]; rw [Sem.run_bind, h3, Result.andThen_ok, Sem.run_pure], h4⟩
 · rename_i op ty x ho
   simp only [ho] at hval
   refine Did.value hw hok hval fun s h1 h2 => ?_
   obtain ⟨v, h3, h4⟩ := rX (P := P) op (rw x) s (a.eval x) (hrw x (by rw [ho]; simp [Op.operands])) h1 h2
   exact ⟨v, by simp only [execOp, ho, Sem.run_bind, h3, Result.andThen_ok, Sem.run_pure], h4⟩
 · rename_i f first caps ho
   simp only [ho] at hval
   cases hf : first.isEmpty with
   | false => rw [hf] at hok; simp [T.ok] at hok
   | true =>
     rw [hf] at hval
     simp only [cond_true, T.val, Option.some.injEq] at hval
     subst hval
     have hfe : first = #[] := by simpa using hf
     subst hfe
     have hc := iF (C := C) (w := w) (ev := ev) (a := a) caps.toList (fun x hx => hev x (by rw [ho]; simpa [Op.operands] using hx))
     refine ⟨.func (.func f) #[] (caps.map a.eval), w, C, .inl (by simp [execOp, ho, Instr.makeFunc]), Came.pure hw ⟨caps.toList.map a.eval, ?_, hc⟩⟩
     congr 1
     apply Array.ext'
     simp
 · rename_i t x f ho
   simp only [ho] at hval
   refine Did.value hw hok hval fun s h1 h2 => ?_
   obtain ⟨v, h3, h4⟩ := sQ (P := P) t f (ev x) s (a.eval x) (hev x (by rw [ho]; simp [Op.operands])) h1 h2
   exact ⟨v, by simp only [execOp, ho, Sem.run_bind, h3, Result.andThen_ok, Sem.run_pure], h4⟩
 · rename_i t x f ho
   simp only [ho] at hval
   refine Did.value hw hok hval fun s h1 h2 => ?_
   obtain ⟨v, h3, h4⟩ := qY (P := P) t (ev x) s (a.eval x) f (hev x (by rw [ho]; simp [Op.operands])) h1 h2
   exact ⟨v, by simp only [execOp, ho, Sem.run_bind, h3, Result.andThen_ok, Sem.run_pure], h4⟩
 · rename_i t x i ho
   simp only [ho] at hval
   refine Did.value hw hok hval fun s h1 h2 => ?_
   obtain ⟨v, h3, h4⟩ := tH (P := P) hg t (EW P t (ev x)) (ev i) s (a.eval x) (a.eval i) (yu (hev x (by rw [ho]; simp [Op.operands]))) (hev i (by rw [ho]; simp [Op.operands])) h1 h2
   exact ⟨v, by simp only [execOp, ho, Sem.run_bind, h3, Result.andThen_ok, Sem.run_pure], h4⟩
 · rename_i t x i ho
   simp only [ho] at hval
   refine Did.value hw hok hval fun s h1 h2 => ?_
   obtain ⟨v, h3, h4⟩ := lU (P := P) t (ev x) (ev i) s (a.eval x) (a.eval i) (hev x (by rw [ho]; simp [Op.operands])) (hev i (by rw [ho]; simp [Op.operands])) h1 h2
   exact ⟨v, by simp only [execOp, ho, Sem.run_bind, h3, Result.andThen_ok, Sem.run_pure], h4⟩
 · rename_i t x low high ho
   simp only [ho] at hval
   refine Did.value hw hok hval fun s h1 h2 => ?_
   obtain ⟨v, h3, h4⟩ := Ig (P := P) (C := C) (w := w) t (EW P t (ev x)) s (low.map ev) (high.map ev) (a.eval x) (low.map a.eval) (high.map a.eval) (yu (hev x (by rw [ho]; simp [Op.operands])))
    (fun s' hs => by
     cases low with
     | none => cases hs
     | some l => simp only [Option.map_some, Option.some.injEq] at hs; subst hs; exact ⟨_, rfl, hev l (by rw [ho]; simp [Op.operands])⟩)
    (fun hs => by cases low with | none => rfl | some l => cases hs)
    (fun s' hs => by
     cases high with
     | none => cases hs
     | some l => simp only [Option.map_some, Option.some.injEq] at hs; subst hs; exact ⟨_, rfl, hev l (by rw [ho]; cases low <;> simp [Op.operands])⟩)
    (fun hs => by cases high with | none => rfl | some l => cases hs) h1 h2
   exact ⟨v, by simp only [execOp, ho, Option.map_none, Sem.run_bind, h3, Result.andThen_ok, Sem.run_pure], h4⟩
 · rename_i x i ho
   simp only [ho] at hval
   refine Did.value hw hok hval fun s h1 h2 => ?_
   obtain ⟨v, h3, h4⟩ := nM (P := P) (ev x) s (a.eval x) i (hev x (by rw [ho]; simp [Op.operands])) h1 h2
   exact ⟨v, by simp only [execOp, ho, Sem.run_bind, h3, Result.andThen_ok, Sem.run_pure], h4⟩
 · rename_i x t ho
   simp only [ho] at hval
   refine Did.value hw hok hval fun s h1 h2 => ?_
   obtain ⟨v, h3, h4⟩ := IY (P := P) hg (ev x) s (a.eval x) t o.type (hev x (by rw [ho]; simp [Op.operands, Call.operands])) h1 h2
   refine ⟨v, ?_, h4⟩
   simp only [execOp, ho, resolve, Sem.run_bind, Sem.run_pure, Result.andThen_ok, invoke, builtin]
   simp [h3]
 · simp [T.ok] at hok
end Rx
