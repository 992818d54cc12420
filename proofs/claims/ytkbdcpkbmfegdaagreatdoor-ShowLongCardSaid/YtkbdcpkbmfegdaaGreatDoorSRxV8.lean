/- Rx, part V8: one operation that enters no function, as it is known best. -/
import Derived.Test.YtkbdcpkbmfegdaaGreatDoorSRxV6
set_option linter.unusedSectionVars false
set_option linter.unusedSimpArgs false
set_option linter.unusedVariables false
namespace Rx
open Go
variable [Glob]
def jK (s : SV) : T Res := .ret ⟨nK s, .none⟩
theorem Did.kN {P : Program} {a : Act} {o : Oper} {C : Ctx} {w : World} (hw : WF C w) {t : T SV} {r : Res}
  (hok : (t.bind jK).ok) (hval : (t.bind jK).val = some r)
  (h : ∀ s, t.ok -> t.val = some s -> ∃ v, (execOp a.eval o).run P w = .ok (.value v) w /\ rel C w s v) : Did P a o C w r := by
 have e : t.bind jK = t.bind fun s => .ret (⟨nK s, .none⟩ : Res) := rfl
 rw [e, (jP t fun s => (⟨nK s, .none⟩ : Res)).1] at hok
 rw [e, (jP t fun s => (⟨nK s, .none⟩ : Res)).2] at hval
 cases hv : t.val with
 | none => rw [hv] at hval; cases hval
 | some s =>
   rw [hv] at hval
   simp only [Option.map_some, Option.some.injEq] at hval
   subst hval
   obtain ⟨v, h1, h2⟩ := h s hok hv
   exact ⟨v, w, C, .inl h1, Came.pure hw (zJ h2)⟩
def SA (op : BinOp) (b : Option Bool) : T Res :=
 match op, b with
 | .eql, some b => .ret ⟨.kb b, .none⟩
 | .neq, some b => .ret ⟨.kb (!b), .none⟩
 | _, _ => .fail
def aai (P : Program) (t : TypeId) (k : Value) (x : SV) : Option Bool :=
 match P.underlying t, k, x with
 | some (.slice _), .slice none 0 0, .sl _ _ _ _ _ => some false
 | some (.slice _), .slice none 0 0, .dt (.cell (.slice none 0 _)) => some true
 | some (.slice _), .slice none 0 0, .dt (.arr _ (_ + 1) _) => some false
 | some (.pointer _), .pointer none, .ptr _ _ => some false
 | some (.pointer _), .pointer none, .rp _ _ _ _ => some false
 | some (.pointer _), .pointer none, .dt (.cell (.pointer none)) => some true
 | some (.interface _), .nilIface, .dt .ifc => some false
 | some (.interface _), .nilIface, .dt (.cell .nilIface) => some true
 | _, _, _ => none
theorem zN {P : Program} {C : Ctx} {w : World} {t : TypeId} {k : Value} {s : SV} {v : Value} {b : Bool} (hr : rel C w s v) (h : aai P t k s = some b) (op : BinOp) (ho : op = .eql ∨ op = .neq) (x : Operand) :
  (do eqGuard op t x (.const k) v k; binOp op t v k : Sem Value).run P w = .ok (.bool (if op = .eql then b else !b)) w := by
 have fin : ∀ k, (∀ d, (Op.equalIn (d + 1) t v k).run P w = .ok b w) -> (∀ op, (eqGuard op t x (.const k) v k).run P w = .ok () w) -> binOp .eql t v k = (do pure (.bool (← Op.equal t v k))) -> binOp .neq t v k = (do pure (.bool (!(← Op.equal t v k)))) ->
   (do eqGuard op t x (.const k) v k; binOp op t v k : Sem Value).run P w = .ok (.bool (if op = .eql then b else !b)) w := by
  intro k he hg h1 h2
  have he := he 9999
  rcases ho with rfl | rfl
  · simp only [Sem.run_bind, hg, Result.andThen_ok, h1, Op.equal, Op.maxDepth, he, Sem.run_pure, if_true]
  · simp [Sem.run_bind, hg, Result.andThen_ok, h2, Op.equal, Op.maxDepth, he, Sem.run_pure]
 have sl : ∀ (A : Option Addr) (n c : Nat), v = .slice A n c -> b = A.isNone -> (∃ e, P.underlying t = some (.slice e)) -> (do eqGuard op t x (.const (.slice none 0 0)) v (.slice none 0 0); binOp op t v (.slice none 0 0) : Sem Value).run P w = .ok (.bool (if op = .eql then b else !b)) w := by
  rintro A n c rfl rfl ⟨e, hu⟩
  refine fin _ (fun d => by cases A <;> simp [Op.equalIn, underlying, hu]) (fun op => ?_) rfl rfl
  unfold eqGuard; split <;> rfl
 have pt : ∀ (A : Option Addr), v = .pointer A -> b = A.isNone -> (∃ e, P.underlying t = some (.pointer e)) -> (do eqGuard op t x (.const (.pointer none)) v (.pointer none); binOp op t v (.pointer none) : Sem Value).run P w = .ok (.bool (if op = .eql then b else !b)) w := by
  rintro A rfl rfl ⟨e, hu⟩
  refine fin _ (fun d => by cases A <;> simp [Op.equalIn, underlying, hu]) (fun op => ?_) (by cases A <;> rfl) (by cases A <;> rfl)
  unfold eqGuard; split <;> rfl
 unfold aai at h
 split at h
 · rename_i hu
   injection h with h
   obtain ⟨b', m, cc, y, _, rfl, _⟩ := hr
   exact sl _ _ _ rfl h.symm ⟨_, hu⟩
 · rename_i hu
   injection h with h
   rw [aj] at hr
   exact sl _ _ _ hr h.symm ⟨_, hu⟩
 · rename_i hu
   injection h with h
   obtain ⟨A, c, hv, _, hc⟩ := hr.here
   obtain ⟨b', off, rfl, _⟩ := hc (by omega)
   exact sl _ _ _ hv h.symm ⟨_, hu⟩
 · rename_i hu
   injection h with h
   obtain ⟨b', _, rfl⟩ := hr
   exact pt _ rfl h.symm ⟨_, hu⟩
 · rename_i hu
   injection h with h
   obtain ⟨b', n, c, _, rfl⟩ := hr
   exact pt _ rfl h.symm ⟨_, hu⟩
 · rename_i hu
   injection h with h
   rw [aj] at hr
   exact pt _ hr h.symm ⟨_, hu⟩
 · rename_i hu
   exact mX hr (by unfold SB; rw [hu]; exact h) op ho x .nilIface
 · rename_i hu
   exact mX hr (by unfold SB; rw [hu]; exact h) op ho x .nilIface
 · cases h
def FV : Operand -> Option Value
 | .const (.slice none 0 0) => some (.slice none 0 0)
 | .const (.pointer none) => some (.pointer none)
 | .const .nilIface => some .nilIface
 | _ => none
def cxE (P : Program) (rw : Operand -> SV) (g : Nat -> Option Ob) (new : Nat) (o : Oper) : T Res :=
 match o.op with
 | .load t x => (fA P g t (rw x)).bind jK
 | .store t p x => rU P g t (rw p) (rw x)
 | .indexAddr t x i => match kg P t (rw x) (rw i) with
   | some r => r.bind jK
   | none => (FQ P t (rw x) (rw i)).bind jK
 | .slice t x l h none => match cutV P t (rw x) (l.map rw) (h.map rw) none with
   | some r => r.bind jK
   | none => (Fp P t (rw x) (l.map rw) (h.map rw)).bind jK
 | .slice t x l h (some m) => match cutV P t (rw x) (l.map rw) (h.map rw) (some (rw m)) with
   | some r => r.bind jK
   | none => sxE P rw g new o
 | .binOp op t x y _ => match FV y with
   | some k => SA op (aai P t k (rw x))
   | none => (QU P t op (rw x) (rw y)).bind jK
 | .unOp .neg t x => match rw x with
   | .ki k n => bif decide (lo k <= 0 - n) && decide (0 - n <= hi k) then .ret ⟨.ki k (0 - n), .none⟩ else .fail
   | .ri k a b n => bif decide (lo k <= 0 - b) && decide (0 - a <= hi k) then .ret ⟨.ri k (0 - b) (0 - a) (0 - n), .none⟩ else .fail
   | _ => sxE P rw g new o
 | .field t x f => (mQ P t (rw x) f).bind jK
 | .extract x i => (iN (rw x) i).bind jK
 | .index t x i => (uY P t (rw x) (rw i)).bind jK
 | .lookup t x i ok => (gu P g t (rw x) (nrm (rw i)) ok).bind jK
 | .buildSlice t n ps => eX P new t n (ps.toList.map fun p => (p.1, rw p.2))
 | .makeSlice t l c => zF P new t (rw l) (rw c)
 | .call { callee := .builtin .len, args := ⟨[x]⟩, argTypes := ⟨[t]⟩ } => match Ww P t (rw x) with
   | some s => .ret ⟨s, .none⟩
   | none => .fail
 | .call { callee := .builtin .cap, args := ⟨[x]⟩, argTypes := ⟨[t]⟩ } => match Yq P t (rw x) with
   | some s => .ret ⟨s, .none⟩
   | none => .fail
 | .call { callee := .builtin .append, args := ⟨[s, x]⟩, argTypes := ⟨[t, tx]⟩ } => bif Nat.beq tx t then (match EU P g new t (rw s) (rw x) with
   | some r => r
   | none => .fail) else Ho P new t tx (rw s) (rw x)
 | .call { callee := .builtin .max, args := ⟨[x, y]⟩, argTypes := ats } => match rw x, rw y with
   | .ki k a, .ki k' b => if k = k' then .ret ⟨.ki k (bif decide (b > a) then b else a), .none⟩ else .fail
   | .ri k a b n, .ri k' a' b' m => if k = k' then .ret ⟨.ri k (bif decide (a' > a) then a' else a) (bif decide (b' > b) then b' else b) (bif decide (m > n) then m else n), .none⟩ else .fail
   | _, _ => .fail
 | .call { callee := .builtin .min, args := ⟨[x, y]⟩, argTypes := ats } => match rw x, rw y with
   | .ki k a, .ki k' b => if k = k' then .ret ⟨.ki k (bif decide (b < a) then b else a), .none⟩ else .fail
   | _, _ => .fail
 | .call { callee := .builtin .copy, args := ⟨[d, x]⟩, argTypes := ⟨[t, _]⟩ } => NQ P t (rw d) (rw x)
 | _ => sxE P rw g new o
theorem w9 {P : Program} {new : Nat} {t : TypeId} {n : Nat} {ps : List (Nat × SV)} {r : Res} (h : (eX P new t n ps).val = some r) : r.eff.new = [new] := by
 unfold eX at h
 simp only [Bool.cond_eq_ite] at h
 repeat' split at h
 all_goals first | (cases h; done) | (injection h with h; subst h; rfl)
theorem P7 {P : Program} {new : Nat} {t : TypeId} {l c : SV} {r : Res} (h : (zF P new t l c).val = some r) : r.eff.new = [new] := by
 unfold zF at h
 simp only [Bool.cond_eq_ite] at h
 repeat' split at h
 all_goals first | (cases h; done) | (injection h with h; subst h; rfl)
theorem Pv {P : Program} {C : Ctx} {w : World} {g : Nat -> Option Ob} {rw : Operand -> SV} {a : Act} {new : Nat} {o : Oper} {r : Res}
  (hw : WF C w) (hg : ObsOk C w g) (hnew : ∀ i, i ∈ r.eff.new -> C.ν i = none) (hrw : ∀ x ∈ o.op.operands, rel C w (rw x) (a.eval x))
  (hok : (cxE P rw g new o).ok) (hval : (cxE P rw g new o).val = some r) : Did P a o C w r := by
 unfold cxE at hok hval
 split at hok
 · rename_i t x ho
   simp only [ho] at hval
   refine Did.kN hw hok hval fun s h1 h2 => ?_
   obtain ⟨v, h3, h4⟩ := wD hg t (rw x) s (a.eval x) (hrw x (by rw [ho]; simp [Op.operands])) h1 h2
   exact ⟨v, by simp only [execOp, ho, Sem.run_bind, h3, Result.andThen_ok, Sem.run_pure], h4⟩
 · rename_i t p x ho
   simp only [ho] at hval
   obtain ⟨w', h3, h4⟩ := GN hw hg t (rw p) (rw x) (a.eval p) (a.eval x) (hrw p (by rw [ho]; simp [Op.operands])) (hrw x (by rw [ho]; simp [Op.operands])) hok hval
   exact ⟨undef, w', C, .inr ⟨by simp only [execOp, ho, Sem.run_bind, h3, Result.andThen_ok, Sem.run_pure], rfl⟩, h4⟩
 · rename_i t x i ho
   simp only [ho] at hval
   have hx := hrw x (by rw [ho]; simp [Op.operands])
   have hi := hrw i (by rw [ho]; simp [Op.operands])
   split at hok
   · rename_i q hq
     simp only [hq] at hval
     refine Did.kN hw hok hval fun s h1 h2 => ?_
     obtain ⟨v, h3, h4⟩ := uX (P := P) t _ _ s _ _ hx hi hq h1 h2
     exact ⟨v, by simp only [execOp, ho, Sem.run_bind, h3, Result.andThen_ok, Sem.run_pure], h4⟩
   · rename_i hq
     simp only [hq] at hval
     refine Did.kN hw hok hval fun s h1 h2 => ?_
     obtain ⟨v, h3, h4⟩ := FR (P := P) t _ _ s _ _ hx hi h1 h2
     exact ⟨v, by simp only [execOp, ho, Sem.run_bind, h3, Result.andThen_ok, Sem.run_pure], h4⟩
 · rename_i t x l h ho
   simp only [ho] at hval
   have hx := hrw x (by rw [ho]; simp [Op.operands])
   have hl : ∀ s', l.map rw = some s' -> ∃ v, l.map a.eval = some v /\ rel C w s' v := fun s' hs => by
    cases l with
    | none => cases hs
    | some l => simp only [Option.map_some, Option.some.injEq] at hs; subst hs; exact ⟨_, rfl, hrw l (by rw [ho]; simp [Op.operands])⟩
   have hl0 : l.map rw = none -> l.map a.eval = none := fun hs => by cases l with | none => rfl | some l => cases hs
   have hh : ∀ s', h.map rw = some s' -> ∃ v, h.map a.eval = some v /\ rel C w s' v := fun s' hs => by
    cases h with
    | none => cases hs
    | some h => simp only [Option.map_some, Option.some.injEq] at hs; subst hs; exact ⟨_, rfl, hrw h (by rw [ho]; cases l <;> simp [Op.operands])⟩
   have hh0 : h.map rw = none -> h.map a.eval = none := fun hs => by cases h with | none => rfl | some h => cases hs
   split at hok
   · rename_i q hq
     simp only [hq] at hval
     refine Did.kN hw hok hval fun s h1 h2 => ?_
     obtain ⟨v, h3, h4⟩ := yK (P := P) (vm := none) t _ s _ _ _ _ _ _ hx hl hl0 hh hh0 (fun _ h => by cases h) (fun _ => rfl) hq h1 h2
     exact ⟨v, by simp only [execOp, ho, Option.map_none, Sem.run_bind, h3, Result.andThen_ok, Sem.run_pure], h4⟩
   · rename_i hq
     simp only [hq] at hval
     refine Did.kN hw hok hval fun s h1 h2 => ?_
     obtain ⟨v, h3, h4⟩ := Fq (P := P) t _ s _ _ _ _ _ hx hl hl0 hh hh0 h1 h2
     exact ⟨v, by simp only [execOp, ho, Option.map_none, Sem.run_bind, h3, Result.andThen_ok, Sem.run_pure], h4⟩
 · rename_i t x l h m ho
   simp only [ho] at hval
   have hx := hrw x (by rw [ho]; simp [Op.operands])
   have hl : ∀ s', l.map rw = some s' -> ∃ v, l.map a.eval = some v /\ rel C w s' v := fun s' hs => by
    cases l with
    | none => cases hs
    | some l => simp only [Option.map_some, Option.some.injEq] at hs; subst hs; exact ⟨_, rfl, hrw l (by rw [ho]; simp [Op.operands])⟩
   have hl0 : l.map rw = none -> l.map a.eval = none := fun hs => by cases l with | none => rfl | some l => cases hs
   have hh : ∀ s', h.map rw = some s' -> ∃ v, h.map a.eval = some v /\ rel C w s' v := fun s' hs => by
    cases h with
    | none => cases hs
    | some h => simp only [Option.map_some, Option.some.injEq] at hs; subst hs; exact ⟨_, rfl, hrw h (by rw [ho]; cases l <;> simp [Op.operands])⟩
   have hh0 : h.map rw = none -> h.map a.eval = none := fun hs => by cases h with | none => rfl | some h => cases hs
   have hm : rel C w (rw m) (a.eval m) := hrw m (by rw [ho]; cases l <;> cases h <;> simp [Op.operands])
   split at hok
   · rename_i q hq
     simp only [hq] at hval
     refine Did.kN hw hok hval fun s h1 h2 => ?_
     obtain ⟨v, h3, h4⟩ := yK (P := P) (vm := some (a.eval m)) t _ s _ _ _ _ _ _ hx hl hl0 hh hh0 (fun s hs => by injection hs with hs; subst hs; exact ⟨_, rfl, hm⟩) (fun h => by cases h) hq h1 h2
     exact ⟨v, by simp only [execOp, ho, Option.map_some, Sem.run_bind, h3, Result.andThen_ok, Sem.run_pure], h4⟩
   · rename_i hq
     simp only [hq] at hval
     exact qK hw hg hnew hrw hok hval
 · rename_i op t x y ty ho
   simp only [ho] at hval
   have hx := hrw x (by rw [ho]; simp [Op.operands])
   have hy := hrw y (by rw [ho]; simp [Op.operands])
   split at hok
   · rename_i k hk
     simp only [hk] at hval
     have hyk : y = .const k /\ a.eval y = k := by
        unfold FV at hk
        split at hk <;> first | (injection hk with hk; subst hk; exact ⟨rfl, rfl⟩) | cases hk
     obtain ⟨rfl, hek⟩ := hyk
     unfold SA at hok hval
     split at hok
     · rename_i b hb
       simp only [hb, T.val, Option.some.injEq] at hval
       subst hval
       have := zN (P := P) hx hb .eql (.inl rfl) x
       refine ⟨.bool b, w, C, .inl ?_, Came.pure hw rfl⟩
       simp only [execOp, ho, hek]
       rw [Sem.run_bind, this, Result.andThen_ok, Sem.run_pure]
       rfl
     · rename_i b hb
       simp only [hb, T.val, Option.some.injEq] at hval
       subst hval
       have := zN (P := P) hx hb .neq (.inr rfl) x
       refine ⟨.bool (!b), w, C, .inl ?_, Came.pure hw rfl⟩
       simp only [execOp, ho, hek]
       rw [Sem.run_bind, this, Result.andThen_ok, Sem.run_pure]
       rfl
     · exact hok.elim
   · rename_i hk
     simp only [hk] at hval
     refine Did.kN hw hok hval fun s h1 h2 => ?_
     obtain ⟨v, h3, h4⟩ := J7 (P := P) op (rw x) (rw y) (a.eval x) (a.eval y) t x y hx hy h1 h2
     exact ⟨v, by simp only [execOp, ho]; rw [Sem.run_bind, h3, Result.andThen_ok, Sem.run_pure], h4⟩
 · rename_i t x ho
   simp only [ho] at hval
   have hx := hrw x (by rw [ho]; simp [Op.operands])
   split at hok
   · rename_i k n hk
     simp only [hk] at hval
     cases hb : (decide (lo k <= 0 - n) && decide (0 - n <= hi k)) with
     | false => rw [hb] at hok; exact hok.elim
     | true =>
       rw [hb] at hval
       simp only [cond_true, T.val, Option.some.injEq] at hval
       subst hval
       simp only [Bool.and_eq_true, decide_eq_true_eq] at hb
       rw [hk] at hx
       obtain ⟨y, h1, h2⟩ := rX (P := P) (C := C) (w := w) .neg (vI k n) (vI k (0 - n)) (a.eval x) (aj.2 hx) ⟨hb, trivial⟩ rfl
       exact ⟨y, w, C, .inl (by simp only [execOp, ho]; rw [Sem.run_bind, h1, Result.andThen_ok, Sem.run_pure]), Came.pure hw (aj.1 h2)⟩
   · rename_i k p q n hk
     simp only [hk] at hval
     cases hb : (decide (lo k <= 0 - q) && decide (0 - p <= hi k)) with
     | false => rw [hb] at hok; exact hok.elim
     | true =>
       rw [hb] at hval
       simp only [cond_true, T.val, Option.some.injEq] at hval
       subst hval
       simp only [Bool.and_eq_true, decide_eq_true_eq] at hb
       rw [hk] at hx
       obtain ⟨hx, hx1, hx2⟩ := hx
       obtain ⟨y, h1, h2⟩ := rX (P := P) (C := C) (w := w) .neg (vI k n) (vI k (0 - n)) (a.eval x) (aj.2 hx) ⟨⟨by omega, by omega⟩, trivial⟩ rfl
       exact ⟨y, w, C, .inl (by simp only [execOp, ho]; rw [Sem.run_bind, h1, Result.andThen_ok, Sem.run_pure]), Came.pure hw ⟨aj.1 h2, by omega, by omega⟩⟩
   · rename_i hno hno2
     have hval : (sxE P rw g new o).val = some r := by
      revert hval
      split
      · rename_i k n hk; exact absurd hk (hno _ _)
      · rename_i k p q n hk; exact absurd hk (hno2 _ _ _ _)
      · exact id
     exact qK hw hg hnew hrw hok hval
 · rename_i t x f ho
   simp only [ho] at hval
   refine Did.kN hw hok hval fun s h1 h2 => ?_
   obtain ⟨v, h3, h4⟩ := qY (P := P) t (rw x) s (a.eval x) f (hrw x (by rw [ho]; simp [Op.operands])) h1 h2
   exact ⟨v, by simp only [execOp, ho, Sem.run_bind, h3, Result.andThen_ok, Sem.run_pure], h4⟩
 · rename_i x i ho
   simp only [ho] at hval
   refine Did.kN hw hok hval fun s h1 h2 => ?_
   obtain ⟨v, h3, h4⟩ := nM (P := P) (rw x) s (a.eval x) i (hrw x (by rw [ho]; simp [Op.operands])) h1 h2
   exact ⟨v, by simp only [execOp, ho, Sem.run_bind, h3, Result.andThen_ok, Sem.run_pure], h4⟩
 · rename_i t x i ho
   simp only [ho] at hval
   refine Did.kN hw hok hval fun s h1 h2 => ?_
   obtain ⟨v, h3, h4⟩ := FU (P := P) t (rw x) (rw i) s (a.eval x) (a.eval i) (hrw x (by rw [ho]; simp [Op.operands])) (hrw i (by rw [ho]; simp [Op.operands])) h1 h2
   exact ⟨v, by simp only [execOp, ho, Sem.run_bind, h3, Result.andThen_ok, Sem.run_pure], h4⟩
 · rename_i t x i ok ho
   simp only [ho] at hval
   refine Did.kN hw hok hval fun s h1 h2 => ?_
   obtain ⟨v, h3, h4⟩ := pq (P := P) hg t (rw x) (nrm (rw i)) ok (a.eval x) (a.eval i) (hrw x (by rw [ho]; simp [Op.operands])) (aX (hrw i (by rw [ho]; simp [Op.operands]))) h1 h2
   exact ⟨v, by simp only [execOp, ho, Sem.run_bind, h3, Result.andThen_ok, Sem.run_pure], h4⟩
 · rename_i t n ps ho
   simp only [ho] at hval
   have hps : relL C w ((ps.toList.map fun p => (p.1, rw p.2)).map (·.2)) ((ps.toList.map fun p => (p.1, a.eval p.2)).map (·.2)) := by
    have := iF (C := C) (w := w) (ev := rw) (a := a) (ps.toList.map (·.2)) (fun x hx => hrw x (by rw [ho]; simpa [Op.operands] using hx))
    simpa [List.map_map, Function.comp_def] using this
   have hn : C.ν new = none := hnew new (by rw [w9 hval]; simp)
   obtain ⟨y, w', C', h3, h4⟩ := su hw hn t n _ (ps.toList.map fun p => (p.1, a.eval p.2)) (by simp [List.map_map, Function.comp_def]) hps hok hval
   have e : (ps.map fun p => (p.1, a.eval p.2)) = (ps.toList.map fun p => (p.1, a.eval p.2)).toArray := by apply Array.ext'; simp
   exact ⟨y, w', C', .inl (by simp only [execOp, ho, e, Sem.run_bind, h3, Result.andThen_ok, Sem.run_pure]), h4⟩
 · rename_i t l c ho
   simp only [ho] at hval
   have hn : C.ν new = none := hnew new (by rw [P7 hval]; simp)
   obtain ⟨y, w', C', h3, h4⟩ := I6 hw hn t _ _ (a.eval l) (a.eval c) (hrw l (by rw [ho]; simp [Op.operands])) (hrw c (by rw [ho]; simp [Op.operands])) hok hval
   exact ⟨y, w', C', .inl (by simp only [execOp, ho, Sem.run_bind, h3, Result.andThen_ok, Sem.run_pure]), h4⟩
 · rename_i x t ho
   simp only [ho] at hval
   have hx := hrw x (by rw [ho]; simp [Op.operands, Call.operands])
   split at hok
   · rename_i s hs
     simp only [hs, T.val, Option.some.injEq] at hval
     subst hval
     obtain ⟨y, h1, h2⟩ := KR (P := P) (rw x) s (a.eval x) t o.type hx hs
     refine ⟨y, w, C, .inl ?_, Came.pure hw h2⟩
     simp only [execOp, ho, resolve, Sem.run_bind, Sem.run_pure, Result.andThen_ok, invoke, builtin]
     simp [h1]
   · exact hok.elim
 · rename_i x t ho
   simp only [ho] at hval
   have hx := hrw x (by rw [ho]; simp [Op.operands, Call.operands])
   split at hok
   · rename_i s hs
     simp only [hs, T.val, Option.some.injEq] at hval
     subst hval
     obtain ⟨y, h1, h2⟩ := Kc (P := P) (rw x) s (a.eval x) t o.type hx hs
     refine ⟨y, w, C, .inl ?_, Came.pure hw h2⟩
     simp only [execOp, ho, resolve, Sem.run_bind, Sem.run_pure, Result.andThen_ok, invoke, builtin]
     simp [h1]
   · exact hok.elim
 · rename_i s x t tx ho
   simp only [ho] at hval
   have hs := hrw s (by rw [ho]; simp [Op.operands, Call.operands])
   have hx := hrw x (by rw [ho]; simp [Op.operands, Call.operands])
   have fin : (∃ v' w' C', (Builtin.append_ #[t, tx] o.type #[a.eval s, a.eval x]).run P w = .ok v' w' /\ Came C w r C' w' v') -> Did P a o C w r := by
    rintro ⟨v', w', C', hr, hc⟩
    refine ⟨v', w', C', .inl ?_, hc⟩
    simp only [execOp, ho, resolve, Sem.run_bind, Sem.run_pure, Result.andThen_ok, invoke, builtin]
    simp [hr]
   cases hb : Nat.beq tx t with
   | true =>
     rw [hb, cond_true] at hok hval
     have := Nat.eq_of_beq_eq_true hb
     subst this
     split at hok
     · rename_i q hq
       simp only [hq] at hval
       exact fin (Ce hw hg _ _ _ _ _ _ hs hx hq hok hval hnew)
     · exact hok.elim
   | false =>
     rw [hb, cond_false] at hok hval
     exact fin (Hq hw _ _ _ _ _ _ _ hs hx hok hval hnew)
 · rename_i x y ats ho
   simp only [ho] at hval
   have hx := hrw x (by rw [ho]; simp [Op.operands, Call.operands])
   have hy := hrw y (by rw [ho]; simp [Op.operands, Call.operands])
   split at hok
   · rename_i k p k' q hp hq
     simp only [hp, hq] at hval
     by_cases hk : k = k'
     · rw [if_pos hk] at hval
       simp only [T.val, Option.some.injEq] at hval
       subst hval
       rw [hp] at hx; rw [hq] at hy
       have hx : a.eval x = .int k p := hx
       have hy : a.eval y = .int k' q := hy
       refine ⟨.int k (bif decide (q > p) then q else p), w, C, .inl ?_, Came.pure hw rfl⟩
       simp only [execOp, ho, resolve, Sem.run_bind, Sem.run_pure, Result.andThen_ok, invoke, builtin]
       by_cases h : q > p <;> simp [Builtin.max_, Builtin.max2, hx, hy, h]
     · rw [if_neg hk] at hok; exact hok.elim
   · rename_i k p1 p2 p k' q1 q2 q hp hq
     simp only [hp, hq] at hval
     by_cases hk : k = k'
     · rw [if_pos hk] at hval
       simp only [T.val, Option.some.injEq] at hval
       subst hval
       rw [hp] at hx; rw [hq] at hy
       subst hk
       obtain ⟨hx, hx1, hx2⟩ := hx
       obtain ⟨hy, hy1, hy2⟩ := hy
       refine ⟨.int k (bif decide (q > p) then q else p), w, C, .inl ?_, Came.pure hw ⟨rfl, ?_, ?_⟩⟩
       · simp only [execOp, ho, resolve, Sem.run_bind, Sem.run_pure, Result.andThen_ok, invoke, builtin]
         by_cases h : q > p <;> simp [Builtin.max_, Builtin.max2, hx, hy, h]
       · by_cases h : q > p <;> by_cases h2 : q1 > p1 <;> simp only [h, h2, decide_true, decide_false, cond_true, cond_false] <;> omega
       · by_cases h : q > p <;> by_cases h2 : q2 > p2 <;> simp only [h, h2, decide_true, decide_false, cond_true, cond_false] <;> omega
     · rw [if_neg hk] at hok; exact hok.elim
   · exact hok.elim
 · rename_i x y ats ho
   simp only [ho] at hval
   have hx := hrw x (by rw [ho]; simp [Op.operands, Call.operands])
   have hy := hrw y (by rw [ho]; simp [Op.operands, Call.operands])
   split at hok
   · rename_i k p k' q hp hq
     simp only [hp, hq] at hval
     by_cases hk : k = k'
     · rw [if_pos hk] at hval
       simp only [T.val, Option.some.injEq] at hval
       subst hval
       rw [hp] at hx; rw [hq] at hy
       have hx : a.eval x = .int k p := hx
       have hy : a.eval y = .int k' q := hy
       refine ⟨.int k (bif decide (q < p) then q else p), w, C, .inl ?_, Came.pure hw rfl⟩
       simp only [execOp, ho, resolve, Sem.run_bind, Sem.run_pure, Result.andThen_ok, invoke, builtin]
       by_cases h : q < p <;> simp [Builtin.min_, Builtin.min2, hx, hy, h]
     · rw [if_neg hk] at hok; exact hok.elim
   · exact hok.elim
 · rename_i d x t tx ho
   simp only [ho] at hval
   have hd := hrw d (by rw [ho]; simp [Op.operands, Call.operands])
   have hx := hrw x (by rw [ho]; simp [Op.operands, Call.operands])
   obtain ⟨y, h1, h2⟩ := Ic (P := P) hw t tx o.type (rw d) (rw x) (a.eval d) (a.eval x) hd hx hok hval
   refine ⟨y, w, C, .inl ?_, h2⟩
   simp only [execOp, ho, resolve, Sem.run_bind, Sem.run_pure, Result.andThen_ok, invoke, builtin]
   simp [h1]
 · rename_i h1 h2 h3 h4 h5 h6 h7 h8 h9 h10 h11 h12 h13 h14 h15 h16 h17 h18 h19
   have hval : (sxE P rw g new o).val = some r := by
    revert hval
    split
    all_goals first | exact id | (rename_i ho; exact absurd ho (h1 _ _)) | (rename_i ho; exact absurd ho (h2 _ _ _)) | (rename_i ho; exact absurd ho (h3 _ _ _)) | (rename_i ho; exact absurd ho (h4 _ _ _ _)) | (rename_i ho; exact absurd ho (h5 _ _ _ _ _)) | (rename_i ho; exact absurd ho (h6 _ _ _ _ _)) | (rename_i ho; exact absurd ho (h7 _ _)) | (rename_i ho; exact absurd ho (h8 _ _ _)) | (rename_i ho; exact absurd ho (h9 _ _)) | (rename_i ho; exact absurd ho (h10 _ _ _)) | (rename_i ho; exact absurd ho (h11 _ _ _ _)) | (rename_i ho; exact absurd ho (h12 _ _ _)) | (rename_i ho; exact absurd ho (h13 _ _ _)) | (rename_i ho; exact absurd ho (h14 _ _)) | (rename_i ho; exact absurd ho (h15 _ _)) | (rename_i ho; exact absurd ho (h16 _ _ _ _)) | (rename_i ho; exact absurd ho (h17 _ _ _)) | (rename_i ho; exact absurd ho (h18 _ _ _)) | (rename_i ho; exact absurd ho (h19 _ _ _ _))
   exact qK hw hg hnew hrw hok hval
end Rx
set_option linter.unusedSectionVars false
set_option linter.unusedSimpArgs false
set_option linter.unusedVariables false
namespace Rx
open Go
variable [Glob]
namespace T
variable {α : Type} {β : Type}
def good (p : α -> Prop) : T α -> Prop
 | .ret a => p a
 | .ite _ t e => t.good p /\ e.good p
 | .need _ t => t.good p
 | .fail => True
 | .both _ _ => False
 | .all _ _ => False
theorem aW {p : α -> Prop} {q : β -> Prop} {f : α -> T β} (hf : ∀ a, p a -> (f a).good q) : ∀ t : T α, t.good p -> (t.bind f).good q
 | .ret a, h => hf a h
 | .ite _ t e, h => ⟨aW hf t h.1, aW hf e h.2⟩
 | .need _ t, h => aW hf t h
 | .fail, _ => trivial
 | .both _ _, h => h.elim
 | .all _ _, h => h.elim
theorem fK {p q : α -> Prop} (h : ∀ a, p a -> q a) : ∀ t : T α, t.good p -> t.good q
 | .ret a, hh => h a hh
 | .ite _ t e, hh => ⟨fK h t hh.1, fK h e hh.2⟩
 | .need _ t, hh => fK h t hh
 | .fail, _ => trivial
 | .both _ _, hh => hh.elim
 | .all _ _, hh => hh.elim
theorem oO {p : α -> Prop} : ∀ t : T α, t.good p -> t.det = true
 | .ret a, _ => rfl
 | .ite _ t e, h => by simp only [det, Bool.and_eq_true]; exact ⟨oO t h.1, oO e h.2⟩
 | .need _ t, h => oO t h
 | .fail, _ => rfl
 | .both _ _, h => h.elim
 | .all _ _, h => h.elim
theorem jg : ∀ t : T α, t.det = true -> t.good (fun _ => True)
 | .ret a, _ => trivial
 | .ite _ t e, h => by simp only [det, Bool.and_eq_true] at h; exact ⟨jg t h.1, jg e h.2⟩
 | .need _ t, h => jg t h
 | .fail, _ => trivial
 | .both _ _, h => by simp [det] at h
 | .all _ _, h => by simp [det] at h
theorem j6 {p : α -> Prop} : ∀ {t : T α} {a : α}, t.good p -> t.val = some a -> p a
 | .ret a, b, h, hv => by simp only [val, Option.some.injEq] at hv; subst hv; exact h
 | .ite q t e, b, h, hv => by
   cases q
   · exact j6 (t := e) h.2 hv
   · exact j6 (t := t) h.1 hv
 | .need _ t, b, h, hv => j6 (t := t) h hv
 | .fail, _, _, hv => by cases hv
 | .both _ _, _, h, _ => h.elim
 | .all _ _, _, h, _ => h.elim
theorem aV {p q : α -> Prop} : ∀ {t : T α}, t.good p -> t.holds q -> t.holds fun a => p a /\ q a
 | .ret a, h, hh => ⟨h, hh⟩
 | .ite _ t e, h, hh => ⟨fun hb => aV h.1 (hh.1 hb), fun hb => aV h.2 (hh.2 hb)⟩
 | .need _ t, h, hh => ⟨hh.1, aV (t := t) h hh.2⟩
 | .fail, _, hh => hh.elim
 | .both _ _, h, _ => h.elim
 | .all _ _, h, _ => h.elim
end T
structure HS where
 obj : Nat -> Option Ob
 nob : Nat
def HS.Ok (h : HS) : Prop := ∀ i, h.nob <= i -> h.obj i = none
structure CEnv where
 P : Program
 N : Nat
 K : Nat -> Nat -> Option Summ
 I : Nat -> Nat -> FuncId -> List SV -> HS -> T (SV × HS)
 top : Nat
 base : Nat
 win : Nat -> Nat
 fuel : Nat
 fl : Nat
def CEnv.X (E : CEnv) (i : Nat) : Prop := E.base <= i /\ i < E.top
structure HOk (top : Nat) (h : HS) (C : Ctx) (w : World) : Prop where
 wf : WF C w
 ob : ObsOk C w h.obj
 nb : ∀ i, h.nob <= i -> i < top -> C.ν i = none
def RunOk (P : Program) (X : Nat -> Prop) (top : Nat) (f : FuncId) (al : List SV) (h : HS) (t : T (SV × HS)) : Prop :=
 ∀ (C : Ctx) (w : World) (vs : List Value) (post : SV × HS -> Prop), HOk top h C w -> relL C w al vs -> t.holds post ->
   callable P f = true /\ Calls P f vs.toArray w fun e w' => ∃ v C' y, e = .returned v /\ post y /\ Step X C w C' w' /\ HOk top y.2 C' w' /\ rel C' w' y.1 v /\ ∀ i, i < h.nob ∨ top <= i -> C'.ν i = C.ν i
structure CEnv.Ok (E : CEnv) : Prop where
 K : ∀ rid i s, E.K rid i = some s -> s.Ok E.P
 I : ∀ top base f al h, RunOk E.P (fun i => base <= i /\ i < top) top f al h (E.I top base f al h)
 G : ∀ top base f al h, h.Ok -> (E.I top base f al h).good fun y => y.2.Ok /\ h.nob <= y.2.nob /\ y.2.nob <= max top h.nob
def jf (E : CEnv) (h : HS) (e : Eff) : Bool :=
 iG h.nob e.new && (Nat.ble (h.nob + e.new.length) E.top && (e.us.all fun x => Nat.blt x.1 (h.nob + e.new.length) && Nat.ble E.base x.1))
def HS.eff (h : HS) (e : Eff) : HS := ⟨e.obs h.obj, h.nob + e.new.length⟩
theorem mM {E : CEnv} {h : HS} {e : Eff} (he : jf E h e = true) : iG h.nob e.new = true /\ h.nob + e.new.length <= E.top /\ ∀ x ∈ e.us, x.1 < h.nob + e.new.length /\ E.X x.1 := by
 simp only [jf, Bool.and_eq_true, List.all_eq_true, Nat.blt_eq] at he
 have h2 := Nat.le_of_ble_eq_true he.2.1
 exact ⟨he.1, h2, fun x hx => ⟨(he.2.2 x hx).1, Nat.le_of_ble_eq_true (he.2.2 x hx).2, Nat.lt_of_lt_of_le (he.2.2 x hx).1 h2⟩⟩
theorem V4 {E : CEnv} {h : HS} (hh : h.Ok) {e : Eff} (he : jf E h e = true) : (h.eff e).Ok := by
 intro i hi
 show e.obs h.obj i = none
 obtain ⟨_, _, h3⟩ := mM he
 have hi : h.nob + e.new.length <= i := hi
 have hn : i ∉ e.touched := fun hm => by
  simp only [Eff.touched, List.mem_map] at hm
  obtain ⟨x, hx, rfl⟩ := hm
  have := (h3 x hx).1
  omega
 rw [qE _ _ _ hn]
 exact hh i (by omega)
theorem Came.hok {E : CEnv} {C C' : Ctx} {w w' : World} {h : HS} {r : Res} {v : Value} (hk : HOk E.top h C w) (hc : Came C w r C' w' v) (he : jf E h r.eff = true) :
  HOk E.top (h.eff r.eff) C' w' /\ Step E.X C w C' w' /\ ∀ i, i < h.nob ∨ E.top <= i -> C'.ν i = C.ν i := by
 obtain ⟨h1, h2, h3⟩ := mM he
 have hst : Step E.X C w C' w' := hc.step.mono fun i hi => by
  have hm : i ∈ r.eff.us.map (·.1) := hi
  simp only [List.mem_map] at hm
  obtain ⟨x, hx, rfl⟩ := hm
  exact (h3 x hx).2
 refine ⟨⟨hc.wf, fun i ob hob => ?_, fun i hi ht => ?_⟩, hst, fun i hi => ?_⟩
 · exact hc.SK hk.wf hk.ob i ob hob
 · have hi : h.nob + r.eff.new.length <= i := hi
   cases hn : C'.ν i with
   | none => rfl
   | some b =>
     exfalso
     rcases hc.new i (by rw [hn]; simp) with h4 | h4
     · exact h4 (hk.nb i (by omega) ht)
     · have := dF h1 h4
       omega
 · cases hn : C.ν i with
   | some b => exact hc.step.ext i b hn
   | none =>
     cases hn' : C'.ν i with
     | none => rfl
     | some b =>
       exfalso
       rcases hc.new i (by rw [hn']; simp) with h4 | h4
       · exact h4 hn
       · have := dF h1 h4
         omega
def Wi (g : Nat) : SV :=
 match Glob.val g with
 | some (m, f) => .el m f
 | none => .dt (.cell (.pointer (some ⟨g, 0, none⟩)))
def evC (σ : Nat -> SV) : Operand -> SV
 | .tmp t => σ t
 | .const v => nK (ofConst v)
 | .global g => Wi g
 | .func f => .fn f []
theorem Oa {C : Ctx} {w : World} (hw : WF C w) (σ : Nat -> SV) (a : Act) (x : Operand) (h : ∀ t, x = .tmp t -> rel C w (σ t) (a.tmps.getD t undef)) : rel C w (evC σ x) (a.eval x) := by
 cases x with
 | tmp t => exact h t rfl
 | const v => exact zJ (wL C w v)
 | global g =>
   show rel C w (Wi g) _
   unfold Wi
   split
   · rename_i m f hv
     refine ⟨g, 0, rfl, hw.gl.mono fun w' hok j hj => ?_⟩
     rw [Nat.zero_add]
     exact Glob.holds w' hok g m f hv j hj
   · exact aj.2 rfl
 | func f => exact ⟨[], rfl, rfl⟩
def vG (P : Program) (g : Nat -> Option Ob) (new : Nat) (t : TypeId) (x : SV) : T Res :=
 match P.underlying t, x with
 | some (.map _ _), .nm i => match g i with
   | some (.mp _ _ l) => .ret ⟨.ptr new 0, ⟨[(new, some (.itx i l.length none))], [new]⟩⟩
   | _ => .fail
 | _, _ => .fail
theorem Gr {P : Program} {C : Ctx} {w : World} {g : Nat -> Option Ob} (hw : WF C w) (hg : ObsOk C w g) {new : Nat} (hnew : C.ν new = none) (t : TypeId) (x : SV) (u : Value) {r : Res} (hx : rel C w x u)
  (hval : (vG P g new t x).val = some r) : ∃ v w' C', (Instr.range t u).run P w = .ok v w' /\ Came C w r C' w' v := by
 unfold vG at hval
 split at hval
 · rename_i k e i hu
   split at hval
   · rename_i kt vt l hgi
     simp only [T.val, Option.some.injEq] at hval
     subst hval
     obtain ⟨v, w', C', h1, h2⟩ := wJ (P := P) (r := ⟨.ptr new 0, ⟨[(new, some (.it i l.length []))], [new]⟩⟩) hw hg hnew t (.nm i) u hx (by simp only [lC, hu, hgi, T.val])
     refine ⟨v, w', C', h1, h2.rel, h2.step, h2.wf, h2.new, fun j ob hj => ?_⟩
     by_cases hji : j = new
     · subst hji
       simp [List.lookup] at hj
       subst hj
       obtain ⟨b, bm, q1, q2, q3, q4⟩ := h2.obs j (.it i l.length []) (by simp [List.lookup])
       exact ⟨[], fun k hk => (by cases hk), b, bm, q1, q2, q3, q4⟩
     · have : (j == new) = false := by simpa using hji
       simp [List.lookup, this] at hj
   · cases hval
 · cases hval
def yP (g : Nat -> Option Ob) (x : SV) : T Res :=
 match x with
 | .ptr i 0 => match g i with
   | some (.itx m n (some k)) => match g m with
     | some (.mp kt vt l) => bif Nat.beq n l.length && Nat.blt k l.length then .ret ⟨.tup [gI kt (bS kt vt l k).1, gI vt (bS kt vt l k).2], .none⟩ else .fail
     | _ => .fail
   | _ => .fail
 | _ => .fail
theorem Io {P : Program} {C : Ctx} {w : World} {g : Nat -> Option Ob} {a : Act} {o : Oper} {it : Operand} {x : SV} {post : Res -> Prop} (hw : WF C w) (hg : ObsOk C w g) (ho : o.op = .entry it) (hx : rel C w x (a.eval it))
  (hh : (yP g x).holds post) : Goes P a o C w post := by
 unfold yP at hh
 split at hh
 · rename_i i
   split at hh
   · rename_i m n k hgi
     split at hh
     · rename_i kt vt l hgm
       cases hb : (Nat.beq n l.length && Nat.blt k l.length) with
       | false => rw [hb] at hh; exact hh.elim
       | true =>
         rw [hb] at hh
         simp only [Bool.and_eq_true, Nat.blt_eq] at hb
         have e1 := Nat.eq_of_beq_eq_true hb.1
         obtain ⟨seen, hs, q⟩ := hg i _ hgi
         obtain ⟨rr, rfl⟩ := hs k rfl
         let g' : Nat -> Option Ob := fun j => if j = i then some (.it m n (k :: rr)) else g j
         have hmi : m ≠ i := by
          rintro rfl
          rw [hgi] at hgm
          cases hgm
         have hg' : ObsOk C w g' := by
          intro j ob hj
          by_cases hji : j = i
          · subst hji
            have : some (Ob.it m n (k :: rr)) = some ob := by simpa [g'] using hj
            injection this with this
            subst this
            exact q
          · have : g j = some ob := by simpa [g', hji] using hj
            exact hg j ob this
         refine sI (x := .ptr i 0) hw hg' ho hx ?_
         have e2 : g' i = some (.it m n (k :: rr)) := by simp [g']
         have e3 : g' m = some (.mp kt vt l) := by simp [g', hmi, hgm]
         simp only [xJ, e2, e3]
         exact ⟨⟨e1, hb.2⟩, hh⟩
     · exact hh.elim
   · exact hh.elim
 · exact hh.elim
def lift (E : CEnv) (h : HS) (t : T Res) : T (SV × HS) :=
 bif t.det then t.bind fun r => bif jf E h r.eff then .ret (r.sv, h.eff r.eff) else .fail else .fail
def bG (E : CEnv) (rid i : Nat) (rw : Operand -> SV) (h : HS) (o : Oper) : T (SV × HS) :=
 match o.op with
 | .call { callee := .value f, args, argTypes := _ } => match E.K rid i with
   | some s => bif s.strict then .fail else lift E h (BH s rw h.obj h.nob o)
   | none => match rw f with
     | .fn k caps => E.I E.top E.base k (args.toList.map rw ++ caps) h
     | _ => .fail
 | .range t x => lift E h (vG E.P h.obj h.nob t (rw x))
 | .entry x => lift E h (yP h.obj (rw x))
 | .next _ _ => .fail
 | _ => lift E h (cxE E.P rw h.obj h.nob o)
def QA (E : CEnv) (n0 : Nat) (a : Act) (o : Oper) (C : Ctx) (w : World) (post : SV × HS -> Prop) : Prop :=
 ∀ (K : Act -> World -> Prop) (Q : Exit -> Act -> World -> Prop), (∀ y v w' C', post y -> Step E.X C w C' w' -> HOk E.top y.2 C' w' -> rel C' w' y.1 v -> (∀ i, i < n0 ∨ E.top <= i -> C'.ν i = C.ν i) -> K (a.put o.dst v) w') -> o.wp E.P a w K Q
theorem qz {E : CEnv} (hE : E.Ok) {a : Act} {o : Oper} {C : Ctx} {w : World} {h : HS} {post : SV × HS -> Prop} {t : T Res} (hh : (lift E h t).holds post) (hk : HOk E.top h C w)
  (hgo : ∀ p : Res -> Prop, t.det = true -> (∀ r, p r -> ∀ i ∈ r.eff.new, C.ν i = none) -> t.holds p -> Goes E.P a o C w p) : QA E h.nob a o C w post := by
 intro K Q hK
 unfold lift at hh
 cases hd : t.det with
 | false => rw [hd] at hh; exact hh.elim
 | true =>
   rw [hd, cond_true, T.ak] at hh
   have hh2 := T.aD (q := fun r => jf E h r.eff = true /\ post (r.sv, h.eff r.eff)) (fun r hr => by
    cases hb : jf E h r.eff with
    | false => rw [hb] at hr; exact hr.elim
    | true => rw [hb] at hr; exact ⟨rfl, hr⟩) _ hh
   refine hgo _ hd (fun r hr i hi => ?_) hh2 K Q fun r v w' C' hp hc => ?_
   · obtain ⟨q1, q2, _⟩ := mM hr.1
     have := dF q1 hi
     exact hk.nb i this.1 (by omega)
   · obtain ⟨q1, q2, q3⟩ := Came.hok hk hc hp.1
     exact hK _ v w' C' hp.2 q2 q1 hc.rel q3
theorem Pw {E : CEnv} (hE : E.Ok) {rid i : Nat} {rw : Operand -> SV} {a : Act} {o : Oper} {C : Ctx} {w : World} {h : HS} {post : SV × HS -> Prop} (hk : HOk E.top h C w)
  (hrw : ∀ x ∈ o.op.operands, rel C w (rw x) (a.eval x)) (hh : (bG E rid i rw h o).holds post) : QA E h.nob a o C w post := by
 unfold bG at hh
 split at hh
 · rename_i f args argTypes ho
   split at hh
   · rename_i s hs
     cases hst : s.strict with
     | true => rw [hst] at hh; exact hh.elim
     | false =>
       rw [hst] at hh
       exact qz hE hh hk fun p _ hn hp => uw (hE.K _ _ _ hs) hk.wf hk.ob (fun e => by rw [hst] at e; cases e) hn hrw hp
   · split at hh
     · rename_i k caps hf
       have hfr := hrw f (by rw [ho]; simp [Op.operands, Call.operands])
       rw [hf] at hfr
       obtain ⟨cvs, hfv, hcaps⟩ := hfr
       have hal := iF (C := C) (w := w) (ev := rw) (a := a) args.toList (fun x hx => hrw x (by rw [ho]; simp [Op.operands, Call.operands]; exact .inr (by simpa using hx)))
       obtain ⟨h2, hcalls⟩ := hE.I E.top E.base k _ h C w _ post hk (jl hal hcaps) hh
       intro K Q hK
       have hfn : ∃ fn, E.P.funcs[k]? = some fn /\ (fn.name == "runtime.NumGoroutine") = false /\ fn.body.isNone = false := by
        unfold callable at h2
        split at h2
        · rename_i fn hfn
          simp only [Bool.and_eq_true, Bool.not_eq_true'] at h2
          refine ⟨fn, hfn, h2.1, ?_⟩
          cases hb : fn.body <;> simp_all
        · cases h2
       obtain ⟨fn, hfn1, hfn2, hfn3⟩ := hfn
       have hexec : (execOp a.eval o).run E.P w = .ok (.enter k (args.map a.eval ++ cvs.toArray)) w := by
        simp only [execOp, ho, resolve, hfv, Deferred.ofValue, Sem.run_bind, Sem.run_pure, Result.andThen_ok, invoke, callFunc, run_program, hfn1, hfn2, hfn3, Bool.false_eq_true, if_false]
        simp
       unfold Oper.wp
       rw [hexec, Oper.upon_enter]
       have eargs : args.map a.eval ++ cvs.toArray = (args.toList.map a.eval ++ cvs).toArray := by apply Array.ext'; simp
       rw [eargs]
       refine hcalls.mono ?_
       rintro e w' ⟨v, C', y, rfl, hp, hst, hok, hr, ht⟩
       exact hK y v w' C' hp hst hok hr ht
     · exact hh.elim
 · rename_i t x ho
   refine qz hE hh hk fun p hd hn hp => ?_
   obtain ⟨h1, r, h2, h3⟩ := (T.bC _ hd).1 hp
   have hnew : C.ν h.nob = none := by
    have hv := h2
    unfold vG at hv
    split at hv
    · split at hv
      · simp only [T.val, Option.some.injEq] at hv
        subst hv
        exact hn _ h3 _ (by simp)
      · cases hv
    · cases hv
   obtain ⟨v, w', C', q1, q2⟩ := Gr (P := E.P) hk.wf hk.ob hnew t _ (a.eval x) (hrw x (by rw [ho]; simp [Op.operands])) h2
   exact Did.goes ⟨v, w', C', .inl (by simp only [execOp, ho, Sem.run_bind, q1, Result.andThen_ok, Sem.run_pure]), q2⟩ h3
 · rename_i x ho
   exact qz hE hh hk fun p hd hn hp => Io hk.wf hk.ob ho (hrw x (by rw [ho]; simp [Op.operands])) hp
 · exact hh.elim
 · refine qz hE hh hk fun p hd hn hp => ?_
   obtain ⟨h1, r, h2, h3⟩ := (T.bC _ hd).1 hp
   exact Did.goes (Pv hk.wf hk.ob (hn r h3) hrw h1 h2) h3
theorem mq {E : CEnv} (hE : E.Ok) {h : HS} (hh : h.Ok) (t : T Res) : (lift E h t).good fun y => y.2.Ok /\ h.nob <= y.2.nob /\ y.2.nob <= max E.top h.nob := by
 unfold lift
 cases hd : t.det with
 | false => trivial
 | true =>
   rw [cond_true]
   refine T.aW (p := fun _ => True) (fun r _ => ?_) t (T.jg t hd)
   cases hb : jf E h r.eff with
   | false => trivial
   | true =>
     obtain ⟨_, q2, _⟩ := mM hb
     refine ⟨V4 hh hb, ?_, ?_⟩
     · show h.nob <= h.nob + r.eff.new.length
       omega
     · show h.nob + r.eff.new.length <= _
       omega
theorem CZ {E : CEnv} (hE : E.Ok) {rid i : Nat} {rw : Operand -> SV} {h : HS} (hh : h.Ok) (o : Oper) : (bG E rid i rw h o).good fun y => y.2.Ok /\ h.nob <= y.2.nob /\ y.2.nob <= max E.top h.nob := by
 unfold bG
 split
 · split
   · rename_i s _
     cases s.strict with
     | true => trivial
     | false => exact mq hE hh _
   · split
     · exact hE.G _ _ _ _ _ hh
     · trivial
 · exact mq hE hh _
 · exact mq hE hh _
 · trivial
 · exact mq hE hh _
end Rx
