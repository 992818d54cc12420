/- Rx, part G: equality of structs; one operation whole. -/
import Derived.Test.YtnalaogenpicfaaDoorRxF
set_option linter.unusedSectionVars false
set_option linter.unusedSimpArgs false
set_option linter.unusedVariables false
namespace Rx
open Go
variable [Glob]

/-! ## equality -/
def nrm : SV → SV
  | .kb b => vB b
  | .ki k n => vI k n
  | s => s

theorem nrm_rel {C : Ctx} {w : World} {s : SV} {v : Value} (h : rel C w s v) : rel C w (nrm s) v := by
  cases s <;> first | exact h | exact rel_cell.2 h

def eqCell (P : Program) (t : TypeId) (x y : SV) : Option Bool :=
  match P.underlying t, nrm x, nrm y with
  | some .bool, .dt (.cell (.bool a)), .dt (.cell (.bool b)) => some (a == b)
  | some (.int _), .dt (.cell (.int k a)), .dt (.cell (.int k' b)) => if k = k' then some (a == b) else none
  | some .string, .dt (.cell (.string a)), .dt (.cell (.string b)) => some (a == b)
  | _, _, _ => none

def eqFields (P : Program) (l m : List SV) : List Field → Option Bool
  | [] => some true
  | f :: fs =>
    bif f.name == "_" then none else
    match aggT P f.type, l[f.offset]?, m[f.offset]? with
    | some false, some x, some y => match eqCell P f.type x y, eqFields P l m fs with
      | some a, some b => some (a && b)
      | _, _ => none
    | _, _, _ => none

def eqSV (P : Program) (t : TypeId) (x y : SV) : Option Bool :=
  match P.underlying t, x, y with
  | some (.struct fs), .agg l, .agg m => bif P.stoodInHeld t || P.eqGuardType P.depth t then none else eqFields P l m fs.toList
  | _, .dt (.cell (.bool _)), .dt (.cell (.bool _)) => eqCell P t x y
  | _, _, _ => none

theorem eqCell_sound {P : Program} {C : Ctx} {w : World} (t : TypeId) (x y : SV) (u v : Value) (b : Bool) (hx : rel C w x u) (hy : rel C w y v) (h : eqCell P t x y = some b) (d : Nat) :
    (Op.equalIn (d + 1) t u v).run P w = .ok b w := by
  have hx := nrm_rel hx
  have hy := nrm_rel hy
  unfold eqCell at h
  generalize nrm x = x' at *
  generalize nrm y = y' at *
  split at h
  · rename_i hu
    rw [rel_cell] at hx hy; subst hx; subst hy
    simp only [Option.some.injEq] at h; subst h
    simp [Op.equalIn, underlying, hu]
  · rename_i hu
    rw [rel_cell] at hx hy; subst hx; subst hy
    split at h
    · rename_i hk
      subst hk
      simp only [Option.some.injEq] at h; subst h
      simp [Op.equalIn, underlying, hu]
    · cases h
  · rename_i hu
    rw [rel_cell] at hx hy; subst hx; subst hy
    simp only [Option.some.injEq] at h; subst h
    simp [Op.equalIn, underlying, hu]
  · cases h

theorem part_one {P : Program} {w : World} {t : TypeId} {vs : List Value} {off : Nat} {v : Value} (ha : aggT P t = some false) (h : vs[off]? = some v) : (part t vs.toArray off).run P w = .ok v w := by
  simp [part, aggT_run ha, h]

theorem eqFields_sound {P : Program} {C : Ctx} {w : World} (l m : List SV) (us vs : List Value) (hl : relL C w l us) (hm : relL C w m vs) (d : Nat) : ∀ (fs : List Field) (b : Bool), eqFields P l m fs = some b →
    Sem.run P (forIn fs (none, ()) fun (f : Field) (_ : Option Bool × Unit) =>
            if f.name ≠ "_" then do
              let a ← part f.type us.toArray f.offset
              let c ← part f.type vs.toArray f.offset
              let r ← Op.equalIn (d + 1) f.type a c
              if (!r) = true then pure (ForInStep.done (some false, ())) else pure (ForInStep.yield (none, ()))
            else pure (ForInStep.yield (none, ()))) w = .ok (if b = true then (none, ()) else (some false, ())) w
  | [], b, h => by
    simp only [eqFields, Option.some.injEq] at h
    subst h
    simp
  | f :: fs, b, h => by
    simp only [eqFields] at h
    cases hn : (f.name == "_") with
    | true => rw [hn] at h; simp at h
    | false =>
      rw [hn, cond_false] at h
      have hne : f.name ≠ "_" := by simpa using hn
      cases ha : aggT P f.type with
      | none => simp [ha] at h
      | some ag =>
      cases ag with
      | true => simp [ha] at h
      | false =>
      cases hx : l[f.offset]? with
      | none => simp [ha, hx] at h
      | some x =>
      cases hy : m[f.offset]? with
      | none => simp [ha, hx, hy] at h
      | some y =>
      simp only [ha, hx, hy] at h
      cases hc : eqCell P f.type x y with
      | none => simp [hc] at h
      | some p =>
      cases hf : eqFields P l m fs with
      | none => simp [hc, hf] at h
      | some q =>
      simp only [hc, hf, Option.some.injEq] at h
      subst h
      obtain ⟨u, hu1, hu2⟩ := relL_get _ x hl hx
      obtain ⟨v, hv1, hv2⟩ := relL_get _ y hm hy
      have ih := eqFields_sound l m us vs hl hm d fs q hf
      have he := eqCell_sound f.type x y u v p hu2 hv2 hc d
      rw [List.forIn_cons]
      simp only [hne, ne_eq, not_false_eq_true, if_true, Sem.run_bind, part_one ha hu1, part_one ha hv1, Result.andThen_ok, he]
      cases p with
      | true => simp only [Bool.not_true, Bool.false_eq_true, if_false, Sem.run_pure, Result.andThen_ok, Bool.true_and]; exact ih
      | false => simp

theorem eqGuard_agg {P : Program} {w : World} (op : BinOp) (t : TypeId) (ox oy : Operand) (xs ys : Array Value) (h : P.eqGuardType P.depth t = false) : (eqGuard op t ox oy (.agg xs) (.agg ys)).run P w = .ok () w := by
  unfold eqGuard
  split
  · rw [if_neg (by simp)]
    simp only [Sem.run_bind, run_program, Result.andThen_ok, h, Bool.not_false, if_true, Sem.run_pure]
  · rw [if_neg (by simp)]
    simp only [Sem.run_bind, run_program, Result.andThen_ok, h, Bool.not_false, if_true, Sem.run_pure]
  · rw [if_pos (by simp)]
    rfl

theorem eqGuard_bool {P : Program} {w : World} (op : BinOp) (t : TypeId) (ox oy : Operand) (x y : Bool) : (eqGuard op t ox oy (.bool x) (.bool y)).run P w = .ok () w := by
  unfold eqGuard
  split <;> rfl

theorem eqSV_sound {P : Program} {C : Ctx} {w : World} (t : TypeId) (x y : SV) (u v : Value) (b : Bool) (hx : rel C w x u) (hy : rel C w y v) (h : eqSV P t x y = some b) :
    (∀ op ox oy, (eqGuard op t ox oy u v).run P w = .ok () w) ∧ (Op.equal t u v).run P w = .ok b w ∧ (binOp .eql t u v = do pure (.bool (← Op.equal t u v))) ∧ (binOp .neq t u v = do pure (.bool (!(← Op.equal t u v)))) := by
  unfold eqSV at h
  split at h
  · rename_i fs l m hu
    obtain ⟨us, rfl, hl⟩ := hx
    obtain ⟨vs, rfl, hm⟩ := hy
    cases hg : (P.stoodInHeld t || P.eqGuardType P.depth t) with
    | true => rw [hg] at h; simp at h
    | false =>
      rw [hg, cond_false] at h
      simp only [Bool.or_eq_false_iff] at hg
      refine ⟨fun op ox oy => eqGuard_agg op t ox oy _ _ hg.2, ?_, rfl, rfl⟩
      have gen : ∀ d, (Op.equalIn (d + 1 + 1) t (.agg us.toArray) (.agg vs.toArray)).run P w = .ok b w := by
        intro d
        have hfs := eqFields_sound (P := P) l m us vs hl hm d fs.toList b h
        simp only [Op.equalIn, underlying, hu, hg.1, Sem.run_bind, run_program, Result.andThen_ok, Sem.run_pure, Bool.false_eq_true, if_false]
        rw [← Array.forIn_toList]
        refine (congrArg (fun r : Result (Option Bool × Unit) => r.andThen _) hfs).trans ?_
        cases b <;> rfl
      exact gen 9998
  · rename_i p q _
    rw [rel_cell] at hx hy; subst hx; subst hy
    exact ⟨fun op ox oy => eqGuard_bool op t ox oy _ _, eqCell_sound (C := C) t _ _ _ _ b (rel_cell.2 rfl) (rel_cell.2 rfl) h 9999, rfl, rfl⟩
  · cases h

def binSV' (P : Program) (t : TypeId) (op : BinOp) (x y : SV) : T SV :=
  match op with
  | .eql => match eqSV P t x y with
    | some b => .ret (vB b)
    | none => binSV .eql x y
  | .neq => match eqSV P t x y with
    | some b => .ret (vB (!b))
    | none => binSV .neq x y
  | op => binSV op x y

theorem binSV'_sound {P : Program} {C : Ctx} {w : World} (op : BinOp) (x y : SV) (u v : Value) (t : TypeId) (a b : Operand) {s : SV}
    (hx : rel C w x u) (hy : rel C w y v) (hok : (binSV' P t op x y).ok) (hv : (binSV' P t op x y).val = some s) :
    ∃ r, (do eqGuard op t a b u v; binOp op t u v : Sem Value).run P w = .ok r w ∧ rel C w s r := by
  have base : (binSV op x y).ok → (binSV op x y).val = some s → ∃ r, (do eqGuard op t a b u v; binOp op t u v : Sem Value).run P w = .ok r w ∧ rel C w s r := by
    intro h1 h2
    obtain ⟨r, rfl, hr⟩ := binSV_sound (P := P) op x y u v t a b hx hy h1 h2
    exact ⟨r, hr, rel_cell.2 rfl⟩
  cases op
  case eql =>
    simp only [binSV'] at hok hv
    cases he : eqSV P t x y with
    | none => simp only [he] at hok hv; exact base hok hv
    | some q =>
      simp only [he, T.val, Option.some.injEq] at hv
      subst hv
      obtain ⟨h1, h2, h3, _⟩ := eqSV_sound (P := P) t x y u v q hx hy he
      refine ⟨.bool q, ?_, rel_cell.2 rfl⟩
      simp only [Sem.run_bind, h1, Result.andThen_ok, h3, h2, Sem.run_pure]
  case neq =>
    simp only [binSV'] at hok hv
    cases he : eqSV P t x y with
    | none => simp only [he] at hok hv; exact base hok hv
    | some q =>
      simp only [he, T.val, Option.some.injEq] at hv
      subst hv
      obtain ⟨h1, h2, _, h4⟩ := eqSV_sound (P := P) t x y u v q hx hy he
      refine ⟨.bool (!q), ?_, rel_cell.2 rfl⟩
      simp only [Sem.run_bind, h1, Result.andThen_ok, h4, h2, Sem.run_pure]
  all_goals exact base hok hv

/-- an operator on two numbers that are known -/
def kiOp (op : BinOp) (k : IntKind) (x y : Int) : Option (T SV) :=
  match op with
  | .add => some (bif decide (lo k ≤ x + y) && decide (x + y ≤ hi k) then .ret (.ki k (x + y)) else .fail)
  | .sub => some (bif decide (lo k ≤ x - y) && decide (x - y ≤ hi k) then .ret (.ki k (x - y)) else .fail)
  | .eql => some (.ret (.kb (decide (x = y))))
  | .neq => some (.ret (.kb (!decide (x = y))))
  | .lss => some (.ret (.kb (decide (x < y))))
  | .leq => some (.ret (.kb (decide (x ≤ y))))
  | .gtr => some (.ret (.kb (decide (x > y))))
  | .geq => some (.ret (.kb (decide (x ≥ y))))
  | _ => none

def binK (P : Program) (t : TypeId) (op : BinOp) (x y : SV) : T SV :=
  match x, y with
  | .ki k a, .ki k' b => if k = k' then match kiOp op k a b with
      | some t => t
      | none => binSV' P t op (nrm x) (nrm y)
    else .fail
  | x, y => binSV' P t op (nrm x) (nrm y)

theorem binK_sound {P : Program} {C : Ctx} {w : World} (op : BinOp) (x y : SV) (u v : Value) (t : TypeId) (a b : Operand) {s : SV}
    (hx : rel C w x u) (hy : rel C w y v) (hok : (binK P t op x y).ok) (hv : (binK P t op x y).val = some s) :
    ∃ r, (do eqGuard op t a b u v; binOp op t u v : Sem Value).run P w = .ok r w ∧ rel C w s r := by
  have base : ∀ x y : SV, rel C w x u → rel C w y v → (binSV' P t op (nrm x) (nrm y)).ok → (binSV' P t op (nrm x) (nrm y)).val = some s → ∃ r, (do eqGuard op t a b u v; binOp op t u v : Sem Value).run P w = .ok r w ∧ rel C w s r :=
    fun x y hx hy h1 h2 => binSV'_sound op _ _ u v t a b (nrm_rel hx) (nrm_rel hy) h1 h2
  unfold binK at hok hv
  split at hok
  · rename_i k n k' m
    by_cases hk : k = k'
    · subst hk
      simp only [if_true] at hok hv
      cases ho : kiOp op k n m with
      | none => rw [ho] at hok hv; exact base _ _ hx hy hok hv
      | some tt =>
        rw [ho] at hok hv
        simp only at hok hv
        have hu : u = .int k n := hx
        have hvv : v = .int k m := hy
        subst hu; subst hvv
        cases op <;> simp only [kiOp, Option.some.injEq, reduceCtorEq] at ho <;> subst ho <;>
          first
            | (simp only [T.val, Option.some.injEq] at hv
               subst hv
               exact ⟨_, by simp [eqGuard, binOp, Op.intArith, Op.intDiv, Op.intCmp]; rfl, by
                 show Value.bool _ = Value.bool _
                 congr 1
                 first | rfl | (rw [Bool.eq_iff_iff]; simp) | (simp [bne]; done) | skip⟩)
            | (cases hb : (decide (lo k ≤ n + m) && decide (n + m ≤ hi k)) with
               | false => rw [hb] at hok; exact hok.elim
               | true =>
                 rw [hb] at hv
                 simp only [cond_true, T.val, Option.some.injEq] at hv
                 subst hv
                 simp only [Bool.and_eq_true, decide_eq_true_eq] at hb
                 exact ⟨.int k (n + m), by simp [eqGuard, binOp, Op.intArith, wrap_in _ _ hb], rfl⟩)
            | (cases hb : (decide (lo k ≤ n - m) && decide (n - m ≤ hi k)) with
               | false => rw [hb] at hok; exact hok.elim
               | true =>
                 rw [hb] at hv
                 simp only [cond_true, T.val, Option.some.injEq] at hv
                 subst hv
                 simp only [Bool.and_eq_true, decide_eq_true_eq] at hb
                 exact ⟨.int k (n - m), by simp [eqGuard, binOp, Op.intArith, wrap_in _ _ hb], rfl⟩)
    · simp [hk, T.ok] at hok
  · rename_i h1
    split at hv
    · exact (h1 _ _ _ _ rfl rfl).elim
    · exact base _ _ hx hy hok hv

/-- no slice as an empty one -/
def arrS (P : Program) (t : TypeId) (x : SV) : SV :=
  match P.underlying t, x with
  | some (.slice e), .dt (.cell (.slice none 0 _)) => .dt (.arr ((szOf P e).getD 0) 0 fun _ _ => undefCell)
  | _, _ => x

theorem arrS_rel {P : Program} {t : TypeId} {C : Ctx} {w : World} {s : SV} {v : Value} (h : rel C w s v) : rel C w (arrS P t s) v := by
  unfold arrS
  split
  · rw [rel_cell] at h
    subst h
    intro w' _
    exact ⟨none, _, rfl, Nat.zero_le _, fun h => absurd h (Nat.lt_irrefl 0)⟩
  · exact h

/-! ## one operation -/
def sxOp (P : Program) (rw : Operand → SV) (g : Nat → Option Ob) (new : Nat) (o : Oper) : T Res :=
  let ev := fun x => nrm (rw x)
  match o.op with
  | .move x => .ret ⟨rw x, .none⟩
  | .assign x => .ret ⟨rw x, .none⟩
  | .pick c a b => match rw c with
    | .kb q => bif q then .ret ⟨rw a, .none⟩ else .ret ⟨rw b, .none⟩
    | .dt (.cell (.bool q)) => .ite q (.ret ⟨rw a, .none⟩) (.ret ⟨rw b, .none⟩)
    | _ => .fail
  | .alloc t => match zeroOf P t with
    | some cs => .ret ⟨.ptr new 0, ⟨[(new, some (.cells t cs))], [new]⟩⟩
    | none => .fail
  | .box t x => match cellsSV (ev x) with
    | some cs => .ret ⟨.ptr new 0, ⟨[(new, some (.cells t cs))], [new]⟩⟩
    | none => .fail
  | .build t ps => (buildSV P t (ps.toList.map fun p => (p.1, ev p.2))).bind fun s => .ret ⟨s, .none⟩
  | .buildSlice t n ps => (buildSliceSV P t n (ps.toList.map fun p => (p.1, ev p.2))).bind fun s => .ret ⟨s, .none⟩
  | .load t x => (loadSV P g t (ev x)).bind fun s => .ret ⟨s, .none⟩
  | .store t p x => storeSV P g t (ev p) (ev x)
  | .binOp op t x y _ => (binK P t op (rw x) (rw y)).bind fun s => .ret ⟨s, .none⟩
  | .unOp op _ x => (unSV op (rw x)).bind fun s => .ret ⟨s, .none⟩
  | .makeFunc (.func f) first caps => bif first.isEmpty then .ret ⟨.fn f (caps.toList.map ev), .none⟩ else .fail
  | .fieldAddr s x f => (fieldAddrSV P s f (ev x)).bind fun s => .ret ⟨s, .none⟩
  | .field t x f => (fieldSV P t (ev x) f).bind fun s => .ret ⟨s, .none⟩
  | .indexAddr t x i => (indexAddrSV P g t (arrS P t (ev x)) (ev i)).bind fun s => .ret ⟨s, .none⟩
  | .index t x i => (indexSV P t (ev x) (ev i)).bind fun s => .ret ⟨s, .none⟩
  | .slice t x low high none => (cutSV P t (arrS P t (ev x)) (low.map ev) (high.map ev)).bind fun s => .ret ⟨s, .none⟩
  | .extract x i => (extractSV (ev x) i).bind fun s => .ret ⟨s, .none⟩
  | .call { callee := .builtin .len, args := ⟨[x]⟩, argTypes := ⟨[t]⟩ } => (lenSV P g t (ev x)).bind fun s => .ret ⟨s, .none⟩
  | _ => .fail

theorem bind_ret {α β : Type} (t : T α) (f : α → β) : (t.bind fun s => .ret (f s)).ok = t.ok ∧ (t.bind fun s => .ret (f s)).val = t.val.map f := by
  induction t with
  | ret a => simp [T.bind, T.ok, T.val]
  | ite b t e h1 h2 => cases b <;> simp [T.bind, T.ok, T.val, h1.1, h1.2, h2.1, h2.2]
  | need p t h => simp [T.bind, T.ok, T.val, h.1, h.2]
  | both t e h1 h2 => simp [T.bind, T.ok, T.val]
  | all n f h => simp [T.bind, T.ok, T.val]
  | fail => simp [T.bind, T.ok, T.val]

/-- what carrying out an operation that enters no function comes to -/
def Did (P : Program) (a : Act) (o : Oper) (C : Ctx) (w : World) (r : Res) : Prop :=
  ∃ v w' C', ((execOp a.eval o).run P w = .ok (.value v) w' ∨ ((execOp a.eval o).run P w = .ok .skip w' ∧ v = undef)) ∧ Came C w r C' w' v

theorem Did.value {P : Program} {a : Act} {o : Oper} {C : Ctx} {w : World} (hw : WF C w) {t : T SV} {r : Res}
    (hok : (t.bind fun s => .ret (⟨s, .none⟩ : Res)).ok) (hval : (t.bind fun s => .ret (⟨s, .none⟩ : Res)).val = some r)
    (h : ∀ s, t.ok → t.val = some s → ∃ v, (execOp a.eval o).run P w = .ok (.value v) w ∧ rel C w s v) : Did P a o C w r := by
  rw [(bind_ret t _).1] at hok
  rw [(bind_ret t _).2] at hval
  cases hv : t.val with
  | none => rw [hv] at hval; cases hval
  | some s =>
    rw [hv] at hval
    simp only [Option.map_some, Option.some.injEq] at hval
    subst hval
    obtain ⟨v, h1, h2⟩ := h s hok hv
    exact ⟨v, w, C, .inl h1, Came.pure hw h2⟩
end Rx
