/- Rx, part L: what an operation looks at; a region that draws its order, seen in the order of the text. -/
import Derived.Test.YtnalaogenpicfaaDoorRxKn
set_option linter.unusedSectionVars false
set_option linter.unusedSimpArgs false
set_option linter.unusedVariables false
namespace Rx
open Go
variable [Glob]

def ptrId : SV → List Nat
  | .ptr i _ => [i]
  | .rp i _ _ _ => [i]
  | _ => []

def accE (rw : Operand → SV) (o : Oper) : List Nat :=
  match o.op with
  | .load _ x => ptrId (nrm (rw x))
  | .store _ p _ => ptrId (nrm (rw p))
  | _ => []

def allNm (rw : Operand → SV) (o : Oper) : List Nat := o.op.operands.toList.flatMap fun x => svNm (rw x)

/-- what a call is given -/
def callArgs (rw : Operand → SV) (o : Oper) : List SV :=
  match o.op with
  | .call { callee := .value f, args, argTypes := _ } =>
    match rw f with
    | .fn _ caps => args.toList.map (fun x => nrm (rw x)) ++ caps
    | _ => []
  | _ => []

def accK (E : Env) (rid i : Nat) (σ : St) (o : Oper) : List Nat :=
  (match E.K rid i with
  | some s => s.acc (callArgs (evS σ) o) σ.obj σ.nob
  | none => accE (evS σ) o) ++ o.op.operands.toList.flatMap (opNm σ)

theorem loadSV_congr {P : Program} {g g' : Nat → Option Ob} {t : TypeId} {p : SV} (h : ∀ i ∈ ptrId p, g i = g' i) : loadSV P g t p = loadSV P g' t p := by
  cases p with
  | ptr i off => have := h i (by simp [ptrId]); simp only [loadSV, this]
  | rp i x z off => have := h i (by simp [ptrId]); simp only [loadSV, this]
  | _ => simp only [loadSV]

theorem storeSV_congr {P : Program} {g g' : Nat → Option Ob} {t : TypeId} {p v : SV} (h : ∀ i ∈ ptrId p, g i = g' i) : storeSV P g t p v = storeSV P g' t p v := by
  unfold storeSV
  cases szOf P t with
  | none => rfl
  | some n =>
    cases cellsSV v with
    | none => rfl
    | some us =>
      cases p with
      | ptr i off => have := h i (by simp [ptrId]); simp only [this]
      | rp i x z off => have := h i (by simp [ptrId]); simp only [this]
      | _ => rfl

theorem nrm_nm (s : SV) : svNm (nrm s) = svNm s := by cases s <;> rfl

theorem arrS_nm (P : Program) (t : TypeId) (s : SV) : ∀ i ∈ svNm (arrS P t s), i ∈ svNm s := by
  intro i h
  unfold arrS at h
  split at h
  · simp [svNm] at h
  · exact h

theorem indexAddrSV_congr {P : Program} {g g' : Nat → Option Ob} {t : TypeId} {x ix : SV} (h : ∀ i ∈ svNm x, g i = g' i) : indexAddrSV P g t x ix = indexAddrSV P g' t x ix := by
  have h : ∀ i, x = .nm i → g i = g' i := fun i hi => h i (by rw [hi]; simp [svNm])
  unfold indexAddrSV
  generalize P.underlying t = d
  split <;> simp_all

theorem lenSV_congr {P : Program} {g g' : Nat → Option Ob} {t : TypeId} {x : SV} (h : ∀ i ∈ svNm x, g i = g' i) : lenSV P g t x = lenSV P g' t x := by
  have h : ∀ i, x = .nm i → g i = g' i := fun i hi => h i (by rw [hi]; simp [svNm])
  unfold lenSV
  generalize P.underlying t = d
  split <;> simp_all

theorem rowIn_congr {g g' : Nat → Option Ob} {e : TypeId} {sz : Nat} {s : SV} (h : ∀ i ∈ svNm s, g i = g' i) : rowIn g e sz s = rowIn g' e sz s := by
  have h : ∀ i, s = .nm i → g i = g' i := fun i hi => h i (by rw [hi]; simp [svNm])
  unfold rowIn
  split <;> simp_all

theorem appendSV_congr {P : Program} {g g' : Nat → Option Ob} {new : Nat} {t : TypeId} {s x : SV} (h : ∀ i ∈ svNm s, g i = g' i) : appendSV P g new t s x = appendSV P g' new t s x := by
  have : ∀ e sz, rowIn g e sz s = rowIn g' e sz s := fun e sz => rowIn_congr h
  simp only [appendSV, this]

theorem appendStrSV_congr {P : Program} {g g' : Nat → Option Ob} {new : Nat} {t tx : TypeId} {s x : SV} (h : ∀ i ∈ svNm s, g i = g' i) : appendStrSV P g new t tx s x = appendStrSV P g' new t tx s x := by
  have : ∀ e sz, rowIn g e sz s = rowIn g' e sz s := fun e sz => rowIn_congr h
  simp only [appendStrSV, this]

theorem cutRowSV_congr {P : Program} {g g' : Nat → Option Ob} {new : Nat} {t : TypeId} {i : Nat} {low : Option SV} {high : SV} (h : g i = g' i) : cutRowSV P g new t i low high = cutRowSV P g' new t i low high := by
  simp only [cutRowSV, h]

theorem mapIn_congr {P : Program} {g g' : Nat → Option Ob} {t : TypeId} {x : SV} (h : ∀ i ∈ svNm x, g i = g' i) : mapIn P g t x = mapIn P g' t x := by
  have h : ∀ i, x = .nm i → g i = g' i := fun i hi => h i (by rw [hi]; simp [svNm])
  unfold mapIn
  generalize P.underlying t = d
  split
  · split <;> simp_all
  · rfl

theorem lookupSV_congr {P : Program} {g g' : Nat → Option Ob} {t : TypeId} {x ix : SV} {ok : Bool} (h : ∀ i ∈ svNm x, g i = g' i) : lookupSV P g t x ix ok = lookupSV P g' t x ix ok := by
  simp only [lookupSV, mapIn_congr h]

theorem mapUpdSV_congr {P : Program} {g g' : Nat → Option Ob} {t : TypeId} {x ix y : SV} (h : ∀ i ∈ svNm x, g i = g' i) : mapUpdSV P g t x ix y = mapUpdSV P g' t x ix y := by
  have h : ∀ i, x = .nm i → g i = g' i := fun i hi => h i (by rw [hi]; simp [svNm])
  unfold mapUpdSV
  generalize P.underlying t = d
  split <;> simp_all

theorem rangeSV_congr {P : Program} {g g' : Nat → Option Ob} {new : Nat} {t : TypeId} {x : SV} (h : ∀ i ∈ svNm x, g i = g' i) : rangeSV P g new t x = rangeSV P g' new t x := by
  have h : ∀ i, x = .nm i → g i = g' i := fun i hi => h i (by rw [hi]; simp [svNm])
  unfold rangeSV
  generalize P.underlying t = d
  split <;> simp_all

theorem mem_allNm {rw : Operand → SV} {o : Oper} {x : Operand} (hx : x ∈ o.op.operands) {i : Nat} (hi : i ∈ svNm (rw x)) : i ∈ allNm rw o := by
  unfold allNm
  rw [List.mem_flatMap]
  exact ⟨x, by simpa using hx, hi⟩

theorem sxOp_congr {P : Program} {rw : Operand → SV} {g g' : Nat → Option Ob} {new : Nat} {o : Oper} (h : ∀ i ∈ accE rw o, g i = g' i) (h' : ∀ i ∈ allNm rw o, g i = g' i) : sxOp P rw g new o = sxOp P rw g' new o := by
  unfold accE at h
  unfold sxOp
  dsimp only
  split
  all_goals first
    | rfl
    | skip
  · rename_i t x ho
    simp only [ho] at h
    rw [loadSV_congr h]
  · rename_i t x y ho
    simp only [ho] at h
    exact storeSV_congr h
  · rename_i t x i ho
    rw [indexAddrSV_congr fun j hj => h' j (mem_allNm (x := x) (by rw [ho]; simp [Op.operands]) (nrm_nm _ ▸ arrS_nm _ _ _ j hj))]
  · rename_i x t ho
    rw [lenSV_congr fun j hj => h' j (mem_allNm (x := x) (by rw [ho]; simp [Op.operands, Call.operands]) (nrm_nm _ ▸ hj))]

mutual
theorem frzSV_nm {g : Nat → Option Ob} {L : List Nat} : ∀ (s : SV), ∀ i ∈ svNm (frzSV g L s), i ∈ svNm s
  | .nm j, i, h => by
    simp only [frzSV] at h
    cases hc : L.contains j with
    | false => rw [hc] at h; exact h
    | true =>
      rw [hc, cond_true] at h
      split at h
      · simp [svNm] at h
      · exact h
  | .agg l, i, h => frzSVL_nm l i h
  | .tup l, i, h => frzSVL_nm l i h
  | .junk, _, h => h
  | .dt _, _, h => h
  | .ptr _ _, _, h => h
  | .el _ _, _, h => h
  | .fn _ _, _, h => h
  | .kb _, _, h => h
  | .ki _ _, _, h => h
  | .rp _ _ _ _, _, h => h
theorem frzSVL_nm {g : Nat → Option Ob} {L : List Nat} : ∀ (l : List SV), ∀ i ∈ svNmL (frzSVL g L l), i ∈ svNmL l
  | [], _, h => h
  | s :: l, i, h => by
    simp only [frzSVL, svNmL, List.mem_append] at h ⊢
    exact h.imp (frzSV_nm s i) (frzSVL_nm l i)
end

theorem sxE_congr {P : Program} {rw : Operand → SV} {g g' : Nat → Option Ob} {new : Nat} {o : Oper} (h : ∀ i ∈ accE rw o, g i = g' i) (h' : ∀ i ∈ allNm rw o, g i = g' i) : sxE P rw g new o = sxE P rw g' new o := by
  have base := sxOp_congr (P := P) (new := new) h h'
  unfold sxE
  dsimp only
  split
  · rfl
  · rename_i s x t tx ho
    have hs : ∀ j ∈ svNm (rw s), g j = g' j := fun j hj => h' j (mem_allNm (x := s) (by rw [ho]; simp [Op.operands, Call.operands]) hj)
    rw [appendSV_congr hs, appendStrSV_congr hs]
  · rfl
  · rename_i t x low high ho
    split
    · rename_i i hs
      exact cutRowSV_congr (h' i (mem_allNm (x := x) (by rw [ho]; simp [Op.operands]) (by rw [hs]; simp [svNm])))
    · rfl
    · exact base
  · rfl
  · rfl
  · rfl
  · rfl
  · rfl
  · rename_i t x i ok ho
    rw [lookupSV_congr fun j hj => h' j (mem_allNm (x := x) (by rw [ho]; simp [Op.operands]) hj)]
  · rename_i t m k y ho
    rw [mapUpdSV_congr fun j hj => h' j (mem_allNm (x := m) (by rw [ho]; simp [Op.operands]) hj)]
  · rename_i t m k y ho
    rw [mapUpdSV_congr fun j hj => h' j (mem_allNm (x := m) (by rw [ho]; simp [Op.operands]) hj)]
  · rename_i t x ho
    rw [rangeSV_congr fun j hj => h' j (mem_allNm (x := x) (by rw [ho]; simp [Op.operands]) hj)]
  · rfl
  · rename_i t n ps _ ho
    have e : (o.op.operands.toList.flatMap fun x => frzIds g [] (rw x)) = o.op.operands.toList.flatMap fun x => frzIds g' [] (rw x) := by
      rw [List.flatMap_def, List.flatMap_def]
      congr 1
      exact List.map_congr_left fun x hx => frzIds_congr _ fun i hi => h' i (mem_allNm (by simpa using hx) hi)
    have hsub : ∀ j ∈ (o.op.operands.toList.flatMap fun x => frzIds g' [] (rw x)), j ∈ allNm rw o := by
      intro j hj
      rw [List.mem_flatMap] at hj
      obtain ⟨x, hx, hj⟩ := hj
      exact mem_allNm (by simpa using hx) (frzIds_sub _ j hj)
    rw [e]
    split
    · exact base
    · rename_i i l hL
      rw [hL] at hsub
      have h1 : frzEff g (i :: l) = frzEff g' (i :: l) := by
        simp only [frzEff, rowOf]
        exact List.map_congr_left fun j hj => by rw [h' j (hsub j hj)]
      rw [h1]
      congr 1
      simp only [sxOp, ho]
      congr 2
      exact List.map_congr_left fun p hp => by rw [frzSV_congr (rw p.2) fun j hj => h' j (mem_allNm (x := p.2) (by rw [ho]; simp [Op.operands]; exact ⟨p.1, by simpa using hp⟩) hj)]
  · exact base

/-! ## the trace of a region in the order of the text -/
def sxTrace (E : Env) (ops : Array Oper) (rid : Nat) : Nat → List Oper → St → T (List (Res × St))
  | _, [], _ => .ret []
  | i, o :: l, σ => bif (sxStep E ops rid i o σ).det then (sxStep E ops rid i o σ).bind fun x => (sxTrace E ops rid (i + 1) l ((x.2.eff x.1.eff).put o.dst x.1.sv)).bind fun tr => .ret (x :: tr) else .fail

theorem T.bind_det {α β : Type} {f : α → T β} (hf : ∀ a, (f a).det = true) : ∀ t : T α, t.det = true → (t.bind f).det = true
  | .ret a, _ => hf a
  | .ite b t e, h => by
    simp only [T.det, Bool.and_eq_true] at h
    simp only [T.bind, T.det, Bool.and_eq_true]
    exact ⟨T.bind_det hf t h.1, T.bind_det hf e h.2⟩
  | .need p t, h => T.bind_det hf t h
  | .fail, _ => rfl
  | .both _ _, h => by simp [T.det] at h
  | .all _ _, h => by simp [T.det] at h

theorem trace_det {E : Env} {ops : Array Oper} {rid : Nat} : ∀ (l : List Oper) (i : Nat) (σ : St), (sxTrace E ops rid i l σ).det = true
  | [], _, _ => rfl
  | o :: l, i, σ => by
    simp only [sxTrace]
    cases hd : (sxStep E ops rid i o σ).det with
    | false => rfl
    | true =>
      rw [cond_true]
      exact T.bind_det (fun x => T.bind_det (fun tr => rfl) _ (trace_det l (i + 1) _)) _ hd

def stAt (ops : List Oper) (σ : St) (tr : List (Res × St)) : Nat → St
  | 0 => σ
  | k + 1 => match tr[k]?, ops[k]? with
    | some x, some o => (x.2.eff x.1.eff).put o.dst x.1.sv
    | _, _ => σ

theorem trace_fact {E : Env} {ops : Array Oper} {rid : Nat} : ∀ (l : List Oper) (i : Nat) (σ : St) (tr : List (Res × St)), (sxTrace E ops rid i l σ).ok → (sxTrace E ops rid i l σ).val = some tr →
    tr.length = l.length ∧ ∀ (m : Nat) (o : Oper), l[m]? = some o → ∃ x, tr[m]? = some x ∧ (sxStep E ops rid (i + m) o (stAt l σ tr m)).ok ∧ (sxStep E ops rid (i + m) o (stAt l σ tr m)).val = some x
  | [], i, σ, tr, _, hv => by
    simp only [sxTrace, T.val, Option.some.injEq] at hv
    subst hv
    exact ⟨rfl, fun m o h => by simp at h⟩
  | o :: l, i, σ, tr, hok, hv => by
    simp only [sxTrace] at hok hv
    cases hd : (sxStep E ops rid i o σ).det with
    | false => rw [hd] at hv; cases hv
    | true =>
    rw [hd, cond_true] at hok hv
    obtain ⟨x, hx, hv⟩ := T.bind_val hv
    obtain ⟨hok1, hok2⟩ := T.bind_ok hok
    have hok2 := hok2 x hx
    obtain ⟨tr', ht, hv⟩ := T.bind_val hv
    simp only [T.val, Option.some.injEq] at hv
    subst hv
    have hok3 := (T.bind_ok hok2).1
    obtain ⟨hl, hf⟩ := trace_fact l (i + 1) _ tr' hok3 ht
    refine ⟨by simp [hl], fun m o' ho' => ?_⟩
    cases m with
    | zero =>
      simp only [List.getElem?_cons_zero, Option.some.injEq] at ho'
      subst ho'
      exact ⟨x, rfl, hok1, hx⟩
    | succ m =>
      simp only [List.getElem?_cons_succ] at ho'
      obtain ⟨y, hy, h1, h2⟩ := hf m o' ho'
      refine ⟨y, by simpa using hy, ?_⟩
      have e : stAt (o :: l) σ (x :: tr') (m + 1) = stAt l ((x.2.eff x.1.eff).put o.dst x.1.sv) tr' m := by
        cases m with
        | zero => rfl
        | succ m =>
          simp only [stAt, List.getElem?_cons_succ]
          have hm : m < l.length := by
            have := (List.getElem?_eq_some_iff.1 ho').1; omega
          have hm' : m < tr'.length := by omega
          rw [List.getElem?_eq_getElem hm, List.getElem?_eq_getElem hm']
      rw [e]
      have e2 : i + (m + 1) = i + 1 + m := by omega
      rw [e2]
      exact ⟨h1, h2⟩
end Rx
