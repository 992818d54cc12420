/- Rx, part J: states; operations one behind the other. -/
import Derived.Test.YtnalaogenpicfaaDoorRxHe
set_option linter.unusedSectionVars false
set_option linter.unusedSimpArgs false
set_option linter.unusedVariables false
namespace Rx
open Go
variable [Glob]

structure St where
  sl : Tr SV
  ob : Tr (Option Ob)
  nob : Nat

def St.get (σ : St) (j : Nat) : SV := σ.sl.get .junk j
def St.obj (σ : St) (i : Nat) : Option Ob := σ.ob.get none i

def ofConst : Value → SV
  | .agg cs => .agg (cs.toList.map ofCell)
  | v => ofCell v
theorem rel_ofConst (C : Ctx) (w : World) (v : Value) : rel C w (ofConst v) v := by
  unfold ofConst
  split
  · exact ⟨_, rfl, relL_ofCells C w _⟩
  · exact rel_ofCell C w _

def evS (σ : St) : Operand → SV
  | .tmp t => thaw σ.obj (σ.get t)
  | .const v => ofConst v
  | .global g => .dt (.cell (.pointer (some ⟨g, 0, none⟩)))
  | .func f => .fn f []

/-- the numbers of slices and maps behind an operand -/
def opNm (σ : St) : Operand → List Nat
  | .tmp t => svNm (σ.get t)
  | _ => []

theorem ofCell_nm (v : Value) : svNm (ofCell v) = [] := by unfold ofCell; split <;> rfl
theorem ofCells_nm : ∀ l : List Value, svNmL (l.map ofCell) = []
  | [] => rfl
  | v :: l => by simp only [List.map_cons, svNmL, ofCell_nm, ofCells_nm l, List.append_nil]

theorem evS_nm (σ : St) (x : Operand) : ∀ i ∈ svNm (evS σ x), i ∈ opNm σ x := by
  intro i h
  cases x with
  | tmp t => exact thaw_nm _ i h
  | const v =>
    have h : i ∈ svNm (ofConst v) := h
    unfold ofConst at h
    split at h
    · simp only [svNm, ofCells_nm] at h; simp at h
    · rw [ofCell_nm] at h; simp at h
  | global g => simp [evS, svNm] at h
  | func f => simp [evS, svNm, svNmL] at h

theorem evS_rel (C : Ctx) (w : World) (σ : St) (a : Act) (x : Operand) (hg : ∀ i ∈ opNm σ x, ∀ ob, σ.obj i = some ob → obHolds C w i ob) (h : ∀ t, x = .tmp t → rel C w (σ.get t) (a.tmps.getD t undef)) : rel C w (evS σ x) (a.eval x) := by
  cases x with
  | tmp t => exact thaw_rel _ _ hg (h t rfl)
  | const v => exact rel_ofConst C w v
  | global g => exact rel_cell.2 rfl
  | func f => exact ⟨[], rfl, rfl⟩

def CAP : Nat := 12
def capOk (n : Nat) : Bool := Nat.blt n 4095
theorem capOk_lt {n : Nat} (h : capOk n = true) : n < 2 ^ CAP - 1 := by
  have : n < 4095 := by simpa [capOk, Nat.blt_eq] using h
  simpa [CAP] using this

def St.put (σ : St) (d : Option Tmp) (s : SV) : St :=
  match d with
  | some d => { σ with sl := σ.sl.set .junk CAP d s }
  | none => σ
def St.setOb (σ : St) (i : Nat) (ob : Option Ob) : St := { σ with ob := σ.ob.set none CAP i ob }
def St.eff (σ : St) (e : Eff) : St :=
  let σ' := e.us.foldr (fun x σ => σ.setOb x.1 x.2) σ
  match e.new with
  | [] => σ'
  | _ => { σ' with nob := σ.nob + e.new.length }

def effOk (e : Eff) : Bool := e.us.all fun x => capOk x.1

def pickD {α : Type} (d : Option Nat) (j : Nat) (a b : α) : α :=
  match d with
  | some t => if j = t then a else b
  | none => b
theorem pickD_some {α : Type} (t j : Nat) (a b : α) : pickD (some t) j a b = if j = t then a else b := rfl
theorem pickD_none {α : Type} (j : Nat) (a b : α) : pickD none j a b = b := rfl

theorem put_get (σ : St) (d : Option Tmp) (s : SV) (j : Nat) (h : ∀ t, d = some t → capOk t = true) : (σ.put d s).get j = pickD d j s (σ.get j) := by
  cases d with
  | none => rfl
  | some t => exact Tr.get_set _ _ _ _ _ _ (capOk_lt (h t rfl))

theorem setOb_obj (σ : St) (i : Nat) (ob : Option Ob) (j : Nat) (h : capOk i = true) : (σ.setOb i ob).obj j = if j = i then ob else σ.obj j := Tr.get_set _ _ _ _ _ _ (capOk_lt h)
theorem put_obj (σ : St) (d : Option Tmp) (s : SV) (j : Nat) : (σ.put d s).obj j = σ.obj j := by cases d <;> rfl
theorem put_nob (σ : St) (d : Option Tmp) (s : SV) : (σ.put d s).nob = σ.nob := by cases d <;> rfl

theorem foldr_obj (σ : St) : ∀ (l : List (Nat × Option Ob)) (j : Nat), (l.all fun x => capOk x.1) = true → (l.foldr (fun x σ => σ.setOb x.1 x.2) σ).obj j = (l.lookup j).getD (σ.obj j)
  | [], _, _ => rfl
  | (i, ob) :: l, j, h => by
    simp only [List.all_cons, Bool.and_eq_true] at h
    simp only [List.foldr_cons]
    rw [setOb_obj _ _ _ _ h.1]
    by_cases hj : j = i
    · subst hj; simp [List.lookup]
    · have : (j == i) = false := by simpa using hj
      simp only [hj, if_false, List.lookup, this]
      exact foldr_obj σ l j h.2

theorem foldr_get (σ : St) : ∀ (l : List (Nat × Option Ob)) (j : Nat), (l.foldr (fun x σ => σ.setOb x.1 x.2) σ).get j = σ.get j
  | [], _ => rfl
  | (i, ob) :: l, j => foldr_get σ l j
theorem foldr_nob (σ : St) : ∀ (l : List (Nat × Option Ob)), (l.foldr (fun x σ => σ.setOb x.1 x.2) σ).nob = σ.nob
  | [] => rfl
  | (i, ob) :: l => foldr_nob σ l

theorem eff_obj (σ : St) (e : Eff) (j : Nat) (h : effOk e = true) : (σ.eff e).obj j = e.obs σ.obj j := by
  unfold St.eff
  simp only
  split <;> exact foldr_obj σ e.us j h

theorem eff_get (σ : St) (e : Eff) (j : Nat) : (σ.eff e).get j = σ.get j := by
  unfold St.eff
  simp only
  split <;> exact foldr_get σ e.us j

theorem eff_nob (σ : St) (e : Eff) : (σ.eff e).nob = σ.nob + e.new.length := by
  unfold St.eff
  simp only
  split
  · rename_i h
    rw [h]; exact foldr_nob σ e.us
  · rfl

/-- n, n + 1, .. -/
def seqFrom : Nat → List Nat → Bool
  | _, [] => true
  | n, x :: l => Nat.beq x n && seqFrom (n + 1) l

theorem seqFrom_mem : ∀ {l : List Nat} {n i : Nat}, seqFrom n l = true → i ∈ l → n ≤ i ∧ i < n + l.length
  | [], _, _, _, h => by simp at h
  | x :: l, n, i, h, hi => by
    simp only [seqFrom, Bool.and_eq_true] at h
    have := Nat.eq_of_beq_eq_true h.1
    subst this
    simp only [List.mem_cons] at hi
    simp only [List.length_cons]
    rcases hi with rfl | hi
    · omega
    · have := seqFrom_mem h.2 hi; omega

def newOk (e : Eff) (n : Nat) : Bool := seqFrom n e.new

structure Inv (N : Nat) (C : Ctx) (σ : St) (a : Act) (w : World) : Prop where
  wf : WF C w
  sz : a.tmps.size = N
  df : a.defers = []
  sl : ∀ j, rel C w (σ.get j) (a.tmps.getD j undef)
  ob : ObsOk C w σ.obj
  nb : ∀ i, σ.nob ≤ i → C.ν i = none

abbrev Top : Nat → Prop := fun _ => True

def dstOk (N : Nat) (d : Option Tmp) : Bool :=
  match d with
  | some t => Nat.blt t N && capOk t
  | none => true

theorem getD_put (a : Act) (d : Option Tmp) (v : Value) (j : Nat) (h : ∀ t, d = some t → t < a.tmps.size) : (a.put d v).tmps.getD j undef = pickD d j v (a.tmps.getD j undef) := by
  cases d with
  | none => rfl
  | some t =>
    have ht := h t rfl
    simp only [Act.put, pickD_some]
    rw [Array.getD_eq_getD_getElem?, Array.getD_eq_getD_getElem?, Array.getElem?_setIfInBounds]
    by_cases hj : j = t
    · subst hj; simp [ht]
    · have : ¬ t = j := fun e => hj e.symm
      simp [hj, this]

/-- the objects behind an operation -/
theorem Came.obsOk {C C' : Ctx} {w w' : World} {g : Nat → Option Ob} {r : Res} {v : Value} (hw : WF C w) (hg : ObsOk C w g) (hc : Came C w r C' w' v) : ObsOk C' w' (r.eff.obs g) := by
  intro i ob h
  unfold Eff.obs at h
  cases hl : r.eff.us.lookup i with
  | some x =>
    rw [hl] at h
    simp only [Option.getD_some] at h
    exact hc.obs i ob (by rw [hl, h])
  | none =>
    rw [hl] at h
    exact ob_step hw hc.step (not_mem_of_lookup hl) ob (hg i ob h)

/-- one operation was carried out: the state behind it -/
theorem Inv.next {N : Nat} {C C' : Ctx} {σ : St} {a : Act} {w w' : World} {r : Res} {v : Value} {d : Option Tmp} (h : Inv N C σ a w) (hc : Came C w r C' w' v)
    (he : effOk r.eff = true) (hd : dstOk N d = true) (hnew : newOk r.eff σ.nob = true) : Inv N C' ((σ.eff r.eff).put d r.sv) (a.put d v) w' := by
  have hcap : ∀ t, d = some t → capOk t = true := fun t e => by subst e; simp only [dstOk, Bool.and_eq_true] at hd; exact hd.2
  have hlt : ∀ t, d = some t → t < a.tmps.size := fun t e => by subst e; simp only [dstOk, Bool.and_eq_true] at hd; rw [h.sz]; simpa [Nat.blt_eq] using hd.1
  refine ⟨hc.wf, ?_, ?_, fun j => ?_, fun i ob hob => ?_, fun i hi => ?_⟩
  · cases d <;> simp [Act.put, h.sz]
  · cases d <;> exact h.df
  · rw [put_get _ _ _ _ hcap, getD_put _ _ _ _ hlt]
    cases d with
    | none => rw [eff_get]; exact rel_step hc.step _ _ (h.sl j)
    | some t =>
      simp only [pickD_some]
      by_cases hj : j = t
      · subst hj; simp only [if_true]; exact hc.rel
      · simp only [hj, if_false]; rw [eff_get]; exact rel_step hc.step _ _ (h.sl j)
  · rw [put_obj, eff_obj _ _ _ he] at hob
    exact hc.obsOk h.wf h.ob i ob hob
  · rw [put_nob, eff_nob] at hi
    cases hn : C'.ν i with
    | none => rfl
    | some b =>
      exfalso
      rcases hc.new i (by rw [hn]; simp) with h2 | h2
      · exact h2 (h.nb i (by omega))
      · have := seqFrom_mem hnew h2
        omega
end Rx
