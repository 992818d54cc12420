/- Rx, part F: slice literals, indexes and cuts; one operation whole. -/
import Derived.Test.YtnalaogenpicfaaDoorRxE
set_option linter.unusedSectionVars false
set_option linter.unusedSimpArgs false
set_option linter.unusedVariables false
namespace Rx
open Go
variable [Glob]

/-! ## memory of our own that is not tracked -/
/-- the new block is not one that is tracked: what it holds stays -/
theorem pers_new {C : Ctx} {w : World} (hw : WF C w) (o : Obj) : Pers C.W (w.alloc o) (fun w' => w'.heap[w.heap.size]? = some o) := by
  intro w' ha
  rw [ha.block w.heap.size (by simp) ?_]
  · exact heap_alloc_new w o
  · rintro (h | ⟨i, hi⟩)
    · exact absurd (hw.w0 _ h) (Nat.lt_irrefl _)
    · exact absurd (hw.lt i _ hi) (Nat.lt_irrefl _)

theorem step_alloc {X : Nat → Prop} {C : Ctx} {w : World} (o : Obj) : Step X C w C (w.alloc o) := step_grown (ag_alloc w o)
theorem wf_alloc {C : Ctx} {w : World} (hw : WF C w) (o : Obj) : WF C (w.alloc o) := wf_grown hw (ag_alloc w o)

/-- a literal's strings -/
def strsOf : List Dt → Option (List ByteArray)
  | [] => some []
  | .cell (.string s) :: l => (strsOf l).map (s :: ·)
  | _ :: _ => none
def litF (sz : Nat) (ds : List Dt) (i j : Nat) : Dt :=
  match strsOf ds with
  | some ss => bif Nat.beq sz 1 then .cell (.string (ss.getD i ⟨#[]⟩)) else ds.getD (i * sz + j) undefCell
  | none => ds.getD (i * sz + j) undefCell

theorem strsOf_get : ∀ {ds : List Dt} {ss : List ByteArray} {i : Nat}, strsOf ds = some ss → i < ds.length → ds[i]? = some (.cell (.string (ss.getD i ⟨#[]⟩)))
  | [], _, _, _, h => by simp at h
  | d :: l, ss, i, h, hi => by
    unfold strsOf at h
    split at h
    · rename_i h0; cases h0
    · rename_i s l' h0
      injection h0 with h1 h2
      subst h1; subst h2
      obtain ⟨r, hr, rfl⟩ := Option.map_eq_some_iff.1 h
      cases i with
      | zero => rfl
      | succ i =>
        have := strsOf_get hr (by simpa using hi)
        simpa using this
    · cases h

theorem litF_eq {sz : Nat} {ds : List Dt} {i j : Nat} (hj : j < sz) (h : i * sz + j < ds.length) : litF sz ds i j = ds.getD (i * sz + j) undefCell := by
  unfold litF
  split
  · rename_i ss hs
    cases hb : Nat.beq sz 1 with
    | false => rfl
    | true =>
      have := Nat.eq_of_beq_eq_true hb
      subst this
      have hj0 : j = 0 := by omega
      subst hj0
      have hg := strsOf_get hs (i := i) (by simpa using h)
      simp [List.getD, hg]
  · rfl

/-- a new block that holds data alone reads as data -/
theorem rel_new {C : Ctx} {w : World} (hw : WF C w) {l : List SV} {ds : List Dt} {vs : List Value} (hd : toDts l = some ds) (hr : relL C w l vs) (t : TypeId) (sz n : Nat) (hl : l.length = n * sz) :
    rel C (w.alloc (.cells vs.toArray t)) (.dt (.arr sz n (litF sz ds))) (.slice (some ⟨w.heap.size, 0, none⟩) n n) := by
  obtain ⟨hlen, hg⟩ := toDts_rel hd hr
  intro w' ha
  have hb := pers_new hw (.cells vs.toArray t) w' ha
  refine ⟨_, _, rfl, Nat.le_refl _, fun _ => ⟨_, _, rfl, fun i hi j hj => ?_⟩⟩
  have hlt : i * sz + j < ds.length := by
    rw [hlen, hl]
    have : (i + 1) * sz ≤ n * sz := Nat.mul_le_mul_right sz hi
    rw [Nat.add_mul, Nat.one_mul] at this
    omega
  have hds : ds[i * sz + j]? = some (ds[i * sz + j]) := List.getElem?_eq_getElem hlt
  obtain ⟨v, hv, hrv⟩ := hg _ _ hds
  refine ⟨v, ?_, hrv.1, ?_⟩
  · rw [cell_of_row w' w.heap.size _ vs.toArray t (0, 0) hb]
    simpa using hv
  · have hst := rel_step (step_alloc (X := fun _ => False) (w := w) (C := C) (.cells vs.toArray t)) _ _ hrv.2
    have := hst w' ha
    rw [litF_eq hj hlt]
    simpa [List.getD, hds] using this

def buildSliceSV (P : Program) (t : TypeId) (len : Nat) (parts : List (Nat × SV)) : T SV :=
  match P.underlying t with
  | some (.slice e) =>
    match szOf P e, zeroOf P e with
    | some sz, some zs =>
      bif (len * sz).ble 16777216 && Nat.ble 1 (len * sz) && Nat.beq zs.length sz then
        match fillSV (fun i => some (i * sz, sz)) ((List.range (len * sz)).map fun k => zs.getD (k % sz) .junk) parts with
        | some out => match toDts out with
          | some ds => bif Nat.beq out.length (len * sz) then .ret (.dt (.arr sz len (litF sz ds))) else .fail
          | none => .fail
        | none => .fail
      else .fail
    | _, _ => .fail
  | _ => .fail

theorem buildSlice_parts {P : Program} {C : Ctx} {w : World} (t : TypeId) (len : Nat) (parts : List (Nat × SV)) (vparts : List (Nat × Value)) (s : SV)
    (h1 : vparts.map (·.1) = parts.map (·.1)) (h2 : relL C w (parts.map (·.2)) (vparts.map (·.2))) (hok : (buildSliceSV P t len parts).ok) (hv : (buildSliceSV P t len parts).val = some s) :
    ∃ (e : TypeId) (sz : Nat) (out : List SV) (ds : List Dt) (os : List Value), P.underlying t = some (.slice e) ∧ (Instr.buildSlice t len vparts.toArray).run P w = .ok (.slice (some ⟨w.heap.size, 0, none⟩) len len) (w.alloc (.cells os.toArray e)) ∧
      s = .dt (.arr sz len (litF sz ds)) ∧ toDts out = some ds ∧ relL C w out os ∧ out.length = len * sz := by
  unfold buildSliceSV at hok hv
  split at hok
  · rename_i e hu
    simp only [hu] at hv
    cases hz : szOf P e with
    | none => simp [hz, T.ok] at hok
    | some sz =>
      cases hzz : zeroOf P e with
      | none => simp [hz, hzz, T.ok] at hok
      | some zs =>
        simp only [hz, hzz] at hok hv
        cases hb : ((len * sz).ble 16777216 && Nat.ble 1 (len * sz) && Nat.beq zs.length sz) with
        | false => rw [hb] at hok; simp [T.ok] at hok
        | true =>
          rw [hb, cond_true] at hok hv
          simp only [Bool.and_eq_true] at hb
          have e1 := Nat.le_of_ble_eq_true hb.1.1
          have e2 := Nat.le_of_ble_eq_true hb.1.2
          have e3 := Nat.eq_of_beq_eq_true hb.2
          cases hf : fillSV (fun i => some (i * sz, sz)) ((List.range (len * sz)).map fun k => zs.getD (k % sz) .junk) parts with
          | none => rw [hf] at hok; simp [T.ok] at hok
          | some out =>
            rw [hf] at hok hv
            simp only at hok hv
            cases hd : toDts out with
            | none => rw [hd] at hok; simp [T.ok] at hok
            | some ds =>
              rw [hd] at hok hv
              simp only at hok hv
              cases hl : Nat.beq out.length (len * sz) with
              | false => rw [hl] at hok; simp [T.ok] at hok
              | true =>
                rw [hl, cond_true] at hv
                simp only [T.val, Option.some.injEq] at hv
                subst hv
                have hl := Nat.eq_of_beq_eq_true hl
                obtain ⟨z, hzr, hzl⟩ := zeroOf_run hzz C w
                have hzlen := relL_length hzl
                have hsz0 : 0 < sz := by
                  rcases Nat.eq_zero_or_pos sz with h | h
                  · subst h; simp at e2
                  · exact h
                have hinit : relL C w ((List.range (len * sz)).map fun k => zs.getD (k % sz) .junk) ((List.range (len * sz)).map fun k => z.cells.toList.getD (k % sz) undef) := by
                  rw [List.range_eq_range']
                  refine relL_range _ _ _ _ fun j _ _ => ?_
                  have hj : j % sz < zs.length := by rw [e3]; exact Nat.mod_lt _ hsz0
                  obtain ⟨v, h3, h4⟩ := relL_get (j % sz) zs[j % sz] hzl (List.getElem?_eq_getElem hj)
                  simpa [List.getD, h3, List.getElem?_eq_getElem hj] using h4
                obtain ⟨os, ho, hro⟩ := fillSV_sound (fun i => some (i * sz, sz)) parts vparts _ _ out hinit h1 h2 hf
                refine ⟨e, sz, out, ds, os, hu, ?_, rfl, hd, hro, hl⟩
                have hn1 : ¬ (len * sz > 2 ^ 24) := by omega
                have hn2 : ¬ (len * sz = 0) := by omega
                have ecells : (Array.range (len * sz)).map (fun k => z.cells[k % z.cells.size]!) = ((List.range (len * sz)).map fun k => z.cells.toList.getD (k % sz) undef).toArray := by
                  apply Array.ext'
                  simp only [Array.toList_map, Array.toList_range]
                  refine List.map_congr_left fun k _ => ?_
                  have : z.cells.size = sz := by simpa [e3] using hzlen
                  rw [this]
                  have hk : k % sz < z.cells.size := by rw [this]; exact Nat.mod_lt _ hsz0
                  simp [List.getD, hk]
                simp only [Instr.buildSlice, Sem.run_bind, underlying, run_program, Result.andThen_ok, hu, Sem.run_pure, szOf_run hz, hn1, hn2, if_false, hzr, ecells, ho]
                simp [newRow]
  · simp [T.ok] at hok

theorem buildSliceSV_sound {P : Program} {C : Ctx} {w : World} (hw : WF C w) (t : TypeId) (len : Nat) (parts : List (Nat × SV)) (vparts : List (Nat × Value)) (s : SV)
    (h1 : vparts.map (·.1) = parts.map (·.1)) (h2 : relL C w (parts.map (·.2)) (vparts.map (·.2))) (hok : (buildSliceSV P t len parts).ok) (hv : (buildSliceSV P t len parts).val = some s) :
    ∃ y o, (Instr.buildSlice t len vparts.toArray).run P w = .ok y (w.alloc o) ∧ rel C (w.alloc o) s y := by
  obtain ⟨e, sz, out, ds, os, hu, hr, rfl, hd, hro, hl⟩ := buildSlice_parts t len parts vparts s h1 h2 hok hv
  exact ⟨_, _, hr, rel_new hw hd hro e sz len hl⟩

/-! ## an index into a string; cuts -/
def byteAt (s : ByteArray) (i : Int) : Int := ((s.data.toList.getD i.toNat 0).toNat : Int)

def strsSV : List SV → Option (List ByteArray)
  | [] => some []
  | .dt (.cell (.string s)) :: l => (strsSV l).map (s :: ·)
  | _ :: _ => none

theorem strsSV_get {C : Ctx} {w : World} : ∀ {l : List SV} {ss : List ByteArray} {vs : List Value} {i : Nat}, strsSV l = some ss → relL C w l vs → i < l.length → vs[i]? = some (.string (ss.getD i ⟨#[]⟩))
  | [], _, _, _, _, _, h => by simp at h
  | d :: l, ss, vs, i, h, hr, hi => by
    obtain ⟨v, r, rfl, h1, h2⟩ := hr
    unfold strsSV at h
    split at h
    · rename_i h0; cases h0
    · rename_i s l' h0
      injection h0 with e1 e2
      subst e1; subst e2
      obtain ⟨q, hq, rfl⟩ := Option.map_eq_some_iff.1 h
      rw [rel_cell] at h1
      subst h1
      cases i with
      | zero => rfl
      | succ i =>
        have := strsSV_get hq h2 (i := i) (by simpa using hi)
        simpa using this
    · cases h

def indexSV (P : Program) (t : TypeId) (x ix : SV) : T SV :=
  match P.underlying t, x, ix with
  | some (.array n e), .agg l, .dt (.cell (.int _ i)) => match szOf P e, aggT P e, strsSV l with
    | some 1, some false, some ss => bif Nat.beq l.length n then .need (0 ≤ i ∧ i < n) (.ret (vS (ss.getD i.toNat ⟨#[]⟩))) else .fail
    | _, _, _ => .fail
  | some .string, .dt (.cell (.string s)), .dt (.cell (.int _ i)) => .need (0 ≤ i ∧ i < s.size) (.ret (vI .u8 (byteAt s i)))
  | _, _, _ => .fail

theorem indexSV_sound {P : Program} {C : Ctx} {w : World} (t : TypeId) (x ix s : SV) (u v : Value)
    (hx : rel C w x u) (hi : rel C w ix v) (hok : (indexSV P t x ix).ok) (hv : (indexSV P t x ix).val = some s) :
    ∃ y, (Instr.index t u v).run P w = .ok y w ∧ rel C w s y := by
  unfold indexSV at hok hv
  split at hok
  · rename_i n e l k i hu
    simp only [hu] at hv
    split at hok
    · rename_i ss hz ha hs
      simp only [hz, ha, hs] at hv
      cases hb : Nat.beq l.length n with
      | false => rw [hb] at hok; exact hok.elim
      | true =>
        rw [hb] at hok hv
        simp only [cond_true, T.val, T.ok, and_true, Option.some.injEq] at hv hok
        subst hv
        have hb := Nat.eq_of_beq_eq_true hb
        obtain ⟨vs, rfl, hr⟩ := hx
        rw [rel_cell] at hi
        subst hi
        obtain ⟨h0, h1⟩ := hok
        have hg := strsSV_get hs hr (i := i.toNat) (by omega)
        refine ⟨_, ?_, rel_cell.2 rfl⟩
        simp only [Instr.index, asIntOf, underlying, Sem.run_bind, Sem.run_pure, run_program, Result.andThen_ok, hu]
        rw [if_pos ⟨h0, h1⟩]
        simp only [Sem.run_bind, szOf_run hz, Result.andThen_ok, Nat.mul_one]
        simp [part, aggT_run ha, hg]
    · exact hok.elim
  · rename_i str k i hu
    simp only [hu, T.val, T.ok, and_true, Option.some.injEq] at hv hok
    subst hv
    rw [rel_cell] at hx hi
    subst hx; subst hi
    obtain ⟨h0, h1⟩ := hok
    have hlt : i.toNat < str.size := by omega
    refine ⟨.int .u8 (byteAt str i), ?_, rel_cell.2 rfl⟩
    simp only [Instr.index, asIntOf, underlying, Sem.run_bind, Sem.run_pure, run_program, Result.andThen_ok, hu]
    rw [if_pos h0]
    have e : str[i.toNat]? = some str[i.toNat] := getElem?_pos str i.toNat hlt
    rw [e]
    simp only [Sem.run_pure]
    have : (str[i.toNat].toNat : Int) = byteAt str i := by
      unfold byteAt
      have hlt' : i.toNat < str.data.toList.length := by simpa using hlt
      rw [List.getD, List.getElem?_eq_getElem hlt']
      simp; rfl
    rw [this]
  · simp [T.ok] at hok

def cutSV (P : Program) (t : TypeId) (x : SV) (low high : Option SV) : T SV :=
  match P.underlying t, x, low, high with
  | some .string, .dt (.cell (.string s)), none, some (.dt (.cell (.int _ h))) => .need (0 ≤ h ∧ h ≤ s.size) (.ret (vS (s.extract 0 h.toNat)))
  | some .string, .dt (.cell (.string s)), some (.dt (.cell (.int _ l))), none => .need (0 ≤ l ∧ l ≤ s.size) (.ret (vS (s.extract l.toNat s.size)))
  | some .string, .dt (.cell (.string s)), some (.dt (.cell (.int _ l))), some (.dt (.cell (.int _ h))) => .need (0 ≤ l ∧ l ≤ h ∧ h ≤ s.size) (.ret (vS (s.extract l.toNat h.toNat)))
  | some (.slice e), .dt (.arr sz n f), none, some (.dt (.cell (.int _ h))) => 
    match szOf P e with
    | some z => bif Nat.beq z sz then .need (0 ≤ h ∧ h ≤ n) (.ret (.dt (.arr sz h.toNat f))) else .fail
    | none => .fail
  | some (.slice e), .dt (.arr sz n f), some (.dt (.cell (.int _ l))), none => 
    match szOf P e with
    | some z => bif Nat.beq z sz then .need (0 ≤ l ∧ l ≤ n) (.ret (.dt (.arr sz (n - l.toNat) fun i j => f (i + l.toNat) j))) else .fail
    | none => .fail
  | some (.slice e), .dt (.arr sz n f), some (.dt (.cell (.int _ l))), some (.dt (.cell (.int _ h))) => 
    match szOf P e with
    | some z => bif Nat.beq z sz then .need (0 ≤ l ∧ l ≤ h ∧ h ≤ n) (.ret (.dt (.arr sz (h.toNat - l.toNat) fun i j => f (i + l.toNat) j))) else .fail
    | none => .fail
  | _, _, _, _ => .fail

theorem rep_cut {w : World} {sz n l h c : Nat} {f : Nat → Nat → Dt} {A : Option Addr} (hlh : l ≤ h) (hhn : h ≤ n) (hr : Rep w (.arr sz n f) (.slice A n c)) :
    Rep w (.arr sz (h - l) fun i j => f (i + l) j) (.slice (if c = l then A else A.map (·.add (l * sz))) (h - l) (c - l)) := by
  obtain ⟨A', c', e, hnc, hc⟩ := hr
  injection e with e1 e2 e3
  subst e1; subst e3
  refine ⟨_, _, rfl, by omega, fun hpos => ?_⟩
  obtain ⟨b, off, rfl, hcell⟩ := hc (by omega)
  rw [if_neg (by omega)]
  refine ⟨b, off + l * sz, by simp [add_none], fun i hi j hj => ?_⟩
  obtain ⟨u, h1, h2⟩ := hcell (i + l) (by omega) j hj
  refine ⟨u, ?_, h2⟩
  rw [← h1]
  congr 2
  rw [Nat.add_mul]; omega

theorem sliceBound_run {P : Program} {w : World} (k : IntKind) (i : Int) (y : Nat) (c : BoundsCode) (h : 0 ≤ i ∧ i ≤ y) : (Instr.sliceBound (.int k i) y c).run P w = .ok i.toNat w := by
  simp only [Instr.sliceBound, asIntOf, Sem.run_bind, Sem.run_pure, Result.andThen_ok]
  rw [if_pos h]
  rfl

theorem cutSV_sound {P : Program} {C : Ctx} {w : World} (t : TypeId) (x s : SV) (low high : Option SV) (u : Value) (vl vh : Option Value)
    (hx : rel C w x u) (hl : ∀ s, low = some s → ∃ v, vl = some v ∧ rel C w s v) (hl0 : low = none → vl = none) (hh : ∀ s, high = some s → ∃ v, vh = some v ∧ rel C w s v) (hh0 : high = none → vh = none)
    (hok : (cutSV P t x low high).ok) (hv : (cutSV P t x low high).val = some s) :
    ∃ y, (Instr.sliceAt t u vl vh none).run P w = .ok y w ∧ rel C w s y := by
  unfold cutSV at hok hv
  split at hok
  all_goals first | (simp [T.ok] at hok; done) | skip
  · rename_i str k h hu
    obtain ⟨v, rfl, hr⟩ := hh _ rfl
    rw [hl0 rfl]
    rw [rel_cell] at hx hr
    subst hx; subst hr
    simp only [hu, T.val, T.ok, and_true, Option.some.injEq] at hv hok
    subst hv
    refine ⟨_, ?_, rel_cell.2 rfl⟩
    simp only [Instr.sliceAt, Instr.slice, Instr.sliceBounds, underlying, Sem.run_bind, Sem.run_pure, run_program, Result.andThen_ok, hu, Option.isSome_none, Bool.false_eq_true, if_false, sliceBound_run k h _ _ hok]
  · rename_i str k l hu
    obtain ⟨v, rfl, hr⟩ := hl _ rfl
    rw [hh0 rfl]
    rw [rel_cell] at hx hr
    subst hx; subst hr
    simp only [hu, T.val, T.ok, and_true, Option.some.injEq] at hv hok
    subst hv
    refine ⟨_, ?_, rel_cell.2 rfl⟩
    simp only [Instr.sliceAt, Instr.slice, Instr.sliceBounds, underlying, Sem.run_bind, Sem.run_pure, run_program, Result.andThen_ok, hu, Option.isSome_none, Bool.false_eq_true, if_false, sliceBound_run k l _ _ hok]
  · rename_i str k l k' h hu
    obtain ⟨v, rfl, hr⟩ := hl _ rfl
    obtain ⟨v', rfl, hr'⟩ := hh _ rfl
    rw [rel_cell] at hx hr hr'
    subst hx; subst hr; subst hr'
    simp only [hu, T.val, T.ok, and_true, Option.some.injEq] at hv hok
    subst hv
    refine ⟨_, ?_, rel_cell.2 rfl⟩
    have b1 := sliceBound_run (P := P) (w := w) k' h str.size .sliceAlen ⟨by omega, hok.2.2⟩
    have b2 := sliceBound_run (P := P) (w := w) k l h.toNat .sliceB ⟨by omega, by omega⟩
    simp only [Instr.sliceAt, Instr.slice, Instr.sliceBounds, underlying, Sem.run_bind, Sem.run_pure, run_program, Result.andThen_ok, hu, Option.isSome_none, Bool.false_eq_true, if_false, b1, b2]
  · rename_i e sz n f k h hu
    obtain ⟨v, rfl, hr⟩ := hh _ rfl
    rw [hl0 rfl]
    rw [rel_cell] at hr
    subst hr
    simp only [hu] at hv
    cases hz : szOf P e with
    | none => simp [hz, T.ok] at hok
    | some z =>
      simp only [hz] at hok hv
      cases hb : Nat.beq z sz with
      | false => simp [hb, T.ok] at hok
      | true =>
        have := Nat.eq_of_beq_eq_true hb
        subst this
        simp only [hb, cond_true, T.val, T.ok, and_true, Option.some.injEq] at hv hok
        subst hv
        obtain ⟨A, c, rfl, hnc, hcells⟩ := hx.here
        have b1 := sliceBound_run (P := P) (w := w) k h c .sliceAcap ⟨hok.1, by omega⟩
        refine ⟨_, by simp only [Instr.sliceAt, Instr.slice, Instr.sliceBounds, underlying, Sem.run_bind, Sem.run_pure, run_program, Result.andThen_ok, hu, Option.isSome_none, b1, if_true, szOf_run hz]; rfl, hx.mono fun w' hw' => ?_⟩
        have := rep_cut (l := 0) (h := h.toNat) (Nat.zero_le _) (by omega) hw'
        simpa using this
  · rename_i e sz n f k l hu
    obtain ⟨v, rfl, hr⟩ := hl _ rfl
    rw [hh0 rfl]
    rw [rel_cell] at hr
    subst hr
    simp only [hu] at hv
    cases hz : szOf P e with
    | none => simp [hz, T.ok] at hok
    | some z =>
      simp only [hz] at hok hv
      cases hb : Nat.beq z sz with
      | false => simp [hb, T.ok] at hok
      | true =>
        have := Nat.eq_of_beq_eq_true hb
        subst this
        simp only [hb, cond_true, T.val, T.ok, and_true, Option.some.injEq] at hv hok
        subst hv
        obtain ⟨A, c, rfl, hnc, hcells⟩ := hx.here
        have b1 := sliceBound_run (P := P) (w := w) k l n .sliceB hok
        refine ⟨_, by simp only [Instr.sliceAt, Instr.slice, Instr.sliceBounds, underlying, Sem.run_bind, Sem.run_pure, run_program, Result.andThen_ok, hu, Option.isSome_none, Bool.false_eq_true, if_false, b1, szOf_run hz]; rfl, hx.mono fun w' hw' => ?_⟩
        exact rep_cut (l := l.toNat) (h := n) (by omega) (Nat.le_refl _) hw'
  · rename_i e sz n f k l k' h hu
    obtain ⟨v, rfl, hr⟩ := hl _ rfl
    obtain ⟨v', rfl, hr'⟩ := hh _ rfl
    rw [rel_cell] at hr hr'
    subst hr; subst hr'
    simp only [hu] at hv
    cases hz : szOf P e with
    | none => simp [hz, T.ok] at hok
    | some z =>
      simp only [hz] at hok hv
      cases hb : Nat.beq z sz with
      | false => simp [hb, T.ok] at hok
      | true =>
        have := Nat.eq_of_beq_eq_true hb
        subst this
        simp only [hb, cond_true, T.val, T.ok, and_true, Option.some.injEq] at hv hok
        subst hv
        obtain ⟨A, c, rfl, hnc, hcells⟩ := hx.here
        have b1 := sliceBound_run (P := P) (w := w) k' h c .sliceAcap ⟨by omega, by omega⟩
        have b2 := sliceBound_run (P := P) (w := w) k l h.toNat .sliceB ⟨by omega, by omega⟩
        refine ⟨_, by simp only [Instr.sliceAt, Instr.slice, Instr.sliceBounds, underlying, Sem.run_bind, Sem.run_pure, run_program, Result.andThen_ok, hu, Option.isSome_none, Bool.false_eq_true, if_false, if_true, b1, b2, szOf_run hz]; rfl, hx.mono fun w' hw' => ?_⟩
        exact rep_cut (l := l.toNat) (h := h.toNat) (by omega) (by omega) hw'
end Rx
