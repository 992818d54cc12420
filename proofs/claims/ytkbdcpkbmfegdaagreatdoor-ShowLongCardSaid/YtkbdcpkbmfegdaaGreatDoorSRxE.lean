/- Rx, part E: struct and slice literals; one operation whole. -/
import Derived.Test.YtkbdcpkbmfegdaaGreatDoorSRxC
set_option linter.unusedSectionVars false
set_option linter.unusedSimpArgs false
set_option linter.unusedVariables false
namespace Rx
open Go
variable [Glob]
theorem Dc (off : Nat) : ∀ (l : List Value) (k : Nat) (cells : Array Value), off + k + l.length <= cells.size ->
  ((l.zipIdx k).foldl (fun (cs : Array Value) (x : Value × Nat) => cs.setIfInBounds (off + x.2) x.1) cells).toList = cells.toList.take (off + k) ++ l ++ cells.toList.drop (off + k + l.length)
 | [], k, cells, _ => by simp
 | v :: l, k, cells, h => by
   simp only [List.length_cons] at h
   have ih := Dc off l (k + 1) (cells.setIfInBounds (off + k) v) (by simp; omega)
   simp only [List.zipIdx_cons, List.foldl_cons]
   rw [ih, Array.toList_setIfInBounds]
   have hl : off + k < cells.toList.length := by simp; omega
   apply List.ext_getElem?
   intro j
   simp only [List.getElem?_append, List.length_append, List.length_take, List.length_set, List.length_cons, List.getElem?_take, List.getElem?_drop, List.getElem?_set]
   have e1 : min (off + (k + 1)) cells.toList.length = off + k + 1 := by omega
   have e2 : min (off + k) cells.toList.length = off + k := by omega
   rw [e1, e2]
   by_cases h1 : j < off + k
   · have a1 : j < off + k + 1 + l.length := by omega
     have a2 : j < off + k + 1 := by omega
     have a3 : j < off + (k + 1) := by omega
     have a4 : j < off + k + (l.length + 1) := by omega
     have a5 : ¬ off + k = j := by omega
     simp [h1, a1, a2, a3, a4, a5]
   · by_cases h2 : j = off + k
     · subst h2
       have a1 : off + k < off + k + 1 + l.length := by omega
       have a3 : off + k < off + (k + 1) := by omega
       have a4 : off + k < off + k + (l.length + 1) := by omega
       have hl' : off + k < cells.size := by simpa using hl
       simp [a1, a3, a4, hl']
     · by_cases h3 : j < off + k + 1 + l.length
       · have a2 : ¬ j < off + k + 1 := by omega
         have a4 : j < off + k + (l.length + 1) := by omega
         have a5 : j - (off + k) = (j - (off + k + 1)) + 1 := by omega
         simp [h1, h3, a2, a4, a5]
       · have a4 : ¬ j < off + k + (l.length + 1) := by omega
         have a6 : off + (k + 1) + l.length + (j - (off + k + 1 + l.length)) = j := by omega
         have a7 : off + k + (l.length + 1) + (j - (off + k + (l.length + 1))) = j := by omega
         have a8 : ¬ off + k = j := by omega
         simp [h3, a4, a6, a7, a8]
def jY (place : Nat -> Option (Nat × Nat)) (cells : List SV) : List (Nat × SV) -> Option (List SV)
 | [] => some cells
 | (i, v) :: rest =>
   match place i, dz v with
   | some (off, size), some us => bif Nat.beq us.length size && (off + size).ble cells.length then jY place (splice cells off us) rest else none
   | _, _ => none
theorem iw {C : Ctx} {w : World} (place : Nat -> Option (Nat × Nat)) : ∀ (parts : List (Nat × SV)) (vparts : List (Nat × Value)) (cells : List SV) (vs : List Value) (out : List SV),
  relL C w cells vs -> (vparts.map (·.1) = parts.map (·.1)) -> relL C w (parts.map (·.2)) (vparts.map (·.2)) -> jY place cells parts = some out ->
  ∃ os : List Value, Instr.fill place vs.toArray vparts = some os.toArray /\ relL C w out os
 | [], vparts, cells, vs, out, h, h1, _, h3 => by
   have : vparts = [] := by cases vparts with | nil => rfl | cons _ _ => simp at h1
   subst this
   simp only [jY, Option.some.injEq] at h3
   subst h3
   exact ⟨vs, rfl, h⟩
 | (i, s) :: parts, [], cells, vs, out, _, h1, _, _ => by simp at h1
 | (i, s) :: parts, (i', v) :: vparts, cells, vs, out, h, h1, h2, h3 => by
   simp only [List.map_cons, List.cons.injEq] at h1
   obtain ⟨rfl, h1⟩ := h1
   obtain ⟨v', r, e, hv, h2⟩ := h2
   simp only [List.map_cons, List.cons.injEq] at e
   obtain ⟨rfl, rfl⟩ := e
   simp only [jY] at h3
   cases hp : place i' with
   | none => simp [hp] at h3
   | some os =>
     obtain ⟨off, size⟩ := os
     cases hc : dz s with
     | none => simp [hp, hc] at h3
     | some us =>
       simp only [hp, hc] at h3
       cases hb : (Nat.beq us.length size && (off + size).ble cells.length) with
       | false => rw [hb] at h3; simp at h3
       | true =>
         rw [hb, cond_true] at h3
         simp only [Bool.and_eq_true] at hb
         have e1 := Nat.eq_of_beq_eq_true hb.1
         have e2 := Nat.le_of_ble_eq_true hb.2
         obtain ⟨xs, hxs, hr⟩ := gq hc hv
         have l1 := aQ hr
         have l2 := aQ h
         obtain ⟨os, ho, hro⟩ := iw place parts vparts (splice cells off us) (splice vs off xs) out (wK off h hr) h1 h2 h3
         refine ⟨os, ?_, hro⟩
         simp only [Instr.fill, hp, hxs]
         rw [if_neg (by simp; omega)]
         have hfs := Dc off xs 0 vs.toArray (by simp; omega)
         rw [← ho]
         congr 1
         apply Array.ext'
         simp only [Nat.add_zero] at hfs
         have hz : xs.toArray.zipIdx.foldl (fun (cs : Array Value) (x : Value × Nat) => cs.setIfInBounds (off + x.2) x.1) vs.toArray = (xs.zipIdx 0).foldl (fun (cs : Array Value) (x : Value × Nat) => cs.setIfInBounds (off + x.2) x.1) vs.toArray := by
          rw [← Array.foldl_toList]; simp
         simp only [splice]
         rw [← hfs, ← hz]
def placesOf (P : Program) : List Field -> Option (List (Nat × Nat))
 | [] => some []
 | f :: fs => match bg P f.type, placesOf P fs with
   | some n, some l => some ((f.offset, n) :: l)
   | _, _ => none
theorem uf {P : Program} (w : World) : ∀ (fs : List Field) (l : List (Nat × Nat)), placesOf P fs = some l ->
  (fs.mapM (fun f => do pure (f.offset, ← Go.sizeOf f.type)) : Sem (List (Nat × Nat))).run P w = .ok l w
 | [], l, h => by simp only [placesOf, Option.some.injEq] at h; subst h; simp
 | f :: fs, l, h => by
   simp only [placesOf] at h
   cases hs : bg P f.type with
   | none => simp [hs] at h
   | some n =>
     cases hl : placesOf P fs with
     | none => simp [hs, hl] at h
     | some l' =>
       simp only [hs, hl, Option.some.injEq] at h
       subst h
       have ih := uf w fs l' hl
       simp only [List.mapM_cons, Sem.run_bind, aL hs, Result.andThen_ok, Sem.run_pure, ih]
theorem fH {P : Program} {t : TypeId} {zs : List SV} (h : zeroOf P t = some zs) (C : Ctx) (w : World) :
  ∃ z : Value, (zeroValue t).run P w = .ok z w /\ relL C w zs z.cells.toList := by
 unfold zeroOf at h
 cases hi : P.info? t with
 | none => simp [hi] at h
 | some i =>
   cases hz : i.zero with
   | none => simp [hi, hz] at h
   | some z =>
     simp only [hi, Option.bind_some, hz, Option.map_some, Option.some.injEq] at h
     subst h
     exact ⟨z, by simp [zeroValue, typeInfo, hi, hz], ny C w _⟩
def jD (P : Program) (t : TypeId) (parts : List (Nat × SV)) : T SV :=
 match P.underlying t, zeroOf P t with
 | some (.struct fs), some zs =>
   match placesOf P fs.toList with
   | some l => match jY (fun (i : Nat) => l[i]?) zs parts with
     | some out => .ret (.agg out)
     | none => .fail
   | none => .fail
 | some (.array _ e), some zs =>
   match bg P e with
   | some sz => match jY (fun i => some (i * sz, sz)) zs parts with
     | some out => .ret (.agg out)
     | none => .fail
   | none => .fail
 | _, _ => .fail
theorem qX {P : Program} {C : Ctx} {w : World} (t : TypeId) (parts : List (Nat × SV)) (vparts : List (Nat × Value)) (s : SV)
  (h1 : vparts.map (·.1) = parts.map (·.1)) (h2 : relL C w (parts.map (·.2)) (vparts.map (·.2))) (hok : (jD P t parts).ok) (hv : (jD P t parts).val = some s) :
  ∃ y, (Instr.build t vparts.toArray).run P w = .ok y w /\ rel C w s y := by
 unfold jD at hok hv
 split at hok
 · rename_i fs zs hu hz
   simp only [hu, hz] at hv
   cases hp : placesOf P fs.toList with
   | none => simp [hp, T.ok] at hok
   | some l =>
     simp only [hp] at hok hv
     cases hf : jY (fun (i : Nat) => l[i]?) zs parts with
     | none => simp [hf, T.ok] at hok
     | some out =>
       simp only [hf, T.val, Option.some.injEq] at hv
       subst hv
       obtain ⟨z, hzr, hzl⟩ := fH hz C w
       obtain ⟨os, ho, hro⟩ := iw (fun (i : Nat) => l[i]?) parts vparts zs z.cells.toList out hzl h1 h2 hf
       have hrun := uf (P := P) w fs.toList l hp
       refine ⟨.agg os.toArray, ?_, os, rfl, hro⟩
       simp only [Instr.build, Sem.run_bind, hzr, Result.andThen_ok, underlying, run_program, hu, Sem.run_pure, Array.mapM_eq_mapM_toList, Sem.run_map, hrun]
       have e : (fun (i : Nat) => l.toArray[i]?) = fun (i : Nat) => l[i]? := by funext i; simp
       simp only [e]
       have e2 : z.cells.toList.toArray = z.cells := by simp
       rw [e2] at ho
       simp only [ho, Sem.run_pure]
 · rename_i k e zs hu hz
   simp only [hu, hz] at hv
   cases hs : bg P e with
   | none => simp [hs, T.ok] at hok
   | some sz =>
     simp only [hs] at hok hv
     cases hf : jY (fun i => some (i * sz, sz)) zs parts with
     | none => simp [hf, T.ok] at hok
     | some out =>
       simp only [hf, T.val, Option.some.injEq] at hv
       subst hv
       obtain ⟨z, hzr, hzl⟩ := fH hz C w
       obtain ⟨os, ho, hro⟩ := iw (fun i => some (i * sz, sz)) parts vparts zs z.cells.toList out hzl h1 h2 hf
       refine ⟨.agg os.toArray, ?_, os, rfl, hro⟩
       have e2 : z.cells.toList.toArray = z.cells := by simp
       rw [e2] at ho
       simp only [Instr.build, Sem.run_bind, hzr, Result.andThen_ok, underlying, run_program, hu, Sem.run_pure, aL hs, ho]
 · simp [T.ok] at hok
end Rx
set_option linter.unusedSectionVars false
set_option linter.unusedSimpArgs false
set_option linter.unusedVariables false
namespace Rx
open Go
variable [Glob]
theorem S9 {C : Ctx} {w : World} (hw : WF C w) (o : Obj) : Pers C.W (w.alloc o) (fun w' => w'.heap[w.heap.size]? = some o) := by
 intro w' ha
 rw [ha.block w.heap.size (by simp) ?_]
 · exact heap_alloc_new w o
 · rintro (h | ⟨i, hi⟩)
   · exact absurd (hw.w0 _ h) (Nat.lt_irrefl _)
   · exact absurd (hw.lt i _ hi) (Nat.lt_irrefl _)
theorem BA {X : Nat -> Prop} {C : Ctx} {w : World} (o : Obj) : Step X C w C (w.alloc o) := dV (gZ w o)
theorem Vs {C : Ctx} {w : World} (hw : WF C w) (o : Obj) : WF C (w.alloc o) := kP hw (gZ w o)
def strsOf : List Dt -> Option (List ByteArray)
 | [] => some []
 | .cell (.string s) :: l => (strsOf l).map (s :: ·)
 | _ :: _ => none
def lV (sz : Nat) (ds : List Dt) (i j : Nat) : Dt :=
 match strsOf ds with
 | some ss => bif Nat.beq sz 1 then .cell (.string (ss.getD i ⟨#[]⟩)) else ds.getD (i * sz + j) aR
 | none => ds.getD (i * sz + j) aR
theorem BD : ∀ {ds : List Dt} {ss : List ByteArray} {i : Nat}, strsOf ds = some ss -> i < ds.length -> ds[i]? = some (.cell (.string (ss.getD i ⟨#[]⟩)))
 | [], _, _, _, h => by simp at h
 | d :: l, ss, i, h, hi => by
   unfold strsOf at h
   split at h
   · rename_i h0; cases h0
   · rename_i s l' h0
     injection h0 with h1 h2
     subst h1; subst h2
     obtain ⟨r, hr, rfl⟩ := Option.map_eq_some_iff.1 h
     cases i with
     | zero => rfl
     | succ i =>
       have := BD hr (by simpa using hi)
       simpa using this
   · cases h
theorem xP {sz : Nat} {ds : List Dt} {i j : Nat} (hj : j < sz) (h : i * sz + j < ds.length) : lV sz ds i j = ds.getD (i * sz + j) aR := by
 unfold lV
 split
 · rename_i ss hs
   cases hb : Nat.beq sz 1 with
   | false => rfl
   | true =>
     have := Nat.eq_of_beq_eq_true hb
     subst this
     have hj0 : j = 0 := by omega
     subst hj0
     have hg := BD hs (i := i) (by simpa using h)
     simp [List.getD, hg]
 · rfl
theorem WQ {C : Ctx} {w : World} (hw : WF C w) {l : List SV} {ds : List Dt} {vs : List Value} (hd : kL l = some ds) (hr : relL C w l vs) (t : TypeId) (sz n : Nat) (hl : l.length = n * sz) :
  rel C (w.alloc (.cells vs.toArray t)) (.dt (.arr sz n (lV sz ds))) (.slice (some ⟨w.heap.size, 0, none⟩) n n) := by
 obtain ⟨hlen, hg⟩ := qL hd hr
 intro w' ha
 have hb := S9 hw (.cells vs.toArray t) w' ha
 refine ⟨_, _, rfl, Nat.le_refl _, fun _ => ⟨_, _, rfl, fun i hi j hj => ?_⟩⟩
 have hlt : i * sz + j < ds.length := by
  rw [hlen, hl]
  have : (i + 1) * sz <= n * sz := Nat.mul_le_mul_right sz hi
  rw [Nat.add_mul, Nat.one_mul] at this
  omega
 have hds : ds[i * sz + j]? = some (ds[i * sz + j]) := List.getElem?_eq_getElem hlt
 obtain ⟨v, hv, hrv⟩ := hg _ _ hds
 refine ⟨v, ?_, hrv.1, ?_⟩
 · rw [cell_of_row w' w.heap.size _ vs.toArray t (0, 0) hb]
   simpa using hv
 · have hst := aC (BA (X := fun _ => False) (w := w) (C := C) (.cells vs.toArray t)) _ _ hrv.2
   have := hst w' ha
   rw [xP hj hlt]
   simpa [List.getD, hds] using this
def dw (P : Program) (t : TypeId) (len : Nat) (parts : List (Nat × SV)) : T SV :=
 match P.underlying t with
 | some (.slice e) =>
   match bg P e, zeroOf P e with
   | some sz, some zs =>
     bif (len * sz).ble 16777216 && Nat.ble 1 (len * sz) && Nat.beq zs.length sz then
      match jY (fun i => some (i * sz, sz)) ((List.range (len * sz)).map fun k => zs.getD (k % sz) .junk) parts with
      | some out => match kL out with
        | some ds => bif Nat.beq out.length (len * sz) then .ret (.dt (.arr sz len (lV sz ds))) else .fail
        | none => .fail
      | none => .fail
     else .fail
   | _, _ => .fail
 | _ => .fail
theorem l6 {P : Program} {C : Ctx} {w : World} (t : TypeId) (len : Nat) (parts : List (Nat × SV)) (vparts : List (Nat × Value)) (s : SV)
  (h1 : vparts.map (·.1) = parts.map (·.1)) (h2 : relL C w (parts.map (·.2)) (vparts.map (·.2))) (hok : (dw P t len parts).ok) (hv : (dw P t len parts).val = some s) :
  ∃ (e : TypeId) (sz : Nat) (out : List SV) (ds : List Dt) (os : List Value), P.underlying t = some (.slice e) /\ (Instr.buildSlice t len vparts.toArray).run P w = .ok (.slice (some ⟨w.heap.size, 0, none⟩) len len) (w.alloc (.cells os.toArray e)) /\
    s = .dt (.arr sz len (lV sz ds)) /\ kL out = some ds /\ relL C w out os /\ out.length = len * sz := by
 unfold dw at hok hv
 split at hok
 · rename_i e hu
   simp only [hu] at hv
   cases hz : bg P e with
   | none => simp [hz, T.ok] at hok
   | some sz =>
     cases hzz : zeroOf P e with
     | none => simp [hz, hzz, T.ok] at hok
     | some zs =>
       simp only [hz, hzz] at hok hv
       cases hb : ((len * sz).ble 16777216 && Nat.ble 1 (len * sz) && Nat.beq zs.length sz) with
       | false => rw [hb] at hok; simp [T.ok] at hok
       | true =>
         rw [hb, cond_true] at hok hv
         simp only [Bool.and_eq_true] at hb
         have e1 := Nat.le_of_ble_eq_true hb.1.1
         have e2 := Nat.le_of_ble_eq_true hb.1.2
         have e3 := Nat.eq_of_beq_eq_true hb.2
         cases hf : jY (fun i => some (i * sz, sz)) ((List.range (len * sz)).map fun k => zs.getD (k % sz) .junk) parts with
         | none => rw [hf] at hok; simp [T.ok] at hok
         | some out =>
           rw [hf] at hok hv
           simp only at hok hv
           cases hd : kL out with
           | none => rw [hd] at hok; simp [T.ok] at hok
           | some ds =>
             rw [hd] at hok hv
             simp only at hok hv
             cases hl : Nat.beq out.length (len * sz) with
             | false => rw [hl] at hok; simp [T.ok] at hok
             | true =>
               rw [hl, cond_true] at hv
               simp only [T.val, Option.some.injEq] at hv
               subst hv
               have hl := Nat.eq_of_beq_eq_true hl
               obtain ⟨z, hzr, hzl⟩ := fH hzz C w
               have hzlen := aQ hzl
               have hsz0 : 0 < sz := by
                rcases Nat.eq_zero_or_pos sz with h | h
                · subst h; simp at e2
                · exact h
               have hinit : relL C w ((List.range (len * sz)).map fun k => zs.getD (k % sz) .junk) ((List.range (len * sz)).map fun k => z.cells.toList.getD (k % sz) undef) := by
                rw [List.range_eq_range']
                refine kF _ _ _ _ fun j _ _ => ?_
                have hj : j % sz < zs.length := by rw [e3]; exact Nat.mod_lt _ hsz0
                obtain ⟨v, h3, h4⟩ := aY (j % sz) zs[j % sz] hzl (List.getElem?_eq_getElem hj)
                simpa [List.getD, h3, List.getElem?_eq_getElem hj] using h4
               obtain ⟨os, ho, hro⟩ := iw (fun i => some (i * sz, sz)) parts vparts _ _ out hinit h1 h2 hf
               refine ⟨e, sz, out, ds, os, hu, ?_, rfl, hd, hro, hl⟩
               have hn1 : ¬ (len * sz > 2 ^ 24) := by omega
               have hn2 : ¬ (len * sz = 0) := by omega
               have ecells : (Array.range (len * sz)).map (fun k => z.cells[k % z.cells.size]!) = ((List.range (len * sz)).map fun k => z.cells.toList.getD (k % sz) undef).toArray := by
                apply Array.ext'
                simp only [Array.toList_map, Array.toList_range]
                refine List.map_congr_left fun k _ => ?_
                have : z.cells.size = sz := by simpa [e3] using hzlen
                rw [this]
                have hk : k % sz < z.cells.size := by rw [this]; exact Nat.mod_lt _ hsz0
                simp [List.getD, hk]
               simp only [Instr.buildSlice, Sem.run_bind, underlying, run_program, Result.andThen_ok, hu, Sem.run_pure, aL hz, hn1, hn2, if_false, hzr, ecells, ho]
               simp [newRow]
 · simp [T.ok] at hok
theorem rE {P : Program} {C : Ctx} {w : World} (hw : WF C w) (t : TypeId) (len : Nat) (parts : List (Nat × SV)) (vparts : List (Nat × Value)) (s : SV)
  (h1 : vparts.map (·.1) = parts.map (·.1)) (h2 : relL C w (parts.map (·.2)) (vparts.map (·.2))) (hok : (dw P t len parts).ok) (hv : (dw P t len parts).val = some s) :
  ∃ y o, (Instr.buildSlice t len vparts.toArray).run P w = .ok y (w.alloc o) /\ rel C (w.alloc o) s y := by
 obtain ⟨e, sz, out, ds, os, hu, hr, rfl, hd, hro, hl⟩ := l6 t len parts vparts s h1 h2 hok hv
 exact ⟨_, _, hr, WQ hw hd hro e sz len hl⟩
def au (s : ByteArray) (i : Int) : Int := ((s.data.toList.getD i.toNat 0).toNat : Int)
def BF : List SV -> Option (List ByteArray)
 | [] => some []
 | .dt (.cell (.string s)) :: l => (BF l).map (s :: ·)
 | _ :: _ => none
theorem BG {C : Ctx} {w : World} : ∀ {l : List SV} {ss : List ByteArray} {vs : List Value} {i : Nat}, BF l = some ss -> relL C w l vs -> i < l.length -> vs[i]? = some (.string (ss.getD i ⟨#[]⟩))
 | [], _, _, _, _, _, h => by simp at h
 | d :: l, ss, vs, i, h, hr, hi => by
   obtain ⟨v, r, rfl, h1, h2⟩ := hr
   unfold BF at h
   split at h
   · rename_i h0; cases h0
   · rename_i s l' h0
     injection h0 with e1 e2
     subst e1; subst e2
     obtain ⟨q, hq, rfl⟩ := Option.map_eq_some_iff.1 h
     rw [aj] at h1
     subst h1
     cases i with
     | zero => rfl
     | succ i =>
       have := BG hq h2 (i := i) (by simpa using hi)
       simpa using this
   · cases h
def kZ (P : Program) (t : TypeId) (x ix : SV) : T SV :=
 match P.underlying t, x, ix with
 | some (.array n e), .agg l, .dt (.cell (.int _ i)) => match bg P e, nQ P e, BF l with
   | some 1, some false, some ss => bif Nat.beq l.length n then .need (0 <= i /\ i < n) (.ret (vS (ss.getD i.toNat ⟨#[]⟩))) else .fail
   | _, _, _ => .fail
 | some .string, .dt (.cell (.string s)), .dt (.cell (.int _ i)) => .need (0 <= i /\ i < s.size) (.ret (vI .u8 (au s i)))
 | _, _, _ => .fail
theorem lU {P : Program} {C : Ctx} {w : World} (t : TypeId) (x ix s : SV) (u v : Value)
  (hx : rel C w x u) (hi : rel C w ix v) (hok : (kZ P t x ix).ok) (hv : (kZ P t x ix).val = some s) :
  ∃ y, (Instr.index t u v).run P w = .ok y w /\ rel C w s y := by
 unfold kZ at hok hv
 split at hok
 · rename_i n e l k i hu
   simp only [hu] at hv
   split at hok
   · rename_i ss hz ha hs
     simp only [hz, ha, hs] at hv
     cases hb : Nat.beq l.length n with
     | false => rw [hb] at hok; exact hok.elim
     | true =>
       rw [hb] at hok hv
       simp only [cond_true, T.val, T.ok, and_true, Option.some.injEq] at hv hok
       subst hv
       have hb := Nat.eq_of_beq_eq_true hb
       obtain ⟨vs, rfl, hr⟩ := hx
       rw [aj] at hi
       subst hi
       obtain ⟨h0, h1⟩ := hok
       have hg := BG hs hr (i := i.toNat) (by omega)
       refine ⟨_, ?_, aj.2 rfl⟩
       simp only [Instr.index, asIntOf, underlying, Sem.run_bind, Sem.run_pure, run_program, Result.andThen_ok, hu]
       rw [if_pos ⟨h0, h1⟩]
       simp only [Sem.run_bind, aL hz, Result.andThen_ok, Nat.mul_one]
       simp [part, d9 ha, hg]
   · exact hok.elim
 · rename_i str k i hu
   simp only [hu, T.val, T.ok, and_true, Option.some.injEq] at hv hok
   subst hv
   rw [aj] at hx hi
   subst hx; subst hi
   obtain ⟨h0, h1⟩ := hok
   have hlt : i.toNat < str.size := by omega
   refine ⟨.int .u8 (au str i), ?_, aj.2 rfl⟩
   simp only [Instr.index, asIntOf, underlying, Sem.run_bind, Sem.run_pure, run_program, Result.andThen_ok, hu]
   rw [if_pos h0]
   have e : str[i.toNat]? = some str[i.toNat] := getElem?_pos str i.toNat hlt
   rw [e]
   simp only [Sem.run_pure]
   have : (str[i.toNat].toNat : Int) = au str i := by
    unfold au
    have hlt' : i.toNat < str.data.toList.length := by simpa using hlt
    rw [List.getD, List.getElem?_eq_getElem hlt']
    simp; rfl
   rw [this]
 · simp [T.ok] at hok
def NS (P : Program) (t : TypeId) (x : SV) (low high : Option SV) : T SV :=
 match P.underlying t, x, low, high with
 | some .string, .dt (.cell (.string s)), none, some (.dt (.cell (.int _ h))) => .need (0 <= h /\ h <= s.size) (.ret (vS (s.extract 0 h.toNat)))
 | some .string, .dt (.cell (.string s)), some (.dt (.cell (.int _ l))), none => .need (0 <= l /\ l <= s.size) (.ret (vS (s.extract l.toNat s.size)))
 | some .string, .dt (.cell (.string s)), some (.dt (.cell (.int _ l))), some (.dt (.cell (.int _ h))) => .need (0 <= l /\ l <= h /\ h <= s.size) (.ret (vS (s.extract l.toNat h.toNat)))
 | some (.slice e), .dt (.arr sz n f), none, some (.dt (.cell (.int _ h))) =>
   match bg P e with
   | some z => bif Nat.beq z sz then .need (0 <= h /\ h <= n) (.ret (.dt (.arr sz h.toNat f))) else .fail
   | none => .fail
 | some (.slice e), .dt (.arr sz n f), some (.dt (.cell (.int _ l))), none =>
   match bg P e with
   | some z => bif Nat.beq z sz then .need (0 <= l /\ l <= n) (.ret (.dt (.arr sz (n - l.toNat) fun i j => f (i + l.toNat) j))) else .fail
   | none => .fail
 | some (.slice e), .dt (.arr sz n f), some (.dt (.cell (.int _ l))), some (.dt (.cell (.int _ h))) =>
   match bg P e with
   | some z => bif Nat.beq z sz then .need (0 <= l /\ l <= h /\ h <= n) (.ret (.dt (.arr sz (h.toNat - l.toNat) fun i j => f (i + l.toNat) j))) else .fail
   | none => .fail
 | _, _, _, _ => .fail
theorem xZ {w : World} {sz n l h c : Nat} {f : Nat -> Nat -> Dt} {A : Option Addr} (hlh : l <= h) (hhn : h <= n) (hr : Rep w (.arr sz n f) (.slice A n c)) :
  Rep w (.arr sz (h - l) fun i j => f (i + l) j) (.slice (if c = l then A else A.map (·.add (l * sz))) (h - l) (c - l)) := by
 obtain ⟨A', c', e, hnc, hc⟩ := hr
 injection e with e1 e2 e3
 subst e1; subst e3
 refine ⟨_, _, rfl, by omega, fun hpos => ?_⟩
 obtain ⟨b, off, rfl, hcell⟩ := hc (by omega)
 rw [if_neg (by omega)]
 refine ⟨b, off + l * sz, by simp [aZ], fun i hi j hj => ?_⟩
 obtain ⟨u, h1, h2⟩ := hcell (i + l) (by omega) j hj
 refine ⟨u, ?_, h2⟩
 rw [← h1]
 congr 2
 rw [Nat.add_mul]; omega
theorem aG {P : Program} {w : World} (k : IntKind) (i : Int) (y : Nat) (c : BoundsCode) (h : 0 <= i /\ i <= y) : (Instr.sliceBound (.int k i) y c).run P w = .ok i.toNat w := by
 simp only [Instr.sliceBound, asIntOf, Sem.run_bind, Sem.run_pure, Result.andThen_ok]
 rw [if_pos h]
 rfl
theorem Ig {P : Program} {C : Ctx} {w : World} (t : TypeId) (x s : SV) (low high : Option SV) (u : Value) (vl vh : Option Value)
  (hx : rel C w x u) (hl : ∀ s, low = some s -> ∃ v, vl = some v /\ rel C w s v) (hl0 : low = none -> vl = none) (hh : ∀ s, high = some s -> ∃ v, vh = some v /\ rel C w s v) (hh0 : high = none -> vh = none)
  (hok : (NS P t x low high).ok) (hv : (NS P t x low high).val = some s) :
  ∃ y, (Instr.sliceAt t u vl vh none).run P w = .ok y w /\ rel C w s y := by
 unfold NS at hok hv
 split at hok
 all_goals first | (simp [T.ok] at hok; done) | skip
 · rename_i str k h hu
   obtain ⟨v, rfl, hr⟩ := hh _ rfl
   rw [hl0 rfl]
   rw [aj] at hx hr
   subst hx; subst hr
   simp only [hu, T.val, T.ok, and_true, Option.some.injEq] at hv hok
   subst hv
   refine ⟨_, ?_, aj.2 rfl⟩
   simp only [Instr.sliceAt, Instr.slice, Instr.sliceBounds, underlying, Sem.run_bind, Sem.run_pure, run_program, Result.andThen_ok, hu, Option.isSome_none, Bool.false_eq_true, if_false, aG k h _ _ hok]
 · rename_i str k l hu
   obtain ⟨v, rfl, hr⟩ := hl _ rfl
   rw [hh0 rfl]
   rw [aj] at hx hr
   subst hx; subst hr
   simp only [hu, T.val, T.ok, and_true, Option.some.injEq] at hv hok
   subst hv
   refine ⟨_, ?_, aj.2 rfl⟩
   simp only [Instr.sliceAt, Instr.slice, Instr.sliceBounds, underlying, Sem.run_bind, Sem.run_pure, run_program, Result.andThen_ok, hu, Option.isSome_none, Bool.false_eq_true, if_false, aG k l _ _ hok]
 · rename_i str k l k' h hu
   obtain ⟨v, rfl, hr⟩ := hl _ rfl
   obtain ⟨v', rfl, hr'⟩ := hh _ rfl
   rw [aj] at hx hr hr'
   subst hx; subst hr; subst hr'
   simp only [hu, T.val, T.ok, and_true, Option.some.injEq] at hv hok
   subst hv
   refine ⟨_, ?_, aj.2 rfl⟩
   have b1 := aG (P := P) (w := w) k' h str.size .sliceAlen ⟨by omega, hok.2.2⟩
   have b2 := aG (P := P) (w := w) k l h.toNat .sliceB ⟨by omega, by omega⟩
   simp only [Instr.sliceAt, Instr.slice, Instr.sliceBounds, underlying, Sem.run_bind, Sem.run_pure, run_program, Result.andThen_ok, hu, Option.isSome_none, Bool.false_eq_true, if_false, b1, b2]
 · rename_i e sz n f k h hu
   obtain ⟨v, rfl, hr⟩ := hh _ rfl
   rw [hl0 rfl]
   rw [aj] at hr
   subst hr
   simp only [hu] at hv
   cases hz : bg P e with
   | none => simp [hz, T.ok] at hok
   | some z =>
     simp only [hz] at hok hv
     cases hb : Nat.beq z sz with
     | false => simp [hb, T.ok] at hok
     | true =>
       have := Nat.eq_of_beq_eq_true hb
       subst this
       simp only [hb, cond_true, T.val, T.ok, and_true, Option.some.injEq] at hv hok
       subst hv
       obtain ⟨A, c, rfl, hnc, hcells⟩ := hx.here
       have b1 := aG (P := P) (w := w) k h c .sliceAcap ⟨hok.1, by omega⟩
       refine ⟨_, by simp only [Instr.sliceAt, Instr.slice, Instr.sliceBounds, underlying, Sem.run_bind, Sem.run_pure, run_program, Result.andThen_ok, hu, Option.isSome_none, b1, if_true, aL hz]; rfl, hx.mono fun w' hw' => ?_⟩
       have := xZ (l := 0) (h := h.toNat) (Nat.zero_le _) (by omega) hw'
       simpa using this
 · rename_i e sz n f k l hu
   obtain ⟨v, rfl, hr⟩ := hl _ rfl
   rw [hh0 rfl]
   rw [aj] at hr
   subst hr
   simp only [hu] at hv
   cases hz : bg P e with
   | none => simp [hz, T.ok] at hok
   | some z =>
     simp only [hz] at hok hv
     cases hb : Nat.beq z sz with
     | false => simp [hb, T.ok] at hok
     | true =>
       have := Nat.eq_of_beq_eq_true hb
       subst this
       simp only [hb, cond_true, T.val, T.ok, and_true, Option.some.injEq] at hv hok
       subst hv
       obtain ⟨A, c, rfl, hnc, hcells⟩ := hx.here
       have b1 := aG (P := P) (w := w) k l n .sliceB hok
       refine ⟨_, by simp only [Instr.sliceAt, Instr.slice, Instr.sliceBounds, underlying, Sem.run_bind, Sem.run_pure, run_program, Result.andThen_ok, hu, Option.isSome_none, Bool.false_eq_true, if_false, b1, aL hz]; rfl, hx.mono fun w' hw' => ?_⟩
       exact xZ (l := l.toNat) (h := n) (by omega) (Nat.le_refl _) hw'
 · rename_i e sz n f k l k' h hu
   obtain ⟨v, rfl, hr⟩ := hl _ rfl
   obtain ⟨v', rfl, hr'⟩ := hh _ rfl
   rw [aj] at hr hr'
   subst hr; subst hr'
   simp only [hu] at hv
   cases hz : bg P e with
   | none => simp [hz, T.ok] at hok
   | some z =>
     simp only [hz] at hok hv
     cases hb : Nat.beq z sz with
     | false => simp [hb, T.ok] at hok
     | true =>
       have := Nat.eq_of_beq_eq_true hb
       subst this
       simp only [hb, cond_true, T.val, T.ok, and_true, Option.some.injEq] at hv hok
       subst hv
       obtain ⟨A, c, rfl, hnc, hcells⟩ := hx.here
       have b1 := aG (P := P) (w := w) k' h c .sliceAcap ⟨by omega, by omega⟩
       have b2 := aG (P := P) (w := w) k l h.toNat .sliceB ⟨by omega, by omega⟩
       refine ⟨_, by simp only [Instr.sliceAt, Instr.slice, Instr.sliceBounds, underlying, Sem.run_bind, Sem.run_pure, run_program, Result.andThen_ok, hu, Option.isSome_none, Bool.false_eq_true, if_false, if_true, b1, b2, aL hz]; rfl, hx.mono fun w' hw' => ?_⟩
       exact xZ (l := l.toNat) (h := h.toNat) (by omega) (by omega) hw'
end Rx
set_option linter.unusedSectionVars false
set_option linter.unusedSimpArgs false
set_option linter.unusedVariables false
namespace Rx
open Go
variable [Glob]
def nrm : SV -> SV
 | .kb b => vB b
 | .ki k n => vI k n
 | s => s
theorem aX {C : Ctx} {w : World} {s : SV} {v : Value} (h : rel C w s v) : rel C w (nrm s) v := by
 cases s <;> first | exact h | exact aj.2 h
def jq (P : Program) (t : TypeId) (x y : SV) : Option Bool :=
 match P.underlying t, nrm x, nrm y with
 | some .bool, .dt (.cell (.bool a)), .dt (.cell (.bool b)) => some (a == b)
 | some (.int _), .dt (.cell (.int k a)), .dt (.cell (.int k' b)) => if k = k' then some (a == b) else none
 | some .string, .dt (.cell (.string a)), .dt (.cell (.string b)) => some (a == b)
 | _, _, _ => none
def eqFields (P : Program) (l m : List SV) : List Field -> Option Bool
 | [] => some true
 | f :: fs =>
   bif f.name == "_" then none else
   match nQ P f.type, l[f.offset]?, m[f.offset]? with
   | some false, some x, some y => match jq P f.type x y, eqFields P l m fs with
     | some a, some b => some (a && b)
     | _, _ => none
   | _, _, _ => none
def Cj (P : Program) (t : TypeId) (x y : SV) : Option Bool :=
 match P.underlying t, x, y with
 | some (.struct fs), .agg l, .agg m => bif P.stoodInHeld t || P.eqGuardType P.depth t then none else eqFields P l m fs.toList
 | _, .dt (.cell (.bool _)), .dt (.cell (.bool _)) => jq P t x y
 | _, _, _ => none
theorem sJ {P : Program} {C : Ctx} {w : World} (t : TypeId) (x y : SV) (u v : Value) (b : Bool) (hx : rel C w x u) (hy : rel C w y v) (h : jq P t x y = some b) (d : Nat) :
  (Op.equalIn (d + 1) t u v).run P w = .ok b w := by
 have hx := aX hx
 have hy := aX hy
 unfold jq at h
 generalize nrm x = x' at *
 generalize nrm y = y' at *
 split at h
 · rename_i hu
   rw [aj] at hx hy; subst hx; subst hy
   simp only [Option.some.injEq] at h; subst h
   simp [Op.equalIn, underlying, hu]
 · rename_i hu
   rw [aj] at hx hy; subst hx; subst hy
   split at h
   · rename_i hk
     subst hk
     simp only [Option.some.injEq] at h; subst h
     simp [Op.equalIn, underlying, hu]
   · cases h
 · rename_i hu
   rw [aj] at hx hy; subst hx; subst hy
   simp only [Option.some.injEq] at h; subst h
   simp [Op.equalIn, underlying, hu]
 · cases h
theorem Jk {P : Program} {w : World} {t : TypeId} {vs : List Value} {off : Nat} {v : Value} (ha : nQ P t = some false) (h : vs[off]? = some v) : (part t vs.toArray off).run P w = .ok v w := by
 simp [part, d9 ha, h]
theorem oF {P : Program} {C : Ctx} {w : World} (l m : List SV) (us vs : List Value) (hl : relL C w l us) (hm : relL C w m vs) (d : Nat) : ∀ (fs : List Field) (b : Bool), eqFields P l m fs = some b ->
  Sem.run P (forIn fs (none, ()) fun (f : Field) (_ : Option Bool × Unit) =>
          if f.name ≠ "_" then do
           let a ← part f.type us.toArray f.offset
           let c ← part f.type vs.toArray f.offset
           let r ← Op.equalIn (d + 1) f.type a c
           if (!r) = true then pure (ForInStep.done (some false, ())) else pure (ForInStep.yield (none, ()))
          else pure (ForInStep.yield (none, ()))) w = .ok (if b = true then (none, ()) else (some false, ())) w
 | [], b, h => by
   simp only [eqFields, Option.some.injEq] at h
   subst h
   simp
 | f :: fs, b, h => by
   simp only [eqFields] at h
   cases hn : (f.name == "_") with
   | true => rw [hn] at h; simp at h
   | false =>
     rw [hn, cond_false] at h
     have hne : f.name ≠ "_" := by simpa using hn
     cases ha : nQ P f.type with
     | none => simp [ha] at h
     | some ag =>
     cases ag with
     | true => simp [ha] at h
     | false =>
     cases hx : l[f.offset]? with
     | none => simp [ha, hx] at h
     | some x =>
     cases hy : m[f.offset]? with
     | none => simp [ha, hx, hy] at h
     | some y =>
     simp only [ha, hx, hy] at h
     cases hc : jq P f.type x y with
     | none => simp [hc] at h
     | some p =>
     cases hf : eqFields P l m fs with
     | none => simp [hc, hf] at h
     | some q =>
     simp only [hc, hf, Option.some.injEq] at h
     subst h
     obtain ⟨u, hu1, hu2⟩ := aY _ x hl hx
     obtain ⟨v, hv1, hv2⟩ := aY _ y hm hy
     have ih := oF l m us vs hl hm d fs q hf
     have he := sJ f.type x y u v p hu2 hv2 hc d
     rw [List.forIn_cons]
     simp only [hne, ne_eq, not_false_eq_true, if_true, Sem.run_bind, Jk ha hu1, Jk ha hv1, Result.andThen_ok, he]
     cases p with
     | true => simp only [Bool.not_true, Bool.false_eq_true, if_false, Sem.run_pure, Result.andThen_ok, Bool.true_and]; exact ih
     | false => simp
theorem Ip {P : Program} {w : World} (op : BinOp) (t : TypeId) (ox oy : Operand) (xs ys : Array Value) (h : P.eqGuardType P.depth t = false) : (eqGuard op t ox oy (.agg xs) (.agg ys)).run P w = .ok () w := by
 unfold eqGuard
 split
 · rw [if_neg (by simp)]
   simp only [Sem.run_bind, run_program, Result.andThen_ok, h, Bool.not_false, if_true, Sem.run_pure]
 · rw [if_neg (by simp)]
   simp only [Sem.run_bind, run_program, Result.andThen_ok, h, Bool.not_false, if_true, Sem.run_pure]
 · rw [if_pos (by simp)]
   rfl
theorem Fy {P : Program} {w : World} (op : BinOp) (t : TypeId) (ox oy : Operand) (x y : Bool) : (eqGuard op t ox oy (.bool x) (.bool y)).run P w = .ok () w := by
 unfold eqGuard
 split <;> rfl
theorem mO {P : Program} {C : Ctx} {w : World} (t : TypeId) (x y : SV) (u v : Value) (b : Bool) (hx : rel C w x u) (hy : rel C w y v) (h : Cj P t x y = some b) :
  (∀ op ox oy, (eqGuard op t ox oy u v).run P w = .ok () w) /\ (Op.equal t u v).run P w = .ok b w /\ (binOp .eql t u v = do pure (.bool (← Op.equal t u v))) /\ (binOp .neq t u v = do pure (.bool (!(← Op.equal t u v)))) := by
 unfold Cj at h
 split at h
 · rename_i fs l m hu
   obtain ⟨us, rfl, hl⟩ := hx
   obtain ⟨vs, rfl, hm⟩ := hy
   cases hg : (P.stoodInHeld t || P.eqGuardType P.depth t) with
   | true => rw [hg] at h; simp at h
   | false =>
     rw [hg, cond_false] at h
     simp only [Bool.or_eq_false_iff] at hg
     refine ⟨fun op ox oy => Ip op t ox oy _ _ hg.2, ?_, rfl, rfl⟩
     have gen : ∀ d, (Op.equalIn (d + 1 + 1) t (.agg us.toArray) (.agg vs.toArray)).run P w = .ok b w := by
        intro d
        have hfs := oF (P := P) l m us vs hl hm d fs.toList b h
        simp only [Op.equalIn, underlying, hu, hg.1, Sem.run_bind, run_program, Result.andThen_ok, Sem.run_pure, Bool.false_eq_true, if_false]
        rw [← Array.forIn_toList]
        refine (congrArg (fun r : Result (Option Bool × Unit) => r.andThen _) hfs).trans ?_
        cases b <;> rfl
     exact gen 9998
 · rename_i p q _
   rw [aj] at hx hy; subst hx; subst hy
   exact ⟨fun op ox oy => Fy op t ox oy _ _, sJ (C := C) t _ _ _ _ b (aj.2 rfl) (aj.2 rfl) h 9999, rfl, rfl⟩
 · cases h
def jV (P : Program) (t : TypeId) (op : BinOp) (x y : SV) : T SV :=
 match op with
 | .eql => match Cj P t x y with
   | some b => .ret (vB b)
   | none => vT .eql x y
 | .neq => match Cj P t x y with
   | some b => .ret (vB (!b))
   | none => vT .neq x y
 | op => vT op x y
theorem jC {P : Program} {C : Ctx} {w : World} (op : BinOp) (x y : SV) (u v : Value) (t : TypeId) (a b : Operand) {s : SV}
  (hx : rel C w x u) (hy : rel C w y v) (hok : (jV P t op x y).ok) (hv : (jV P t op x y).val = some s) :
  ∃ r, (do eqGuard op t a b u v; binOp op t u v : Sem Value).run P w = .ok r w /\ rel C w s r := by
 have base : (vT op x y).ok -> (vT op x y).val = some s -> ∃ r, (do eqGuard op t a b u v; binOp op t u v : Sem Value).run P w = .ok r w /\ rel C w s r := by
  intro h1 h2
  obtain ⟨r, rfl, hr⟩ := HZ (P := P) op x y u v t a b hx hy h1 h2
  exact ⟨r, hr, aj.2 rfl⟩
 cases op
 case eql =>
  simp only [jV] at hok hv
  cases he : Cj P t x y with
  | none => simp only [he] at hok hv; exact base hok hv
  | some q =>
    simp only [he, T.val, Option.some.injEq] at hv
    subst hv
    obtain ⟨h1, h2, h3, _⟩ := mO (P := P) t x y u v q hx hy he
    refine ⟨.bool q, ?_, aj.2 rfl⟩
    simp only [Sem.run_bind, h1, Result.andThen_ok, h3, h2, Sem.run_pure]
 case neq =>
  simp only [jV] at hok hv
  cases he : Cj P t x y with
  | none => simp only [he] at hok hv; exact base hok hv
  | some q =>
    simp only [he, T.val, Option.some.injEq] at hv
    subst hv
    obtain ⟨h1, h2, _, h4⟩ := mO (P := P) t x y u v q hx hy he
    refine ⟨.bool (!q), ?_, aj.2 rfl⟩
    simp only [Sem.run_bind, h1, Result.andThen_ok, h4, h2, Sem.run_pure]
 all_goals exact base hok hv
def YP (op : BinOp) (k : IntKind) (x y : Int) : Option (T SV) :=
 match op with
 | .add => some (bif decide (lo k <= x + y) && decide (x + y <= hi k) then .ret (.ki k (x + y)) else .fail)
 | .sub => some (bif decide (lo k <= x - y) && decide (x - y <= hi k) then .ret (.ki k (x - y)) else .fail)
 | .eql => some (.ret (.kb (decide (x = y))))
 | .neq => some (.ret (.kb (!decide (x = y))))
 | .lss => some (.ret (.kb (decide (x < y))))
 | .leq => some (.ret (.kb (decide (x <= y))))
 | .gtr => some (.ret (.kb (decide (x > y))))
 | .geq => some (.ret (.kb (decide (x ≥ y))))
 | _ => none
def VG (P : Program) (t : TypeId) (op : BinOp) (x y : SV) : T SV :=
 match x, y with
 | .ki k a, .ki k' b => if k = k' then match YP op k a b with
   | some t => t
   | none => jV P t op (nrm x) (nrm y)
   else .fail
 | x, y => jV P t op (nrm x) (nrm y)
theorem J6 {P : Program} {C : Ctx} {w : World} (op : BinOp) (x y : SV) (u v : Value) (t : TypeId) (a b : Operand) {s : SV}
  (hx : rel C w x u) (hy : rel C w y v) (hok : (VG P t op x y).ok) (hv : (VG P t op x y).val = some s) :
  ∃ r, (do eqGuard op t a b u v; binOp op t u v : Sem Value).run P w = .ok r w /\ rel C w s r := by
 have base : ∀ x y : SV, rel C w x u -> rel C w y v -> (jV P t op (nrm x) (nrm y)).ok -> (jV P t op (nrm x) (nrm y)).val = some s -> ∃ r, (do eqGuard op t a b u v; binOp op t u v : Sem Value).run P w = .ok r w /\ rel C w s r :=
  fun x y hx hy h1 h2 => jC op _ _ u v t a b (aX hx) (aX hy) h1 h2
 unfold VG at hok hv
 split at hok
 · rename_i k n k' m
   by_cases hk : k = k'
   · subst hk
     simp only [if_true] at hok hv
     cases ho : YP op k n m with
     | none => rw [ho] at hok hv; exact base _ _ hx hy hok hv
     | some tt =>
       rw [ho] at hok hv
       simp only at hok hv
       have hu : u = .int k n := hx
       have hvv : v = .int k m := hy
       subst hu; subst hvv
       cases op <;> simp only [YP, Option.some.injEq, reduceCtorEq] at ho <;> subst ho <;>
        first
           | (simp only [T.val, Option.some.injEq] at hv
              subst hv
              exact ⟨_, by simp [eqGuard, binOp, Op.intArith, Op.intDiv, Op.intCmp]; rfl, by
               show Value.bool _ = Value.bool _
               congr 1
               first | rfl | (rw [Bool.eq_iff_iff]; simp) | (simp [bne]; done) | skip⟩)
           | (cases hb : (decide (lo k <= n + m) && decide (n + m <= hi k)) with
              | false => rw [hb] at hok; exact hok.elim
              | true =>
                rw [hb] at hv
                simp only [cond_true, T.val, Option.some.injEq] at hv
                subst hv
                simp only [Bool.and_eq_true, decide_eq_true_eq] at hb
                exact ⟨.int k (n + m), by simp [eqGuard, binOp, Op.intArith, nJ _ _ hb], rfl⟩)
           | (cases hb : (decide (lo k <= n - m) && decide (n - m <= hi k)) with
              | false => rw [hb] at hok; exact hok.elim
              | true =>
                rw [hb] at hv
                simp only [cond_true, T.val, Option.some.injEq] at hv
                subst hv
                simp only [Bool.and_eq_true, decide_eq_true_eq] at hb
                exact ⟨.int k (n - m), by simp [eqGuard, binOp, Op.intArith, nJ _ _ hb], rfl⟩)
   · simp [hk, T.ok] at hok
 · rename_i h1
   split at hv
   · exact (h1 _ _ _ _ rfl rfl).elim
   · exact base _ _ hx hy hok hv
def EW (P : Program) (t : TypeId) (x : SV) : SV :=
 match P.underlying t, x with
 | some (.slice e), .dt (.cell (.slice none 0 _)) => .dt (.arr ((bg P e).getD 0) 0 fun _ _ => aR)
 | _, _ => x
theorem yu {P : Program} {t : TypeId} {C : Ctx} {w : World} {s : SV} {v : Value} (h : rel C w s v) : rel C w (EW P t s) v := by
 unfold EW
 split
 · rw [aj] at h
   subst h
   intro w' _
   exact ⟨none, _, rfl, Nat.zero_le _, fun h => absurd h (Nat.lt_irrefl 0)⟩
 · exact h
def iT (P : Program) (rw : Operand -> SV) (g : Nat -> Option Ob) (new : Nat) (o : Oper) : T Res :=
 let ev := fun x => nrm (rw x)
 match o.op with
 | .move x => .ret ⟨rw x, .none⟩
 | .assign x => .ret ⟨rw x, .none⟩
 | .pick c a b => match rw c with
   | .kb q => bif q then .ret ⟨rw a, .none⟩ else .ret ⟨rw b, .none⟩
   | .dt (.cell (.bool q)) => .ite q (.ret ⟨rw a, .none⟩) (.ret ⟨rw b, .none⟩)
   | _ => .fail
 | .alloc t => match zeroOf P t with
   | some cs => .ret ⟨.ptr new 0, ⟨[(new, some (.cells t cs))], [new]⟩⟩
   | none => .fail
 | .box t x => match dz (ev x) with
   | some cs => .ret ⟨.ptr new 0, ⟨[(new, some (.cells t cs))], [new]⟩⟩
   | none => .fail
 | .build t ps => (jD P t (ps.toList.map fun p => (p.1, ev p.2))).bind fun s => .ret ⟨s, .none⟩
 | .buildSlice t n ps => (dw P t n (ps.toList.map fun p => (p.1, ev p.2))).bind fun s => .ret ⟨s, .none⟩
 | .load t x => (fU P g t (ev x)).bind fun s => .ret ⟨s, .none⟩
 | .store t p x => iZ P g t (ev p) (ev x)
 | .binOp op t x y _ => (VG P t op (rw x) (rw y)).bind fun s => .ret ⟨s, .none⟩
 | .unOp op _ x => (Vp op (rw x)).bind fun s => .ret ⟨s, .none⟩
 | .makeFunc (.func f) first caps => bif first.isEmpty then .ret ⟨.fn f (caps.toList.map ev), .none⟩ else .fail
 | .fieldAddr s x f => (eY P s f (ev x)).bind fun s => .ret ⟨s, .none⟩
 | .field t x f => (mQ P t (ev x) f).bind fun s => .ret ⟨s, .none⟩
 | .indexAddr t x i => (eZ P g t (EW P t (ev x)) (ev i)).bind fun s => .ret ⟨s, .none⟩
 | .index t x i => (kZ P t (ev x) (ev i)).bind fun s => .ret ⟨s, .none⟩
 | .slice t x low high none => (NS P t (EW P t (ev x)) (low.map ev) (high.map ev)).bind fun s => .ret ⟨s, .none⟩
 | .extract x i => (iN (ev x) i).bind fun s => .ret ⟨s, .none⟩
 | .call { callee := .builtin .len, args := ⟨[x]⟩, argTypes := ⟨[t]⟩ } => (zu P g t (ev x)).bind fun s => .ret ⟨s, .none⟩
 | _ => .fail
theorem nZ {α β : Type} (t : T α) (f : α -> β) : (t.bind fun s => .ret (f s)).ok = t.ok /\ (t.bind fun s => .ret (f s)).val = t.val.map f := by
 induction t with
 | ret a => simp [T.bind, T.ok, T.val]
 | ite b t e h1 h2 => cases b <;> simp [T.bind, T.ok, T.val, h1.1, h1.2, h2.1, h2.2]
 | need p t h => simp [T.bind, T.ok, T.val, h.1, h.2]
 | both t e h1 h2 => simp [T.bind, T.ok, T.val]
 | all n f h => simp [T.bind, T.ok, T.val]
 | fail => simp [T.bind, T.ok, T.val]
def Did (P : Program) (a : Act) (o : Oper) (C : Ctx) (w : World) (r : Res) : Prop :=
 ∃ v w' C', ((execOp a.eval o).run P w = .ok (.value v) w' ∨ ((execOp a.eval o).run P w = .ok .skip w' /\ v = undef)) /\ Came C w r C' w' v
theorem Did.value {P : Program} {a : Act} {o : Oper} {C : Ctx} {w : World} (hw : WF C w) {t : T SV} {r : Res}
  (hok : (t.bind fun s => .ret (⟨s, .none⟩ : Res)).ok) (hval : (t.bind fun s => .ret (⟨s, .none⟩ : Res)).val = some r)
  (h : ∀ s, t.ok -> t.val = some s -> ∃ v, (execOp a.eval o).run P w = .ok (.value v) w /\ rel C w s v) : Did P a o C w r := by
 rw [(nZ t _).1] at hok
 rw [(nZ t _).2] at hval
 cases hv : t.val with
 | none => rw [hv] at hval; cases hval
 | some s =>
   rw [hv] at hval
   simp only [Option.map_some, Option.some.injEq] at hval
   subst hval
   obtain ⟨v, h1, h2⟩ := h s hok hv
   exact ⟨v, w, C, .inl h1, Came.pure hw h2⟩
end Rx
