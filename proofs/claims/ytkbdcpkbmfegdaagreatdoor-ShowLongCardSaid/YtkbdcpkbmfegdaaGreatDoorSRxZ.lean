/- What a contract says of a call in any world: the step to a statement. -/
import Derived.Test.YtkbdcpkbmfegdaaGreatDoorSRxS
import Derived.ProofKit
import Derived.OpenShut
import Derived.ReadAgain
import Derived.ChangeSame
import Derived.RowKit
import Derived.ChangeCalls
import Derived.WalkKit
import Derived.Lib.SmallJoins
import Derived.Test.YtkbdcpkbmfegdaaGreatDoorChecked
import Derived.Shelf.Lay
import Derived.Lib.LaidTab
set_option linter.unusedSectionVars false
set_option linter.unusedSimpArgs false
set_option linter.unusedVariables false
namespace Rx
open Go Go.ChangeShapes
variable [Glob]
def C0 : Ctx := ⟨fun _ => none, fun _ => none, fun _ => False⟩
theorem aes (w : World) (hg : Pers C0.W w Glob.ok) : WF C0 w := ⟨fun _ _ h => (by cases h), fun _ _ _ h => (by cases h), fun _ (h : False) => h.elim, fun _ _ h => (by cases h), fun _ _ h => (by cases h), hg⟩
theorem Yb (b : Nat) : ¬ C0.W b := by
 rintro (h | ⟨_, h⟩)
 · exact h
 · cases h
def Same (w w' : World) : Prop := w.keptBut w' (fun _ => False) /\ (∀ a : Addr, a.block < w.heap.size -> w'.frozen? a = w.frozen? a) /\ w.heap.size <= w'.heap.size /\ ∀ k, k < w.heap.size -> w'.heap[k]? = w.heap[k]?
theorem GD {w w' : World} {C' : Ctx} (h : Step (fun _ => False) C0 w C' w') : Same w w' := by
 have hb : ∀ k, k < w.heap.size -> w'.heap[k]? = w.heap[k]? := fun k hk => h.ag.block k hk (fun ⟨_, _, e⟩ => by cases e)
 refine ⟨⟨h.ag.os, h.ag.output, fun i hi => ?_⟩, fun a ha => ?_, h.ag.size, hb⟩
 · rw [hb i hi]
   cases w.heap[i]? with
   | none => trivial
   | some o => cases o <;> simp
 · unfold World.frozen?
   rw [hb _ ha]
def More (w w' : World) : Prop := ∀ (k : Nat) (o : Obj), w.heap[k]? = some o -> w'.heap[k]? = some o
theorem Same.more {w w' : World} (h : Same w w') : More w w' := fun k o hk => by
 have : k < w.heap.size := by
  obtain ⟨h1, _⟩ := Array.getElem?_eq_some_iff.1 hk
  exact h1
 rw [h.2.2.2 k this]
 exact hk
section
variable {H : Type} {enc : TypeId × Value -> H} {P : Program} {w w' : World} {base : Nat} {sp : Nat -> Bool} {held : Bool}
theorem More.cell (hm : More w w') {a : Addr} {v : Value} (h : w.cell? a = some v) : w'.cell? a = some v := by
 unfold World.cell? at h ⊢
 cases ho : w.heap[a.block]? with
 | none => rw [ho] at h; cases h
 | some o => rw [hm _ _ ho, ← ho]; exact h
theorem More.cells (hm : More w w') {a : Addr} {n : Nat} {cs : List Value} (h : w.cells? base a n = some cs) : w'.cells? base a n = some cs := by
 unfold World.cells? at h ⊢
 split at h
 · rename_i hb
   rw [if_pos hb]
   exact mapM_carry h fun x y _ _ hxy => hm.cell hxy
 · cases h
theorem More.trodStep (hm : More w w') {r r' : TypeId -> List Value -> Option (DataW H × List MemPlace)} (hr : ∀ t cs x, r t cs = some x -> r' t cs = some x) {t : TypeId} {cs : List Value} {x : DataW H × List MemPlace}
  (h : DataW.trodStep enc P w base sp held r t cs = some x) : DataW.trodStep enc P w' base sp held r' t cs = some x := by
 unfold DataW.trodStep at h ⊢
 split at h
 case h_6 e a _ =>
  simp only [Option.map_eq_some_iff, Option.bind_eq_some_iff] at h ⊢
  obtain ⟨y, ⟨cs', hc, hy⟩, rfl⟩ := h
  exact ⟨y, ⟨cs', hm.cells hc, hr _ _ _ hy⟩, rfl⟩
 case h_8 e a len cap _ =>
  simp only at h ⊢
  have one : ∀ (i : Nat) (y : DataW H × List MemPlace), (w.cells? base (a.add (i * P.cellsOf e)) (P.cellsOf e)).bind (r e) = some y -> (w'.cells? base (a.add (i * P.cellsOf e)) (P.cellsOf e)).bind (r' e) = some y := by
   intro i y hv
   simp only [Option.bind_eq_some_iff] at hv ⊢
   obtain ⟨cs', hc', hy'⟩ := hv
   exact ⟨cs', hm.cells hc', hr _ _ _ hy'⟩
  split at h
  · rename_i hc
    rw [if_pos hc]
    simp only [Option.map_eq_some_iff, Option.bind_eq_some_iff] at h ⊢
    obtain ⟨elems, he, rest, hrest, rfl⟩ := h
    refine ⟨elems, mapM_carry he (fun i y _ _ => one i y), rest, ?_, rfl⟩
    split at hrest
    · rename_i hs
      rw [if_pos hs]
      exact mapM_carry hrest (fun j y _ _ => one (len + j) y)
    · rename_i hs
      rw [if_neg hs]
      exact hrest
  · cases h
 case h_9 =>
  split at h
  · rename_i hc
    rw [if_pos hc]
    simp only [Option.map_eq_some_iff] at h ⊢
    obtain ⟨xs, hx, rfl⟩ := h
    exact ⟨xs, mapM_carry hx (fun f y _ _ hv => hr _ _ _ hv), rfl⟩
  · cases h
 case h_10 =>
  split at h
  · rename_i hc
    rw [if_pos hc]
    simp only [Option.map_eq_some_iff] at h ⊢
    obtain ⟨xs, hx, rfl⟩ := h
    exact ⟨xs, mapM_carry hx (fun f y _ _ hv => hr _ _ _ hv), rfl⟩
  · cases h
 case h_12 =>
  split at h
  · exact h
  · simp only [Option.map_eq_some_iff] at h ⊢
    obtain ⟨y, hy, rfl⟩ := h
    exact ⟨y, hr _ _ _ hy, rfl⟩
  · cases h
 case h_14 k e b _ =>
  split at h
  · rename_i es clock hb
    rw [hm _ _ hb]
    simp only
    split at h
    · rename_i hc
      rw [if_pos hc]
      simp only [Option.bind_eq_some_iff] at h ⊢
      obtain ⟨entries, he, hd⟩ := h
      refine ⟨entries, mapM_carry he (fun x y _ hy hv => ?_), hd⟩
      simp only [Option.bind_eq_some_iff] at hv ⊢
      obtain ⟨key, hk, hz⟩ := hv
      refine ⟨key, hk, ?_⟩
      split at hz
      · rename_i hf
        rw [if_pos hf]
        simp only [Option.map_eq_some_iff] at hz ⊢
        obtain ⟨q, hq, rfl⟩ := hz
        exact ⟨q, hr _ _ _ hq, rfl⟩
      · cases hz
    · cases h
  · cases h
 all_goals exact h
theorem More.trod (hm : More w w') : ∀ (n : Nat) (t : TypeId) (cs : List Value) (x : DataW H × List MemPlace), DataW.trod enc P w base sp held n t cs = some x -> DataW.trod enc P w' base sp held n t cs = some x
 | 0, _, _, _, h => by cases h
 | n + 1, t, cs, x, h => by
   rw [DataW.trod_step] at h ⊢
   exact hm.trodStep (fun t cs x => hm.trod n t cs x) h
theorem More.trodAll (hm : More w w') : ∀ {ts : List TypeId} {vs : List Value} {ds : List (DataW H)} {ps : List MemPlace}, DataW.TrodAll enc P w base sp held ts vs ds ps -> DataW.TrodAll enc P w' base sp held ts vs ds ps
 | [], [], [], _, h => h
 | _ :: _, _ :: _, _ :: _, _, ⟨p, q, ⟨f, h1⟩, h2, e⟩ => ⟨p, q, ⟨f, hm.trod f _ _ _ h1⟩, hm.trodAll h2, e⟩
end
theorem R4 {H : Type} {enc : TypeId × Value -> H} {P : Program} {f : Func} {s : ChangeSpec} {apart fresh handsOn again : Bool} {W W' : World} {args : Array Value} {ds gs : List (DataW H)} {before : List MemPlace}
  (K : Kids P (· < P.types.size)) (hz : ∀ t e, t < P.types.size -> P.underlying t = some (.slice e) -> 0 < P.cellsOf e) (hT : (f.params.toList.all fun t => Nat.blt t P.types.size) = true)
  (hW : DataW.Whole enc P f.params.toList s.vars apart W args.toList ds gs before) (hs : Same W W') (hv : s.vars = []) {tb : TypeId} (hr : f.resultTypes = #[tb]) (htb : P.underlying tb = some .bool)
  (hfn : ∀ ds : List (DataW H), ds.length = f.params.size -> s.fn H ds = { results := [.lit (.bool true)], args := ds }) :
  s.post enc P f apart fresh handsOn again W args (.bool true) W' := by
 have hlt := hW.lt
 have hW0 := hW
 obtain ⟨p, q, hA, hV, rfl, hfz, hnd⟩ := hW
 have hg : gs = [] /\ q = [] := by
  rw [hv] at hV
  cases gs with
  | nil => exact ⟨rfl, hV⟩
  | cons g gs => exact hV.elim
 obtain ⟨rfl, rfl⟩ := hg
 simp only [List.append_nil] at *
 have hlen : ds.length = f.params.size := by have := (trodAll_length hA).2; simpa using this
 have hT' : ∀ t ∈ f.params.toList, t < P.types.size := fun t ht => by
  have := List.all_eq_true.1 hT t ht
  rwa [Nat.blt_eq] at this
 have hA' : ∀ sp : Nat -> Bool, (∀ x ∈ p, sp x.block = true) -> DataW.TrodAll enc P W' 0 sp true f.params.toList args.toList ds p := fun sp hsp => hs.more.trodAll (DataW.TrodAll.respare K hz hT' hA hsp)
 have hres : ∀ (b : Nat) (sp : Nat -> Bool) (hd : Bool), DataW.TrodAll enc P W' b sp hd f.resultTypes.toList ((Value.bool true).resultList f.resultTypes.size) [.lit (.bool true)] [] := fun b sp hd => by
  rw [hr]
  exact ⟨[], [], ⟨1, by simp [DataW.trod, htb, Value.cells]⟩, rfl, rfl⟩
 have hok : ∀ (j : Nat) (t : TypeId) (r : Value), f.resultTypes[j]? = some t -> ((Value.bool true).resultList f.resultTypes.size)[j]? = some r -> Value.okWide P W' .any 0 t r :=
  RowKit.ok_one hr rfl (RowKit.okWide_bool_mk htb _)
 have hV' : ∀ (w : World) (sp : Nat -> Bool), DataW.TrodVars enc P w sp s.vars [] [] := fun w sp => by rw [hv]; rfl
 have e := hfn ds hlen
 refine ⟨ds, [], p, [], p, [], by simpa using hW0, ?_, ?_, ?_, World.keptBut_mono (fun _ hx => hx.elim) hs.1, fun _ => ⟨hok, [.lit (.bool true)] ++ ds, [], p, ⟨p, [], ?_, hV' _ _, by simp, ?_, ?_⟩, fun x hx _ => hx⟩⟩
 · simp only [List.append_nil, e]; exact hres _ _ _
 · simp only [List.append_nil, e]; exact hA' _ (fun x hx => by simpa using hlt x hx)
 · simp only [List.append_nil, e]; exact hV' _ _
 · have := ChangeShapes.trodAll_append (hA' (fun _ => true) (fun _ _ => rfl)) (hres 0 (fun _ => true) true)
   simpa using this
 · intro b off hb
   rw [hs.2.1 _ (hlt _ hb)]
   exact hfz b off hb
 · exact hnd
end Rx
set_option linter.unusedSectionVars false
set_option linter.unusedSimpArgs false
set_option linter.unusedVariables false
namespace Rx
open Go Go.ChangeShapes Go.WideShapes Go.RowKit
variable [Glob]
theorem Js {w w' : World} (hm : More w w') : ∀ (d : Dt) (v : Value), Rep w d v -> Rep w' d v
 | .cell _, _, h => h
 | .arr _ _ f, _, ⟨A, c, e, hc, h⟩ => ⟨A, c, e, hc, fun hn => by
   obtain ⟨b, off, ea, h⟩ := h hn
   exact ⟨b, off, ea, fun i hi j hj => by
        obtain ⟨u, h1, h2, h3⟩ := h i hi j hj
        exact ⟨u, hm.cell h1, h2, Js hm (f i j) u h3⟩⟩⟩
 | .mp _ _ _, _, ⟨b, es, c, e, h, h'⟩ => ⟨b, es, c, e, hm _ _ h, h'⟩
 | .ifc, _, h => h
 | .ri _ _ _ _, _, h => h
theorem WR {w : World} {d : Dt} {v : Value} (h : Rep w d v) : rel C0 w (.dt d) v := fun w' ha => Js (fun k o hk => by
 have hlt : k < w.heap.size := (Array.getElem?_eq_some_iff.1 hk).1
 rw [ha.block k hlt (Yb k)]
 exact hk) d v h
section
variable {H : Type} {enc : TypeId × Value -> H} {P : Program} {w : World} {base : Nat} {spare : Nat -> Bool} {held : Bool}
end
end Rx
open Rx Go
namespace Rd
noncomputable abbrev prog : Program := Go.Proofs.Tryz.prog
abbrev yR : FuncId := 6
noncomputable abbrev Ia : Func := Go.Proofs.Tryz.f6
abbrev Kn : FuncId := 37
noncomputable abbrev yC : Func := Go.Proofs.Tryz.f37
abbrev Iq : FuncId := 53
noncomputable abbrev l7 : Func := Go.Proofs.Tryz.f53
abbrev FB : FuncId := 54
noncomputable abbrev sw : Func := Go.Proofs.Tryz.f54
abbrev Ru : FuncId := 55
noncomputable abbrev QW : Func := Go.Proofs.Tryz.f55
abbrev Rw : FuncId := 94
noncomputable abbrev QX : Func := Go.Proofs.Tryz.f94
abbrev Rv : FuncId := 95
noncomputable abbrev yD : Func := Go.Proofs.Tryz.f95
abbrev sP : FuncId := 135
noncomputable abbrev og : Func := Go.Proofs.Tryz.f135
abbrev vX : FuncId := 158
abbrev Rt : FuncId := 159
abbrev lQ : FuncId := 9
abbrev kJ : TypeId := 25
abbrev Xk : TypeId := 133
end Rd
