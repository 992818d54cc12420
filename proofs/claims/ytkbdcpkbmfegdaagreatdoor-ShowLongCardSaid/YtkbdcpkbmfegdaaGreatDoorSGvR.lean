/- A law that is run to its end. -/
import Derived.Test.YtkbdcpkbmfegdaaGreatDoorSGvS
import Derived.Test.YtkbdcpkbmfegdaaGreatDoorRows
import Derived.SizedLaws
import Derived.LaidLaws
import Derived.LaidMore
import Derived.Stop.LaidErr
import Derived.Stop.Joined
import Derived.ChangeMaps5
import Derived.Laws.IdiomMaps
import Derived.Test.YtkbdcpkbmfegdaaGreatDoorSGvF
import Derived.Test.YtkbdcpkbmfegdaaGreatDoorCards
import Derived.Test.YtkbdcpkbmfegdaaGreatDoorTie
import Derived.ProofKit
import Derived.SevenTiedAt
set_option linter.unusedSimpArgs false
set_option linter.unusedVariables false
open Rx Go
namespace Gv
open Rd
noncomputable def Lu (tbl : List (Nat × List Dx)) (f : FuncId) (al : List SV) : R := Bp prog (F tbl) fl win 4000 100 16000000 0 f al .nil 0 fun s _ _ => .ret (s, ⟨.nil, 0⟩)
end Gv
set_option linter.unusedSimpArgs false
set_option linter.unusedVariables false
open Rx Go
namespace Gv
open Rd
open Go.RowKit
noncomputable def IQ : List (String × DataW Unit) := Go.Proofs.YtkbdcpkbmfegdaaGreatDoor.Rows.showDeepRow.laid
theorem own : ownKnob prog.godebug = none := by kernel_rfl
theorem Cq (os : Os) (args : Array Value) : laidMet prog IQ ((World.doorLaid prog 400 os).forCall (fun _ _ => 0) ⟨#[], args, []⟩).memory :=
 laidMet_of_run' 8 (by kernel_rfl) (by kernel_rfl)
open Go.ChangeShapes Go.WideShapes Go.ChangeAt Go.WideMaps Go.WideElems Go.ChangeMaps
theorem star : "*" ++ "errors.errorString" = "*errors.errorString" := by decide
theorem Tn (u : TypeId) (h : prog.typeName? 3 u = some "*errors.errorString") : u = 358 :=
 typeName_ptr_named (nm := "errors.errorString") (by rw [star]; kernel_rfl) (by kernel_rfl) (by decide) u (by rw [star]; exact h)
theorem Nq {w w' : World} (ha : Ag C0.W w w') {n : String} {cs : Array Value} (h : w.var? prog n = some cs) : w'.var? prog n = some cs := by
 unfold World.var? at h ⊢
 cases hg : prog.globalNamed n with
 | none => rw [hg] at h; cases h
 | some g =>
   rw [hg] at h
   simp only [Option.bind_some] at h ⊢
   cases hc : w.heap[g]? with
   | none => rw [hc] at h; cases h
   | some o =>
     have hlt : g < w.heap.size := (Array.getElem?_eq_some_iff.1 hc).1
     rw [ha.block g hlt (Yb g), hc]
     rw [hc] at h
     exact h
theorem fM {P : Program} {W : World} {x : String × DataW Unit} {r : List (String × DataW Unit)} (h : laidMet P (x :: r) W) : laidMet P r W := h.tail
theorem vZ (d : ByteArray) : ∀ (es : List MapEntry) (i : Nat), (∀ x ∈ es, ∃ s : ByteArray, x.key = .string s) ->
  ∃ a, Instr.findNow .string (.string d) es i = some a /\ ((a = none /\ ∀ x ∈ es, x.key ≠ .string d) ∨ ∃ x ∈ es, x.key = .string d /\ a.map (·.2) = some x.val)
 | [], i, _ => ⟨none, rfl, .inl ⟨rfl, fun x hx => by cases hx⟩⟩
 | x :: es, i, h => by
   obtain ⟨s, hs⟩ := h x (by simp)
   have hn : Instr.sameNow .string (.string d) (.string s) = some (Rx.Ty.str.eqb d s) := wO .str d s
   have hq := sO .str d s
   by_cases e : d = s
   · subst e
     rw [hq.2 rfl] at hn
     refine ⟨some (i, x.val), ?_, .inr ⟨x, by simp, hs, rfl⟩⟩
     simp only [Instr.findNow, hs, hn]
   · have hf : Rx.Ty.str.eqb d s = false := by
        cases hb : Rx.Ty.str.eqb d s with
        | false => rfl
        | true => exact absurd (hq.1 hb) e
     rw [hf] at hn
     obtain ⟨a, h1, h2⟩ := vZ d es (i + 1) fun y hy => h y (by simp [hy])
     refine ⟨a, by simp only [Instr.findNow, hs, hn]; exact h1, ?_⟩
     rcases h2 with ⟨h2, h3⟩ | ⟨y, hy, h2⟩
     · refine .inl ⟨h2, fun y hy => ?_⟩
       rcases List.mem_cons.1 hy with rfl | hy
       · rw [hs]; intro e2; injection e2 with e2; exact e e2.symm
       · exact h3 y hy
     · exact .inr ⟨y, by simp [hy], h2⟩
theorem zG {H : Type} (y : Lit × DataW H) : ∀ l : List (Lit × DataW H), y ∈ l.foldr DataW.insert [] ↔ y ∈ l
 | [] => by simp
 | x :: l => by rw [List.foldr_cons, mem_insert_iff, zG y l]; simp
def oZ : (vt : Rx.Ty) -> vt.den -> DataW Unit
 | .int k, n => .lit (.int k n)
 | .bool, b => .lit (.bool b)
 | .str, s => .lit (.string s.data.toList)
theorem PY : ∀ (vt : Rx.Ty) (a b : vt.den), oZ vt a = oZ vt b -> a = b
 | .int _, a, b, h => by injection h with h; injection h
 | .bool, a, b, h => by injection h with h; injection h
 | .str, a, b, h => by
   injection h with h
   injection h with h
   cases a with | mk a => cases b with | mk b =>
   congr 1
   exact Array.toList_inj.1 h
theorem Ja {V : Type} : ∀ {l : List (Rx.Ty.str.den × V)} {d : ByteArray} {v : V}, kQ .str l d = some v -> (d, v) ∈ l
 | [], _, _, h => by cases h
 | x :: l, d, v, h => by
   simp only [kQ] at h
   cases hb : Rx.Ty.str.eqb d x.1 with
   | true =>
     rw [hb] at h
     have e := (sO .str d x.1).1 hb
     simp only [cond_true, Option.some.injEq] at h
     subst h
     rw [e]
     exact List.mem_cons_self
   | false =>
     rw [hb] at h
     exact List.mem_cons_of_mem _ (Ja h)
theorem Hy {P : Program} {k : TypeId} {R : Value -> Option (DataW Unit × List MemPlace)} {es : Array MapEntry} {clock : Nat} (hk : P.underlying k = some .string) (Fi : Fit P k R es clock) {vt : Rx.Ty} (K : List (Rx.Ty.str.den × vt.den))
  (hR : ∀ v z, R v = some z -> ∃ c : vt.den, v = vt.val c /\ z.1 = oZ vt c) (hK : (es.toList.map (rg P k R)).foldr DataW.insert [] = K.map fun p => (Lit.string p.1.data.toList, oZ vt p.2))
  (hone : ∀ p ∈ K, kQ .str K p.1 = some p.2) : (∀ x ∈ es.toList, MapKept.IsKey Rx.Ty.str.desc x.key) /\ Vu .str vt K es.toList := by
 have hkeys : ∀ x ∈ es.toList, ∃ (s : ByteArray) (c : vt.den), x.key = .string s /\ x.val = vt.val c /\ (s, c) ∈ K := by
  intro x hx
  obtain ⟨y, hy⟩ := Fi.reads x hx
  have hm : y ∈ (es.toList.map (rg P k R)).foldr DataW.insert [] := (zG y _).2 (List.mem_map.2 ⟨x, hx, rg_of hy⟩)
  rw [hK] at hm
  obtain ⟨p, hp, rfl⟩ := List.mem_map.1 hm
  obtain ⟨s, h1, h2, _⟩ := string_of_keyOf hk (rd_key hy)
  obtain ⟨z, h3, h4⟩ := rd_val hy
  obtain ⟨c, h5, h6⟩ := hR _ _ h3
  rw [h6] at h4
  have := PY vt _ _ h4
  subst this
  injection h2 with h2
  have : s = p.1 := by
   cases hs : s with | mk a => cases hp1 : p.1 with | mk b =>
   rw [hs, hp1] at h2
   congr 1
   exact Array.toList_inj.1 h2.symm
  subst this
  exact ⟨_, _, h1, h5, hp⟩
 refine ⟨fun x hx => ?_, fun d => ?_⟩
 · obtain ⟨s, _, h1, _⟩ := hkeys x hx
   rw [h1]
   exact jR .str s
 · obtain ⟨a, h1, h2⟩ := vZ d es.toList 0 fun x hx => by
    obtain ⟨s, _, h1, _⟩ := hkeys x hx
    exact ⟨s, h1⟩
   refine ⟨a, h1, ?_⟩
   rcases h2 with ⟨rfl, h3⟩ | ⟨x, hx, h3, h4⟩
   · cases hg : kQ .str K d with
     | none => rfl
     | some v =>
       exfalso
       have hm := Ja hg
       have : ((Lit.string d.data.toList, oZ vt v) : Lit × DataW Unit) ∈ (es.toList.map (rg P k R)).foldr DataW.insert [] := by
        rw [hK]
        exact List.mem_map.2 ⟨_, hm, rfl⟩
       rw [zG] at this
       obtain ⟨x, hx, hy⟩ := List.mem_map.1 this
       obtain ⟨y, hy2⟩ := Fi.reads x hx
       rw [rg_of hy2] at hy
       subst hy
       obtain ⟨s, k1, k2, _⟩ := string_of_keyOf hk (rd_key hy2)
       injection k2 with k2
       have : d = s := by
        cases d with | mk a => cases s with | mk b =>
        congr 1
        exact Array.toList_inj.1 k2
       subst this
       exact h3 x hx k1
   · obtain ⟨s, c, k1, k2, k3⟩ := hkeys x hx
     rw [h3] at k1
     injection k1 with k1
     subst k1
     have := hone _ k3
     rw [h4, this, k2]
     rfl
theorem QC {P : Program} {k : TypeId} (he : P.underlying k = some (.int .i64)) {W : World} {n : Nat} (v : Value) (z : DataW Unit × List MemPlace) (h : elemAt (fun _ => ()) P W 0 (fun _ => true) false n k v = some z) : ∃ c : (Rx.Ty.int .i64).den, v = (Rx.Ty.int .i64).val c /\ z.1 = oZ (.int .i64) c := by
 obtain ⟨a, rfl, rfl, _⟩ := elemAt_int he h
 exact ⟨a, rfl, rfl⟩
theorem Ye {P : Program} {k : TypeId} (he : P.underlying k = some .bool) {W : World} {n : Nat} (v : Value) (z : DataW Unit × List MemPlace) (h : elemAt (fun _ => ()) P W 0 (fun _ => true) false n k v = some z) : ∃ c : Rx.Ty.bool.den, v = Rx.Ty.bool.val c /\ z.1 = oZ .bool c := by
 obtain ⟨a, rfl, rfl⟩ := elemAt_bool he h
 exact ⟨a, rfl, rfl⟩
theorem lg {P : Program} {n : String} {d : DataW Unit} {r : List (String × DataW Unit)} {w : World} {g : Nat} {t k e : TypeId} {vt : Rx.Ty} (K : List (Rx.Ty.str.den × vt.den)) (h : laidMet P ((n, d) :: r) w)
  (hg : P.globalNamed n = some g) (ht : (P.globals[g]?).map (·.type) = some t) (hu : P.underlying t = some (.map k e)) (hk : P.underlying k = some .string) (hd : d = .map (K.map fun p => (Lit.string p.1.data.toList, oZ vt p.2)))
  (hR : ∀ (W : World) (m : Nat) (v : Value) (z : DataW Unit × List MemPlace), elemAt (fun _ => ()) P W 0 (fun _ => true) false m e v = some z -> ∃ c : vt.den, v = vt.val c /\ z.1 = oZ vt c) (hone : ∀ p ∈ K, kQ .str K p.1 = some p.2) :
  ∃ u, w.cell? ⟨g, 0, none⟩ = some u /\ Rep w (.mp .str vt K) u := by
 subst hd
 obtain ⟨ps, ⟨g', t', cs, fuel, p, q, hg', ht', hvar, hd, _, _⟩, _⟩ := h
 obtain rfl := Option.some.inj (hg.symm.trans hg')
 obtain rfl := Option.some.inj (ht.symm.trans ht')
 rcases Go.WideElems.open_map hu hd with ⟨_, hx⟩ | ⟨b, es, clock, m, rfl, hcs, hb, _, Fi, hx⟩
 · simp at hx
 simp only [Prod.mk.injEq, DataW.map.injEq] at hx
 obtain ⟨a1, a2⟩ := Hy hk Fi K (hR w m) hx.1.symm hone
 refine ⟨.map (some b), ?_, b, es, clock, rfl, hb, a1, a2⟩
 have := World.var?_cell hg hvar 0
 rw [Array.eq_one_of_toList hcs] at this
 simpa using this
def aiO (vt : Rx.Ty) (K : List (Rx.Ty.str.den × vt.den)) : Bool := K.all fun p => match kQ .str K p.1 with
 | some v => vt.eqb v p.2
 | none => false
theorem Jg {vt : Rx.Ty} {K : List (Rx.Ty.str.den × vt.den)} (h : aiO vt K = true) : ∀ p ∈ K, kQ .str K p.1 = some p.2 := by
 intro p hp
 have := List.all_eq_true.1 h p hp
 split at this
 · rename_i v hv
   rw [hv, (sO vt v p.2).1 this]
 · cases this
theorem Cx {P : Program} {n : String} {d : DataW Unit} {r : List (String × DataW Unit)} {w : World} {g m : Nat} {t e i : TypeId} (zs : List Int) (h : laidMet P ((n, d) :: r) w)
  (hg : P.globalNamed n = some g) (ht : (P.globals[g]?).map (·.type) = some t) (hu : P.underlying t = some (.array m e)) (he : P.underlying e = some (.array 2 i)) (hi : P.underlying i = some (.int .i64)) (c2 : P.cellsOf e = 2) (c1 : P.cellsOf i = 1)
  (hd : d = .agg ((List.range m).map fun j => .agg [.lit (.int .i64 (zs.getD (2 * j) 0)), .lit (.int .i64 (zs.getD (2 * j + 1) 0))])) :
  ∀ j, j < 2 * m -> w.cell? ⟨g, j, none⟩ = some (.int .i64 (zs.getD j 0)) := by
 subst hd
 obtain ⟨ps, ⟨g', t', cs, fuel, p, q, hg', ht', hvar, hd, _, _⟩, _⟩ := h
 obtain rfl := Option.some.inj (hg.symm.trans hg')
 obtain rfl := Option.some.inj (ht.symm.trans ht')
 obtain ⟨xs, f1, rfl, hx, hl, hn, hel⟩ := DataW.trod_array hu hd
 simp only [Prod.mk.injEq, DataW.agg.injEq] at hx
 intro j hj
 have hj2 : j / 2 < m := by omega
 have h1 := hel (j / 2) hj2
 have hxs : xs[j / 2]? = some xs[j / 2] := List.getElem?_eq_getElem (by omega)
 rw [hxs] at h1
 obtain ⟨ys, f2, rfl, hy, hl2, hn2, hel2⟩ := DataW.trod_array he h1
 have h2 := hel2 (j % 2) (by omega)
 have hys : ys[j % 2]? = some ys[j % 2] := List.getElem?_eq_getElem (by omega)
 rw [hys, c1, c2] at h2
 obtain ⟨z, e1, e2, _⟩ := DataW.trod_int hi h2
 have hd1 : (xs.map (·.1))[j / 2]? = some (.agg [.lit (.int .i64 (zs.getD (2 * (j / 2)) 0)), .lit (.int .i64 (zs.getD (2 * (j / 2) + 1) 0))]) := by
  rw [← hx.1]
  simp [hj2]
 rw [List.getElem?_map, hxs] at hd1
 simp only [Option.map_some, Option.some.injEq] at hd1
 rw [hy] at hd1
 simp only [DataW.agg.injEq] at hd1
 have hz : z = zs.getD j 0 := by
  have h3 : (ys.map (·.1))[j % 2]? = some (.lit (.int .i64 z)) := by
   rw [List.getElem?_map, hys]
   simp [e2]
  rw [hd1] at h3
  rcases Nat.mod_two_eq_zero_or_one j with h0 | h0
  · rw [h0] at h3
    simp at h3
    have : 2 * (j / 2) = j := by omega
    rw [← h3]
    simp [this]
  · rw [h0] at h3
    simp at h3
    have : 2 * (j / 2) + 1 = j := by omega
    rw [← h3]
    simp [this]
 have hc : cs.toList[j]? = some (.int .i64 z) := by
  have h4 : ((((cs.toList.drop (j / 2 * 2)).take 2).drop (j % 2 * 1)).take 1)[0]? = some (.int .i64 z) := by
   rw [e1]; rfl
  rw [List.getElem?_take, if_pos (by decide), List.getElem?_drop, List.getElem?_take, if_pos (by omega), List.getElem?_drop] at h4
  have : j / 2 * 2 + (j % 2 * 1 + 0) = j := by omega
  rwa [this] at h4
 have := World.var?_cell hg hvar j
 rw [this, ← hz, ← hc]
 simp
theorem VK {w w' : World} (ha : Ag C0.W w w') {g j : Nat} {v : Value} (h : w.cell? ⟨g, j, none⟩ = some v) : w'.cell? ⟨g, j, none⟩ = some v := by
 unfold World.cell? at h ⊢
 cases hc : w.heap[g]? with
 | none => simp only [hc, Option.bind_none] at h; cases h
 | some o =>
   have hlt : g < w.heap.size := (Array.getElem?_eq_some_iff.1 hc).1
   rw [ha.block g hlt (Yb g), hc]
   rw [hc] at h
   exact h
theorem aar {w w' : World} (ha : Ag C0.W w w') {d : Dt} {v : Value} (h : Rep w d v) : Rep w' d v := WR (w := w) h w' ha
theorem Xl {w w' : World} (ha : Ag C0.W w w') (h : Vv w) : Vv w' := by
 intro g m f hg j hj
 obtain ⟨u, h1, h2⟩ := h g m f hg j hj
 exact ⟨u, VK ha h1, aar ha h2⟩
noncomputable def aao : DataW Unit := Lib.tabData .u64 Lib.pow10Tab
noncomputable def aiJ : List (Lit × DataW Unit) := kws.map fun p => (Lit.string p.1.data.toList, oZ .bool p.2)
noncomputable def Yh : List (Lit × DataW Unit) := ars.map fun p => (Lit.string p.1.data.toList, oZ (.int .i64) p.2)
noncomputable def aiH : DataW Unit := .agg ((List.range 23).map fun j => .agg [.lit (.int .i64 (V5.getD (2 * j) 0)), .lit (.int .i64 (V5.getD (2 * j + 1) 0))])
open Go.Proofs.YtkbdcpkbmfegdaaGreatDoor.Rows in
theorem FK {w : World} (h : laidMet prog IQ w) : Pers C0.W w Glob.ok := by
 have h1 : laidMet prog (("math/bits.deBruijn32tab", laid_math_bits_deBruijn32tab) :: ("math/bits.deBruijn64tab", laid_math_bits_deBruijn64tab) ::
  ("internal/strconv.uint64pow10", aao) :: ("strconv.ErrRange", .iface "*errors.errorString" (.ptr (.agg [.lit (.string [118, 97, 108, 117, 101, 32, 111, 117, 116, 32, 111, 102, 32, 114, 97, 110, 103, 101])]))) ::
  ("strconv.ErrSyntax", .iface "*errors.errorString" (.ptr (.agg [.lit (.string [105, 110, 118, 97, 108, 105, 100, 32, 115, 121, 110, 116, 97, 120])]))) ::
  ("graftery/unit.keywords", .map aiJ) :: ("graftery/unit.arity", .map Yh) :: ("graftery/code.arity", .map Yh) :: ("graftery/vm.arity", .map Yh) :: ("graftery/vm.effects", aiH) :: []) w := h
 have h2 := fM (fM h1)
 have h3 := fM h2
 have h4 := fM h3
 have h5 := fM h4
 have h6 := fM h5
 have h7 := fM h6
 have h8 := fM h7
 have h9 := fM h8
 have ht : Lib.TabIs prog w "internal/strconv.uint64pow10" .u64 Lib.pow10Tab := Lib.tabIs_of_head (g := 1) (t := 128) (e := 74) (n := 20) (by kernel_rfl) (by kernel_rfl) (by kernel_rfl) (by kernel_rfl) (by kernel_rfl) (by kernel_rfl) h2
 obtain ⟨a0, s0, hv0, -, -, -⟩ := laid_sentinel (g := 10) (ti := 64) (tp := 358) (te := 360) (ts := 9) h3 (by kernel_rfl) (by kernel_rfl) Go.Proofs.Tryz.underlying64 Tn (by kernel_rfl) Go.Proofs.Tryz.underlying360 rfl rfl (by kernel_rfl) (by kernel_rfl) (by kernel_rfl)
 obtain ⟨a1, s1, hv1, -, -, -⟩ := laid_sentinel (g := 9) (ti := 64) (tp := 358) (te := 360) (ts := 9) h4 (by kernel_rfl) (by kernel_rfl) Go.Proofs.Tryz.underlying64 Tn (by kernel_rfl) Go.Proofs.Tryz.underlying360 rfl rfl (by kernel_rfl) (by kernel_rfl) (by kernel_rfl)
 have hk : prog.underlying 9 = some .string := by kernel_rfl
 have hb : prog.underlying 4 = some .bool := by kernel_rfl
 have hi : prog.underlying 3 = some (.int .i64) := by kernel_rfl
 have ok1 : ∀ p ∈ kws, kQ .str kws p.1 = some p.2 := Jg (by kernel_rfl)
 have oa1 : ∀ p ∈ ars, kQ .str ars p.1 = some p.2 := Jg (by kernel_rfl)
 have m1 := lg (g := 4) (t := 292) (k := 9) (e := 4) (vt := .bool) kws h5 (by kernel_rfl) (by kernel_rfl) (by kernel_rfl) hk rfl (fun W m => Ye hb) ok1
 have m2 := lg (g := 5) (t := 294) (k := 9) (e := 3) (vt := .int .i64) ars h6 (by kernel_rfl) (by kernel_rfl) (by kernel_rfl) hk rfl (fun W m => QC hi) oa1
 have m8 := lg (g := 8) (t := 294) (k := 9) (e := 3) (vt := .int .i64) ars h7 (by kernel_rfl) (by kernel_rfl) (by kernel_rfl) hk rfl (fun W m => QC hi) oa1
 have m4 := lg (g := 7) (t := 294) (k := 9) (e := 3) (vt := .int .i64) ars h8 (by kernel_rfl) (by kernel_rfl) (by kernel_rfl) hk rfl (fun W m => QC hi) oa1
 have e3 := Cx (g := 6) (m := 23) (t := 312) (e := 311) (i := 3) V5 h9 (by kernel_rfl) (by kernel_rfl) (by kernel_rfl) (by kernel_rfl) hi (by kernel_rfl) (by kernel_rfl) rfl
 have hT : Vv w := by
  intro g m f hg j hj
  unfold YH at hg
  split at hg
  · cases hg
    obtain rfl : j = 0 := by omega
    exact m1
  · cases hg
    obtain rfl : j = 0 := by omega
    exact m2
  · cases hg
    obtain rfl : j = 0 := by omega
    exact m4
  · cases hg
    obtain rfl : j = 0 := by omega
    exact m8
  · cases hg
    exact ⟨_, e3 j (by omega), rfl⟩
  · cases hg
 intro w' ha
 exact ⟨Nq ha ht, ⟨_, _, Nq ha hv1⟩, ⟨_, _, Nq ha hv0⟩, Xl ha hT⟩
theorem kids : Kids prog (· < prog.types.size) := kids_rows (by kernel_rfl) (by kernel_rfl)
theorem JB : ∀ t e, t < prog.types.size -> prog.underlying t = some (.slice e) -> 0 < prog.cellsOf e := slices_full_of prog (by kernel_rfl)
end Gv
set_option linter.unusedSimpArgs false
set_option linter.unusedVariables false
open Rx Go
namespace Gv
open Rd
def sy (b : ByteArray) : Dx := .mk 3 none 0 b []
def num (n : Int) : Dx := .mk 1 none n noS []
def nu (a b n : Int) : Dx := .mk 1 (some (a, b)) n noS []
def ls (l : List Dx) : Dx := .mk 4 none 0 noS l
def any (n : Int) : SV := .ri .i64 (-9223372036854775808) 9223372036854775807 n
def afv (s : ByteArray) : Bool := okW s.data.toList && p9 s && !isT s && !isF s
mutual
def okD : Dx -> Prop
 | .mk k _ n s l => (k = 4 /\ n = 0 /\ s = noS /\ aff l) ∨ (k = 3 /\ n = 0 /\ l = [] /\ afv s = true) ∨ (k = 1 /\ 0 <= n /\ n < 1000 /\ s = noS /\ l = [])
def aff : List Dx -> Prop
 | [] => True
 | d :: l => okD d /\ aff l
end
end Gv
set_option linter.unusedSimpArgs false
set_option linter.unusedVariables false
open Rx Go
namespace Gv
open Rd
theorem Ti {C : Ctx} {w : World} {a : Int} (h : -9223372036854775808 <= a /\ a <= 9223372036854775807) : relL C w [any a] [.int .i64 a] :=
 ⟨_, _, rfl, ⟨rfl, h⟩, rfl⟩
theorem Cy (n : Int) {m : Int} (h : 0 < m) : 0 <= av n m /\ av n m < m := by
 unfold av
 split
 · exact ⟨Int.tmod_nonneg _ (by omega), Int.tmod_lt_of_pos _ h⟩
 · exact ⟨Int.tmod_nonneg _ (by omega), Int.tmod_lt_of_pos _ h⟩
end Gv
