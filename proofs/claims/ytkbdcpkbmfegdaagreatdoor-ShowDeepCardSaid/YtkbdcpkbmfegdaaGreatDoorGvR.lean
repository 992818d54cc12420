/- A law that is run to its end. -/
import Derived.Test.YtkbdcpkbmfegdaaGreatDoorGvS
import Derived.Test.YtkbdcpkbmfegdaaGreatDoorRows
import Derived.SizedLaws
import Derived.LaidLaws
import Derived.LaidMore
import Derived.Stop.LaidErr
import Derived.Stop.Joined
import Derived.ChangeMaps5
import Derived.Laws.IdiomMaps
import Derived.Test.YtkbdcpkbmfegdaaGreatDoorGvF
import Derived.Test.YtkbdcpkbmfegdaaGreatDoorCards
import Derived.Test.YtkbdcpkbmfegdaaGreatDoorTie
import Derived.ProofKit
import Derived.SevenTiedAt
set_option linter.unusedSimpArgs false
set_option linter.unusedVariables false
open Rx Go
namespace Gv
open Rd
noncomputable def La (tbl : List (Nat × List Dx)) (f : FuncId) (al : List SV) : R := Aj prog (F tbl) fl win 4000 100 16000000 0 f al .nil 0 fun s _ _ => .ret (s, ⟨.nil, 0⟩)
theorem abT {tbl : List (Nat × List Dx)} {f : FuncId} {al : List SV} {w : World} {vs : List Value} (hgl : Pers C0.W w Glob.ok) (hr : relL C0 w al vs) (h : (La tbl f al).holds fun y => y.1 = .kb true) :
  Calls prog f vs.toArray w fun e w' => e = .returned (.bool true) /\ Same w w' := by
 have h1 := jA (O9 tbl) 100 16000000 0 f al .nil 0 (fun s _ _ => .ret (s, ⟨.nil, 0⟩)) (fun y => y.1 = .kb true) (fun i _ => rfl) ⟨Nat.zero_le _, by decide⟩ h
 have h2 := (dF (O9 tbl) 100 16000000 0 f al ⟨av .nil, 0⟩).1
 obtain ⟨_, h3⟩ := h2 C0 w vs _ ⟨Pj w hgl, fun i ob hi => (by cases hi), fun _ _ _ => rfl⟩ hr h1
 refine h3.mono ?_
 rintro e w' ⟨v, C', y, rfl, ⟨ob', _, hy⟩, hst, _, hv, _⟩
 have hy : y.1 = .kb true := hy
 rw [hy] at hv
 have hv : v = .bool true := hv
 subst hv
 refine ⟨rfl, ?_⟩
 have hst0 : Step (fun _ => False) C0 w C' w' :=
  ⟨hst.ext, hst.w0, hst.own, fun i b _ h => (by cases h), hst.ag.mono fun k _ ⟨i, _, hi⟩ => (by cases hi)⟩
 exact jY hst0
end Gv
set_option linter.unusedSimpArgs false
set_option linter.unusedVariables false
open Rx Go
namespace Gv
open Rd
open Go.RowKit
noncomputable def Kv : List (String × DataW Unit) := Go.Proofs.YtkbdcpkbmfegdaaGreatDoor.Rows.showDeepRow.laid
theorem own : ownKnob prog.godebug = none := by kernel_rfl
theorem FK (os : Os) (args : Array Value) : laidMet prog Kv ((World.doorLaid prog 400 os).forCall (fun _ _ => 0) ⟨#[], args, []⟩).memory :=
 laidMet_of_run' 8 (by kernel_rfl) (by kernel_rfl)
open Go.ChangeShapes Go.WideShapes Go.ChangeAt Go.WideMaps Go.WideElems Go.ChangeMaps
theorem star : "*" ++ "errors.errorString" = "*errors.errorString" := by decide
theorem UF (u : TypeId) (h : prog.typeName? 3 u = some "*errors.errorString") : u = 358 :=
 typeName_ptr_named (nm := "errors.errorString") (by rw [star]; kernel_rfl) (by kernel_rfl) (by decide) u (by rw [star]; exact h)
theorem MO {w w' : World} (ha : Ag C0.W w w') {n : String} {cs : Array Value} (h : w.var? prog n = some cs) : w'.var? prog n = some cs := by
 unfold World.var? at h ⊢
 cases hg : prog.globalNamed n with
 | none => rw [hg] at h; cases h
 | some g =>
   rw [hg] at h
   simp only [Option.bind_some] at h ⊢
   cases hc : w.heap[g]? with
   | none => rw [hc] at h; cases h
   | some o =>
     have hlt : g < w.heap.size := (Array.getElem?_eq_some_iff.1 hc).1
     rw [ha.block g hlt (YM g), hc]
     rw [hc] at h
     exact h
theorem fZ {P : Program} {W : World} {x : String × DataW Unit} {r : List (String × DataW Unit)} (h : laidMet P (x :: r) W) : laidMet P r W := h.tail
theorem Ae (d : ByteArray) : ∀ (es : List MapEntry) (i : Nat), (∀ x ∈ es, ∃ s : ByteArray, x.key = .string s) ->
  ∃ a, Instr.findNow .string (.string d) es i = some a /\ ((a = none /\ ∀ x ∈ es, x.key ≠ .string d) ∨ ∃ x ∈ es, x.key = .string d /\ a.map (·.2) = some x.val)
 | [], i, _ => ⟨none, rfl, .inl ⟨rfl, fun x hx => by cases hx⟩⟩
 | x :: es, i, h => by
   obtain ⟨s, hs⟩ := h x (by simp)
   have hn : Instr.sameNow .string (.string d) (.string s) = some (Rx.Ty.str.eqb d s) := zR .str d s
   have hq := vT .str d s
   by_cases e : d = s
   · subst e
     rw [hq.2 rfl] at hn
     refine ⟨some (i, x.val), ?_, .inr ⟨x, by simp, hs, rfl⟩⟩
     simp only [Instr.findNow, hs, hn]
   · have hf : Rx.Ty.str.eqb d s = false := by
        cases hb : Rx.Ty.str.eqb d s with
        | false => rfl
        | true => exact absurd (hq.1 hb) e
     rw [hf] at hn
     obtain ⟨a, h1, h2⟩ := Ae d es (i + 1) fun y hy => h y (by simp [hy])
     refine ⟨a, by simp only [Instr.findNow, hs, hn]; exact h1, ?_⟩
     rcases h2 with ⟨h2, h3⟩ | ⟨y, hy, h2⟩
     · refine .inl ⟨h2, fun y hy => ?_⟩
       rcases List.mem_cons.1 hy with rfl | hy
       · rw [hs]; intro e2; injection e2 with e2; exact e e2.symm
       · exact h3 y hy
     · exact .inr ⟨y, by simp [hy], h2⟩
theorem Ec {H : Type} (y : Lit × DataW H) : ∀ l : List (Lit × DataW H), y ∈ l.foldr DataW.insert [] ↔ y ∈ l
 | [] => by simp
 | x :: l => by rw [List.foldr_cons, mem_insert_iff, Ec y l]; simp
def qI : (vt : Rx.Ty) -> vt.den -> DataW Unit
 | .int k, n => .lit (.int k n)
 | .bool, b => .lit (.bool b)
 | .str, s => .lit (.string s.data.toList)
theorem QL : ∀ (vt : Rx.Ty) (a b : vt.den), qI vt a = qI vt b -> a = b
 | .int _, a, b, h => by injection h with h; injection h
 | .bool, a, b, h => by injection h with h; injection h
 | .str, a, b, h => by
   injection h with h
   injection h with h
   cases a with | mk a => cases b with | mk b =>
   congr 1
   exact Array.toList_inj.1 h
theorem Lr {V : Type} : ∀ {l : List (Rx.Ty.str.den × V)} {d : ByteArray} {v : V}, lC .str l d = some v -> (d, v) ∈ l
 | [], _, _, h => by cases h
 | x :: l, d, v, h => by
   simp only [lC] at h
   cases hb : Rx.Ty.str.eqb d x.1 with
   | true =>
     rw [hb] at h
     have e := (vT .str d x.1).1 hb
     simp only [cond_true, Option.some.injEq] at h
     subst h
     rw [e]
     exact List.mem_cons_self
   | false =>
     rw [hb] at h
     exact List.mem_cons_of_mem _ (Lr h)
theorem LD {P : Program} {k : TypeId} {R : Value -> Option (DataW Unit × List MemPlace)} {es : Array MapEntry} {clock : Nat} (hk : P.underlying k = some .string) (Fi : Fit P k R es clock) {vt : Rx.Ty} (K : List (Rx.Ty.str.den × vt.den))
  (hR : ∀ v z, R v = some z -> ∃ c : vt.den, v = vt.val c /\ z.1 = qI vt c) (hK : (es.toList.map (rg P k R)).foldr DataW.insert [] = K.map fun p => (Lit.string p.1.data.toList, qI vt p.2))
  (hone : ∀ p ∈ K, lC .str K p.1 = some p.2) : (∀ x ∈ es.toList, MapKept.IsKey Rx.Ty.str.desc x.key) /\ Vj .str vt K es.toList := by
 have hkeys : ∀ x ∈ es.toList, ∃ (s : ByteArray) (c : vt.den), x.key = .string s /\ x.val = vt.val c /\ (s, c) ∈ K := by
  intro x hx
  obtain ⟨y, hy⟩ := Fi.reads x hx
  have hm : y ∈ (es.toList.map (rg P k R)).foldr DataW.insert [] := (Ec y _).2 (List.mem_map.2 ⟨x, hx, rg_of hy⟩)
  rw [hK] at hm
  obtain ⟨p, hp, rfl⟩ := List.mem_map.1 hm
  obtain ⟨s, h1, h2, _⟩ := string_of_keyOf hk (rd_key hy)
  obtain ⟨z, h3, h4⟩ := rd_val hy
  obtain ⟨c, h5, h6⟩ := hR _ _ h3
  rw [h6] at h4
  have := QL vt _ _ h4
  subst this
  injection h2 with h2
  have : s = p.1 := by
   cases hs : s with | mk a => cases hp1 : p.1 with | mk b =>
   rw [hs, hp1] at h2
   congr 1
   exact Array.toList_inj.1 h2.symm
  subst this
  exact ⟨_, _, h1, h5, hp⟩
 refine ⟨fun x hx => ?_, fun d => ?_⟩
 · obtain ⟨s, _, h1, _⟩ := hkeys x hx
   rw [h1]
   exact kC .str s
 · obtain ⟨a, h1, h2⟩ := Ae d es.toList 0 fun x hx => by
    obtain ⟨s, _, h1, _⟩ := hkeys x hx
    exact ⟨s, h1⟩
   refine ⟨a, h1, ?_⟩
   rcases h2 with ⟨rfl, h3⟩ | ⟨x, hx, h3, h4⟩
   · cases hg : lC .str K d with
     | none => rfl
     | some v =>
       exfalso
       have hm := Lr hg
       have : ((Lit.string d.data.toList, qI vt v) : Lit × DataW Unit) ∈ (es.toList.map (rg P k R)).foldr DataW.insert [] := by
        rw [hK]
        exact List.mem_map.2 ⟨_, hm, rfl⟩
       rw [Ec] at this
       obtain ⟨x, hx, hy⟩ := List.mem_map.1 this
       obtain ⟨y, hy2⟩ := Fi.reads x hx
       rw [rg_of hy2] at hy
       subst hy
       obtain ⟨s, k1, k2, _⟩ := string_of_keyOf hk (rd_key hy2)
       injection k2 with k2
       have : d = s := by
        cases d with | mk a => cases s with | mk b =>
        congr 1
        exact Array.toList_inj.1 k2
       subst this
       exact h3 x hx k1
   · obtain ⟨s, c, k1, k2, k3⟩ := hkeys x hx
     rw [h3] at k1
     injection k1 with k1
     subst k1
     have := hone _ k3
     rw [h4, this, k2]
     rfl
theorem Tc {P : Program} {k : TypeId} (he : P.underlying k = some (.int .i64)) {W : World} {n : Nat} (v : Value) (z : DataW Unit × List MemPlace) (h : elemAt (fun _ => ()) P W 0 (fun _ => true) false n k v = some z) : ∃ c : (Rx.Ty.int .i64).den, v = (Rx.Ty.int .i64).val c /\ z.1 = qI (.int .i64) c := by
 obtain ⟨a, rfl, rfl, _⟩ := elemAt_int he h
 exact ⟨a, rfl, rfl⟩
theorem YG {P : Program} {k : TypeId} (he : P.underlying k = some .bool) {W : World} {n : Nat} (v : Value) (z : DataW Unit × List MemPlace) (h : elemAt (fun _ => ()) P W 0 (fun _ => true) false n k v = some z) : ∃ c : Rx.Ty.bool.den, v = Rx.Ty.bool.val c /\ z.1 = qI .bool c := by
 obtain ⟨a, rfl, rfl⟩ := elemAt_bool he h
 exact ⟨a, rfl, rfl⟩
theorem lK {P : Program} {n : String} {d : DataW Unit} {r : List (String × DataW Unit)} {w : World} {g : Nat} {t k e : TypeId} {vt : Rx.Ty} (K : List (Rx.Ty.str.den × vt.den)) (h : laidMet P ((n, d) :: r) w)
  (hg : P.globalNamed n = some g) (ht : (P.globals[g]?).map (·.type) = some t) (hu : P.underlying t = some (.map k e)) (hk : P.underlying k = some .string) (hd : d = .map (K.map fun p => (Lit.string p.1.data.toList, qI vt p.2)))
  (hR : ∀ (W : World) (m : Nat) (v : Value) (z : DataW Unit × List MemPlace), elemAt (fun _ => ()) P W 0 (fun _ => true) false m e v = some z -> ∃ c : vt.den, v = vt.val c /\ z.1 = qI vt c) (hone : ∀ p ∈ K, lC .str K p.1 = some p.2) :
  ∃ u, w.cell? ⟨g, 0, none⟩ = some u /\ Rep w (.mp .str vt K) u := by
 subst hd
 obtain ⟨ps, ⟨g', t', cs, fuel, p, q, hg', ht', hvar, hd, _, _⟩, _⟩ := h
 obtain rfl := Option.some.inj (hg.symm.trans hg')
 obtain rfl := Option.some.inj (ht.symm.trans ht')
 rcases Go.WideElems.open_map hu hd with ⟨_, hx⟩ | ⟨b, es, clock, m, rfl, hcs, hb, _, Fi, hx⟩
 · simp at hx
 simp only [Prod.mk.injEq, DataW.map.injEq] at hx
 obtain ⟨a1, a2⟩ := LD hk Fi K (hR w m) hx.1.symm hone
 refine ⟨.map (some b), ?_, b, es, clock, rfl, hb, a1, a2⟩
 have := World.var?_cell hg hvar 0
 rw [Array.eq_one_of_toList hcs] at this
 simpa using this
def acY (vt : Rx.Ty) (K : List (Rx.Ty.str.den × vt.den)) : Bool := K.all fun p => match lC .str K p.1 with
 | some v => vt.eqb v p.2
 | none => false
theorem Kl {vt : Rx.Ty} {K : List (Rx.Ty.str.den × vt.den)} (h : acY vt K = true) : ∀ p ∈ K, lC .str K p.1 = some p.2 := by
 intro p hp
 have := List.all_eq_true.1 h p hp
 split at this
 · rename_i v hv
   rw [hv, (vT vt v p.2).1 this]
 · cases this
theorem FI {P : Program} {n : String} {d : DataW Unit} {r : List (String × DataW Unit)} {w : World} {g m : Nat} {t e i : TypeId} (zs : List Int) (h : laidMet P ((n, d) :: r) w)
  (hg : P.globalNamed n = some g) (ht : (P.globals[g]?).map (·.type) = some t) (hu : P.underlying t = some (.array m e)) (he : P.underlying e = some (.array 2 i)) (hi : P.underlying i = some (.int .i64)) (c2 : P.cellsOf e = 2) (c1 : P.cellsOf i = 1)
  (hd : d = .agg ((List.range m).map fun j => .agg [.lit (.int .i64 (zs.getD (2 * j) 0)), .lit (.int .i64 (zs.getD (2 * j + 1) 0))])) :
  ∀ j, j < 2 * m -> w.cell? ⟨g, j, none⟩ = some (.int .i64 (zs.getD j 0)) := by
 subst hd
 obtain ⟨ps, ⟨g', t', cs, fuel, p, q, hg', ht', hvar, hd, _, _⟩, _⟩ := h
 obtain rfl := Option.some.inj (hg.symm.trans hg')
 obtain rfl := Option.some.inj (ht.symm.trans ht')
 obtain ⟨xs, f1, rfl, hx, hl, hn, hel⟩ := DataW.trod_array hu hd
 simp only [Prod.mk.injEq, DataW.agg.injEq] at hx
 intro j hj
 have hj2 : j / 2 < m := by omega
 have h1 := hel (j / 2) hj2
 have hxs : xs[j / 2]? = some xs[j / 2] := List.getElem?_eq_getElem (by omega)
 rw [hxs] at h1
 obtain ⟨ys, f2, rfl, hy, hl2, hn2, hel2⟩ := DataW.trod_array he h1
 have h2 := hel2 (j % 2) (by omega)
 have hys : ys[j % 2]? = some ys[j % 2] := List.getElem?_eq_getElem (by omega)
 rw [hys, c1, c2] at h2
 obtain ⟨z, e1, e2, _⟩ := DataW.trod_int hi h2
 have hd1 : (xs.map (·.1))[j / 2]? = some (.agg [.lit (.int .i64 (zs.getD (2 * (j / 2)) 0)), .lit (.int .i64 (zs.getD (2 * (j / 2) + 1) 0))]) := by
  rw [← hx.1]
  simp [hj2]
 rw [List.getElem?_map, hxs] at hd1
 simp only [Option.map_some, Option.some.injEq] at hd1
 rw [hy] at hd1
 simp only [DataW.agg.injEq] at hd1
 have hz : z = zs.getD j 0 := by
  have h3 : (ys.map (·.1))[j % 2]? = some (.lit (.int .i64 z)) := by
   rw [List.getElem?_map, hys]
   simp [e2]
  rw [hd1] at h3
  rcases Nat.mod_two_eq_zero_or_one j with h0 | h0
  · rw [h0] at h3
    simp at h3
    have : 2 * (j / 2) = j := by omega
    rw [← h3]
    simp [this]
  · rw [h0] at h3
    simp at h3
    have : 2 * (j / 2) + 1 = j := by omega
    rw [← h3]
    simp [this]
 have hc : cs.toList[j]? = some (.int .i64 z) := by
  have h4 : ((((cs.toList.drop (j / 2 * 2)).take 2).drop (j % 2 * 1)).take 1)[0]? = some (.int .i64 z) := by
   rw [e1]; rfl
  rw [List.getElem?_take, if_pos (by decide), List.getElem?_drop, List.getElem?_take, if_pos (by omega), List.getElem?_drop] at h4
  have : j / 2 * 2 + (j % 2 * 1 + 0) = j := by omega
  rwa [this] at h4
 have := World.var?_cell hg hvar j
 rw [this, ← hz, ← hc]
 simp
theorem Ws {w w' : World} (ha : Ag C0.W w w') {g j : Nat} {v : Value} (h : w.cell? ⟨g, j, none⟩ = some v) : w'.cell? ⟨g, j, none⟩ = some v := by
 unfold World.cell? at h ⊢
 cases hc : w.heap[g]? with
 | none => simp only [hc, Option.bind_none] at h; cases h
 | some o =>
   have hlt : g < w.heap.size := (Array.getElem?_eq_some_iff.1 hc).1
   rw [ha.block g hlt (YM g), hc]
   rw [hc] at h
   exact h
theorem Zn {w w' : World} (ha : Ag C0.W w w') {d : Dt} {v : Value} (h : Rep w d v) : Rep w' d v := WG (w := w) h w' ha
theorem Vf {w w' : World} (ha : Ag C0.W w w') (h : WA w) : WA w' := by
 intro g m f hg j hj
 obtain ⟨u, h1, h2⟩ := h g m f hg j hj
 exact ⟨u, Ws ha h1, Zn ha h2⟩
noncomputable def YU : DataW Unit := Lib.tabData .u64 Lib.pow10Tab
noncomputable def acz : List (Lit × DataW Unit) := kws.map fun p => (Lit.string p.1.data.toList, qI .bool p.2)
noncomputable def YX : List (Lit × DataW Unit) := ars.map fun p => (Lit.string p.1.data.toList, qI (.int .i64) p.2)
noncomputable def acu : DataW Unit := .agg ((List.range 23).map fun j => .agg [.lit (.int .i64 (VN.getD (2 * j) 0)), .lit (.int .i64 (VN.getD (2 * j + 1) 0))])
open Go.Proofs.YtkbdcpkbmfegdaaGreatDoor.Rows in
theorem IG {w : World} (h : laidMet prog Kv w) : Pers C0.W w Glob.ok := by
 have h1 : laidMet prog (("math/bits.deBruijn32tab", laid_math_bits_deBruijn32tab) :: ("math/bits.deBruijn64tab", laid_math_bits_deBruijn64tab) ::
  ("internal/strconv.uint64pow10", YU) :: ("strconv.ErrRange", .iface "*errors.errorString" (.ptr (.agg [.lit (.string [118, 97, 108, 117, 101, 32, 111, 117, 116, 32, 111, 102, 32, 114, 97, 110, 103, 101])]))) ::
  ("strconv.ErrSyntax", .iface "*errors.errorString" (.ptr (.agg [.lit (.string [105, 110, 118, 97, 108, 105, 100, 32, 115, 121, 110, 116, 97, 120])]))) ::
  ("graftery/unit.keywords", .map acz) :: ("graftery/unit.arity", .map YX) :: ("graftery/code.arity", .map YX) :: ("graftery/vm.arity", .map YX) :: ("graftery/vm.effects", acu) :: []) w := h
 have h2 := fZ (fZ h1)
 have h3 := fZ h2
 have h4 := fZ h3
 have h5 := fZ h4
 have h6 := fZ h5
 have h7 := fZ h6
 have h8 := fZ h7
 have h9 := fZ h8
 have ht : Lib.TabIs prog w "internal/strconv.uint64pow10" .u64 Lib.pow10Tab := Lib.tabIs_of_head (g := 1) (t := 128) (e := 74) (n := 20) (by kernel_rfl) (by kernel_rfl) (by kernel_rfl) (by kernel_rfl) (by kernel_rfl) (by kernel_rfl) h2
 obtain ⟨a0, s0, hv0, -, -, -⟩ := laid_sentinel (g := 10) (ti := 64) (tp := 358) (te := 360) (ts := 9) h3 (by kernel_rfl) (by kernel_rfl) Go.Proofs.Tryz.underlying64 UF (by kernel_rfl) Go.Proofs.Tryz.underlying360 rfl rfl (by kernel_rfl) (by kernel_rfl) (by kernel_rfl)
 obtain ⟨a1, s1, hv1, -, -, -⟩ := laid_sentinel (g := 9) (ti := 64) (tp := 358) (te := 360) (ts := 9) h4 (by kernel_rfl) (by kernel_rfl) Go.Proofs.Tryz.underlying64 UF (by kernel_rfl) Go.Proofs.Tryz.underlying360 rfl rfl (by kernel_rfl) (by kernel_rfl) (by kernel_rfl)
 have hk : prog.underlying 9 = some .string := by kernel_rfl
 have hb : prog.underlying 4 = some .bool := by kernel_rfl
 have hi : prog.underlying 3 = some (.int .i64) := by kernel_rfl
 have ok1 : ∀ p ∈ kws, lC .str kws p.1 = some p.2 := Kl (by kernel_rfl)
 have oa1 : ∀ p ∈ ars, lC .str ars p.1 = some p.2 := Kl (by kernel_rfl)
 have m1 := lK (g := 4) (t := 292) (k := 9) (e := 4) (vt := .bool) kws h5 (by kernel_rfl) (by kernel_rfl) (by kernel_rfl) hk rfl (fun W m => YG hb) ok1
 have m2 := lK (g := 5) (t := 294) (k := 9) (e := 3) (vt := .int .i64) ars h6 (by kernel_rfl) (by kernel_rfl) (by kernel_rfl) hk rfl (fun W m => Tc hi) oa1
 have m8 := lK (g := 8) (t := 294) (k := 9) (e := 3) (vt := .int .i64) ars h7 (by kernel_rfl) (by kernel_rfl) (by kernel_rfl) hk rfl (fun W m => Tc hi) oa1
 have m4 := lK (g := 7) (t := 294) (k := 9) (e := 3) (vt := .int .i64) ars h8 (by kernel_rfl) (by kernel_rfl) (by kernel_rfl) hk rfl (fun W m => Tc hi) oa1
 have e3 := FI (g := 6) (m := 23) (t := 312) (e := 311) (i := 3) VN h9 (by kernel_rfl) (by kernel_rfl) (by kernel_rfl) (by kernel_rfl) hi (by kernel_rfl) (by kernel_rfl) rfl
 have hT : WA w := by
  intro g m f hg j hj
  unfold Zo at hg
  split at hg
  · cases hg
    obtain rfl : j = 0 := by omega
    exact m1
  · cases hg
    obtain rfl : j = 0 := by omega
    exact m2
  · cases hg
    obtain rfl : j = 0 := by omega
    exact m4
  · cases hg
    obtain rfl : j = 0 := by omega
    exact m8
  · cases hg
    exact ⟨_, e3 j (by omega), rfl⟩
  · cases hg
 intro w' ha
 exact ⟨MO ha ht, ⟨_, _, MO ha hv1⟩, ⟨_, _, MO ha hv0⟩, Vf ha hT⟩
theorem kids : Kids prog (· < prog.types.size) := kids_rows (by kernel_rfl) (by kernel_rfl)
theorem Ml : ∀ t e, t < prog.types.size -> prog.underlying t = some (.slice e) -> 0 < prog.cellsOf e := slices_full_of prog (by kernel_rfl)
end Gv
set_option linter.unusedSimpArgs false
set_option linter.unusedVariables false
open Rx Go
namespace Gv
open Rd
def sy (b : ByteArray) : Dx := .mk 3 none 0 b []
def num (n : Int) : Dx := .mk 1 none n noS []
def nu (a b n : Int) : Dx := .mk 1 (some (a, b)) n noS []
def ls (l : List Dx) : Dx := .mk 4 none 0 noS l
def any (n : Int) : SV := .ri .i64 (-9223372036854775808) 9223372036854775807 n
def V9 : List Sx -> Sx
 | [.wd w, .li l] => if w = pE.data.toList then .qu l else .li [.wd w, .li l]
 | l => .li l
mutual
def dxS : Dx -> Sx
 | .mk k _ n s l => if k = 4 then V9 (JC l) else if k = 3 then .wd s.data.toList else .wd (Lib.itoa n)
def JC : List Dx -> List Sx
 | [] => []
 | d :: l => dxS d :: JC l
end
def O1 (s : ByteArray) : Bool := okW s.data.toList && pV s && !isT s && !isF s
mutual
def okD : Dx -> Prop
 | .mk k _ n s l => (k = 4 /\ n = 0 /\ s = noS /\ Sd l) ∨ (k = 3 /\ n = 0 /\ l = [] /\ O1 s = true) ∨ (k = 1 /\ 0 <= n /\ n < 1000 /\ s = noS /\ l = [])
def Sd : List Dx -> Prop
 | [] => True
 | d :: l => okD d /\ Sd l
end
theorem V4 : atD ⟨pE.data.toList.toArray⟩ = .mk 3 0 pE [] := by kernel_rfl
theorem Wm (l : List Sx) (h : uL l = true) : okX (V9 l) = true /\ sxD (V9 l) = .mk 4 0 noS (mZ l) := by
 unfold V9
 split
 · rename_i w l
   split
   · rename_i e
     subst e
     simp only [uL, okX, Bool.and_eq_true] at h
     refine ⟨by simp only [okX]; exact h.2.1, ?_⟩
     simp only [sxD, mZ, V4]
   · exact ⟨by simp only [okX]; exact h, by simp only [sxD]⟩
 · exact ⟨by simp only [okX]; exact h, by simp only [sxD]⟩
theorem Wo {s : ByteArray} (h : O1 s = true) : okW s.data.toList = true /\ atD ⟨s.data.toList.toArray⟩ = .mk 3 0 s [] := by
 simp only [O1, Bool.and_eq_true, Bool.not_eq_true'] at h
 obtain ⟨⟨⟨a1, a2⟩, a3⟩, a4⟩ := h
 refine ⟨a1, ?_⟩
 have e : (⟨s.data.toList.toArray⟩ : ByteArray) = s := by cases s; rfl
 unfold atD
 rw [e, a2, a3, a4]
 rfl
mutual
theorem aaU : ∀ d, okD d -> okX (dxS d) = true /\ sxD (dxS d) = d.dm
 | .mk k sym n s l, h => by
   simp only [okD] at h
   rcases h with ⟨rfl, rfl, rfl, h⟩ | ⟨rfl, rfl, rfl, h⟩ | ⟨rfl, h0, h1, rfl, rfl⟩
   · obtain ⟨a1, a2⟩ := Mv l h
     obtain ⟨b1, b2⟩ := Wm _ a1
     simp only [dxS, if_true, Dx.dm]
     exact ⟨b1, by rw [b2, a2]⟩
   · obtain ⟨b1, b2⟩ := Wo h
     have e : ¬ ((3 : Int) = 4) := by decide
     simp only [dxS, if_neg e, if_true, Dx.dm, uI, okX, sxD]
     exact ⟨b1, b2⟩
   · obtain ⟨b1, b2, _⟩ := Fa h0 h1
     have e : ¬ ((1 : Int) = 4) := by decide
     have e' : ¬ ((1 : Int) = 3) := by decide
     simp only [dxS, if_neg e, if_neg e', Dx.dm, uI, okX, sxD]
     exact ⟨b1, b2⟩
theorem Mv : ∀ l, Sd l -> uL (JC l) = true /\ mZ (JC l) = uI l
 | [], _ => ⟨rfl, rfl⟩
 | d :: l, h => by
   simp only [Sd] at h
   obtain ⟨a1, a2⟩ := aaU d h.1
   obtain ⟨b1, b2⟩ := Mv l h.2
   simp only [JC, uL, mZ, uI, a1, a2, b1, b2, Bool.and_true, true_and]
end
mutual
def sxA : Sx -> List UInt8 -> List UInt8
 | .wd w, t => w ++ t
 | .li l, t => 40 :: Qm l (41 :: t)
 | .qu l, t => 39 :: 40 :: Qm l (41 :: t)
def Rl : List Sx -> List UInt8 -> List UInt8
 | [], t => t
 | x :: l, t => 32 :: sxA x (Rl l t)
def Qm : List Sx -> List UInt8 -> List UInt8
 | [], t => t
 | x :: l, t => sxA x (Rl l t)
end
mutual
theorem UH : ∀ x t, sxA x t = sxT x ++ t
 | .wd w, t => by simp only [sxA, sxT]
 | .li l, t => by simp only [sxA, sxT, JY l, List.cons_append, List.append_assoc, List.nil_append]
 | .qu l, t => by simp only [sxA, sxT, JY l, List.cons_append, List.append_assoc, List.nil_append]
theorem OJ : ∀ l t, Rl l t = jR l ++ t
 | [], t => by simp only [Rl, jR, List.nil_append]
 | x :: l, t => by simp only [Rl, jR, UH x, OJ l, List.cons_append, List.append_assoc]
theorem JY : ∀ l t, Qm l t = mG l ++ t
 | [], t => by simp only [Qm, mG, List.nil_append]
 | x :: l, t => by simp only [Qm, mG, UH x, OJ l, List.append_assoc]
end
def GD (d : Dx) : Prop := okD d /\ d.fits
def GDs (l : List Dx) : Prop := Sd l /\ wB l
theorem ac1 : GDs [] := ⟨trivial, trivial⟩
theorem ab4 {d : Dx} {l : List Dx} (h : GD d) (h' : GDs l) : GDs (d :: l) := ⟨⟨h.1, h'.1⟩, ⟨h.2, h'.2⟩⟩
theorem adj {b : ByteArray} (h : O1 b = true) : GD (sy b) := ⟨.inr (.inl ⟨rfl, rfl, rfl, h⟩), ⟨(fun _ _ e => by cases e), trivial⟩⟩
theorem aci {n : Int} (h : 0 <= n) (h' : n < 1000) : GD (num n) := ⟨.inr (.inr ⟨rfl, h, h', rfl, rfl⟩), ⟨(fun _ _ e => by cases e), trivial⟩⟩
theorem adk {a b n : Int} (h : 0 <= n) (h' : n < 1000) (h1 : a <= n) (h2 : n <= b) : GD (nu a b n) := ⟨.inr (.inr ⟨rfl, h, h', rfl, rfl⟩), ⟨(fun _ _ e => by cases e; exact ⟨h1, h2⟩), trivial⟩⟩
theorem adn {l : List Dx} (h : GDs l) : GD (ls l) := ⟨.inl ⟨rfl, rfl, rfl, h.1⟩, ⟨(fun _ _ e => by cases e), h.2⟩⟩
theorem abS {s : ByteArray} {L : List Dx} (ok : GDs L) (hz : s.size <= 3000) (hs : s.data.toList = Qm (JC L) []) (hh : Nat.ble (Al (JC L)) 40 = true) (hc : Nat.ble (jV (JC L)) 400 = true) (hf : Nat.ble (sj (JC L)) 400 = true) :
  s.size <= 3000 /\ vX 400 s = some ⟨uI L, 0, 0⟩ /\ wB L := by
 obtain ⟨a1, a2⟩ := Mv L ok.1
 rw [← a2]
 exact ⟨hz, MB _ a1 (by rw [hs, JY, List.append_nil]) (Nat.le_of_ble_eq_true hh) (Nat.le_of_ble_eq_true hc) (Nat.le_of_ble_eq_true hf), ok.2⟩
def Bld (n : Nat) (f : Nat -> Nat -> Dt) (t : List UInt8) : Prop := n = t.length /\ ∀ k, k < n -> f k 0 = .cell (.int .u8 ((t.getD k 0).toNat))
theorem acf : Bld 0 row0 [] := ⟨rfl, fun k h => by omega⟩
theorem Ow {n k : Nat} {f h : Nat -> Nat -> Dt} (hk : k < n) : fH n f h k 0 = f k 0 := by
 have e : Nat.blt k n = true := by rw [Nat.blt_eq]; exact hk
 unfold fH
 rw [e, cond_true]
theorem Pq {n k : Nat} {f h : Nat -> Nat -> Dt} (hk : n <= k) : fH n f h k 0 = h (k - n) 0 := by
 have e : Nat.blt k n = false := by
  cases hb : Nat.blt k n with
  | false => rfl
  | true => rw [Nat.blt_eq] at hb; omega
 unfold fH
 rw [e, cond_false]
theorem ade {n : Nat} {f : Nat -> Nat -> Dt} {t : List UInt8} (h : Bld n f t) (s : ByteArray) : Bld (n + s.size) (fH n f (Iu s)) (t ++ s.data.toList) := by
 have hl : s.data.toList.length = s.size := rfl
 refine ⟨by rw [List.length_append, ← h.1, hl], fun k hk => ?_⟩
 by_cases hk' : k < n
 · rw [Ow hk', h.2 k hk', List.getD_eq_getElem?_getD, List.getD_eq_getElem?_getD, List.getElem?_append_left (by rw [← h.1]; exact hk')]
 · rw [Pq (by omega)]
   show Dt.cell _ = _
   rw [List.getD_eq_getElem?_getD (l := t ++ _), List.getElem?_append_right (by rw [← h.1]; omega), ← h.1, ← List.getD_eq_getElem?_getD]
theorem acM {n : Nat} {f : Nat -> Nat -> Dt} {t : List UInt8} (h : Bld n f t) (c : Int) (hc : ((c.toNat.toUInt8).toNat : Int) = c) : Bld (n + 1) (fH n f (lF 1 [.cell (.int .u8 c)])) (t ++ [c.toNat.toUInt8]) := by
 refine ⟨by rw [List.length_append, ← h.1]; rfl, fun k hk => ?_⟩
 by_cases hk' : k < n
 · rw [Ow hk', h.2 k hk', List.getD_eq_getElem?_getD, List.getD_eq_getElem?_getD, List.getElem?_append_left (by rw [← h.1]; exact hk')]
 · have e : k - n = 0 := by omega
   rw [Pq (by omega), e]
   show Dt.cell (.int .u8 c) = _
   rw [List.getD_eq_getElem?_getD (l := t ++ _), List.getElem?_append_right (by rw [← h.1]; omega), ← h.1, e]
   show _ = Dt.cell (.int .u8 ((c.toNat.toUInt8).toNat : Int))
   rw [hc]
theorem Pe {n : Nat} {f : Nat -> Nat -> Dt} {t : List UInt8} (h : Bld n f t) : lG n f = t := by
 unfold lG
 apply List.ext_getElem
 · rw [List.length_map, List.length_range, h.1]
 · intro k h1 h2
   rw [List.getElem_map, List.getElem_range, h.2 k (by rw [h.1]; exact h2)]
   simp only [Ls, List.getD_eq_getElem?_getD, List.getElem?_eq_getElem h2, Option.getD_some, Int.toNat_natCast]
   exact UInt8.ofNat_toNat
theorem ZU {n : Nat} {f : Nat -> Nat -> Dt} {t : List UInt8} (h : Bld n f t) (h0 : 0 < n) (h1 : n <= 100000) : Nh n f := by
 refine ⟨h0, h1, fun k hk => ?_⟩
 rw [h.2 k hk]
 simp only [Ls, Int.toNat_natCast]
 rw [show ((t.getD k 0).toNat.toUInt8) = t.getD k 0 from UInt8.ofNat_toNat]
end Gv
set_option linter.unusedSimpArgs false
set_option linter.unusedVariables false
open Rx Go
namespace Gv
open Rd
theorem Rt {C : Ctx} {w : World} {a : Int} (h : -9223372036854775808 <= a /\ a <= 9223372036854775807) : relL C w [any a] [.int .i64 a] :=
 ⟨_, _, rfl, ⟨rfl, h⟩, rfl⟩
theorem aa1 {C : Ctx} {w : World} {a b : Int} (h : -9223372036854775808 <= a /\ a <= 9223372036854775807) (h' : -9223372036854775808 <= b /\ b <= 9223372036854775807) : relL C w [any a, any b] [.int .i64 a, .int .i64 b] :=
 ⟨_, _, rfl, ⟨rfl, h⟩, _, _, rfl, ⟨rfl, h'⟩, rfl⟩
theorem Fv (n : Int) {m : Int} (h : 0 < m) : 0 <= aj n m /\ aj n m < m := by
 unfold aj
 split
 · exact ⟨Int.tmod_nonneg _ (by omega), Int.tmod_lt_of_pos _ h⟩
 · exact ⟨Int.tmod_nonneg _ (by omega), Int.tmod_lt_of_pos _ h⟩
theorem ac2 (l : Array UInt8) : (ByteArray.mk l).size = l.size := rfl
theorem ach (l : List UInt8) : (ByteArray.mk l.toArray).data.toList = l := rfl
theorem ab8 {n : Nat} {f : Nat -> Nat -> Dt} {t : List UInt8} {E : ByteArray} (h : Bld n f t) (he : E.data.toList = t) : ((ByteArray.mk (lG n f).toArray).data.toList == E.data.toList) = true := by
 rw [Pe h, he, beq_iff_eq]
theorem aaC {n : Int} (h0 : 0 <= n) (h1 : n < 1000) : (jk n).size <= 3 := (Fa h0 h1).2.2
end Gv
