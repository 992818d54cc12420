/- A law that is run to its end. -/
import Derived.Test.YtkbdcpkbmfegdaaGreatDoorGvS
import Derived.Test.YtkbdcpkbmfegdaaGreatDoorRows
import Derived.SizedLaws
import Derived.LaidLaws
import Derived.LaidMore
import Derived.Stop.LaidErr
import Derived.Stop.Joined
import Derived.ChangeMaps5
import Derived.Laws.IdiomMaps
import Derived.Test.YtkbdcpkbmfegdaaGreatDoorGvF
import Derived.Test.YtkbdcpkbmfegdaaGreatDoorCards
import Derived.Test.YtkbdcpkbmfegdaaGreatDoorTie
import Derived.ProofKit
import Derived.SevenTiedAt
set_option linter.unusedSimpArgs false
set_option linter.unusedVariables false
open Rx Go
namespace Gv
open Rd
noncomputable def M5 (tbl : List (Nat × List Dx)) (f : FuncId) (al : List SV) : R := zO prog (F tbl) fl win 4000 100 16000000 0 f al .nil 0 fun s _ _ => .ret (s, ⟨.nil, 0⟩)
end Gv
set_option linter.unusedSimpArgs false
set_option linter.unusedVariables false
open Rx Go
namespace Gv
open Rd
open Go.RowKit
noncomputable def J6 : List (String × DataW Unit) := Go.Proofs.YtkbdcpkbmfegdaaGreatDoor.Rows.showDeepRow.laid
theorem own : ownKnob prog.godebug = none := by kernel_rfl
theorem D8 (os : Os) (args : Array Value) : laidMet prog J6 ((World.doorLaid prog 400 os).forCall (fun _ _ => 0) ⟨#[], args, []⟩).memory :=
 laidMet_of_run' 8 (by kernel_rfl) (by kernel_rfl)
open Go.ChangeShapes Go.WideShapes Go.ChangeAt Go.WideMaps Go.WideElems Go.ChangeMaps
theorem star : "*" ++ "errors.errorString" = "*errors.errorString" := by decide
theorem UR (u : TypeId) (h : prog.typeName? 3 u = some "*errors.errorString") : u = 358 :=
 typeName_ptr_named (nm := "errors.errorString") (by rw [star]; kernel_rfl) (by kernel_rfl) (by decide) u (by rw [star]; exact h)
theorem Ny {w w' : World} (ha : Ag C0.W w w') {n : String} {cs : Array Value} (h : w.var? prog n = some cs) : w'.var? prog n = some cs := by
 unfold World.var? at h ⊢
 cases hg : prog.globalNamed n with
 | none => rw [hg] at h; cases h
 | some g =>
   rw [hg] at h
   simp only [Option.bind_some] at h ⊢
   cases hc : w.heap[g]? with
   | none => rw [hc] at h; cases h
   | some o =>
     have hlt : g < w.heap.size := (Array.getElem?_eq_some_iff.1 hc).1
     rw [ha.block g hlt (ZO g), hc]
     rw [hc] at h
     exact h
theorem gD {P : Program} {W : World} {x : String × DataW Unit} {r : List (String × DataW Unit)} (h : laidMet P (x :: r) W) : laidMet P r W := h.tail
theorem yQ (d : ByteArray) : ∀ (es : List MapEntry) (i : Nat), (∀ x ∈ es, ∃ s : ByteArray, x.key = .string s) ->
  ∃ a, Instr.findNow .string (.string d) es i = some a /\ ((a = none /\ ∀ x ∈ es, x.key ≠ .string d) ∨ ∃ x ∈ es, x.key = .string d /\ a.map (·.2) = some x.val)
 | [], i, _ => ⟨none, rfl, .inl ⟨rfl, fun x hx => by cases hx⟩⟩
 | x :: es, i, h => by
   obtain ⟨s, hs⟩ := h x (by simp)
   have hn : Instr.sameNow .string (.string d) (.string s) = some (Rx.Ty.str.eqb d s) := zo .str d s
   have hq := vO .str d s
   by_cases e : d = s
   · subst e
     rw [hq.2 rfl] at hn
     refine ⟨some (i, x.val), ?_, .inr ⟨x, by simp, hs, rfl⟩⟩
     simp only [Instr.findNow, hs, hn]
   · have hf : Rx.Ty.str.eqb d s = false := by
        cases hb : Rx.Ty.str.eqb d s with
        | false => rfl
        | true => exact absurd (hq.1 hb) e
     rw [hf] at hn
     obtain ⟨a, h1, h2⟩ := yQ d es (i + 1) fun y hy => h y (by simp [hy])
     refine ⟨a, by simp only [Instr.findNow, hs, hn]; exact h1, ?_⟩
     rcases h2 with ⟨h2, h3⟩ | ⟨y, hy, h2⟩
     · refine .inl ⟨h2, fun y hy => ?_⟩
       rcases List.mem_cons.1 hy with rfl | hy
       · rw [hs]; intro e2; injection e2 with e2; exact e e2.symm
       · exact h3 y hy
     · exact .inr ⟨y, by simp [hy], h2⟩
theorem Ce {H : Type} (y : Lit × DataW H) : ∀ l : List (Lit × DataW H), y ∈ l.foldr DataW.insert [] ↔ y ∈ l
 | [] => by simp
 | x :: l => by rw [List.foldr_cons, mem_insert_iff, Ce y l]; simp
def qJ : (vt : Rx.Ty) -> vt.den -> DataW Unit
 | .int k, n => .lit (.int k n)
 | .bool, b => .lit (.bool b)
 | .str, s => .lit (.string s.data.toList)
theorem Qx : ∀ (vt : Rx.Ty) (a b : vt.den), qJ vt a = qJ vt b -> a = b
 | .int _, a, b, h => by injection h with h; injection h
 | .bool, a, b, h => by injection h with h; injection h
 | .str, a, b, h => by
   injection h with h
   injection h with h
   cases a with | mk a => cases b with | mk b =>
   congr 1
   exact Array.toList_inj.1 h
theorem Kn {V : Type} : ∀ {l : List (Rx.Ty.str.den × V)} {d : ByteArray} {v : V}, lN .str l d = some v -> (d, v) ∈ l
 | [], _, _, h => by cases h
 | x :: l, d, v, h => by
   simp only [lN] at h
   cases hb : Rx.Ty.str.eqb d x.1 with
   | true =>
     rw [hb] at h
     have e := (vO .str d x.1).1 hb
     simp only [cond_true, Option.some.injEq] at h
     subst h
     rw [e]
     exact List.mem_cons_self
   | false =>
     rw [hb] at h
     exact List.mem_cons_of_mem _ (Kn h)
theorem Jv {P : Program} {k : TypeId} {R : Value -> Option (DataW Unit × List MemPlace)} {es : Array MapEntry} {clock : Nat} (hk : P.underlying k = some .string) (Fi : Fit P k R es clock) {vt : Rx.Ty} (K : List (Rx.Ty.str.den × vt.den))
  (hR : ∀ v z, R v = some z -> ∃ c : vt.den, v = vt.val c /\ z.1 = qJ vt c) (hK : (es.toList.map (rg P k R)).foldr DataW.insert [] = K.map fun p => (Lit.string p.1.data.toList, qJ vt p.2))
  (hone : ∀ p ∈ K, lN .str K p.1 = some p.2) : (∀ x ∈ es.toList, MapKept.IsKey Rx.Ty.str.desc x.key) /\ Vt .str vt K es.toList := by
 have hkeys : ∀ x ∈ es.toList, ∃ (s : ByteArray) (c : vt.den), x.key = .string s /\ x.val = vt.val c /\ (s, c) ∈ K := by
  intro x hx
  obtain ⟨y, hy⟩ := Fi.reads x hx
  have hm : y ∈ (es.toList.map (rg P k R)).foldr DataW.insert [] := (Ce y _).2 (List.mem_map.2 ⟨x, hx, rg_of hy⟩)
  rw [hK] at hm
  obtain ⟨p, hp, rfl⟩ := List.mem_map.1 hm
  obtain ⟨s, h1, h2, _⟩ := string_of_keyOf hk (rd_key hy)
  obtain ⟨z, h3, h4⟩ := rd_val hy
  obtain ⟨c, h5, h6⟩ := hR _ _ h3
  rw [h6] at h4
  have := Qx vt _ _ h4
  subst this
  injection h2 with h2
  have : s = p.1 := by
   cases hs : s with | mk a => cases hp1 : p.1 with | mk b =>
   rw [hs, hp1] at h2
   congr 1
   exact Array.toList_inj.1 h2.symm
  subst this
  exact ⟨_, _, h1, h5, hp⟩
 refine ⟨fun x hx => ?_, fun d => ?_⟩
 · obtain ⟨s, _, h1, _⟩ := hkeys x hx
   rw [h1]
   exact kJ .str s
 · obtain ⟨a, h1, h2⟩ := yQ d es.toList 0 fun x hx => by
    obtain ⟨s, _, h1, _⟩ := hkeys x hx
    exact ⟨s, h1⟩
   refine ⟨a, h1, ?_⟩
   rcases h2 with ⟨rfl, h3⟩ | ⟨x, hx, h3, h4⟩
   · cases hg : lN .str K d with
     | none => rfl
     | some v =>
       exfalso
       have hm := Kn hg
       have : ((Lit.string d.data.toList, qJ vt v) : Lit × DataW Unit) ∈ (es.toList.map (rg P k R)).foldr DataW.insert [] := by
        rw [hK]
        exact List.mem_map.2 ⟨_, hm, rfl⟩
       rw [Ce] at this
       obtain ⟨x, hx, hy⟩ := List.mem_map.1 this
       obtain ⟨y, hy2⟩ := Fi.reads x hx
       rw [rg_of hy2] at hy
       subst hy
       obtain ⟨s, k1, k2, _⟩ := string_of_keyOf hk (rd_key hy2)
       injection k2 with k2
       have : d = s := by
        cases d with | mk a => cases s with | mk b =>
        congr 1
        exact Array.toList_inj.1 k2
       subst this
       exact h3 x hx k1
   · obtain ⟨s, c, k1, k2, k3⟩ := hkeys x hx
     rw [h3] at k1
     injection k1 with k1
     subst k1
     have := hone _ k3
     rw [h4, this, k2]
     rfl
theorem RF {P : Program} {k : TypeId} (he : P.underlying k = some (.int .i64)) {W : World} {n : Nat} (v : Value) (z : DataW Unit × List MemPlace) (h : elemAt (fun _ => ()) P W 0 (fun _ => true) false n k v = some z) : ∃ c : (Rx.Ty.int .i64).den, v = (Rx.Ty.int .i64).val c /\ z.1 = qJ (.int .i64) c := by
 obtain ⟨a, rfl, rfl, _⟩ := elemAt_int he h
 exact ⟨a, rfl, rfl⟩
theorem ZR {P : Program} {k : TypeId} (he : P.underlying k = some .bool) {W : World} {n : Nat} (v : Value) (z : DataW Unit × List MemPlace) (h : elemAt (fun _ => ()) P W 0 (fun _ => true) false n k v = some z) : ∃ c : Rx.Ty.bool.den, v = Rx.Ty.bool.val c /\ z.1 = qJ .bool c := by
 obtain ⟨a, rfl, rfl⟩ := elemAt_bool he h
 exact ⟨a, rfl, rfl⟩
theorem lZ {P : Program} {n : String} {d : DataW Unit} {r : List (String × DataW Unit)} {w : World} {g : Nat} {t k e : TypeId} {vt : Rx.Ty} (K : List (Rx.Ty.str.den × vt.den)) (h : laidMet P ((n, d) :: r) w)
  (hg : P.globalNamed n = some g) (ht : (P.globals[g]?).map (·.type) = some t) (hu : P.underlying t = some (.map k e)) (hk : P.underlying k = some .string) (hd : d = .map (K.map fun p => (Lit.string p.1.data.toList, qJ vt p.2)))
  (hR : ∀ (W : World) (m : Nat) (v : Value) (z : DataW Unit × List MemPlace), elemAt (fun _ => ()) P W 0 (fun _ => true) false m e v = some z -> ∃ c : vt.den, v = vt.val c /\ z.1 = qJ vt c) (hone : ∀ p ∈ K, lN .str K p.1 = some p.2) :
  ∃ u, w.cell? ⟨g, 0, none⟩ = some u /\ Rep w (.mp .str vt K) u := by
 subst hd
 obtain ⟨ps, ⟨g', t', cs, fuel, p, q, hg', ht', hvar, hd, _, _⟩, _⟩ := h
 obtain rfl := Option.some.inj (hg.symm.trans hg')
 obtain rfl := Option.some.inj (ht.symm.trans ht')
 rcases Go.WideElems.open_map hu hd with ⟨_, hx⟩ | ⟨b, es, clock, m, rfl, hcs, hb, _, Fi, hx⟩
 · simp at hx
 simp only [Prod.mk.injEq, DataW.map.injEq] at hx
 obtain ⟨a1, a2⟩ := Jv hk Fi K (hR w m) hx.1.symm hone
 refine ⟨.map (some b), ?_, b, es, clock, rfl, hb, a1, a2⟩
 have := World.var?_cell hg hvar 0
 rw [Array.eq_one_of_toList hcs] at this
 simpa using this
def adL (vt : Rx.Ty) (K : List (Rx.Ty.str.den × vt.den)) : Bool := K.all fun p => match lN .str K p.1 with
 | some v => vt.eqb v p.2
 | none => false
theorem Kw {vt : Rx.Ty} {K : List (Rx.Ty.str.den × vt.den)} (h : adL vt K = true) : ∀ p ∈ K, lN .str K p.1 = some p.2 := by
 intro p hp
 have := List.all_eq_true.1 h p hp
 split at this
 · rename_i v hv
   rw [hv, (vO vt v p.2).1 this]
 · cases this
theorem Ee {P : Program} {n : String} {d : DataW Unit} {r : List (String × DataW Unit)} {w : World} {g m : Nat} {t e i : TypeId} (zs : List Int) (h : laidMet P ((n, d) :: r) w)
  (hg : P.globalNamed n = some g) (ht : (P.globals[g]?).map (·.type) = some t) (hu : P.underlying t = some (.array m e)) (he : P.underlying e = some (.array 2 i)) (hi : P.underlying i = some (.int .i64)) (c2 : P.cellsOf e = 2) (c1 : P.cellsOf i = 1)
  (hd : d = .agg ((List.range m).map fun j => .agg [.lit (.int .i64 (zs.getD (2 * j) 0)), .lit (.int .i64 (zs.getD (2 * j + 1) 0))])) :
  ∀ j, j < 2 * m -> w.cell? ⟨g, j, none⟩ = some (.int .i64 (zs.getD j 0)) := by
 subst hd
 obtain ⟨ps, ⟨g', t', cs, fuel, p, q, hg', ht', hvar, hd, _, _⟩, _⟩ := h
 obtain rfl := Option.some.inj (hg.symm.trans hg')
 obtain rfl := Option.some.inj (ht.symm.trans ht')
 obtain ⟨xs, f1, rfl, hx, hl, hn, hel⟩ := DataW.trod_array hu hd
 simp only [Prod.mk.injEq, DataW.agg.injEq] at hx
 intro j hj
 have hj2 : j / 2 < m := by omega
 have h1 := hel (j / 2) hj2
 have hxs : xs[j / 2]? = some xs[j / 2] := List.getElem?_eq_getElem (by omega)
 rw [hxs] at h1
 obtain ⟨ys, f2, rfl, hy, hl2, hn2, hel2⟩ := DataW.trod_array he h1
 have h2 := hel2 (j % 2) (by omega)
 have hys : ys[j % 2]? = some ys[j % 2] := List.getElem?_eq_getElem (by omega)
 rw [hys, c1, c2] at h2
 obtain ⟨z, e1, e2, _⟩ := DataW.trod_int hi h2
 have hd1 : (xs.map (·.1))[j / 2]? = some (.agg [.lit (.int .i64 (zs.getD (2 * (j / 2)) 0)), .lit (.int .i64 (zs.getD (2 * (j / 2) + 1) 0))]) := by
  rw [← hx.1]
  simp [hj2]
 rw [List.getElem?_map, hxs] at hd1
 simp only [Option.map_some, Option.some.injEq] at hd1
 rw [hy] at hd1
 simp only [DataW.agg.injEq] at hd1
 have hz : z = zs.getD j 0 := by
  have h3 : (ys.map (·.1))[j % 2]? = some (.lit (.int .i64 z)) := by
   rw [List.getElem?_map, hys]
   simp [e2]
  rw [hd1] at h3
  rcases Nat.mod_two_eq_zero_or_one j with h0 | h0
  · rw [h0] at h3
    simp at h3
    have : 2 * (j / 2) = j := by omega
    rw [← h3]
    simp [this]
  · rw [h0] at h3
    simp at h3
    have : 2 * (j / 2) + 1 = j := by omega
    rw [← h3]
    simp [this]
 have hc : cs.toList[j]? = some (.int .i64 z) := by
  have h4 : ((((cs.toList.drop (j / 2 * 2)).take 2).drop (j % 2 * 1)).take 1)[0]? = some (.int .i64 z) := by
   rw [e1]; rfl
  rw [List.getElem?_take, if_pos (by decide), List.getElem?_drop, List.getElem?_take, if_pos (by omega), List.getElem?_drop] at h4
  have : j / 2 * 2 + (j % 2 * 1 + 0) = j := by omega
  rwa [this] at h4
 have := World.var?_cell hg hvar j
 rw [this, ← hz, ← hc]
 simp
theorem VO {w w' : World} (ha : Ag C0.W w w') {g j : Nat} {v : Value} (h : w.cell? ⟨g, j, none⟩ = some v) : w'.cell? ⟨g, j, none⟩ = some v := by
 unfold World.cell? at h ⊢
 cases hc : w.heap[g]? with
 | none => simp only [hc, Option.bind_none] at h; cases h
 | some o =>
   have hlt : g < w.heap.size := (Array.getElem?_eq_some_iff.1 hc).1
   rw [ha.block g hlt (ZO g), hc]
   rw [hc] at h
   exact h
theorem aaW {w w' : World} (ha : Ag C0.W w w') {d : Dt} {v : Value} (h : Rep w d v) : Rep w' d v := OW (w := w) h w' ha
theorem Y5 {w w' : World} (ha : Ag C0.W w w') (h : Vu w) : Vu w' := by
 intro g m f hg j hj
 obtain ⟨u, h1, h2⟩ := h g m f hg j hj
 exact ⟨u, VO ha h1, aaW ha h2⟩
noncomputable def aaT : DataW Unit := Lib.tabData .u64 Lib.pow10Tab
noncomputable def adG : List (Lit × DataW Unit) := kws.map fun p => (Lit.string p.1.data.toList, qJ .bool p.2)
noncomputable def ZV : List (Lit × DataW Unit) := ars.map fun p => (Lit.string p.1.data.toList, qJ (.int .i64) p.2)
noncomputable def adz : DataW Unit := .agg ((List.range 23).map fun j => .agg [.lit (.int .i64 (V9.getD (2 * j) 0)), .lit (.int .i64 (V9.getD (2 * j + 1) 0))])
open Go.Proofs.YtkbdcpkbmfegdaaGreatDoor.Rows in
theorem Hl {w : World} (h : laidMet prog J6 w) : Pers C0.W w Glob.ok := by
 have h1 : laidMet prog (("math/bits.deBruijn32tab", laid_math_bits_deBruijn32tab) :: ("math/bits.deBruijn64tab", laid_math_bits_deBruijn64tab) ::
  ("internal/strconv.uint64pow10", aaT) :: ("strconv.ErrRange", .iface "*errors.errorString" (.ptr (.agg [.lit (.string [118, 97, 108, 117, 101, 32, 111, 117, 116, 32, 111, 102, 32, 114, 97, 110, 103, 101])]))) ::
  ("strconv.ErrSyntax", .iface "*errors.errorString" (.ptr (.agg [.lit (.string [105, 110, 118, 97, 108, 105, 100, 32, 115, 121, 110, 116, 97, 120])]))) ::
  ("graftery/unit.keywords", .map adG) :: ("graftery/unit.arity", .map ZV) :: ("graftery/code.arity", .map ZV) :: ("graftery/vm.arity", .map ZV) :: ("graftery/vm.effects", adz) :: []) w := h
 have h2 := gD (gD h1)
 have h3 := gD h2
 have h4 := gD h3
 have h5 := gD h4
 have h6 := gD h5
 have h7 := gD h6
 have h8 := gD h7
 have h9 := gD h8
 have ht : Lib.TabIs prog w "internal/strconv.uint64pow10" .u64 Lib.pow10Tab := Lib.tabIs_of_head (g := 1) (t := 128) (e := 74) (n := 20) (by kernel_rfl) (by kernel_rfl) (by kernel_rfl) (by kernel_rfl) (by kernel_rfl) (by kernel_rfl) h2
 obtain ⟨a0, s0, hv0, -, -, -⟩ := laid_sentinel (g := 10) (ti := 64) (tp := 358) (te := 360) (ts := 9) h3 (by kernel_rfl) (by kernel_rfl) Go.Proofs.Tryz.underlying64 UR (by kernel_rfl) Go.Proofs.Tryz.underlying360 rfl rfl (by kernel_rfl) (by kernel_rfl) (by kernel_rfl)
 obtain ⟨a1, s1, hv1, -, -, -⟩ := laid_sentinel (g := 9) (ti := 64) (tp := 358) (te := 360) (ts := 9) h4 (by kernel_rfl) (by kernel_rfl) Go.Proofs.Tryz.underlying64 UR (by kernel_rfl) Go.Proofs.Tryz.underlying360 rfl rfl (by kernel_rfl) (by kernel_rfl) (by kernel_rfl)
 have hk : prog.underlying 9 = some .string := by kernel_rfl
 have hb : prog.underlying 4 = some .bool := by kernel_rfl
 have hi : prog.underlying 3 = some (.int .i64) := by kernel_rfl
 have ok1 : ∀ p ∈ kws, lN .str kws p.1 = some p.2 := Kw (by kernel_rfl)
 have oa1 : ∀ p ∈ ars, lN .str ars p.1 = some p.2 := Kw (by kernel_rfl)
 have m1 := lZ (g := 4) (t := 292) (k := 9) (e := 4) (vt := .bool) kws h5 (by kernel_rfl) (by kernel_rfl) (by kernel_rfl) hk rfl (fun W m => ZR hb) ok1
 have m2 := lZ (g := 5) (t := 294) (k := 9) (e := 3) (vt := .int .i64) ars h6 (by kernel_rfl) (by kernel_rfl) (by kernel_rfl) hk rfl (fun W m => RF hi) oa1
 have m8 := lZ (g := 8) (t := 294) (k := 9) (e := 3) (vt := .int .i64) ars h7 (by kernel_rfl) (by kernel_rfl) (by kernel_rfl) hk rfl (fun W m => RF hi) oa1
 have m4 := lZ (g := 7) (t := 294) (k := 9) (e := 3) (vt := .int .i64) ars h8 (by kernel_rfl) (by kernel_rfl) (by kernel_rfl) hk rfl (fun W m => RF hi) oa1
 have e3 := Ee (g := 6) (m := 23) (t := 312) (e := 311) (i := 3) V9 h9 (by kernel_rfl) (by kernel_rfl) (by kernel_rfl) (by kernel_rfl) hi (by kernel_rfl) (by kernel_rfl) rfl
 have hT : Vu w := by
  intro g m f hg j hj
  unfold aas at hg
  split at hg
  · cases hg
    obtain rfl : j = 0 := by omega
    exact m1
  · cases hg
    obtain rfl : j = 0 := by omega
    exact m2
  · cases hg
    obtain rfl : j = 0 := by omega
    exact m4
  · cases hg
    obtain rfl : j = 0 := by omega
    exact m8
  · cases hg
    exact ⟨_, e3 j (by omega), rfl⟩
  · cases hg
 intro w' ha
 exact ⟨Ny ha ht, ⟨_, _, Ny ha hv1⟩, ⟨_, _, Ny ha hv0⟩, Y5 ha hT⟩
theorem kids : Kids prog (· < prog.types.size) := kids_rows (by kernel_rfl) (by kernel_rfl)
theorem KY : ∀ t e, t < prog.types.size -> prog.underlying t = some (.slice e) -> 0 < prog.cellsOf e := slices_full_of prog (by kernel_rfl)
end Gv
set_option linter.unusedSimpArgs false
set_option linter.unusedVariables false
open Rx Go
namespace Gv
open Rd
def sy (b : ByteArray) : Dx := .mk 3 none 0 b []
def num (n : Int) : Dx := .mk 1 none n noS []
def nu (a b n : Int) : Dx := .mk 1 (some (a, b)) n noS []
def ls (l : List Dx) : Dx := .mk 4 none 0 noS l
def any (n : Int) : SV := .ri .i64 (-9223372036854775808) 9223372036854775807 n
def WE : List Sx -> Sx
 | [.wd w, .li l] => if w = oH.data.toList then .qu l else .li [.wd w, .li l]
 | l => .li l
mutual
def dxS : Dx -> Sx
 | .mk k _ n s l => if k = 4 then WE (GX l) else if k = 3 then .wd s.data.toList else .wd (Lib.itoa n)
def GX : List Dx -> List Sx
 | [] => []
 | d :: l => dxS d :: GX l
end
def Pe (s : ByteArray) : Bool := okW s.data.toList && pI s && !isT s && !isF s
mutual
def okD : Dx -> Prop
 | .mk k _ n s l => (k = 4 /\ n = 0 /\ s = noS /\ Uv l) ∨ (k = 3 /\ n = 0 /\ l = [] /\ Pe s = true) ∨ (k = 1 /\ 0 <= n /\ n < 1000 /\ s = noS /\ l = [])
def Uv : List Dx -> Prop
 | [] => True
 | d :: l => okD d /\ Uv l
end
theorem Xa : atD ⟨oH.data.toList.toArray⟩ = .mk 3 0 oH [] := by kernel_rfl
theorem WG (l : List Sx) (h : uS l = true) : okX (WE l) = true /\ sxD (WE l) = .mk 4 0 noS (nH l) := by
 unfold WE
 split
 · rename_i w l
   split
   · rename_i e
     subst e
     simp only [uS, okX, Bool.and_eq_true] at h
     refine ⟨by simp only [okX]; exact h.2.1, ?_⟩
     simp only [sxD, nH, Xa]
   · exact ⟨by simp only [okX]; exact h, by simp only [sxD]⟩
 · exact ⟨by simp only [okX]; exact h, by simp only [sxD]⟩
theorem Xx {s : ByteArray} (h : Pe s = true) : okW s.data.toList = true /\ atD ⟨s.data.toList.toArray⟩ = .mk 3 0 s [] := by
 simp only [Pe, Bool.and_eq_true, Bool.not_eq_true'] at h
 obtain ⟨⟨⟨a1, a2⟩, a3⟩, a4⟩ := h
 refine ⟨a1, ?_⟩
 have e : (⟨s.data.toList.toArray⟩ : ByteArray) = s := by cases s; rfl
 unfold atD
 rw [e, a2, a3, a4]
 rfl
mutual
theorem acg : ∀ d, okD d -> okX (dxS d) = true /\ sxD (dxS d) = d.dm
 | .mk k sym n s l, h => by
   simp only [okD] at h
   rcases h with ⟨rfl, rfl, rfl, h⟩ | ⟨rfl, rfl, rfl, h⟩ | ⟨rfl, h0, h1, rfl, rfl⟩
   · obtain ⟨a1, a2⟩ := LZ l h
     obtain ⟨b1, b2⟩ := WG _ a1
     simp only [dxS, if_true, Dx.dm]
     exact ⟨b1, by rw [b2, a2]⟩
   · obtain ⟨b1, b2⟩ := Xx h
     have e : ¬ ((3 : Int) = 4) := by decide
     simp only [dxS, if_neg e, if_true, Dx.dm, nV, okX, sxD]
     exact ⟨b1, b2⟩
   · obtain ⟨b1, b2, _⟩ := Cq h0 h1
     have e : ¬ ((1 : Int) = 4) := by decide
     have e' : ¬ ((1 : Int) = 3) := by decide
     simp only [dxS, if_neg e, if_neg e', Dx.dm, nV, okX, sxD]
     exact ⟨b1, b2⟩
theorem LZ : ∀ l, Uv l -> uS (GX l) = true /\ nH (GX l) = nV l
 | [], _ => ⟨rfl, rfl⟩
 | d :: l, h => by
   simp only [Uv] at h
   obtain ⟨a1, a2⟩ := acg d h.1
   obtain ⟨b1, b2⟩ := LZ l h.2
   simp only [GX, uS, nH, nV, a1, a2, b1, b2, Bool.and_true, true_and]
end
mutual
def sxA : Sx -> List UInt8 -> List UInt8
 | .wd w, t => w ++ t
 | .li l, t => 40 :: QS l (41 :: t)
 | .qu l, t => 39 :: 40 :: QS l (41 :: t)
def U4 : List Sx -> List UInt8 -> List UInt8
 | [], t => t
 | x :: l, t => 32 :: sxA x (U4 l t)
def QS : List Sx -> List UInt8 -> List UInt8
 | [], t => t
 | x :: l, t => sxA x (U4 l t)
end
mutual
theorem U5 : ∀ x t, sxA x t = sxT x ++ t
 | .wd w, t => by simp only [sxA, sxT]
 | .li l, t => by simp only [sxA, sxT, I9 l, List.cons_append, List.append_assoc, List.nil_append]
 | .qu l, t => by simp only [sxA, sxT, I9 l, List.cons_append, List.append_assoc, List.nil_append]
theorem O7 : ∀ l t, U4 l t = kF l ++ t
 | [], t => by simp only [U4, kF, List.nil_append]
 | x :: l, t => by simp only [U4, kF, U5 x, O7 l, List.cons_append, List.append_assoc]
theorem I9 : ∀ l t, QS l t = mQ l ++ t
 | [], t => by simp only [QS, mQ, List.nil_append]
 | x :: l, t => by simp only [QS, mQ, U5 x, O7 l, List.append_assoc]
end
def GD (d : Dx) : Prop := okD d /\ d.fits
def GDs (l : List Dx) : Prop := Uv l /\ lV l
theorem aap : GDs [] := ⟨trivial, trivial⟩
theorem Wn {d : Dx} {l : List Dx} (h : GD d) (h' : GDs l) : GDs (d :: l) := ⟨⟨h.1, h'.1⟩, ⟨h.2, h'.2⟩⟩
theorem acu {b : ByteArray} (h : Pe b = true) : GD (sy b) := ⟨.inr (.inl ⟨rfl, rfl, rfl, h⟩), ⟨(fun _ _ e => by cases e), trivial⟩⟩
theorem aaq {n : Int} (h : 0 <= n) (h' : n < 1000) : GD (num n) := ⟨.inr (.inr ⟨rfl, h, h', rfl, rfl⟩), ⟨(fun _ _ e => by cases e), trivial⟩⟩
theorem acr {a b n : Int} (h : 0 <= n) (h' : n < 1000) (h1 : a <= n) (h2 : n <= b) : GD (nu a b n) := ⟨.inr (.inr ⟨rfl, h, h', rfl, rfl⟩), ⟨(fun _ _ e => by cases e; exact ⟨h1, h2⟩), trivial⟩⟩
theorem acp {l : List Dx} (h : GDs l) : GD (ls l) := ⟨.inl ⟨rfl, rfl, rfl, h.1⟩, ⟨(fun _ _ e => by cases e), h.2⟩⟩
theorem Xc {s : ByteArray} {L : List Dx} (ok : GDs L) (hz : s.size <= 3000) (hs : s.data.toList = QS (GX L) []) (hh : Nat.ble (zQ (GX L)) 40 = true) (hc : Nat.ble (kC (GX L)) 400 = true) (hf : Nat.ble (rF (GX L)) 400 = true) :
  s.size <= 3000 /\ qX 400 s = some ⟨nV L, 0, 0⟩ /\ lV L := by
 obtain ⟨a1, a2⟩ := LZ L ok.1
 rw [← a2]
 exact ⟨hz, MW _ a1 (by rw [hs, I9, List.append_nil]) (Nat.le_of_ble_eq_true hh) (Nat.le_of_ble_eq_true hc) (Nat.le_of_ble_eq_true hf), ok.2⟩
def Bld (n : Nat) (f : Nat -> Nat -> Dt) (t : List UInt8) : Prop := n = t.length /\ ∀ k, k < n -> f k 0 = .cell (.int .u8 ((t.getD k 0).toNat))
theorem VI : Bld 0 row0 [] := ⟨rfl, fun k h => by omega⟩
theorem VN {n k : Nat} {f h : Nat -> Nat -> Dt} (hk : k < n) : fK n f h k 0 = f k 0 := by
 have e : Nat.blt k n = true := by rw [Nat.blt_eq]; exact hk
 unfold fK
 rw [e, cond_true]
theorem VL {n k : Nat} {f h : Nat -> Nat -> Dt} (hk : n <= k) : fK n f h k 0 = h (k - n) 0 := by
 have e : Nat.blt k n = false := by
  cases hb : Nat.blt k n with
  | false => rfl
  | true => rw [Nat.blt_eq] at hb; omega
 unfold fK
 rw [e, cond_false]
theorem Z0 {n : Nat} {f : Nat -> Nat -> Dt} {t : List UInt8} (h : Bld n f t) (s : ByteArray) : Bld (n + s.size) (fK n f (DW s)) (t ++ s.data.toList) := by
 have hl : s.data.toList.length = s.size := rfl
 refine ⟨by rw [List.length_append, ← h.1, hl], fun k hk => ?_⟩
 by_cases hk' : k < n
 · rw [VN hk', h.2 k hk', List.getD_eq_getElem?_getD, List.getD_eq_getElem?_getD, List.getElem?_append_left (by rw [← h.1]; exact hk')]
 · rw [VL (by omega)]
   show Dt.cell _ = _
   rw [List.getD_eq_getElem?_getD (l := t ++ _), List.getElem?_append_right (by rw [← h.1]; omega), ← h.1, ← List.getD_eq_getElem?_getD]
theorem VJ {n : Nat} {f : Nat -> Nat -> Dt} {t : List UInt8} (h : Bld n f t) : pF n f = t := by
 unfold pF
 apply List.ext_getElem
 · rw [List.length_map, List.length_range, h.1]
 · intro k h1 h2
   rw [List.getElem_map, List.getElem_range, h.2 k (by rw [h.1]; exact h2)]
   simp only [P6, List.getD_eq_getElem?_getD, List.getElem?_eq_getElem h2, Option.getD_some, Int.toNat_natCast]
   exact UInt8.ofNat_toNat
theorem PZ {n : Nat} {f : Nat -> Nat -> Dt} {t : List UInt8} (h : Bld n f t) (h0 : 0 < n) (h1 : n <= 100000) : LJ n f := by
 refine ⟨h0, h1, fun k hk => ?_⟩
 rw [h.2 k hk]
 simp only [P6, Int.toNat_natCast]
 rw [show ((t.getD k 0).toNat.toUInt8) = t.getD k 0 from UInt8.ofNat_toNat]
end Gv
set_option linter.unusedSimpArgs false
set_option linter.unusedVariables false
open Rx Go
namespace Gv
open Rd
theorem uw (n : Int) {m : Int} (h : 0 < m) : 0 <= aR n m /\ aR n m < m := by
 unfold aR
 split
 · exact ⟨Int.tmod_nonneg _ (by omega), Int.tmod_lt_of_pos _ h⟩
 · exact ⟨Int.tmod_nonneg _ (by omega), Int.tmod_lt_of_pos _ h⟩
theorem aa8 (l : Array UInt8) : (ByteArray.mk l).size = l.size := rfl
theorem abN (l : List UInt8) : (ByteArray.mk l.toArray).data.toList = l := rfl
theorem Uo {n : Int} (h0 : 0 <= n) (h1 : n < 1000) : (aL n).size <= 3 := (Cq h0 h1).2.2
end Gv
