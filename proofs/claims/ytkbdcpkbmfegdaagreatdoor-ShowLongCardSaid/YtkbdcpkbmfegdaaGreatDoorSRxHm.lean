/- Rx, part Hm: maps. -/
import Derived.Test.YtkbdcpkbmfegdaaGreatDoorSRxHa
import Derived.MapKept
set_option linter.unusedSectionVars false
set_option linter.unusedSimpArgs false
set_option linter.unusedVariables false
namespace Rx
open Go
variable [Glob]
def Ty.dflt : (t : Ty) -> t.den
 | .int _ => (0 : Int)
 | .bool => false
 | .str => ByteArray.mk #[]
def Cv {V : Type} (kt : Ty) : List (kt.den × V) -> kt.den -> V -> List (kt.den × V)
 | [], k, v => [(k, v)]
 | x :: l, k, v => bif kt.eqb k x.1 then (k, v) :: l else x :: Cv kt l k v
theorem sO : ∀ (t : Ty) (a b : t.den), t.eqb a b = true ↔ a = b
 | .int _, a, b => by
   exact @decide_eq_true_iff (@Eq Int a b) (Int.instDecidableEq a b)
 | .bool, a, b => by
   show (@BEq.beq Bool _ a b) = true ↔ _
   exact beq_iff_eq
 | .str, a, b => by
   show (@BEq.beq (List UInt8) _ a.data.toList b.data.toList) = true ↔ _
   rw [beq_iff_eq]
   constructor
   · intro h
     have h1 : a.data = b.data := Array.ext' h
     exact ByteArray.ext h1
   · intro h; rw [h]
def Xo (P : Program) (t : TypeId) : Option Ty :=
 match P.underlying t with
 | some (.int k) => some (.int k)
 | some .bool => some .bool
 | some .string => some .str
 | _ => none
theorem jR : ∀ (t : Ty) (k : t.den), MapKept.IsKey t.desc (t.val k)
 | .int _, _ => by simp [MapKept.IsKey, Ty.desc, Ty.val]
 | .bool, _ => by simp [MapKept.IsKey, Ty.desc, Ty.val]
 | .str, _ => by simp [MapKept.IsKey, Ty.desc, Ty.val]
theorem val_inj : ∀ (t : Ty) (a b : t.den), t.val a = t.val b -> a = b
 | .int _, a, b, h => by injection h
 | .bool, a, b, h => by injection h
 | .str, a, b, h => by injection h
def pF {V : Type} (kt : Ty) : List (kt.den × V) -> kt.den -> Nat -> Option (Nat × V)
 | [], _, _ => none
 | x :: l, k, i => bif kt.eqb k x.1 then some (i, x.2) else pF kt l k (i + 1)
theorem wO (kt : Ty) (a b : kt.den) : Instr.sameNow kt.desc (kt.val a) (kt.val b) = some (kt.eqb a b) := by
 obtain ⟨r, h1, h2⟩ := MapKept.sameNow_of_keys (jR kt a) (jR kt b)
 rw [h1]
 have h3 := sO kt a b
 cases r <;> cases h4 : kt.eqb a b
 · rfl
 · have := h3.1 h4; subst this; simp at h2
 · have h5 := val_inj kt a b (h2.1 rfl)
   rw [h3.2 h5] at h4; cases h4
 · rfl
theorem oH (kt vt : Ty) (k : kt.den) : ∀ (l : List (kt.den × vt.den)) (i j : Nat), Instr.findNow kt.desc (kt.val k) (gQ kt vt j l) i = some ((pF kt l k i).map fun x => (x.1, vt.val x.2))
 | [], i, j => rfl
 | x :: l, i, j => by
   simp only [gQ, Instr.findNow, wO, pF]
   cases kt.eqb k x.1 with
   | true => rfl
   | false => exact oH kt vt k l (i + 1) (j + 1)
theorem Dz {V : Type} (kt : Ty) (k : kt.den) : ∀ (l : List (kt.den × V)) (i : Nat), (pF kt l k i).map (·.2) = kQ kt l k
 | [], _ => rfl
 | x :: l, i => by
   simp only [pF, kQ]
   cases kt.eqb k x.1 with
   | true => rfl
   | false => exact Dz kt k l (i + 1)
theorem DC {V : Type} (kt : Ty) (k : kt.den) (v : V) : ∀ (l : List (kt.den × V)) (i : Nat), pF kt l k i = none -> Cv kt l k v = l ++ [(k, v)]
 | [], _, _ => rfl
 | x :: l, i, h => by
   simp only [pF] at h
   simp only [Cv]
   cases hb : kt.eqb k x.1 with
   | true => rw [hb] at h; cases h
   | false =>
     rw [hb] at h
     rw [cond_false, DC kt k v l (i + 1) h]; rfl
theorem wF (kt vt : Ty) : ∀ (l : List (kt.den × vt.den)) (i : Nat) (x : kt.den × vt.den), gQ kt vt i (l ++ [x]) = gQ kt vt i l ++ [⟨kt.val x.1, vt.val x.2, i + l.length⟩]
 | [], i, x => rfl
 | y :: l, i, x => by
   simp only [List.cons_append, gQ, wF kt vt l (i + 1) x, List.length_cons]
   rw [show i + 1 + l.length = i + (l.length + 1) by omega]
theorem DF (kt vt : Ty) (k : kt.den) (v : vt.den) : ∀ (l : List (kt.den × vt.den)) (i j n : Nat) (u : vt.den), pF kt l k i = some (n, u) ->
  i <= n /\ (Cv kt l k v).length = l.length /\ gQ kt vt j (Cv kt l k v) = (gQ kt vt j l).modify (n - i) (fun e => { e with key := kt.val k, val := vt.val v }) /\ ∃ e, (gQ kt vt j l)[n - i]? = some e /\ e.key = kt.val k
 | [], i, j, n, u, h => by cases h
 | x :: l, i, j, n, u, h => by
   simp only [pF] at h
   simp only [Cv]
   cases hb : kt.eqb k x.1 with
   | true =>
     rw [hb] at h
     simp only [cond_true, Option.some.injEq, Prod.mk.injEq] at h
     obtain ⟨rfl, rfl⟩ := h
     have hk := (sO kt _ _).1 hb
     refine ⟨Nat.le_refl _, rfl, ?_, ?_⟩
     · simp [gQ]
     · simp [gQ, hk]
   | false =>
     rw [hb] at h
     obtain ⟨h1, h2, h3, e, h4, h5⟩ := DF kt vt k v l (i + 1) (j + 1) n u h
     have hn : n - i = (n - (i + 1)) + 1 := by omega
     refine ⟨by omega, by simp [h2], ?_, e, ?_, h5⟩
     · simp only [cond_false, gQ]
       rw [h3, hn]; rfl
     · rw [hn]; simpa [gQ] using h4
def Ii : (t : Ty) -> SV -> Option t.den
 | .int k, .dt (.cell (.int k' n)) => if k = k' then some n else none
 | .bool, .dt (.cell (.bool b)) => some b
 | .bool, .kb b => some b
 | .str, .dt (.cell (.string s)) => some s
 | _, _ => none
theorem uP {C : Ctx} {w : World} {t : Ty} {s : SV} {v : Value} {d : t.den} (h : Ii t s = some d) (r : rel C w s v) : v = t.val d := by
 unfold Ii at h
 split at h
 · rw [aj] at r
   split at h
   · rename_i hk; subst hk; injection h with h; subst h; exact r
   · cases h
 · rw [aj] at r; injection h with h; subst h; exact r
 · injection h with h; subst h; exact r
 · rw [aj] at r; injection h with h; subst h; exact r
 · cases h
def toI {k : IntKind} (d : (Ty.int k).den) : Int := d
def toB (d : Ty.bool.den) : Bool := d
def toS (d : Ty.str.den) : ByteArray := d
def gI : (t : Ty) -> t.den -> SV
 | .int k, d => .dt (.cell (.int k (toI d)))
 | .bool, d => .dt (.cell (.bool (toB d)))
 | .str, d => .dt (.cell (.string (toS d)))
theorem jT {C : Ctx} {w : World} : ∀ (t : Ty) (d : t.den), rel C w (gI t d) (t.val d)
 | .int _, _ => aj.2 rfl
 | .bool, _ => aj.2 rfl
 | .str, _ => aj.2 rfl
def Hl (P : Program) (e : TypeId) (vt : Ty) : Bool :=
 match P.info? e, vt with
 | some i, .int k => match i.zero with
   | some (.int k' 0) => if k = k' then true else false
   | _ => false
 | some i, .bool => match i.zero with
   | some (.bool false) => true
   | _ => false
 | some i, .str => match i.zero with
   | some (.string s) => Nat.beq s.size 0
   | _ => false
 | none, _ => false
theorem Nt {P : Program} {e : TypeId} {vt : Ty} (h : Hl P e vt = true) (w : World) : (zeroValue e).run P w = .ok (vt.val vt.dflt) w := by
 unfold Hl at h
 have key : ∀ (i : TypeInfo) (z : Value), P.info? e = some i -> i.zero = some z -> z = vt.val vt.dflt -> (zeroValue e).run P w = .ok (vt.val vt.dflt) w := by
  intro i z h1 h2 h3
  simp [zeroValue, typeInfo, h1, h2, h3]
 split at h
 · rename_i i k hi
   split at h
   · rename_i k' hz
     split at h
     · rename_i hk; subst hk; exact key i _ hi hz rfl
     · cases h
   · cases h
 · rename_i i hi
   split at h
   · rename_i hz; exact key i _ hi hz rfl
   · cases h
 · rename_i i hi
   split at h
   · rename_i s hz
     refine key i _ hi hz ?_
     have h0 := Nat.eq_of_beq_eq_true h
     have : s = ByteArray.mk #[] := by
        apply ByteArray.ext
        exact Array.eq_empty_of_size_eq_zero h0
     subst this; rfl
   · cases h
 · cases h
structure MapIn where
 kt : Ty
 vt : Ty
 l : List (kt.den × vt.den)
def Dy (P : Program) (g : Nat -> Option Ob) (t : TypeId) (x : SV) : Option (MapIn × TypeId × TypeId) :=
 match P.underlying t with
 | some (.map k e) => match x with
   | .nm i => match g i with
     | some (.mp kt vt l) => some (⟨kt, vt, l⟩, k, e)
     | _ => none
   | .dt (.mp kt vt l) => some (⟨kt, vt, l⟩, k, e)
   | .dt (.cell (.map none)) => match Xo P k, Xo P e with
     | some kt, some vt => some (⟨kt, vt, []⟩, k, e)
     | _, _ => none
   | _ => none
 | _ => none
theorem QJ (kt vt : Ty) (l : List (kt.den × vt.den)) : Vu kt vt l (gQ kt vt 0 l).toArray.toList := fun d =>
 ⟨_, oH kt vt d l 0 0, by
  rw [← Dz kt d l 0]
  cases pF kt l d 0 <;> rfl⟩
theorem Sm {P : Program} {C : Ctx} {w : World} {g : Nat -> Option Ob} (hg : ObsOk C w g) {t : TypeId} {x : SV} {v : Value} (hx : rel C w x v) {m : MapIn} {k e : TypeId} (h : Dy P g t x = some (m, k, e)) :
  P.underlying t = some (.map k e) /\ ((v = .map none /\ m.l = []) ∨ ∃ b es c, v = .map (some b) /\ w.heap[b]? = some (.map es c) /\ Vu m.kt m.vt m.l es.toList) := by
 unfold Dy at h
 split at h
 · rename_i k' e' ht
   split at h
   · rename_i i
     split at h
     · rename_i kt vt l hgi
       simp only [Option.some.injEq, Prod.mk.injEq] at h
       obtain ⟨rfl, rfl, rfl⟩ := h
       obtain ⟨b, h1, h2, h3⟩ := hg i _ hgi
       rw [show C.ν i = some v from hx.1] at h2
       injection h2 with h2
       exact ⟨ht, .inr ⟨b, _, _, h2, h3, QJ _ _ _⟩⟩
     · cases h
   · rename_i kt vt l
     simp only [Option.some.injEq, Prod.mk.injEq] at h
     obtain ⟨rfl, rfl, rfl⟩ := h
     obtain ⟨b, es, c, h2, h3, _, h4⟩ := hx.here
     exact ⟨ht, .inr ⟨b, es, c, h2, h3, h4⟩⟩
   · split at h
     · simp only [Option.some.injEq, Prod.mk.injEq] at h
       obtain ⟨rfl, rfl, rfl⟩ := h
       rw [aj] at hx
       exact ⟨ht, .inl ⟨hx, rfl⟩⟩
     · cases h
   · cases h
 · cases h
def Dr (P : Program) (k : TypeId) (kt : Ty) : Bool :=
 match P.underlying k, kt with
 | some (.int a), .int b => if a = b then true else false
 | some .bool, .bool => true
 | some .string, .str => true
 | _, _ => false
theorem zl {P : Program} {k : TypeId} {kt : Ty} (h : Dr P k kt = true) : P.underlying k = some kt.desc := by
 unfold Dr at h
 split at h
 · rename_i hu
   split at h
   · rename_i hk; subst hk; exact hu
   · cases h
 · rename_i hu; exact hu
 · rename_i hu; exact hu
 · cases h
def gu (P : Program) (g : Nat -> Option Ob) (t : TypeId) (x ix : SV) (ok : Bool) : T SV :=
 match Dy P g t x with
 | some (m, k, e) => match Ii m.kt ix with
   | some d => bif Dr P k m.kt && Hl P e m.vt then
         .ret (bif ok then .tup [gI m.vt ((kQ m.kt m.l d).getD m.vt.dflt), vB (kQ m.kt m.l d).isSome] else gI m.vt ((kQ m.kt m.l d).getD m.vt.dflt))
     else .fail
   | none => .fail
 | none => .fail
theorem pq {P : Program} {C : Ctx} {w : World} {g : Nat -> Option Ob} (hg : ObsOk C w g) (t : TypeId) (x ix : SV) (ok : Bool) (u v : Value) {s : SV} (hx : rel C w x u) (hi : rel C w ix v)
  (hok : (gu P g t x ix ok).ok) (hval : (gu P g t x ix ok).val = some s) : ∃ y, (Instr.lookup t u v ok).run P w = .ok y w /\ rel C w s y := by
 unfold gu at hok hval
 split at hok
 · rename_i m k e hm
   simp only [hm] at hval
   split at hok
   · rename_i d hd
     simp only [hd] at hval
     cases hb : (Dr P k m.kt && Hl P e m.vt) with
     | false => rw [hb] at hok; exact hok.elim
     | true =>
       rw [hb] at hval
       simp only [cond_true, T.val, Option.some.injEq] at hval
       subst hval
       simp only [Bool.and_eq_true] at hb
       obtain ⟨ht, hmap⟩ := Sm hg hx hm
       have hdesc := zl hb.1
       have hz := fun w => Nt (P := P) hb.2 w
       have hkv := uP hd hi
       subst hkv
       have hck := fun e (w : World) => MapKept.run_checkKey (P := P) (w := w) hdesc (jR m.kt d) e 9999
       have hrun : (Instr.lookup t u (m.kt.val d) ok).run P w = .ok (if ok then .tuple #[m.vt.val ((kQ m.kt m.l d).getD m.vt.dflt), .bool (kQ m.kt m.l d).isSome] else m.vt.val ((kQ m.kt m.l d).getD m.vt.dflt)) w := by
        rcases hmap with ⟨rfl, hnil⟩ | ⟨b, es, c, rfl, hheap, hask⟩
        · have hfk0 : (Instr.findKey k (m.kt.val d) []).run P w = .ok none w := MapKept.run_findKey hdesc rfl
          simp [Instr.lookup, run_underlying ht, hck, hfk0, hz, hnil, kQ, Result.andThen]
        · obtain ⟨a, ha, hav⟩ := hask d
          have hfk := MapKept.run_findKey (w := w) (P := P) hdesc ha
          simp only [Instr.lookup, Sem.run_bind, run_underlying ht, Result.andThen_ok, MapKept.run_getObj_map hheap, hck, hfk, Sem.run_pure]
          cases a with
          | none =>
            cases hm2 : kQ m.kt m.l d with
            | none => simp [hz, Result.andThen]
            | some x => rw [hm2] at hav; cases hav
          | some a =>
            cases hm2 : kQ m.kt m.l d with
            | none => rw [hm2] at hav; cases hav
            | some x =>
              rw [hm2] at hav
              simp only [Option.map_some, Option.some.injEq] at hav
              simp [Result.andThen, hav]
       refine ⟨_, hrun, ?_⟩
       cases ok with
       | false => exact jT _ _
       | true => exact ⟨[_, _], rfl, _, _, rfl, jT _ _, _, _, rfl, aj.2 rfl, rfl⟩
   · exact hok.elim
 · exact hok.elim
def ji (P : Program) (g : Nat -> Option Ob) (t : TypeId) (x ix y : SV) : T Res :=
 match P.underlying t, x with
 | some (.map k _), .nm i => match g i with
   | some (.mp kt vt l) => match Ii kt ix, Ii vt y with
     | some d, some e => bif Dr P k kt then .ret ⟨.junk, ⟨[(i, some (.mp kt vt (Cv kt l d e)))], []⟩⟩ else .fail
     | _, _ => .fail
   | _ => .fail
 | _, _ => .fail
theorem JA {X : Nat -> Prop} {C : Ctx} {w : World} {i b : Nat} (hX : X i) (hb : C.ρ i = some b) (o : Obj) : Step X C w C { w with heap := w.heap.setIfInBounds b o } := by
 refine ⟨fun _ _ h => h, rfl, fun j c h => .inl ⟨j, h⟩, fun _ _ _ h => h, ⟨rfl, rfl, rfl, by simp, fun k hk hn => ?_⟩⟩
 have : b ≠ k := fun e => hn ⟨i, hX, e ▸ hb⟩
 simp [Array.getElem?_setIfInBounds_ne this]
theorem aax {C : Ctx} {w : World} (hw : WF C w) {i b : Nat} (hb : C.ρ i = some b) (o : Obj) : WF C { w with heap := w.heap.setIfInBounds b o } :=
 jc hw (JA (X := fun j => j = i) rfl hb o)
theorem tT {P : Program} {C : Ctx} {w : World} {g : Nat -> Option Ob} (hw : WF C w) (hg : ObsOk C w g) (t : TypeId) (x ix y : SV) (u v z : Value) {r : Res} (hx : rel C w x u) (hi : rel C w ix v) (hy : rel C w y z)
  (hok : (ji P g t x ix y).ok) (hval : (ji P g t x ix y).val = some r) : ∃ w' C', (Instr.mapUpdate t u v z).run P w = .ok () w' /\ Came C w r C' w' undef := by
 unfold ji at hok hval
 split at hok
 · rename_i k e' i ht
   simp only [ht] at hval
   split at hok
   · rename_i kt vt l hgi
     simp only [hgi] at hval
     split at hok
     · rename_i d e hd he
       simp only [hd, he] at hval
       cases hb : Dr P k kt with
       | false => rw [hb] at hok; exact hok.elim
       | true =>
         rw [hb] at hval
         simp only [cond_true, T.val, Option.some.injEq] at hval
         subst hval
         have hdesc := zl hb
         have hkv := uP hd hi
         have hvv := uP he hy
         subst hkv; subst hvv
         obtain ⟨b, h1, h2, h3⟩ := hg i _ hgi
         rw [show C.ν i = some u from hx.1] at h2
         injection h2 with h2
         subst h2
         have hlt : b < w.heap.size := hw.lt i b h1
         have fin : ∀ (o : Obj), o = .map (gQ kt vt 0 (Cv kt l d e)).toArray (Cv kt l d e).length -> (Instr.mapUpdate t (.map (some b)) (kt.val d) (vt.val e)).run P w = .ok () { w with heap := w.heap.setIfInBounds b o } ->
           ∃ w' C', (Instr.mapUpdate t (.map (some b)) (kt.val d) (vt.val e)).run P w = .ok () w' /\ Came C w ⟨.junk, ⟨[(i, some (.mp kt vt (Cv kt l d e)))], []⟩⟩ C' w' undef := by
          rintro o rfl hr
          refine ⟨_, C, hr, trivial, JA (by simp [Eff.X, Eff.touched]) h1 _, aax hw h1 _, fun _ h => .inl h, fun j ob hj => ?_⟩
          by_cases hji : j = i
          · subst hji
            simp [List.lookup] at hj
            subst hj
            exact ⟨b, h1, hx.1, by simp [hlt]⟩
          · have : (j == i) = false := by simpa using hji
            simp [List.lookup, this] at hj
         have hfn := oH kt vt d l 0 0
         have hfk := MapKept.run_findKey (w := w) (P := P) hdesc hfn
         have hck := fun e => MapKept.run_checkKey (P := P) (w := w) hdesc (jR kt d) e 9999
         cases hm : pF kt l d 0 with
         | none =>
           refine fin (.map ((gQ kt vt 0 l).toArray.push { key := kt.val d, val := vt.val e, born := l.length }) (l.length + 1)) ?_ ?_
           · rw [DC kt d e l 0 hm, wF]
             simp
           · rw [hm] at hfk
             simp [Instr.mapUpdate, run_underlying ht, MapKept.run_getObj_map h3, hck, hfk, MapKept.run_setObj_map _ h3, Result.andThen]
         | some q =>
           obtain ⟨n, u'⟩ := q
           obtain ⟨_, m2, m3, en, m4, m5⟩ := DF kt vt d e l 0 0 n u' hm
           refine fin (.map ((gQ kt vt 0 l).toArray.modify n fun x => { x with key := kt.val d, val := vt.val e }) l.length) ?_ ?_
           · rw [m3, m2]
             congr 1
             apply Array.ext'
             simp
           · rw [hm] at hfk
             have hkk : (((gQ kt vt 0 l).toArray[n]?).map (·.key)).getD (kt.val d) = kt.val d := by
              have : (gQ kt vt 0 l).toArray[n]? = some en := by simpa using m4
              rw [this]; exact m5
             simp only [Instr.mapUpdate, Sem.run_bind, run_underlying ht, MapKept.run_getObj_map h3, hck, hfk, Result.andThen_ok, Option.map_some, hkk, MapKept.run_keyThatStays (jR kt d), MapKept.run_setObj_map _ h3]
     · exact hok.elim
   · exact hok.elim
 · exact hok.elim
def pz (P : Program) (new : Nat) (t : TypeId) : T Res :=
 match P.underlying t with
 | some (.map k e) => match Xo P k, Xo P e with
   | some kt, some vt => .ret ⟨.nm new, ⟨[(new, some (.mp kt vt []))], [new]⟩⟩
   | _, _ => .fail
 | _ => .fail
theorem Gf {P : Program} {C : Ctx} {w : World} (hw : WF C w) {new : Nat} (hnew : C.ν new = none) (t : TypeId) {r : Res} (hval : (pz P new t).val = some r) :
  ∃ v w' C', (Instr.makeMap t none).run P w = .ok v w' /\ Came C w r C' w' v := by
 unfold pz at hval
 split at hval
 · split at hval
   · rename_i kt vt _ _
     simp only [T.val, Option.some.injEq] at hval
     subst hval
     have hr : (Instr.makeMap t none).run P w = .ok (.map (some w.heap.size)) (w.alloc (.map #[] 0)) := by simp [Instr.makeMap, Result.andThen]
     exact ⟨_, _, _, hr, Came.move (old := none) (b := some w.heap.size) hw hnew (fun c hc => by injection hc with hc; subst hc; exact ⟨by simp, .inl (Nat.le_refl _)⟩)
        ⟨rfl, rfl, rfl, by simp, fun k hk _ => heap_alloc_old w _ hk⟩ ⟨w.heap.size, iC, upd_same _ _ _, heap_alloc_new w _⟩⟩
   · cases hval
 · cases hval
def lC (P : Program) (g : Nat -> Option Ob) (new : Nat) (t : TypeId) (x : SV) : T Res :=
 match P.underlying t, x with
 | some (.map _ _), .nm i => match g i with
   | some (.mp _ _ l) => .ret ⟨.ptr new 0, ⟨[(new, some (.it i l.length []))], [new]⟩⟩
   | _ => .fail
 | _, _ => .fail
theorem wJ {P : Program} {C : Ctx} {w : World} {g : Nat -> Option Ob} (hw : WF C w) (hg : ObsOk C w g) {new : Nat} (hnew : C.ν new = none) (t : TypeId) (x : SV) (u : Value) {r : Res} (hx : rel C w x u)
  (hval : (lC P g new t x).val = some r) : ∃ v w' C', (Instr.range t u).run P w = .ok v w' /\ Came C w r C' w' v := by
 unfold lC at hval
 split at hval
 · rename_i k e i ht
   split at hval
   · rename_i kt vt l hgi
     simp only [T.val, Option.some.injEq] at hval
     subst hval
     obtain ⟨b, h1, h2, h3⟩ := hg i _ hgi
     rw [show C.ν i = some u from hx.1] at h2
     injection h2 with h2
     subst h2
     have hr : (Instr.range t (.map (some b))).run P w = .ok (.pointer (some ⟨w.heap.size, 0, none⟩)) (w.alloc (.mapIter (some b) l.length #[] l.length)) := by
        simp [Instr.range, run_underlying ht, MapKept.run_getObj_map h3, Result.andThen]
     have hstep : Step (fun _ => False) C w (C.add new (.pointer (some ⟨w.heap.size, 0, none⟩)) w.heap.size) (w.alloc (.mapIter (some b) l.length #[] l.length)) := rZ hw hnew (Nat.le_refl _) (gZ w _)
     refine ⟨_, _, _, hr, ⟨w.heap.size, upd_same _ _ _, rfl⟩, hstep.mono fun _ h => h.elim, QF hw (Nat.le_refl _) (by simp) hnew (gZ w _), fun j hj => ?_, fun j ob hj => ?_⟩
     · by_cases hji : j = new
       · right; subst hji; simp
       · left
         have : upd C.ν new (some (Value.pointer (some ⟨w.heap.size, 0, none⟩))) j ≠ none := hj
         rw [bE _ _ hji] at this
         exact this
     · by_cases hji : j = new
       · subst hji
         simp [List.lookup] at hj
         subst hj
         exact ⟨w.heap.size, b, upd_same _ _ _, upd_same _ _ _, hstep.ext i _ hx.1, heap_alloc_new w _⟩
       · have : (j == new) = false := by simpa using hji
         simp [List.lookup, this] at hj
   · cases hval
 · cases hval
end Rx
