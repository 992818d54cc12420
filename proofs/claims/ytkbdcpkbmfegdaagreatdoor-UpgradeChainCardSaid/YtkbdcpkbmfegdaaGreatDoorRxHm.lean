/- Rx, part Hm: maps. -/
import Derived.Test.YtkbdcpkbmfegdaaGreatDoorRxHa
import Derived.MapKept
set_option linter.unusedSectionVars false
set_option linter.unusedSimpArgs false
set_option linter.unusedVariables false
namespace Rx
open Go
variable [Glob]
def Ty.dflt : (t : Ty) -> t.den
 | .int _ => (0 : Int)
 | .bool => false
 | .str => ByteArray.mk #[]
def Ec {V : Type} (kt : Ty) : List (kt.den × V) -> kt.den -> V -> List (kt.den × V)
 | [], k, v => [(k, v)]
 | x :: l, k, v => bif kt.eqb k x.1 then (k, v) :: l else x :: Ec kt l k v
theorem vO : ∀ (t : Ty) (a b : t.den), t.eqb a b = true ↔ a = b
 | .int _, a, b => by
   exact @decide_eq_true_iff (@Eq Int a b) (Int.instDecidableEq a b)
 | .bool, a, b => by
   show (@BEq.beq Bool _ a b) = true ↔ _
   exact beq_iff_eq
 | .str, a, b => by
   show (@BEq.beq (List UInt8) _ a.data.toList b.data.toList) = true ↔ _
   rw [beq_iff_eq]
   constructor
   · intro h
     have h1 : a.data = b.data := Array.ext' h
     exact ByteArray.ext h1
   · intro h; rw [h]
def Y8 (P : Program) (t : TypeId) : Option Ty :=
 match P.underlying t with
 | some (.int k) => some (.int k)
 | some .bool => some .bool
 | some .string => some .str
 | _ => none
theorem kJ : ∀ (t : Ty) (k : t.den), MapKept.IsKey t.desc (t.val k)
 | .int _, _ => by simp [MapKept.IsKey, Ty.desc, Ty.val]
 | .bool, _ => by simp [MapKept.IsKey, Ty.desc, Ty.val]
 | .str, _ => by simp [MapKept.IsKey, Ty.desc, Ty.val]
theorem val_inj : ∀ (t : Ty) (a b : t.den), t.val a = t.val b -> a = b
 | .int _, a, b, h => by injection h
 | .bool, a, b, h => by injection h
 | .str, a, b, h => by injection h
def qO {V : Type} (kt : Ty) : List (kt.den × V) -> kt.den -> Nat -> Option (Nat × V)
 | [], _, _ => none
 | x :: l, k, i => bif kt.eqb k x.1 then some (i, x.2) else qO kt l k (i + 1)
theorem zo (kt : Ty) (a b : kt.den) : Instr.sameNow kt.desc (kt.val a) (kt.val b) = some (kt.eqb a b) := by
 obtain ⟨r, h1, h2⟩ := MapKept.sameNow_of_keys (kJ kt a) (kJ kt b)
 rw [h1]
 have h3 := vO kt a b
 cases r <;> cases h4 : kt.eqb a b
 · rfl
 · have := h3.1 h4; subst this; simp at h2
 · have h5 := val_inj kt a b (h2.1 rfl)
   rw [h3.2 h5] at h4; cases h4
 · rfl
theorem qw (kt vt : Ty) (k : kt.den) : ∀ (l : List (kt.den × vt.den)) (i j : Nat), Instr.findNow kt.desc (kt.val k) (iw kt vt j l) i = some ((qO kt l k i).map fun x => (x.1, vt.val x.2))
 | [], i, j => rfl
 | x :: l, i, j => by
   simp only [iw, Instr.findNow, zo, qO]
   cases kt.eqb k x.1 with
   | true => rfl
   | false => exact qw kt vt k l (i + 1) (j + 1)
theorem EW {V : Type} (kt : Ty) (k : kt.den) : ∀ (l : List (kt.den × V)) (i : Nat), (qO kt l k i).map (·.2) = lN kt l k
 | [], _ => rfl
 | x :: l, i => by
   simp only [qO, lN]
   cases kt.eqb k x.1 with
   | true => rfl
   | false => exact EW kt k l (i + 1)
theorem EY {V : Type} (kt : Ty) (k : kt.den) (v : V) : ∀ (l : List (kt.den × V)) (i : Nat), qO kt l k i = none -> Ec kt l k v = l ++ [(k, v)]
 | [], _, _ => rfl
 | x :: l, i, h => by
   simp only [qO] at h
   simp only [Ec]
   cases hb : kt.eqb k x.1 with
   | true => rw [hb] at h; cases h
   | false =>
     rw [hb] at h
     rw [cond_false, EY kt k v l (i + 1) h]; rfl
theorem yZ (kt vt : Ty) : ∀ (l : List (kt.den × vt.den)) (i : Nat) (x : kt.den × vt.den), iw kt vt i (l ++ [x]) = iw kt vt i l ++ [⟨kt.val x.1, vt.val x.2, i + l.length⟩]
 | [], i, x => rfl
 | y :: l, i, x => by
   simp only [List.cons_append, iw, yZ kt vt l (i + 1) x, List.length_cons]
   rw [show i + 1 + l.length = i + (l.length + 1) by omega]
theorem EZ (kt vt : Ty) (k : kt.den) (v : vt.den) : ∀ (l : List (kt.den × vt.den)) (i j n : Nat) (u : vt.den), qO kt l k i = some (n, u) ->
  i <= n /\ (Ec kt l k v).length = l.length /\ iw kt vt j (Ec kt l k v) = (iw kt vt j l).modify (n - i) (fun e => { e with key := kt.val k, val := vt.val v }) /\ ∃ e, (iw kt vt j l)[n - i]? = some e /\ e.key = kt.val k
 | [], i, j, n, u, h => by cases h
 | x :: l, i, j, n, u, h => by
   simp only [qO] at h
   simp only [Ec]
   cases hb : kt.eqb k x.1 with
   | true =>
     rw [hb] at h
     simp only [cond_true, Option.some.injEq, Prod.mk.injEq] at h
     obtain ⟨rfl, rfl⟩ := h
     have hk := (vO kt _ _).1 hb
     refine ⟨Nat.le_refl _, rfl, ?_, ?_⟩
     · simp [iw]
     · simp [iw, hk]
   | false =>
     rw [hb] at h
     obtain ⟨h1, h2, h3, e, h4, h5⟩ := EZ kt vt k v l (i + 1) (j + 1) n u h
     have hn : n - i = (n - (i + 1)) + 1 := by omega
     refine ⟨by omega, by simp [h2], ?_, e, ?_, h5⟩
     · simp only [cond_false, iw]
       rw [h3, hn]; rfl
     · rw [hn]; simpa [iw] using h4
def JJ : (t : Ty) -> SV -> Option t.den
 | .int k, .dt (.cell (.int k' n)) => if k = k' then some n else none
 | .bool, .dt (.cell (.bool b)) => some b
 | .bool, .kb b => some b
 | .str, .dt (.cell (.string s)) => some s
 | _, _ => none
theorem xK {C : Ctx} {w : World} {t : Ty} {s : SV} {v : Value} {d : t.den} (h : JJ t s = some d) (r : rel C w s v) : v = t.val d := by
 unfold JJ at h
 split at h
 · rw [ah] at r
   split at h
   · rename_i hk; subst hk; injection h with h; subst h; exact r
   · cases h
 · rw [ah] at r; injection h with h; subst h; exact r
 · injection h with h; subst h; exact r
 · rw [ah] at r; injection h with h; subst h; exact r
 · cases h
def toI {k : IntKind} (d : (Ty.int k).den) : Int := d
def toB (d : Ty.bool.den) : Bool := d
def toS (d : Ty.str.den) : ByteArray := d
def gW : (t : Ty) -> t.den -> SV
 | .int k, d => .dt (.cell (.int k (toI d)))
 | .bool, d => .dt (.cell (.bool (toB d)))
 | .str, d => .dt (.cell (.string (toS d)))
theorem kL {C : Ctx} {w : World} : ∀ (t : Ty) (d : t.den), rel C w (gW t d) (t.val d)
 | .int _, _ => ah.2 rfl
 | .bool, _ => ah.2 rfl
 | .str, _ => ah.2 rfl
def Jp (P : Program) (e : TypeId) (vt : Ty) : Bool :=
 match P.info? e, vt with
 | some i, .int k => match i.zero with
   | some (.int k' 0) => if k = k' then true else false
   | _ => false
 | some i, .bool => match i.zero with
   | some (.bool false) => true
   | _ => false
 | some i, .str => match i.zero with
   | some (.string s) => Nat.beq s.size 0
   | _ => false
 | none, _ => false
theorem NC {P : Program} {e : TypeId} {vt : Ty} (h : Jp P e vt = true) (w : World) : (zeroValue e).run P w = .ok (vt.val vt.dflt) w := by
 unfold Jp at h
 have key : ∀ (i : TypeInfo) (z : Value), P.info? e = some i -> i.zero = some z -> z = vt.val vt.dflt -> (zeroValue e).run P w = .ok (vt.val vt.dflt) w := by
  intro i z h1 h2 h3
  simp [zeroValue, typeInfo, h1, h2, h3]
 split at h
 · rename_i i k hi
   split at h
   · rename_i k' hz
     split at h
     · rename_i hk; subst hk; exact key i _ hi hz rfl
     · cases h
   · cases h
 · rename_i i hi
   split at h
   · rename_i hz; exact key i _ hi hz rfl
   · cases h
 · rename_i i hi
   split at h
   · rename_i s hz
     refine key i _ hi hz ?_
     have h0 := Nat.eq_of_beq_eq_true h
     have : s = ByteArray.mk #[] := by
        apply ByteArray.ext
        exact Array.eq_empty_of_size_eq_zero h0
     subst this; rfl
   · cases h
 · cases h
structure MapIn where
 kt : Ty
 vt : Ty
 l : List (kt.den × vt.den)
def EU (P : Program) (g : Nat -> Option Ob) (t : TypeId) (x : SV) : Option (MapIn × TypeId × TypeId) :=
 match P.underlying t with
 | some (.map k e) => match x with
   | .nm i => match g i with
     | some (.mp kt vt l) => some (⟨kt, vt, l⟩, k, e)
     | _ => none
   | .dt (.mp kt vt l) => some (⟨kt, vt, l⟩, k, e)
   | .dt (.cell (.map none)) => match Y8 P k, Y8 P e with
     | some kt, some vt => some (⟨kt, vt, []⟩, k, e)
     | _, _ => none
   | _ => none
 | _ => none
theorem RQ (kt vt : Ty) (l : List (kt.den × vt.den)) : Vt kt vt l (iw kt vt 0 l).toArray.toList := fun d =>
 ⟨_, qw kt vt d l 0 0, by
  rw [← EW kt d l 0]
  cases qO kt l d 0 <;> rfl⟩
theorem Ud {P : Program} {C : Ctx} {w : World} {g : Nat -> Option Ob} (hg : ObsOk C w g) {t : TypeId} {x : SV} {v : Value} (hx : rel C w x v) {m : MapIn} {k e : TypeId} (h : EU P g t x = some (m, k, e)) :
  P.underlying t = some (.map k e) /\ ((v = .map none /\ m.l = []) ∨ ∃ b es c, v = .map (some b) /\ w.heap[b]? = some (.map es c) /\ Vt m.kt m.vt m.l es.toList) := by
 unfold EU at h
 split at h
 · rename_i k' e' ht
   split at h
   · rename_i i
     split at h
     · rename_i kt vt l hgi
       simp only [Option.some.injEq, Prod.mk.injEq] at h
       obtain ⟨rfl, rfl, rfl⟩ := h
       obtain ⟨b, h1, h2, h3⟩ := hg i _ hgi
       rw [show C.ν i = some v from hx.1] at h2
       injection h2 with h2
       exact ⟨ht, .inr ⟨b, _, _, h2, h3, RQ _ _ _⟩⟩
     · cases h
   · rename_i kt vt l
     simp only [Option.some.injEq, Prod.mk.injEq] at h
     obtain ⟨rfl, rfl, rfl⟩ := h
     obtain ⟨b, es, c, h2, h3, _, h4⟩ := hx.here
     exact ⟨ht, .inr ⟨b, es, c, h2, h3, h4⟩⟩
   · split at h
     · simp only [Option.some.injEq, Prod.mk.injEq] at h
       obtain ⟨rfl, rfl, rfl⟩ := h
       rw [ah] at hx
       exact ⟨ht, .inl ⟨hx, rfl⟩⟩
     · cases h
   · cases h
 · cases h
def EN (P : Program) (k : TypeId) (kt : Ty) : Bool :=
 match P.underlying k, kt with
 | some (.int a), .int b => if a = b then true else false
 | some .bool, .bool => true
 | some .string, .str => true
 | _, _ => false
theorem BI {P : Program} {k : TypeId} {kt : Ty} (h : EN P k kt = true) : P.underlying k = some kt.desc := by
 unfold EN at h
 split at h
 · rename_i hu
   split at h
   · rename_i hk; subst hk; exact hu
   · cases h
 · rename_i hu; exact hu
 · rename_i hu; exact hu
 · cases h
def gP (P : Program) (g : Nat -> Option Ob) (t : TypeId) (x ix : SV) (ok : Bool) : T SV :=
 match EU P g t x with
 | some (m, k, e) => match JJ m.kt ix with
   | some d => bif EN P k m.kt && Jp P e m.vt then
         .ret (bif ok then .tup [gW m.vt ((lN m.kt m.l d).getD m.vt.dflt), vB (lN m.kt m.l d).isSome] else gW m.vt ((lN m.kt m.l d).getD m.vt.dflt))
     else .fail
   | none => .fail
 | none => .fail
theorem qL {P : Program} {C : Ctx} {w : World} {g : Nat -> Option Ob} (hg : ObsOk C w g) (t : TypeId) (x ix : SV) (ok : Bool) (u v : Value) {s : SV} (hx : rel C w x u) (hi : rel C w ix v)
  (hok : (gP P g t x ix ok).ok) (hval : (gP P g t x ix ok).val = some s) : ∃ y, (Instr.lookup t u v ok).run P w = .ok y w /\ rel C w s y := by
 unfold gP at hok hval
 split at hok
 · rename_i m k e hm
   simp only [hm] at hval
   split at hok
   · rename_i d hd
     simp only [hd] at hval
     cases hb : (EN P k m.kt && Jp P e m.vt) with
     | false => rw [hb] at hok; exact hok.elim
     | true =>
       rw [hb] at hval
       simp only [cond_true, T.val, Option.some.injEq] at hval
       subst hval
       simp only [Bool.and_eq_true] at hb
       obtain ⟨ht, hmap⟩ := Ud hg hx hm
       have hdesc := BI hb.1
       have hz := fun w => NC (P := P) hb.2 w
       have hkv := xK hd hi
       subst hkv
       have hck := fun e (w : World) => MapKept.run_checkKey (P := P) (w := w) hdesc (kJ m.kt d) e 9999
       have hrun : (Instr.lookup t u (m.kt.val d) ok).run P w = .ok (if ok then .tuple #[m.vt.val ((lN m.kt m.l d).getD m.vt.dflt), .bool (lN m.kt m.l d).isSome] else m.vt.val ((lN m.kt m.l d).getD m.vt.dflt)) w := by
        rcases hmap with ⟨rfl, hnil⟩ | ⟨b, es, c, rfl, hheap, hask⟩
        · have hfk0 : (Instr.findKey k (m.kt.val d) []).run P w = .ok none w := MapKept.run_findKey hdesc rfl
          simp [Instr.lookup, run_underlying ht, hck, hfk0, hz, hnil, lN, Result.andThen]
        · obtain ⟨a, ha, hav⟩ := hask d
          have hfk := MapKept.run_findKey (w := w) (P := P) hdesc ha
          simp only [Instr.lookup, Sem.run_bind, run_underlying ht, Result.andThen_ok, MapKept.run_getObj_map hheap, hck, hfk, Sem.run_pure]
          cases a with
          | none =>
            cases hm2 : lN m.kt m.l d with
            | none => simp [hz, Result.andThen]
            | some x => rw [hm2] at hav; cases hav
          | some a =>
            cases hm2 : lN m.kt m.l d with
            | none => rw [hm2] at hav; cases hav
            | some x =>
              rw [hm2] at hav
              simp only [Option.map_some, Option.some.injEq] at hav
              simp [Result.andThen, hav]
       refine ⟨_, hrun, ?_⟩
       cases ok with
       | false => exact kL _ _
       | true => exact ⟨[_, _], rfl, _, _, rfl, kL _ _, _, _, rfl, ah.2 rfl, rfl⟩
   · exact hok.elim
 · exact hok.elim
def jF (P : Program) (g : Nat -> Option Ob) (t : TypeId) (x ix y : SV) : T Res :=
 match P.underlying t, x with
 | some (.map k _), .nm i => match g i with
   | some (.mp kt vt l) => match JJ kt ix, JJ vt y with
     | some d, some e => bif EN P k kt then .ret ⟨.junk, ⟨[(i, some (.mp kt vt (Ec kt l d e)))], []⟩⟩ else .fail
     | _, _ => .fail
   | _ => .fail
 | _, _ => .fail
theorem KX {X : Nat -> Prop} {C : Ctx} {w : World} {i b : Nat} (hX : X i) (hb : C.ρ i = some b) (o : Obj) : Step X C w C { w with heap := w.heap.setIfInBounds b o } := by
 refine ⟨fun _ _ h => h, rfl, fun j c h => .inl ⟨j, h⟩, fun _ _ _ h => h, ⟨rfl, rfl, rfl, by simp, fun k hk hn => ?_⟩⟩
 have : b ≠ k := fun e => hn ⟨i, hX, e ▸ hb⟩
 simp [Array.getElem?_setIfInBounds_ne this]
theorem aa0 {C : Ctx} {w : World} (hw : WF C w) {i b : Nat} (hb : C.ρ i = some b) (o : Obj) : WF C { w with heap := w.heap.setIfInBounds b o } :=
 jy hw (KX (X := fun j => j = i) rfl hb o)
theorem wE {P : Program} {C : Ctx} {w : World} {g : Nat -> Option Ob} (hw : WF C w) (hg : ObsOk C w g) (t : TypeId) (x ix y : SV) (u v z : Value) {r : Res} (hx : rel C w x u) (hi : rel C w ix v) (hy : rel C w y z)
  (hok : (jF P g t x ix y).ok) (hval : (jF P g t x ix y).val = some r) : ∃ w' C', (Instr.mapUpdate t u v z).run P w = .ok () w' /\ Came C w r C' w' undef := by
 unfold jF at hok hval
 split at hok
 · rename_i k e' i ht
   simp only [ht] at hval
   split at hok
   · rename_i kt vt l hgi
     simp only [hgi] at hval
     split at hok
     · rename_i d e hd he
       simp only [hd, he] at hval
       cases hb : EN P k kt with
       | false => rw [hb] at hok; exact hok.elim
       | true =>
         rw [hb] at hval
         simp only [cond_true, T.val, Option.some.injEq] at hval
         subst hval
         have hdesc := BI hb
         have hkv := xK hd hi
         have hvv := xK he hy
         subst hkv; subst hvv
         obtain ⟨b, h1, h2, h3⟩ := hg i _ hgi
         rw [show C.ν i = some u from hx.1] at h2
         injection h2 with h2
         subst h2
         have hlt : b < w.heap.size := hw.lt i b h1
         have fin : ∀ (o : Obj), o = .map (iw kt vt 0 (Ec kt l d e)).toArray (Ec kt l d e).length -> (Instr.mapUpdate t (.map (some b)) (kt.val d) (vt.val e)).run P w = .ok () { w with heap := w.heap.setIfInBounds b o } ->
           ∃ w' C', (Instr.mapUpdate t (.map (some b)) (kt.val d) (vt.val e)).run P w = .ok () w' /\ Came C w ⟨.junk, ⟨[(i, some (.mp kt vt (Ec kt l d e)))], []⟩⟩ C' w' undef := by
          rintro o rfl hr
          refine ⟨_, C, hr, trivial, KX (by simp [Eff.X, Eff.touched]) h1 _, aa0 hw h1 _, fun _ h => .inl h, fun j ob hj => ?_⟩
          by_cases hji : j = i
          · subst hji
            simp [List.lookup] at hj
            subst hj
            exact ⟨b, h1, hx.1, by simp [hlt]⟩
          · have : (j == i) = false := by simpa using hji
            simp [List.lookup, this] at hj
         have hfn := qw kt vt d l 0 0
         have hfk := MapKept.run_findKey (w := w) (P := P) hdesc hfn
         have hck := fun e => MapKept.run_checkKey (P := P) (w := w) hdesc (kJ kt d) e 9999
         cases hm : qO kt l d 0 with
         | none =>
           refine fin (.map ((iw kt vt 0 l).toArray.push { key := kt.val d, val := vt.val e, born := l.length }) (l.length + 1)) ?_ ?_
           · rw [EY kt d e l 0 hm, yZ]
             simp
           · rw [hm] at hfk
             simp [Instr.mapUpdate, run_underlying ht, MapKept.run_getObj_map h3, hck, hfk, MapKept.run_setObj_map _ h3, Result.andThen]
         | some q =>
           obtain ⟨n, u'⟩ := q
           obtain ⟨_, m2, m3, en, m4, m5⟩ := EZ kt vt d e l 0 0 n u' hm
           refine fin (.map ((iw kt vt 0 l).toArray.modify n fun x => { x with key := kt.val d, val := vt.val e }) l.length) ?_ ?_
           · rw [m3, m2]
             congr 1
             apply Array.ext'
             simp
           · rw [hm] at hfk
             have hkk : (((iw kt vt 0 l).toArray[n]?).map (·.key)).getD (kt.val d) = kt.val d := by
              have : (iw kt vt 0 l).toArray[n]? = some en := by simpa using m4
              rw [this]; exact m5
             simp only [Instr.mapUpdate, Sem.run_bind, run_underlying ht, MapKept.run_getObj_map h3, hck, hfk, Result.andThen_ok, Option.map_some, hkk, MapKept.run_keyThatStays (kJ kt d), MapKept.run_setObj_map _ h3]
     · exact hok.elim
   · exact hok.elim
 · exact hok.elim
def qM (P : Program) (new : Nat) (t : TypeId) : T Res :=
 match P.underlying t with
 | some (.map k e) => match Y8 P k, Y8 P e with
   | some kt, some vt => .ret ⟨.nm new, ⟨[(new, some (.mp kt vt []))], [new]⟩⟩
   | _, _ => .fail
 | _ => .fail
theorem Ik {P : Program} {C : Ctx} {w : World} (hw : WF C w) {new : Nat} (hnew : C.ν new = none) (t : TypeId) {r : Res} (hval : (qM P new t).val = some r) :
  ∃ v w' C', (Instr.makeMap t none).run P w = .ok v w' /\ Came C w r C' w' v := by
 unfold qM at hval
 split at hval
 · split at hval
   · rename_i kt vt _ _
     simp only [T.val, Option.some.injEq] at hval
     subst hval
     have hr : (Instr.makeMap t none).run P w = .ok (.map (some w.heap.size)) (w.alloc (.map #[] 0)) := by simp [Instr.makeMap, Result.andThen]
     exact ⟨_, _, _, hr, Came.move (old := none) (b := some w.heap.size) hw hnew (fun c hc => by injection hc with hc; subst hc; exact ⟨by simp, .inl (Nat.le_refl _)⟩)
        ⟨rfl, rfl, rfl, by simp, fun k hk _ => heap_alloc_old w _ hk⟩ ⟨w.heap.size, iN, upd_same _ _ _, heap_alloc_new w _⟩⟩
   · cases hval
 · cases hval
def l7 (P : Program) (g : Nat -> Option Ob) (new : Nat) (t : TypeId) (x : SV) : T Res :=
 match P.underlying t, x with
 | some (.map _ _), .nm i => match g i with
   | some (.mp _ _ l) => .ret ⟨.ptr new 0, ⟨[(new, some (.it i l.length []))], [new]⟩⟩
   | _ => .fail
 | _, _ => .fail
theorem zf {P : Program} {C : Ctx} {w : World} {g : Nat -> Option Ob} (hw : WF C w) (hg : ObsOk C w g) {new : Nat} (hnew : C.ν new = none) (t : TypeId) (x : SV) (u : Value) {r : Res} (hx : rel C w x u)
  (hval : (l7 P g new t x).val = some r) : ∃ v w' C', (Instr.range t u).run P w = .ok v w' /\ Came C w r C' w' v := by
 unfold l7 at hval
 split at hval
 · rename_i k e i ht
   split at hval
   · rename_i kt vt l hgi
     simp only [T.val, Option.some.injEq] at hval
     subst hval
     obtain ⟨b, h1, h2, h3⟩ := hg i _ hgi
     rw [show C.ν i = some u from hx.1] at h2
     injection h2 with h2
     subst h2
     have hr : (Instr.range t (.map (some b))).run P w = .ok (.pointer (some ⟨w.heap.size, 0, none⟩)) (w.alloc (.mapIter (some b) l.length #[] l.length)) := by
        simp [Instr.range, run_underlying ht, MapKept.run_getObj_map h3, Result.andThen]
     have hstep : Step (fun _ => False) C w (C.add new (.pointer (some ⟨w.heap.size, 0, none⟩)) w.heap.size) (w.alloc (.mapIter (some b) l.length #[] l.length)) := vk hw hnew (Nat.le_refl _) (iH w _)
     refine ⟨_, _, _, hr, ⟨w.heap.size, upd_same _ _ _, rfl⟩, hstep.mono fun _ h => h.elim, RL hw (Nat.le_refl _) (by simp) hnew (iH w _), fun j hj => ?_, fun j ob hj => ?_⟩
     · by_cases hji : j = new
       · right; subst hji; simp
       · left
         have : upd C.ν new (some (Value.pointer (some ⟨w.heap.size, 0, none⟩))) j ≠ none := hj
         rw [bJ _ _ hji] at this
         exact this
     · by_cases hji : j = new
       · subst hji
         simp [List.lookup] at hj
         subst hj
         exact ⟨w.heap.size, b, upd_same _ _ _, upd_same _ _ _, hstep.ext i _ hx.1, heap_alloc_new w _⟩
       · have : (j == new) = false := by simpa using hji
         simp [List.lookup, this] at hj
   · cases hval
 · cases hval
end Rx
