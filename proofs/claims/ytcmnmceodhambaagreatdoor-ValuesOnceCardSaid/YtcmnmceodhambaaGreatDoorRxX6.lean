/- Rx, part X6: code and functions, for the kernel: they do as the specification says. -/
import Derived.Test.YtcmnmceodhambaaGreatDoorRxX5
set_option linter.unusedSectionVars false
set_option linter.unusedSimpArgs false
set_option linter.unusedVariables false
namespace Rx
open Go
variable [Glob]
noncomputable section
theorem FOk.of {ob : OB} {h : HS} (hh : h.Ok) (e : h.obj = getO ob) : FOk ob h.nob := fun i hi => by rw [← e]; exact hh i hi
theorem KC.facts {E : CEnv} {fl : Nat} {post : SV × HD → Prop} {kn : KS} {ke : Nat → KS} {kr : KS} {σ : CS} {x : Ex × CS} (hT : TopOk E.top σ.h.nob) (hg : goodX E σ x) (h : KC fl post kn ke kr x) :
  ∃ sl ob, x.2 = ⟨view fl sl .nil, ⟨getO ob, x.2.h.nob⟩⟩ ∧ (contX kn ke kr x.1 sl ob x.2.h.nob).holds post ∧ TopOk E.top x.2.h.nob ∧ FOk ob x.2.h.nob := by
 obtain ⟨sl, ob, e, hh⟩ := h
 refine ⟨sl, ob, e, hh, ⟨?_, hT.2⟩, ?_⟩
 · have := hg.2.2
   have := hT.1
   omega
 · intro i hi
   have := hg.1 i hi
   rw [e] at this
   exact this
def RefF (c : Code) (f : CF) : Prop := ∀ (E : CEnv) (X : EX), E.Ok → XRef X E → E.N ≤ 16777215 → ∀ (kn : KS) (ke : Nat → KS) (kr : KS) (sl : Tr SV) (ob : OB) (nb : Nat) (post : SV × HD → Prop), TopOk E.top nb → FOk ob nb →
 (f E.P X E.fl E.N E.fuel kn ke kr sl ob nb).holds post → ((cxBoth c).1 E ⟨view E.fl sl .nil, ⟨getO ob, nb⟩⟩).holds (KC E.fl post kn ke kr)
def RefG (c : Code) (g : Program → EX → Nat → Nat → Nat → Lo → CG) : Prop := ∀ (E : CEnv) (X : EX), E.Ok → XRef X E → E.N ≤ 16777215 → ∀ (kn : KS) (ke : Nat → KS) (kr : KS) (sl : Tr SV) (lo : Lo) (ob : OB) (nb : Nat) (post : SV × HD → Prop), TopOk E.top nb → FOk ob nb →
 (g E.P X E.fl E.N E.fuel lo kn ke kr sl ob nb).holds post → ((cxBoth c).2 E ⟨view E.fl sl lo, ⟨getO ob, nb⟩⟩).holds (KC E.fl post kn ke kr)
theorem refG_no (c : Code) : RefG c noG := fun _ _ _ _ _ _ _ _ _ _ _ _ _ _ _ h => h.elim
theorem refF_no (c : Code) : RefF c noC.f := fun _ _ _ _ _ _ _ _ _ _ _ _ _ _ h => h.elim
theorem regionG_ref (rid : Nat) (ops : Array Oper) (dr : Bool) : RefF (.region rid ops dr) (regionG rid ops dr) := by
 intro E X hE hX hN kn ke kr sl ob nb post hT hF h
 obtain ⟨hok, h⟩ := BR_if h
 rw [BR_eq] at h
 cases dr with
 | true =>
   show T.holds _ ((cxDraw E ops rid ⟨view E.fl sl .nil, ⟨getO ob, nb⟩⟩).bind fun σ' => .ret (Ex.normal, clrC E.fl σ'))
   rw [T.holds_bind]
   exact drawG_ref (N := E.N) (fu := E.fuel) hE hX hok hN hT hF h
 | false =>
   show T.holds _ ((cxOps E ops rid 0 ops.toList ⟨view E.fl sl .nil, ⟨getO ob, nb⟩⟩).bind fun σ' => .ret (Ex.normal, clrC E.fl σ'))
   rw [T.holds_bind]
   refine T.holds_mono (fun z hz => ?_) _ (opsG_ref hE (rid := rid) hX hok hN ops.toList 0 sl .nil ob nb (okD_mem hok) hT hF h)
   obtain ⟨sl', lo', ob', e, hh⟩ := hz
   show KC E.fl post kn ke kr (Ex.normal, clrC E.fl z)
   rw [e, clr_view]
   exact ⟨sl', ob', rfl, hh⟩
theorem seqG_ref {a b : Code} {x y : CP} (hx : RefF a x.f) (hy : RefF b y.f) : RefF (.seq a b) (fun P X fl N fu kn ke kr => x.f P X fl N fu (y.f P X fl N fu kn ke kr) ke kr) := by
 intro E X hE hX hN kn ke kr sl ob nb post hT hF h
 show T.holds _ (((cxBoth a).1 E ⟨view E.fl sl .nil, ⟨getO ob, nb⟩⟩).bind fun x => match x.1 with
   | .normal => (cxBoth b).1 E x.2
   | e => .ret (e, x.2))
 rw [T.holds_bind]
 have h1 := T.holds_good ((cxBoth_good a).1 E hE ⟨view E.fl sl .nil, ⟨getO ob, nb⟩⟩ hF) (hx E X hE hX hN _ _ _ sl ob nb post hT hF h)
 refine T.holds_mono (fun z hz => ?_) _ h1
 obtain ⟨sl', ob', e, hh, hT', hF'⟩ := KC.facts hT hz.1 hz.2
 obtain ⟨ex, σ'⟩ := z
 cases ex with
 | normal =>
   show T.holds _ ((cxBoth b).1 E σ')
   rw [show σ' = _ from e]
   exact hy E X hE hX hN _ _ _ sl' ob' _ post hT' hF' hh
 | exit k => exact ⟨sl', ob', e, hh⟩
 | ret => exact ⟨sl', ob', e, hh⟩
theorem tailG_ref {a b : Code} {y : CP} (hy : RefF b y.f) : RefG (.seq a b) (fun P X fl N fu lo kn ke kr => tailG a P X fl N fu lo (y.f P X fl N fu kn ke kr) ke kr) := by
 intro E X hE hX hN kn ke kr sl lo ob nb post hT hF h
 show T.holds _ ((regTail E a ⟨view E.fl sl lo, ⟨getO ob, nb⟩⟩).bind fun σ' => (cxBoth b).1 E (clrC E.fl σ'))
 have h : (tailG a E.P X E.fl E.N E.fuel lo (y.f E.P X E.fl E.N E.fuel kn ke kr) ke kr sl ob nb).holds post := h
 cases a with
 | region rid ops dr =>
   cases dr with
   | true => exact h.elim
   | false =>
     unfold tailG at h
     unfold regTail
     cases hl : ops.toList with
     | nil => simp only [hl] at h; exact h.elim
     | cons o l =>
       simp only [hl] at h ⊢
       obtain ⟨hok, h⟩ := BR_if h
       have hd : ∀ q ∈ l, dstN E.N q.dst = true := fun q hq => okD_mem hok q (by rw [hl]; simp [hq])
       have h1 := T.holds_good (cxOps_good hE (ops := ops) (rid := rid) l 1 ⟨view E.fl sl lo, ⟨getO ob, nb⟩⟩ hF) (opsG_ref hE (rid := rid) hX hok hN l 1 sl lo ob nb hd hT hF h)
       rw [T.holds_bind]
       refine T.holds_mono (fun z hz => ?_) _ h1
       obtain ⟨⟨g1, g2, g3⟩, sl', lo', ob', e, hh⟩ := hz
       have eh : z.h = ⟨getO ob', z.h.nob⟩ := congrArg CS.h e
       have hT' : TopOk E.top z.h.nob := ⟨by
        have g3 : z.h.nob ≤ max E.top nb := g3
        have := hT.1
        omega, hT.2⟩
       have hF' : FOk ob' z.h.nob := fun i hi => by
        have := g1 i hi
        rw [eh] at this
        exact this
       rw [e, clr_view]
       exact hy E X hE hX hN _ _ _ sl' ob' _ post hT' hF' hh
 | _ => exact h.elim
theorem condG_ref {c : Operand} {a b : Code} {x y : CP} (hx : RefF a x.f) (hy : RefF b y.f) : RefF (.cond c a b) (condG c x y) := by
 intro E X hE hX hN kn ke kr sl ob nb post hT hF h
 show T.holds _ (match evC (view E.fl sl .nil) c with
   | .kb q => bif q then (cxBoth a).1 E ⟨view E.fl sl .nil, ⟨getO ob, nb⟩⟩ else (cxBoth b).1 E ⟨view E.fl sl .nil, ⟨getO ob, nb⟩⟩
   | _ => .fail)
 unfold condG at h
 rw [evG_eq, brE_eq] at h
 split at h
 · rename_i q hq
   simp only [hq]
   rw [BR_eq] at h
   cases q with
   | true => exact hx E X hE hX hN _ _ _ sl ob nb post hT hF h
   | false => exact hy E X hE hX hN _ _ _ sl ob nb post hT hF h
 · exact h.elim
theorem blockG_ref {id : Nat} {c : Code} {x : CP} (hx : RefF c x.f) : RefF (.block id c) (fun P X fl N fu kn ke kr => x.f P X fl N fu kn (fun k sl ob nb => BR (Nat.beq k id) (kn sl ob nb) (ke k sl ob nb)) kr) := by
 intro E X hE hX hN kn ke kr sl ob nb post hT hF h
 show T.holds _ (((cxBoth c).1 E ⟨view E.fl sl .nil, ⟨getO ob, nb⟩⟩).bind fun x => match x.1 with
   | .exit k => bif Nat.beq k id then .ret (.normal, x.2) else .ret (.exit k, x.2)
   | e => .ret (e, x.2))
 rw [T.holds_bind]
 refine T.holds_mono (fun z hz => ?_) _ (hx E X hE hX hN _ _ _ sl ob nb post hT hF h)
 obtain ⟨sl', ob', e, hh⟩ := hz
 obtain ⟨ex, σ'⟩ := z
 cases ex with
 | normal => exact ⟨sl', ob', e, hh⟩
 | exit k =>
   have hh : (BR (Nat.beq k id) (kn sl' ob' σ'.h.nob) (ke k sl' ob' σ'.h.nob)).holds post := hh
   rw [BR_eq] at hh
   show T.holds _ (bif Nat.beq k id then T.ret (Ex.normal, σ') else .ret (.exit k, σ'))
   cases hk : Nat.beq k id with
   | true => rw [hk] at hh; exact ⟨sl', ob', e, hh⟩
   | false => rw [hk] at hh; exact ⟨sl', ob', e, hh⟩
 | ret => exact ⟨sl', ob', e, hh⟩
theorem loopG_ref {c : Code} {x : CP} (hx : RefF c x.f) {E : CEnv} {X : EX} (hE : E.Ok) (hX : XRef X E) (hN : E.N ≤ 16777215) : ∀ (n : Nat) (kn : KS) (ke : Nat → KS) (kr : KS) (sl : Tr SV) (ob : OB) (nb : Nat) (post : SV × HD → Prop), TopOk E.top nb → FOk ob nb →
  (loopG (x.f E.P X E.fl E.N E.fuel) n kn ke kr sl ob nb).holds post → (loopN ((cxBoth c).1 E) n ⟨view E.fl sl .nil, ⟨getO ob, nb⟩⟩).holds (KC E.fl post kn ke kr)
 | 0, _, _, _, _, _, _, _, _, _, h => h.elim
 | n + 1, kn, ke, kr, sl, ob, nb, post, hT, hF, h => by
   have h : (x.f E.P X E.fl E.N E.fuel (loopG (x.f E.P X E.fl E.N E.fuel) n kn ke kr) ke kr sl ob nb).holds post := h
   simp only [loopN, T.holds_bind]
   have h1 := T.holds_good ((cxBoth_good c).1 E hE ⟨view E.fl sl .nil, ⟨getO ob, nb⟩⟩ hF) (hx E X hE hX hN _ _ _ sl ob nb post hT hF h)
   refine T.holds_mono (fun z hz => ?_) _ h1
   obtain ⟨sl', ob', e, hh, hT', hF'⟩ := KC.facts hT hz.1 hz.2
   obtain ⟨ex, σ'⟩ := z
   cases ex with
   | normal =>
     show T.holds _ (loopN ((cxBoth c).1 E) n σ')
     rw [show σ' = _ from e]
     exact loopG_ref hx hE hX hN n kn ke kr sl' ob' _ post hT' hF' hh
   | exit k => exact ⟨sl', ob', e, hh⟩
   | ret => exact ⟨sl', ob', e, hh⟩
theorem clrG_view (fl : Nat) (sl : Tr SV) : ∀ (l : List Nat), (∀ t ∈ l, t < 16777215) → view fl (clrG fl sl l) .nil = clearT l (view fl sl .nil)
 | [], _ => by funext j; rfl
 | t :: l, h => by
   have ih := clrG_view fl sl l fun x hx => h x (by simp [hx])
   funext j
   have ihj : BS (bitC fl j) (getS (clrG fl sl l) j) .junk = (bif memN j l then SV.junk else BS (bitC fl j) (getS sl j) .junk) := congrFun ih j
   show BS (bitC fl j) (getS (BTS (bitC fl t) (setS (clrG fl sl l) t .junk) (clrG fl sl l)) j) .junk = (bif (bif Nat.beq t j then true else memN j l) then SV.junk else BS (bitC fl j) (getS sl j) .junk)
   by_cases e : j = t
   · subst e
     rw [Nat.beq_refl]
     cases hb : bitC fl j with
     | false => rfl
     | true =>
       show getS (setS (clrG fl sl l) j .junk) j = SV.junk
       rw [getS_set j (h j (by simp)), if_pos rfl]
   · rw [beq_f (fun h => e h.symm), cond_false, ← ihj]
     cases hb : bitC fl t with
     | false => rfl
     | true =>
       show BS (bitC fl j) (getS (setS (clrG fl sl l) t .junk) j) .junk = _
       rw [getS_set j (h t (by simp)), if_neg e]
theorem keysG_succ (f : Nat → R → R) (u : R) (n : Nat) : keysG f u (n + 1) = f n (keysG f u n) := rfl
theorem mapG_ref {c : Code} {x : CP} (hx : RefG c x.g) (t : Tmp) (d : Option Tmp) {E : CEnv} {X : EX} (hE : E.Ok) (hX : XRef X E) (hN : E.N ≤ 16777215)
  (kn : KS) (ke : Nat → KS) (kr : KS) (sl : Tr SV) (ob : OB) (nb : Nat) (post : SV × HD → Prop) (hT : TopOk E.top nb) (hF : FOk ob nb)
  (h : (mapG c x.g t d E.P X E.fl E.N E.fuel kn ke kr sl ob nb).holds post) : (mapLoop c (cxBoth c).2 E ⟨view E.fl sl .nil, ⟨getO ob, nb⟩⟩ t d).holds (KC E.fl post kn ke kr) := by
 unfold mapG at h
 obtain ⟨hlt0, h⟩ := BR_if h
 have hlt : ∀ t ∈ dstsC c, t < 16777215 := fun t ht => by
  have := List.all_eq_true.1 hlt0 t ht
  simpa [Nat.blt_eq] using this
 unfold mapLoop
 split at h
 · rename_i q hq
   simp only [hq]
   split at h
   · rename_i m n cur hqo
     simp only [hqo]
     split at h
     · rename_i kt vt l hmo
       simp only [hmo]
       obtain ⟨hb, h⟩ := BR_if h
       rw [hX.base, hX.top] at hb
       rw [show (Nat.beq n l.length && (Nat.ble E.base q && (Nat.ble E.base nb && (Nat.blt q nb && (Nat.blt q E.top && (dstN E.N d && !memN t (dstsC c))))))) = true from hb, cond_true]
       simp only [Bool.and_eq_true, Nat.blt_eq] at hb
       have hqn : q < nb := hb.2.2.2.1
       have hdd : dstN E.N d = true := hb.2.2.2.2.2.1
       have hq16 : q < 16777215 := by have := hT.1; have := hT.2; omega
       have st : ∀ (o : Option Ob), (upd (getO ob) q o) = getO (setO ob q o) := fun o => by
        funext j
        rw [getO_set j hq16]
        by_cases e : j = q
        · subst e; rw [upd_same, if_pos rfl]
        · rw [upd_other _ _ e, if_neg e]
       have hF' : ∀ (o : Option Ob), FOk (setO ob q o) nb := fun o i hi => by
        rw [getO_set i hq16, if_neg (by omega)]
        exact hF i hi
       have put : ∀ (E' : CEnv) (ih : IH) (s : SV) (o : Option Ob) (k : KS), (putG E.fl d ih (clrG E.fl sl (dstsC c)) .nil s (setO ob q o) nb k).holds post →
         ∃ sl' lo', (⟨putT d s (clearT (dstsC c) (view E.fl sl .nil)), ⟨upd (getO ob) q o, nb⟩⟩ : CS) = ⟨view E.fl sl' lo', ⟨getO (setO ob q o), nb⟩⟩ ∧ (ih sl' lo' (setO ob q o) nb k).holds post := by
        intro E' ih s o k hp
        rw [st o, ← clrG_view E.fl sl (dstsC c) hlt]
        cases d with
        | none => exact ⟨_, _, rfl, hp⟩
        | some d =>
          have hd2 : d < 16777215 := Nat.lt_of_lt_of_le (show d < E.N by simpa [dstN, Nat.blt_eq] using hdd) hN
          have hp : (frcS s fun s => BR (bitC E.fl d) (ih (setS (clrG E.fl sl (dstsC c)) d s) .nil (setO ob q o) nb k) (ih (clrG E.fl sl (dstsC c)) (.cons d s .nil) (setO ob q o) nb k)).holds post := hp
          rw [frcS_eq, BR_eq] at hp
          obtain ⟨h1, h2⟩ := pickD_view (fl := E.fl) (sl := clrG E.fl sl (dstsC c)) (lo := .nil) (s := s) hd2
          cases hbb : bitC E.fl d with
          | true => rw [hbb] at hp; exact ⟨_, _, by rw [← h1 hbb], hp⟩
          | false => rw [hbb] at hp; exact ⟨_, _, by rw [← h2 hbb], hp⟩
       have hend : ∀ r : R, r.holds post → r = (putG E.fl d (fun sl lo ob nb kn => x.g E.P X E.fl E.N E.fuel lo kn ke kr sl ob nb) (clrG E.fl sl (dstsC c)) .nil (.tup [.kb false]) (setO ob q (some (.itx m n none))) nb (fun _ _ _ => .fail)) →
         T.holds (KC E.fl post kn ke kr) (((cxBoth c).2 E ⟨putT d (.tup [.kb false]) (clearT (dstsC c) (view E.fl sl .nil)), ⟨upd (getO ob) q (some (.itx m n none)), nb⟩⟩).bind fun x => match x.1 with
          | .normal => .fail
          | e => .ret (e, x.2)) := by
        rintro r hr rfl
        obtain ⟨sl', lo', e, hh⟩ := put E _ _ _ _ hr
        rw [e, T.holds_bind]
        refine T.holds_mono (fun z hz => ?_) _ (hx E X hE hX hN _ _ _ sl' lo' _ nb post hT (hF' _) hh)
        obtain ⟨sl2, ob2, e2, hh2⟩ := hz
        obtain ⟨ex, σ'⟩ := z
        cases ex with
        | normal => exact hh2.elim
        | exit k => exact ⟨sl2, ob2, e2, hh2⟩
        | ret => exact ⟨sl2, ob2, e2, hh2⟩
       have hXb : XRef ⟨X.I, X.top, nb, X.W⟩ { E with base := nb } := ⟨hX.I, hX.top, rfl, hX.W, hX.K⟩
       have rounds : ∀ j : Nat, (keysG (fun k r => putG E.fl d (fun sl lo ob nb' kn => x.g E.P ⟨X.I, X.top, nb, X.W⟩ E.fl E.N E.fuel lo kn (fun _ _ _ _ => .fail) (fun _ _ _ => .fail) sl ob nb') (clrG E.fl sl (dstsC c)) .nil
          (.tup [.kb true, valSV kt (entAt kt vt l k).1, valSV vt (entAt kt vt l k).2]) (setO ob q (some (.itx m n (some k)))) nb (fun _ _ _ => r))
         (putG E.fl d (fun sl lo ob nb kn => x.g E.P X E.fl E.N E.fuel lo kn ke kr sl ob nb) (clrG E.fl sl (dstsC c)) .nil (.tup [.kb false]) (setO ob q (some (.itx m n none))) nb (fun _ _ _ => .fail)) j).holds post →
         T.holds (KC E.fl post kn ke kr) (keysT ((cxBoth c).2 { E with base := nb }) (fun k => ⟨putT d (.tup [.kb true, valSV kt (entAt kt vt l k).1, valSV vt (entAt kt vt l k).2]) (clearT (dstsC c) (view E.fl sl .nil)), ⟨upd (getO ob) q (some (.itx m n (some k))), nb⟩⟩)
          (((cxBoth c).2 E ⟨putT d (.tup [.kb false]) (clearT (dstsC c) (view E.fl sl .nil)), ⟨upd (getO ob) q (some (.itx m n none)), nb⟩⟩).bind fun x => match x.1 with
            | .normal => .fail
            | e => .ret (e, x.2)) j) := by
        intro j
        induction j with
        | zero => intro hh; exact hend _ hh rfl
        | succ j ihj =>
          intro hh
          rw [keysG_succ] at hh
          obtain ⟨sl', lo', e, hh⟩ := put E _ _ _ _ hh
          simp only [keysT, T.holds_bind]
          rw [e]
          refine T.holds_mono (fun z hz => ?_) _ (hx { E with base := nb } _ (hE.withBase _) hXb hN _ _ _ sl' lo' _ nb post hT (hF' _) hh)
          obtain ⟨sl2, ob2, e2, hh2⟩ := hz
          obtain ⟨ex, σ'⟩ := z
          cases ex with
          | normal => exact ihj hh2
          | exit k => exact hh2.elim
          | ret => exact hh2.elim
       exact rounds n h
     · exact h.elim
   · exact h.elim
 · exact h.elim
theorem loopC_ref {c : Code} {x : CP} (hx : RefF c x.f) (hg : RefG c x.g) : RefF (.loop c) (loopC c x) := by
 intro E X hE hX hN kn ke kr sl ob nb post hT hF h
 show T.holds _ (match headOf c with
   | some (t, d) => mapLoop c (cxBoth c).2 E ⟨view E.fl sl .nil, ⟨getO ob, nb⟩⟩ t d
   | none => loopN ((cxBoth c).1 E) E.fuel ⟨view E.fl sl .nil, ⟨getO ob, nb⟩⟩)
 unfold loopC at h
 cases hh : headOf c with
 | none =>
   simp only [hh] at h ⊢
   exact loopG_ref hx hE hX hN _ kn ke kr sl ob nb post hT hF h
 | some y =>
   obtain ⟨t, d⟩ := y
   simp only [hh] at h ⊢
   exact mapG_ref hg t d hE hX hN kn ke kr sl ob nb post hT hF h
theorem cg_ref : ∀ c : Code, RefF c (cg c).f ∧ RefG c (cg c).g := by
 intro c
 induction c with
 | skip => exact ⟨fun E X hE hX hN kn ke kr sl ob nb post hT hF h => ⟨sl, ob, rfl, h⟩, refG_no _⟩
 | region rid ops dr => exact ⟨regionG_ref rid ops dr, refG_no _⟩
 | seq a b iha ihb => exact ⟨seqG_ref iha.1 ihb.1, tailG_ref ihb.1⟩
 | cond c a b iha ihb => exact ⟨condG_ref iha.1 ihb.1, refG_no _⟩
 | block id c ih => exact ⟨blockG_ref ih.1, refG_no _⟩
 | loop c ih => exact ⟨loopC_ref ih.1 ih.2, refG_no _⟩
 | exit id => exact ⟨fun E X hE hX hN kn ke kr sl ob nb post hT hF h => ⟨sl, ob, rfl, h⟩, refG_no _⟩
 | ret => exact ⟨fun E X hE hX hN kn ke kr sl ob nb post hT hF h => ⟨sl, ob, rfl, h⟩, refG_no _⟩
 | _ => exact ⟨refF_no _, refG_no _⟩
theorem finG1_ref {P : Program} {fl : Nat} {sl : Tr SV} {ob : OB} {nb : Nat} {r : ResultVar} {k : SV → R} {post : SV × HD → Prop} (h : (finG1 P fl sl ob r k).holds post) : (finC1 P ⟨view fl sl .nil, ⟨getO ob, nb⟩⟩ r).holds fun s => (k s).holds post := by
 cases r with
 | tmp t => exact h
 | cell a t =>
   have h : (bindR (loadV P (getO ob) t (view fl sl .nil a)) fun s => k (nK s)).holds post := h
   rw [bindR_eq _ (loadV_det _ _ _ _), T.holds_bind] at h
   show T.holds _ ((loadV P (getO ob) t (view fl sl .nil a)).bind fun s => .ret (nK s))
   rw [T.holds_bind]
   exact h
theorem finGL_ref {P : Program} {fl : Nat} {sl : Tr SV} {ob : OB} {nb : Nat} {post : SV × HD → Prop} : ∀ {l : List ResultVar} {k : List SV → R}, (finGL P fl sl ob l k).holds post → (finCL P ⟨view fl sl .nil, ⟨getO ob, nb⟩⟩ l).holds fun s => (k s).holds post
 | [], k, h => h
 | r :: l, k, h => by
   have h1 := finG1_ref (nb := nb) (show (finG1 P fl sl ob r fun s => finGL P fl sl ob l fun l => k (s :: l)).holds post from h)
   simp only [finCL, T.holds_bind]
   refine T.holds_mono (fun s hs => ?_) _ h1
   exact T.holds_mono (fun l hl => hl) _ (finGL_ref (nb := nb) hs)
theorem finG_ref {P : Program} {fl : Nat} {fn : Func} {sl : Tr SV} {ob : OB} {nb : Nat} {k : SV → R} {post : SV × HD → Prop} (h : (finG P fl fn sl ob k).holds post) : (finC P fn ⟨view fl sl .nil, ⟨getO ob, nb⟩⟩).holds fun s => (k s).holds post := by
 unfold finC
 rw [T.holds_bind]
 refine T.holds_mono (fun l hl => ?_) _ (finGL_ref (nb := nb) h)
 match l, hl with
 | [s], hl => exact hl
 | [], hl => exact hl
 | _ :: _ :: _, hl => exact hl
theorem mkSlG_get : ∀ (l : List SV) (i : Nat) (t : Tr SV) (j : Nat), i + l.length ≤ 16777215 → getS (mkSlG l i t) j = if i ≤ j ∧ j < i + l.length then l.getD (j - i) .junk else getS t j
 | [], i, t, j, _ => by
   rw [if_neg (by simp only [List.length_nil]; omega)]
   rfl
 | s :: l, i, t, j, h => by
   simp only [List.length_cons] at h ⊢
   show getS (mkSlG l (i + 1) (setS t i s)) j = _
   rw [mkSlG_get l (i + 1) _ j (by omega), getS_set j (by omega)]
   by_cases e : j = i
   · subst e
     rw [if_neg (by omega), if_pos rfl, if_pos (by omega)]
     simp
   · by_cases h1 : i + 1 ≤ j ∧ j < i + 1 + l.length
     · rw [if_pos h1, if_pos (by omega)]
       have : j - i = (j - (i + 1)) + 1 := by omega
       rw [this]
       simp
     · rw [if_neg h1, if_neg e, if_neg (by omega)]
theorem bodyG_ref {D : Deps} (hD : D.Ok) {n : Nat} {I : II} (hI : IRef I (runI D n)) {top base : Nat} {f : FuncId} {al : List SV} {ob : OB} {nb : Nat} {k : KK} {post : SV × HD → Prop} (hF : FOk ob nb) (hT : TopOk top nb) (hn : D.F f = none)
  (h : (bodyG D.P D.fl D.win D.fuel n I top base f al ob nb k).holds post) : (runI D (n + 1) top base f al ⟨getO ob, nb⟩).holds (KP post k) := by
 unfold bodyG at h
 simp only [runI, hn]
 split at h
 · rename_i fn hf
   simp only [hf]
   split at h
   · rename_i c hb
     simp only [hb]
     obtain ⟨hc, h⟩ := BR_if h
     simp only [Bool.and_eq_true] at hc
     obtain ⟨c1, c2, c3⟩ := hc
     rw [show (callable D.P f && Nat.ble al.length fn.ntmps) = true by rw [c1, c2]; rfl, cond_true, T.holds_bind]
     have c2 := Nat.le_of_ble_eq_true c2
     have c3 := Nat.le_of_ble_eq_true c3
     let E : CEnv := ⟨D.P, fn.ntmps, fun _ _ => none, runI D n, top, base, D.win f n, D.fuel, D.fl f⟩
     have hE : E.Ok := ⟨fun rid i s hs => (by cases hs), fun top base f al h => (runI_ok hD n top base f al h).1, fun top base f al h hh => (runI_ok hD n top base f al h).2⟩
     have hX : XRef ⟨I, top, base, D.win f n⟩ E := ⟨hI, rfl, rfl, rfl, fun _ _ => rfl⟩
     have e0 : clrC (D.fl f) ⟨fun j => al.getD j .junk, (⟨getO ob, nb⟩ : HS).cut⟩ = ⟨view E.fl (mkSlG al 0 .nil) .nil, ⟨getO ob, nb⟩⟩ := by
        unfold clrC
        congr 1
        · funext j
          show (bif bitC (D.fl f) j then al.getD j .junk else .junk) = BS (bitC (D.fl f) j) (getS (mkSlG al 0 .nil) j) .junk
          rw [mkSlG_get al 0 .nil j (by omega)]
          cases bitC (D.fl f) j with
          | false => rfl
          | true =>
            show al.getD j .junk = if 0 ≤ j ∧ j < 0 + al.length then al.getD (j - 0) .junk else getS .nil j
            by_cases hj : j < al.length
            · rw [if_pos (by omega)]; rfl
            · rw [if_neg (by omega)]
              simp [List.getD, List.getElem?_eq_none (by omega : al.length ≤ j)]
              rfl
        · show (⟨fun i => bif Nat.blt i nb then getO ob i else none, nb⟩ : HS) = ⟨getO ob, nb⟩
          congr 1
          funext i
          cases hb : Nat.blt i nb with
          | true => rfl
          | false =>
            have : nb ≤ i := by
             rcases Nat.lt_or_ge i nb with h | h
             · rw [← Nat.blt_eq] at h; rw [h] at hb; cases hb
             · exact h
            rw [hF i this]; rfl
     rw [e0]
     have h1 := (cg_ref c).1 E ⟨I, top, base, D.win f n⟩ hE hX c3 _ _ _ (mkSlG al 0 .nil) ob nb post hT hF h
     refine T.holds_mono (fun z hz => ?_) _ h1
     obtain ⟨sl', ob', e, hh⟩ := hz
     obtain ⟨ex, σ'⟩ := z
     have fin : (finG D.P (D.fl f) fn sl' ob' fun s => k s ob' σ'.h.nob).holds post → T.holds (KP post k) ((finC D.P fn σ').bind fun s => T.ret (s, σ'.h)) := by
      intro hq
      rw [T.holds_bind]
      have eσ : σ' = ⟨view (D.fl f) sl' .nil, ⟨getO ob', σ'.h.nob⟩⟩ := e
      have h2 := finG_ref (nb := σ'.h.nob) hq
      rw [← eσ] at h2
      refine T.holds_mono (fun s hs => ?_) _ h2
      exact ⟨ob', congrArg (fun σ : CS => σ.h.obj) eσ, hs⟩
     cases ex with
     | normal => exact fin hh
     | exit id => exact hh.elim
     | ret => exact fin hh
   · exact h.elim
 · exact h.elim
theorem runG_ref {D : Deps} (hD : D.Ok) : ∀ n : Nat, IRef (runG D.P D.F D.fl D.win D.fuel n) (runI D n)
 | 0 => fun top base f al ob nb k post _ _ h => h.elim
 | n + 1 => by
   intro top base f al ob nb k post hF hT h
   have h : (match D.F f with
     | some s => kRes ⟨runG D.P D.F D.fl D.win D.fuel n, top, base, D.win f n⟩ (s.run (al.map nrm) (getO ob) nb f) ob nb k
     | none => bodyG D.P D.fl D.win D.fuel n (runG D.P D.F D.fl D.win D.fuel n) top base f al ob nb k).holds post := h
   cases hn : D.F f with
   | none =>
     rw [hn] at h
     exact bodyG_ref hD (runG_ref hD n) hF hT hn h
   | some s =>
     rw [hn] at h
     simp only [runI, hn, toldI]
     have ec : (⟨getO ob, nb⟩ : HS).cut = ⟨getO ob, nb⟩ := by
       show (⟨fun i => bif Nat.blt i nb then getO ob i else none, nb⟩ : HS) = ⟨getO ob, nb⟩
       congr 1
       funext i
       cases hb : Nat.blt i nb with
       | true => rfl
       | false =>
         have : nb ≤ i := by
          rcases Nat.lt_or_ge i nb with h | h
          · rw [← Nat.blt_eq] at h; rw [h] at hb; cases hb
          · exact h
         rw [hF i this]; rfl
     rw [ec]
     exact kRes_ref (X := ⟨runG D.P D.F D.fl D.win D.fuel n, top, base, D.win f n⟩) (E := ⟨D.P, 0, fun _ _ => none, fun _ _ _ _ _ => .fail, top, base, fun _ => 0, 0, 0⟩) rfl rfl hT h
end
end Rx
