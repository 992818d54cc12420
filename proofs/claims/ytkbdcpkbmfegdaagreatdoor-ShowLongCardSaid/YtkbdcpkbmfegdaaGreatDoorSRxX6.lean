/- Rx, part X6: code and functions, for the kernel: they do as the specification says. -/
import Derived.Test.YtkbdcpkbmfegdaaGreatDoorSRxX4
set_option linter.unusedSectionVars false
set_option linter.unusedSimpArgs false
set_option linter.unusedVariables false
namespace Rx
open Go
variable [Glob]
noncomputable section
theorem FOk.of {ob : OB} {h : HS} (hh : h.Ok) (e : h.obj = ay ob) : FOk ob h.nob := fun i hi => by rw [← e]; exact hh i hi
theorem KC.facts {E : CEnv} {fl : Nat} {post : SV × HD -> Prop} {kn : KS} {ke : Nat -> KS} {kr : KS} {σ : CS} {x : Ex × CS} (hT : dJ E.top σ.h.nob) (hg : mg E σ x) (h : KC fl post kn ke kr x) :
  ∃ sl ob, x.2 = ⟨view fl sl .nil, ⟨ay ob, x.2.h.nob⟩⟩ /\ (Xy kn ke kr x.1 sl ob x.2.h.nob).holds post /\ dJ E.top x.2.h.nob /\ FOk ob x.2.h.nob := by
 obtain ⟨sl, ob, e, hh⟩ := h
 refine ⟨sl, ob, e, hh, ⟨?_, hT.2⟩, ?_⟩
 · have := hg.2.2
   have := hT.1
   omega
 · intro i hi
   have := hg.1 i hi
   rw [e] at this
   exact this
def qP (c : Code) (f : CF) : Prop := ∀ (E : CEnv) (X : EX), E.Ok -> XRef X E -> E.N <= 16777215 -> ∀ (kn : KS) (ke : Nat -> KS) (kr : KS) (sl : Tr SV) (ob : OB) (nb : Nat) (post : SV × HD -> Prop), dJ E.top nb -> FOk ob nb ->
 (f E.P X E.fl E.N E.fuel kn ke kr sl ob nb).holds post -> ((aN c).1 E ⟨view E.fl sl .nil, ⟨ay ob, nb⟩⟩).holds (KC E.fl post kn ke kr)
def QD (c : Code) (g : Program -> EX -> Nat -> Nat -> Nat -> Lo -> CG) : Prop := ∀ (E : CEnv) (X : EX), E.Ok -> XRef X E -> E.N <= 16777215 -> ∀ (kn : KS) (ke : Nat -> KS) (kr : KS) (sl : Tr SV) (lo : Lo) (ob : OB) (nb : Nat) (post : SV × HD -> Prop), dJ E.top nb -> FOk ob nb ->
 (g E.P X E.fl E.N E.fuel lo kn ke kr sl ob nb).holds post -> ((aN c).2 E ⟨view E.fl sl lo, ⟨ay ob, nb⟩⟩).holds (KC E.fl post kn ke kr)
theorem lD (c : Code) : QD c noG := fun _ _ _ _ _ _ _ _ _ _ _ _ _ _ _ h => h.elim
theorem WO (c : Code) : qP c noC.f := fun _ _ _ _ _ _ _ _ _ _ _ _ _ _ h => h.elim
theorem Jr (rid : Nat) (ops : Array Oper) (dr : Bool) : qP (.region rid ops dr) (OJ rid ops dr) := by
 intro E X hE hX hN kn ke kr sl ob nb post hT hF h
 obtain ⟨hok, h⟩ := gU h
 rw [dh] at h
 cases dr with
 | true =>
   show T.holds _ ((mK E ops rid ⟨view E.fl sl .nil, ⟨ay ob, nb⟩⟩).bind fun σ' => .ret (Ex.normal, jm E.fl σ'))
   rw [T.ak]
   exact Py (N := E.N) (fu := E.fuel) hE hX hok hN hT hF h
 | false =>
   show T.holds _ ((kU E ops rid 0 ops.toList ⟨view E.fl sl .nil, ⟨ay ob, nb⟩⟩).bind fun σ' => .ret (Ex.normal, jm E.fl σ'))
   rw [T.ak]
   refine T.aD (fun z hz => ?_) _ (tZ hE (rid := rid) hX hok hN ops.toList 0 sl .nil ob nb (xU hok) hT hF h)
   obtain ⟨sl', lo', ob', e, hh⟩ := hz
   show KC E.fl post kn ke kr (Ex.normal, jm E.fl z)
   rw [e, sF]
   exact ⟨sl', ob', rfl, hh⟩
theorem Tw {a b : Code} {x y : CP} (hx : qP a x.f) (hy : qP b y.f) : qP (.seq a b) (fun P X fl N fu kn ke kr => x.f P X fl N fu (y.f P X fl N fu kn ke kr) ke kr) := by
 intro E X hE hX hN kn ke kr sl ob nb post hT hF h
 show T.holds _ (((aN a).1 E ⟨view E.fl sl .nil, ⟨ay ob, nb⟩⟩).bind fun x => match x.1 with
   | .normal => (aN b).1 E x.2
   | e => .ret (e, x.2))
 rw [T.ak]
 have h1 := T.aV ((dA a).1 E hE ⟨view E.fl sl .nil, ⟨ay ob, nb⟩⟩ hF) (hx E X hE hX hN _ _ _ sl ob nb post hT hF h)
 refine T.aD (fun z hz => ?_) _ h1
 obtain ⟨sl', ob', e, hh, hT', hF'⟩ := KC.facts hT hz.1 hz.2
 obtain ⟨ex, σ'⟩ := z
 cases ex with
 | normal =>
   show T.holds _ ((aN b).1 E σ')
   rw [show σ' = _ from e]
   exact hy E X hE hX hN _ _ _ sl' ob' _ post hT' hF' hh
 | exit k => exact ⟨sl', ob', e, hh⟩
 | ret => exact ⟨sl', ob', e, hh⟩
theorem Qs {a b : Code} {y : CP} (hy : qP b y.f) : QD (.seq a b) (fun P X fl N fu lo kn ke kr => O4 a P X fl N fu lo (y.f P X fl N fu kn ke kr) ke kr) := by
 intro E X hE hX hN kn ke kr sl lo ob nb post hT hF h
 show T.holds _ ((nk E a ⟨view E.fl sl lo, ⟨ay ob, nb⟩⟩).bind fun σ' => (aN b).1 E (jm E.fl σ'))
 have h : (O4 a E.P X E.fl E.N E.fuel lo (y.f E.P X E.fl E.N E.fuel kn ke kr) ke kr sl ob nb).holds post := h
 cases a with
 | region rid ops dr =>
   cases dr with
   | true => exact h.elim
   | false =>
     unfold O4 at h
     unfold nk
     cases hl : ops.toList with
     | nil => simp only [hl] at h; exact h.elim
     | cons o l =>
       simp only [hl] at h ⊢
       obtain ⟨hok, h⟩ := gU h
       have hd : ∀ q ∈ l, fT E.N q.dst = true := fun q hq => xU hok q (by rw [hl]; simp [hq])
       have h1 := T.aV (iM hE (ops := ops) (rid := rid) l 1 ⟨view E.fl sl lo, ⟨ay ob, nb⟩⟩ hF) (tZ hE (rid := rid) hX hok hN l 1 sl lo ob nb hd hT hF h)
       rw [T.ak]
       refine T.aD (fun z hz => ?_) _ h1
       obtain ⟨⟨g1, g2, g3⟩, sl', lo', ob', e, hh⟩ := hz
       have eh : z.h = ⟨ay ob', z.h.nob⟩ := congrArg CS.h e
       have hT' : dJ E.top z.h.nob := ⟨by
        have g3 : z.h.nob <= max E.top nb := g3
        have := hT.1
        omega, hT.2⟩
       have hF' : FOk ob' z.h.nob := fun i hi => by
        have := g1 i hi
        rw [eh] at this
        exact this
       rw [e, sF]
       exact hy E X hE hX hN _ _ _ sl' ob' _ post hT' hF' hh
 | _ => exact h.elim
theorem Pp {c : Operand} {a b : Code} {x y : CP} (hx : qP a x.f) (hy : qP b y.f) : qP (.cond c a b) (Q8 c x y) := by
 intro E X hE hX hN kn ke kr sl ob nb post hT hF h
 show T.holds _ (match evC (view E.fl sl .nil) c with
   | .kb q => bif q then (aN a).1 E ⟨view E.fl sl .nil, ⟨ay ob, nb⟩⟩ else (aN b).1 E ⟨view E.fl sl .nil, ⟨ay ob, nb⟩⟩
   | _ => .fail)
 unfold Q8 at h
 rw [Km, Yo] at h
 split at h
 · rename_i q hq
   simp only [hq]
   rw [dh] at h
   cases q with
   | true => exact hx E X hE hX hN _ _ _ sl ob nb post hT hF h
   | false => exact hy E X hE hX hN _ _ _ sl ob nb post hT hF h
 · exact h.elim
theorem J9 {id : Nat} {c : Code} {x : CP} (hx : qP c x.f) : qP (.block id c) (fun P X fl N fu kn ke kr => x.f P X fl N fu kn (fun k sl ob nb => BR (Nat.beq k id) (kn sl ob nb) (ke k sl ob nb)) kr) := by
 intro E X hE hX hN kn ke kr sl ob nb post hT hF h
 show T.holds _ (((aN c).1 E ⟨view E.fl sl .nil, ⟨ay ob, nb⟩⟩).bind fun x => match x.1 with
   | .exit k => bif Nat.beq k id then .ret (.normal, x.2) else .ret (.exit k, x.2)
   | e => .ret (e, x.2))
 rw [T.ak]
 refine T.aD (fun z hz => ?_) _ (hx E X hE hX hN _ _ _ sl ob nb post hT hF h)
 obtain ⟨sl', ob', e, hh⟩ := hz
 obtain ⟨ex, σ'⟩ := z
 cases ex with
 | normal => exact ⟨sl', ob', e, hh⟩
 | exit k =>
   have hh : (BR (Nat.beq k id) (kn sl' ob' σ'.h.nob) (ke k sl' ob' σ'.h.nob)).holds post := hh
   rw [dh] at hh
   show T.holds _ (bif Nat.beq k id then T.ret (Ex.normal, σ') else .ret (.exit k, σ'))
   cases hk : Nat.beq k id with
   | true => rw [hk] at hh; exact ⟨sl', ob', e, hh⟩
   | false => rw [hk] at hh; exact ⟨sl', ob', e, hh⟩
 | ret => exact ⟨sl', ob', e, hh⟩
theorem Dw {c : Code} {x : CP} (hx : qP c x.f) {E : CEnv} {X : EX} (hE : E.Ok) (hX : XRef X E) (hN : E.N <= 16777215) : ∀ (n : Nat) (kn : KS) (ke : Nat -> KS) (kr : KS) (sl : Tr SV) (ob : OB) (nb : Nat) (post : SV × HD -> Prop), dJ E.top nb -> FOk ob nb ->
  (Sk (x.f E.P X E.fl E.N E.fuel) n kn ke kr sl ob nb).holds post -> (nP ((aN c).1 E) n ⟨view E.fl sl .nil, ⟨ay ob, nb⟩⟩).holds (KC E.fl post kn ke kr)
 | 0, _, _, _, _, _, _, _, _, _, h => h.elim
 | n + 1, kn, ke, kr, sl, ob, nb, post, hT, hF, h => by
   have h : (x.f E.P X E.fl E.N E.fuel (Sk (x.f E.P X E.fl E.N E.fuel) n kn ke kr) ke kr sl ob nb).holds post := h
   simp only [nP, T.ak]
   have h1 := T.aV ((dA c).1 E hE ⟨view E.fl sl .nil, ⟨ay ob, nb⟩⟩ hF) (hx E X hE hX hN _ _ _ sl ob nb post hT hF h)
   refine T.aD (fun z hz => ?_) _ h1
   obtain ⟨sl', ob', e, hh, hT', hF'⟩ := KC.facts hT hz.1 hz.2
   obtain ⟨ex, σ'⟩ := z
   cases ex with
   | normal =>
     show T.holds _ (nP ((aN c).1 E) n σ')
     rw [show σ' = _ from e]
     exact Dw hx hE hX hN n kn ke kr sl' ob' _ post hT' hF' hh
   | exit k => exact ⟨sl', ob', e, hh⟩
   | ret => exact ⟨sl', ob', e, hh⟩
theorem CX (fl : Nat) (sl : Tr SV) : ∀ (l : List Nat), (∀ t ∈ l, t < 16777215) -> view fl (rF fl sl l) .nil = oq l (view fl sl .nil)
 | [], _ => by funext j; rfl
 | t :: l, h => by
   have ih := CX fl sl l fun x hx => h x (by simp [hx])
   funext j
   have ihj : BS (fQ fl j) (gX (rF fl sl l) j) .junk = (bif jk j l then SV.junk else BS (fQ fl j) (gX sl j) .junk) := congrFun ih j
   show BS (fQ fl j) (gX (BTS (fQ fl t) (uq (rF fl sl l) t .junk) (rF fl sl l)) j) .junk = (bif (bif Nat.beq t j then true else jk j l) then SV.junk else BS (fQ fl j) (gX sl j) .junk)
   by_cases e : j = t
   · subst e
     rw [Nat.beq_refl]
     cases hb : fQ fl j with
     | false => rfl
     | true =>
       show gX (uq (rF fl sl l) j .junk) j = SV.junk
       rw [tC j (h j (by simp)), if_pos rfl]
   · rw [eU (fun h => e h.symm), cond_false, ← ihj]
     cases hb : fQ fl t with
     | false => rfl
     | true =>
       show BS (fQ fl j) (gX (uq (rF fl sl l) t .junk) j) .junk = _
       rw [tC j (h t (by simp)), if_neg e]
theorem KO (f : Nat -> R -> R) (u : R) (n : Nat) : Om f u (n + 1) = f n (Om f u n) := rfl
theorem Sl {c : Code} {x : CP} (hx : QD c x.g) (t : Tmp) (d : Option Tmp) {E : CEnv} {X : EX} (hE : E.Ok) (hX : XRef X E) (hN : E.N <= 16777215)
  (kn : KS) (ke : Nat -> KS) (kr : KS) (sl : Tr SV) (ob : OB) (nb : Nat) (post : SV × HD -> Prop) (hT : dJ E.top nb) (hF : FOk ob nb)
  (h : (aae c x.g t d E.P X E.fl E.N E.fuel kn ke kr sl ob nb).holds post) : (iY c (aN c).2 E ⟨view E.fl sl .nil, ⟨ay ob, nb⟩⟩ t d).holds (KC E.fl post kn ke kr) := by
 unfold aae at h
 obtain ⟨hlt0, h⟩ := gU h
 have hlt : ∀ t ∈ bF c, t < 16777215 := fun t ht => by
  have := List.all_eq_true.1 hlt0 t ht
  simpa [Nat.blt_eq] using this
 unfold iY
 split at h
 · rename_i q hq
   simp only [hq]
   split at h
   · rename_i m n cur hqo
     simp only [hqo]
     split at h
     · rename_i kt vt l hmo
       simp only [hmo]
       obtain ⟨hb, h⟩ := gU h
       rw [hX.base, hX.top] at hb
       rw [show (Nat.beq n l.length && (Nat.ble E.base q && (Nat.ble E.base nb && (Nat.blt q nb && (Nat.blt q E.top && (fT E.N d && !jk t (bF c))))))) = true from hb, cond_true]
       simp only [Bool.and_eq_true, Nat.blt_eq] at hb
       have hqn : q < nb := hb.2.2.2.1
       have hdd : fT E.N d = true := hb.2.2.2.2.2.1
       have hq16 : q < 16777215 := by have := hT.1; have := hT.2; omega
       have st : ∀ (o : Option Ob), (upd (ay ob) q o) = ay (lX ob q o) := fun o => by
        funext j
        rw [oM j hq16]
        by_cases e : j = q
        · subst e; rw [upd_same, if_pos rfl]
        · rw [bE _ _ e, if_neg e]
       have hF' : ∀ (o : Option Ob), FOk (lX ob q o) nb := fun o i hi => by
        rw [oM i hq16, if_neg (by omega)]
        exact hF i hi
       have put : ∀ (E' : CEnv) (ih : IH) (s : SV) (o : Option Ob) (k : KS), (Gp E.fl d ih (rF E.fl sl (bF c)) .nil s (lX ob q o) nb k).holds post ->
         ∃ sl' lo', (⟨putT d s (oq (bF c) (view E.fl sl .nil)), ⟨upd (ay ob) q o, nb⟩⟩ : CS) = ⟨view E.fl sl' lo', ⟨ay (lX ob q o), nb⟩⟩ /\ (ih sl' lo' (lX ob q o) nb k).holds post := by
        intro E' ih s o k hp
        rw [st o, ← CX E.fl sl (bF c) hlt]
        cases d with
        | none => exact ⟨_, _, rfl, hp⟩
        | some d =>
          have hd2 : d < 16777215 := Nat.lt_of_lt_of_le (show d < E.N by simpa [fT, Nat.blt_eq] using hdd) hN
          have hp : (PE s fun s => BR (fQ E.fl d) (ih (uq (rF E.fl sl (bF c)) d s) .nil (lX ob q o) nb k) (ih (rF E.fl sl (bF c)) (.cons d s .nil) (lX ob q o) nb k)).holds post := hp
          rw [Oh, dh] at hp
          obtain ⟨h1, h2⟩ := A8 (fl := E.fl) (sl := rF E.fl sl (bF c)) (lo := .nil) (s := s) hd2
          cases hbb : fQ E.fl d with
          | true => rw [hbb] at hp; exact ⟨_, _, by rw [← h1 hbb], hp⟩
          | false => rw [hbb] at hp; exact ⟨_, _, by rw [← h2 hbb], hp⟩
       have hend : ∀ r : R, r.holds post -> r = (Gp E.fl d (fun sl lo ob nb kn => x.g E.P X E.fl E.N E.fuel lo kn ke kr sl ob nb) (rF E.fl sl (bF c)) .nil (.tup [.kb false]) (lX ob q (some (.itx m n none))) nb (fun _ _ _ => .fail)) ->
         T.holds (KC E.fl post kn ke kr) (((aN c).2 E ⟨putT d (.tup [.kb false]) (oq (bF c) (view E.fl sl .nil)), ⟨upd (ay ob) q (some (.itx m n none)), nb⟩⟩).bind fun x => match x.1 with
          | .normal => .fail
          | e => .ret (e, x.2)) := by
        rintro r hr rfl
        obtain ⟨sl', lo', e, hh⟩ := put E _ _ _ _ hr
        rw [e, T.ak]
        refine T.aD (fun z hz => ?_) _ (hx E X hE hX hN _ _ _ sl' lo' _ nb post hT (hF' _) hh)
        obtain ⟨sl2, ob2, e2, hh2⟩ := hz
        obtain ⟨ex, σ'⟩ := z
        cases ex with
        | normal => exact hh2.elim
        | exit k => exact ⟨sl2, ob2, e2, hh2⟩
        | ret => exact ⟨sl2, ob2, e2, hh2⟩
       have hXb : XRef ⟨X.I, X.top, nb, X.W⟩ { E with base := nb } := ⟨hX.I, hX.top, rfl, hX.W, hX.K⟩
       have rounds : ∀ j : Nat, (Om (fun k r => Gp E.fl d (fun sl lo ob nb' kn => x.g E.P ⟨X.I, X.top, nb, X.W⟩ E.fl E.N E.fuel lo kn (fun _ _ _ _ => .fail) (fun _ _ _ => .fail) sl ob nb') (rF E.fl sl (bF c)) .nil
          (.tup [.kb true, gI kt (bS kt vt l k).1, gI vt (bS kt vt l k).2]) (lX ob q (some (.itx m n (some k)))) nb (fun _ _ _ => r))
         (Gp E.fl d (fun sl lo ob nb kn => x.g E.P X E.fl E.N E.fuel lo kn ke kr sl ob nb) (rF E.fl sl (bF c)) .nil (.tup [.kb false]) (lX ob q (some (.itx m n none))) nb (fun _ _ _ => .fail)) j).holds post ->
         T.holds (KC E.fl post kn ke kr) (wB ((aN c).2 { E with base := nb }) (fun k => ⟨putT d (.tup [.kb true, gI kt (bS kt vt l k).1, gI vt (bS kt vt l k).2]) (oq (bF c) (view E.fl sl .nil)), ⟨upd (ay ob) q (some (.itx m n (some k))), nb⟩⟩)
          (((aN c).2 E ⟨putT d (.tup [.kb false]) (oq (bF c) (view E.fl sl .nil)), ⟨upd (ay ob) q (some (.itx m n none)), nb⟩⟩).bind fun x => match x.1 with
            | .normal => .fail
            | e => .ret (e, x.2)) j) := by
        intro j
        induction j with
        | zero => intro hh; exact hend _ hh rfl
        | succ j ihj =>
          intro hh
          rw [KO] at hh
          obtain ⟨sl', lo', e, hh⟩ := put E _ _ _ _ hh
          simp only [wB, T.ak]
          rw [e]
          refine T.aD (fun z hz => ?_) _ (hx { E with base := nb } _ (hE.Cb _) hXb hN _ _ _ sl' lo' _ nb post hT (hF' _) hh)
          obtain ⟨sl2, ob2, e2, hh2⟩ := hz
          obtain ⟨ex, σ'⟩ := z
          cases ex with
          | normal => exact ihj hh2
          | exit k => exact hh2.elim
          | ret => exact hh2.elim
       exact rounds n h
     · exact h.elim
   · exact h.elim
 · exact h.elim
theorem P6 {c : Code} {x : CP} (hx : qP c x.f) (hg : QD c x.g) : qP (.loop c) (Sj c x) := by
 intro E X hE hX hN kn ke kr sl ob nb post hT hF h
 show T.holds _ (match oP c with
   | some (t, d) => iY c (aN c).2 E ⟨view E.fl sl .nil, ⟨ay ob, nb⟩⟩ t d
   | none => nP ((aN c).1 E) E.fuel ⟨view E.fl sl .nil, ⟨ay ob, nb⟩⟩)
 unfold Sj at h
 cases hh : oP c with
 | none =>
   simp only [hh] at h ⊢
   exact Dw hx hE hX hN _ kn ke kr sl ob nb post hT hF h
 | some y =>
   obtain ⟨t, d⟩ := y
   simp only [hh] at h ⊢
   exact Sl hg t d hE hX hN kn ke kr sl ob nb post hT hF h
theorem Ke : ∀ c : Code, qP c (cg c).f /\ QD c (cg c).g := by
 intro c
 induction c with
 | skip => exact ⟨fun E X hE hX hN kn ke kr sl ob nb post hT hF h => ⟨sl, ob, rfl, h⟩, lD _⟩
 | region rid ops dr => exact ⟨Jr rid ops dr, lD _⟩
 | seq a b iha ihb => exact ⟨Tw iha.1 ihb.1, Qs ihb.1⟩
 | cond c a b iha ihb => exact ⟨Pp iha.1 ihb.1, lD _⟩
 | block id c ih => exact ⟨J9 ih.1, lD _⟩
 | loop c ih => exact ⟨P6 ih.1 ih.2, lD _⟩
 | exit id => exact ⟨fun E X hE hX hN kn ke kr sl ob nb post hT hF h => ⟨sl, ob, rfl, h⟩, lD _⟩
 | ret => exact ⟨fun E X hE hX hN kn ke kr sl ob nb post hT hF h => ⟨sl, ob, rfl, h⟩, lD _⟩
 | _ => exact ⟨WO _, lD _⟩
theorem PD {P : Program} {fl : Nat} {sl : Tr SV} {ob : OB} {nb : Nat} {r : ResultVar} {k : SV -> R} {post : SV × HD -> Prop} (h : (Ry P fl sl ob r k).holds post) : (yT P ⟨view fl sl .nil, ⟨ay ob, nb⟩⟩ r).holds fun s => (k s).holds post := by
 cases r with
 | tmp t => exact h
 | cell a t =>
   have h : (yA (fA P (ay ob) t (view fl sl .nil a)) fun s => k (nK s)).holds post := h
   rw [nY _ (Dv _ _ _ _), T.ak] at h
   show T.holds _ ((fA P (ay ob) t (view fl sl .nil a)).bind fun s => .ret (nK s))
   rw [T.ak]
   exact h
theorem Dg {P : Program} {fl : Nat} {sl : Tr SV} {ob : OB} {nb : Nat} {post : SV × HD -> Prop} : ∀ {l : List ResultVar} {k : List SV -> R}, (Rz P fl sl ob l k).holds post -> (sU P ⟨view fl sl .nil, ⟨ay ob, nb⟩⟩ l).holds fun s => (k s).holds post
 | [], k, h => h
 | r :: l, k, h => by
   have h1 := PD (nb := nb) (show (Ry P fl sl ob r fun s => Rz P fl sl ob l fun l => k (s :: l)).holds post from h)
   simp only [sU, T.ak]
   refine T.aD (fun s hs => ?_) _ h1
   exact T.aD (fun l hl => hl) _ (Dg (nb := nb) hs)
theorem Iw {P : Program} {fl : Nat} {fn : Func} {sl : Tr SV} {ob : OB} {nb : Nat} {k : SV -> R} {post : SV × HD -> Prop} (h : (Iu P fl fn sl ob k).holds post) : (uS P fn ⟨view fl sl .nil, ⟨ay ob, nb⟩⟩).holds fun s => (k s).holds post := by
 unfold uS
 rw [T.ak]
 refine T.aD (fun l hl => ?_) _ (Dg (nb := nb) h)
 match l, hl with
 | [s], hl => exact hl
 | [], hl => exact hl
 | _ :: _ :: _, hl => exact hl
theorem vk : ∀ (l : List SV) (i : Nat) (t : Tr SV) (j : Nat), i + l.length <= 16777215 -> gX (mE l i t) j = if i <= j /\ j < i + l.length then l.getD (j - i) .junk else gX t j
 | [], i, t, j, _ => by
   rw [if_neg (by simp only [List.length_nil]; omega)]
   rfl
 | s :: l, i, t, j, h => by
   simp only [List.length_cons] at h ⊢
   show gX (mE l (i + 1) (uq t i s)) j = _
   rw [vk l (i + 1) _ j (by omega), tC j (by omega)]
   by_cases e : j = i
   · subst e
     rw [if_neg (by omega), if_pos rfl, if_pos (by omega)]
     simp
   · by_cases h1 : i + 1 <= j /\ j < i + 1 + l.length
     · rw [if_pos h1, if_pos (by omega)]
       have : j - i = (j - (i + 1)) + 1 := by omega
       rw [this]
       simp
     · rw [if_neg h1, if_neg e, if_neg (by omega)]
theorem Pk {D : Deps} (hD : D.Ok) {n : Nat} {I : II} (hI : IRef I (pR D n)) {top base : Nat} {f : FuncId} {al : List SV} {ob : OB} {nb : Nat} {k : KK} {post : SV × HD -> Prop} (hF : FOk ob nb) (hT : dJ top nb) (hn : D.F f = none)
  (h : (NJ D.P D.fl D.win D.fuel n I top base f al ob nb k).holds post) : (pR D (n + 1) top base f al ⟨ay ob, nb⟩).holds (KP post k) := by
 unfold NJ at h
 simp only [pR, hn]
 split at h
 · rename_i fn hf
   simp only [hf]
   split at h
   · rename_i c hb
     simp only [hb]
     obtain ⟨hc, h⟩ := gU h
     simp only [Bool.and_eq_true] at hc
     obtain ⟨c1, c2, c3⟩ := hc
     rw [show (callable D.P f && Nat.ble al.length fn.ntmps) = true by rw [c1, c2]; rfl, cond_true, T.ak]
     have c2 := Nat.le_of_ble_eq_true c2
     have c3 := Nat.le_of_ble_eq_true c3
     let E : CEnv := ⟨D.P, fn.ntmps, fun _ _ => none, pR D n, top, base, D.win f n, D.fuel, D.fl f⟩
     have hE : E.Ok := ⟨fun rid i s hs => (by cases hs), fun top base f al h => (gM hD n top base f al h).1, fun top base f al h hh => (gM hD n top base f al h).2⟩
     have hX : XRef ⟨I, top, base, D.win f n⟩ E := ⟨hI, rfl, rfl, rfl, fun _ _ => rfl⟩
     have e0 : jm (D.fl f) ⟨fun j => al.getD j .junk, (⟨ay ob, nb⟩ : HS).cut⟩ = ⟨view E.fl (mE al 0 .nil) .nil, ⟨ay ob, nb⟩⟩ := by
        unfold jm
        congr 1
        · funext j
          show (bif fQ (D.fl f) j then al.getD j .junk else .junk) = BS (fQ (D.fl f) j) (gX (mE al 0 .nil) j) .junk
          rw [vk al 0 .nil j (by omega)]
          cases fQ (D.fl f) j with
          | false => rfl
          | true =>
            show al.getD j .junk = if 0 <= j /\ j < 0 + al.length then al.getD (j - 0) .junk else gX .nil j
            by_cases hj : j < al.length
            · rw [if_pos (by omega)]; rfl
            · rw [if_neg (by omega)]
              simp [List.getD, List.getElem?_eq_none (by omega : al.length <= j)]
              rfl
        · show (⟨fun i => bif Nat.blt i nb then ay ob i else none, nb⟩ : HS) = ⟨ay ob, nb⟩
          congr 1
          funext i
          cases hb : Nat.blt i nb with
          | true => rfl
          | false =>
            have : nb <= i := by
             rcases Nat.lt_or_ge i nb with h | h
             · rw [← Nat.blt_eq] at h; rw [h] at hb; cases hb
             · exact h
            rw [hF i this]; rfl
     rw [e0]
     have h1 := (Ke c).1 E ⟨I, top, base, D.win f n⟩ hE hX c3 _ _ _ (mE al 0 .nil) ob nb post hT hF h
     refine T.aD (fun z hz => ?_) _ h1
     obtain ⟨sl', ob', e, hh⟩ := hz
     obtain ⟨ex, σ'⟩ := z
     have fin : (Iu D.P (D.fl f) fn sl' ob' fun s => k s ob' σ'.h.nob).holds post -> T.holds (KP post k) ((uS D.P fn σ').bind fun s => T.ret (s, σ'.h)) := by
      intro hq
      rw [T.ak]
      have eσ : σ' = ⟨view (D.fl f) sl' .nil, ⟨ay ob', σ'.h.nob⟩⟩ := e
      have h2 := Iw (nb := σ'.h.nob) hq
      rw [← eσ] at h2
      refine T.aD (fun s hs => ?_) _ h2
      exact ⟨ob', congrArg (fun σ : CS => σ.h.obj) eσ, hs⟩
     cases ex with
     | normal => exact fin hh
     | exit id => exact hh.elim
     | ret => exact fin hh
   · exact h.elim
 · exact h.elim
theorem pQ {D : Deps} (hD : D.Ok) : ∀ n : Nat, IRef (Bp D.P D.F D.fl D.win D.fuel n) (pR D n)
 | 0 => fun top base f al ob nb k post _ _ h => h.elim
 | n + 1 => by
   intro top base f al ob nb k post hF hT h
   have h : (match D.F f with
     | some s => qR ⟨Bp D.P D.F D.fl D.win D.fuel n, top, base, D.win f n⟩ (s.run (al.map nrm) (ay ob) nb f) ob nb k
     | none => NJ D.P D.fl D.win D.fuel n (Bp D.P D.F D.fl D.win D.fuel n) top base f al ob nb k).holds post := h
   cases hn : D.F f with
   | none =>
     rw [hn] at h
     exact Pk hD (pQ hD n) hF hT hn h
   | some s =>
     rw [hn] at h
     simp only [pR, hn, JM]
     have ec : (⟨ay ob, nb⟩ : HS).cut = ⟨ay ob, nb⟩ := by
       show (⟨fun i => bif Nat.blt i nb then ay ob i else none, nb⟩ : HS) = ⟨ay ob, nb⟩
       congr 1
       funext i
       cases hb : Nat.blt i nb with
       | true => rfl
       | false =>
         have : nb <= i := by
          rcases Nat.lt_or_ge i nb with h | h
          · rw [← Nat.blt_eq] at h; rw [h] at hb; cases hb
          · exact h
         rw [hF i this]; rfl
     rw [ec]
     exact fq (X := ⟨Bp D.P D.F D.fl D.win D.fuel n, top, base, D.win f n⟩) (E := ⟨D.P, 0, fun _ _ => none, fun _ _ _ _ _ => .fail, top, base, fun _ => 0, 0, 0⟩) rfl rfl hT h
end
end Rx
