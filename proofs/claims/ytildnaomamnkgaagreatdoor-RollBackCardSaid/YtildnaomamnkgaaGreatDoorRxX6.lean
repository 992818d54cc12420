/- Rx, part X6: code and functions, for the kernel: they do as the specification says. -/
import Derived.Test.YtildnaomamnkgaaGreatDoorRxX5
set_option linter.unusedSectionVars false
set_option linter.unusedSimpArgs false
set_option linter.unusedVariables false
namespace Rx
open Go
variable [Glob]
noncomputable section
theorem FOk.of {ob : OB} {h : HS} (hh : h.Ok) (e : h.obj = au ob) : FOk ob h.nob := fun i hi => by rw [← e]; exact hh i hi
theorem KC.facts {E : CEnv} {fl : Nat} {post : SV × HD -> Prop} {kn : KS} {ke : Nat -> KS} {kr : KS} {σ : CS} {x : Ex × CS} (hT : dN E.top σ.h.nob) (hg : mF E σ x) (h : KC fl post kn ke kr x) :
  ∃ sl ob, x.2 = ⟨view fl sl .nil, ⟨au ob, x.2.h.nob⟩⟩ /\ (UG kn ke kr x.1 sl ob x.2.h.nob).holds post /\ dN E.top x.2.h.nob /\ FOk ob x.2.h.nob := by
 obtain ⟨sl, ob, e, hh⟩ := h
 refine ⟨sl, ob, e, hh, ⟨?_, hT.2⟩, ?_⟩
 · have := hg.2.2
   have := hT.1
   omega
 · intro i hi
   have := hg.1 i hi
   rw [e] at this
   exact this
def rE (c : Code) (f : CF) : Prop := ∀ (E : CEnv) (X : EX), E.Ok -> XRef X E -> E.N <= 16777215 -> ∀ (kn : KS) (ke : Nat -> KS) (kr : KS) (sl : Tr SV) (ob : OB) (nb : Nat) (post : SV × HD -> Prop), dN E.top nb -> FOk ob nb ->
 (f E.P X E.fl E.N E.fuel kn ke kr sl ob nb).holds post -> ((aO c).1 E ⟨view E.fl sl .nil, ⟨au ob, nb⟩⟩).holds (KC E.fl post kn ke kr)
def Qj (c : Code) (g : Program -> EX -> Nat -> Nat -> Nat -> Lo -> CG) : Prop := ∀ (E : CEnv) (X : EX), E.Ok -> XRef X E -> E.N <= 16777215 -> ∀ (kn : KS) (ke : Nat -> KS) (kr : KS) (sl : Tr SV) (lo : Lo) (ob : OB) (nb : Nat) (post : SV × HD -> Prop), dN E.top nb -> FOk ob nb ->
 (g E.P X E.fl E.N E.fuel lo kn ke kr sl ob nb).holds post -> ((aO c).2 E ⟨view E.fl sl lo, ⟨au ob, nb⟩⟩).holds (KC E.fl post kn ke kr)
theorem lF (c : Code) : Qj c noG := fun _ _ _ _ _ _ _ _ _ _ _ _ _ _ _ h => h.elim
theorem R3 (c : Code) : rE c noC.f := fun _ _ _ _ _ _ _ _ _ _ _ _ _ _ h => h.elim
theorem GY (rid : Nat) (ops : Array Oper) (dr : Bool) : rE (.region rid ops dr) (Mf rid ops dr) := by
 intro E X hE hX hN kn ke kr sl ob nb post hT hF h
 obtain ⟨hok, h⟩ := gM h
 rw [dF] at h
 cases dr with
 | true =>
   show T.holds _ ((nW E ops rid ⟨view E.fl sl .nil, ⟨au ob, nb⟩⟩).bind fun σ' => .ret (Ex.normal, jv E.fl σ'))
   rw [T.aj]
   exact N8 (N := E.N) (fu := E.fuel) hE hX hok hN hT hF h
 | false =>
   show T.holds _ ((lI E ops rid 0 ops.toList ⟨view E.fl sl .nil, ⟨au ob, nb⟩⟩).bind fun σ' => .ret (Ex.normal, jv E.fl σ'))
   rw [T.aj]
   refine T.ay (fun z hz => ?_) _ (uR hE (rid := rid) hX hok hN ops.toList 0 sl .nil ob nb (yE hok) hT hF h)
   obtain ⟨sl', lo', ob', e, hh⟩ := hz
   show KC E.fl post kn ke kr (Ex.normal, jv E.fl z)
   rw [e, uQ]
   exact ⟨sl', ob', rfl, hh⟩
theorem Qb {a b : Code} {x y : CP} (hx : rE a x.f) (hy : rE b y.f) : rE (.seq a b) (fun P X fl N fu kn ke kr => x.f P X fl N fu (y.f P X fl N fu kn ke kr) ke kr) := by
 intro E X hE hX hN kn ke kr sl ob nb post hT hF h
 show T.holds _ (((aO a).1 E ⟨view E.fl sl .nil, ⟨au ob, nb⟩⟩).bind fun x => match x.1 with
   | .normal => (aO b).1 E x.2
   | e => .ret (e, x.2))
 rw [T.aj]
 have h1 := T.aT ((cu a).1 E hE ⟨view E.fl sl .nil, ⟨au ob, nb⟩⟩ hF) (hx E X hE hX hN _ _ _ sl ob nb post hT hF h)
 refine T.ay (fun z hz => ?_) _ h1
 obtain ⟨sl', ob', e, hh, hT', hF'⟩ := KC.facts hT hz.1 hz.2
 obtain ⟨ex, σ'⟩ := z
 cases ex with
 | normal =>
   show T.holds _ ((aO b).1 E σ')
   rw [show σ' = _ from e]
   exact hy E X hE hX hN _ _ _ sl' ob' _ post hT' hF' hh
 | exit k => exact ⟨sl', ob', e, hh⟩
 | ret => exact ⟨sl', ob', e, hh⟩
theorem NM {a b : Code} {y : CP} (hy : rE b y.f) : Qj (.seq a b) (fun P X fl N fu lo kn ke kr => Ls a P X fl N fu lo (y.f P X fl N fu kn ke kr) ke kr) := by
 intro E X hE hX hN kn ke kr sl lo ob nb post hT hF h
 show T.holds _ ((mZ E a ⟨view E.fl sl lo, ⟨au ob, nb⟩⟩).bind fun σ' => (aO b).1 E (jv E.fl σ'))
 have h : (Ls a E.P X E.fl E.N E.fuel lo (y.f E.P X E.fl E.N E.fuel kn ke kr) ke kr sl ob nb).holds post := h
 cases a with
 | region rid ops dr =>
   cases dr with
   | true => exact h.elim
   | false =>
     unfold Ls at h
     unfold mZ
     cases hl : ops.toList with
     | nil => simp only [hl] at h; exact h.elim
     | cons o l =>
       simp only [hl] at h ⊢
       obtain ⟨hok, h⟩ := gM h
       have hd : ∀ q ∈ l, fT E.N q.dst = true := fun q hq => yE hok q (by rw [hl]; simp [hq])
       have h1 := T.aT (iN hE (ops := ops) (rid := rid) l 1 ⟨view E.fl sl lo, ⟨au ob, nb⟩⟩ hF) (uR hE (rid := rid) hX hok hN l 1 sl lo ob nb hd hT hF h)
       rw [T.aj]
       refine T.ay (fun z hz => ?_) _ h1
       obtain ⟨⟨g1, g2, g3⟩, sl', lo', ob', e, hh⟩ := hz
       have eh : z.h = ⟨au ob', z.h.nob⟩ := congrArg CS.h e
       have hT' : dN E.top z.h.nob := ⟨by
        have g3 : z.h.nob <= max E.top nb := g3
        have := hT.1
        omega, hT.2⟩
       have hF' : FOk ob' z.h.nob := fun i hi => by
        have := g1 i hi
        rw [eh] at this
        exact this
       rw [e, uQ]
       exact hy E X hE hX hN _ _ _ sl' ob' _ post hT' hF' hh
 | _ => exact h.elim
theorem NG {c : Operand} {a b : Code} {x y : CP} (hx : rE a x.f) (hy : rE b y.f) : rE (.cond c a b) (Pk c x y) := by
 intro E X hE hX hN kn ke kr sl ob nb post hT hF h
 show T.holds _ (match evC (view E.fl sl .nil) c with
   | .kb q => bif q then (aO a).1 E ⟨view E.fl sl .nil, ⟨au ob, nb⟩⟩ else (aO b).1 E ⟨view E.fl sl .nil, ⟨au ob, nb⟩⟩
   | _ => .fail)
 unfold Pk at h
 rw [KQ, Vo] at h
 split at h
 · rename_i q hq
   simp only [hq]
   rw [dF] at h
   cases q with
   | true => exact hx E X hE hX hN _ _ _ sl ob nb post hT hF h
   | false => exact hy E X hE hX hN _ _ _ sl ob nb post hT hF h
 · exact h.elim
theorem Km {id : Nat} {c : Code} {x : CP} (hx : rE c x.f) : rE (.block id c) (fun P X fl N fu kn ke kr => x.f P X fl N fu kn (fun k sl ob nb => BR (Nat.beq k id) (kn sl ob nb) (ke k sl ob nb)) kr) := by
 intro E X hE hX hN kn ke kr sl ob nb post hT hF h
 show T.holds _ (((aO c).1 E ⟨view E.fl sl .nil, ⟨au ob, nb⟩⟩).bind fun x => match x.1 with
   | .exit k => bif Nat.beq k id then .ret (.normal, x.2) else .ret (.exit k, x.2)
   | e => .ret (e, x.2))
 rw [T.aj]
 refine T.ay (fun z hz => ?_) _ (hx E X hE hX hN _ _ _ sl ob nb post hT hF h)
 obtain ⟨sl', ob', e, hh⟩ := hz
 obtain ⟨ex, σ'⟩ := z
 cases ex with
 | normal => exact ⟨sl', ob', e, hh⟩
 | exit k =>
   have hh : (BR (Nat.beq k id) (kn sl' ob' σ'.h.nob) (ke k sl' ob' σ'.h.nob)).holds post := hh
   rw [dF] at hh
   show T.holds _ (bif Nat.beq k id then T.ret (Ex.normal, σ') else .ret (.exit k, σ'))
   cases hk : Nat.beq k id with
   | true => rw [hk] at hh; exact ⟨sl', ob', e, hh⟩
   | false => rw [hk] at hh; exact ⟨sl', ob', e, hh⟩
 | ret => exact ⟨sl', ob', e, hh⟩
theorem Db {c : Code} {x : CP} (hx : rE c x.f) {E : CEnv} {X : EX} (hE : E.Ok) (hX : XRef X E) (hN : E.N <= 16777215) : ∀ (n : Nat) (kn : KS) (ke : Nat -> KS) (kr : KS) (sl : Tr SV) (ob : OB) (nb : Nat) (post : SV × HD -> Prop), dN E.top nb -> FOk ob nb ->
  (OH (x.f E.P X E.fl E.N E.fuel) n kn ke kr sl ob nb).holds post -> (nY ((aO c).1 E) n ⟨view E.fl sl .nil, ⟨au ob, nb⟩⟩).holds (KC E.fl post kn ke kr)
 | 0, _, _, _, _, _, _, _, _, _, h => h.elim
 | n + 1, kn, ke, kr, sl, ob, nb, post, hT, hF, h => by
   have h : (x.f E.P X E.fl E.N E.fuel (OH (x.f E.P X E.fl E.N E.fuel) n kn ke kr) ke kr sl ob nb).holds post := h
   simp only [nY, T.aj]
   have h1 := T.aT ((cu c).1 E hE ⟨view E.fl sl .nil, ⟨au ob, nb⟩⟩ hF) (hx E X hE hX hN _ _ _ sl ob nb post hT hF h)
   refine T.ay (fun z hz => ?_) _ h1
   obtain ⟨sl', ob', e, hh, hT', hF'⟩ := KC.facts hT hz.1 hz.2
   obtain ⟨ex, σ'⟩ := z
   cases ex with
   | normal =>
     show T.holds _ (nY ((aO c).1 E) n σ')
     rw [show σ' = _ from e]
     exact Db hx hE hX hN n kn ke kr sl' ob' _ post hT' hF' hh
   | exit k => exact ⟨sl', ob', e, hh⟩
   | ret => exact ⟨sl', ob', e, hh⟩
theorem DF (fl : Nat) (sl : Tr SV) : ∀ (l : List Nat), (∀ t ∈ l, t < 16777215) -> view fl (rW fl sl l) .nil = oV l (view fl sl .nil)
 | [], _ => by funext j; rfl
 | t :: l, h => by
   have ih := DF fl sl l fun x hx => h x (by simp [hx])
   funext j
   have ihj : BS (fU fl j) (gP (rW fl sl l) j) .junk = (bif jf j l then SV.junk else BS (fU fl j) (gP sl j) .junk) := congrFun ih j
   show BS (fU fl j) (gP (BTS (fU fl t) (qy (rW fl sl l) t .junk) (rW fl sl l)) j) .junk = (bif (bif Nat.beq t j then true else jf j l) then SV.junk else BS (fU fl j) (gP sl j) .junk)
   by_cases e : j = t
   · subst e
     rw [Nat.beq_refl]
     cases hb : fU fl j with
     | false => rfl
     | true =>
       show gP (qy (rW fl sl l) j .junk) j = SV.junk
       rw [uh j (h j (by simp)), if_pos rfl]
   · rw [dO (fun h => e h.symm), cond_false, ← ihj]
     cases hb : fU fl t with
     | false => rfl
     | true =>
       show BS (fU fl j) (gP (qy (rW fl sl l) t .junk) j) .junk = _
       rw [uh j (h t (by simp)), if_neg e]
theorem Kr (f : Nat -> R -> R) (u : R) (n : Nat) : Lm f u (n + 1) = f n (Lm f u n) := rfl
theorem Qe {c : Code} {x : CP} (hx : Qj c x.g) (t : Tmp) (d : Option Tmp) {E : CEnv} {X : EX} (hE : E.Ok) (hX : XRef X E) (hN : E.N <= 16777215)
  (kn : KS) (ke : Nat -> KS) (kr : KS) (sl : Tr SV) (ob : OB) (nb : Nat) (post : SV × HD -> Prop) (hT : dN E.top nb) (hF : FOk ob nb)
  (h : (Wd c x.g t d E.P X E.fl E.N E.fuel kn ke kr sl ob nb).holds post) : (iV c (aO c).2 E ⟨view E.fl sl .nil, ⟨au ob, nb⟩⟩ t d).holds (KC E.fl post kn ke kr) := by
 unfold Wd at h
 obtain ⟨hlt0, h⟩ := gM h
 have hlt : ∀ t ∈ bJ c, t < 16777215 := fun t ht => by
  have := List.all_eq_true.1 hlt0 t ht
  simpa [Nat.blt_eq] using this
 unfold iV
 split at h
 · rename_i q hq
   simp only [hq]
   split at h
   · rename_i m n cur hqo
     simp only [hqo]
     split at h
     · rename_i kt vt l hmo
       simp only [hmo]
       obtain ⟨hb, h⟩ := gM h
       rw [hX.base, hX.top] at hb
       rw [show (Nat.beq n l.length && (Nat.ble E.base q && (Nat.ble E.base nb && (Nat.blt q nb && (Nat.blt q E.top && (fT E.N d && !jf t (bJ c))))))) = true from hb, cond_true]
       simp only [Bool.and_eq_true, Nat.blt_eq] at hb
       have hqn : q < nb := hb.2.2.2.1
       have hdd : fT E.N d = true := hb.2.2.2.2.2.1
       have hq16 : q < 16777215 := by have := hT.1; have := hT.2; omega
       have st : ∀ (o : Option Ob), (upd (au ob) q o) = au (lV ob q o) := fun o => by
        funext j
        rw [oU j hq16]
        by_cases e : j = q
        · subst e; rw [upd_same, if_pos rfl]
        · rw [bG _ _ e, if_neg e]
       have hF' : ∀ (o : Option Ob), FOk (lV ob q o) nb := fun o i hi => by
        rw [oU i hq16, if_neg (by omega)]
        exact hF i hi
       have put : ∀ (E' : CEnv) (ih : IH) (s : SV) (o : Option Ob) (k : KS), (FJ E.fl d ih (rW E.fl sl (bJ c)) .nil s (lV ob q o) nb k).holds post ->
         ∃ sl' lo', (⟨putT d s (oV (bJ c) (view E.fl sl .nil)), ⟨upd (au ob) q o, nb⟩⟩ : CS) = ⟨view E.fl sl' lo', ⟨au (lV ob q o), nb⟩⟩ /\ (ih sl' lo' (lV ob q o) nb k).holds post := by
        intro E' ih s o k hp
        rw [st o, ← DF E.fl sl (bJ c) hlt]
        cases d with
        | none => exact ⟨_, _, rfl, hp⟩
        | some d =>
          have hd2 : d < 16777215 := Nat.lt_of_lt_of_le (show d < E.N by simpa [fT, Nat.blt_eq] using hdd) hN
          have hp : (NA s fun s => BR (fU E.fl d) (ih (qy (rW E.fl sl (bJ c)) d s) .nil (lV ob q o) nb k) (ih (rW E.fl sl (bJ c)) (.cons d s .nil) (lV ob q o) nb k)).holds post := hp
          rw [MK, dF] at hp
          obtain ⟨h1, h2⟩ := Bp (fl := E.fl) (sl := rW E.fl sl (bJ c)) (lo := .nil) (s := s) hd2
          cases hbb : fU E.fl d with
          | true => rw [hbb] at hp; exact ⟨_, _, by rw [← h1 hbb], hp⟩
          | false => rw [hbb] at hp; exact ⟨_, _, by rw [← h2 hbb], hp⟩
       have hend : ∀ r : R, r.holds post -> r = (FJ E.fl d (fun sl lo ob nb kn => x.g E.P X E.fl E.N E.fuel lo kn ke kr sl ob nb) (rW E.fl sl (bJ c)) .nil (.tup [.kb false]) (lV ob q (some (.itx m n none))) nb (fun _ _ _ => .fail)) ->
         T.holds (KC E.fl post kn ke kr) (((aO c).2 E ⟨putT d (.tup [.kb false]) (oV (bJ c) (view E.fl sl .nil)), ⟨upd (au ob) q (some (.itx m n none)), nb⟩⟩).bind fun x => match x.1 with
          | .normal => .fail
          | e => .ret (e, x.2)) := by
        rintro r hr rfl
        obtain ⟨sl', lo', e, hh⟩ := put E _ _ _ _ hr
        rw [e, T.aj]
        refine T.ay (fun z hz => ?_) _ (hx E X hE hX hN _ _ _ sl' lo' _ nb post hT (hF' _) hh)
        obtain ⟨sl2, ob2, e2, hh2⟩ := hz
        obtain ⟨ex, σ'⟩ := z
        cases ex with
        | normal => exact hh2.elim
        | exit k => exact ⟨sl2, ob2, e2, hh2⟩
        | ret => exact ⟨sl2, ob2, e2, hh2⟩
       have hXb : XRef ⟨X.I, X.top, nb, X.W⟩ { E with base := nb } := ⟨hX.I, hX.top, rfl, hX.W, hX.K⟩
       have rounds : ∀ j : Nat, (Lm (fun k r => FJ E.fl d (fun sl lo ob nb' kn => x.g E.P ⟨X.I, X.top, nb, X.W⟩ E.fl E.N E.fuel lo kn (fun _ _ _ _ => .fail) (fun _ _ _ => .fail) sl ob nb') (rW E.fl sl (bJ c)) .nil
          (.tup [.kb true, fZ kt (bV kt vt l k).1, fZ vt (bV kt vt l k).2]) (lV ob q (some (.itx m n (some k)))) nb (fun _ _ _ => r))
         (FJ E.fl d (fun sl lo ob nb kn => x.g E.P X E.fl E.N E.fuel lo kn ke kr sl ob nb) (rW E.fl sl (bJ c)) .nil (.tup [.kb false]) (lV ob q (some (.itx m n none))) nb (fun _ _ _ => .fail)) j).holds post ->
         T.holds (KC E.fl post kn ke kr) (xg ((aO c).2 { E with base := nb }) (fun k => ⟨putT d (.tup [.kb true, fZ kt (bV kt vt l k).1, fZ vt (bV kt vt l k).2]) (oV (bJ c) (view E.fl sl .nil)), ⟨upd (au ob) q (some (.itx m n (some k))), nb⟩⟩)
          (((aO c).2 E ⟨putT d (.tup [.kb false]) (oV (bJ c) (view E.fl sl .nil)), ⟨upd (au ob) q (some (.itx m n none)), nb⟩⟩).bind fun x => match x.1 with
            | .normal => .fail
            | e => .ret (e, x.2)) j) := by
        intro j
        induction j with
        | zero => intro hh; exact hend _ hh rfl
        | succ j ihj =>
          intro hh
          rw [Kr] at hh
          obtain ⟨sl', lo', e, hh⟩ := put E _ _ _ _ hh
          simp only [xg, T.aj]
          rw [e]
          refine T.ay (fun z hz => ?_) _ (hx { E with base := nb } _ (hE.yX _) hXb hN _ _ _ sl' lo' _ nb post hT (hF' _) hh)
          obtain ⟨sl2, ob2, e2, hh2⟩ := hz
          obtain ⟨ex, σ'⟩ := z
          cases ex with
          | normal => exact ihj hh2
          | exit k => exact hh2.elim
          | ret => exact hh2.elim
       exact rounds n h
     · exact h.elim
   · exact h.elim
 · exact h.elim
theorem N7 {c : Code} {x : CP} (hx : rE c x.f) (hg : Qj c x.g) : rE (.loop c) (Ow c x) := by
 intro E X hE hX hN kn ke kr sl ob nb post hT hF h
 show T.holds _ (match oM c with
   | some (t, d) => iV c (aO c).2 E ⟨view E.fl sl .nil, ⟨au ob, nb⟩⟩ t d
   | none => nY ((aO c).1 E) E.fuel ⟨view E.fl sl .nil, ⟨au ob, nb⟩⟩)
 unfold Ow at h
 cases hh : oM c with
 | none =>
   simp only [hh] at h ⊢
   exact Db hx hE hX hN _ kn ke kr sl ob nb post hT hF h
 | some y =>
   obtain ⟨t, d⟩ := y
   simp only [hh] at h ⊢
   exact Qe hg t d hE hX hN kn ke kr sl ob nb post hT hF h
theorem Fz : ∀ c : Code, rE c (cg c).f /\ Qj c (cg c).g := by
 intro c
 induction c with
 | skip => exact ⟨fun E X hE hX hN kn ke kr sl ob nb post hT hF h => ⟨sl, ob, rfl, h⟩, lF _⟩
 | region rid ops dr => exact ⟨GY rid ops dr, lF _⟩
 | seq a b iha ihb => exact ⟨Qb iha.1 ihb.1, NM ihb.1⟩
 | cond c a b iha ihb => exact ⟨NG iha.1 ihb.1, lF _⟩
 | block id c ih => exact ⟨Km ih.1, lF _⟩
 | loop c ih => exact ⟨N7 ih.1 ih.2, lF _⟩
 | exit id => exact ⟨fun E X hE hX hN kn ke kr sl ob nb post hT hF h => ⟨sl, ob, rfl, h⟩, lF _⟩
 | ret => exact ⟨fun E X hE hX hN kn ke kr sl ob nb post hT hF h => ⟨sl, ob, rfl, h⟩, lF _⟩
 | _ => exact ⟨R3 _, lF _⟩
theorem Oh {P : Program} {fl : Nat} {sl : Tr SV} {ob : OB} {nb : Nat} {r : ResultVar} {k : SV -> R} {post : SV × HD -> Prop} (h : (OJ P fl sl ob r k).holds post) : (Ar P ⟨view fl sl .nil, ⟨au ob, nb⟩⟩ r).holds fun s => (k s).holds post := by
 cases r with
 | tmp t => exact h
 | cell a t =>
   have h : (BG (fH P (au ob) t (view fl sl .nil a)) fun s => k (nK s)).holds post := h
   rw [pY _ (CK _ _ _ _), T.aj] at h
   show T.holds _ ((fH P (au ob) t (view fl sl .nil a)).bind fun s => .ret (nK s))
   rw [T.aj]
   exact h
theorem CY {P : Program} {fl : Nat} {sl : Tr SV} {ob : OB} {nb : Nat} {post : SV × HD -> Prop} : ∀ {l : List ResultVar} {k : List SV -> R}, (Py P fl sl ob l k).holds post -> (sU P ⟨view fl sl .nil, ⟨au ob, nb⟩⟩ l).holds fun s => (k s).holds post
 | [], k, h => h
 | r :: l, k, h => by
   have h1 := Oh (nb := nb) (show (OJ P fl sl ob r fun s => Py P fl sl ob l fun l => k (s :: l)).holds post from h)
   simp only [sU, T.aj]
   refine T.ay (fun s hs => ?_) _ h1
   exact T.ay (fun l hl => hl) _ (CY (nb := nb) hs)
theorem zC {P : Program} {fl : Nat} {fn : Func} {sl : Tr SV} {ob : OB} {nb : Nat} {k : SV -> R} {post : SV × HD -> Prop} (h : (zD P fl fn sl ob k).holds post) : (uT P fn ⟨view fl sl .nil, ⟨au ob, nb⟩⟩).holds fun s => (k s).holds post := by
 unfold uT
 rw [T.aj]
 refine T.ay (fun l hl => ?_) _ (CY (nb := nb) h)
 match l, hl with
 | [s], hl => exact hl
 | [], hl => exact hl
 | _ :: _ :: _, hl => exact hl
theorem vw : ∀ (l : List SV) (i : Nat) (t : Tr SV) (j : Nat), i + l.length <= 16777215 -> gP (lH l i t) j = if i <= j /\ j < i + l.length then l.getD (j - i) .junk else gP t j
 | [], i, t, j, _ => by
   rw [if_neg (by simp only [List.length_nil]; omega)]
   rfl
 | s :: l, i, t, j, h => by
   simp only [List.length_cons] at h ⊢
   show gP (lH l (i + 1) (qy t i s)) j = _
   rw [vw l (i + 1) _ j (by omega), uh j (by omega)]
   by_cases e : j = i
   · subst e
     rw [if_neg (by omega), if_pos rfl, if_pos (by omega)]
     simp
   · by_cases h1 : i + 1 <= j /\ j < i + 1 + l.length
     · rw [if_pos h1, if_pos (by omega)]
       have : j - i = (j - (i + 1)) + 1 := by omega
       rw [this]
       simp
     · rw [if_neg h1, if_neg e, if_neg (by omega)]
theorem Nk {D : Deps} (hD : D.Ok) {n : Nat} {I : II} (hI : IRef I (lT D n)) {top base : Nat} {f : FuncId} {al : List SV} {ob : OB} {nb : Nat} {k : KK} {post : SV × HD -> Prop} (hF : FOk ob nb) (hT : dN top nb) (hn : D.F f = none)
  (h : (K3 D.P D.fl D.win D.fuel n I top base f al ob nb k).holds post) : (lT D (n + 1) top base f al ⟨au ob, nb⟩).holds (KP post k) := by
 unfold K3 at h
 simp only [lT, hn]
 split at h
 · rename_i fn hf
   simp only [hf]
   split at h
   · rename_i c hb
     simp only [hb]
     obtain ⟨hc, h⟩ := gM h
     simp only [Bool.and_eq_true] at hc
     obtain ⟨c1, c2, c3⟩ := hc
     rw [show (callable D.P f && Nat.ble al.length fn.ntmps) = true by rw [c1, c2]; rfl, cond_true, T.aj]
     have c2 := Nat.le_of_ble_eq_true c2
     have c3 := Nat.le_of_ble_eq_true c3
     let E : CEnv := ⟨D.P, fn.ntmps, fun _ _ => none, lT D n, top, base, D.win f n, D.fuel, D.fl f⟩
     have hE : E.Ok := ⟨fun rid i s hs => (by cases hs), fun top base f al h => (cO hD n top base f al h).1, fun top base f al h hh => (cO hD n top base f al h).2⟩
     have hX : XRef ⟨I, top, base, D.win f n⟩ E := ⟨hI, rfl, rfl, rfl, fun _ _ => rfl⟩
     have e0 : jv (D.fl f) ⟨fun j => al.getD j .junk, (⟨au ob, nb⟩ : HS).cut⟩ = ⟨view E.fl (lH al 0 .nil) .nil, ⟨au ob, nb⟩⟩ := by
        unfold jv
        congr 1
        · funext j
          show (bif fU (D.fl f) j then al.getD j .junk else .junk) = BS (fU (D.fl f) j) (gP (lH al 0 .nil) j) .junk
          rw [vw al 0 .nil j (by omega)]
          cases fU (D.fl f) j with
          | false => rfl
          | true =>
            show al.getD j .junk = if 0 <= j /\ j < 0 + al.length then al.getD (j - 0) .junk else gP .nil j
            by_cases hj : j < al.length
            · rw [if_pos (by omega)]; rfl
            · rw [if_neg (by omega)]
              simp [List.getD, List.getElem?_eq_none (by omega : al.length <= j)]
              rfl
        · show (⟨fun i => bif Nat.blt i nb then au ob i else none, nb⟩ : HS) = ⟨au ob, nb⟩
          congr 1
          funext i
          cases hb : Nat.blt i nb with
          | true => rfl
          | false =>
            have : nb <= i := by
             rcases Nat.lt_or_ge i nb with h | h
             · rw [← Nat.blt_eq] at h; rw [h] at hb; cases hb
             · exact h
            rw [hF i this]; rfl
     rw [e0]
     have h1 := (Fz c).1 E ⟨I, top, base, D.win f n⟩ hE hX c3 _ _ _ (lH al 0 .nil) ob nb post hT hF h
     refine T.ay (fun z hz => ?_) _ h1
     obtain ⟨sl', ob', e, hh⟩ := hz
     obtain ⟨ex, σ'⟩ := z
     have fin : (zD D.P (D.fl f) fn sl' ob' fun s => k s ob' σ'.h.nob).holds post -> T.holds (KP post k) ((uT D.P fn σ').bind fun s => T.ret (s, σ'.h)) := by
      intro hq
      rw [T.aj]
      have eσ : σ' = ⟨view (D.fl f) sl' .nil, ⟨au ob', σ'.h.nob⟩⟩ := e
      have h2 := zC (nb := σ'.h.nob) hq
      rw [← eσ] at h2
      refine T.ay (fun s hs => ?_) _ h2
      exact ⟨ob', congrArg (fun σ : CS => σ.h.obj) eσ, hs⟩
     cases ex with
     | normal => exact fin hh
     | exit id => exact hh.elim
     | ret => exact fin hh
   · exact h.elim
 · exact h.elim
theorem ji {D : Deps} (hD : D.Ok) : ∀ n : Nat, IRef (xS D.P D.F D.fl D.win D.fuel n) (lT D n)
 | 0 => fun top base f al ob nb k post _ _ h => h.elim
 | n + 1 => by
   intro top base f al ob nb k post hF hT h
   have h : (match D.F f with
     | some s => ow ⟨xS D.P D.F D.fl D.win D.fuel n, top, base, D.win f n⟩ (s.run (al.map nrm) (au ob) nb f) ob nb k
     | none => K3 D.P D.fl D.win D.fuel n (xS D.P D.F D.fl D.win D.fuel n) top base f al ob nb k).holds post := h
   cases hn : D.F f with
   | none =>
     rw [hn] at h
     exact Nk hD (ji hD n) hF hT hn h
   | some s =>
     rw [hn] at h
     simp only [lT, hn, Jr]
     have ec : (⟨au ob, nb⟩ : HS).cut = ⟨au ob, nb⟩ := by
       show (⟨fun i => bif Nat.blt i nb then au ob i else none, nb⟩ : HS) = ⟨au ob, nb⟩
       congr 1
       funext i
       cases hb : Nat.blt i nb with
       | true => rfl
       | false =>
         have : nb <= i := by
          rcases Nat.lt_or_ge i nb with h | h
          · rw [← Nat.blt_eq] at h; rw [h] at hb; cases hb
          · exact h
         rw [hF i this]; rfl
     rw [ec]
     exact eH (X := ⟨xS D.P D.F D.fl D.win D.fuel n, top, base, D.win f n⟩) (E := ⟨D.P, 0, fun _ _ => none, fun _ _ _ _ _ => .fail, top, base, fun _ => 0, 0, 0⟩) rfl rfl hT h
end
end Rx
