/- Rx, part X6: code and functions, for the kernel: they do as the specification says. -/
import Derived.Test.YtcmnmceodhambaaGreatDoorRxX5
set_option linter.unusedSectionVars false
set_option linter.unusedSimpArgs false
set_option linter.unusedVariables false
namespace Rx
open Go
variable [Glob]
noncomputable section
theorem FOk.of {ob : OB} {h : HS} (hh : h.Ok) (e : h.obj = aC ob) : FOk ob h.nob := fun i hi => by rw [← e]; exact hh i hi
theorem KC.facts {E : CEnv} {fl : Nat} {post : SV × HD -> Prop} {kn : KS} {ke : Nat -> KS} {kr : KS} {σ : CS} {x : Ex × CS} (hT : eX E.top σ.h.nob) (hg : nU E σ x) (h : KC fl post kn ke kr x) :
  ∃ sl ob, x.2 = ⟨view fl sl .nil, ⟨aC ob, x.2.h.nob⟩⟩ /\ (TD kn ke kr x.1 sl ob x.2.h.nob).holds post /\ eX E.top x.2.h.nob /\ FOk ob x.2.h.nob := by
 obtain ⟨sl, ob, e, hh⟩ := h
 refine ⟨sl, ob, e, hh, ⟨?_, hT.2⟩, ?_⟩
 · have := hg.2.2
   have := hT.1
   omega
 · intro i hi
   have := hg.1 i hi
   rw [e] at this
   exact this
def su (c : Code) (f : CF) : Prop := ∀ (E : CEnv) (X : EX), E.Ok -> XRef X E -> E.N <= 16777215 -> ∀ (kn : KS) (ke : Nat -> KS) (kr : KS) (sl : Tr SV) (ob : OB) (nb : Nat) (post : SV × HD -> Prop), eX E.top nb -> FOk ob nb ->
 (f E.P X E.fl E.N E.fuel kn ke kr sl ob nb).holds post -> ((aU c).1 E ⟨view E.fl sl .nil, ⟨aC ob, nb⟩⟩).holds (KC E.fl post kn ke kr)
def OC (c : Code) (g : Program -> EX -> Nat -> Nat -> Nat -> Lo -> CG) : Prop := ∀ (E : CEnv) (X : EX), E.Ok -> XRef X E -> E.N <= 16777215 -> ∀ (kn : KS) (ke : Nat -> KS) (kr : KS) (sl : Tr SV) (lo : Lo) (ob : OB) (nb : Nat) (post : SV × HD -> Prop), eX E.top nb -> FOk ob nb ->
 (g E.P X E.fl E.N E.fuel lo kn ke kr sl ob nb).holds post -> ((aU c).2 E ⟨view E.fl sl lo, ⟨aC ob, nb⟩⟩).holds (KC E.fl post kn ke kr)
theorem kR (c : Code) : OC c noG := fun _ _ _ _ _ _ _ _ _ _ _ _ _ _ _ h => h.elim
theorem Qz (c : Code) : su c noC.f := fun _ _ _ _ _ _ _ _ _ _ _ _ _ _ h => h.elim
theorem Hf (rid : Nat) (ops : Array Oper) (dr : Bool) : su (.region rid ops dr) (LQ rid ops dr) := by
 intro E X hE hX hN kn ke kr sl ob nb post hT hF h
 obtain ⟨hok, h⟩ := gJ h
 rw [dA] at h
 cases dr with
 | true =>
   show T.holds _ ((mP E ops rid ⟨view E.fl sl .nil, ⟨aC ob, nb⟩⟩).bind fun σ' => .ret (Ex.normal, jm E.fl σ'))
   rw [T.aB]
   exact MX (N := E.N) (fu := E.fuel) hE hX hok hN hT hF h
 | false =>
   show T.holds _ ((kX E ops rid 0 ops.toList ⟨view E.fl sl .nil, ⟨aC ob, nb⟩⟩).bind fun σ' => .ret (Ex.normal, jm E.fl σ'))
   rw [T.aB]
   refine T.aI (fun z hz => ?_) _ (sZ hE (rid := rid) hX hok hN ops.toList 0 sl .nil ob nb (yG hok) hT hF h)
   obtain ⟨sl', lo', ob', e, hh⟩ := hz
   show KC E.fl post kn ke kr (Ex.normal, jm E.fl z)
   rw [e, tH]
   exact ⟨sl', ob', rfl, hh⟩
theorem Om {a b : Code} {x y : CP} (hx : su a x.f) (hy : su b y.f) : su (.seq a b) (fun P X fl N fu kn ke kr => x.f P X fl N fu (y.f P X fl N fu kn ke kr) ke kr) := by
 intro E X hE hX hN kn ke kr sl ob nb post hT hF h
 show T.holds _ (((aU a).1 E ⟨view E.fl sl .nil, ⟨aC ob, nb⟩⟩).bind fun x => match x.1 with
   | .normal => (aU b).1 E x.2
   | e => .ret (e, x.2))
 rw [T.aB]
 have h1 := T.bK ((iV a).1 E hE ⟨view E.fl sl .nil, ⟨aC ob, nb⟩⟩ hF) (hx E X hE hX hN _ _ _ sl ob nb post hT hF h)
 refine T.aI (fun z hz => ?_) _ h1
 obtain ⟨sl', ob', e, hh, hT', hF'⟩ := KC.facts hT hz.1 hz.2
 obtain ⟨ex, σ'⟩ := z
 cases ex with
 | normal =>
   show T.holds _ ((aU b).1 E σ')
   rw [show σ' = _ from e]
   exact hy E X hE hX hN _ _ _ sl' ob' _ post hT' hF' hh
 | exit k => exact ⟨sl', ob', e, hh⟩
 | ret => exact ⟨sl', ob', e, hh⟩
theorem Mq {a b : Code} {y : CP} (hy : su b y.f) : OC (.seq a b) (fun P X fl N fu lo kn ke kr => Lr a P X fl N fu lo (y.f P X fl N fu kn ke kr) ke kr) := by
 intro E X hE hX hN kn ke kr sl lo ob nb post hT hF h
 show T.holds _ ((mJ E a ⟨view E.fl sl lo, ⟨aC ob, nb⟩⟩).bind fun σ' => (aU b).1 E (jm E.fl σ'))
 have h : (Lr a E.P X E.fl E.N E.fuel lo (y.f E.P X E.fl E.N E.fuel kn ke kr) ke kr sl ob nb).holds post := h
 cases a with
 | region rid ops dr =>
   cases dr with
   | true => exact h.elim
   | false =>
     unfold Lr at h
     unfold mJ
     cases hl : ops.toList with
     | nil => simp only [hl] at h; exact h.elim
     | cons o l =>
       simp only [hl] at h ⊢
       obtain ⟨hok, h⟩ := gJ h
       have hd : ∀ q ∈ l, fO E.N q.dst = true := fun q hq => yG hok q (by rw [hl]; simp [hq])
       have h1 := T.bK (iL hE (ops := ops) (rid := rid) l 1 ⟨view E.fl sl lo, ⟨aC ob, nb⟩⟩ hF) (sZ hE (rid := rid) hX hok hN l 1 sl lo ob nb hd hT hF h)
       rw [T.aB]
       refine T.aI (fun z hz => ?_) _ h1
       obtain ⟨⟨g1, g2, g3⟩, sl', lo', ob', e, hh⟩ := hz
       have eh : z.h = ⟨aC ob', z.h.nob⟩ := congrArg CS.h e
       have hT' : eX E.top z.h.nob := ⟨by
        have g3 : z.h.nob <= max E.top nb := g3
        have := hT.1
        omega, hT.2⟩
       have hF' : FOk ob' z.h.nob := fun i hi => by
        have := g1 i hi
        rw [eh] at this
        exact this
       rw [e, tH]
       exact hy E X hE hX hN _ _ _ sl' ob' _ post hT' hF' hh
 | _ => exact h.elim
theorem MW {c : Operand} {a b : Code} {x y : CP} (hx : su a x.f) (hy : su b y.f) : su (.cond c a b) (Nt c x y) := by
 intro E X hE hX hN kn ke kr sl ob nb post hT hF h
 show T.holds _ (match evC (view E.fl sl .nil) c with
   | .kb q => bif q then (aU a).1 E ⟨view E.fl sl .nil, ⟨aC ob, nb⟩⟩ else (aU b).1 E ⟨view E.fl sl .nil, ⟨aC ob, nb⟩⟩
   | _ => .fail)
 unfold Nt at h
 rw [IQ, U3] at h
 split at h
 · rename_i q hq
   simp only [hq]
   rw [dA] at h
   cases q with
   | true => exact hx E X hE hX hN _ _ _ sl ob nb post hT hF h
   | false => exact hy E X hE hX hN _ _ _ sl ob nb post hT hF h
 · exact h.elim
theorem JH {id : Nat} {c : Code} {x : CP} (hx : su c x.f) : su (.block id c) (fun P X fl N fu kn ke kr => x.f P X fl N fu kn (fun k sl ob nb => BR (Nat.beq k id) (kn sl ob nb) (ke k sl ob nb)) kr) := by
 intro E X hE hX hN kn ke kr sl ob nb post hT hF h
 show T.holds _ (((aU c).1 E ⟨view E.fl sl .nil, ⟨aC ob, nb⟩⟩).bind fun x => match x.1 with
   | .exit k => bif Nat.beq k id then .ret (.normal, x.2) else .ret (.exit k, x.2)
   | e => .ret (e, x.2))
 rw [T.aB]
 refine T.aI (fun z hz => ?_) _ (hx E X hE hX hN _ _ _ sl ob nb post hT hF h)
 obtain ⟨sl', ob', e, hh⟩ := hz
 obtain ⟨ex, σ'⟩ := z
 cases ex with
 | normal => exact ⟨sl', ob', e, hh⟩
 | exit k =>
   have hh : (BR (Nat.beq k id) (kn sl' ob' σ'.h.nob) (ke k sl' ob' σ'.h.nob)).holds post := hh
   rw [dA] at hh
   show T.holds _ (bif Nat.beq k id then T.ret (Ex.normal, σ') else .ret (.exit k, σ'))
   cases hk : Nat.beq k id with
   | true => rw [hk] at hh; exact ⟨sl', ob', e, hh⟩
   | false => rw [hk] at hh; exact ⟨sl', ob', e, hh⟩
 | ret => exact ⟨sl', ob', e, hh⟩
theorem CX {c : Code} {x : CP} (hx : su c x.f) {E : CEnv} {X : EX} (hE : E.Ok) (hX : XRef X E) (hN : E.N <= 16777215) : ∀ (n : Nat) (kn : KS) (ke : Nat -> KS) (kr : KS) (sl : Tr SV) (ob : OB) (nb : Nat) (post : SV × HD -> Prop), eX E.top nb -> FOk ob nb ->
  (Pn (x.f E.P X E.fl E.N E.fuel) n kn ke kr sl ob nb).holds post -> (nI ((aU c).1 E) n ⟨view E.fl sl .nil, ⟨aC ob, nb⟩⟩).holds (KC E.fl post kn ke kr)
 | 0, _, _, _, _, _, _, _, _, _, h => h.elim
 | n + 1, kn, ke, kr, sl, ob, nb, post, hT, hF, h => by
   have h : (x.f E.P X E.fl E.N E.fuel (Pn (x.f E.P X E.fl E.N E.fuel) n kn ke kr) ke kr sl ob nb).holds post := h
   simp only [nI, T.aB]
   have h1 := T.bK ((iV c).1 E hE ⟨view E.fl sl .nil, ⟨aC ob, nb⟩⟩ hF) (hx E X hE hX hN _ _ _ sl ob nb post hT hF h)
   refine T.aI (fun z hz => ?_) _ h1
   obtain ⟨sl', ob', e, hh, hT', hF'⟩ := KC.facts hT hz.1 hz.2
   obtain ⟨ex, σ'⟩ := z
   cases ex with
   | normal =>
     show T.holds _ (nI ((aU c).1 E) n σ')
     rw [show σ' = _ from e]
     exact CX hx hE hX hN n kn ke kr sl' ob' _ post hT' hF' hh
   | exit k => exact ⟨sl', ob', e, hh⟩
   | ret => exact ⟨sl', ob', e, hh⟩
theorem BX (fl : Nat) (sl : Tr SV) : ∀ (l : List Nat), (∀ t ∈ l, t < 16777215) -> view fl (rV fl sl l) .nil = pW l (view fl sl .nil)
 | [], _ => by funext j; rfl
 | t :: l, h => by
   have ih := BX fl sl l fun x hx => h x (by simp [hx])
   funext j
   have ihj : BS (gH fl j) (iE (rV fl sl l) j) .junk = (bif jf j l then SV.junk else BS (gH fl j) (iE sl j) .junk) := congrFun ih j
   show BS (gH fl j) (iE (BTS (gH fl t) (pq (rV fl sl l) t .junk) (rV fl sl l)) j) .junk = (bif (bif Nat.beq t j then true else jf j l) then SV.junk else BS (gH fl j) (iE sl j) .junk)
   by_cases e : j = t
   · subst e
     rw [Nat.beq_refl]
     cases hb : gH fl j with
     | false => rfl
     | true =>
       show iE (pq (rV fl sl l) j .junk) j = SV.junk
       rw [uy j (h j (by simp)), if_pos rfl]
   · rw [dN (fun h => e h.symm), cond_false, ← ihj]
     cases hb : gH fl t with
     | false => rfl
     | true =>
       show BS (gH fl j) (iE (pq (rV fl sl l) t .junk) j) .junk = _
       rw [uy j (h t (by simp)), if_neg e]
theorem JJ (f : Nat -> R -> R) (u : R) (n : Nat) : Ky f u (n + 1) = f n (Ky f u n) := rfl
theorem Qf {c : Code} {x : CP} (hx : OC c x.g) (t : Tmp) (d : Option Tmp) {E : CEnv} {X : EX} (hE : E.Ok) (hX : XRef X E) (hN : E.N <= 16777215)
  (kn : KS) (ke : Nat -> KS) (kr : KS) (sl : Tr SV) (ob : OB) (nb : Nat) (post : SV × HD -> Prop) (hT : eX E.top nb) (hF : FOk ob nb)
  (h : (Uj c x.g t d E.P X E.fl E.N E.fuel kn ke kr sl ob nb).holds post) : (iP c (aU c).2 E ⟨view E.fl sl .nil, ⟨aC ob, nb⟩⟩ t d).holds (KC E.fl post kn ke kr) := by
 unfold Uj at h
 obtain ⟨hlt0, h⟩ := gJ h
 have hlt : ∀ t ∈ bI c, t < 16777215 := fun t ht => by
  have := List.all_eq_true.1 hlt0 t ht
  simpa [Nat.blt_eq] using this
 unfold iP
 split at h
 · rename_i q hq
   simp only [hq]
   split at h
   · rename_i m n cur hqo
     simp only [hqo]
     split at h
     · rename_i kt vt l hmo
       simp only [hmo]
       obtain ⟨hb, h⟩ := gJ h
       rw [hX.base, hX.top] at hb
       rw [show (Nat.beq n l.length && (Nat.ble E.base q && (Nat.ble E.base nb && (Nat.blt q nb && (Nat.blt q E.top && (fO E.N d && !jf t (bI c))))))) = true from hb, cond_true]
       simp only [Bool.and_eq_true, Nat.blt_eq] at hb
       have hqn : q < nb := hb.2.2.2.1
       have hdd : fO E.N d = true := hb.2.2.2.2.2.1
       have hq16 : q < 16777215 := by have := hT.1; have := hT.2; omega
       have st : ∀ (o : Option Ob), (upd (aC ob) q o) = aC (lG ob q o) := fun o => by
        funext j
        rw [oC j hq16]
        by_cases e : j = q
        · subst e; rw [upd_same, if_pos rfl]
        · rw [bH _ _ e, if_neg e]
       have hF' : ∀ (o : Option Ob), FOk (lG ob q o) nb := fun o i hi => by
        rw [oC i hq16, if_neg (by omega)]
        exact hF i hi
       have put : ∀ (E' : CEnv) (ih : IH) (s : SV) (o : Option Ob) (k : KS), (DT E.fl d ih (rV E.fl sl (bI c)) .nil s (lG ob q o) nb k).holds post ->
         ∃ sl' lo', (⟨putT d s (pW (bI c) (view E.fl sl .nil)), ⟨upd (aC ob) q o, nb⟩⟩ : CS) = ⟨view E.fl sl' lo', ⟨aC (lG ob q o), nb⟩⟩ /\ (ih sl' lo' (lG ob q o) nb k).holds post := by
        intro E' ih s o k hp
        rw [st o, ← BX E.fl sl (bI c) hlt]
        cases d with
        | none => exact ⟨_, _, rfl, hp⟩
        | some d =>
          have hd2 : d < 16777215 := Nat.lt_of_lt_of_le (show d < E.N by simpa [fO, Nat.blt_eq] using hdd) hN
          have hp : (MI s fun s => BR (gH E.fl d) (ih (pq (rV E.fl sl (bI c)) d s) .nil (lG ob q o) nb k) (ih (rV E.fl sl (bI c)) (.cons d s .nil) (lG ob q o) nb k)).holds post := hp
          rw [Lc, dA] at hp
          obtain ⟨h1, h2⟩ := Ae (fl := E.fl) (sl := rV E.fl sl (bI c)) (lo := .nil) (s := s) hd2
          cases hbb : gH E.fl d with
          | true => rw [hbb] at hp; exact ⟨_, _, by rw [← h1 hbb], hp⟩
          | false => rw [hbb] at hp; exact ⟨_, _, by rw [← h2 hbb], hp⟩
       have hend : ∀ r : R, r.holds post -> r = (DT E.fl d (fun sl lo ob nb kn => x.g E.P X E.fl E.N E.fuel lo kn ke kr sl ob nb) (rV E.fl sl (bI c)) .nil (.tup [.kb false]) (lG ob q (some (.itx m n none))) nb (fun _ _ _ => .fail)) ->
         T.holds (KC E.fl post kn ke kr) (((aU c).2 E ⟨putT d (.tup [.kb false]) (pW (bI c) (view E.fl sl .nil)), ⟨upd (aC ob) q (some (.itx m n none)), nb⟩⟩).bind fun x => match x.1 with
          | .normal => .fail
          | e => .ret (e, x.2)) := by
        rintro r hr rfl
        obtain ⟨sl', lo', e, hh⟩ := put E _ _ _ _ hr
        rw [e, T.aB]
        refine T.aI (fun z hz => ?_) _ (hx E X hE hX hN _ _ _ sl' lo' _ nb post hT (hF' _) hh)
        obtain ⟨sl2, ob2, e2, hh2⟩ := hz
        obtain ⟨ex, σ'⟩ := z
        cases ex with
        | normal => exact hh2.elim
        | exit k => exact ⟨sl2, ob2, e2, hh2⟩
        | ret => exact ⟨sl2, ob2, e2, hh2⟩
       have hXb : XRef ⟨X.I, X.top, nb, X.W⟩ { E with base := nb } := ⟨hX.I, hX.top, rfl, hX.W, hX.K⟩
       have rounds : ∀ j : Nat, (Ky (fun k r => DT E.fl d (fun sl lo ob nb' kn => x.g E.P ⟨X.I, X.top, nb, X.W⟩ E.fl E.N E.fuel lo kn (fun _ _ _ _ => .fail) (fun _ _ _ => .fail) sl ob nb') (rV E.fl sl (bI c)) .nil
          (.tup [.kb true, fQ kt (bV kt vt l k).1, fQ vt (bV kt vt l k).2]) (lG ob q (some (.itx m n (some k)))) nb (fun _ _ _ => r))
         (DT E.fl d (fun sl lo ob nb kn => x.g E.P X E.fl E.N E.fuel lo kn ke kr sl ob nb) (rV E.fl sl (bI c)) .nil (.tup [.kb false]) (lG ob q (some (.itx m n none))) nb (fun _ _ _ => .fail)) j).holds post ->
         T.holds (KC E.fl post kn ke kr) (wM ((aU c).2 { E with base := nb }) (fun k => ⟨putT d (.tup [.kb true, fQ kt (bV kt vt l k).1, fQ vt (bV kt vt l k).2]) (pW (bI c) (view E.fl sl .nil)), ⟨upd (aC ob) q (some (.itx m n (some k))), nb⟩⟩)
          (((aU c).2 E ⟨putT d (.tup [.kb false]) (pW (bI c) (view E.fl sl .nil)), ⟨upd (aC ob) q (some (.itx m n none)), nb⟩⟩).bind fun x => match x.1 with
            | .normal => .fail
            | e => .ret (e, x.2)) j) := by
        intro j
        induction j with
        | zero => intro hh; exact hend _ hh rfl
        | succ j ihj =>
          intro hh
          rw [JJ] at hh
          obtain ⟨sl', lo', e, hh⟩ := put E _ _ _ _ hh
          simp only [wM, T.aB]
          rw [e]
          refine T.aI (fun z hz => ?_) _ (hx { E with base := nb } _ (hE.zO _) hXb hN _ _ _ sl' lo' _ nb post hT (hF' _) hh)
          obtain ⟨sl2, ob2, e2, hh2⟩ := hz
          obtain ⟨ex, σ'⟩ := z
          cases ex with
          | normal => exact ihj hh2
          | exit k => exact hh2.elim
          | ret => exact hh2.elim
       exact rounds n h
     · exact h.elim
   · exact h.elim
 · exact h.elim
theorem MF {c : Code} {x : CP} (hx : su c x.f) (hg : OC c x.g) : su (.loop c) (NC c x) := by
 intro E X hE hX hN kn ke kr sl ob nb post hT hF h
 show T.holds _ (match pK c with
   | some (t, d) => iP c (aU c).2 E ⟨view E.fl sl .nil, ⟨aC ob, nb⟩⟩ t d
   | none => nI ((aU c).1 E) E.fuel ⟨view E.fl sl .nil, ⟨aC ob, nb⟩⟩)
 unfold NC at h
 cases hh : pK c with
 | none =>
   simp only [hh] at h ⊢
   exact CX hx hE hX hN _ kn ke kr sl ob nb post hT hF h
 | some y =>
   obtain ⟨t, d⟩ := y
   simp only [hh] at h ⊢
   exact Qf hg t d hE hX hN kn ke kr sl ob nb post hT hF h
theorem UN : ∀ c : Code, su c (cg c).f /\ OC c (cg c).g := by
 intro c
 induction c with
 | skip => exact ⟨fun E X hE hX hN kn ke kr sl ob nb post hT hF h => ⟨sl, ob, rfl, h⟩, kR _⟩
 | region rid ops dr => exact ⟨Hf rid ops dr, kR _⟩
 | seq a b iha ihb => exact ⟨Om iha.1 ihb.1, Mq ihb.1⟩
 | cond c a b iha ihb => exact ⟨MW iha.1 ihb.1, kR _⟩
 | block id c ih => exact ⟨JH ih.1, kR _⟩
 | loop c ih => exact ⟨MF ih.1 ih.2, kR _⟩
 | exit id => exact ⟨fun E X hE hX hN kn ke kr sl ob nb post hT hF h => ⟨sl, ob, rfl, h⟩, kR _⟩
 | ret => exact ⟨fun E X hE hX hN kn ke kr sl ob nb post hT hF h => ⟨sl, ob, rfl, h⟩, kR _⟩
 | _ => exact ⟨Qz _, kR _⟩
theorem Mi {P : Program} {fl : Nat} {sl : Tr SV} {ob : OB} {nb : Nat} {r : ResultVar} {k : SV -> R} {post : SV × HD -> Prop} (h : (Qd P fl sl ob r k).holds post) : (Au P ⟨view fl sl .nil, ⟨aC ob, nb⟩⟩ r).holds fun s => (k s).holds post := by
 cases r with
 | tmp t => exact h
 | cell a t =>
   have h : (Ay (fC P (aC ob) t (view fl sl .nil a)) fun s => k (nK s)).holds post := h
   rw [oD _ (DJ _ _ _ _), T.aB] at h
   show T.holds _ ((fC P (aC ob) t (view fl sl .nil a)).bind fun s => .ret (nK s))
   rw [T.aB]
   exact h
theorem Cz {P : Program} {fl : Nat} {sl : Tr SV} {ob : OB} {nb : Nat} {post : SV × HD -> Prop} : ∀ {l : List ResultVar} {k : List SV -> R}, (Qn P fl sl ob l k).holds post -> (uo P ⟨view fl sl .nil, ⟨aC ob, nb⟩⟩ l).holds fun s => (k s).holds post
 | [], k, h => h
 | r :: l, k, h => by
   have h1 := Mi (nb := nb) (show (Qd P fl sl ob r fun s => Qn P fl sl ob l fun l => k (s :: l)).holds post from h)
   simp only [uo, T.aB]
   refine T.aI (fun s hs => ?_) _ h1
   exact T.aI (fun l hl => hl) _ (Cz (nb := nb) hs)
theorem NP {P : Program} {fl : Nat} {fn : Func} {sl : Tr SV} {ob : OB} {nb : Nat} {k : SV -> R} {post : SV × HD -> Prop} (h : (Ru P fl fn sl ob k).holds post) : (Bq P fn ⟨view fl sl .nil, ⟨aC ob, nb⟩⟩).holds fun s => (k s).holds post := by
 unfold Bq
 rw [T.aB]
 refine T.aI (fun l hl => ?_) _ (Cz (nb := nb) h)
 match l, hl with
 | [s], hl => exact hl
 | [], hl => exact hl
 | _ :: _ :: _, hl => exact hl
theorem Ch : ∀ (l : List SV) (i : Nat) (t : Tr SV) (j : Nat), i + l.length <= 16777215 -> iE (Dj l i t) j = if i <= j /\ j < i + l.length then l.getD (j - i) .junk else iE t j
 | [], i, t, j, _ => by
   rw [if_neg (by simp only [List.length_nil]; omega)]
   rfl
 | s :: l, i, t, j, h => by
   simp only [List.length_cons] at h ⊢
   show iE (Dj l (i + 1) (pq t i s)) j = _
   rw [Ch l (i + 1) _ j (by omega), uy j (by omega)]
   by_cases e : j = i
   · subst e
     rw [if_neg (by omega), if_pos rfl, if_pos (by omega)]
     simp
   · by_cases h1 : i + 1 <= j /\ j < i + 1 + l.length
     · rw [if_pos h1, if_pos (by omega)]
       have : j - i = (j - (i + 1)) + 1 := by omega
       rw [this]
       simp
     · rw [if_neg h1, if_neg e, if_neg (by omega)]
theorem MQ {D : Deps} (hD : D.Ok) {n : Nat} {I : II} (hI : IRef I (yJ D n)) {top base : Nat} {f : FuncId} {al : List SV} {ob : OB} {nb : Nat} {k : KK} {post : SV × HD -> Prop} (hF : FOk ob nb) (hT : eX top nb) (hn : D.F f = none)
  (h : (LJ D.P D.fl D.win D.fuel n I top base f al ob nb k).holds post) : (yJ D (n + 1) top base f al ⟨aC ob, nb⟩).holds (KP post k) := by
 unfold LJ at h
 simp only [yJ, hn]
 split at h
 · rename_i fn hf
   simp only [hf]
   split at h
   · rename_i c hb
     simp only [hb]
     obtain ⟨hc, h⟩ := gJ h
     simp only [Bool.and_eq_true] at hc
     obtain ⟨c1, c2, c3⟩ := hc
     rw [show (callable D.P f && Nat.ble al.length fn.ntmps) = true by rw [c1, c2]; rfl, cond_true, T.aB]
     have c2 := Nat.le_of_ble_eq_true c2
     have c3 := Nat.le_of_ble_eq_true c3
     let E : CEnv := ⟨D.P, fn.ntmps, fun _ _ => none, yJ D n, top, base, D.win f n, D.fuel, D.fl f⟩
     have hE : E.Ok := ⟨fun rid i s hs => (by cases hs), fun top base f al h => (kZ hD n top base f al h).1, fun top base f al h hh => (kZ hD n top base f al h).2⟩
     have hX : XRef ⟨I, top, base, D.win f n⟩ E := ⟨hI, rfl, rfl, rfl, fun _ _ => rfl⟩
     have e0 : jm (D.fl f) ⟨fun j => al.getD j .junk, (⟨aC ob, nb⟩ : HS).cut⟩ = ⟨view E.fl (Dj al 0 .nil) .nil, ⟨aC ob, nb⟩⟩ := by
        unfold jm
        congr 1
        · funext j
          show (bif gH (D.fl f) j then al.getD j .junk else .junk) = BS (gH (D.fl f) j) (iE (Dj al 0 .nil) j) .junk
          rw [Ch al 0 .nil j (by omega)]
          cases gH (D.fl f) j with
          | false => rfl
          | true =>
            show al.getD j .junk = if 0 <= j /\ j < 0 + al.length then al.getD (j - 0) .junk else iE .nil j
            by_cases hj : j < al.length
            · rw [if_pos (by omega)]; rfl
            · rw [if_neg (by omega)]
              simp [List.getD, List.getElem?_eq_none (by omega : al.length <= j)]
              rfl
        · show (⟨fun i => bif Nat.blt i nb then aC ob i else none, nb⟩ : HS) = ⟨aC ob, nb⟩
          congr 1
          funext i
          cases hb : Nat.blt i nb with
          | true => rfl
          | false =>
            have : nb <= i := by
             rcases Nat.lt_or_ge i nb with h | h
             · rw [← Nat.blt_eq] at h; rw [h] at hb; cases hb
             · exact h
            rw [hF i this]; rfl
     rw [e0]
     have h1 := (UN c).1 E ⟨I, top, base, D.win f n⟩ hE hX c3 _ _ _ (Dj al 0 .nil) ob nb post hT hF h
     refine T.aI (fun z hz => ?_) _ h1
     obtain ⟨sl', ob', e, hh⟩ := hz
     obtain ⟨ex, σ'⟩ := z
     have fin : (Ru D.P (D.fl f) fn sl' ob' fun s => k s ob' σ'.h.nob).holds post -> T.holds (KP post k) ((Bq D.P fn σ').bind fun s => T.ret (s, σ'.h)) := by
      intro hq
      rw [T.aB]
      have eσ : σ' = ⟨view (D.fl f) sl' .nil, ⟨aC ob', σ'.h.nob⟩⟩ := e
      have h2 := NP (nb := σ'.h.nob) hq
      rw [← eσ] at h2
      refine T.aI (fun s hs => ?_) _ h2
      exact ⟨ob', congrArg (fun σ : CS => σ.h.obj) eσ, hs⟩
     cases ex with
     | normal => exact fin hh
     | exit id => exact hh.elim
     | ret => exact fin hh
   · exact h.elim
 · exact h.elim
theorem og {D : Deps} (hD : D.Ok) : ∀ n : Nat, IRef (Ab D.P D.F D.fl D.win D.fuel n) (yJ D n)
 | 0 => fun top base f al ob nb k post _ _ h => h.elim
 | n + 1 => by
   intro top base f al ob nb k post hF hT h
   have h : (match D.F f with
     | some s => vP ⟨Ab D.P D.F D.fl D.win D.fuel n, top, base, D.win f n⟩ (s.run (al.map nrm) (aC ob) nb f) ob nb k
     | none => LJ D.P D.fl D.win D.fuel n (Ab D.P D.F D.fl D.win D.fuel n) top base f al ob nb k).holds post := h
   cases hn : D.F f with
   | none =>
     rw [hn] at h
     exact MQ hD (og hD n) hF hT hn h
   | some s =>
     rw [hn] at h
     simp only [yJ, hn, GR]
     have ec : (⟨aC ob, nb⟩ : HS).cut = ⟨aC ob, nb⟩ := by
       show (⟨fun i => bif Nat.blt i nb then aC ob i else none, nb⟩ : HS) = ⟨aC ob, nb⟩
       congr 1
       funext i
       cases hb : Nat.blt i nb with
       | true => rfl
       | false =>
         have : nb <= i := by
          rcases Nat.lt_or_ge i nb with h | h
          · rw [← Nat.blt_eq] at h; rw [h] at hb; cases hb
          · exact h
         rw [hF i this]; rfl
     rw [ec]
     exact fV (X := ⟨Ab D.P D.F D.fl D.win D.fuel n, top, base, D.win f n⟩) (E := ⟨D.P, 0, fun _ _ => none, fun _ _ _ _ _ => .fail, top, base, fun _ => 0, 0, 0⟩) rfl rfl hT h
end
end Rx
