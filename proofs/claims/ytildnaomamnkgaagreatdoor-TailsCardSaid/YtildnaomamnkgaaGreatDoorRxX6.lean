/- Rx, part X6: code and functions, for the kernel: they do as the specification says. -/
import Derived.Test.YtildnaomamnkgaaGreatDoorRxX5
set_option linter.unusedSectionVars false
set_option linter.unusedSimpArgs false
set_option linter.unusedVariables false
namespace Rx
open Go
variable [Glob]
noncomputable section
theorem FOk.of {ob : OB} {h : HS} (hh : h.Ok) (e : h.obj = au ob) : FOk ob h.nob := fun i hi => by rw [← e]; exact hh i hi
theorem KC.facts {E : CEnv} {fl : Nat} {post : SV × HD -> Prop} {kn : KS} {ke : Nat -> KS} {kr : KS} {σ : CS} {x : Ex × CS} (hT : dN E.top σ.h.nob) (hg : mP E σ x) (h : KC fl post kn ke kr x) :
  ∃ sl ob, x.2 = ⟨view fl sl .nil, ⟨au ob, x.2.h.nob⟩⟩ /\ (UK kn ke kr x.1 sl ob x.2.h.nob).holds post /\ dN E.top x.2.h.nob /\ FOk ob x.2.h.nob := by
 obtain ⟨sl, ob, e, hh⟩ := h
 refine ⟨sl, ob, e, hh, ⟨?_, hT.2⟩, ?_⟩
 · have := hg.2.2
   have := hT.1
   omega
 · intro i hi
   have := hg.1 i hi
   rw [e] at this
   exact this
def rP (c : Code) (f : CF) : Prop := ∀ (E : CEnv) (X : EX), E.Ok -> XRef X E -> E.N <= 16777215 -> ∀ (kn : KS) (ke : Nat -> KS) (kr : KS) (sl : Tr SV) (ob : OB) (nb : Nat) (post : SV × HD -> Prop), dN E.top nb -> FOk ob nb ->
 (f E.P X E.fl E.N E.fuel kn ke kr sl ob nb).holds post -> ((aP c).1 E ⟨view E.fl sl .nil, ⟨au ob, nb⟩⟩).holds (KC E.fl post kn ke kr)
def Q5 (c : Code) (g : Program -> EX -> Nat -> Nat -> Nat -> Lo -> CG) : Prop := ∀ (E : CEnv) (X : EX), E.Ok -> XRef X E -> E.N <= 16777215 -> ∀ (kn : KS) (ke : Nat -> KS) (kr : KS) (sl : Tr SV) (lo : Lo) (ob : OB) (nb : Nat) (post : SV × HD -> Prop), dN E.top nb -> FOk ob nb ->
 (g E.P X E.fl E.N E.fuel lo kn ke kr sl ob nb).holds post -> ((aP c).2 E ⟨view E.fl sl lo, ⟨au ob, nb⟩⟩).holds (KC E.fl post kn ke kr)
theorem lG (c : Code) : Q5 c noG := fun _ _ _ _ _ _ _ _ _ _ _ _ _ _ _ h => h.elim
theorem Tw (c : Code) : rP c noC.f := fun _ _ _ _ _ _ _ _ _ _ _ _ _ _ h => h.elim
theorem Hl (rid : Nat) (ops : Array Oper) (dr : Bool) : rP (.region rid ops dr) (M9 rid ops dr) := by
 intro E X hE hX hN kn ke kr sl ob nb post hT hF h
 obtain ⟨hok, h⟩ := gP h
 rw [dH] at h
 cases dr with
 | true =>
   show T.holds _ ((ng E ops rid ⟨view E.fl sl .nil, ⟨au ob, nb⟩⟩).bind fun σ' => .ret (Ex.normal, jr E.fl σ'))
   rw [T.aj]
   exact Oo (N := E.N) (fu := E.fuel) hE hX hok hN hT hF h
 | false =>
   show T.holds _ ((lQ E ops rid 0 ops.toList ⟨view E.fl sl .nil, ⟨au ob, nb⟩⟩).bind fun σ' => .ret (Ex.normal, jr E.fl σ'))
   rw [T.aj]
   refine T.ay (fun z hz => ?_) _ (uW hE (rid := rid) hX hok hN ops.toList 0 sl .nil ob nb (yY hok) hT hF h)
   obtain ⟨sl', lo', ob', e, hh⟩ := hz
   show KC E.fl post kn ke kr (Ex.normal, jr E.fl z)
   rw [e, uM]
   exact ⟨sl', ob', rfl, hh⟩
theorem Py {a b : Code} {x y : CP} (hx : rP a x.f) (hy : rP b y.f) : rP (.seq a b) (fun P X fl N fu kn ke kr => x.f P X fl N fu (y.f P X fl N fu kn ke kr) ke kr) := by
 intro E X hE hX hN kn ke kr sl ob nb post hT hF h
 show T.holds _ (((aP a).1 E ⟨view E.fl sl .nil, ⟨au ob, nb⟩⟩).bind fun x => match x.1 with
   | .normal => (aP b).1 E x.2
   | e => .ret (e, x.2))
 rw [T.aj]
 have h1 := T.aV ((cu a).1 E hE ⟨view E.fl sl .nil, ⟨au ob, nb⟩⟩ hF) (hx E X hE hX hN _ _ _ sl ob nb post hT hF h)
 refine T.ay (fun z hz => ?_) _ h1
 obtain ⟨sl', ob', e, hh, hT', hF'⟩ := KC.facts hT hz.1 hz.2
 obtain ⟨ex, σ'⟩ := z
 cases ex with
 | normal =>
   show T.holds _ ((aP b).1 E σ')
   rw [show σ' = _ from e]
   exact hy E X hE hX hN _ _ _ sl' ob' _ post hT' hF' hh
 | exit k => exact ⟨sl', ob', e, hh⟩
 | ret => exact ⟨sl', ob', e, hh⟩
theorem OD {a b : Code} {y : CP} (hy : rP b y.f) : Q5 (.seq a b) (fun P X fl N fu lo kn ke kr => Lh a P X fl N fu lo (y.f P X fl N fu kn ke kr) ke kr) := by
 intro E X hE hX hN kn ke kr sl lo ob nb post hT hF h
 show T.holds _ ((nS E a ⟨view E.fl sl lo, ⟨au ob, nb⟩⟩).bind fun σ' => (aP b).1 E (jr E.fl σ'))
 have h : (Lh a E.P X E.fl E.N E.fuel lo (y.f E.P X E.fl E.N E.fuel kn ke kr) ke kr sl ob nb).holds post := h
 cases a with
 | region rid ops dr =>
   cases dr with
   | true => exact h.elim
   | false =>
     unfold Lh at h
     unfold nS
     cases hl : ops.toList with
     | nil => simp only [hl] at h; exact h.elim
     | cons o l =>
       simp only [hl] at h ⊢
       obtain ⟨hok, h⟩ := gP h
       have hd : ∀ q ∈ l, fV E.N q.dst = true := fun q hq => yY hok q (by rw [hl]; simp [hq])
       have h1 := T.aV (iN hE (ops := ops) (rid := rid) l 1 ⟨view E.fl sl lo, ⟨au ob, nb⟩⟩ hF) (uW hE (rid := rid) hX hok hN l 1 sl lo ob nb hd hT hF h)
       rw [T.aj]
       refine T.ay (fun z hz => ?_) _ h1
       obtain ⟨⟨g1, g2, g3⟩, sl', lo', ob', e, hh⟩ := hz
       have eh : z.h = ⟨au ob', z.h.nob⟩ := congrArg CS.h e
       have hT' : dN E.top z.h.nob := ⟨by
        have g3 : z.h.nob <= max E.top nb := g3
        have := hT.1
        omega, hT.2⟩
       have hF' : FOk ob' z.h.nob := fun i hi => by
        have := g1 i hi
        rw [eh] at this
        exact this
       rw [e, uM]
       exact hy E X hE hX hN _ _ _ sl' ob' _ post hT' hF' hh
 | _ => exact h.elim
theorem NK {c : Operand} {a b : Code} {x y : CP} (hx : rP a x.f) (hy : rP b y.f) : rP (.cond c a b) (QE c x y) := by
 intro E X hE hX hN kn ke kr sl ob nb post hT hF h
 show T.holds _ (match evC (view E.fl sl .nil) c with
   | .kb q => bif q then (aP a).1 E ⟨view E.fl sl .nil, ⟨au ob, nb⟩⟩ else (aP b).1 E ⟨view E.fl sl .nil, ⟨au ob, nb⟩⟩
   | _ => .fail)
 unfold QE at h
 rw [KD, Vw] at h
 split at h
 · rename_i q hq
   simp only [hq]
   rw [dH] at h
   cases q with
   | true => exact hx E X hE hX hN _ _ _ sl ob nb post hT hF h
   | false => exact hy E X hE hX hN _ _ _ sl ob nb post hT hF h
 · exact h.elim
theorem Kn {id : Nat} {c : Code} {x : CP} (hx : rP c x.f) : rP (.block id c) (fun P X fl N fu kn ke kr => x.f P X fl N fu kn (fun k sl ob nb => BR (Nat.beq k id) (kn sl ob nb) (ke k sl ob nb)) kr) := by
 intro E X hE hX hN kn ke kr sl ob nb post hT hF h
 show T.holds _ (((aP c).1 E ⟨view E.fl sl .nil, ⟨au ob, nb⟩⟩).bind fun x => match x.1 with
   | .exit k => bif Nat.beq k id then .ret (.normal, x.2) else .ret (.exit k, x.2)
   | e => .ret (e, x.2))
 rw [T.aj]
 refine T.ay (fun z hz => ?_) _ (hx E X hE hX hN _ _ _ sl ob nb post hT hF h)
 obtain ⟨sl', ob', e, hh⟩ := hz
 obtain ⟨ex, σ'⟩ := z
 cases ex with
 | normal => exact ⟨sl', ob', e, hh⟩
 | exit k =>
   have hh : (BR (Nat.beq k id) (kn sl' ob' σ'.h.nob) (ke k sl' ob' σ'.h.nob)).holds post := hh
   rw [dH] at hh
   show T.holds _ (bif Nat.beq k id then T.ret (Ex.normal, σ') else .ret (.exit k, σ'))
   cases hk : Nat.beq k id with
   | true => rw [hk] at hh; exact ⟨sl', ob', e, hh⟩
   | false => rw [hk] at hh; exact ⟨sl', ob', e, hh⟩
 | ret => exact ⟨sl', ob', e, hh⟩
theorem Ej {c : Code} {x : CP} (hx : rP c x.f) {E : CEnv} {X : EX} (hE : E.Ok) (hX : XRef X E) (hN : E.N <= 16777215) : ∀ (n : Nat) (kn : KS) (ke : Nat -> KS) (kr : KS) (sl : Tr SV) (ob : OB) (nb : Nat) (post : SV × HD -> Prop), dN E.top nb -> FOk ob nb ->
  (Pn (x.f E.P X E.fl E.N E.fuel) n kn ke kr sl ob nb).holds post -> (oq ((aP c).1 E) n ⟨view E.fl sl .nil, ⟨au ob, nb⟩⟩).holds (KC E.fl post kn ke kr)
 | 0, _, _, _, _, _, _, _, _, _, h => h.elim
 | n + 1, kn, ke, kr, sl, ob, nb, post, hT, hF, h => by
   have h : (x.f E.P X E.fl E.N E.fuel (Pn (x.f E.P X E.fl E.N E.fuel) n kn ke kr) ke kr sl ob nb).holds post := h
   simp only [oq, T.aj]
   have h1 := T.aV ((cu c).1 E hE ⟨view E.fl sl .nil, ⟨au ob, nb⟩⟩ hF) (hx E X hE hX hN _ _ _ sl ob nb post hT hF h)
   refine T.ay (fun z hz => ?_) _ h1
   obtain ⟨sl', ob', e, hh, hT', hF'⟩ := KC.facts hT hz.1 hz.2
   obtain ⟨ex, σ'⟩ := z
   cases ex with
   | normal =>
     show T.holds _ (oq ((aP c).1 E) n σ')
     rw [show σ' = _ from e]
     exact Ej hx hE hX hN n kn ke kr sl' ob' _ post hT' hF' hh
   | exit k => exact ⟨sl', ob', e, hh⟩
   | ret => exact ⟨sl', ob', e, hh⟩
theorem Cy (fl : Nat) (sl : Tr SV) : ∀ (l : List Nat), (∀ t ∈ l, t < 16777215) -> view fl (sV fl sl l) .nil = qD l (view fl sl .nil)
 | [], _ => by funext j; rfl
 | t :: l, h => by
   have ih := Cy fl sl l fun x hx => h x (by simp [hx])
   funext j
   have ihj : BS (fU fl j) (gU (sV fl sl l) j) .junk = (bif iZ j l then SV.junk else BS (fU fl j) (gU sl j) .junk) := congrFun ih j
   show BS (fU fl j) (gU (BTS (fU fl t) (qj (sV fl sl l) t .junk) (sV fl sl l)) j) .junk = (bif (bif Nat.beq t j then true else iZ j l) then SV.junk else BS (fU fl j) (gU sl j) .junk)
   by_cases e : j = t
   · subst e
     rw [Nat.beq_refl]
     cases hb : fU fl j with
     | false => rfl
     | true =>
       show gU (qj (sV fl sl l) j .junk) j = SV.junk
       rw [vo j (h j (by simp)), if_pos rfl]
   · rw [dU (fun h => e h.symm), cond_false, ← ihj]
     cases hb : fU fl t with
     | false => rfl
     | true =>
       show BS (fU fl j) (gU (qj (sV fl sl l) t .junk) j) .junk = _
       rw [vo j (h t (by simp)), if_neg e]
theorem JY (f : Nat -> R -> R) (u : R) (n : Nat) : MP f u (n + 1) = f n (MP f u n) := rfl
theorem QL {c : Code} {x : CP} (hx : Q5 c x.g) (t : Tmp) (d : Option Tmp) {E : CEnv} {X : EX} (hE : E.Ok) (hX : XRef X E) (hN : E.N <= 16777215)
  (kn : KS) (ke : Nat -> KS) (kr : KS) (sl : Tr SV) (ob : OB) (nb : Nat) (post : SV × HD -> Prop) (hT : dN E.top nb) (hF : FOk ob nb)
  (h : (Xa c x.g t d E.P X E.fl E.N E.fuel kn ke kr sl ob nb).holds post) : (iY c (aP c).2 E ⟨view E.fl sl .nil, ⟨au ob, nb⟩⟩ t d).holds (KC E.fl post kn ke kr) := by
 unfold Xa at h
 obtain ⟨hlt0, h⟩ := gP h
 have hlt : ∀ t ∈ bI c, t < 16777215 := fun t ht => by
  have := List.all_eq_true.1 hlt0 t ht
  simpa [Nat.blt_eq] using this
 unfold iY
 split at h
 · rename_i q hq
   simp only [hq]
   split at h
   · rename_i m n cur hqo
     simp only [hqo]
     split at h
     · rename_i kt vt l hmo
       simp only [hmo]
       obtain ⟨hb, h⟩ := gP h
       rw [hX.base, hX.top] at hb
       rw [show (Nat.beq n l.length && (Nat.ble E.base q && (Nat.ble E.base nb && (Nat.blt q nb && (Nat.blt q E.top && (fV E.N d && !iZ t (bI c))))))) = true from hb, cond_true]
       simp only [Bool.and_eq_true, Nat.blt_eq] at hb
       have hqn : q < nb := hb.2.2.2.1
       have hdd : fV E.N d = true := hb.2.2.2.2.2.1
       have hq16 : q < 16777215 := by have := hT.1; have := hT.2; omega
       have st : ∀ (o : Option Ob), (upd (au ob) q o) = au (lZ ob q o) := fun o => by
        funext j
        rw [oO j hq16]
        by_cases e : j = q
        · subst e; rw [upd_same, if_pos rfl]
        · rw [bH _ _ e, if_neg e]
       have hF' : ∀ (o : Option Ob), FOk (lZ ob q o) nb := fun o i hi => by
        rw [oO i hq16, if_neg (by omega)]
        exact hF i hi
       have put : ∀ (E' : CEnv) (ih : IH) (s : SV) (o : Option Ob) (k : KS), (EZ E.fl d ih (sV E.fl sl (bI c)) .nil s (lZ ob q o) nb k).holds post ->
         ∃ sl' lo', (⟨putT d s (qD (bI c) (view E.fl sl .nil)), ⟨upd (au ob) q o, nb⟩⟩ : CS) = ⟨view E.fl sl' lo', ⟨au (lZ ob q o), nb⟩⟩ /\ (ih sl' lo' (lZ ob q o) nb k).holds post := by
        intro E' ih s o k hp
        rw [st o, ← Cy E.fl sl (bI c) hlt]
        cases d with
        | none => exact ⟨_, _, rfl, hp⟩
        | some d =>
          have hd2 : d < 16777215 := Nat.lt_of_lt_of_le (show d < E.N by simpa [fV, Nat.blt_eq] using hdd) hN
          have hp : (Nq s fun s => BR (fU E.fl d) (ih (qj (sV E.fl sl (bI c)) d s) .nil (lZ ob q o) nb k) (ih (sV E.fl sl (bI c)) (.cons d s .nil) (lZ ob q o) nb k)).holds post := hp
          rw [MG, dH] at hp
          obtain ⟨h1, h2⟩ := Ar (fl := E.fl) (sl := sV E.fl sl (bI c)) (lo := .nil) (s := s) hd2
          cases hbb : fU E.fl d with
          | true => rw [hbb] at hp; exact ⟨_, _, by rw [← h1 hbb], hp⟩
          | false => rw [hbb] at hp; exact ⟨_, _, by rw [← h2 hbb], hp⟩
       have hend : ∀ r : R, r.holds post -> r = (EZ E.fl d (fun sl lo ob nb kn => x.g E.P X E.fl E.N E.fuel lo kn ke kr sl ob nb) (sV E.fl sl (bI c)) .nil (.tup [.kb false]) (lZ ob q (some (.itx m n none))) nb (fun _ _ _ => .fail)) ->
         T.holds (KC E.fl post kn ke kr) (((aP c).2 E ⟨putT d (.tup [.kb false]) (qD (bI c) (view E.fl sl .nil)), ⟨upd (au ob) q (some (.itx m n none)), nb⟩⟩).bind fun x => match x.1 with
          | .normal => .fail
          | e => .ret (e, x.2)) := by
        rintro r hr rfl
        obtain ⟨sl', lo', e, hh⟩ := put E _ _ _ _ hr
        rw [e, T.aj]
        refine T.ay (fun z hz => ?_) _ (hx E X hE hX hN _ _ _ sl' lo' _ nb post hT (hF' _) hh)
        obtain ⟨sl2, ob2, e2, hh2⟩ := hz
        obtain ⟨ex, σ'⟩ := z
        cases ex with
        | normal => exact hh2.elim
        | exit k => exact ⟨sl2, ob2, e2, hh2⟩
        | ret => exact ⟨sl2, ob2, e2, hh2⟩
       have hXb : XRef ⟨X.I, X.top, nb, X.W⟩ { E with base := nb } := ⟨hX.I, hX.top, rfl, hX.W, hX.K⟩
       have rounds : ∀ j : Nat, (MP (fun k r => EZ E.fl d (fun sl lo ob nb' kn => x.g E.P ⟨X.I, X.top, nb, X.W⟩ E.fl E.N E.fuel lo kn (fun _ _ _ _ => .fail) (fun _ _ _ => .fail) sl ob nb') (sV E.fl sl (bI c)) .nil
          (.tup [.kb true, gq kt (bU kt vt l k).1, gq vt (bU kt vt l k).2]) (lZ ob q (some (.itx m n (some k)))) nb (fun _ _ _ => r))
         (EZ E.fl d (fun sl lo ob nb kn => x.g E.P X E.fl E.N E.fuel lo kn ke kr sl ob nb) (sV E.fl sl (bI c)) .nil (.tup [.kb false]) (lZ ob q (some (.itx m n none))) nb (fun _ _ _ => .fail)) j).holds post ->
         T.holds (KC E.fl post kn ke kr) (wP ((aP c).2 { E with base := nb }) (fun k => ⟨putT d (.tup [.kb true, gq kt (bU kt vt l k).1, gq vt (bU kt vt l k).2]) (qD (bI c) (view E.fl sl .nil)), ⟨upd (au ob) q (some (.itx m n (some k))), nb⟩⟩)
          (((aP c).2 E ⟨putT d (.tup [.kb false]) (qD (bI c) (view E.fl sl .nil)), ⟨upd (au ob) q (some (.itx m n none)), nb⟩⟩).bind fun x => match x.1 with
            | .normal => .fail
            | e => .ret (e, x.2)) j) := by
        intro j
        induction j with
        | zero => intro hh; exact hend _ hh rfl
        | succ j ihj =>
          intro hh
          rw [JY] at hh
          obtain ⟨sl', lo', e, hh⟩ := put E _ _ _ _ hh
          simp only [wP, T.aj]
          rw [e]
          refine T.ay (fun z hz => ?_) _ (hx { E with base := nb } _ (hE.AU _) hXb hN _ _ _ sl' lo' _ nb post hT (hF' _) hh)
          obtain ⟨sl2, ob2, e2, hh2⟩ := hz
          obtain ⟨ex, σ'⟩ := z
          cases ex with
          | normal => exact ihj hh2
          | exit k => exact hh2.elim
          | ret => exact hh2.elim
       exact rounds n h
     · exact h.elim
   · exact h.elim
 · exact h.elim
theorem Nw {c : Code} {x : CP} (hx : rP c x.f) (hg : Q5 c x.g) : rP (.loop c) (Qu c x) := by
 intro E X hE hX hN kn ke kr sl ob nb post hT hF h
 show T.holds _ (match qy c with
   | some (t, d) => iY c (aP c).2 E ⟨view E.fl sl .nil, ⟨au ob, nb⟩⟩ t d
   | none => oq ((aP c).1 E) E.fuel ⟨view E.fl sl .nil, ⟨au ob, nb⟩⟩)
 unfold Qu at h
 cases hh : qy c with
 | none =>
   simp only [hh] at h ⊢
   exact Ej hx hE hX hN _ kn ke kr sl ob nb post hT hF h
 | some y =>
   obtain ⟨t, d⟩ := y
   simp only [hh] at h ⊢
   exact QL hg t d hE hX hN kn ke kr sl ob nb post hT hF h
theorem FH : ∀ c : Code, rP c (cg c).f /\ Q5 c (cg c).g := by
 intro c
 induction c with
 | skip => exact ⟨fun E X hE hX hN kn ke kr sl ob nb post hT hF h => ⟨sl, ob, rfl, h⟩, lG _⟩
 | region rid ops dr => exact ⟨Hl rid ops dr, lG _⟩
 | seq a b iha ihb => exact ⟨Py iha.1 ihb.1, OD ihb.1⟩
 | cond c a b iha ihb => exact ⟨NK iha.1 ihb.1, lG _⟩
 | block id c ih => exact ⟨Kn ih.1, lG _⟩
 | loop c ih => exact ⟨Nw ih.1 ih.2, lG _⟩
 | exit id => exact ⟨fun E X hE hX hN kn ke kr sl ob nb post hT hF h => ⟨sl, ob, rfl, h⟩, lG _⟩
 | ret => exact ⟨fun E X hE hX hN kn ke kr sl ob nb post hT hF h => ⟨sl, ob, rfl, h⟩, lG _⟩
 | _ => exact ⟨Tw _, lG _⟩
theorem NG {P : Program} {fl : Nat} {sl : Tr SV} {ob : OB} {nb : Nat} {r : ResultVar} {k : SV -> R} {post : SV × HD -> Prop} (h : (Rl P fl sl ob r k).holds post) : (zZ P ⟨view fl sl .nil, ⟨au ob, nb⟩⟩ r).holds fun s => (k s).holds post := by
 cases r with
 | tmp t => exact h
 | cell a t =>
   have h : (zY (fH P (au ob) t (view fl sl .nil a)) fun s => k (nK s)).holds post := h
   rw [pY _ (DK _ _ _ _), T.aj] at h
   show T.holds _ ((fH P (au ob) t (view fl sl .nil a)).bind fun s => .ret (nK s))
   rw [T.aj]
   exact h
theorem DN {P : Program} {fl : Nat} {sl : Tr SV} {ob : OB} {nb : Nat} {post : SV × HD -> Prop} : ∀ {l : List ResultVar} {k : List SV -> R}, (OG P fl sl ob l k).holds post -> (sZ P ⟨view fl sl .nil, ⟨au ob, nb⟩⟩ l).holds fun s => (k s).holds post
 | [], k, h => h
 | r :: l, k, h => by
   have h1 := NG (nb := nb) (show (Rl P fl sl ob r fun s => OG P fl sl ob l fun l => k (s :: l)).holds post from h)
   simp only [sZ, T.aj]
   refine T.ay (fun s hs => ?_) _ h1
   exact T.ay (fun l hl => hl) _ (DN (nb := nb) hs)
theorem Bn {P : Program} {fl : Nat} {fn : Func} {sl : Tr SV} {ob : OB} {nb : Nat} {k : SV -> R} {post : SV × HD -> Prop} (h : (za P fl fn sl ob k).holds post) : (uS P fn ⟨view fl sl .nil, ⟨au ob, nb⟩⟩).holds fun s => (k s).holds post := by
 unfold uS
 rw [T.aj]
 refine T.ay (fun l hl => ?_) _ (DN (nb := nb) h)
 match l, hl with
 | [s], hl => exact hl
 | [], hl => exact hl
 | _ :: _ :: _, hl => exact hl
theorem vK : ∀ (l : List SV) (i : Nat) (t : Tr SV) (j : Nat), i + l.length <= 16777215 -> gU (lq l i t) j = if i <= j /\ j < i + l.length then l.getD (j - i) .junk else gU t j
 | [], i, t, j, _ => by
   rw [if_neg (by simp only [List.length_nil]; omega)]
   rfl
 | s :: l, i, t, j, h => by
   simp only [List.length_cons] at h ⊢
   show gU (lq l (i + 1) (qj t i s)) j = _
   rw [vK l (i + 1) _ j (by omega), vo j (by omega)]
   by_cases e : j = i
   · subst e
     rw [if_neg (by omega), if_pos rfl, if_pos (by omega)]
     simp
   · by_cases h1 : i + 1 <= j /\ j < i + 1 + l.length
     · rw [if_pos h1, if_pos (by omega)]
       have : j - i = (j - (i + 1)) + 1 := by omega
       rw [this]
       simp
     · rw [if_neg h1, if_neg e, if_neg (by omega)]
theorem Nk {D : Deps} (hD : D.Ok) {n : Nat} {I : II} (hI : IRef I (lV D n)) {top base : Nat} {f : FuncId} {al : List SV} {ob : OB} {nb : Nat} {k : KK} {post : SV × HD -> Prop} (hF : FOk ob nb) (hT : dN top nb) (hn : D.F f = none)
  (h : (LY D.P D.fl D.win D.fuel n I top base f al ob nb k).holds post) : (lV D (n + 1) top base f al ⟨au ob, nb⟩).holds (KP post k) := by
 unfold LY at h
 simp only [lV, hn]
 split at h
 · rename_i fn hf
   simp only [hf]
   split at h
   · rename_i c hb
     simp only [hb]
     obtain ⟨hc, h⟩ := gP h
     simp only [Bool.and_eq_true] at hc
     obtain ⟨c1, c2, c3⟩ := hc
     rw [show (callable D.P f && Nat.ble al.length fn.ntmps) = true by rw [c1, c2]; rfl, cond_true, T.aj]
     have c2 := Nat.le_of_ble_eq_true c2
     have c3 := Nat.le_of_ble_eq_true c3
     let E : CEnv := ⟨D.P, fn.ntmps, fun _ _ => none, lV D n, top, base, D.win f n, D.fuel, D.fl f⟩
     have hE : E.Ok := ⟨fun rid i s hs => (by cases hs), fun top base f al h => (cK hD n top base f al h).1, fun top base f al h hh => (cK hD n top base f al h).2⟩
     have hX : XRef ⟨I, top, base, D.win f n⟩ E := ⟨hI, rfl, rfl, rfl, fun _ _ => rfl⟩
     have e0 : jr (D.fl f) ⟨fun j => al.getD j .junk, (⟨au ob, nb⟩ : HS).cut⟩ = ⟨view E.fl (lq al 0 .nil) .nil, ⟨au ob, nb⟩⟩ := by
        unfold jr
        congr 1
        · funext j
          show (bif fU (D.fl f) j then al.getD j .junk else .junk) = BS (fU (D.fl f) j) (gU (lq al 0 .nil) j) .junk
          rw [vK al 0 .nil j (by omega)]
          cases fU (D.fl f) j with
          | false => rfl
          | true =>
            show al.getD j .junk = if 0 <= j /\ j < 0 + al.length then al.getD (j - 0) .junk else gU .nil j
            by_cases hj : j < al.length
            · rw [if_pos (by omega)]; rfl
            · rw [if_neg (by omega)]
              simp [List.getD, List.getElem?_eq_none (by omega : al.length <= j)]
              rfl
        · show (⟨fun i => bif Nat.blt i nb then au ob i else none, nb⟩ : HS) = ⟨au ob, nb⟩
          congr 1
          funext i
          cases hb : Nat.blt i nb with
          | true => rfl
          | false =>
            have : nb <= i := by
             rcases Nat.lt_or_ge i nb with h | h
             · rw [← Nat.blt_eq] at h; rw [h] at hb; cases hb
             · exact h
            rw [hF i this]; rfl
     rw [e0]
     have h1 := (FH c).1 E ⟨I, top, base, D.win f n⟩ hE hX c3 _ _ _ (lq al 0 .nil) ob nb post hT hF h
     refine T.ay (fun z hz => ?_) _ h1
     obtain ⟨sl', ob', e, hh⟩ := hz
     obtain ⟨ex, σ'⟩ := z
     have fin : (za D.P (D.fl f) fn sl' ob' fun s => k s ob' σ'.h.nob).holds post -> T.holds (KP post k) ((uS D.P fn σ').bind fun s => T.ret (s, σ'.h)) := by
      intro hq
      rw [T.aj]
      have eσ : σ' = ⟨view (D.fl f) sl' .nil, ⟨au ob', σ'.h.nob⟩⟩ := e
      have h2 := Bn (nb := σ'.h.nob) hq
      rw [← eσ] at h2
      refine T.ay (fun s hs => ?_) _ h2
      exact ⟨ob', congrArg (fun σ : CS => σ.h.obj) eσ, hs⟩
     cases ex with
     | normal => exact fin hh
     | exit id => exact hh.elim
     | ret => exact fin hh
   · exact h.elim
 · exact h.elim
theorem jc {D : Deps} (hD : D.Ok) : ∀ n : Nat, IRef (xY D.P D.F D.fl D.win D.fuel n) (lV D n)
 | 0 => fun top base f al ob nb k post _ _ h => h.elim
 | n + 1 => by
   intro top base f al ob nb k post hF hT h
   have h : (match D.F f with
     | some s => oz ⟨xY D.P D.F D.fl D.win D.fuel n, top, base, D.win f n⟩ (s.run (al.map nrm) (au ob) nb f) ob nb k
     | none => LY D.P D.fl D.win D.fuel n (xY D.P D.F D.fl D.win D.fuel n) top base f al ob nb k).holds post := h
   cases hn : D.F f with
   | none =>
     rw [hn] at h
     exact Nk hD (jc hD n) hF hT hn h
   | some s =>
     rw [hn] at h
     simp only [lV, hn, Io]
     have ec : (⟨au ob, nb⟩ : HS).cut = ⟨au ob, nb⟩ := by
       show (⟨fun i => bif Nat.blt i nb then au ob i else none, nb⟩ : HS) = ⟨au ob, nb⟩
       congr 1
       funext i
       cases hb : Nat.blt i nb with
       | true => rfl
       | false =>
         have : nb <= i := by
          rcases Nat.lt_or_ge i nb with h | h
          · rw [← Nat.blt_eq] at h; rw [h] at hb; cases hb
          · exact h
         rw [hF i this]; rfl
     rw [ec]
     exact eU (X := ⟨xY D.P D.F D.fl D.win D.fuel n, top, base, D.win f n⟩) (E := ⟨D.P, 0, fun _ _ => none, fun _ _ _ _ _ => .fail, top, base, fun _ => 0, 0, 0⟩) rfl rfl hT h
end
end Rx
