/- Rx, part X6: code and functions, for the kernel: they do as the specification says. -/
import Derived.Test.YtcmnmceodhambaaGreatDoorRxX5
set_option linter.unusedSectionVars false
set_option linter.unusedSimpArgs false
set_option linter.unusedVariables false
namespace Rx
open Go
variable [Glob]
noncomputable section
theorem FOk.of {ob : OB} {h : HS} (hh : h.Ok) (e : h.obj = aA ob) : FOk ob h.nob := fun i hi => by rw [← e]; exact hh i hi
theorem KC.facts {E : CEnv} {fl : Nat} {post : SV × HD -> Prop} {kn : KS} {ke : Nat -> KS} {kr : KS} {σ : CS} {x : Ex × CS} (hT : eP E.top σ.h.nob) (hg : oG E σ x) (h : KC fl post kn ke kr x) :
  ∃ sl ob, x.2 = ⟨view fl sl .nil, ⟨aA ob, x.2.h.nob⟩⟩ /\ (TQ kn ke kr x.1 sl ob x.2.h.nob).holds post /\ eP E.top x.2.h.nob /\ FOk ob x.2.h.nob := by
 obtain ⟨sl, ob, e, hh⟩ := h
 refine ⟨sl, ob, e, hh, ⟨?_, hT.2⟩, ?_⟩
 · have := hg.2.2
   have := hT.1
   omega
 · intro i hi
   have := hg.1 i hi
   rw [e] at this
   exact this
def rV (c : Code) (f : CF) : Prop := ∀ (E : CEnv) (X : EX), E.Ok -> XRef X E -> E.N <= 16777215 -> ∀ (kn : KS) (ke : Nat -> KS) (kr : KS) (sl : Tr SV) (ob : OB) (nb : Nat) (post : SV × HD -> Prop), eP E.top nb -> FOk ob nb ->
 (f E.P X E.fl E.N E.fuel kn ke kr sl ob nb).holds post -> ((aT c).1 E ⟨view E.fl sl .nil, ⟨aA ob, nb⟩⟩).holds (KC E.fl post kn ke kr)
def PE (c : Code) (g : Program -> EX -> Nat -> Nat -> Nat -> Lo -> CG) : Prop := ∀ (E : CEnv) (X : EX), E.Ok -> XRef X E -> E.N <= 16777215 -> ∀ (kn : KS) (ke : Nat -> KS) (kr : KS) (sl : Tr SV) (lo : Lo) (ob : OB) (nb : Nat) (post : SV × HD -> Prop), eP E.top nb -> FOk ob nb ->
 (g E.P X E.fl E.N E.fuel lo kn ke kr sl ob nb).holds post -> ((aT c).2 E ⟨view E.fl sl lo, ⟨aA ob, nb⟩⟩).holds (KC E.fl post kn ke kr)
theorem kV (c : Code) : PE c noG := fun _ _ _ _ _ _ _ _ _ _ _ _ _ _ _ h => h.elim
theorem Rj (c : Code) : rV c noC.f := fun _ _ _ _ _ _ _ _ _ _ _ _ _ _ h => h.elim
theorem IU (rid : Nat) (ops : Array Oper) (dr : Bool) : rV (.region rid ops dr) (LJ rid ops dr) := by
 intro E X hE hX hN kn ke kr sl ob nb post hT hF h
 obtain ⟨hok, h⟩ := gI h
 rw [dI] at h
 cases dr with
 | true =>
   show T.holds _ ((nI E ops rid ⟨view E.fl sl .nil, ⟨aA ob, nb⟩⟩).bind fun σ' => .ret (Ex.normal, jm E.fl σ'))
   rw [T.ay]
   exact Nv (N := E.N) (fu := E.fuel) hE hX hok hN hT hF h
 | false =>
   show T.holds _ ((kW E ops rid 0 ops.toList ⟨view E.fl sl .nil, ⟨aA ob, nb⟩⟩).bind fun σ' => .ret (Ex.normal, jm E.fl σ'))
   rw [T.ay]
   refine T.aF (fun z hz => ?_) _ (rZ hE (rid := rid) hX hok hN ops.toList 0 sl .nil ob nb (yj hok) hT hF h)
   obtain ⟨sl', lo', ob', e, hh⟩ := hz
   show KC E.fl post kn ke kr (Ex.normal, jm E.fl z)
   rw [e, sN]
   exact ⟨sl', ob', rfl, hh⟩
theorem QV {a b : Code} {x y : CP} (hx : rV a x.f) (hy : rV b y.f) : rV (.seq a b) (fun P X fl N fu kn ke kr => x.f P X fl N fu (y.f P X fl N fu kn ke kr) ke kr) := by
 intro E X hE hX hN kn ke kr sl ob nb post hT hF h
 show T.holds _ (((aT a).1 E ⟨view E.fl sl .nil, ⟨aA ob, nb⟩⟩).bind fun x => match x.1 with
   | .normal => (aT b).1 E x.2
   | e => .ret (e, x.2))
 rw [T.ay]
 have h1 := T.bL ((iT a).1 E hE ⟨view E.fl sl .nil, ⟨aA ob, nb⟩⟩ hF) (hx E X hE hX hN _ _ _ sl ob nb post hT hF h)
 refine T.aF (fun z hz => ?_) _ h1
 obtain ⟨sl', ob', e, hh, hT', hF'⟩ := KC.facts hT hz.1 hz.2
 obtain ⟨ex, σ'⟩ := z
 cases ex with
 | normal =>
   show T.holds _ ((aT b).1 E σ')
   rw [show σ' = _ from e]
   exact hy E X hE hX hN _ _ _ sl' ob' _ post hT' hF' hh
 | exit k => exact ⟨sl', ob', e, hh⟩
 | ret => exact ⟨sl', ob', e, hh⟩
theorem M7 {a b : Code} {y : CP} (hy : rV b y.f) : PE (.seq a b) (fun P X fl N fu lo kn ke kr => KR a P X fl N fu lo (y.f P X fl N fu kn ke kr) ke kr) := by
 intro E X hE hX hN kn ke kr sl lo ob nb post hT hF h
 show T.holds _ ((mP E a ⟨view E.fl sl lo, ⟨aA ob, nb⟩⟩).bind fun σ' => (aT b).1 E (jm E.fl σ'))
 have h : (KR a E.P X E.fl E.N E.fuel lo (y.f E.P X E.fl E.N E.fuel kn ke kr) ke kr sl ob nb).holds post := h
 cases a with
 | region rid ops dr =>
   cases dr with
   | true => exact h.elim
   | false =>
     unfold KR at h
     unfold mP
     cases hl : ops.toList with
     | nil => simp only [hl] at h; exact h.elim
     | cons o l =>
       simp only [hl] at h ⊢
       obtain ⟨hok, h⟩ := gI h
       have hd : ∀ q ∈ l, fH E.N q.dst = true := fun q hq => yj hok q (by rw [hl]; simp [hq])
       have h1 := T.bL (iK hE (ops := ops) (rid := rid) l 1 ⟨view E.fl sl lo, ⟨aA ob, nb⟩⟩ hF) (rZ hE (rid := rid) hX hok hN l 1 sl lo ob nb hd hT hF h)
       rw [T.ay]
       refine T.aF (fun z hz => ?_) _ h1
       obtain ⟨⟨g1, g2, g3⟩, sl', lo', ob', e, hh⟩ := hz
       have eh : z.h = ⟨aA ob', z.h.nob⟩ := congrArg CS.h e
       have hT' : eP E.top z.h.nob := ⟨by
        have g3 : z.h.nob <= max E.top nb := g3
        have := hT.1
        omega, hT.2⟩
       have hF' : FOk ob' z.h.nob := fun i hi => by
        have := g1 i hi
        rw [eh] at this
        exact this
       rw [e, sN]
       exact hy E X hE hX hN _ _ _ sl' ob' _ post hT' hF' hh
 | _ => exact h.elim
theorem MV {c : Operand} {a b : Code} {x y : CP} (hx : rV a x.f) (hy : rV b y.f) : rV (.cond c a b) (PG c x y) := by
 intro E X hE hX hN kn ke kr sl ob nb post hT hF h
 show T.holds _ (match evC (view E.fl sl .nil) c with
   | .kb q => bif q then (aT a).1 E ⟨view E.fl sl .nil, ⟨aA ob, nb⟩⟩ else (aT b).1 E ⟨view E.fl sl .nil, ⟨aA ob, nb⟩⟩
   | _ => .fail)
 unfold PG at h
 rw [Kc, U8] at h
 split at h
 · rename_i q hq
   simp only [hq]
   rw [dI] at h
   cases q with
   | true => exact hx E X hE hX hN _ _ _ sl ob nb post hT hF h
   | false => exact hy E X hE hX hN _ _ _ sl ob nb post hT hF h
 · exact h.elim
theorem J9 {id : Nat} {c : Code} {x : CP} (hx : rV c x.f) : rV (.block id c) (fun P X fl N fu kn ke kr => x.f P X fl N fu kn (fun k sl ob nb => BR (Nat.beq k id) (kn sl ob nb) (ke k sl ob nb)) kr) := by
 intro E X hE hX hN kn ke kr sl ob nb post hT hF h
 show T.holds _ (((aT c).1 E ⟨view E.fl sl .nil, ⟨aA ob, nb⟩⟩).bind fun x => match x.1 with
   | .exit k => bif Nat.beq k id then .ret (.normal, x.2) else .ret (.exit k, x.2)
   | e => .ret (e, x.2))
 rw [T.ay]
 refine T.aF (fun z hz => ?_) _ (hx E X hE hX hN _ _ _ sl ob nb post hT hF h)
 obtain ⟨sl', ob', e, hh⟩ := hz
 obtain ⟨ex, σ'⟩ := z
 cases ex with
 | normal => exact ⟨sl', ob', e, hh⟩
 | exit k =>
   have hh : (BR (Nat.beq k id) (kn sl' ob' σ'.h.nob) (ke k sl' ob' σ'.h.nob)).holds post := hh
   rw [dI] at hh
   show T.holds _ (bif Nat.beq k id then T.ret (Ex.normal, σ') else .ret (.exit k, σ'))
   cases hk : Nat.beq k id with
   | true => rw [hk] at hh; exact ⟨sl', ob', e, hh⟩
   | false => rw [hk] at hh; exact ⟨sl', ob', e, hh⟩
 | ret => exact ⟨sl', ob', e, hh⟩
theorem Cr {c : Code} {x : CP} (hx : rV c x.f) {E : CEnv} {X : EX} (hE : E.Ok) (hX : XRef X E) (hN : E.N <= 16777215) : ∀ (n : Nat) (kn : KS) (ke : Nat -> KS) (kr : KS) (sl : Tr SV) (ob : OB) (nb : Nat) (post : SV × HD -> Prop), eP E.top nb -> FOk ob nb ->
  (Qb (x.f E.P X E.fl E.N E.fuel) n kn ke kr sl ob nb).holds post -> (nL ((aT c).1 E) n ⟨view E.fl sl .nil, ⟨aA ob, nb⟩⟩).holds (KC E.fl post kn ke kr)
 | 0, _, _, _, _, _, _, _, _, _, h => h.elim
 | n + 1, kn, ke, kr, sl, ob, nb, post, hT, hF, h => by
   have h : (x.f E.P X E.fl E.N E.fuel (Qb (x.f E.P X E.fl E.N E.fuel) n kn ke kr) ke kr sl ob nb).holds post := h
   simp only [nL, T.ay]
   have h1 := T.bL ((iT c).1 E hE ⟨view E.fl sl .nil, ⟨aA ob, nb⟩⟩ hF) (hx E X hE hX hN _ _ _ sl ob nb post hT hF h)
   refine T.aF (fun z hz => ?_) _ h1
   obtain ⟨sl', ob', e, hh, hT', hF'⟩ := KC.facts hT hz.1 hz.2
   obtain ⟨ex, σ'⟩ := z
   cases ex with
   | normal =>
     show T.holds _ (nL ((aT c).1 E) n σ')
     rw [show σ' = _ from e]
     exact Cr hx hE hX hN n kn ke kr sl' ob' _ post hT' hF' hh
   | exit k => exact ⟨sl', ob', e, hh⟩
   | ret => exact ⟨sl', ob', e, hh⟩
theorem Cw (fl : Nat) (sl : Tr SV) : ∀ (l : List Nat), (∀ t ∈ l, t < 16777215) -> view fl (rR fl sl l) .nil = pU l (view fl sl .nil)
 | [], _ => by funext j; rfl
 | t :: l, h => by
   have ih := Cw fl sl l fun x hx => h x (by simp [hx])
   funext j
   have ihj : BS (gF fl j) (iB (rR fl sl l) j) .junk = (bif iY j l then SV.junk else BS (gF fl j) (iB sl j) .junk) := congrFun ih j
   show BS (gF fl j) (iB (BTS (gF fl t) (oF (rR fl sl l) t .junk) (rR fl sl l)) j) .junk = (bif (bif Nat.beq t j then true else iY j l) then SV.junk else BS (gF fl j) (iB sl j) .junk)
   by_cases e : j = t
   · subst e
     rw [Nat.beq_refl]
     cases hb : gF fl j with
     | false => rfl
     | true =>
       show iB (oF (rR fl sl l) j .junk) j = SV.junk
       rw [tZ j (h j (by simp)), if_pos rfl]
   · rw [dN (fun h => e h.symm), cond_false, ← ihj]
     cases hb : gF fl t with
     | false => rfl
     | true =>
       show BS (gF fl j) (iB (oF (rR fl sl l) t .junk) j) .junk = _
       rw [tZ j (h t (by simp)), if_neg e]
theorem J5 (f : Nat -> R -> R) (u : R) (n : Nat) : LH f u (n + 1) = f n (LH f u n) := rfl
theorem QM {c : Code} {x : CP} (hx : PE c x.g) (t : Tmp) (d : Option Tmp) {E : CEnv} {X : EX} (hE : E.Ok) (hX : XRef X E) (hN : E.N <= 16777215)
  (kn : KS) (ke : Nat -> KS) (kr : KS) (sl : Tr SV) (ob : OB) (nb : Nat) (post : SV × HD -> Prop) (hT : eP E.top nb) (hF : FOk ob nb)
  (h : (Vh c x.g t d E.P X E.fl E.N E.fuel kn ke kr sl ob nb).holds post) : (iP c (aT c).2 E ⟨view E.fl sl .nil, ⟨aA ob, nb⟩⟩ t d).holds (KC E.fl post kn ke kr) := by
 unfold Vh at h
 obtain ⟨hlt0, h⟩ := gI h
 have hlt : ∀ t ∈ bI c, t < 16777215 := fun t ht => by
  have := List.all_eq_true.1 hlt0 t ht
  simpa [Nat.blt_eq] using this
 unfold iP
 split at h
 · rename_i q hq
   simp only [hq]
   split at h
   · rename_i m n cur hqo
     simp only [hqo]
     split at h
     · rename_i kt vt l hmo
       simp only [hmo]
       obtain ⟨hb, h⟩ := gI h
       rw [hX.base, hX.top] at hb
       rw [show (Nat.beq n l.length && (Nat.ble E.base q && (Nat.ble E.base nb && (Nat.blt q nb && (Nat.blt q E.top && (fH E.N d && !iY t (bI c))))))) = true from hb, cond_true]
       simp only [Bool.and_eq_true, Nat.blt_eq] at hb
       have hqn : q < nb := hb.2.2.2.1
       have hdd : fH E.N d = true := hb.2.2.2.2.2.1
       have hq16 : q < 16777215 := by have := hT.1; have := hT.2; omega
       have st : ∀ (o : Option Ob), (upd (aA ob) q o) = aA (lV ob q o) := fun o => by
        funext j
        rw [qd j hq16]
        by_cases e : j = q
        · subst e; rw [upd_same, if_pos rfl]
        · rw [bH _ _ e, if_neg e]
       have hF' : ∀ (o : Option Ob), FOk (lV ob q o) nb := fun o i hi => by
        rw [qd i hq16, if_neg (by omega)]
        exact hF i hi
       have put : ∀ (E' : CEnv) (ih : IH) (s : SV) (o : Option Ob) (k : KS), (Gg E.fl d ih (rR E.fl sl (bI c)) .nil s (lV ob q o) nb k).holds post ->
         ∃ sl' lo', (⟨putT d s (pU (bI c) (view E.fl sl .nil)), ⟨upd (aA ob) q o, nb⟩⟩ : CS) = ⟨view E.fl sl' lo', ⟨aA (lV ob q o), nb⟩⟩ /\ (ih sl' lo' (lV ob q o) nb k).holds post := by
        intro E' ih s o k hp
        rw [st o, ← Cw E.fl sl (bI c) hlt]
        cases d with
        | none => exact ⟨_, _, rfl, hp⟩
        | some d =>
          have hd2 : d < 16777215 := Nat.lt_of_lt_of_le (show d < E.N by simpa [fH, Nat.blt_eq] using hdd) hN
          have hp : (Nb s fun s => BR (gF E.fl d) (ih (oF (rR E.fl sl (bI c)) d s) .nil (lV ob q o) nb k) (ih (rR E.fl sl (bI c)) (.cons d s .nil) (lV ob q o) nb k)).holds post := hp
          rw [KO, dI] at hp
          obtain ⟨h1, h2⟩ := zD (fl := E.fl) (sl := rR E.fl sl (bI c)) (lo := .nil) (s := s) hd2
          cases hbb : gF E.fl d with
          | true => rw [hbb] at hp; exact ⟨_, _, by rw [← h1 hbb], hp⟩
          | false => rw [hbb] at hp; exact ⟨_, _, by rw [← h2 hbb], hp⟩
       have hend : ∀ r : R, r.holds post -> r = (Gg E.fl d (fun sl lo ob nb kn => x.g E.P X E.fl E.N E.fuel lo kn ke kr sl ob nb) (rR E.fl sl (bI c)) .nil (.tup [.kb false]) (lV ob q (some (.itx m n none))) nb (fun _ _ _ => .fail)) ->
         T.holds (KC E.fl post kn ke kr) (((aT c).2 E ⟨putT d (.tup [.kb false]) (pU (bI c) (view E.fl sl .nil)), ⟨upd (aA ob) q (some (.itx m n none)), nb⟩⟩).bind fun x => match x.1 with
          | .normal => .fail
          | e => .ret (e, x.2)) := by
        rintro r hr rfl
        obtain ⟨sl', lo', e, hh⟩ := put E _ _ _ _ hr
        rw [e, T.ay]
        refine T.aF (fun z hz => ?_) _ (hx E X hE hX hN _ _ _ sl' lo' _ nb post hT (hF' _) hh)
        obtain ⟨sl2, ob2, e2, hh2⟩ := hz
        obtain ⟨ex, σ'⟩ := z
        cases ex with
        | normal => exact hh2.elim
        | exit k => exact ⟨sl2, ob2, e2, hh2⟩
        | ret => exact ⟨sl2, ob2, e2, hh2⟩
       have hXb : XRef ⟨X.I, X.top, nb, X.W⟩ { E with base := nb } := ⟨hX.I, hX.top, rfl, hX.W, hX.K⟩
       have rounds : ∀ j : Nat, (LH (fun k r => Gg E.fl d (fun sl lo ob nb' kn => x.g E.P ⟨X.I, X.top, nb, X.W⟩ E.fl E.N E.fuel lo kn (fun _ _ _ _ => .fail) (fun _ _ _ => .fail) sl ob nb') (rR E.fl sl (bI c)) .nil
          (.tup [.kb true, fP kt (bW kt vt l k).1, fP vt (bW kt vt l k).2]) (lV ob q (some (.itx m n (some k)))) nb (fun _ _ _ => r))
         (Gg E.fl d (fun sl lo ob nb kn => x.g E.P X E.fl E.N E.fuel lo kn ke kr sl ob nb) (rR E.fl sl (bI c)) .nil (.tup [.kb false]) (lV ob q (some (.itx m n none))) nb (fun _ _ _ => .fail)) j).holds post ->
         T.holds (KC E.fl post kn ke kr) (wK ((aT c).2 { E with base := nb }) (fun k => ⟨putT d (.tup [.kb true, fP kt (bW kt vt l k).1, fP vt (bW kt vt l k).2]) (pU (bI c) (view E.fl sl .nil)), ⟨upd (aA ob) q (some (.itx m n (some k))), nb⟩⟩)
          (((aT c).2 E ⟨putT d (.tup [.kb false]) (pU (bI c) (view E.fl sl .nil)), ⟨upd (aA ob) q (some (.itx m n none)), nb⟩⟩).bind fun x => match x.1 with
            | .normal => .fail
            | e => .ret (e, x.2)) j) := by
        intro j
        induction j with
        | zero => intro hh; exact hend _ hh rfl
        | succ j ihj =>
          intro hh
          rw [J5] at hh
          obtain ⟨sl', lo', e, hh⟩ := put E _ _ _ _ hh
          simp only [wK, T.ay]
          rw [e]
          refine T.aF (fun z hz => ?_) _ (hx { E with base := nb } _ (hE.zP _) hXb hN _ _ _ sl' lo' _ nb post hT (hF' _) hh)
          obtain ⟨sl2, ob2, e2, hh2⟩ := hz
          obtain ⟨ex, σ'⟩ := z
          cases ex with
          | normal => exact ihj hh2
          | exit k => exact hh2.elim
          | ret => exact hh2.elim
       exact rounds n h
     · exact h.elim
   · exact h.elim
 · exact h.elim
theorem Nu {c : Code} {x : CP} (hx : rV c x.f) (hg : PE c x.g) : rV (.loop c) (Pf c x) := by
 intro E X hE hX hN kn ke kr sl ob nb post hT hF h
 show T.holds _ (match pV c with
   | some (t, d) => iP c (aT c).2 E ⟨view E.fl sl .nil, ⟨aA ob, nb⟩⟩ t d
   | none => nL ((aT c).1 E) E.fuel ⟨view E.fl sl .nil, ⟨aA ob, nb⟩⟩)
 unfold Pf at h
 cases hh : pV c with
 | none =>
   simp only [hh] at h ⊢
   exact Cr hx hE hX hN _ kn ke kr sl ob nb post hT hF h
 | some y =>
   obtain ⟨t, d⟩ := y
   simp only [hh] at h ⊢
   exact QM hg t d hE hX hN kn ke kr sl ob nb post hT hF h
theorem UK : ∀ c : Code, rV c (cg c).f /\ PE c (cg c).g := by
 intro c
 induction c with
 | skip => exact ⟨fun E X hE hX hN kn ke kr sl ob nb post hT hF h => ⟨sl, ob, rfl, h⟩, kV _⟩
 | region rid ops dr => exact ⟨IU rid ops dr, kV _⟩
 | seq a b iha ihb => exact ⟨QV iha.1 ihb.1, M7 ihb.1⟩
 | cond c a b iha ihb => exact ⟨MV iha.1 ihb.1, kV _⟩
 | block id c ih => exact ⟨J9 ih.1, kV _⟩
 | loop c ih => exact ⟨Nu ih.1 ih.2, kV _⟩
 | exit id => exact ⟨fun E X hE hX hN kn ke kr sl ob nb post hT hF h => ⟨sl, ob, rfl, h⟩, kV _⟩
 | ret => exact ⟨fun E X hE hX hN kn ke kr sl ob nb post hT hF h => ⟨sl, ob, rfl, h⟩, kV _⟩
 | _ => exact ⟨Rj _, kV _⟩
theorem MU {P : Program} {fl : Nat} {sl : Tr SV} {ob : OB} {nb : Nat} {r : ResultVar} {k : SV -> R} {post : SV × HD -> Prop} (h : (Od P fl sl ob r k).holds post) : (Ao P ⟨view fl sl .nil, ⟨aA ob, nb⟩⟩ r).holds fun s => (k s).holds post := by
 cases r with
 | tmp t => exact h
 | cell a t =>
   have h : (zq (fC P (aA ob) t (view fl sl .nil a)) fun s => k (nK s)).holds post := h
   rw [oH _ (Cc _ _ _ _), T.ay] at h
   show T.holds _ ((fC P (aA ob) t (view fl sl .nil a)).bind fun s => .ret (nK s))
   rw [T.ay]
   exact h
theorem Dy {P : Program} {fl : Nat} {sl : Tr SV} {ob : OB} {nb : Nat} {post : SV × HD -> Prop} : ∀ {l : List ResultVar} {k : List SV -> R}, (PU P fl sl ob l k).holds post -> (sW P ⟨view fl sl .nil, ⟨aA ob, nb⟩⟩ l).holds fun s => (k s).holds post
 | [], k, h => h
 | r :: l, k, h => by
   have h1 := MU (nb := nb) (show (Od P fl sl ob r fun s => PU P fl sl ob l fun l => k (s :: l)).holds post from h)
   simp only [sW, T.ay]
   refine T.aF (fun s hs => ?_) _ h1
   exact T.aF (fun l hl => hl) _ (Dy (nb := nb) hs)
theorem Ow {P : Program} {fl : Nat} {fn : Func} {sl : Tr SV} {ob : OB} {nb : Nat} {k : SV -> R} {post : SV × HD -> Prop} (h : (Sw P fl fn sl ob k).holds post) : (BM P fn ⟨view fl sl .nil, ⟨aA ob, nb⟩⟩).holds fun s => (k s).holds post := by
 unfold BM
 rw [T.ay]
 refine T.aF (fun l hl => ?_) _ (Dy (nb := nb) h)
 match l, hl with
 | [s], hl => exact hl
 | [], hl => exact hl
 | _ :: _ :: _, hl => exact hl
theorem Dr : ∀ (l : List SV) (i : Nat) (t : Tr SV) (j : Nat), i + l.length <= 16777215 -> iB (Db l i t) j = if i <= j /\ j < i + l.length then l.getD (j - i) .junk else iB t j
 | [], i, t, j, _ => by
   rw [if_neg (by simp only [List.length_nil]; omega)]
   rfl
 | s :: l, i, t, j, h => by
   simp only [List.length_cons] at h ⊢
   show iB (Db l (i + 1) (oF t i s)) j = _
   rw [Dr l (i + 1) _ j (by omega), tZ j (by omega)]
   by_cases e : j = i
   · subst e
     rw [if_neg (by omega), if_pos rfl, if_pos (by omega)]
     simp
   · by_cases h1 : i + 1 <= j /\ j < i + 1 + l.length
     · rw [if_pos h1, if_pos (by omega)]
       have : j - i = (j - (i + 1)) + 1 := by omega
       rw [this]
       simp
     · rw [if_neg h1, if_neg e, if_neg (by omega)]
theorem NQ {D : Deps} (hD : D.Ok) {n : Nat} {I : II} (hI : IRef I (yZ D n)) {top base : Nat} {f : FuncId} {al : List SV} {ob : OB} {nb : Nat} {k : KK} {post : SV × HD -> Prop} (hF : FOk ob nb) (hT : eP top nb) (hn : D.F f = none)
  (h : (MG D.P D.fl D.win D.fuel n I top base f al ob nb k).holds post) : (yZ D (n + 1) top base f al ⟨aA ob, nb⟩).holds (KP post k) := by
 unfold MG at h
 simp only [yZ, hn]
 split at h
 · rename_i fn hf
   simp only [hf]
   split at h
   · rename_i c hb
     simp only [hb]
     obtain ⟨hc, h⟩ := gI h
     simp only [Bool.and_eq_true] at hc
     obtain ⟨c1, c2, c3⟩ := hc
     rw [show (callable D.P f && Nat.ble al.length fn.ntmps) = true by rw [c1, c2]; rfl, cond_true, T.ay]
     have c2 := Nat.le_of_ble_eq_true c2
     have c3 := Nat.le_of_ble_eq_true c3
     let E : CEnv := ⟨D.P, fn.ntmps, fun _ _ => none, yZ D n, top, base, D.win f n, D.fuel, D.fl f⟩
     have hE : E.Ok := ⟨fun rid i s hs => (by cases hs), fun top base f al h => (mV hD n top base f al h).1, fun top base f al h hh => (mV hD n top base f al h).2⟩
     have hX : XRef ⟨I, top, base, D.win f n⟩ E := ⟨hI, rfl, rfl, rfl, fun _ _ => rfl⟩
     have e0 : jm (D.fl f) ⟨fun j => al.getD j .junk, (⟨aA ob, nb⟩ : HS).cut⟩ = ⟨view E.fl (Db al 0 .nil) .nil, ⟨aA ob, nb⟩⟩ := by
        unfold jm
        congr 1
        · funext j
          show (bif gF (D.fl f) j then al.getD j .junk else .junk) = BS (gF (D.fl f) j) (iB (Db al 0 .nil) j) .junk
          rw [Dr al 0 .nil j (by omega)]
          cases gF (D.fl f) j with
          | false => rfl
          | true =>
            show al.getD j .junk = if 0 <= j /\ j < 0 + al.length then al.getD (j - 0) .junk else iB .nil j
            by_cases hj : j < al.length
            · rw [if_pos (by omega)]; rfl
            · rw [if_neg (by omega)]
              simp [List.getD, List.getElem?_eq_none (by omega : al.length <= j)]
              rfl
        · show (⟨fun i => bif Nat.blt i nb then aA ob i else none, nb⟩ : HS) = ⟨aA ob, nb⟩
          congr 1
          funext i
          cases hb : Nat.blt i nb with
          | true => rfl
          | false =>
            have : nb <= i := by
             rcases Nat.lt_or_ge i nb with h | h
             · rw [← Nat.blt_eq] at h; rw [h] at hb; cases hb
             · exact h
            rw [hF i this]; rfl
     rw [e0]
     have h1 := (UK c).1 E ⟨I, top, base, D.win f n⟩ hE hX c3 _ _ _ (Db al 0 .nil) ob nb post hT hF h
     refine T.aF (fun z hz => ?_) _ h1
     obtain ⟨sl', ob', e, hh⟩ := hz
     obtain ⟨ex, σ'⟩ := z
     have fin : (Sw D.P (D.fl f) fn sl' ob' fun s => k s ob' σ'.h.nob).holds post -> T.holds (KP post k) ((BM D.P fn σ').bind fun s => T.ret (s, σ'.h)) := by
      intro hq
      rw [T.ay]
      have eσ : σ' = ⟨view (D.fl f) sl' .nil, ⟨aA ob', σ'.h.nob⟩⟩ := e
      have h2 := Ow (nb := σ'.h.nob) hq
      rw [← eσ] at h2
      refine T.aF (fun s hs => ?_) _ h2
      exact ⟨ob', congrArg (fun σ : CS => σ.h.obj) eσ, hs⟩
     cases ex with
     | normal => exact fin hh
     | exit id => exact hh.elim
     | ret => exact fin hh
   · exact h.elim
 · exact h.elim
theorem tV {D : Deps} (hD : D.Ok) : ∀ n : Nat, IRef (EB D.P D.F D.fl D.win D.fuel n) (yZ D n)
 | 0 => fun top base f al ob nb k post _ _ h => h.elim
 | n + 1 => by
   intro top base f al ob nb k post hF hT h
   have h : (match D.F f with
     | some s => vQ ⟨EB D.P D.F D.fl D.win D.fuel n, top, base, D.win f n⟩ (s.run (al.map nrm) (aA ob) nb f) ob nb k
     | none => MG D.P D.fl D.win D.fuel n (EB D.P D.F D.fl D.win D.fuel n) top base f al ob nb k).holds post := h
   cases hn : D.F f with
   | none =>
     rw [hn] at h
     exact NQ hD (tV hD n) hF hT hn h
   | some s =>
     rw [hn] at h
     simp only [yZ, hn, G6]
     have ec : (⟨aA ob, nb⟩ : HS).cut = ⟨aA ob, nb⟩ := by
       show (⟨fun i => bif Nat.blt i nb then aA ob i else none, nb⟩ : HS) = ⟨aA ob, nb⟩
       congr 1
       funext i
       cases hb : Nat.blt i nb with
       | true => rfl
       | false =>
         have : nb <= i := by
          rcases Nat.lt_or_ge i nb with h | h
          · rw [← Nat.blt_eq] at h; rw [h] at hb; cases hb
          · exact h
         rw [hF i this]; rfl
     rw [ec]
     exact fM (X := ⟨EB D.P D.F D.fl D.win D.fuel n, top, base, D.win f n⟩) (E := ⟨D.P, 0, fun _ _ => none, fun _ _ _ _ _ => .fail, top, base, fun _ => 0, 0, 0⟩) rfl rfl hT h
end
end Rx
