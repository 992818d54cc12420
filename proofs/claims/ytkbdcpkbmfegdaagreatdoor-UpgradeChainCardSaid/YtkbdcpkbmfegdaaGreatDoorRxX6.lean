/- Rx, part X6: code and functions, for the kernel: they do as the specification says. -/
import Derived.Test.YtkbdcpkbmfegdaaGreatDoorRxX5
set_option linter.unusedSectionVars false
set_option linter.unusedSimpArgs false
set_option linter.unusedVariables false
namespace Rx
open Go
variable [Glob]
noncomputable section
theorem FOk.of {ob : OB} {h : HS} (hh : h.Ok) (e : h.obj = av ob) : FOk ob h.nob := fun i hi => by rw [← e]; exact hh i hi
theorem KC.facts {E : CEnv} {fl : Nat} {post : SV × HD -> Prop} {kn : KS} {ke : Nat -> KS} {kr : KS} {σ : CS} {x : Ex × CS} (hT : dJ E.top σ.h.nob) (hg : mY E σ x) (h : KC fl post kn ke kr x) :
  ∃ sl ob, x.2 = ⟨view fl sl .nil, ⟨av ob, x.2.h.nob⟩⟩ /\ (Zl kn ke kr x.1 sl ob x.2.h.nob).holds post /\ dJ E.top x.2.h.nob /\ FOk ob x.2.h.nob := by
 obtain ⟨sl, ob, e, hh⟩ := h
 refine ⟨sl, ob, e, hh, ⟨?_, hT.2⟩, ?_⟩
 · have := hg.2.2
   have := hT.1
   omega
 · intro i hi
   have := hg.1 i hi
   rw [e] at this
   exact this
def tV (c : Code) (f : CF) : Prop := ∀ (E : CEnv) (X : EX), E.Ok -> XRef X E -> E.N <= 16777215 -> ∀ (kn : KS) (ke : Nat -> KS) (kr : KS) (sl : Tr SV) (ob : OB) (nb : Nat) (post : SV × HD -> Prop), dJ E.top nb -> FOk ob nb ->
 (f E.P X E.fl E.N E.fuel kn ke kr sl ob nb).holds post -> ((aQ c).1 E ⟨view E.fl sl .nil, ⟨av ob, nb⟩⟩).holds (KC E.fl post kn ke kr)
def RG (c : Code) (g : Program -> EX -> Nat -> Nat -> Nat -> Lo -> CG) : Prop := ∀ (E : CEnv) (X : EX), E.Ok -> XRef X E -> E.N <= 16777215 -> ∀ (kn : KS) (ke : Nat -> KS) (kr : KS) (sl : Tr SV) (lo : Lo) (ob : OB) (nb : Nat) (post : SV × HD -> Prop), dJ E.top nb -> FOk ob nb ->
 (g E.P X E.fl E.N E.fuel lo kn ke kr sl ob nb).holds post -> ((aQ c).2 E ⟨view E.fl sl lo, ⟨av ob, nb⟩⟩).holds (KC E.fl post kn ke kr)
theorem l8 (c : Code) : RG c noG := fun _ _ _ _ _ _ _ _ _ _ _ _ _ _ _ h => h.elim
theorem Xd (c : Code) : tV c noC.f := fun _ _ _ _ _ _ _ _ _ _ _ _ _ _ h => h.elim
theorem KN (rid : Nat) (ops : Array Oper) (dr : Bool) : tV (.region rid ops dr) (OU rid ops dr) := by
 intro E X hE hX hN kn ke kr sl ob nb post hT hF h
 obtain ⟨hok, h⟩ := gM h
 rw [dI] at h
 cases dr with
 | true =>
   show T.holds _ ((nU E ops rid ⟨view E.fl sl .nil, ⟨av ob, nb⟩⟩).bind fun σ' => .ret (Ex.normal, jK E.fl σ'))
   rw [T.ak]
   exact Qf (N := E.N) (fu := E.fuel) hE hX hok hN hT hF h
 | false =>
   show T.holds _ ((lS E ops rid 0 ops.toList ⟨view E.fl sl .nil, ⟨av ob, nb⟩⟩).bind fun σ' => .ret (Ex.normal, jK E.fl σ'))
   rw [T.ak]
   refine T.aD (fun z hz => ?_) _ (wJ hE (rid := rid) hX hok hN ops.toList 0 sl .nil ob nb (Am hok) hT hF h)
   obtain ⟨sl', lo', ob', e, hh⟩ := hz
   show KC E.fl post kn ke kr (Ex.normal, jK E.fl z)
   rw [e, vG]
   exact ⟨sl', ob', rfl, hh⟩
theorem UZ {a b : Code} {x y : CP} (hx : tV a x.f) (hy : tV b y.f) : tV (.seq a b) (fun P X fl N fu kn ke kr => x.f P X fl N fu (y.f P X fl N fu kn ke kr) ke kr) := by
 intro E X hE hX hN kn ke kr sl ob nb post hT hF h
 show T.holds _ (((aQ a).1 E ⟨view E.fl sl .nil, ⟨av ob, nb⟩⟩).bind fun x => match x.1 with
   | .normal => (aQ b).1 E x.2
   | e => .ret (e, x.2))
 rw [T.ak]
 have h1 := T.aT ((bO a).1 E hE ⟨view E.fl sl .nil, ⟨av ob, nb⟩⟩ hF) (hx E X hE hX hN _ _ _ sl ob nb post hT hF h)
 refine T.aD (fun z hz => ?_) _ h1
 obtain ⟨sl', ob', e, hh, hT', hF'⟩ := KC.facts hT hz.1 hz.2
 obtain ⟨ex, σ'⟩ := z
 cases ex with
 | normal =>
   show T.holds _ ((aQ b).1 E σ')
   rw [show σ' = _ from e]
   exact hy E X hE hX hN _ _ _ sl' ob' _ post hT' hF' hh
 | exit k => exact ⟨sl', ob', e, hh⟩
 | ret => exact ⟨sl', ob', e, hh⟩
theorem Ru {a b : Code} {y : CP} (hy : tV b y.f) : RG (.seq a b) (fun P X fl N fu lo kn ke kr => PI a P X fl N fu lo (y.f P X fl N fu kn ke kr) ke kr) := by
 intro E X hE hX hN kn ke kr sl lo ob nb post hT hF h
 show T.holds _ ((oI E a ⟨view E.fl sl lo, ⟨av ob, nb⟩⟩).bind fun σ' => (aQ b).1 E (jK E.fl σ'))
 have h : (PI a E.P X E.fl E.N E.fuel lo (y.f E.P X E.fl E.N E.fuel kn ke kr) ke kr sl ob nb).holds post := h
 cases a with
 | region rid ops dr =>
   cases dr with
   | true => exact h.elim
   | false =>
     unfold PI at h
     unfold oI
     cases hl : ops.toList with
     | nil => simp only [hl] at h; exact h.elim
     | cons o l =>
       simp only [hl] at h ⊢
       obtain ⟨hok, h⟩ := gM h
       have hd : ∀ q ∈ l, gI E.N q.dst = true := fun q hq => Am hok q (by rw [hl]; simp [hq])
       have h1 := T.aT (iZ hE (ops := ops) (rid := rid) l 1 ⟨view E.fl sl lo, ⟨av ob, nb⟩⟩ hF) (wJ hE (rid := rid) hX hok hN l 1 sl lo ob nb hd hT hF h)
       rw [T.ak]
       refine T.aD (fun z hz => ?_) _ h1
       obtain ⟨⟨g1, g2, g3⟩, sl', lo', ob', e, hh⟩ := hz
       have eh : z.h = ⟨av ob', z.h.nob⟩ := congrArg CS.h e
       have hT' : dJ E.top z.h.nob := ⟨by
        have g3 : z.h.nob <= max E.top nb := g3
        have := hT.1
        omega, hT.2⟩
       have hF' : FOk ob' z.h.nob := fun i hi => by
        have := g1 i hi
        rw [eh] at this
        exact this
       rw [e, vG]
       exact hy E X hE hX hN _ _ _ sl' ob' _ post hT' hF' hh
 | _ => exact h.elim
theorem P8 {c : Operand} {a b : Code} {x y : CP} (hx : tV a x.f) (hy : tV b y.f) : tV (.cond c a b) (Sz c x y) := by
 intro E X hE hX hN kn ke kr sl ob nb post hT hF h
 show T.holds _ (match evC (view E.fl sl .nil) c with
   | .kb q => bif q then (aQ a).1 E ⟨view E.fl sl .nil, ⟨av ob, nb⟩⟩ else (aQ b).1 E ⟨view E.fl sl .nil, ⟨av ob, nb⟩⟩
   | _ => .fail)
 unfold Sz at h
 rw [L8, Z6] at h
 split at h
 · rename_i q hq
   simp only [hq]
   rw [dI] at h
   cases q with
   | true => exact hx E X hE hX hN _ _ _ sl ob nb post hT hF h
   | false => exact hy E X hE hX hN _ _ _ sl ob nb post hT hF h
 · exact h.elim
theorem LH {id : Nat} {c : Code} {x : CP} (hx : tV c x.f) : tV (.block id c) (fun P X fl N fu kn ke kr => x.f P X fl N fu kn (fun k sl ob nb => BR (Nat.beq k id) (kn sl ob nb) (ke k sl ob nb)) kr) := by
 intro E X hE hX hN kn ke kr sl ob nb post hT hF h
 show T.holds _ (((aQ c).1 E ⟨view E.fl sl .nil, ⟨av ob, nb⟩⟩).bind fun x => match x.1 with
   | .exit k => bif Nat.beq k id then .ret (.normal, x.2) else .ret (.exit k, x.2)
   | e => .ret (e, x.2))
 rw [T.ak]
 refine T.aD (fun z hz => ?_) _ (hx E X hE hX hN _ _ _ sl ob nb post hT hF h)
 obtain ⟨sl', ob', e, hh⟩ := hz
 obtain ⟨ex, σ'⟩ := z
 cases ex with
 | normal => exact ⟨sl', ob', e, hh⟩
 | exit k =>
   have hh : (BR (Nat.beq k id) (kn sl' ob' σ'.h.nob) (ke k sl' ob' σ'.h.nob)).holds post := hh
   rw [dI] at hh
   show T.holds _ (bif Nat.beq k id then T.ret (Ex.normal, σ') else .ret (.exit k, σ'))
   cases hk : Nat.beq k id with
   | true => rw [hk] at hh; exact ⟨sl', ob', e, hh⟩
   | false => rw [hk] at hh; exact ⟨sl', ob', e, hh⟩
 | ret => exact ⟨sl', ob', e, hh⟩
theorem ET {c : Code} {x : CP} (hx : tV c x.f) {E : CEnv} {X : EX} (hE : E.Ok) (hX : XRef X E) (hN : E.N <= 16777215) : ∀ (n : Nat) (kn : KS) (ke : Nat -> KS) (kr : KS) (sl : Tr SV) (ob : OB) (nb : Nat) (post : SV × HD -> Prop), dJ E.top nb -> FOk ob nb ->
  (T9 (x.f E.P X E.fl E.N E.fuel) n kn ke kr sl ob nb).holds post -> (pz ((aQ c).1 E) n ⟨view E.fl sl .nil, ⟨av ob, nb⟩⟩).holds (KC E.fl post kn ke kr)
 | 0, _, _, _, _, _, _, _, _, _, h => h.elim
 | n + 1, kn, ke, kr, sl, ob, nb, post, hT, hF, h => by
   have h : (x.f E.P X E.fl E.N E.fuel (T9 (x.f E.P X E.fl E.N E.fuel) n kn ke kr) ke kr sl ob nb).holds post := h
   simp only [pz, T.ak]
   have h1 := T.aT ((bO c).1 E hE ⟨view E.fl sl .nil, ⟨av ob, nb⟩⟩ hF) (hx E X hE hX hN _ _ _ sl ob nb post hT hF h)
   refine T.aD (fun z hz => ?_) _ h1
   obtain ⟨sl', ob', e, hh, hT', hF'⟩ := KC.facts hT hz.1 hz.2
   obtain ⟨ex, σ'⟩ := z
   cases ex with
   | normal =>
     show T.holds _ (pz ((aQ c).1 E) n σ')
     rw [show σ' = _ from e]
     exact ET hx hE hX hN n kn ke kr sl' ob' _ post hT' hF' hh
   | exit k => exact ⟨sl', ob', e, hh⟩
   | ret => exact ⟨sl', ob', e, hh⟩
theorem Er (fl : Nat) (sl : Tr SV) : ∀ (l : List Nat), (∀ t ∈ l, t < 16777215) -> view fl (uL fl sl l) .nil = pX l (view fl sl .nil)
 | [], _ => by funext j; rfl
 | t :: l, h => by
   have ih := Er fl sl l fun x hx => h x (by simp [hx])
   funext j
   have ihj : BS (gH fl j) (iF (uL fl sl l) j) .junk = (bif jG j l then SV.junk else BS (gH fl j) (iF sl j) .junk) := congrFun ih j
   show BS (gH fl j) (iF (BTS (gH fl t) (wV (uL fl sl l) t .junk) (uL fl sl l)) j) .junk = (bif (bif Nat.beq t j then true else jG j l) then SV.junk else BS (gH fl j) (iF sl j) .junk)
   by_cases e : j = t
   · subst e
     rw [Nat.beq_refl]
     cases hb : gH fl j with
     | false => rfl
     | true =>
       show iF (wV (uL fl sl l) j .junk) j = SV.junk
       rw [wm j (h j (by simp)), if_pos rfl]
   · rw [fO (fun h => e h.symm), cond_false, ← ihj]
     cases hb : gH fl t with
     | false => rfl
     | true =>
       show BS (gH fl j) (iF (wV (uL fl sl l) t .junk) j) .junk = _
       rw [wm j (h t (by simp)), if_neg e]
theorem MF (f : Nat -> R -> R) (u : R) (n : Nat) : Ox f u (n + 1) = f n (Ox f u n) := rfl
theorem Uc {c : Code} {x : CP} (hx : RG c x.g) (t : Tmp) (d : Option Tmp) {E : CEnv} {X : EX} (hE : E.Ok) (hX : XRef X E) (hN : E.N <= 16777215)
  (kn : KS) (ke : Nat -> KS) (kr : KS) (sl : Tr SV) (ob : OB) (nb : Nat) (post : SV × HD -> Prop) (hT : dJ E.top nb) (hF : FOk ob nb)
  (h : (aaG c x.g t d E.P X E.fl E.N E.fuel kn ke kr sl ob nb).holds post) : (jr c (aQ c).2 E ⟨view E.fl sl .nil, ⟨av ob, nb⟩⟩ t d).holds (KC E.fl post kn ke kr) := by
 unfold aaG at h
 obtain ⟨hlt0, h⟩ := gM h
 have hlt : ∀ t ∈ bK c, t < 16777215 := fun t ht => by
  have := List.all_eq_true.1 hlt0 t ht
  simpa [Nat.blt_eq] using this
 unfold jr
 split at h
 · rename_i q hq
   simp only [hq]
   split at h
   · rename_i m n cur hqo
     simp only [hqo]
     split at h
     · rename_i kt vt l hmo
       simp only [hmo]
       obtain ⟨hb, h⟩ := gM h
       rw [hX.base, hX.top] at hb
       rw [show (Nat.beq n l.length && (Nat.ble E.base q && (Nat.ble E.base nb && (Nat.blt q nb && (Nat.blt q E.top && (gI E.N d && !jG t (bK c))))))) = true from hb, cond_true]
       simp only [Bool.and_eq_true, Nat.blt_eq] at hb
       have hqn : q < nb := hb.2.2.2.1
       have hdd : gI E.N d = true := hb.2.2.2.2.2.1
       have hq16 : q < 16777215 := by have := hT.1; have := hT.2; omega
       have st : ∀ (o : Option Ob), (upd (av ob) q o) = av (mO ob q o) := fun o => by
        funext j
        rw [qC j hq16]
        by_cases e : j = q
        · subst e; rw [upd_same, if_pos rfl]
        · rw [bJ _ _ e, if_neg e]
       have hF' : ∀ (o : Option Ob), FOk (mO ob q o) nb := fun o i hi => by
        rw [qC i hq16, if_neg (by omega)]
        exact hF i hi
       have put : ∀ (E' : CEnv) (ih : IH) (s : SV) (o : Option Ob) (k : KS), (IB E.fl d ih (uL E.fl sl (bK c)) .nil s (mO ob q o) nb k).holds post ->
         ∃ sl' lo', (⟨putT d s (pX (bK c) (view E.fl sl .nil)), ⟨upd (av ob) q o, nb⟩⟩ : CS) = ⟨view E.fl sl' lo', ⟨av (mO ob q o), nb⟩⟩ /\ (ih sl' lo' (mO ob q o) nb k).holds post := by
        intro E' ih s o k hp
        rw [st o, ← Er E.fl sl (bK c) hlt]
        cases d with
        | none => exact ⟨_, _, rfl, hp⟩
        | some d =>
          have hd2 : d < 16777215 := Nat.lt_of_lt_of_le (show d < E.N by simpa [gI, Nat.blt_eq] using hdd) hN
          have hp : (Qk s fun s => BR (gH E.fl d) (ih (wV (uL E.fl sl (bK c)) d s) .nil (mO ob q o) nb k) (ih (uL E.fl sl (bK c)) (.cons d s .nil) (mO ob q o) nb k)).holds post := hp
          rw [Ot, dI] at hp
          obtain ⟨h1, h2⟩ := Cw (fl := E.fl) (sl := uL E.fl sl (bK c)) (lo := .nil) (s := s) hd2
          cases hbb : gH E.fl d with
          | true => rw [hbb] at hp; exact ⟨_, _, by rw [← h1 hbb], hp⟩
          | false => rw [hbb] at hp; exact ⟨_, _, by rw [← h2 hbb], hp⟩
       have hend : ∀ r : R, r.holds post -> r = (IB E.fl d (fun sl lo ob nb kn => x.g E.P X E.fl E.N E.fuel lo kn ke kr sl ob nb) (uL E.fl sl (bK c)) .nil (.tup [.kb false]) (mO ob q (some (.itx m n none))) nb (fun _ _ _ => .fail)) ->
         T.holds (KC E.fl post kn ke kr) (((aQ c).2 E ⟨putT d (.tup [.kb false]) (pX (bK c) (view E.fl sl .nil)), ⟨upd (av ob) q (some (.itx m n none)), nb⟩⟩).bind fun x => match x.1 with
          | .normal => .fail
          | e => .ret (e, x.2)) := by
        rintro r hr rfl
        obtain ⟨sl', lo', e, hh⟩ := put E _ _ _ _ hr
        rw [e, T.ak]
        refine T.aD (fun z hz => ?_) _ (hx E X hE hX hN _ _ _ sl' lo' _ nb post hT (hF' _) hh)
        obtain ⟨sl2, ob2, e2, hh2⟩ := hz
        obtain ⟨ex, σ'⟩ := z
        cases ex with
        | normal => exact hh2.elim
        | exit k => exact ⟨sl2, ob2, e2, hh2⟩
        | ret => exact ⟨sl2, ob2, e2, hh2⟩
       have hXb : XRef ⟨X.I, X.top, nb, X.W⟩ { E with base := nb } := ⟨hX.I, hX.top, rfl, hX.W, hX.K⟩
       have rounds : ∀ j : Nat, (Ox (fun k r => IB E.fl d (fun sl lo ob nb' kn => x.g E.P ⟨X.I, X.top, nb, X.W⟩ E.fl E.N E.fuel lo kn (fun _ _ _ _ => .fail) (fun _ _ _ => .fail) sl ob nb') (uL E.fl sl (bK c)) .nil
          (.tup [.kb true, gW kt (cB kt vt l k).1, gW vt (cB kt vt l k).2]) (mO ob q (some (.itx m n (some k)))) nb (fun _ _ _ => r))
         (IB E.fl d (fun sl lo ob nb kn => x.g E.P X E.fl E.N E.fuel lo kn ke kr sl ob nb) (uL E.fl sl (bK c)) .nil (.tup [.kb false]) (mO ob q (some (.itx m n none))) nb (fun _ _ _ => .fail)) j).holds post ->
         T.holds (KC E.fl post kn ke kr) (yU ((aQ c).2 { E with base := nb }) (fun k => ⟨putT d (.tup [.kb true, gW kt (cB kt vt l k).1, gW vt (cB kt vt l k).2]) (pX (bK c) (view E.fl sl .nil)), ⟨upd (av ob) q (some (.itx m n (some k))), nb⟩⟩)
          (((aQ c).2 E ⟨putT d (.tup [.kb false]) (pX (bK c) (view E.fl sl .nil)), ⟨upd (av ob) q (some (.itx m n none)), nb⟩⟩).bind fun x => match x.1 with
            | .normal => .fail
            | e => .ret (e, x.2)) j) := by
        intro j
        induction j with
        | zero => intro hh; exact hend _ hh rfl
        | succ j ihj =>
          intro hh
          rw [MF] at hh
          obtain ⟨sl', lo', e, hh⟩ := put E _ _ _ _ hh
          simp only [yU, T.ak]
          rw [e]
          refine T.aD (fun z hz => ?_) _ (hx { E with base := nb } _ (hE.DN _) hXb hN _ _ _ sl' lo' _ nb post hT (hF' _) hh)
          obtain ⟨sl2, ob2, e2, hh2⟩ := hz
          obtain ⟨ex, σ'⟩ := z
          cases ex with
          | normal => exact ihj hh2
          | exit k => exact hh2.elim
          | ret => exact hh2.elim
       exact rounds n h
     · exact h.elim
   · exact h.elim
 · exact h.elim
theorem QA {c : Code} {x : CP} (hx : tV c x.f) (hg : RG c x.g) : tV (.loop c) (TY c x) := by
 intro E X hE hX hN kn ke kr sl ob nb post hT hF h
 show T.holds _ (match qE c with
   | some (t, d) => jr c (aQ c).2 E ⟨view E.fl sl .nil, ⟨av ob, nb⟩⟩ t d
   | none => pz ((aQ c).1 E) E.fuel ⟨view E.fl sl .nil, ⟨av ob, nb⟩⟩)
 unfold TY at h
 cases hh : qE c with
 | none =>
   simp only [hh] at h ⊢
   exact ET hx hE hX hN _ kn ke kr sl ob nb post hT hF h
 | some y =>
   obtain ⟨t, d⟩ := y
   simp only [hh] at h ⊢
   exact Uc hg t d hE hX hN kn ke kr sl ob nb post hT hF h
theorem GH : ∀ c : Code, tV c (cg c).f /\ RG c (cg c).g := by
 intro c
 induction c with
 | skip => exact ⟨fun E X hE hX hN kn ke kr sl ob nb post hT hF h => ⟨sl, ob, rfl, h⟩, l8 _⟩
 | region rid ops dr => exact ⟨KN rid ops dr, l8 _⟩
 | seq a b iha ihb => exact ⟨UZ iha.1 ihb.1, Ru ihb.1⟩
 | cond c a b iha ihb => exact ⟨P8 iha.1 ihb.1, l8 _⟩
 | block id c ih => exact ⟨LH ih.1, l8 _⟩
 | loop c ih => exact ⟨QA ih.1 ih.2, l8 _⟩
 | exit id => exact ⟨fun E X hE hX hN kn ke kr sl ob nb post hT hF h => ⟨sl, ob, rfl, h⟩, l8 _⟩
 | ret => exact ⟨fun E X hE hX hN kn ke kr sl ob nb post hT hF h => ⟨sl, ob, rfl, h⟩, l8 _⟩
 | _ => exact ⟨Xd _, l8 _⟩
theorem Qi {P : Program} {fl : Nat} {sl : Tr SV} {ob : OB} {nb : Nat} {r : ResultVar} {k : SV -> R} {post : SV × HD -> Prop} (h : (Ti P fl sl ob r k).holds post) : (Bq P ⟨view fl sl .nil, ⟨av ob, nb⟩⟩ r).holds fun s => (k s).holds post := by
 cases r with
 | tmp t => exact h
 | cell a t =>
   have h : (AV (fV P (av ob) t (view fl sl .nil a)) fun s => k (nK s)).holds post := h
   rw [pR _ (ES _ _ _ _), T.ak] at h
   show T.holds _ ((fV P (av ob) t (view fl sl .nil a)).bind fun s => .ret (nK s))
   rw [T.ak]
   exact h
theorem EG {P : Program} {fl : Nat} {sl : Tr SV} {ob : OB} {nb : Nat} {post : SV × HD -> Prop} : ∀ {l : List ResultVar} {k : List SV -> R}, (Tj P fl sl ob l k).holds post -> (vU P ⟨view fl sl .nil, ⟨av ob, nb⟩⟩ l).holds fun s => (k s).holds post
 | [], k, h => h
 | r :: l, k, h => by
   have h1 := Qi (nb := nb) (show (Ti P fl sl ob r fun s => Tj P fl sl ob l fun l => k (s :: l)).holds post from h)
   simp only [vU, T.ak]
   refine T.aD (fun s hs => ?_) _ h1
   exact T.aD (fun l hl => hl) _ (EG (nb := nb) hs)
theorem JV {P : Program} {fl : Nat} {fn : Func} {sl : Tr SV} {ob : OB} {nb : Nat} {k : SV -> R} {post : SV × HD -> Prop} (h : (G7 P fl fn sl ob k).holds post) : (vT P fn ⟨view fl sl .nil, ⟨av ob, nb⟩⟩).holds fun s => (k s).holds post := by
 unfold vT
 rw [T.ak]
 refine T.aD (fun l hl => ?_) _ (EG (nb := nb) h)
 match l, hl with
 | [s], hl => exact hl
 | [], hl => exact hl
 | _ :: _ :: _, hl => exact hl
theorem xY : ∀ (l : List SV) (i : Nat) (t : Tr SV) (j : Nat), i + l.length <= 16777215 -> iF (qP l i t) j = if i <= j /\ j < i + l.length then l.getD (j - i) .junk else iF t j
 | [], i, t, j, _ => by
   rw [if_neg (by simp only [List.length_nil]; omega)]
   rfl
 | s :: l, i, t, j, h => by
   simp only [List.length_cons] at h ⊢
   show iF (qP l (i + 1) (wV t i s)) j = _
   rw [xY l (i + 1) _ j (by omega), wm j (by omega)]
   by_cases e : j = i
   · subst e
     rw [if_neg (by omega), if_pos rfl, if_pos (by omega)]
     simp
   · by_cases h1 : i + 1 <= j /\ j < i + 1 + l.length
     · rw [if_pos h1, if_pos (by omega)]
       have : j - i = (j - (i + 1)) + 1 := by omega
       rw [this]
       simp
     · rw [if_neg h1, if_neg e, if_neg (by omega)]
theorem P5 {D : Deps} (hD : D.Ok) {n : Nat} {I : II} (hI : IRef I (q9 D n)) {top base : Nat} {f : FuncId} {al : List SV} {ob : OB} {nb : Nat} {k : KK} {post : SV × HD -> Prop} (hF : FOk ob nb) (hT : dJ top nb) (hn : D.F f = none)
  (h : (NU D.P D.fl D.win D.fuel n I top base f al ob nb k).holds post) : (q9 D (n + 1) top base f al ⟨av ob, nb⟩).holds (KP post k) := by
 unfold NU at h
 simp only [q9, hn]
 split at h
 · rename_i fn hf
   simp only [hf]
   split at h
   · rename_i c hb
     simp only [hb]
     obtain ⟨hc, h⟩ := gM h
     simp only [Bool.and_eq_true] at hc
     obtain ⟨c1, c2, c3⟩ := hc
     rw [show (callable D.P f && Nat.ble al.length fn.ntmps) = true by rw [c1, c2]; rfl, cond_true, T.ak]
     have c2 := Nat.le_of_ble_eq_true c2
     have c3 := Nat.le_of_ble_eq_true c3
     let E : CEnv := ⟨D.P, fn.ntmps, fun _ _ => none, q9 D n, top, base, D.win f n, D.fuel, D.fl f⟩
     have hE : E.Ok := ⟨fun rid i s hs => (by cases hs), fun top base f al h => (ig hD n top base f al h).1, fun top base f al h hh => (ig hD n top base f al h).2⟩
     have hX : XRef ⟨I, top, base, D.win f n⟩ E := ⟨hI, rfl, rfl, rfl, fun _ _ => rfl⟩
     have e0 : jK (D.fl f) ⟨fun j => al.getD j .junk, (⟨av ob, nb⟩ : HS).cut⟩ = ⟨view E.fl (qP al 0 .nil) .nil, ⟨av ob, nb⟩⟩ := by
        unfold jK
        congr 1
        · funext j
          show (bif gH (D.fl f) j then al.getD j .junk else .junk) = BS (gH (D.fl f) j) (iF (qP al 0 .nil) j) .junk
          rw [xY al 0 .nil j (by omega)]
          cases gH (D.fl f) j with
          | false => rfl
          | true =>
            show al.getD j .junk = if 0 <= j /\ j < 0 + al.length then al.getD (j - 0) .junk else iF .nil j
            by_cases hj : j < al.length
            · rw [if_pos (by omega)]; rfl
            · rw [if_neg (by omega)]
              simp [List.getD, List.getElem?_eq_none (by omega : al.length <= j)]
              rfl
        · show (⟨fun i => bif Nat.blt i nb then av ob i else none, nb⟩ : HS) = ⟨av ob, nb⟩
          congr 1
          funext i
          cases hb : Nat.blt i nb with
          | true => rfl
          | false =>
            have : nb <= i := by
             rcases Nat.lt_or_ge i nb with h | h
             · rw [← Nat.blt_eq] at h; rw [h] at hb; cases hb
             · exact h
            rw [hF i this]; rfl
     rw [e0]
     have h1 := (GH c).1 E ⟨I, top, base, D.win f n⟩ hE hX c3 _ _ _ (qP al 0 .nil) ob nb post hT hF h
     refine T.aD (fun z hz => ?_) _ h1
     obtain ⟨sl', ob', e, hh⟩ := hz
     obtain ⟨ex, σ'⟩ := z
     have fin : (G7 D.P (D.fl f) fn sl' ob' fun s => k s ob' σ'.h.nob).holds post -> T.holds (KP post k) ((vT D.P fn σ').bind fun s => T.ret (s, σ'.h)) := by
      intro hq
      rw [T.ak]
      have eσ : σ' = ⟨view (D.fl f) sl' .nil, ⟨av ob', σ'.h.nob⟩⟩ := e
      have h2 := JV (nb := σ'.h.nob) hq
      rw [← eσ] at h2
      refine T.aD (fun s hs => ?_) _ h2
      exact ⟨ob', congrArg (fun σ : CS => σ.h.obj) eσ, hs⟩
     cases ex with
     | normal => exact fin hh
     | exit id => exact hh.elim
     | ret => exact fin hh
   · exact h.elim
 · exact h.elim
theorem q8 {D : Deps} (hD : D.Ok) : ∀ n : Nat, IRef (zO D.P D.F D.fl D.win D.fuel n) (q9 D n)
 | 0 => fun top base f al ob nb k post _ _ h => h.elim
 | n + 1 => by
   intro top base f al ob nb k post hF hT h
   have h : (match D.F f with
     | some s => tX ⟨zO D.P D.F D.fl D.win D.fuel n, top, base, D.win f n⟩ (s.run (al.map nrm) (av ob) nb f) ob nb k
     | none => NU D.P D.fl D.win D.fuel n (zO D.P D.F D.fl D.win D.fuel n) top base f al ob nb k).holds post := h
   cases hn : D.F f with
   | none =>
     rw [hn] at h
     exact P5 hD (q8 hD n) hF hT hn h
   | some s =>
     rw [hn] at h
     simp only [q9, hn, Lf]
     have ec : (⟨av ob, nb⟩ : HS).cut = ⟨av ob, nb⟩ := by
       show (⟨fun i => bif Nat.blt i nb then av ob i else none, nb⟩ : HS) = ⟨av ob, nb⟩
       congr 1
       funext i
       cases hb : Nat.blt i nb with
       | true => rfl
       | false =>
         have : nb <= i := by
          rcases Nat.lt_or_ge i nb with h | h
          · rw [← Nat.blt_eq] at h; rw [h] at hb; cases hb
          · exact h
         rw [hF i this]; rfl
     rw [ec]
     exact fU (X := ⟨zO D.P D.F D.fl D.win D.fuel n, top, base, D.win f n⟩) (E := ⟨D.P, 0, fun _ _ => none, fun _ _ _ _ _ => .fail, top, base, fun _ => 0, 0, 0⟩) rfl rfl hT h
end
end Rx
