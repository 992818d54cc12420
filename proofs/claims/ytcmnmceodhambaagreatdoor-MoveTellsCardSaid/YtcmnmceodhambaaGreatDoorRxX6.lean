/- Rx, part X6: code and functions, for the kernel: they do as the specification says. -/
import Derived.Test.YtcmnmceodhambaaGreatDoorRxX5
set_option linter.unusedSectionVars false
set_option linter.unusedSimpArgs false
set_option linter.unusedVariables false
namespace Rx
open Go
variable [Glob]
noncomputable section
theorem FOk.of {ob : OB} {h : HS} (hh : h.Ok) (e : h.obj = aB ob) : FOk ob h.nob := fun i hi => by rw [← e]; exact hh i hi
theorem KC.facts {E : CEnv} {fl : Nat} {post : SV × HD -> Prop} {kn : KS} {ke : Nat -> KS} {kr : KS} {σ : CS} {x : Ex × CS} (hT : eU E.top σ.h.nob) (hg : oL E σ x) (h : KC fl post kn ke kr x) :
  ∃ sl ob, x.2 = ⟨view fl sl .nil, ⟨aB ob, x.2.h.nob⟩⟩ /\ (SS kn ke kr x.1 sl ob x.2.h.nob).holds post /\ eU E.top x.2.h.nob /\ FOk ob x.2.h.nob := by
 obtain ⟨sl, ob, e, hh⟩ := h
 refine ⟨sl, ob, e, hh, ⟨?_, hT.2⟩, ?_⟩
 · have := hg.2.2
   have := hT.1
   omega
 · intro i hi
   have := hg.1 i hi
   rw [e] at this
   exact this
def rJ (c : Code) (f : CF) : Prop := ∀ (E : CEnv) (X : EX), E.Ok -> XRef X E -> E.N <= 16777215 -> ∀ (kn : KS) (ke : Nat -> KS) (kr : KS) (sl : Tr SV) (ob : OB) (nb : Nat) (post : SV × HD -> Prop), eU E.top nb -> FOk ob nb ->
 (f E.P X E.fl E.N E.fuel kn ke kr sl ob nb).holds post -> ((aS c).1 E ⟨view E.fl sl .nil, ⟨aB ob, nb⟩⟩).holds (KC E.fl post kn ke kr)
def Oh (c : Code) (g : Program -> EX -> Nat -> Nat -> Nat -> Lo -> CG) : Prop := ∀ (E : CEnv) (X : EX), E.Ok -> XRef X E -> E.N <= 16777215 -> ∀ (kn : KS) (ke : Nat -> KS) (kr : KS) (sl : Tr SV) (lo : Lo) (ob : OB) (nb : Nat) (post : SV × HD -> Prop), eU E.top nb -> FOk ob nb ->
 (g E.P X E.fl E.N E.fuel lo kn ke kr sl ob nb).holds post -> ((aS c).2 E ⟨view E.fl sl lo, ⟨aB ob, nb⟩⟩).holds (KC E.fl post kn ke kr)
theorem lq (c : Code) : Oh c noG := fun _ _ _ _ _ _ _ _ _ _ _ _ _ _ _ h => h.elim
theorem QO (c : Code) : rJ c noC.f := fun _ _ _ _ _ _ _ _ _ _ _ _ _ _ h => h.elim
theorem G9 (rid : Nat) (ops : Array Oper) (dr : Bool) : rJ (.region rid ops dr) (LQ rid ops dr) := by
 intro E X hE hX hN kn ke kr sl ob nb post hT hF h
 obtain ⟨hok, h⟩ := gI h
 rw [dG] at h
 cases dr with
 | true =>
   show T.holds _ ((nk E ops rid ⟨view E.fl sl .nil, ⟨aB ob, nb⟩⟩).bind fun σ' => .ret (Ex.normal, jh E.fl σ'))
   rw [T.ay]
   exact LY (N := E.N) (fu := E.fuel) hE hX hok hN hT hF h
 | false =>
   show T.holds _ ((kX E ops rid 0 ops.toList ⟨view E.fl sl .nil, ⟨aB ob, nb⟩⟩).bind fun σ' => .ret (Ex.normal, jh E.fl σ'))
   rw [T.ay]
   refine T.aG (fun z hz => ?_) _ (tJ hE (rid := rid) hX hok hN ops.toList 0 sl .nil ob nb (xI hok) hT hF h)
   obtain ⟨sl', lo', ob', e, hh⟩ := hz
   show KC E.fl post kn ke kr (Ex.normal, jh E.fl z)
   rw [e, tq]
   exact ⟨sl', ob', rfl, hh⟩
theorem NM {a b : Code} {x y : CP} (hx : rJ a x.f) (hy : rJ b y.f) : rJ (.seq a b) (fun P X fl N fu kn ke kr => x.f P X fl N fu (y.f P X fl N fu kn ke kr) ke kr) := by
 intro E X hE hX hN kn ke kr sl ob nb post hT hF h
 show T.holds _ (((aS a).1 E ⟨view E.fl sl .nil, ⟨aB ob, nb⟩⟩).bind fun x => match x.1 with
   | .normal => (aS b).1 E x.2
   | e => .ret (e, x.2))
 rw [T.ay]
 have h1 := T.bM ((iZ a).1 E hE ⟨view E.fl sl .nil, ⟨aB ob, nb⟩⟩ hF) (hx E X hE hX hN _ _ _ sl ob nb post hT hF h)
 refine T.aG (fun z hz => ?_) _ h1
 obtain ⟨sl', ob', e, hh, hT', hF'⟩ := KC.facts hT hz.1 hz.2
 obtain ⟨ex, σ'⟩ := z
 cases ex with
 | normal =>
   show T.holds _ ((aS b).1 E σ')
   rw [show σ' = _ from e]
   exact hy E X hE hX hN _ _ _ sl' ob' _ post hT' hF' hh
 | exit k => exact ⟨sl', ob', e, hh⟩
 | ret => exact ⟨sl', ob', e, hh⟩
theorem M8 {a b : Code} {y : CP} (hy : rJ b y.f) : Oh (.seq a b) (fun P X fl N fu lo kn ke kr => KY a P X fl N fu lo (y.f P X fl N fu kn ke kr) ke kr) := by
 intro E X hE hX hN kn ke kr sl lo ob nb post hT hF h
 show T.holds _ ((mR E a ⟨view E.fl sl lo, ⟨aB ob, nb⟩⟩).bind fun σ' => (aS b).1 E (jh E.fl σ'))
 have h : (KY a E.P X E.fl E.N E.fuel lo (y.f E.P X E.fl E.N E.fuel kn ke kr) ke kr sl ob nb).holds post := h
 cases a with
 | region rid ops dr =>
   cases dr with
   | true => exact h.elim
   | false =>
     unfold KY at h
     unfold mR
     cases hl : ops.toList with
     | nil => simp only [hl] at h; exact h.elim
     | cons o l =>
       simp only [hl] at h ⊢
       obtain ⟨hok, h⟩ := gI h
       have hd : ∀ q ∈ l, fH E.N q.dst = true := fun q hq => xI hok q (by rw [hl]; simp [hq])
       have h1 := T.bM (iG hE (ops := ops) (rid := rid) l 1 ⟨view E.fl sl lo, ⟨aB ob, nb⟩⟩ hF) (tJ hE (rid := rid) hX hok hN l 1 sl lo ob nb hd hT hF h)
       rw [T.ay]
       refine T.aG (fun z hz => ?_) _ h1
       obtain ⟨⟨g1, g2, g3⟩, sl', lo', ob', e, hh⟩ := hz
       have eh : z.h = ⟨aB ob', z.h.nob⟩ := congrArg CS.h e
       have hT' : eU E.top z.h.nob := ⟨by
        have g3 : z.h.nob <= max E.top nb := g3
        have := hT.1
        omega, hT.2⟩
       have hF' : FOk ob' z.h.nob := fun i hi => by
        have := g1 i hi
        rw [eh] at this
        exact this
       rw [e, tq]
       exact hy E X hE hX hN _ _ _ sl' ob' _ post hT' hF' hh
 | _ => exact h.elim
theorem MJ {c : Operand} {a b : Code} {x y : CP} (hx : rJ a x.f) (hy : rJ b y.f) : rJ (.cond c a b) (PZ c x y) := by
 intro E X hE hX hN kn ke kr sl ob nb post hT hF h
 show T.holds _ (match evC (view E.fl sl .nil) c with
   | .kb q => bif q then (aS a).1 E ⟨view E.fl sl .nil, ⟨aB ob, nb⟩⟩ else (aS b).1 E ⟨view E.fl sl .nil, ⟨aB ob, nb⟩⟩
   | _ => .fail)
 unfold PZ at h
 rw [JJ, Uo] at h
 split at h
 · rename_i q hq
   simp only [hq]
   rw [dG] at h
   cases q with
   | true => exact hx E X hE hX hN _ _ _ sl ob nb post hT hF h
   | false => exact hy E X hE hX hN _ _ _ sl ob nb post hT hF h
 · exact h.elim
theorem Jg {id : Nat} {c : Code} {x : CP} (hx : rJ c x.f) : rJ (.block id c) (fun P X fl N fu kn ke kr => x.f P X fl N fu kn (fun k sl ob nb => BR (Nat.beq k id) (kn sl ob nb) (ke k sl ob nb)) kr) := by
 intro E X hE hX hN kn ke kr sl ob nb post hT hF h
 show T.holds _ (((aS c).1 E ⟨view E.fl sl .nil, ⟨aB ob, nb⟩⟩).bind fun x => match x.1 with
   | .exit k => bif Nat.beq k id then .ret (.normal, x.2) else .ret (.exit k, x.2)
   | e => .ret (e, x.2))
 rw [T.ay]
 refine T.aG (fun z hz => ?_) _ (hx E X hE hX hN _ _ _ sl ob nb post hT hF h)
 obtain ⟨sl', ob', e, hh⟩ := hz
 obtain ⟨ex, σ'⟩ := z
 cases ex with
 | normal => exact ⟨sl', ob', e, hh⟩
 | exit k =>
   have hh : (BR (Nat.beq k id) (kn sl' ob' σ'.h.nob) (ke k sl' ob' σ'.h.nob)).holds post := hh
   rw [dG] at hh
   show T.holds _ (bif Nat.beq k id then T.ret (Ex.normal, σ') else .ret (.exit k, σ'))
   cases hk : Nat.beq k id with
   | true => rw [hk] at hh; exact ⟨sl', ob', e, hh⟩
   | false => rw [hk] at hh; exact ⟨sl', ob', e, hh⟩
 | ret => exact ⟨sl', ob', e, hh⟩
theorem BG {c : Code} {x : CP} (hx : rJ c x.f) {E : CEnv} {X : EX} (hE : E.Ok) (hX : XRef X E) (hN : E.N <= 16777215) : ∀ (n : Nat) (kn : KS) (ke : Nat -> KS) (kr : KS) (sl : Tr SV) (ob : OB) (nb : Nat) (post : SV × HD -> Prop), eU E.top nb -> FOk ob nb ->
  (Ph (x.f E.P X E.fl E.N E.fuel) n kn ke kr sl ob nb).holds post -> (nH ((aS c).1 E) n ⟨view E.fl sl .nil, ⟨aB ob, nb⟩⟩).holds (KC E.fl post kn ke kr)
 | 0, _, _, _, _, _, _, _, _, _, h => h.elim
 | n + 1, kn, ke, kr, sl, ob, nb, post, hT, hF, h => by
   have h : (x.f E.P X E.fl E.N E.fuel (Ph (x.f E.P X E.fl E.N E.fuel) n kn ke kr) ke kr sl ob nb).holds post := h
   simp only [nH, T.ay]
   have h1 := T.bM ((iZ c).1 E hE ⟨view E.fl sl .nil, ⟨aB ob, nb⟩⟩ hF) (hx E X hE hX hN _ _ _ sl ob nb post hT hF h)
   refine T.aG (fun z hz => ?_) _ h1
   obtain ⟨sl', ob', e, hh, hT', hF'⟩ := KC.facts hT hz.1 hz.2
   obtain ⟨ex, σ'⟩ := z
   cases ex with
   | normal =>
     show T.holds _ (nH ((aS c).1 E) n σ')
     rw [show σ' = _ from e]
     exact BG hx hE hX hN n kn ke kr sl' ob' _ post hT' hF' hh
   | exit k => exact ⟨sl', ob', e, hh⟩
   | ret => exact ⟨sl', ob', e, hh⟩
theorem Dg (fl : Nat) (sl : Tr SV) : ∀ (l : List Nat), (∀ t ∈ l, t < 16777215) -> view fl (rT fl sl l) .nil = nV l (view fl sl .nil)
 | [], _ => by funext j; rfl
 | t :: l, h => by
   have ih := Dg fl sl l fun x hx => h x (by simp [hx])
   funext j
   have ihj : BS (gG fl j) (iB (rT fl sl l) j) .junk = (bif jg j l then SV.junk else BS (gG fl j) (iB sl j) .junk) := congrFun ih j
   show BS (gG fl j) (iB (BTS (gG fl t) (qo (rT fl sl l) t .junk) (rT fl sl l)) j) .junk = (bif (bif Nat.beq t j then true else jg j l) then SV.junk else BS (gG fl j) (iB sl j) .junk)
   by_cases e : j = t
   · subst e
     rw [Nat.beq_refl]
     cases hb : gG fl j with
     | false => rfl
     | true =>
       show iB (qo (rT fl sl l) j .junk) j = SV.junk
       rw [sw j (h j (by simp)), if_pos rfl]
   · rw [dM (fun h => e h.symm), cond_false, ← ihj]
     cases hb : gG fl t with
     | false => rfl
     | true =>
       show BS (gG fl j) (iB (qo (rT fl sl l) t .junk) j) .junk = _
       rw [sw j (h t (by simp)), if_neg e]
theorem Js (f : Nat -> R -> R) (u : R) (n : Nat) : KM f u (n + 1) = f n (KM f u n) := rfl
theorem Qo {c : Code} {x : CP} (hx : Oh c x.g) (t : Tmp) (d : Option Tmp) {E : CEnv} {X : EX} (hE : E.Ok) (hX : XRef X E) (hN : E.N <= 16777215)
  (kn : KS) (ke : Nat -> KS) (kr : KS) (sl : Tr SV) (ob : OB) (nb : Nat) (post : SV × HD -> Prop) (hT : eU E.top nb) (hF : FOk ob nb)
  (h : (Tq c x.g t d E.P X E.fl E.N E.fuel kn ke kr sl ob nb).holds post) : (iP c (aS c).2 E ⟨view E.fl sl .nil, ⟨aB ob, nb⟩⟩ t d).holds (KC E.fl post kn ke kr) := by
 unfold Tq at h
 obtain ⟨hlt0, h⟩ := gI h
 have hlt : ∀ t ∈ bJ c, t < 16777215 := fun t ht => by
  have := List.all_eq_true.1 hlt0 t ht
  simpa [Nat.blt_eq] using this
 unfold iP
 split at h
 · rename_i q hq
   simp only [hq]
   split at h
   · rename_i m n cur hqo
     simp only [hqo]
     split at h
     · rename_i kt vt l hmo
       simp only [hmo]
       obtain ⟨hb, h⟩ := gI h
       rw [hX.base, hX.top] at hb
       rw [show (Nat.beq n l.length && (Nat.ble E.base q && (Nat.ble E.base nb && (Nat.blt q nb && (Nat.blt q E.top && (fH E.N d && !jg t (bJ c))))))) = true from hb, cond_true]
       simp only [Bool.and_eq_true, Nat.blt_eq] at hb
       have hqn : q < nb := hb.2.2.2.1
       have hdd : fH E.N d = true := hb.2.2.2.2.2.1
       have hq16 : q < 16777215 := by have := hT.1; have := hT.2; omega
       have st : ∀ (o : Option Ob), (upd (aB ob) q o) = aB (lJ ob q o) := fun o => by
        funext j
        rw [nW j hq16]
        by_cases e : j = q
        · subst e; rw [upd_same, if_pos rfl]
        · rw [bI _ _ e, if_neg e]
       have hF' : ∀ (o : Option Ob), FOk (lJ ob q o) nb := fun o i hi => by
        rw [nW i hq16, if_neg (by omega)]
        exact hF i hi
       have put : ∀ (E' : CEnv) (ih : IH) (s : SV) (o : Option Ob) (k : KS), (Ei E.fl d ih (rT E.fl sl (bJ c)) .nil s (lJ ob q o) nb k).holds post ->
         ∃ sl' lo', (⟨putT d s (nV (bJ c) (view E.fl sl .nil)), ⟨upd (aB ob) q o, nb⟩⟩ : CS) = ⟨view E.fl sl' lo', ⟨aB (lJ ob q o), nb⟩⟩ /\ (ih sl' lo' (lJ ob q o) nb k).holds post := by
        intro E' ih s o k hp
        rw [st o, ← Dg E.fl sl (bJ c) hlt]
        cases d with
        | none => exact ⟨_, _, rfl, hp⟩
        | some d =>
          have hd2 : d < 16777215 := Nat.lt_of_lt_of_le (show d < E.N by simpa [fH, Nat.blt_eq] using hdd) hN
          have hp : (M6 s fun s => BR (gG E.fl d) (ih (qo (rT E.fl sl (bJ c)) d s) .nil (lJ ob q o) nb k) (ih (rT E.fl sl (bJ c)) (.cons d s .nil) (lJ ob q o) nb k)).holds post := hp
          rw [Lm, dG] at hp
          obtain ⟨h1, h2⟩ := Ad (fl := E.fl) (sl := rT E.fl sl (bJ c)) (lo := .nil) (s := s) hd2
          cases hbb : gG E.fl d with
          | true => rw [hbb] at hp; exact ⟨_, _, by rw [← h1 hbb], hp⟩
          | false => rw [hbb] at hp; exact ⟨_, _, by rw [← h2 hbb], hp⟩
       have hend : ∀ r : R, r.holds post -> r = (Ei E.fl d (fun sl lo ob nb kn => x.g E.P X E.fl E.N E.fuel lo kn ke kr sl ob nb) (rT E.fl sl (bJ c)) .nil (.tup [.kb false]) (lJ ob q (some (.itx m n none))) nb (fun _ _ _ => .fail)) ->
         T.holds (KC E.fl post kn ke kr) (((aS c).2 E ⟨putT d (.tup [.kb false]) (nV (bJ c) (view E.fl sl .nil)), ⟨upd (aB ob) q (some (.itx m n none)), nb⟩⟩).bind fun x => match x.1 with
          | .normal => .fail
          | e => .ret (e, x.2)) := by
        rintro r hr rfl
        obtain ⟨sl', lo', e, hh⟩ := put E _ _ _ _ hr
        rw [e, T.ay]
        refine T.aG (fun z hz => ?_) _ (hx E X hE hX hN _ _ _ sl' lo' _ nb post hT (hF' _) hh)
        obtain ⟨sl2, ob2, e2, hh2⟩ := hz
        obtain ⟨ex, σ'⟩ := z
        cases ex with
        | normal => exact hh2.elim
        | exit k => exact ⟨sl2, ob2, e2, hh2⟩
        | ret => exact ⟨sl2, ob2, e2, hh2⟩
       have hXb : XRef ⟨X.I, X.top, nb, X.W⟩ { E with base := nb } := ⟨hX.I, hX.top, rfl, hX.W, hX.K⟩
       have rounds : ∀ j : Nat, (KM (fun k r => Ei E.fl d (fun sl lo ob nb' kn => x.g E.P ⟨X.I, X.top, nb, X.W⟩ E.fl E.N E.fuel lo kn (fun _ _ _ _ => .fail) (fun _ _ _ => .fail) sl ob nb') (rT E.fl sl (bJ c)) .nil
          (.tup [.kb true, fU kt (bW kt vt l k).1, fU vt (bW kt vt l k).2]) (lJ ob q (some (.itx m n (some k)))) nb (fun _ _ _ => r))
         (Ei E.fl d (fun sl lo ob nb kn => x.g E.P X E.fl E.N E.fuel lo kn ke kr sl ob nb) (rT E.fl sl (bJ c)) .nil (.tup [.kb false]) (lJ ob q (some (.itx m n none))) nb (fun _ _ _ => .fail)) j).holds post ->
         T.holds (KC E.fl post kn ke kr) (wM ((aS c).2 { E with base := nb }) (fun k => ⟨putT d (.tup [.kb true, fU kt (bW kt vt l k).1, fU vt (bW kt vt l k).2]) (nV (bJ c) (view E.fl sl .nil)), ⟨upd (aB ob) q (some (.itx m n (some k))), nb⟩⟩)
          (((aS c).2 E ⟨putT d (.tup [.kb false]) (nV (bJ c) (view E.fl sl .nil)), ⟨upd (aB ob) q (some (.itx m n none)), nb⟩⟩).bind fun x => match x.1 with
            | .normal => .fail
            | e => .ret (e, x.2)) j) := by
        intro j
        induction j with
        | zero => intro hh; exact hend _ hh rfl
        | succ j ihj =>
          intro hh
          rw [Js] at hh
          obtain ⟨sl', lo', e, hh⟩ := put E _ _ _ _ hh
          simp only [wM, T.ay]
          rw [e]
          refine T.aG (fun z hz => ?_) _ (hx { E with base := nb } _ (hE.Al _) hXb hN _ _ _ sl' lo' _ nb post hT (hF' _) hh)
          obtain ⟨sl2, ob2, e2, hh2⟩ := hz
          obtain ⟨ex, σ'⟩ := z
          cases ex with
          | normal => exact ihj hh2
          | exit k => exact hh2.elim
          | ret => exact hh2.elim
       exact rounds n h
     · exact h.elim
   · exact h.elim
 · exact h.elim
theorem MV {c : Code} {x : CP} (hx : rJ c x.f) (hg : Oh c x.g) : rJ (.loop c) (Oq c x) := by
 intro E X hE hX hN kn ke kr sl ob nb post hT hF h
 show T.holds _ (match pR c with
   | some (t, d) => iP c (aS c).2 E ⟨view E.fl sl .nil, ⟨aB ob, nb⟩⟩ t d
   | none => nH ((aS c).1 E) E.fuel ⟨view E.fl sl .nil, ⟨aB ob, nb⟩⟩)
 unfold Oq at h
 cases hh : pR c with
 | none =>
   simp only [hh] at h ⊢
   exact BG hx hE hX hN _ kn ke kr sl ob nb post hT hF h
 | some y =>
   obtain ⟨t, d⟩ := y
   simp only [hh] at h ⊢
   exact Qo hg t d hE hX hN kn ke kr sl ob nb post hT hF h
theorem TT : ∀ c : Code, rJ c (cg c).f /\ Oh c (cg c).g := by
 intro c
 induction c with
 | skip => exact ⟨fun E X hE hX hN kn ke kr sl ob nb post hT hF h => ⟨sl, ob, rfl, h⟩, lq _⟩
 | region rid ops dr => exact ⟨G9 rid ops dr, lq _⟩
 | seq a b iha ihb => exact ⟨NM iha.1 ihb.1, M8 ihb.1⟩
 | cond c a b iha ihb => exact ⟨MJ iha.1 ihb.1, lq _⟩
 | block id c ih => exact ⟨Jg ih.1, lq _⟩
 | loop c ih => exact ⟨MV ih.1 ih.2, lq _⟩
 | exit id => exact ⟨fun E X hE hX hN kn ke kr sl ob nb post hT hF h => ⟨sl, ob, rfl, h⟩, lq _⟩
 | ret => exact ⟨fun E X hE hX hN kn ke kr sl ob nb post hT hF h => ⟨sl, ob, rfl, h⟩, lq _⟩
 | _ => exact ⟨QO _, lq _⟩
theorem Na {P : Program} {fl : Nat} {sl : Tr SV} {ob : OB} {nb : Nat} {r : ResultVar} {k : SV -> R} {post : SV × HD -> Prop} (h : (Nt P fl sl ob r k).holds post) : (AX P ⟨view fl sl .nil, ⟨aB ob, nb⟩⟩ r).holds fun s => (k s).holds post := by
 cases r with
 | tmp t => exact h
 | cell a t =>
   have h : (zT (fq P (aB ob) t (view fl sl .nil a)) fun s => k (nK s)).holds post := h
   rw [nZ _ (Dk _ _ _ _), T.ay] at h
   show T.holds _ ((fq P (aB ob) t (view fl sl .nil a)).bind fun s => .ret (nK s))
   rw [T.ay]
   exact h
theorem Co {P : Program} {fl : Nat} {sl : Tr SV} {ob : OB} {nb : Nat} {post : SV × HD -> Prop} : ∀ {l : List ResultVar} {k : List SV -> R}, (Oy P fl sl ob l k).holds post -> (tZ P ⟨view fl sl .nil, ⟨aB ob, nb⟩⟩ l).holds fun s => (k s).holds post
 | [], k, h => h
 | r :: l, k, h => by
   have h1 := Na (nb := nb) (show (Nt P fl sl ob r fun s => Oy P fl sl ob l fun l => k (s :: l)).holds post from h)
   simp only [tZ, T.ay]
   refine T.aG (fun s hs => ?_) _ h1
   exact T.aG (fun l hl => hl) _ (Co (nb := nb) hs)
theorem Pd {P : Program} {fl : Nat} {fn : Func} {sl : Tr SV} {ob : OB} {nb : Nat} {k : SV -> R} {post : SV × HD -> Prop} (h : (Qx P fl fn sl ob k).holds post) : (Bn P fn ⟨view fl sl .nil, ⟨aB ob, nb⟩⟩).holds fun s => (k s).holds post := by
 unfold Bn
 rw [T.ay]
 refine T.aG (fun l hl => ?_) _ (Co (nb := nb) h)
 match l, hl with
 | [s], hl => exact hl
 | [], hl => exact hl
 | _ :: _ :: _, hl => exact hl
theorem CX : ∀ (l : List SV) (i : Nat) (t : Tr SV) (j : Nat), i + l.length <= 16777215 -> iB (Cb l i t) j = if i <= j /\ j < i + l.length then l.getD (j - i) .junk else iB t j
 | [], i, t, j, _ => by
   rw [if_neg (by simp only [List.length_nil]; omega)]
   rfl
 | s :: l, i, t, j, h => by
   simp only [List.length_cons] at h ⊢
   show iB (Cb l (i + 1) (qo t i s)) j = _
   rw [CX l (i + 1) _ j (by omega), sw j (by omega)]
   by_cases e : j = i
   · subst e
     rw [if_neg (by omega), if_pos rfl, if_pos (by omega)]
     simp
   · by_cases h1 : i + 1 <= j /\ j < i + 1 + l.length
     · rw [if_pos h1, if_pos (by omega)]
       have : j - i = (j - (i + 1)) + 1 := by omega
       rw [this]
       simp
     · rw [if_neg h1, if_neg e, if_neg (by omega)]
theorem MU {D : Deps} (hD : D.Ok) {n : Nat} {I : II} (hI : IRef I (AO D n)) {top base : Nat} {f : FuncId} {al : List SV} {ob : OB} {nb : Nat} {k : KK} {post : SV × HD -> Prop} (hF : FOk ob nb) (hT : eU top nb) (hn : D.F f = none)
  (h : (LA D.P D.fl D.win D.fuel n I top base f al ob nb k).holds post) : (AO D (n + 1) top base f al ⟨aB ob, nb⟩).holds (KP post k) := by
 unfold LA at h
 simp only [AO, hn]
 split at h
 · rename_i fn hf
   simp only [hf]
   split at h
   · rename_i c hb
     simp only [hb]
     obtain ⟨hc, h⟩ := gI h
     simp only [Bool.and_eq_true] at hc
     obtain ⟨c1, c2, c3⟩ := hc
     rw [show (callable D.P f && Nat.ble al.length fn.ntmps) = true by rw [c1, c2]; rfl, cond_true, T.ay]
     have c2 := Nat.le_of_ble_eq_true c2
     have c3 := Nat.le_of_ble_eq_true c3
     let E : CEnv := ⟨D.P, fn.ntmps, fun _ _ => none, AO D n, top, base, D.win f n, D.fuel, D.fl f⟩
     have hE : E.Ok := ⟨fun rid i s hs => (by cases hs), fun top base f al h => (mV hD n top base f al h).1, fun top base f al h hh => (mV hD n top base f al h).2⟩
     have hX : XRef ⟨I, top, base, D.win f n⟩ E := ⟨hI, rfl, rfl, rfl, fun _ _ => rfl⟩
     have e0 : jh (D.fl f) ⟨fun j => al.getD j .junk, (⟨aB ob, nb⟩ : HS).cut⟩ = ⟨view E.fl (Cb al 0 .nil) .nil, ⟨aB ob, nb⟩⟩ := by
        unfold jh
        congr 1
        · funext j
          show (bif gG (D.fl f) j then al.getD j .junk else .junk) = BS (gG (D.fl f) j) (iB (Cb al 0 .nil) j) .junk
          rw [CX al 0 .nil j (by omega)]
          cases gG (D.fl f) j with
          | false => rfl
          | true =>
            show al.getD j .junk = if 0 <= j /\ j < 0 + al.length then al.getD (j - 0) .junk else iB .nil j
            by_cases hj : j < al.length
            · rw [if_pos (by omega)]; rfl
            · rw [if_neg (by omega)]
              simp [List.getD, List.getElem?_eq_none (by omega : al.length <= j)]
              rfl
        · show (⟨fun i => bif Nat.blt i nb then aB ob i else none, nb⟩ : HS) = ⟨aB ob, nb⟩
          congr 1
          funext i
          cases hb : Nat.blt i nb with
          | true => rfl
          | false =>
            have : nb <= i := by
             rcases Nat.lt_or_ge i nb with h | h
             · rw [← Nat.blt_eq] at h; rw [h] at hb; cases hb
             · exact h
            rw [hF i this]; rfl
     rw [e0]
     have h1 := (TT c).1 E ⟨I, top, base, D.win f n⟩ hE hX c3 _ _ _ (Cb al 0 .nil) ob nb post hT hF h
     refine T.aG (fun z hz => ?_) _ h1
     obtain ⟨sl', ob', e, hh⟩ := hz
     obtain ⟨ex, σ'⟩ := z
     have fin : (Qx D.P (D.fl f) fn sl' ob' fun s => k s ob' σ'.h.nob).holds post -> T.holds (KP post k) ((Bn D.P fn σ').bind fun s => T.ret (s, σ'.h)) := by
      intro hq
      rw [T.ay]
      have eσ : σ' = ⟨view (D.fl f) sl' .nil, ⟨aB ob', σ'.h.nob⟩⟩ := e
      have h2 := Pd (nb := σ'.h.nob) hq
      rw [← eσ] at h2
      refine T.aG (fun s hs => ?_) _ h2
      exact ⟨ob', congrArg (fun σ : CS => σ.h.obj) eσ, hs⟩
     cases ex with
     | normal => exact fin hh
     | exit id => exact hh.elim
     | ret => exact fin hh
   · exact h.elim
 · exact h.elim
theorem tT {D : Deps} (hD : D.Ok) : ∀ n : Nat, IRef (EI D.P D.F D.fl D.win D.fuel n) (AO D n)
 | 0 => fun top base f al ob nb k post _ _ h => h.elim
 | n + 1 => by
   intro top base f al ob nb k post hF hT h
   have h : (match D.F f with
     | some s => uW ⟨EI D.P D.F D.fl D.win D.fuel n, top, base, D.win f n⟩ (s.run (al.map nrm) (aB ob) nb f) ob nb k
     | none => LA D.P D.fl D.win D.fuel n (EI D.P D.F D.fl D.win D.fuel n) top base f al ob nb k).holds post := h
   cases hn : D.F f with
   | none =>
     rw [hn] at h
     exact MU hD (tT hD n) hF hT hn h
   | some s =>
     rw [hn] at h
     simp only [AO, hn, Gg]
     have ec : (⟨aB ob, nb⟩ : HS).cut = ⟨aB ob, nb⟩ := by
       show (⟨fun i => bif Nat.blt i nb then aB ob i else none, nb⟩ : HS) = ⟨aB ob, nb⟩
       congr 1
       funext i
       cases hb : Nat.blt i nb with
       | true => rfl
       | false =>
         have : nb <= i := by
          rcases Nat.lt_or_ge i nb with h | h
          · rw [← Nat.blt_eq] at h; rw [h] at hb; cases hb
          · exact h
         rw [hF i this]; rfl
     rw [ec]
     exact fT (X := ⟨EI D.P D.F D.fl D.win D.fuel n, top, base, D.win f n⟩) (E := ⟨D.P, 0, fun _ _ => none, fun _ _ _ _ _ => .fail, top, base, fun _ => 0, 0, 0⟩) rfl rfl hT h
end
end Rx
