/- Rx, part R: code; loops. -/
import Derived.Test.YtnalaogenpicfaaDoorRxQ
import Derived.Deep.LoopGhost
set_option linter.unusedSectionVars false
set_option linter.unusedSimpArgs false
set_option linter.unusedVariables false
namespace Rx
open Go
variable [Glob]

def Ex.toExit : Ex → Exit
  | .normal => .normal
  | .exit id => .exit id
  | .ret => .ret

def firstRid : Code → Nat
  | .region id _ _ => id
  | .seq a b => match firstRid a with
    | 0 => firstRid b
    | n + 1 => n + 1
  | .cond _ a b => match firstRid a with
    | 0 => firstRid b
    | n + 1 => n + 1
  | .block _ c => firstRid c
  | .loop c => firstRid c
  | .scope c => firstRid c
  | _ => 0

/-! ## states that are written out -/
def mkSl : List (Nat × SV) → Tr SV
  | [] => .nil
  | (j, s) :: l => (mkSl l).set .junk CAP j s
def mkOb : Nat → List (Option Ob) → Tr (Option Ob)
  | _, [] => .nil
  | i, some ob :: l => (mkOb (i + 1) l).set none CAP i (some ob)
  | i, none :: l => mkOb (i + 1) l
def mkSt (keep : List (Nat × SV)) (obs : List (Option Ob)) : St := ⟨mkSl keep, mkOb 0 obs, obs.length⟩

theorem nil_get {α : Type} (d : α) (j : Nat) : (Tr.nil : Tr α).get d j = d := by cases j <;> rfl

theorem mkSl_get : ∀ (l : List (Nat × SV)) (j : Nat), (l.all fun x => capOk x.1) = true → (mkSl l).get .junk j = (l.lookup j).getD .junk
  | [], j, _ => nil_get _ _
  | (i, s) :: l, j, h => by
    simp only [List.all_cons, Bool.and_eq_true] at h
    simp only [mkSl]
    rw [Tr.get_set _ _ _ _ _ _ (capOk_lt h.1)]
    by_cases hj : j = i
    · subst hj; simp [List.lookup]
    · have : (j == i) = false := by simpa using hj
      simp only [hj, if_false, List.lookup, this]
      exact mkSl_get l j h.2

theorem mkOb_get : ∀ (l : List (Option Ob)) (i j : Nat), capOk (i + l.length) = true → (mkOb i l).get none j = if i ≤ j then (l[j - i]?).bind id else none
  | [], i, j, _ => by rw [show mkOb i [] = Tr.nil from rfl, nil_get]; simp
  | x :: l, i, j, h => by
    have h' : capOk (i + 1 + l.length) = true := by rw [← h]; congr 1; simp; omega
    have ih := mkOb_get l (i + 1) j h'
    have key : (mkOb (i + 1) l).get none j = if i + 1 ≤ j then (l[j - (i + 1)]?).bind id else none := ih
    have hi : capOk i = true := by
      simp only [capOk, Nat.blt_eq] at h ⊢; simp at h; omega
    cases x with
    | none =>
      simp only [mkOb]
      rw [key]
      by_cases h1 : i + 1 ≤ j
      · rw [if_pos h1, if_pos (by omega)]
        have : j - i = (j - (i + 1)) + 1 := by omega
        rw [this]; rfl
      · rw [if_neg h1]
        by_cases h2 : i ≤ j
        · have : j - i = 0 := by omega
          rw [if_pos h2, this]; rfl
        · rw [if_neg h2]
    | some ob =>
      simp only [mkOb]
      rw [Tr.get_set _ _ _ _ _ _ (capOk_lt hi)]
      by_cases hj : j = i
      · subst hj; simp
      · rw [if_neg hj, key]
        by_cases h1 : i + 1 ≤ j
        · rw [if_pos h1, if_pos (by omega)]
          have : j - i = (j - (i + 1)) + 1 := by omega
          rw [this]; rfl
        · rw [if_neg h1, if_neg (by omega)]

/-! ## a state that says less, its objects under places of their own -/
def obAt (g : Nat → Option Ob) (ids : List Nat) (i : Nat) : Option Ob :=
  match g i with
  | some (.cells t cs) => some (.cells t (unrenL ids (thawL g cs)))
  | some ob => unrenOb ids ob
  | none => none

def leOO : List (Option Ob) → List (Option Ob) → Prop
  | [], l' => match l' with
    | [] => True
    | _ => False
  | o :: l, l' => match l' with
    | [] => False
    | o' :: l' => (match o' with
      | none => True
      | some b => match o with
        | none => False
        | some a => leOb a b) ∧ leOO l l'

theorem leOO_get : ∀ {l l' : List (Option Ob)}, leOO l l' → l.length = l'.length ∧ ∀ (p : Nat) ob, l'[p]? = some (some ob) → ∃ o, l[p]? = some (some o) ∧ leOb o ob
  | [], [], _ => ⟨rfl, fun p o' h => by simp at h⟩
  | [], _ :: _, h => by simp only [leOO] at h
  | _ :: _, [], h => by simp only [leOO] at h
  | o :: l, o' :: l', h => by
    simp only [leOO] at h
    obtain ⟨h1, h2⟩ := leOO_get h.2
    refine ⟨by simp [h1], fun p q hp => ?_⟩
    cases p with
    | zero =>
      simp at hp; subst hp
      cases o with
      | none => exact h.1.elim
      | some a => exact ⟨a, rfl, h.1⟩
    | succ p => simpa using h2 p q (by simpa using hp)

mutual
theorem leS_refl : ∀ s : SV, leS s s
  | .dt d => by simp only [leS]; exact leDt_refl d
  | .kb b => by simp only [leS]
  | .ki k n => by simp only [leS]; exact ⟨trivial, trivial⟩
  | .agg l => by simp only [leS]; exact leL_refl l
  | .tup l => by simp only [leS]; exact leL_refl l
  | .fn f l => by simp only [leS]; exact ⟨trivial, leL_refl l⟩
  | .ptr i o => by simp only [leS]; exact ⟨trivial, trivial⟩
  | .nm i => by simp only [leS]
  | .rp i x z o => by simp only [leS]; exact ⟨trivial, trivial, trivial, trivial⟩
  | .el m g => by simp only [leS]; exact ⟨trivial, fun j _ => leDt_refl _⟩
  | .junk => by simp only [leS]
theorem leL_refl : ∀ l : List SV, leL l l
  | [] => by simp only [leL]
  | s :: l => by simp only [leL]; exact ⟨leS_refl s, leL_refl l⟩
end

theorem leOb_refl (o : Ob) : leOb o o := by
  cases o with
  | cells t cs => exact ⟨rfl, leL_refl cs⟩
  | row t sz n f => exact ⟨rfl, rfl, rfl, fun k _ j _ => leDt_refl _⟩
  | frz d => exact leDt_refl d
  | mp kt vt l => rfl
  | it m n s => rfl

theorem leOO_refl : ∀ l : List (Option Ob), leOO l l
  | [] => by simp only [leOO]
  | none :: l => by simp only [leOO]; exact ⟨trivial, leOO_refl l⟩
  | some o :: l => by simp only [leOO]; exact ⟨leOb_refl o, leOO_refl l⟩

theorem obAt_holds {g : Nat → Option Ob} {ids : List Nat} {C1 C : Ctx} {w : World} (hg : ObsOk C w g) (u : Under ids C1 C) (hW : ∀ b, C1.W b → C.W b) {p i : Nat} (hi : ids[p]? = some i) {ob : Ob} (h : obAt g ids i = some ob) : obHolds C1 w p ob := by
  unfold obAt at h
  split at h
  · rename_i t cs hgi
    simp only [Option.some.injEq] at h
    subst h
    obtain ⟨b, e1, e2, vs, e3, e4⟩ := hg i _ hgi
    exact ⟨b, (u.own p i b hi).2 e1, u.back p i _ hi e2, vs, e3, unrenL_rel u hW _ vs (thawL_rel cs vs (fun j _ ob hj => hg j ob hj) e4)⟩
  · rename_i o _ hgi
    exact unrenOb_holds u hW hi h (hg i _ hgi)
  · cases h

def leK (ids : List Nat) (g : Nat → Option Ob) : List (Nat × SV) → St → Prop
  | [], _ => True
  | (j, s) :: l, σ => leS (unren ids (nrm (thaw g (σ.get j)))) s ∧ leK ids g l σ

theorem leK_get {ids : List Nat} {g : Nat → Option Ob} {σ : St} : ∀ {l : List (Nat × SV)} {j : Nat} {s : SV}, leK ids g l σ → l.lookup j = some s → leS (unren ids (nrm (thaw g (σ.get j)))) s
  | [], _, _, _, h => by simp at h
  | (i, t) :: l, j, s, h, hl => by
    simp only [List.lookup] at hl
    split at hl
    · rename_i hji
      have : j = i := by simpa using hji
      injection hl with hl
      subst hl; subst this
      exact h.1
    · exact leK_get h.2 hl

def rangeN : Nat → List Nat
  | 0 => []
  | n + 1 => rangeN n ++ [n]

/-- does the list begin with i, i + 1, .., up to n? -/
def opens : Nat → Nat → List Nat → Bool
  | _, 0, _ => true
  | i, n + 1, x :: l => Nat.beq x i && opens (i + 1) n l
  | _, _ + 1, [] => false

theorem opens_get : ∀ {n i : Nat} {l : List Nat}, opens i n l = true → ∀ k, k < n → l[k]? = some (i + k)
  | 0, _, _, _, k, hk => by omega
  | n + 1, i, x :: l, h, k, hk => by
    simp only [opens, Bool.and_eq_true] at h
    have := Nat.eq_of_beq_eq_true h.1
    subst this
    cases k with
    | zero => rfl
    | succ k =>
      have := opens_get h.2 k (by omega)
      simp only [List.getElem?_cons_succ, this]
      congr 1; omega
  | n + 1, i, [], h, _, _ => by cases h

def stChk (E : Env) (ids : List Nat) (keep : List (Nat × SV)) (obs : List (Option Ob)) : Bool :=
  (keep.all fun x => capOk x.1) && Nat.beq ids.length obs.length && capOk obs.length && opens 0 E.nb ids && nodup ids

/-- keep and obs say no more than σ, the objects' numbers there being ids -/
structure Wk (E : Env) (σ : St) (ids : List Nat) (keep : List (Nat × SV)) (obs : List (Option Ob)) : Prop where
  chk : stChk E ids keep obs = true
  sl : leK ids σ.obj keep σ
  ob : leOO (ids.map (obAt σ.obj ids)) obs

theorem Inv.wk {E : Env} {C : Ctx} {σ : St} {a : Act} {w : World} {ids : List Nat} {keep : List (Nat × SV)} {obs : List (Option Ob)} (h : Inv E.N C σ a w) (hw : Wk E σ ids keep obs) :
    Inv E.N (C.sub ids C.W0) (mkSt keep obs) a w ∧ ∀ C0 w0, (∀ i, E.nb ≤ i → C0.ν i = none) → Step Top C0 w0 C w → Step Top C0 w0 (C.sub ids C.W0) w := by
  obtain ⟨hc, h1, h2⟩ := hw
  simp only [stChk, Bool.and_eq_true] at hc
  obtain ⟨⟨⟨⟨c1, c2⟩, c3⟩, c4⟩, c5⟩ := hc
  have c2 := Nat.eq_of_beq_eq_true c2
  have hu := sub_under C ids C.W0
  have hs : ∀ i b, (C.sub ids C.W0).ρ i = some b → ∃ j, ids[i]? = some j ∧ C.ρ j = some b := fun i b h => by
    obtain ⟨j, h1, h2⟩ := Option.bind_eq_some_iff.1 h
    exact ⟨j, h1, h2⟩
  have hW : ∀ b, (C.sub ids C.W0).W b → C.W b := by
    rintro b (hb | ⟨i, hi⟩)
    · exact .inl hb
    · obtain ⟨j, _, hj⟩ := hs i b hi
      exact .inr ⟨j, hj⟩
  have hwf := sub_wf h.wf c5 (W0 := C.W0) fun b hb => ⟨.inl hb, fun ⟨j, _, hj⟩ => h.wf.dis j b hj hb⟩
  refine ⟨⟨hwf, h.sz, h.df, fun j => ?_, fun i ob hob => ?_, fun i hi => sub_ge (by rw [c2]; exact hi)⟩, fun C0 w0 h0 hst => ?_⟩
  · have hget : (mkSt keep obs).get j = (keep.lookup j).getD .junk := mkSl_get keep j c1
    rw [hget]
    cases hl : keep.lookup j with
    | none => trivial
    | some s => exact leS_rel _ _ _ (leK_get h1 hl) (unren_rel hu hW _ _ (nrm_rel (thaw_rel _ _ (fun i _ ob hob => h.ob i ob hob) (h.sl j))))
  · have hob' : (obs[i]?).bind id = some ob := by
      have := mkOb_get obs 0 i (by simpa using c3)
      rw [← show (mkSt keep obs).obj i = (obs[i]?).bind id from by show Tr.get none (mkOb 0 obs) i = _; simpa using this]
      exact hob
    cases hoi : obs[i]? with
    | none => rw [hoi] at hob'; cases hob'
    | some x =>
      rw [hoi] at hob'
      have hx : x = some ob := hob'
      subst hx
      obtain ⟨o, o1, o2⟩ := (leOO_get h2).2 i ob hoi
      rw [List.getElem?_map] at o1
      cases hid : ids[i]? with
      | none => rw [hid] at o1; cases o1
      | some j =>
        rw [hid] at o1
        simp only [Option.map_some, Option.some.injEq] at o1
        exact leOb_holds o2 (obAt_holds h.ob hu hW hid o1)
  · refine ⟨fun i v hi => ?_, hst.w0, fun j b hj => ?_, fun i b hx _ => absurd trivial hx, hst.ag⟩
    · have hlt : i < E.nb := by
        rcases Nat.lt_or_ge i E.nb with h | h
        · exact h
        · rw [h0 i h] at hi; cases hi
      have hid := opens_get c4 i hlt
      rw [Nat.zero_add] at hid
      show (ids[i]?).bind C.ν = some v
      rw [hid]
      exact hst.ext i v hi
    · obtain ⟨k, _, hk⟩ := hs j b hj
      exact hst.own k b hk

/-! ## code -/
def sxCode (E : Env) : Code → St → T (Ex × St)
  | .skip, σ => .ret (.normal, σ)
  | .region rid ops false, σ => (sxOps E ops rid 0 ops.toList σ).bind fun σ' => .ret (.normal, σ')
  | .region rid ops true, σ => (sxDraw E ops rid σ).bind fun σ' => .ret (.normal, σ')
  | .seq a b, σ => (sxCode E a σ).bind fun x => match x.1 with
    | .normal => sxCode E b x.2
    | e => .ret (e, x.2)
  | .cond c a b, σ => match evS σ c with
    | .kb q => bif q then sxCode E a σ else sxCode E b σ
    | .dt (.cell (.bool q)) => brq E.conc q (sxCode E a σ) (sxCode E b σ)
    | _ => .fail
  | .block id c, σ => (sxCode E c σ).bind fun x => match x.1 with
    | .exit k => bif Nat.beq k id then .ret (.normal, x.2) else .ret (.exit k, x.2)
    | e => .ret (e, x.2)
  | .loop c, σ => match E.L c σ with
    | some li => bif stChk E li.ids li.keep li.obs then .need (leK li.ids σ.obj li.keep σ) (.need (leOO (li.ids.map (obAt σ.obj li.ids)) li.obs) li.out) else .fail
    | none => .fail
  | .exit id, σ => .ret (.exit id, σ)
  | .ret, σ => .ret (.ret, σ)
  | _, _ => .fail

def PostW (E : Env) (C0 : Ctx) (w0 : World) (post : Ex × St → Prop) (e : Exit) (a : Act) (w : World) : Prop :=
  ∃ x C, post x ∧ e = x.1.toExit ∧ Inv E.N C x.2 a w ∧ Step Top C0 w0 C w

/-- run from σ the code comes to t -/
def Sound (E : Env) (c : Code) (σ : St) (t : T (Ex × St)) : Prop :=
  ∀ (C0 : Ctx) (w0 : World), (∀ i, E.nb ≤ i → C0.ν i = none) → ∀ (post : Ex × St → Prop), t.holds post → ∀ C a w, Inv E.N C σ a w → Step Top C0 w0 C w → c.wp E.P (PostW E C0 w0 post) a w

def loopsOf : Code → List Code
  | .seq a b => loopsOf a ++ loopsOf b
  | .cond _ a b => loopsOf a ++ loopsOf b
  | .block _ c => loopsOf c
  | .loop c => [c]
  | _ => []

def Env.Lok (E : Env) (l : List Code) : Prop := ∀ c ∈ l, ∀ σ li, E.L c σ = some li → Sound E (.loop c) (mkSt li.keep li.obs) li.out

theorem Step.then {C0 C C' : Ctx} {w0 w w' : World} (hw : WF C w) (h : Step Top C0 w0 C w) (k : Step Top C w C' w') : Step Top C0 w0 C' w' := Step.trans hw h k

theorem sxCode_sound {E : Env} (hK : E.Kok) (hm : E.P.follows .mixedOrders = true) : ∀ (c : Code) (σ : St), E.Lok (loopsOf c) → Sound E c σ (sxCode E c σ)
  | .skip, σ, _ => fun C0 w0 _ post h C a w hi hf => wp_skip ⟨_, C, h, rfl, hi, hf⟩
  | .exit id, σ, _ => fun C0 w0 _ post h C a w hi hf => wp_exit ⟨_, C, h, rfl, hi, hf⟩
  | .ret, σ, _ => fun C0 w0 _ post h C a w hi hf => wp_ret ⟨_, C, h, rfl, hi, hf⟩
  | .region rid ops false, σ, _ => fun C0 w0 _ post h C a w hi hf => by
    simp only [sxCode, T.holds_bind] at h
    exact wp_region_list (sxOps_sound hK ops.toList 0 σ C a w hi h fun C' σ' a' w' p i s => ⟨_, C', p, rfl, i, hf.then hi.wf s⟩)
  | .region rid ops true, σ, _ => fun C0 w0 _ post h C a w hi hf => by
    simp only [sxCode, T.holds_bind] at h
    exact sxDraw_sound hK hi h (fun C' σ' a' w' p i s => ⟨_, C', p, rfl, i, hf.then hi.wf s⟩) hm
  | .seq x y, σ, hL => fun C0 w0 h0 post h C a w hi hf => by
    simp only [sxCode, T.holds_bind] at h
    have hx := sxCode_sound hK hm x σ (fun c hc => hL c (List.mem_append_left _ hc)) C0 w0 h0 _ h C a w hi hf
    refine wp_seq (wp_mono hx ?_)
    rintro e a' w' ⟨⟨ex, σ'⟩, C', hp, rfl, hi', hf'⟩
    cases ex with
    | normal => exact sxCode_sound hK hm y σ' (fun c hc => hL c (List.mem_append_right _ hc)) C0 w0 h0 post hp C' a' w' hi' hf'
    | exit id => exact ⟨_, C', hp, rfl, hi', hf'⟩
    | ret => exact ⟨_, C', hp, rfl, hi', hf'⟩
  | .cond c x y, σ, hL => fun C0 w0 h0 post h C a w hi hf => by
    have hc := evS_rel C w σ a c (fun i _ ob hob => hi.ob i ob hob) (fun t _ => hi.sl t)
    have hx := sxCode_sound hK hm x σ (fun c hc => hL c (List.mem_append_left _ hc)) C0 w0 h0 post
    have hy := sxCode_sound hK hm y σ (fun c hc => hL c (List.mem_append_right _ hc)) C0 w0 h0 post
    simp only [sxCode] at h
    split at h
    · rename_i q hq
      rw [hq] at hc
      cases q with
      | true => exact wp_cond_true hc (hx h C a w hi hf)
      | false => exact wp_cond_false hc (hy h C a w hi hf)
    · rename_i q hq
      rw [hq, rel_cell] at hc
      obtain ⟨h1, h2⟩ := brq_holds _ _ _ _ h
      cases q with
      | true => exact wp_cond_true hc (hx (h1 rfl) C a w hi hf)
      | false => exact wp_cond_false hc (hy (h2 rfl) C a w hi hf)
    · exact h.elim
  | .block id c, σ, hL => fun C0 w0 h0 post h C a w hi hf => by
    simp only [sxCode, T.holds_bind] at h
    refine wp_block (wp_mono (sxCode_sound hK hm c σ hL C0 w0 h0 _ h C a w hi hf) ?_)
    rintro e a' w' ⟨⟨ex, σ'⟩, C', hp, rfl, hi', hf'⟩
    cases ex with
    | normal => exact ⟨_, C', hp, rfl, hi', hf'⟩
    | ret => exact ⟨_, C', hp, rfl, hi', hf'⟩
    | exit k =>
      simp only at hp
      show Exit.inBlock id _ (.exit k) a' w'
      simp only [Exit.inBlock]
      cases hk : Nat.beq k id with
      | true =>
        rw [hk] at hp
        rw [if_pos (Nat.eq_of_beq_eq_true hk)]
        exact ⟨_, C', hp, rfl, hi', hf'⟩
      | false =>
        rw [hk] at hp
        have : ¬ k = id := fun e => by rw [beq_t e] at hk; cases hk
        rw [if_neg this]
        exact ⟨_, C', hp, rfl, hi', hf'⟩
  | .loop c, σ, hL => fun C0 w0 h0 post h C a w hi hf => by
    simp only [sxCode] at h
    cases hl : E.L c σ with
    | none => rw [hl] at h; exact h.elim
    | some li =>
      rw [hl] at h
      simp only at h
      cases hc : stChk E li.ids li.keep li.obs with
      | false => rw [hc] at h; exact h.elim
      | true =>
        rw [hc] at h
        obtain ⟨h1, h2, h3⟩ := h
        obtain ⟨hi', hf'⟩ := hi.wk ⟨hc, h1, h2⟩
        exact hL c (by simp [loopsOf]) σ li hl C0 w0 h0 post h3 _ a w hi' (hf' C0 w0 h0 hf)
  | .rangeFunc _ _ _ _, σ, _ => fun C0 w0 _ post h => h.elim
  | .scope _, σ, _ => fun C0 w0 _ post h => h.elim
  | .label _, σ, _ => fun C0 w0 _ post h => h.elim
  | .goto _, σ, _ => fun C0 w0 _ post h => h.elim
  | .refuse _, σ, _ => fun C0 w0 _ post h => h.elim

/-! ## what counts of a state: some slots, the objects under places in the order in which they are met -/
def thawG (g : Nat → Option Ob) (i : Nat) : Option Ob :=
  match g i with
  | some (.cells t cs) => some (.cells t (thawL g cs))
  | o => o
def canIds (nb : Nat) (g : Nat → Option Ob) (svs : List SV) : List Nat :=
  reach (thawG g) 400 ((rangeN nb).flatMap (fun i => obIds (thawG g i)) ++ svIdsL svs) (rangeN nb)
structure View where
  ids : List Nat
  sv : List SV
  ob : List (Option Ob)

def viewOf (nb : Nat) (g : Nat → Option Ob) (svs : List SV) : View :=
  let ids := canIds nb g svs
  ⟨ids, unrenL ids svs, ids.map (obAt g ids)⟩

def St.slots (σ : St) : List Nat → List SV
  | [] => []
  | j :: l => nrm (thaw σ.obj (σ.get j)) :: σ.slots l

/-- what comes of a piece of code: how it is left, the slots that count, the objects -/
abbrev OutC := Ex × List SV × List (Option Ob)

/-- the slots that count: at a loop's head, where it is left, where the function is left -/
structure Lv where
  h : List Nat
  x : List Nat
  r : List Nat
def Lv.of (v : Lv) : Ex → List Nat
  | .normal => v.h
  | .exit _ => v.x
  | .ret => v.r

def OutC.st (v : Lv) (y : OutC) : Ex × St := (y.1, mkSt ((v.of y.1).zip y.2.1) y.2.2)

def T.map {α β : Type} (f : α → β) (t : T α) : T β := t.bind fun a => .ret (f a)
theorem T.holds_map {α β : Type} {post : β → Prop} (f : α → β) (t : T α) : (t.map f).holds post ↔ t.holds fun a => post (f a) := by
  unfold T.map; rw [T.holds_bind]; rfl

/-- the places of lent objects come first, all is well numbered -/
def viewChk (E : Env) (live : List Nat) (v : View) : Bool :=
  (live.all capOk) && capOk v.ob.length && opens 0 E.nb v.ids && nodup v.ids

theorem leK_of {ids : List Nat} {σ : St} : ∀ {live : List Nat} {l' : List SV}, leL (unrenL ids (σ.slots live)) l' → leK ids σ.obj (live.zip l') σ
  | [], _, _ => trivial
  | _ :: _, [], _ => trivial
  | j :: live, s :: l', h => by
    simp only [St.slots, unrenL, leL] at h
    exact ⟨h.1, leK_of h.2⟩

theorem view_wk {E : Env} {σ : St} {live : List Nat} {l' : List SV} {obs : List (Option Ob)} (hc : viewChk E live (viewOf E.nb σ.obj (σ.slots live)) = true)
    (h1 : leL (viewOf E.nb σ.obj (σ.slots live)).sv l') (h2 : leOO (viewOf E.nb σ.obj (σ.slots live)).ob obs) : Wk E σ (viewOf E.nb σ.obj (σ.slots live)).ids (live.zip l') obs := by
  simp only [viewChk, Bool.and_eq_true] at hc
  obtain ⟨⟨⟨c1, c2⟩, c3⟩, c4⟩ := hc
  have hl := (leOO_get h2).1
  have hl2 : (viewOf E.nb σ.obj (σ.slots live)).ob.length = (viewOf E.nb σ.obj (σ.slots live)).ids.length := by simp [viewOf]
  refine ⟨?_, leK_of h1, h2⟩
  simp only [stChk, Bool.and_eq_true]
  refine ⟨⟨⟨⟨List.all_eq_true.2 fun x hx => List.all_eq_true.1 c1 _ (List.of_mem_zip hx).1, beq_t (by omega)⟩, by rw [← hl]; exact c2⟩, c3⟩, c4⟩

/-- a leaf of a round: on to the next one (Rn), or out (Re) -/
def leafP (E : Env) (v : Lv) (Rn : List SV → List (Option Ob) → Prop) (Re : Ex → List SV → List (Option Ob) → Prop) (y : Ex × St) : Prop :=
  bif viewChk E (v.of y.1) (viewOf E.nb y.2.obj (y.2.slots (v.of y.1))) then
    match y.1 with
    | .normal => Rn (viewOf E.nb y.2.obj (y.2.slots (v.of y.1))).sv (viewOf E.nb y.2.obj (y.2.slots (v.of y.1))).ob
    | e => Re e (viewOf E.nb y.2.obj (y.2.slots (v.of y.1))).sv (viewOf E.nb y.2.obj (y.2.slots (v.of y.1))).ob
  else False

/-- out by e, where what is known says as much as is asked -/
def Outs (post : OutC → Prop) (e : Ex) (sv : List SV) (ob : List (Option Ob)) : Prop :=
  ∃ sv' ob', leL sv sv' ∧ leOO ob ob' ∧ post (e, sv', ob')

/-- A LOOP BY AN INVARIANT: at its head the state is one of a family; each round comes to a later one, or leaves. -/
theorem loop_sound {E : Env} (hK : E.Kok) (hm : E.P.follows .mixedOrders = true) {c : Code} (hL : E.Lok (loopsOf c)) (live : Lv) {X : Type} (args : X → List SV) (obs : X → List (Option Ob)) (out : X → T OutC) (μ : X → Nat)
    (hstep : ∀ x post, (out x).holds post → (sxCode E c (mkSt (live.h.zip (args x)) (obs x))).holds
      (leafP E live (fun sv ob => ∃ x', μ x' < μ x ∧ leL sv (args x') ∧ leOO ob (obs x') ∧ (out x').holds post) (Outs post))) (x : X) :
    Sound E (.loop c) (mkSt (live.h.zip (args x)) (obs x)) ((out x).map (OutC.st live)) := by
  intro C0 w0 h0 post0 hp C a w hi hf
  rw [T.holds_map] at hp
  let post : OutC → Prop := fun y => post0 (OutC.st live y)
  refine wp_loop_ghost (fun n a w => ∃ x C, μ x = n ∧ (out x).holds post ∧ Inv E.N C (mkSt (live.h.zip (args x)) (obs x)) a w ∧ Step Top C0 w0 C w) (μ x) ⟨x, C, rfl, hp, hi, hf⟩ ?_
  rintro n a w ⟨x, C, rfl, hp, hi, hf⟩
  refine wp_mono (sxCode_sound hK hm c _ hL C0 w0 h0 _ (hstep x post hp) C a w hi hf) ?_
  rintro e a' w' ⟨⟨ex, σ'⟩, C', hy, rfl, hi', hf'⟩
  unfold leafP at hy
  cases hc : viewChk E (live.of ex) (viewOf E.nb σ'.obj (σ'.slots (live.of ex))) with
  | false => rw [hc] at hy; exact hy.elim
  | true =>
    rw [hc, cond_true] at hy
    have hout : Outs post ex (viewOf E.nb σ'.obj (σ'.slots (live.of ex))).sv (viewOf E.nb σ'.obj (σ'.slots (live.of ex))).ob → PostW E C0 w0 post0 ex.toExit a' w' := by
      rintro ⟨sv', ob', h1, h2, h3⟩
      obtain ⟨i1, i2⟩ := hi'.wk (view_wk hc h1 h2)
      exact ⟨_, _, h3, rfl, i1, i2 C0 w0 h0 hf'⟩
    cases ex with
    | normal =>
      obtain ⟨x', h1, h2, h3, h4⟩ := hy
      obtain ⟨i1, i2⟩ := hi'.wk (view_wk hc h2 h3)
      exact ⟨μ x', h1, x', _, rfl, h4, i1, i2 C0 w0 h0 hf'⟩
    | exit id => exact hout hy
    | ret => exact hout hy

/-- a loop's part in an oracle: the slots that count, and which member of the family it is -/
def loopBy (nb : Nat) (live : Lv) (sel : List SV → List (Option Ob) → Option (List SV × List (Option Ob) × T OutC)) (σ : St) : Option LI :=
  match sel (viewOf nb σ.obj (σ.slots live.h)).sv (viewOf nb σ.obj (σ.slots live.h)).ob with
  | some (args, obs, out) => some ⟨(viewOf nb σ.obj (σ.slots live.h)).ids, live.h.zip args, obs, out.map (OutC.st live)⟩
  | none => none

theorem loopBy_ok {E : Env} {c : Code} {live : Lv} {sel : List SV → List (Option Ob) → Option (List SV × List (Option Ob) × T OutC)}
    (h : ∀ svs obl args obs out, sel svs obl = some (args, obs, out) → Sound E (.loop c) (mkSt (live.h.zip args) obs) (out.map (OutC.st live))) (σ : St) (li : LI) (hl : loopBy E.nb live sel σ = some li) :
    Sound E (.loop c) (mkSt li.keep li.obs) li.out := by
  unfold loopBy at hl
  split at hl
  · rename_i args obs out hs
    simp only [Option.some.injEq] at hl
    subst hl
    exact h _ _ _ _ _ hs
  · cases hl
end Rx
