/- Rx, part U: a function, its calls and its loops by lists. -/
import Derived.Test.YtnalaogenpicfaaDoorRxT
set_option linter.unusedSectionVars false
set_option linter.unusedSimpArgs false
set_option linter.unusedVariables false
namespace Rx
open Go
variable [Glob]

def mkK (P : Program) : List (Nat × Nat × FC) → Nat → Nat → Option Summ
  | [], _, _ => none
  | x :: l, rid, i => bif Nat.beq x.1 rid && Nat.beq x.2.1 i then some (x.2.2.summ P) else mkK P l rid i

theorem mkK_ok {P : Program} : ∀ {ks : List (Nat × Nat × FC)}, (∀ x ∈ ks, x.2.2.Ok P) → ∀ rid i s, mkK P ks rid i = some s → s.Ok P
  | [], _, _, _, _, h => by cases h
  | x :: l, hk, rid, i, s, h => by
    simp only [mkK] at h
    cases hb : (Nat.beq x.1 rid && Nat.beq x.2.1 i) with
    | true =>
      rw [hb] at h
      injection h with h
      subst h
      exact FC.summ_ok (hk x (by simp))
    | false =>
      rw [hb] at h
      exact mkK_ok (fun y hy => hk y (by simp [hy])) rid i s h

/-- a loop: its first region, the slots that count, the family -/
structure LF where
  rid : Nat
  live : Lv
  sel : List SV → List (Option Ob) → Option (List SV × List (Option Ob) × T OutC)

def mkL (nb : Nat) : List LF → Code → St → Option LI
  | [], _, _ => none
  | f :: l, c, σ => bif Nat.beq f.rid (firstRid c) then loopBy nb f.live f.sel σ else mkL nb l c σ

def fnE (P : Program) (N nb : Nat) (ks : List (Nat × Nat × FC)) (ls : List LF) : Env := ⟨P, N, nb, mkK P ks, mkL nb ls, false⟩

theorem fnE_Kok {P : Program} {N nb : Nat} {ks : List (Nat × Nat × FC)} {ls : List LF} (hk : ∀ x ∈ ks, x.2.2.Ok P) : (fnE P N nb ks ls).Kok := fun rid i s h => mkK_ok hk rid i s h

theorem mkL_some {nb : Nat} : ∀ {ls : List LF} {c : Code} {σ : St} {li : LI}, mkL nb ls c σ = some li → ∃ f ∈ ls, f.rid = firstRid c ∧ loopBy nb f.live f.sel σ = some li
  | [], _, _, _, h => by cases h
  | f :: l, c, σ, li, h => by
    simp only [mkL] at h
    cases hb : Nat.beq f.rid (firstRid c) with
    | true => rw [hb] at h; exact ⟨f, by simp, Nat.eq_of_beq_eq_true hb, h⟩
    | false =>
      rw [hb] at h
      obtain ⟨g, h1, h2⟩ := mkL_some h
      exact ⟨g, by simp [h1], h2⟩

/-- a loop's family is sound -/
def LFok (E : Env) (f : LF) (c : Code) : Prop := ∀ svs obl args obs out, f.sel svs obl = some (args, obs, out) → Sound E (.loop c) (mkSt (f.live.h.zip args) obs) (out.map (OutC.st f.live))

theorem fnE_Lok {P : Program} {N nb : Nat} {ks : List (Nat × Nat × FC)} {ls : List LF} {cs : List Code} (h : ∀ f ∈ ls, ∀ c ∈ cs, f.rid = firstRid c → LFok (fnE P N nb ks ls) f c) : (fnE P N nb ks ls).Lok cs := by
  intro c hc σ li hl
  obtain ⟨f, h1, h2, h3⟩ := mkL_some (show mkL nb ls c σ = some li from hl)
  exact loopBy_ok (E := fnE P N nb ks ls) (h f h1 c hc h2) σ li h3

/-- A FUNCTION KEEPS ITS CONTRACT: Q is the tree, written out. -/
theorem ctr_fn {P : Program} (hm : P.follows .mixedOrders = true) {N f : Nat} {fn : Func} {c : Code} {ks : List (Nat × Nat × FC)} {ls : List LF} (hf : P.funcs[f]? = some fn) (hb : fn.body = some c) (hN : fn.ntmps = N)
    (hk : ∀ x ∈ ks, x.2.2.Ok P) {args : List SV} {obs : List Ob} {out : T Out} (fi : Fin) (hl : (fnE P N obs.length ks ls).Lok (loopsOf c))
    (hchk : (Nat.ble args.length N && capOk args.length && capOk obs.length) = true)
    {Q : (SV → List (Option Ob) → Prop) → Prop} (hQ : ∀ post, out.holds post → Q (Gives post)) (he : ∀ R, Q R = (sxCode (fnE P N obs.length ks ls) c (entry args obs)).holds (doneP (fnE P N obs.length ks ls) fn fi R)) : Ctr P f args obs out :=
  ctr_by (E := fnE P N obs.length ks ls) (fnE_Kok hk) hm fn c hf hb hN hl fi rfl hchk hQ he

/-- A LOOP OF A FUNCTION: Q is one round's tree, written out. -/
theorem loop_fn {P : Program} (hm : P.follows .mixedOrders = true) {N nb : Nat} {ks : List (Nat × Nat × FC)} {ls : List LF} {c : Code} (hk : ∀ x ∈ ks, x.2.2.Ok P) (hl : (fnE P N nb ks ls).Lok (loopsOf c))
    {X : Type} (live : Lv) (args : X → List SV) (obs : X → List (Option Ob)) (out : X → T OutC) (μ : X → Nat)
    {Q : X → (List SV → List (Option Ob) → Prop) → (Ex → List SV → List (Option Ob) → Prop) → Prop}
    (hQ : ∀ x post, (out x).holds post → Q x (fun sv ob => ∃ x', μ x' < μ x ∧ leL sv (args x') ∧ leOO ob (obs x') ∧ (out x').holds post) (Outs post))
    (he : ∀ x Rn Re, Q x Rn Re = (sxCode (fnE P N nb ks ls) c (mkSt (live.h.zip (args x)) (obs x))).holds (leafP (fnE P N nb ks ls) live Rn Re)) (x : X) :
    Sound (fnE P N nb ks ls) (.loop c) (mkSt (live.h.zip (args x)) (obs x)) ((out x).map (OutC.st live)) :=
  loop_sound (fnE_Kok hk) hm hl live args obs out μ (fun x post h => he x _ _ ▸ hQ x post h) x

theorem all_nil {α : Type} {p : α → Prop} : ∀ x ∈ ([] : List α), p x := fun _ h => by cases h
theorem all_cons {α : Type} {p : α → Prop} {a : α} {l : List α} (h : p a) (h' : ∀ x ∈ l, p x) : ∀ x ∈ a :: l, p x := fun x hx => by
  rcases List.mem_cons.1 hx with rfl | hx
  · exact h
  · exact h' x hx

theorem Outs.mk {post : OutC → Prop} {e : Ex} {sv sv' : List SV} {ob ob' : List (Option Ob)} (hp : post (e, sv', ob')) (h1 : leL sv sv') (h2 : leOO ob ob') : Outs post e sv ob := ⟨_, _, h1, h2, hp⟩

/-- the loops of a function, at any depth, by their first regions -/
def loopIn (r : Nat) : Code → Option Code
  | .seq a b => match loopIn r a with
    | some c => some c
    | none => loopIn r b
  | .cond _ a b => match loopIn r a with
    | some c => some c
    | none => loopIn r b
  | .block _ c => loopIn r c
  | .loop c => bif Nat.beq (firstRid c) r then some c else loopIn r c
  | _ => none
end Rx
