/- Rx, part Ib: contracts between functions, and a call by its contract. -/
import Derived.Test.YtkbdcpkbmfegdaaGreatDoorRxI
set_option linter.unusedSectionVars false
set_option linter.unusedSimpArgs false
set_option linter.unusedVariables false
namespace Rx
open Go
variable [Glob]
mutual
def thaw (g : Nat -> Option Ob) : SV -> SV
 | .nm i => match g i with
   | some (.frz d) => .dt d
   | _ => .nm i
 | .agg l => .agg (ug g l)
 | .tup l => .tup (ug g l)
 | .junk => .junk
 | .dt d => .dt d
 | .ptr i o => .ptr i o
 | .el m f => .el m f
 | .fn f l => .fn f l
 | .kb b => .kb b
 | .sy s => .sy s
 | .ki k n => .ki k n
 | .rp i x z o => .rp i x z o
 | .ri k a b n => .ri k a b n
 | .sl i z o n c => .sl i z o n c
def ug (g : Nat -> Option Ob) : List SV -> List SV
 | [] => []
 | s :: l => thaw g s :: ug g l
end
mutual
theorem qb {C : Ctx} {w : World} {g : Nat -> Option Ob} : ∀ (s : SV) (v : Value), (∀ i ∈ dG s, ∀ ob, g i = some ob -> obHolds C w i ob) -> rel C w s v -> rel C w (thaw g s) v
 | .nm i, v, hg, r => by
   simp only [thaw]
   split
   · rename_i d hd
     obtain ⟨v', h1, h2⟩ := hg i (by simp [dG]) _ hd
     rw [show C.ν i = some v from r.1] at h1
     injection h1 with h1
     subst h1
     exact h2
   · exact r
 | .agg l, _, hg, ⟨vs, e, r⟩ => ⟨vs, e, mW l vs hg r⟩
 | .tup l, _, hg, ⟨vs, e, r⟩ => ⟨vs, e, mW l vs hg r⟩
 | .junk, _, _, _ => trivial
 | .dt _, _, _, r => r
 | .ptr _ _, _, _, r => r
 | .el _ _, _, _, r => r
 | .fn _ _, _, _, r => r
 | .kb _, _, _, r => r
 | .sy _, _, _, r => r
 | .ki _ _, _, _, r => r
 | .rp _ _ _ _, _, _, r => r
 | .ri _ _ _ _, _, _, r => r
 | .sl _ _ _ _ _, _, _, r => r
theorem mW {C : Ctx} {w : World} {g : Nat -> Option Ob} : ∀ (l : List SV) (vs : List Value), (∀ i ∈ fJ l, ∀ ob, g i = some ob -> obHolds C w i ob) -> relL C w l vs -> relL C w (ug g l) vs
 | [], _, _, r => r
 | s :: l, _, hg, ⟨v, r, e, h1, h2⟩ => ⟨v, r, e, qb s v (fun i hi => hg i (by simp [fJ, hi])) h1, mW l r (fun i hi => hg i (by simp [fJ, hi])) h2⟩
end
mutual
theorem Px {g : Nat -> Option Ob} : ∀ (s : SV), ∀ i ∈ dG (thaw g s), i ∈ dG s
 | .nm j, i, h => by
   simp only [thaw] at h
   split at h
   · simp [dG] at h
   · exact h
 | .agg l, i, h => Cm l i h
 | .tup l, i, h => Cm l i h
 | .junk, _, h => h
 | .dt _, _, h => h
 | .ptr _ _, _, h => h
 | .el _ _, _, h => h
 | .fn _ _, _, h => h
 | .kb _, _, h => h
 | .sy _, _, h => h
 | .ki _ _, _, h => h
 | .rp _ _ _ _, _, h => h
 | .ri _ _ _ _, _, h => h
 | .sl _ _ _ _ _, _, h => h
theorem Cm {g : Nat -> Option Ob} : ∀ (l : List SV), ∀ i ∈ fJ (ug g l), i ∈ fJ l
 | [], _, h => h
 | s :: l, i, h => by
   simp only [ug, fJ, List.mem_append] at h ⊢
   exact h.imp (Px s i) (Cm l i)
end
mutual
def aaV : SV -> List Nat
 | .ptr i _ => [i]
 | .nm i => [i]
 | .rp i _ _ _ => [i]
 | .sl i _ _ _ _ => [i]
 | .agg l => dh l
 | .tup l => dh l
 | .fn _ l => dh l
 | _ => []
def dh : List SV -> List Nat
 | [] => []
 | s :: l => aaV s ++ dh l
end
def UY : Option Ob -> List Nat
 | some (.cells _ cs) => dh cs
 | some (.it m _ _) => [m]
 | some (.itx m _ _) => [m]
 | _ => []
def reach (g : Nat -> Option Ob) : Nat -> List Nat -> List Nat -> List Nat
 | 0, _, acc => acc
 | _ + 1, [], acc => acc
 | n + 1, i :: l, acc => bif acc.contains i then reach g n l acc else reach g n (UY (g i) ++ l) (acc ++ [i])
theorem zi {g : Nat -> Option Ob} : ∀ (n : Nat) (l acc : List Nat) (i : Nat), i ∈ acc -> i ∈ reach g n l acc
 | 0, _, _, _, h => h
 | _ + 1, [], _, _, h => h
 | n + 1, j :: l, acc, i, h => by
   simp only [reach]
   cases acc.contains j with
   | true => exact zi n l acc i h
   | false => exact zi n _ _ i (List.mem_append_left _ h)
theorem qK {g g' : Nat -> Option Ob} : ∀ (n : Nat) (l acc : List Nat), (∀ i ∈ reach g n l acc, g i = g' i) -> reach g n l acc = reach g' n l acc
 | 0, _, _, _ => rfl
 | _ + 1, [], _, _ => rfl
 | n + 1, j :: l, acc, h => by
   simp only [reach] at h ⊢
   cases hc : acc.contains j with
   | true => rw [hc] at h; exact qK n l acc h
   | false =>
     rw [hc, cond_false] at h
     rw [cond_false, cond_false, ← h j (zi _ _ _ _ (by simp))]
     exact qK n _ _ h
def kR (g : Nat -> Option Ob) (S : List Nat) : List (Nat × Option Ob) := S.map fun i => (i, g i)
def nH (l : List (Nat × Option Ob)) (i : Nat) : Option Ob := match l.lookup i with
 | some x => x
 | none => none
theorem C9 {g : Nat -> Option Ob} : ∀ {S : List Nat} {i : Nat} {ob : Ob}, nH (kR g S) i = some ob -> g i = some ob
 | [], _, _, h => by simp [nH, kR] at h
 | j :: S, i, ob, h => by
   simp only [nH, kR, List.map_cons, List.lookup] at h
   by_cases hij : i = j
   · subst hij; simpa using h
   · have : (i == j) = false := by simpa using hij
     rw [this] at h
     exact C9 (S := S) h
theorem J4 {g g' : Nat -> Option Ob} {S : List Nat} (h : ∀ i ∈ S, g i = g' i) : kR g S = kR g' S :=
 List.map_congr_left fun i hi => by rw [h i hi]
mutual
def jM (ids : List Nat) : SV -> SV
 | .agg l => .agg (fV ids l)
 | .tup l => .tup (fV ids l)
 | .ptr i off => match posOf ids i with
   | some j => .ptr j off
   | none => .junk
 | .nm i => match posOf ids i with
   | some j => .nm j
   | none => .junk
 | .rp i idx sz off => match posOf ids i with
   | some j => .rp j idx sz off
   | none => .junk
 | .sl i sz o n c => match posOf ids i with
   | some j => .sl j sz o n c
   | none => .junk
 | .ri k a b n => .ri k a b n
 | .fn f caps => .fn f (fV ids caps)
 | .junk => .junk
 | .dt d => .dt d
 | .el m g => .el m g
 | .kb b => .kb b
 | .sy s => .sy s
 | .ki k n => .ki k n
def fV (ids : List Nat) : List SV -> List SV
 | [] => []
 | s :: l => jM ids s :: fV ids l
end
def iq (ids : List Nat) : Ob -> Option Ob
 | .cells t cs => some (.cells t (fV ids cs))
 | .it m n s => match posOf ids m with
   | some j => some (.it j n s)
   | none => none
 | .row t sz n f => some (.row t sz n f)
 | .frz d => some (.frz d)
 | .mp kt vt l => some (.mp kt vt l)
 | .vec _ _ _ _ _ => none
 | .itx m n c => match posOf ids m with
   | some j => some (.itx j n c)
   | none => none
mutual
theorem yH {ids : List Nat} {C1 C : Ctx} {w : World} (u : Under ids C1 C) (hW : ∀ b, C1.W b -> C.W b) : ∀ (s : SV) (v : Value), rel C w s v -> rel C1 w (jM ids s) v
 | .junk, _, _ => trivial
 | .dt _, _, r => bE hW r
 | .agg l, _, ⟨vs, e, r⟩ => ⟨vs, e, fK u hW l vs r⟩
 | .tup l, _, ⟨vs, e, r⟩ => ⟨vs, e, fK u hW l vs r⟩
 | .ptr i off, v, ⟨b, hb, e⟩ => by
   simp only [jM]
   cases hp : posOf ids i with
   | none => trivial
   | some p => exact ⟨b, u.back p i _ (fF hp) hb, e⟩
 | .nm i, v, r => by
   simp only [jM]
   cases hp : posOf ids i with
   | none => trivial
   | some p => exact ⟨u.back p i _ (fF hp) r.1, r.2⟩
 | .rp i idx sz off, v, ⟨b, n, c, hb, e⟩ => by
   simp only [jM]
   cases hp : posOf ids i with
   | none => trivial
   | some p => exact ⟨b, n, c, u.back p i _ (fF hp) hb, e⟩
 | .sl i sz o n c, v, ⟨b, m, cc, x, hb, e⟩ => by
   simp only [jM]
   cases hp : posOf ids i with
   | none => trivial
   | some p => exact ⟨b, m, cc, x, u.back p i _ (fF hp) hb, e⟩
 | .ri _ _ _ _, _, r => r
 | .el _ _, _, ⟨b, off, e, p⟩ => ⟨b, off, e, bE hW p⟩
 | .fn _ caps, _, ⟨vs, e, r⟩ => ⟨vs, e, fK u hW caps vs r⟩
 | .kb _, _, r => r
 | .sy _, _, r => r
 | .ki _ _, _, r => r
theorem fK {ids : List Nat} {C1 C : Ctx} {w : World} (u : Under ids C1 C) (hW : ∀ b, C1.W b -> C.W b) : ∀ (l : List SV) (vs : List Value), relL C w l vs -> relL C1 w (fV ids l) vs
 | [], _, r => r
 | s :: l, _, ⟨v, r, e, h1, h2⟩ => ⟨v, r, e, yH u hW s v h1, fK u hW l r h2⟩
end
theorem uj {ids : List Nat} {C1 C : Ctx} {w : World} (u : Under ids C1 C) (hW : ∀ b, C1.W b -> C.W b) {p j : Nat} (hij : ids[p]? = some j) {ob ob' : Ob} (he : iq ids ob = some ob') (h : obHolds C w j ob) : obHolds C1 w p ob' := by
 cases ob with
 | cells t cs =>
   simp only [iq, Option.some.injEq] at he
   subst he
   obtain ⟨b, h1, h2, vs, h3, h4⟩ := h
   exact ⟨b, (u.own p j b hij).2 h1, u.back p j _ hij h2, vs, h3, fK u hW cs vs h4⟩
 | row t sz n f =>
   simp only [iq, Option.some.injEq] at he
   subst he
   obtain ⟨A, c, h1, h2⟩ := h
   refine ⟨A, c, u.back p j _ hij h1, ?_⟩
   rcases h2 with h2 | ⟨b, h2, h3, h4, cur, h5, h6, h7⟩
   · exact .inl h2
   · refine .inr ⟨b, (u.own p j b hij).2 h2, h3, h4, cur, h5, h6, fun k m hk hm => ?_⟩
     obtain ⟨x, h8, h9⟩ := h7 k m hk hm
     exact ⟨x, h8, h9.1, bE hW h9.2⟩
 | frz d =>
   simp only [iq, Option.some.injEq] at he
   subst he
   obtain ⟨v, h1, h2⟩ := h; exact ⟨v, u.back p j _ hij h1, bE hW h2⟩
 | mp kt vt l =>
   simp only [iq, Option.some.injEq] at he
   subst he
   obtain ⟨b, h1, h2, h3⟩ := h; exact ⟨b, (u.own p j b hij).2 h1, u.back p j _ hij h2, h3⟩
 | it m n s =>
   simp only [iq] at he
   cases hp : posOf ids m with
   | none => rw [hp] at he; cases he
   | some q =>
     rw [hp] at he
     simp only [Option.some.injEq] at he
     subst he
     obtain ⟨b, bm, h1, h2, h3, h4⟩ := h
     exact ⟨b, bm, (u.own p j b hij).2 h1, u.back p j _ hij h2, u.back q m _ (fF hp) h3, h4⟩
 | vec t sz n tr ex => simp [iq] at he
 | itx m n c =>
   simp only [iq] at he
   cases hp : posOf ids m with
   | none => rw [hp] at he; cases he
   | some q =>
     rw [hp] at he
     simp only [Option.some.injEq] at he
     subst he
     obtain ⟨s, h0, b, bm, h1, h2, h3, h4⟩ := h
     exact ⟨s, h0, b, bm, (u.own p j b hij).2 h1, u.back p j _ hij h2, u.back q m _ (fF hp) h3, h4⟩
def rP (g : Nat -> Option Ob) (ids : List Nat) : List Nat -> Option (List Ob)
 | [] => some []
 | i :: l => match g i with
   | some (.cells t cs) => (rP g ids l).map (.cells t (fV ids (ug g cs)) :: ·)
   | some ob => match iq ids ob with
     | some o => (rP g ids l).map (o :: ·)
     | none => none
   | none => none
theorem GQ {g : Nat -> Option Ob} {ids : List Nat} {C1 C : Ctx} {w : World} (hg : ObsOk C w g) (u : Under ids C1 C) (hW : ∀ b, C1.W b -> C.W b) : ∀ {l : List Nat} {k : Nat} {ol : List Ob}, rP g ids l = some ol ->
  (∀ p j, l[p]? = some j -> ids[k + p]? = some j) -> ol.length = l.length /\ ∀ p ob, ol[p]? = some ob -> obHolds C1 w (k + p) ob
 | [], k, ol, h, _ => by
   simp only [rP, Option.some.injEq] at h
   subst h
   exact ⟨rfl, fun p ob hp => by simp at hp⟩
 | i :: l, k, ol, h, hi => by
   have hi0 : ids[k]? = some i := hi 0 i rfl
   have rest : ∀ {ol' : List Ob}, rP g ids l = some ol' -> ol'.length = l.length /\ ∀ p ob, ol'[p]? = some ob -> obHolds C1 w (k + 1 + p) ob := fun h' =>
     GQ (k := k + 1) hg u hW h' fun p j hp => by rw [show k + 1 + p = k + (p + 1) by omega]; exact hi (p + 1) j (by simpa using hp)
   have fin : ∀ {o : Ob} {ol' : List Ob}, rP g ids l = some ol' -> obHolds C1 w k o -> (o :: ol').length = (i :: l).length /\ ∀ p ob, (o :: ol')[p]? = some ob -> obHolds C1 w (k + p) ob := by
     intro o ol' h1 h2
     obtain ⟨r1, r2⟩ := rest h1
     refine ⟨by simp [r1], fun p ob hp => ?_⟩
     cases p with
     | zero => simp at hp; subst hp; exact h2
     | succ p => rw [show k + (p + 1) = k + 1 + p by omega]; exact r2 p ob (by simpa using hp)
   simp only [rP] at h
   split at h
   · rename_i t cs hgi
     obtain ⟨ol', h1, rfl⟩ := Option.map_eq_some_iff.1 h
     refine fin h1 ?_
     obtain ⟨b, e1, e2, vs, e3, e4⟩ := hg i _ hgi
     exact ⟨b, (u.own k i b hi0).2 e1, u.back k i _ hi0 e2, vs, e3, fK u hW _ vs (mW cs vs (fun j _ ob hj => hg j ob hj) e4)⟩
   · rename_i ob _ hgi
     split at h
     · rename_i o ho
       obtain ⟨ol', h1, rfl⟩ := Option.map_eq_some_iff.1 h
       exact fin h1 (uj u hW hi0 ho (hg i _ hgi))
     · cases h
   · cases h
def bn : List Ob -> List Ob -> Prop
 | [], l' => match l' with
   | [] => True
   | _ => False
 | o :: l, l' => match l' with
   | [] => False
   | o' :: l' => Ap o o' /\ bn l l'
theorem Gi : ∀ {l l' : List Ob}, bn l l' -> l.length = l'.length /\ ∀ (p : Nat) o', l'[p]? = some o' -> ∃ o, l[p]? = some o /\ Ap o o'
 | [], [], _ => ⟨rfl, fun p o' h => by simp at h⟩
 | [], _ :: _, h => by simp only [bn] at h
 | _ :: _, [], h => by simp only [bn] at h
 | o :: l, o' :: l', h => by
   simp only [bn] at h
   obtain ⟨h1, h2⟩ := Gi h.2
   refine ⟨by simp [h1], fun p q hp => ?_⟩
   cases p with
   | zero => simp at hp; subst hp; exact ⟨o, rfl, h.1⟩
   | succ p => simpa using h2 p q (by simpa using hp)
abbrev Out := SV × List (Option Ob)
def Ctr (P : Program) (f : FuncId) (args : List SV) (obs : List Ob) (out : T Out) : Prop :=
 ∀ (C : Ctx) (w : World) (vs : List Value) (post : Out -> Prop), WF C w -> (∀ (i : Nat) ob, obs[i]? = some ob -> obHolds C w i ob) -> (∀ i, obs.length <= i -> C.ν i = none) -> relL C w args vs -> out.holds post ->
   Calls P f vs.toArray w fun e w' => ∃ v C' y, post y /\ e = .returned v /\ Step (fun i => i < obs.length) C w C' w' /\ WF C' w' /\ (∀ i, y.2.length <= i -> C'.ν i = none) /\ rel C' w' y.1 v /\
    ∀ (i : Nat) ob, y.2[i]? = some (some ob) -> obHolds C' w' i ob
def upto : Nat -> Nat -> List Nat
 | _, 0 => []
 | n, k + 1 => n :: upto (n + 1) k
theorem lJ : ∀ (n k : Nat), (upto n k).length = k
 | _, 0 => rfl
 | n, k + 1 => by simp [upto, lJ (n + 1) k]
theorem wF : ∀ {n k i : Nat}, i ∈ upto n k -> n <= i /\ i < n + k
 | _, 0, _, h => by simp [upto] at h
 | n, k + 1, i, h => by
   simp only [upto, List.mem_cons] at h
   rcases h with rfl | h
   · omega
   · have := wF h; omega
theorem EC : ∀ (n k : Nat), nodup (upto n k) = true
 | _, 0 => rfl
 | n, k + 1 => by
   simp only [upto, nodup, Bool.and_eq_true, Bool.not_eq_true']
   refine ⟨?_, EC (n + 1) k⟩
   cases h : (upto (n + 1) k).contains n with
   | false => rfl
   | true =>
     have := wF (show n ∈ upto (n + 1) k by simpa using h)
     omega
theorem nodup_append : ∀ {l m : List Nat}, nodup l = true -> nodup m = true -> (∀ i ∈ l, i ∉ m) -> nodup (l ++ m) = true
 | [], _, _, h, _ => h
 | x :: l, m, h, h', hd => by
   simp only [nodup, Bool.and_eq_true, Bool.not_eq_true'] at h
   simp only [List.cons_append, nodup, Bool.and_eq_true, Bool.not_eq_true']
   refine ⟨?_, nodup_append h.2 h' fun i hi => hd i (by simp [hi])⟩
   have h1 : x ∉ l := by simpa using h.1
   have h2 : x ∉ m := hd x (by simp)
   simp [h1, h2]
theorem RG {C : Ctx} {w : World} {i : Nat} {ob : Ob} (h : obHolds C w i ob) : ∃ v, C.ν i = some v := by
 cases ob with
 | cells t cs => obtain ⟨b, _, h, _⟩ := h; exact ⟨_, h⟩
 | row t sz n f => obtain ⟨A, c, h, _⟩ := h; exact ⟨_, h⟩
 | frz d => obtain ⟨u, h, _⟩ := h; exact ⟨_, h⟩
 | mp kt vt l => obtain ⟨b, _, h, _⟩ := h; exact ⟨_, h⟩
 | it m n s => obtain ⟨b, bm, _, h, _⟩ := h; exact ⟨_, h⟩
 | vec t sz n tr ex => obtain ⟨b, m, _, h, _⟩ := h; exact ⟨_, h⟩
 | itx m n c => obtain ⟨s, _, b, bm, _, h, _⟩ := h; exact ⟨_, h⟩
def Ctx.back (C : Ctx) (ids : List Nat) (C1 : Ctx) : Ctx :=
 ⟨fun j => match posOf ids j with
    | some p => C1.ν p
    | none => C.ν j, fun j => match posOf ids j with
    | some p => C1.ρ p
    | none => C.ρ j, C.W0⟩
theorem KN {P : Program} {C : Ctx} {w : World} {g : Nat -> Option Ob} {f : FuncId} {args : List SV} {obs : List Ob} {out : T Out} {ids : List Nat} {new : Nat} {ol : List Ob} (hci : Ctr P f args obs out)
  (hw : WF C w) (hg : ObsOk C w g) {al : List SV} {vs : List Value} (hal : relL C w al vs) (h3 : nodup ids = true) (hlt : ∀ i ∈ ids, i < new)
  (hol : rP g ids ids = some ol) (hargs : leL (fV ids al) args) (hobs : bn ol obs) {post : Out -> Prop} (hout : out.holds post)
  (hnew : ∀ y, post y -> ∀ i ∈ upto new (y.2.length - ids.length), C.ν i = none) (hle : ∀ y, post y -> ids.length <= y.2.length) :
  Calls P f vs.toArray w fun e w' => ∃ v C' y, post y /\ e = .returned v /\ Came C w ⟨ren (ids ++ upto new (y.2.length - ids.length)) y.1, ⟨(ids ++ upto new (y.2.length - ids.length)).zip (y.2.map fun x => x.map (kF (ids ++ upto new (y.2.length - ids.length)))), upto new (y.2.length - ids.length)⟩⟩ C' w' v := by
 have hu := yg C ids (fun b => C.W b /\ ¬ ∃ j, j ∈ ids /\ C.ρ j = some b)
 have hw1 := Mw hw h3 (W0 := fun b => C.W b /\ ¬ ∃ j, j ∈ ids /\ C.ρ j = some b) (fun b hb => hb)
 have hge : ∀ i, ids.length <= i -> (C.sub ids (fun b => C.W b /\ ¬ ∃ j, j ∈ ids /\ C.ρ j = some b)).ν i = none := fun i hi => NY hi
 have hW1 : ∀ b, (C.sub ids (fun b => C.W b /\ ¬ ∃ j, j ∈ ids /\ C.ρ j = some b)).W b -> C.W b := by
  rintro b (hb | ⟨i, hi⟩)
  · exact hb.1
  · obtain ⟨j, _, h⟩ := Option.bind_eq_some_iff.1 hi
    exact .inr ⟨j, h⟩
 have hC1W0 : ∀ b, (C.sub ids (fun b => C.W b /\ ¬ ∃ j, j ∈ ids /\ C.ρ j = some b)).W0 b ↔ (C.W b /\ ¬ ∃ j, j ∈ ids /\ C.ρ j = some b) := fun b => Iff.rfl
 have hown : ∀ p b, (C.sub ids (fun b => C.W b /\ ¬ ∃ j, j ∈ ids /\ C.ρ j = some b)).ρ p = some b -> ∃ j, ids[p]? = some j /\ C.ρ j = some b := fun p b h => by
  obtain ⟨j, h1, h2⟩ := Option.bind_eq_some_iff.1 h
  exact ⟨j, h1, h2⟩
 generalize C.sub ids (fun b => C.W b /\ ¬ ∃ j, j ∈ ids /\ C.ρ j = some b) = C1 at hu hw1 hge hW1 hC1W0 hown
 have hin := sM _ _ _ hargs (fK hu hW1 al _ hal)
 obtain ⟨ol1, ol2⟩ := GQ (k := 0) hg hu hW1 hol (fun p j hp => by rw [Nat.zero_add]; exact hp)
 obtain ⟨ob1, ob2⟩ := Gi hobs
 have hlen : obs.length = ids.length := by omega
 have hgob : ∀ (i : Nat) ob, obs[i]? = some ob -> obHolds C1 w i ob := by
  intro i ob hi
  obtain ⟨o, o1, o2⟩ := ob2 i ob hi
  have := ol2 i o o1
  rw [Nat.zero_add] at this
  exact oD o2 this
 have hcalls := hci C1 w _ post hw1 hgob (fun i hi => hge i (by omega)) hin hout
 refine hcalls.mono ?_
 rintro e w' ⟨v, C2, y, hy, rfl, hstep, hwf2, hge2, hres, hobs'⟩
 have hnew := hnew y hy
 have hle := hle y hy
 generalize hk : y.2.length - ids.length = k at *
 have hlen' : (ids ++ upto new k).length = y.2.length := by simp [lJ]; omega
 have hnd : nodup (ids ++ upto new k) = true := nodup_append h3 (EC _ _) fun i hi hi' => by
  have := hlt i hi; have := (wF hi').1; omega
 have hfresh : ∀ j, j ∈ upto new k -> C.ν j = none := fun j hj => hnew j hj
 have hlent : ∀ p j, ids[p]? = some j -> ∃ u, C1.ν p = some u /\ C.ν j = some u /\ C2.ν p = some u := by
  intro p j hp
  have hpl : p < ids.length := (List.getElem?_eq_some_iff.1 hp).1
  obtain ⟨u, hu1⟩ := RG (hgob p _ (List.getElem?_eq_getElem (by omega)))
  obtain ⟨j', h1, h2⟩ := hu.to p u hu1
  rw [hp] at h1; injection h1 with h1; subst h1
  exact ⟨u, hu1, h2, hstep.ext p u hu1⟩
 generalize hids' : ids ++ upto new k = ids' at *
 have hin1 : ∀ p j, ids[p]? = some j -> ids'[p]? = some j := fun p j hp => by
  rw [← hids', List.getElem?_append_left (List.getElem?_eq_some_iff.1 hp).1]; exact hp
 have hν : ∀ p j, ids'[p]? = some j -> (C.back ids' C2).ν j = C2.ν p := by
  intro p j hp
  show (match posOf ids' j with
   | some p => C2.ν p
   | none => C.ν j) = _
  rw [Ea hnd hp]
 have hback : ∀ p j, ids'[p]? = some j -> (C.back ids' C2).ρ j = C2.ρ p := by
  intro p j hp
  show (match posOf ids' j with
   | some p => C2.ρ p
   | none => C.ρ j) = _
  rw [Ea hnd hp]
 have hνo : ∀ j, j ∉ ids' -> (C.back ids' C2).ν j = C.ν j := by
  intro j hj
  show (match posOf ids' j with
   | some p => C2.ν p
   | none => C.ν j) = _
  cases hp : posOf ids' j with
  | none => rfl
  | some p => exact absurd (List.mem_of_getElem? (fF hp)) hj
 have hother : ∀ j, j ∉ ids' -> (C.back ids' C2).ρ j = C.ρ j := by
  intro j hj
  show (match posOf ids' j with
   | some p => C2.ρ p
   | none => C.ρ j) = _
  cases hp : posOf ids' j with
  | none => rfl
  | some p => exact absurd (List.mem_of_getElem? (fF hp)) hj
 have hmem : ∀ j, j ∈ ids' -> j ∈ ids ∨ j ∈ upto new k := fun j hj => by rw [← hids'] at hj; exact List.mem_append.1 hj
 have hmem' : ∀ j, j ∈ ids -> j ∈ ids' := fun j hj => by rw [← hids']; exact List.mem_append_left _ hj
 have hcase : ∀ j b, (C.back ids' C2).ρ j = some b -> (∃ p, ids'[p]? = some j /\ C2.ρ p = some b) ∨ (j ∉ ids' /\ C.ρ j = some b) := by
  intro j b hj
  by_cases hm : j ∈ ids'
  · obtain ⟨p, hp⟩ := List.getElem?_of_mem hm
    rw [hback p j hp] at hj
    exact .inl ⟨p, hp, hj⟩
  · rw [hother j hm] at hj
    exact .inr ⟨hm, hj⟩
 have hfrom : ∀ p b, C2.ρ p = some b -> (∃ j, j ∈ ids /\ C.ρ j = some b) ∨ w.heap.size <= b := by
  intro p b hp
  rcases hstep.own p b hp with ⟨q, hq⟩ | h
  · obtain ⟨j, h1, h2⟩ := hown q b hq
    exact .inl ⟨j, List.mem_of_getElem? h1, h2⟩
  · exact .inr h
 have hu2 : Under ids' C2 (C.back ids' C2) := by
  refine ⟨fun p u hp => ?_, fun p j u hp hj => ?_, fun p j b hp => ?_⟩
  · have hpl : p < ids'.length := by
        rcases Nat.lt_or_ge p ids'.length with h | h
        · exact h
        · rw [hge2 p (by omega)] at hp; cases hp
    have hid : ids'[p]? = some ids'[p] := List.getElem?_eq_getElem hpl
    exact ⟨_, hid, (hν p _ hid).trans hp⟩
  · rw [← hν p j hp]; exact hj
  · rw [hback p j hp]
 have hW2 : ∀ b, (C.back ids' C2).W b -> C2.W b := by
  rintro b (hb | ⟨j, hj⟩)
  · refine .inl ?_
    rw [hstep.w0]
    refine (hC1W0 b).2 ⟨.inl hb, ?_⟩
    rintro ⟨j, _, hj⟩
    exact hw.dis j b hj hb
  · rcases hcase j b hj with ⟨p, _, hp⟩ | ⟨hm, hj⟩
    · exact .inr ⟨p, hp⟩
    · refine .inl ?_
      rw [hstep.w0]
      refine (hC1W0 b).2 ⟨.inr ⟨j, hj⟩, ?_⟩
      rintro ⟨k, hk, hkb⟩
      exact hm (hmem' _ (hw.inj j k b hj hkb ▸ hk))
 have hX : ∀ j, j ∈ ids' -> j ∈ (ids'.zip (y.2.map fun x => x.map (kF ids'))).map (·.1) := fun j hj => by
  rw [List.map_fst_zip (by simp; omega)]; exact hj
 have hwf' : WF (C.back ids' C2) w' := by
  refine ⟨fun j b hj => ?_, fun j k b hj hk => ?_, fun b hb => Nat.lt_of_lt_of_le (hw.w0 b hb) hstep.ag.size, fun j b hj => ?_, fun j b hj hb => ?_, hwf2.gl.step (Ag.refl _ w') fun b _ hb => hW2 b hb⟩
  · rcases hcase j b hj with ⟨p, _, hp⟩ | ⟨_, hj⟩
    · exact hwf2.lt p b hp
    · exact Nat.lt_of_lt_of_le (hw.lt j b hj) hstep.ag.size
  · rcases hcase j b hj with ⟨p, hp1, hp⟩ | ⟨hm, hj⟩ <;> rcases hcase k b hk with ⟨q, hq1, hq⟩ | ⟨hm', hk⟩
    · have := hwf2.inj p q b hp hq
      subst this
      rw [hp1] at hq1; injection hq1
    · rcases hfrom p b hp with ⟨i, hi, hib⟩ | h
      · exact absurd (hmem' _ (hw.inj i k b hib hk ▸ hi)) hm'
      · have := hw.lt k b hk; omega
    · rcases hfrom q b hq with ⟨i, hi, hib⟩ | h
      · exact absurd (hmem' _ (hw.inj i j b hib hj ▸ hi)) hm
      · have := hw.lt j b hj; omega
    · exact hw.inj j k b hj hk
  · rcases hcase j b hj with ⟨p, hp1, hp⟩ | ⟨hm, hj⟩
    · obtain ⟨u, hu⟩ := hwf2.own p b hp
      exact ⟨u, (hν p j hp1).trans hu⟩
    · obtain ⟨u, hu⟩ := hw.own j b hj
      exact ⟨u, (hνo j hm).trans hu⟩
  · rcases hcase j b hj with ⟨p, hp1, hp⟩ | ⟨_, hj⟩
    · rcases hfrom p b hp with ⟨i, hi, hib⟩ | h
      · exact hw.dis i b hib hb
      · have := hw.w0 b hb; omega
    · exact hw.dis j b hj hb
 refine ⟨v, C.back ids' C2, y, hy, rfl, ?_⟩
 rw [hk, hids']
 refine ⟨Pt hu2 hW2 _ _ hres, ⟨fun j u hj => ?_, rfl, fun j b hj => ?_, fun j b hx hj => ?_, hstep.ag.mono fun b _ hx => ?_⟩, hwf', fun j hj => ?_, fun j ob hob => ?_⟩
 · by_cases hm : j ∈ ids'
   · rcases hmem j hm with h | h
     · obtain ⟨p, hp⟩ := List.getElem?_of_mem h
       obtain ⟨u', _, e2, e3⟩ := hlent p j hp
       rw [hν p j (hin1 p j hp), e3, ← e2, hj]
     · rw [hfresh j h] at hj; cases hj
   · rw [hνo j hm]; exact hj
 · rcases hcase j b hj with ⟨p, _, hp⟩ | ⟨_, hj⟩
   · rcases hfrom p b hp with ⟨i, _, hib⟩ | h
     · exact .inl ⟨i, hib⟩
     · exact .inr h
   · exact .inl ⟨j, hj⟩
 · rw [hother j fun hm => hx (hX j hm)]; exact hj
 · obtain ⟨i, hi, hib⟩ := hx
   obtain ⟨j, hj1, hj2⟩ := hown i b hib
   exact ⟨j, hX j (hmem' _ (List.mem_of_getElem? hj1)), hj2⟩
 · by_cases hm : j ∈ ids'
   · rcases hmem j hm with h | h
     · obtain ⟨p, hp⟩ := List.getElem?_of_mem h
       obtain ⟨u', _, e2, _⟩ := hlent p j hp
       exact .inl (by rw [e2]; simp)
     · exact .inr h
   · rw [hνo j hm] at hj; exact .inl hj
 · have hm := List.of_mem_zip (gJ hob)
   obtain ⟨p, hp⟩ := List.getElem?_of_mem hm.1
   have hpl : p < ids'.length := (List.getElem?_eq_some_iff.1 hp).1
   have hio : y.2[p]? = some (y.2[p]'(by omega)) := List.getElem?_eq_getElem (by omega)
   have hlook : (ids'.zip (y.2.map fun x => x.map (kF ids'))).lookup j = some ((y.2[p]'(by omega)).map (kF ids')) := by
    refine Dj hnd hp ?_
    simp [hio]
   have hob2 : (ids'.zip (y.2.map fun x => x.map (kF ids'))).lookup j = some (some ob) := hob
   rw [hlook] at hob2
   injection hob2 with hob2
   obtain ⟨ob2, e2, rfl⟩ := Option.map_eq_some_iff.1 hob2
   exact X4 hu2 hW2 hp ob2 (hobs' p ob2 (by rw [hio, e2]))
end Rx
