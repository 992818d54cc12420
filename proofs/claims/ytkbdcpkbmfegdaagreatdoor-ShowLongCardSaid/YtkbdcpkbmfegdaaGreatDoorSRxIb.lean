/- Rx, part Ib: contracts between functions, and a call by its contract. -/
import Derived.Test.YtkbdcpkbmfegdaaGreatDoorSRxI
set_option linter.unusedSectionVars false
set_option linter.unusedSimpArgs false
set_option linter.unusedVariables false
namespace Rx
open Go
variable [Glob]
mutual
def thaw (g : Nat -> Option Ob) : SV -> SV
 | .nm i => match g i with
   | some (.frz d) => .dt d
   | _ => .nm i
 | .agg l => .agg (ru g l)
 | .tup l => .tup (ru g l)
 | .junk => .junk
 | .dt d => .dt d
 | .ptr i o => .ptr i o
 | .el m f => .el m f
 | .fn f l => .fn f l
 | .kb b => .kb b
 | .sy s => .sy s
 | .ki k n => .ki k n
 | .rp i x z o => .rp i x z o
 | .ri k a b n => .ri k a b n
 | .sl i z o n c => .sl i z o n c
def ru (g : Nat -> Option Ob) : List SV -> List SV
 | [] => []
 | s :: l => thaw g s :: ru g l
end
mutual
theorem qc {C : Ctx} {w : World} {g : Nat -> Option Ob} : ∀ (s : SV) (v : Value), (∀ i ∈ dI s, ∀ ob, g i = some ob -> obHolds C w i ob) -> rel C w s v -> rel C w (thaw g s) v
 | .nm i, v, hg, r => by
   simp only [thaw]
   split
   · rename_i d hd
     obtain ⟨v', h1, h2⟩ := hg i (by simp [dI]) _ hd
     rw [show C.ν i = some v from r.1] at h1
     injection h1 with h1
     subst h1
     exact h2
   · exact r
 | .agg l, _, hg, ⟨vs, e, r⟩ => ⟨vs, e, mI l vs hg r⟩
 | .tup l, _, hg, ⟨vs, e, r⟩ => ⟨vs, e, mI l vs hg r⟩
 | .junk, _, _, _ => trivial
 | .dt _, _, _, r => r
 | .ptr _ _, _, _, r => r
 | .el _ _, _, _, r => r
 | .fn _ _, _, _, r => r
 | .kb _, _, _, r => r
 | .sy _, _, _, r => r
 | .ki _ _, _, _, r => r
 | .rp _ _ _ _, _, _, r => r
 | .ri _ _ _ _, _, _, r => r
 | .sl _ _ _ _ _, _, _, r => r
theorem mI {C : Ctx} {w : World} {g : Nat -> Option Ob} : ∀ (l : List SV) (vs : List Value), (∀ i ∈ gH l, ∀ ob, g i = some ob -> obHolds C w i ob) -> relL C w l vs -> relL C w (ru g l) vs
 | [], _, _, r => r
 | s :: l, _, hg, ⟨v, r, e, h1, h2⟩ => ⟨v, r, e, qc s v (fun i hi => hg i (by simp [gH, hi])) h1, mI l r (fun i hi => hg i (by simp [gH, hi])) h2⟩
end
mutual
theorem O6 {g : Nat -> Option Ob} : ∀ (s : SV), ∀ i ∈ dI (thaw g s), i ∈ dI s
 | .nm j, i, h => by
   simp only [thaw] at h
   split at h
   · simp [dI] at h
   · exact h
 | .agg l, i, h => BL l i h
 | .tup l, i, h => BL l i h
 | .junk, _, h => h
 | .dt _, _, h => h
 | .ptr _ _, _, h => h
 | .el _ _, _, h => h
 | .fn _ _, _, h => h
 | .kb _, _, h => h
 | .sy _, _, h => h
 | .ki _ _, _, h => h
 | .rp _ _ _ _, _, h => h
 | .ri _ _ _ _, _, h => h
 | .sl _ _ _ _ _, _, h => h
theorem BL {g : Nat -> Option Ob} : ∀ (l : List SV), ∀ i ∈ gH (ru g l), i ∈ gH l
 | [], _, h => h
 | s :: l, i, h => by
   simp only [ru, gH, List.mem_append] at h ⊢
   exact h.imp (O6 s i) (BL l i)
end
mutual
def afs : SV -> List Nat
 | .ptr i _ => [i]
 | .nm i => [i]
 | .rp i _ _ _ => [i]
 | .sl i _ _ _ _ => [i]
 | .agg l => bW l
 | .tup l => bW l
 | .fn _ l => bW l
 | _ => []
def bW : List SV -> List Nat
 | [] => []
 | s :: l => afs s ++ bW l
end
def SH : Option Ob -> List Nat
 | some (.cells _ cs) => bW cs
 | some (.it m _ _) => [m]
 | some (.itx m _ _) => [m]
 | _ => []
def reach (g : Nat -> Option Ob) : Nat -> List Nat -> List Nat -> List Nat
 | 0, _, acc => acc
 | _ + 1, [], acc => acc
 | n + 1, i :: l, acc => bif acc.contains i then reach g n l acc else reach g n (SH (g i) ++ l) (acc ++ [i])
theorem vH {g : Nat -> Option Ob} : ∀ (n : Nat) (l acc : List Nat) (i : Nat), i ∈ acc -> i ∈ reach g n l acc
 | 0, _, _, _, h => h
 | _ + 1, [], _, _, h => h
 | n + 1, j :: l, acc, i, h => by
   simp only [reach]
   cases acc.contains j with
   | true => exact vH n l acc i h
   | false => exact vH n _ _ i (List.mem_append_left _ h)
theorem pJ {g g' : Nat -> Option Ob} : ∀ (n : Nat) (l acc : List Nat), (∀ i ∈ reach g n l acc, g i = g' i) -> reach g n l acc = reach g' n l acc
 | 0, _, _, _ => rfl
 | _ + 1, [], _, _ => rfl
 | n + 1, j :: l, acc, h => by
   simp only [reach] at h ⊢
   cases hc : acc.contains j with
   | true => rw [hc] at h; exact pJ n l acc h
   | false =>
     rw [hc, cond_false] at h
     rw [cond_false, cond_false, ← h j (vH _ _ _ _ (by simp))]
     exact pJ n _ _ h
def kG (g : Nat -> Option Ob) (S : List Nat) : List (Nat × Option Ob) := S.map fun i => (i, g i)
def mH (l : List (Nat × Option Ob)) (i : Nat) : Option Ob := match l.lookup i with
 | some x => x
 | none => none
theorem Bu {g : Nat -> Option Ob} : ∀ {S : List Nat} {i : Nat} {ob : Ob}, mH (kG g S) i = some ob -> g i = some ob
 | [], _, _, h => by simp [mH, kG] at h
 | j :: S, i, ob, h => by
   simp only [mH, kG, List.map_cons, List.lookup] at h
   by_cases hij : i = j
   · subst hij; simpa using h
   · have : (i == j) = false := by simpa using hij
     rw [this] at h
     exact Bu (S := S) h
theorem JC {g g' : Nat -> Option Ob} {S : List Nat} (h : ∀ i ∈ S, g i = g' i) : kG g S = kG g' S :=
 List.map_congr_left fun i hi => by rw [h i hi]
mutual
def jB (ids : List Nat) : SV -> SV
 | .agg l => .agg (fF ids l)
 | .tup l => .tup (fF ids l)
 | .ptr i off => match posOf ids i with
   | some j => .ptr j off
   | none => .junk
 | .nm i => match posOf ids i with
   | some j => .nm j
   | none => .junk
 | .rp i idx sz off => match posOf ids i with
   | some j => .rp j idx sz off
   | none => .junk
 | .sl i sz o n c => match posOf ids i with
   | some j => .sl j sz o n c
   | none => .junk
 | .ri k a b n => .ri k a b n
 | .fn f caps => .fn f (fF ids caps)
 | .junk => .junk
 | .dt d => .dt d
 | .el m g => .el m g
 | .kb b => .kb b
 | .sy s => .sy s
 | .ki k n => .ki k n
def fF (ids : List Nat) : List SV -> List SV
 | [] => []
 | s :: l => jB ids s :: fF ids l
end
def iK (ids : List Nat) : Ob -> Option Ob
 | .cells t cs => some (.cells t (fF ids cs))
 | .it m n s => match posOf ids m with
   | some j => some (.it j n s)
   | none => none
 | .row t sz n f => some (.row t sz n f)
 | .frz d => some (.frz d)
 | .mp kt vt l => some (.mp kt vt l)
 | .vec _ _ _ _ _ => none
 | .itx m n c => match posOf ids m with
   | some j => some (.itx j n c)
   | none => none
mutual
theorem vP {ids : List Nat} {C1 C : Ctx} {w : World} (u : Under ids C1 C) (hW : ∀ b, C1.W b -> C.W b) : ∀ (s : SV) (v : Value), rel C w s v -> rel C1 w (jB ids s) v
 | .junk, _, _ => trivial
 | .dt _, _, r => bP hW r
 | .agg l, _, ⟨vs, e, r⟩ => ⟨vs, e, fG u hW l vs r⟩
 | .tup l, _, ⟨vs, e, r⟩ => ⟨vs, e, fG u hW l vs r⟩
 | .ptr i off, v, ⟨b, hb, e⟩ => by
   simp only [jB]
   cases hp : posOf ids i with
   | none => trivial
   | some p => exact ⟨b, u.back p i _ (eH hp) hb, e⟩
 | .nm i, v, r => by
   simp only [jB]
   cases hp : posOf ids i with
   | none => trivial
   | some p => exact ⟨u.back p i _ (eH hp) r.1, r.2⟩
 | .rp i idx sz off, v, ⟨b, n, c, hb, e⟩ => by
   simp only [jB]
   cases hp : posOf ids i with
   | none => trivial
   | some p => exact ⟨b, n, c, u.back p i _ (eH hp) hb, e⟩
 | .sl i sz o n c, v, ⟨b, m, cc, x, hb, e⟩ => by
   simp only [jB]
   cases hp : posOf ids i with
   | none => trivial
   | some p => exact ⟨b, m, cc, x, u.back p i _ (eH hp) hb, e⟩
 | .ri _ _ _ _, _, r => r
 | .el _ _, _, ⟨b, off, e, p⟩ => ⟨b, off, e, bP hW p⟩
 | .fn _ caps, _, ⟨vs, e, r⟩ => ⟨vs, e, fG u hW caps vs r⟩
 | .kb _, _, r => r
 | .sy _, _, r => r
 | .ki _ _, _, r => r
theorem fG {ids : List Nat} {C1 C : Ctx} {w : World} (u : Under ids C1 C) (hW : ∀ b, C1.W b -> C.W b) : ∀ (l : List SV) (vs : List Value), relL C w l vs -> relL C1 w (fF ids l) vs
 | [], _, r => r
 | s :: l, _, ⟨v, r, e, h1, h2⟩ => ⟨v, r, e, vP u hW s v h1, fG u hW l r h2⟩
end
theorem rz {ids : List Nat} {C1 C : Ctx} {w : World} (u : Under ids C1 C) (hW : ∀ b, C1.W b -> C.W b) {p j : Nat} (hij : ids[p]? = some j) {ob ob' : Ob} (he : iK ids ob = some ob') (h : obHolds C w j ob) : obHolds C1 w p ob' := by
 cases ob with
 | cells t cs =>
   simp only [iK, Option.some.injEq] at he
   subst he
   obtain ⟨b, h1, h2, vs, h3, h4⟩ := h
   exact ⟨b, (u.own p j b hij).2 h1, u.back p j _ hij h2, vs, h3, fG u hW cs vs h4⟩
 | row t sz n f =>
   simp only [iK, Option.some.injEq] at he
   subst he
   obtain ⟨A, c, h1, h2⟩ := h
   refine ⟨A, c, u.back p j _ hij h1, ?_⟩
   rcases h2 with h2 | ⟨b, h2, h3, h4, cur, h5, h6, h7⟩
   · exact .inl h2
   · refine .inr ⟨b, (u.own p j b hij).2 h2, h3, h4, cur, h5, h6, fun k m hk hm => ?_⟩
     obtain ⟨x, h8, h9⟩ := h7 k m hk hm
     exact ⟨x, h8, h9.1, bP hW h9.2⟩
 | frz d =>
   simp only [iK, Option.some.injEq] at he
   subst he
   obtain ⟨v, h1, h2⟩ := h; exact ⟨v, u.back p j _ hij h1, bP hW h2⟩
 | mp kt vt l =>
   simp only [iK, Option.some.injEq] at he
   subst he
   obtain ⟨b, h1, h2, h3⟩ := h; exact ⟨b, (u.own p j b hij).2 h1, u.back p j _ hij h2, h3⟩
 | it m n s =>
   simp only [iK] at he
   cases hp : posOf ids m with
   | none => rw [hp] at he; cases he
   | some q =>
     rw [hp] at he
     simp only [Option.some.injEq] at he
     subst he
     obtain ⟨b, bm, h1, h2, h3, h4⟩ := h
     exact ⟨b, bm, (u.own p j b hij).2 h1, u.back p j _ hij h2, u.back q m _ (eH hp) h3, h4⟩
 | vec t sz n tr ex => simp [iK] at he
 | itx m n c =>
   simp only [iK] at he
   cases hp : posOf ids m with
   | none => rw [hp] at he; cases he
   | some q =>
     rw [hp] at he
     simp only [Option.some.injEq] at he
     subst he
     obtain ⟨s, h0, b, bm, h1, h2, h3, h4⟩ := h
     exact ⟨s, h0, b, bm, (u.own p j b hij).2 h1, u.back p j _ hij h2, u.back q m _ (eH hp) h3, h4⟩
def pG (g : Nat -> Option Ob) (ids : List Nat) : List Nat -> Option (List Ob)
 | [] => some []
 | i :: l => match g i with
   | some (.cells t cs) => (pG g ids l).map (.cells t (fF ids (ru g cs)) :: ·)
   | some ob => match iK ids ob with
     | some o => (pG g ids l).map (o :: ·)
     | none => none
   | none => none
theorem Ep {g : Nat -> Option Ob} {ids : List Nat} {C1 C : Ctx} {w : World} (hg : ObsOk C w g) (u : Under ids C1 C) (hW : ∀ b, C1.W b -> C.W b) : ∀ {l : List Nat} {k : Nat} {ol : List Ob}, pG g ids l = some ol ->
  (∀ p j, l[p]? = some j -> ids[k + p]? = some j) -> ol.length = l.length /\ ∀ p ob, ol[p]? = some ob -> obHolds C1 w (k + p) ob
 | [], k, ol, h, _ => by
   simp only [pG, Option.some.injEq] at h
   subst h
   exact ⟨rfl, fun p ob hp => by simp at hp⟩
 | i :: l, k, ol, h, hi => by
   have hi0 : ids[k]? = some i := hi 0 i rfl
   have rest : ∀ {ol' : List Ob}, pG g ids l = some ol' -> ol'.length = l.length /\ ∀ p ob, ol'[p]? = some ob -> obHolds C1 w (k + 1 + p) ob := fun h' =>
     Ep (k := k + 1) hg u hW h' fun p j hp => by rw [show k + 1 + p = k + (p + 1) by omega]; exact hi (p + 1) j (by simpa using hp)
   have fin : ∀ {o : Ob} {ol' : List Ob}, pG g ids l = some ol' -> obHolds C1 w k o -> (o :: ol').length = (i :: l).length /\ ∀ p ob, (o :: ol')[p]? = some ob -> obHolds C1 w (k + p) ob := by
     intro o ol' h1 h2
     obtain ⟨r1, r2⟩ := rest h1
     refine ⟨by simp [r1], fun p ob hp => ?_⟩
     cases p with
     | zero => simp at hp; subst hp; exact h2
     | succ p => rw [show k + (p + 1) = k + 1 + p by omega]; exact r2 p ob (by simpa using hp)
   simp only [pG] at h
   split at h
   · rename_i t cs hgi
     obtain ⟨ol', h1, rfl⟩ := Option.map_eq_some_iff.1 h
     refine fin h1 ?_
     obtain ⟨b, e1, e2, vs, e3, e4⟩ := hg i _ hgi
     exact ⟨b, (u.own k i b hi0).2 e1, u.back k i _ hi0 e2, vs, e3, fG u hW _ vs (mI cs vs (fun j _ ob hj => hg j ob hj) e4)⟩
   · rename_i ob _ hgi
     split at h
     · rename_i o ho
       obtain ⟨ol', h1, rfl⟩ := Option.map_eq_some_iff.1 h
       exact fin h1 (rz u hW hi0 ho (hg i _ hgi))
     · cases h
   · cases h
def bD : List Ob -> List Ob -> Prop
 | [], l' => match l' with
   | [] => True
   | _ => False
 | o :: l, l' => match l' with
   | [] => False
   | o' :: l' => PX o o' /\ bD l l'
theorem Du : ∀ {l l' : List Ob}, bD l l' -> l.length = l'.length /\ ∀ (p : Nat) o', l'[p]? = some o' -> ∃ o, l[p]? = some o /\ PX o o'
 | [], [], _ => ⟨rfl, fun p o' h => by simp at h⟩
 | [], _ :: _, h => by simp only [bD] at h
 | _ :: _, [], h => by simp only [bD] at h
 | o :: l, o' :: l', h => by
   simp only [bD] at h
   obtain ⟨h1, h2⟩ := Du h.2
   refine ⟨by simp [h1], fun p q hp => ?_⟩
   cases p with
   | zero => simp at hp; subst hp; exact ⟨o, rfl, h.1⟩
   | succ p => simpa using h2 p q (by simpa using hp)
abbrev Out := SV × List (Option Ob)
def Ctr (P : Program) (f : FuncId) (args : List SV) (obs : List Ob) (out : T Out) : Prop :=
 ∀ (C : Ctx) (w : World) (vs : List Value) (post : Out -> Prop), WF C w -> (∀ (i : Nat) ob, obs[i]? = some ob -> obHolds C w i ob) -> (∀ i, obs.length <= i -> C.ν i = none) -> relL C w args vs -> out.holds post ->
   Calls P f vs.toArray w fun e w' => ∃ v C' y, post y /\ e = .returned v /\ Step (fun i => i < obs.length) C w C' w' /\ WF C' w' /\ (∀ i, y.2.length <= i -> C'.ν i = none) /\ rel C' w' y.1 v /\
    ∀ (i : Nat) ob, y.2[i]? = some (some ob) -> obHolds C' w' i ob
def upto : Nat -> Nat -> List Nat
 | _, 0 => []
 | n, k + 1 => n :: upto (n + 1) k
theorem lJ : ∀ (n k : Nat), (upto n k).length = k
 | _, 0 => rfl
 | n, k + 1 => by simp [upto, lJ (n + 1) k]
theorem uH : ∀ {n k i : Nat}, i ∈ upto n k -> n <= i /\ i < n + k
 | _, 0, _, h => by simp [upto] at h
 | n, k + 1, i, h => by
   simp only [upto, List.mem_cons] at h
   rcases h with rfl | h
   · omega
   · have := uH h; omega
theorem BZ : ∀ (n k : Nat), nodup (upto n k) = true
 | _, 0 => rfl
 | n, k + 1 => by
   simp only [upto, nodup, Bool.and_eq_true, Bool.not_eq_true']
   refine ⟨?_, BZ (n + 1) k⟩
   cases h : (upto (n + 1) k).contains n with
   | false => rfl
   | true =>
     have := uH (show n ∈ upto (n + 1) k by simpa using h)
     omega
theorem nodup_append : ∀ {l m : List Nat}, nodup l = true -> nodup m = true -> (∀ i ∈ l, i ∉ m) -> nodup (l ++ m) = true
 | [], _, _, h, _ => h
 | x :: l, m, h, h', hd => by
   simp only [nodup, Bool.and_eq_true, Bool.not_eq_true'] at h
   simp only [List.cons_append, nodup, Bool.and_eq_true, Bool.not_eq_true']
   refine ⟨?_, nodup_append h.2 h' fun i hi => hd i (by simp [hi])⟩
   have h1 : x ∉ l := by simpa using h.1
   have h2 : x ∉ m := hd x (by simp)
   simp [h1, h2]
theorem SI {C : Ctx} {w : World} {i : Nat} {ob : Ob} (h : obHolds C w i ob) : ∃ v, C.ν i = some v := by
 cases ob with
 | cells t cs => obtain ⟨b, _, h, _⟩ := h; exact ⟨_, h⟩
 | row t sz n f => obtain ⟨A, c, h, _⟩ := h; exact ⟨_, h⟩
 | frz d => obtain ⟨u, h, _⟩ := h; exact ⟨_, h⟩
 | mp kt vt l => obtain ⟨b, _, h, _⟩ := h; exact ⟨_, h⟩
 | it m n s => obtain ⟨b, bm, _, h, _⟩ := h; exact ⟨_, h⟩
 | vec t sz n tr ex => obtain ⟨b, m, _, h, _⟩ := h; exact ⟨_, h⟩
 | itx m n c => obtain ⟨s, _, b, bm, _, h, _⟩ := h; exact ⟨_, h⟩
def Ctx.back (C : Ctx) (ids : List Nat) (C1 : Ctx) : Ctx :=
 ⟨fun j => match posOf ids j with
    | some p => C1.ν p
    | none => C.ν j, fun j => match posOf ids j with
    | some p => C1.ρ p
    | none => C.ρ j, C.W0⟩
theorem Ie {P : Program} {C : Ctx} {w : World} {g : Nat -> Option Ob} {f : FuncId} {args : List SV} {obs : List Ob} {out : T Out} {ids : List Nat} {new : Nat} {ol : List Ob} (hci : Ctr P f args obs out)
  (hw : WF C w) (hg : ObsOk C w g) {al : List SV} {vs : List Value} (hal : relL C w al vs) (h3 : nodup ids = true) (hlt : ∀ i ∈ ids, i < new)
  (hol : pG g ids ids = some ol) (hargs : leL (fF ids al) args) (hobs : bD ol obs) {post : Out -> Prop} (hout : out.holds post)
  (hnew : ∀ y, post y -> ∀ i ∈ upto new (y.2.length - ids.length), C.ν i = none) (hle : ∀ y, post y -> ids.length <= y.2.length) :
  Calls P f vs.toArray w fun e w' => ∃ v C' y, post y /\ e = .returned v /\ Came C w ⟨ren (ids ++ upto new (y.2.length - ids.length)) y.1, ⟨(ids ++ upto new (y.2.length - ids.length)).zip (y.2.map fun x => x.map (lF (ids ++ upto new (y.2.length - ids.length)))), upto new (y.2.length - ids.length)⟩⟩ C' w' v := by
 have hu := vN C ids (fun b => C.W b /\ ¬ ∃ j, j ∈ ids /\ C.ρ j = some b)
 have hw1 := LB hw h3 (W0 := fun b => C.W b /\ ¬ ∃ j, j ∈ ids /\ C.ρ j = some b) (fun b hb => hb)
 have hge : ∀ i, ids.length <= i -> (C.sub ids (fun b => C.W b /\ ¬ ∃ j, j ∈ ids /\ C.ρ j = some b)).ν i = none := fun i hi => LA hi
 have hW1 : ∀ b, (C.sub ids (fun b => C.W b /\ ¬ ∃ j, j ∈ ids /\ C.ρ j = some b)).W b -> C.W b := by
  rintro b (hb | ⟨i, hi⟩)
  · exact hb.1
  · obtain ⟨j, _, h⟩ := Option.bind_eq_some_iff.1 hi
    exact .inr ⟨j, h⟩
 have hC1W0 : ∀ b, (C.sub ids (fun b => C.W b /\ ¬ ∃ j, j ∈ ids /\ C.ρ j = some b)).W0 b ↔ (C.W b /\ ¬ ∃ j, j ∈ ids /\ C.ρ j = some b) := fun b => Iff.rfl
 have hown : ∀ p b, (C.sub ids (fun b => C.W b /\ ¬ ∃ j, j ∈ ids /\ C.ρ j = some b)).ρ p = some b -> ∃ j, ids[p]? = some j /\ C.ρ j = some b := fun p b h => by
  obtain ⟨j, h1, h2⟩ := Option.bind_eq_some_iff.1 h
  exact ⟨j, h1, h2⟩
 generalize C.sub ids (fun b => C.W b /\ ¬ ∃ j, j ∈ ids /\ C.ρ j = some b) = C1 at hu hw1 hge hW1 hC1W0 hown
 have hin := qy _ _ _ hargs (fG hu hW1 al _ hal)
 obtain ⟨ol1, ol2⟩ := Ep (k := 0) hg hu hW1 hol (fun p j hp => by rw [Nat.zero_add]; exact hp)
 obtain ⟨ob1, ob2⟩ := Du hobs
 have hlen : obs.length = ids.length := by omega
 have hgob : ∀ (i : Nat) ob, obs[i]? = some ob -> obHolds C1 w i ob := by
  intro i ob hi
  obtain ⟨o, o1, o2⟩ := ob2 i ob hi
  have := ol2 i o o1
  rw [Nat.zero_add] at this
  exact rO o2 this
 have hcalls := hci C1 w _ post hw1 hgob (fun i hi => hge i (by omega)) hin hout
 refine hcalls.mono ?_
 rintro e w' ⟨v, C2, y, hy, rfl, hstep, hwf2, hge2, hres, hobs'⟩
 have hnew := hnew y hy
 have hle := hle y hy
 generalize hk : y.2.length - ids.length = k at *
 have hlen' : (ids ++ upto new k).length = y.2.length := by simp [lJ]; omega
 have hnd : nodup (ids ++ upto new k) = true := nodup_append h3 (BZ _ _) fun i hi hi' => by
  have := hlt i hi; have := (uH hi').1; omega
 have hfresh : ∀ j, j ∈ upto new k -> C.ν j = none := fun j hj => hnew j hj
 have hlent : ∀ p j, ids[p]? = some j -> ∃ u, C1.ν p = some u /\ C.ν j = some u /\ C2.ν p = some u := by
  intro p j hp
  have hpl : p < ids.length := (List.getElem?_eq_some_iff.1 hp).1
  obtain ⟨u, hu1⟩ := SI (hgob p _ (List.getElem?_eq_getElem (by omega)))
  obtain ⟨j', h1, h2⟩ := hu.to p u hu1
  rw [hp] at h1; injection h1 with h1; subst h1
  exact ⟨u, hu1, h2, hstep.ext p u hu1⟩
 generalize hids' : ids ++ upto new k = ids' at *
 have hin1 : ∀ p j, ids[p]? = some j -> ids'[p]? = some j := fun p j hp => by
  rw [← hids', List.getElem?_append_left (List.getElem?_eq_some_iff.1 hp).1]; exact hp
 have hν : ∀ p j, ids'[p]? = some j -> (C.back ids' C2).ν j = C2.ν p := by
  intro p j hp
  show (match posOf ids' j with
   | some p => C2.ν p
   | none => C.ν j) = _
  rw [Bc hnd hp]
 have hback : ∀ p j, ids'[p]? = some j -> (C.back ids' C2).ρ j = C2.ρ p := by
  intro p j hp
  show (match posOf ids' j with
   | some p => C2.ρ p
   | none => C.ρ j) = _
  rw [Bc hnd hp]
 have hνo : ∀ j, j ∉ ids' -> (C.back ids' C2).ν j = C.ν j := by
  intro j hj
  show (match posOf ids' j with
   | some p => C2.ν p
   | none => C.ν j) = _
  cases hp : posOf ids' j with
  | none => rfl
  | some p => exact absurd (List.mem_of_getElem? (eH hp)) hj
 have hother : ∀ j, j ∉ ids' -> (C.back ids' C2).ρ j = C.ρ j := by
  intro j hj
  show (match posOf ids' j with
   | some p => C2.ρ p
   | none => C.ρ j) = _
  cases hp : posOf ids' j with
  | none => rfl
  | some p => exact absurd (List.mem_of_getElem? (eH hp)) hj
 have hmem : ∀ j, j ∈ ids' -> j ∈ ids ∨ j ∈ upto new k := fun j hj => by rw [← hids'] at hj; exact List.mem_append.1 hj
 have hmem' : ∀ j, j ∈ ids -> j ∈ ids' := fun j hj => by rw [← hids']; exact List.mem_append_left _ hj
 have hcase : ∀ j b, (C.back ids' C2).ρ j = some b -> (∃ p, ids'[p]? = some j /\ C2.ρ p = some b) ∨ (j ∉ ids' /\ C.ρ j = some b) := by
  intro j b hj
  by_cases hm : j ∈ ids'
  · obtain ⟨p, hp⟩ := List.getElem?_of_mem hm
    rw [hback p j hp] at hj
    exact .inl ⟨p, hp, hj⟩
  · rw [hother j hm] at hj
    exact .inr ⟨hm, hj⟩
 have hfrom : ∀ p b, C2.ρ p = some b -> (∃ j, j ∈ ids /\ C.ρ j = some b) ∨ w.heap.size <= b := by
  intro p b hp
  rcases hstep.own p b hp with ⟨q, hq⟩ | h
  · obtain ⟨j, h1, h2⟩ := hown q b hq
    exact .inl ⟨j, List.mem_of_getElem? h1, h2⟩
  · exact .inr h
 have hu2 : Under ids' C2 (C.back ids' C2) := by
  refine ⟨fun p u hp => ?_, fun p j u hp hj => ?_, fun p j b hp => ?_⟩
  · have hpl : p < ids'.length := by
        rcases Nat.lt_or_ge p ids'.length with h | h
        · exact h
        · rw [hge2 p (by omega)] at hp; cases hp
    have hid : ids'[p]? = some ids'[p] := List.getElem?_eq_getElem hpl
    exact ⟨_, hid, (hν p _ hid).trans hp⟩
  · rw [← hν p j hp]; exact hj
  · rw [hback p j hp]
 have hW2 : ∀ b, (C.back ids' C2).W b -> C2.W b := by
  rintro b (hb | ⟨j, hj⟩)
  · refine .inl ?_
    rw [hstep.w0]
    refine (hC1W0 b).2 ⟨.inl hb, ?_⟩
    rintro ⟨j, _, hj⟩
    exact hw.dis j b hj hb
  · rcases hcase j b hj with ⟨p, _, hp⟩ | ⟨hm, hj⟩
    · exact .inr ⟨p, hp⟩
    · refine .inl ?_
      rw [hstep.w0]
      refine (hC1W0 b).2 ⟨.inr ⟨j, hj⟩, ?_⟩
      rintro ⟨k, hk, hkb⟩
      exact hm (hmem' _ (hw.inj j k b hj hkb ▸ hk))
 have hX : ∀ j, j ∈ ids' -> j ∈ (ids'.zip (y.2.map fun x => x.map (lF ids'))).map (·.1) := fun j hj => by
  rw [List.map_fst_zip (by simp; omega)]; exact hj
 have hwf' : WF (C.back ids' C2) w' := by
  refine ⟨fun j b hj => ?_, fun j k b hj hk => ?_, fun b hb => Nat.lt_of_lt_of_le (hw.w0 b hb) hstep.ag.size, fun j b hj => ?_, fun j b hj hb => ?_, hwf2.gl.step (Ag.refl _ w') fun b _ hb => hW2 b hb⟩
  · rcases hcase j b hj with ⟨p, _, hp⟩ | ⟨_, hj⟩
    · exact hwf2.lt p b hp
    · exact Nat.lt_of_lt_of_le (hw.lt j b hj) hstep.ag.size
  · rcases hcase j b hj with ⟨p, hp1, hp⟩ | ⟨hm, hj⟩ <;> rcases hcase k b hk with ⟨q, hq1, hq⟩ | ⟨hm', hk⟩
    · have := hwf2.inj p q b hp hq
      subst this
      rw [hp1] at hq1; injection hq1
    · rcases hfrom p b hp with ⟨i, hi, hib⟩ | h
      · exact absurd (hmem' _ (hw.inj i k b hib hk ▸ hi)) hm'
      · have := hw.lt k b hk; omega
    · rcases hfrom q b hq with ⟨i, hi, hib⟩ | h
      · exact absurd (hmem' _ (hw.inj i j b hib hj ▸ hi)) hm
      · have := hw.lt j b hj; omega
    · exact hw.inj j k b hj hk
  · rcases hcase j b hj with ⟨p, hp1, hp⟩ | ⟨hm, hj⟩
    · obtain ⟨u, hu⟩ := hwf2.own p b hp
      exact ⟨u, (hν p j hp1).trans hu⟩
    · obtain ⟨u, hu⟩ := hw.own j b hj
      exact ⟨u, (hνo j hm).trans hu⟩
  · rcases hcase j b hj with ⟨p, hp1, hp⟩ | ⟨_, hj⟩
    · rcases hfrom p b hp with ⟨i, hi, hib⟩ | h
      · exact hw.dis i b hib hb
      · have := hw.w0 b hb; omega
    · exact hw.dis j b hj hb
 refine ⟨v, C.back ids' C2, y, hy, rfl, ?_⟩
 rw [hk, hids']
 refine ⟨OM hu2 hW2 _ _ hres, ⟨fun j u hj => ?_, rfl, fun j b hj => ?_, fun j b hx hj => ?_, hstep.ag.mono fun b _ hx => ?_⟩, hwf', fun j hj => ?_, fun j ob hob => ?_⟩
 · by_cases hm : j ∈ ids'
   · rcases hmem j hm with h | h
     · obtain ⟨p, hp⟩ := List.getElem?_of_mem h
       obtain ⟨u', _, e2, e3⟩ := hlent p j hp
       rw [hν p j (hin1 p j hp), e3, ← e2, hj]
     · rw [hfresh j h] at hj; cases hj
   · rw [hνo j hm]; exact hj
 · rcases hcase j b hj with ⟨p, _, hp⟩ | ⟨_, hj⟩
   · rcases hfrom p b hp with ⟨i, _, hib⟩ | h
     · exact .inl ⟨i, hib⟩
     · exact .inr h
   · exact .inl ⟨j, hj⟩
 · rw [hother j fun hm => hx (hX j hm)]; exact hj
 · obtain ⟨i, hi, hib⟩ := hx
   obtain ⟨j, hj1, hj2⟩ := hown i b hib
   exact ⟨j, hX j (hmem' _ (List.mem_of_getElem? hj1)), hj2⟩
 · by_cases hm : j ∈ ids'
   · rcases hmem j hm with h | h
     · obtain ⟨p, hp⟩ := List.getElem?_of_mem h
       obtain ⟨u', _, e2, _⟩ := hlent p j hp
       exact .inl (by rw [e2]; simp)
     · exact .inr h
   · rw [hνo j hm] at hj; exact .inl hj
 · have hm := List.of_mem_zip (gy hob)
   obtain ⟨p, hp⟩ := List.getElem?_of_mem hm.1
   have hpl : p < ids'.length := (List.getElem?_eq_some_iff.1 hp).1
   have hio : y.2[p]? = some (y.2[p]'(by omega)) := List.getElem?_eq_getElem (by omega)
   have hlook : (ids'.zip (y.2.map fun x => x.map (lF ids'))).lookup j = some ((y.2[p]'(by omega)).map (lF ids')) := by
    refine zy hnd hp ?_
    simp [hio]
   have hob2 : (ids'.zip (y.2.map fun x => x.map (lF ids'))).lookup j = some (some ob) := hob
   rw [hlook] at hob2
   injection hob2 with hob2
   obtain ⟨ob2, e2, rfl⟩ := Option.map_eq_some_iff.1 hob2
   exact aaj hu2 hW2 hp ob2 (hobs' p ob2 (by rw [hio, e2]))
end Rx
set_option linter.unusedSectionVars false
set_option linter.unusedSimpArgs false
set_option linter.unusedVariables false
namespace Rx
open Go
variable [Glob]
mutual
def flat : SV -> Bool
 | .dt (.cell _) => true
 | .kb _ => true
 | .sy _ => true
 | .ki _ _ => true
 | .ptr _ _ => true
 | .nm _ => true
 | .rp _ _ _ _ => true
 | .ri _ _ _ _ => true
 | .sl _ _ _ _ _ => true
 | .junk => true
 | .agg l => yZ l
 | .tup l => yZ l
 | .fn _ l => yZ l
 | _ => false
def yZ : List SV -> Bool
 | [] => true
 | s :: l => flat s && yZ l
end
def oI : Option Ob -> Bool
 | none => true
 | some (.cells _ cs) => yZ cs
 | some (.mp _ _ _) => true
 | some (.it _ _ _) => true
 | _ => false
mutual
theorem IB {C C' : Ctx} {w : World} (h : C'.ν = C.ν) : ∀ (s : SV) (v : Value), flat s = true -> rel C w s v -> rel C' w s v
 | .junk, _, _, _ => trivial
 | .dt (.cell _), _, _, r => aj.2 (aj.1 r)
 | .dt (.arr _ _ _), _, hf, _ => by simp [flat] at hf
 | .dt (.mp _ _ _), _, hf, _ => by simp [flat] at hf
 | .dt .ifc, _, hf, _ => by simp [flat] at hf
 | .dt (.ri _ _ _ _), _, hf, _ => by simp [flat] at hf
 | .agg l, _, hf, ⟨vs, e, r⟩ => ⟨vs, e, l9 h l vs hf r⟩
 | .tup l, _, hf, ⟨vs, e, r⟩ => ⟨vs, e, l9 h l vs hf r⟩
 | .ptr i off, _, _, ⟨b, hb, e⟩ => ⟨b, by rw [h]; exact hb, e⟩
 | .nm i, v, _, r => by
   have r1 : C.ν i = some v := r.1
   refine ⟨?_, r.2⟩
   show C'.ν i = some v
   rw [h]; exact r1
 | .rp i idx sz off, _, _, ⟨b, n, c, hb, e⟩ => ⟨b, n, c, by rw [h]; exact hb, e⟩
 | .ri _ _ _ _, _, _, r => r
 | .sl i sz o n c, _, _, ⟨b, m, cc, x, hb, e⟩ => ⟨b, m, cc, x, by rw [h]; exact hb, e⟩
 | .el _ _, _, hf, _ => by simp [flat] at hf
 | .fn _ caps, _, hf, ⟨vs, e, r⟩ => ⟨vs, e, l9 h caps vs hf r⟩
 | .kb _, _, _, r => r
 | .sy _, _, _, r => r
 | .ki _ _, _, _, r => r
theorem l9 {C C' : Ctx} {w : World} (h : C'.ν = C.ν) : ∀ (l : List SV) (vs : List Value), yZ l = true -> relL C w l vs -> relL C' w l vs
 | [], _, _, r => r
 | s :: l, _, hf, ⟨v, r, e, h1, h2⟩ => by
   simp only [yZ, Bool.and_eq_true] at hf
   exact ⟨v, r, e, IB h s v hf.1 h1, l9 h l r hf.2 h2⟩
end
def Ctx.BX (C' : Ctx) (L : List Nat) (C : Ctx) : Ctx := ⟨C'.ν, fun j => bif L.contains j then C.ρ j else C'.ρ j, C'.W0⟩
theorem eO {C' C : Ctx} {L : List Nat} {j : Nat} (h : j ∈ L) : (C'.BX L C).ρ j = C.ρ j := by
 show (bif L.contains j then C.ρ j else C'.ρ j) = _
 have : L.contains j = true := by simpa using h
 rw [this]; rfl
theorem bK {C' C : Ctx} {L : List Nat} {j : Nat} (h : j ∉ L) : (C'.BX L C).ρ j = C'.ρ j := by
 show (bif L.contains j then C.ρ j else C'.ρ j) = _
 have : L.contains j = false := by simpa using h
 rw [this]; rfl
theorem Came.borrow {C : Ctx} {w : World} (hw : WF C w) {L : List Nat} {r : Res} {C' : Ctx} {w' : World} {v : Value} (h : Came (C.drop L) w r C' w' v)
  (hf : flat r.sv = true) (ho : r.eff.us.all (fun x => oI x.2 && !L.contains x.1) = true) : Came C w r (C'.BX L C) w' v := by
 have hfrom : ∀ j b, C'.ρ j = some b -> (∃ i, i ∉ L /\ C.ρ i = some b) ∨ w.heap.size <= b := fun j b hj => by
  rcases h.step.own j b hj with ⟨i, hi⟩ | h
  · exact .inl ⟨i, dL hi⟩
  · exact .inr h
 refine ⟨IB (C := C') (C' := C'.BX L C) rfl _ _ hf h.rel, ⟨h.step.ext, h.step.w0, fun j b hj => ?_, fun i b hx hi => ?_, h.step.ag.mono fun b _ ⟨i, hx, hi⟩ => ⟨i, hx, (dL hi).2⟩⟩, ⟨fun j b hj => ?_, fun j k b hj hk => ?_, h.wf.w0, fun j b hj => ?_, fun j b hj hb => ?_, hw.gl.step (h.step.agW.mono fun b _ hb => ?_) fun b hlt hb => ?_⟩, h.new, fun i ob hi => ?_⟩
 · by_cases hm : j ∈ L
   · rw [eO hm] at hj; exact .inl ⟨j, hj⟩
   · rw [bK hm] at hj
     exact (hfrom j b hj).imp (fun ⟨i, hi⟩ => ⟨i, hi.2⟩) id
 · by_cases hm : i ∈ L
   · rw [eO hm]; exact hi
   · rw [bK hm]
     exact h.step.keep i b hx (by rw [yO hm]; exact hi)
 · by_cases hm : j ∈ L
   · rw [eO hm] at hj; exact Nat.lt_of_lt_of_le (hw.lt j b hj) h.step.ag.size
   · rw [bK hm] at hj; exact h.wf.lt j b hj
 · by_cases hm : j ∈ L <;> by_cases hm' : k ∈ L
   · rw [eO hm] at hj; rw [eO hm'] at hk; exact hw.inj j k b hj hk
   · rw [eO hm] at hj; rw [bK hm'] at hk
     rcases hfrom k b hk with ⟨i, h1, h2⟩ | h1
     · exact absurd (hw.inj i j b h2 hj ▸ hm) h1
     · have := hw.lt j b hj; omega
   · rw [bK hm] at hj; rw [eO hm'] at hk
     rcases hfrom j b hj with ⟨i, h1, h2⟩ | h1
     · exact absurd (hw.inj i k b h2 hk ▸ hm') h1
     · have := hw.lt k b hk; omega
   · rw [bK hm] at hj; rw [bK hm'] at hk; exact h.wf.inj j k b hj hk
 · by_cases hm : j ∈ L
   · rw [eO hm] at hj
     obtain ⟨u, hu⟩ := hw.own j b hj
     exact ⟨u, h.step.ext j u hu⟩
   · rw [bK hm] at hj; exact h.wf.own j b hj
 · have hb0 : C.W0 b := by have : C'.W0 b := hb; rw [h.step.w0] at this; exact this
   by_cases hm : j ∈ L
   · rw [eO hm] at hj; exact hw.dis j b hj hb0
   · rw [bK hm] at hj; exact h.wf.dis j b hj hb
 · rcases hb with hb | ⟨i, hi⟩
   · exact .inl hb
   · exact .inr ⟨i, (dL hi).2⟩
 · rcases hb with hb | ⟨j, hj⟩
   · refine .inl ?_
     have : C'.W0 b := hb
     rw [h.step.w0] at this
     exact this
   · by_cases hm : j ∈ L
     · rw [eO hm] at hj; exact .inr ⟨j, hj⟩
     · rw [bK hm] at hj
       rcases hfrom j b hj with ⟨i, _, hi⟩ | h1
       · exact .inr ⟨i, hi⟩
       · omega
 · have hx := List.all_eq_true.1 ho _ (gy hi)
   simp only [Bool.and_eq_true, Bool.not_eq_true'] at hx
   have hm : i ∉ L := by simpa using hx.2
   have hob := h.obs i ob hi
   cases ob with
   | cells t cs =>
     obtain ⟨b, h1, h2, vs, h3, h4⟩ := hob
     exact ⟨b, by rw [bK hm]; exact h1, h2, vs, h3, l9 (C := C') (C' := C'.BX L C) rfl _ _ hx.1 h4⟩
   | row _ _ _ _ => simp [oI] at hx
   | frz _ => simp [oI] at hx
   | mp kt vt l =>
     obtain ⟨b, h1, h2, h3⟩ := hob
     exact ⟨b, by rw [bK hm]; exact h1, h2, h3⟩
   | it m n s =>
     obtain ⟨b, bm, h1, h2, h3, h4⟩ := hob
     exact ⟨b, bm, by rw [bK hm]; exact h1, h2, h3, h4⟩
   | vec _ _ _ _ _ => simp [oI] at hx
   | itx _ _ _ => simp [oI] at hx
def rigid : SV -> SV -> Bool
 | .ptr i o, .ptr i' o' => Nat.beq i i' && Nat.beq o o'
 | _, _ => false
def vJ : List SV -> List SV -> Bool
 | [], [] => true
 | s :: l, s' :: l' => rigid s s' && vJ l l'
 | _, _ => false
def stay (g : Nat -> Option Ob) (i : Nat) : Option Ob -> Bool
 | some (.cells t cs) => match g i with
   | some (.cells t' cs') => Nat.beq t t' && vJ cs cs'
   | _ => false
 | _ => false
def stays (g : Nat -> Option Ob) (us : List (Nat × Option Ob)) (i : Nat) : Bool :=
 match us.lookup i with
 | some o => stay g i o
 | none => false
def calm (g : Nat -> Option Ob) (r : Res) : Res := ⟨r.sv, ⟨r.eff.us.filter (fun x => !stays g r.eff.us x.1), r.eff.new⟩⟩
theorem Tj {C C' : Ctx} {w w' : World} (h : ∀ i v, C.ν i = some v -> C'.ν i = some v) {s s' : SV} {v v' : Value} (hs : rigid s s' = true) (r : rel C w s' v) (r' : rel C' w' s v') : v' = v := by
 unfold rigid at hs
 split at hs
 · simp only [Bool.and_eq_true] at hs
   have e1 := Nat.eq_of_beq_eq_true hs.1
   have e2 := Nat.eq_of_beq_eq_true hs.2
   subst e1; subst e2
   obtain ⟨b, hb, rfl⟩ := r
   obtain ⟨b', hb', rfl⟩ := r'
   rw [h _ _ hb] at hb'
   injection hb' with hb'; injection hb' with hb'; injection hb' with hb'; injection hb' with hb'
   subst hb'; rfl
 · cases hs
theorem ED {C C' : Ctx} {w w' : World} (h : ∀ i v, C.ν i = some v -> C'.ν i = some v) : ∀ {l l' : List SV} {vs vs' : List Value}, vJ l l' = true -> relL C w l' vs -> relL C' w' l vs' -> vs' = vs
 | [], [], vs, vs', _, r, r' => by rw [show vs = [] from r, show vs' = [] from r']
 | s :: l, s' :: l', _, _, hs, ⟨v, q, rfl, r1, r2⟩, ⟨v', q', rfl, r1', r2'⟩ => by
   simp only [vJ, Bool.and_eq_true] at hs
   rw [Tj h hs.1 r1 r1', ED h hs.2 r2 r2']
 | [], _ :: _, _, _, hs, _, _ => by simp [vJ] at hs
 | _ :: _, [], _, _, hs, _, _ => by simp [vJ] at hs
theorem Bz {C C' : Ctx} {w w' : World} {g : Nat -> Option Ob} {r : Res} {v : Value} (hg : ObsOk C w g) (h : Came C w r C' w' v) {i : Nat} (hs : stays g r.eff.us i = true) :
  ∃ b, C.ρ i = some b /\ C'.ρ i = some b /\ w'.heap[b]? = w.heap[b]? := by
 unfold stays at hs
 split at hs
 · rename_i o ho
   unfold stay at hs
   split at hs
   · rename_i t cs
     split at hs
     · rename_i t' cs' hgi
       simp only [Bool.and_eq_true] at hs
       have e1 := Nat.eq_of_beq_eq_true hs.1
       subst e1
       obtain ⟨b, h1, h2, vs, h3, h4⟩ := hg i _ hgi
       obtain ⟨b', h1', h2', vs', h3', h4'⟩ := h.obs i _ ho
       rw [h.step.ext i _ h2] at h2'
       injection h2' with h2'; injection h2' with h2'; injection h2' with h2'; injection h2' with h2'
       subst h2'
       rw [ED h.step.ext hs.2 h4 h4'] at h3'
       exact ⟨b, h1, h1', h3'.trans h3.symm⟩
     · cases hs
   · cases hs
 · cases hs
theorem iX {α : Type} (p : Nat -> Bool) : ∀ (l : List (Nat × α)) (i : Nat), (l.filter fun x => p x.1).lookup i = if p i = true then l.lookup i else none
 | [], i => by simp
 | (j, x) :: l, i => by
   by_cases hij : i = j
   · subst hij
     cases hp : p i with
     | true => simp [List.filter, hp, List.lookup]
     | false =>
       rw [List.filter_cons_of_neg (by simp [hp]), iX p l i, hp]; rfl
   · have e : (i == j) = false := by simpa using hij
     cases hp : p j with
     | true =>
       rw [List.filter_cons_of_pos (by simp [hp])]
       simp only [List.lookup, e]
       exact iX p l i
     | false =>
       rw [List.filter_cons_of_neg (by simp [hp])]
       simp only [List.lookup, e]
       exact iX p l i
theorem Came.calm {C C' : Ctx} {w w' : World} {g : Nat -> Option Ob} {r : Res} {v : Value} (hw : WF C w) (hg : ObsOk C w g) (h : Came C w r C' w' v) : Came C w (calm g r) C' w' v := by
 have hX : ∀ i, r.eff.X i -> ¬ (Rx.calm g r).eff.X i -> stays g r.eff.us i = true := by
  intro i hi hn
  cases hs : stays g r.eff.us i with
  | true => rfl
  | false =>
    refine absurd ?_ hn
    obtain ⟨x, hx, rfl⟩ := List.mem_map.1 hi
    exact List.mem_map.2 ⟨x, List.mem_filter.2 ⟨hx, by simp [hs]⟩, rfl⟩
 refine ⟨h.rel, ⟨h.step.ext, h.step.w0, h.step.own, fun i b hn hi => ?_, ⟨h.step.ag.os, h.step.ag.tape, h.step.ag.output, h.step.ag.size, fun k hk hn => ?_⟩⟩, h.wf, h.new, fun i ob hi => ?_⟩
 · by_cases hi' : r.eff.X i
   · obtain ⟨b', h1, h2, _⟩ := Bz hg h (hX i hi' hn)
     rw [hi] at h1; injection h1 with h1; subst h1; exact h2
   · exact h.step.keep i b hi' hi
 · by_cases he : ∃ i, r.eff.X i /\ C.ρ i = some k
   · obtain ⟨i, hi, hk'⟩ := he
     have hn' : ¬ (Rx.calm g r).eff.X i := fun hx => hn ⟨i, hx, hk'⟩
     obtain ⟨b', h1, _, h3⟩ := Bz hg h (hX i hi hn')
     rw [hk'] at h1; injection h1 with h1; subst h1; exact h3
   · exact h.step.ag.block k hk he
 · have e := iX (fun j => !stays g r.eff.us j) r.eff.us i
   have hi : (r.eff.us.filter fun x => !stays g r.eff.us x.1).lookup i = some (some ob) := hi
   rw [e] at hi
   split at hi
   · exact h.obs i ob hi
   · cases hi
structure Summ where
 strict : Bool
 acc : List SV -> (Nat -> Option Ob) -> Nat -> List Nat
 run : List SV -> (Nat -> Option Ob) -> Nat -> FuncId -> T Res
structure Summ.Ok (P : Program) (s : Summ) : Prop where
 sound : ∀ (C : Ctx) (w : World) (g : Nat -> Option Ob) (al : List SV) (vs : List Value) (new : Nat) (k : FuncId) (post : Res -> Prop), WF C w -> ObsOk C w g -> (s.strict = true -> ∀ i, new <= i -> C.ν i = none) -> (∀ r, post r -> ∀ i ∈ r.eff.new, C.ν i = none) -> relL C w al vs ->
  (s.run al g new k).holds post -> callable P k = true /\ Calls P k vs.toArray w fun e w' => ∃ v C' r, e = .returned v /\ post r /\ Came C w r C' w' v
 congr : ∀ (g g' : Nat -> Option Ob) (al : List SV) (new : Nat) (k : FuncId), (∀ i ∈ s.acc al g new, g i = g' i) -> s.run al g new k = s.run al g' new k
structure FC where
 f : FuncId
 fresh : Bool
 lend : Bool
 sel : List SV -> List Ob -> Option (List SV × List Ob × T Out)
def FC.Ok (P : Program) (F : FC) : Prop := ∀ al ol args obs out, F.sel al ol = some (args, obs, out) -> Ctr P F.f args obs out
def FC.core (F : FC) (ids : List Nat) (al : List SV) (g : Nat -> Option Ob) (new : Nat) : T Res :=
 match pG g ids ids with
 | none => .fail
 | some ol => match F.sel (fF ids al) ol with
   | none => .fail
   | some (args, obs, out) => .need (leL (fF ids al) args) (.need (bD ol obs) (out.bind fun y =>
     bif ids.length.ble y.2.length && (F.fresh || Nat.beq y.2.length ids.length) then
      .ret ⟨ren (ids ++ upto new (y.2.length - ids.length)) y.1, ⟨(ids ++ upto new (y.2.length - ids.length)).zip (y.2.map fun x => x.map (lF (ids ++ upto new (y.2.length - ids.length)))), upto new (y.2.length - ids.length)⟩⟩
     else .fail))
def q8 : Option Ob -> Bool
 | some (.frz _) => true
 | _ => false
def FC.Lu (P : Program) (F : FC) (S : List Nat) (al : List SV) (g : Nat -> Option Ob) (new : Nat) (k : FuncId) : T Res :=
 bif Nat.beq k F.f && callable P k then
    match (bif F.lend then [] else (iW g [] al).filter fun i => S.all fun j => !(SH (g j)).contains i) with
    | [] => bif nodup (S.filter fun i => !q8 (g i)) && (S.filter fun i => !q8 (g i)).all (fun i => Nat.blt i new) then F.core (S.filter fun i => !q8 (g i)) al g new else .fail
    | i :: l => bif nodup (S.filter fun j => !(i :: l).contains j && !q8 (g j)) && (S.filter fun j => !(i :: l).contains j && !q8 (g j)).all (fun j => Nat.blt j new) then
        (F.core (S.filter fun j => !(i :: l).contains j && !q8 (g j)) (oL g (i :: l) al) (Ku g (i :: l)) new).bind fun r =>
         bif flat r.sv && r.eff.us.all (fun x => oI x.2 && !(i :: l).contains x.1) then .ret r
         else .ret ⟨r.sv, ⟨r.eff.us ++ jZ g (i :: l), r.eff.new⟩⟩
      else .fail
 else .fail
theorem yH {P : Program} {F : FC} (hF : F.Ok P) {C : Ctx} {w : World} {g : Nat -> Option Ob} {ids : List Nat} {al : List SV} {vs : List Value} {new : Nat} {post : Res -> Prop} (hw : WF C w) (hg : ObsOk C w g)
  (hn : nodup ids = true) (hlt : ids.all (fun i => Nat.blt i new) = true) (hnew : ∀ r, post r -> ∀ i ∈ r.eff.new, C.ν i = none) (hal : relL C w al vs) (h : (F.core ids al g new).holds post) :
  Calls P F.f vs.toArray w fun e w' => ∃ v C' r, e = .returned v /\ post r /\ Came C w r C' w' v := by
 unfold FC.core at h
 split at h
 · exact h.elim
 · rename_i ol hol
   split at h
   · exact h.elim
   · rename_i args obs out hsel
     simp only [T.holds, T.ak] at h
     obtain ⟨h1, h2, h3⟩ := h
     have hb : ∀ y : Out, (bif ids.length.ble y.2.length && (F.fresh || Nat.beq y.2.length ids.length) then
       (T.ret ⟨ren (ids ++ upto new (y.2.length - ids.length)) y.1, ⟨(ids ++ upto new (y.2.length - ids.length)).zip (y.2.map fun x => x.map (lF (ids ++ upto new (y.2.length - ids.length)))), upto new (y.2.length - ids.length)⟩⟩ : T Res)
      else .fail).holds post -> (ids.length <= y.2.length /\ (F.fresh = true ∨ y.2.length = ids.length)) /\ post ⟨ren (ids ++ upto new (y.2.length - ids.length)) y.1, ⟨(ids ++ upto new (y.2.length - ids.length)).zip (y.2.map fun x => x.map (lF (ids ++ upto new (y.2.length - ids.length)))), upto new (y.2.length - ids.length)⟩⟩ := by
      intro y hy
      cases hc : (ids.length.ble y.2.length && (F.fresh || Nat.beq y.2.length ids.length)) with
      | false => rw [hc] at hy; exact hy.elim
      | true =>
        rw [hc] at hy
        simp only [Bool.and_eq_true, Bool.or_eq_true] at hc
        exact ⟨⟨Nat.le_of_ble_eq_true hc.1, hc.2.imp id Nat.eq_of_beq_eq_true⟩, hy⟩
     have h3 := T.aD hb _ h3
     have hlt : ∀ i ∈ ids, i < new := fun i hi => by have := List.all_eq_true.1 hlt i hi; simpa [Nat.blt_eq] using this
     refine (Ie (hF _ _ _ _ _ hsel) hw hg hal hn hlt hol h1 h2 h3 (fun y hy => hnew _ hy.2) (fun y hy => hy.1.1)).mono ?_
     rintro e w' ⟨v, C', y, hy, rfl, hc⟩
     exact ⟨v, C', _, rfl, hy.2, hc⟩
def FC.afr (P : Program) (F : FC) : Summ where
 strict := false
 acc al g _ := reach g 400 (bW al) []
 run al g new k := (F.Lu P (reach g 400 (bW al) []) al (mH (kG g (reach g 400 (bW al) []))) new k).bind fun r => .ret (calm (mH (kG g (reach g 400 (bW al) []))) r)
theorem FC.Xc {P : Program} {F : FC} (hF : F.Ok P) : (F.afr P).Ok P := by
 refine ⟨fun C w g0 al vs new k post hw hg0 _ hnew hal hok0 => ?_, fun g g' al new k h => ?_⟩
 · have hok1 : ((F.Lu P (reach g0 400 (bW al) []) al (mH (kG g0 (reach g0 400 (bW al) []))) new k).bind fun r => .ret (calm (mH (kG g0 (reach g0 400 (bW al) []))) r)).holds post := hok0
   clear hok0
   rw [T.ak] at hok1
   have hok : (F.Lu P (reach g0 400 (bW al) []) al (mH (kG g0 (reach g0 400 (bW al) []))) new k).holds (fun r => post (calm (mH (kG g0 (reach g0 400 (bW al) []))) r)) := hok1
   clear hok1
   have hg : ObsOk C w (mH (kG g0 (reach g0 400 (bW al) []))) := fun i ob h => hg0 i ob (Bu h)
   generalize mH (kG g0 (reach g0 400 (bW al) [])) = g at hok hg
   suffices hsuf : callable P k = true /\ Calls P k vs.toArray w fun e w' => ∃ v C' r, e = .returned v /\ post (calm g r) /\ Came C w r C' w' v by
    refine ⟨hsuf.1, hsuf.2.mono ?_⟩
    rintro e w' ⟨v, C', r, he, hp, hc⟩
    exact ⟨v, C', calm g r, he, hp, hc.calm hw hg⟩
   have hnew : ∀ r, post (calm g r) -> ∀ i ∈ r.eff.new, C.ν i = none := fun r hr i hi => hnew _ hr i hi
   generalize reach g0 400 (bW al) [] = S at hok
   unfold FC.Lu at hok
   cases hb : (Nat.beq k F.f && callable P k) with
   | false => rw [hb] at hok; exact hok.elim
   | true =>
     rw [hb, cond_true] at hok
     simp only [Bool.and_eq_true] at hb
     have e1 := Nat.eq_of_beq_eq_true hb.1
     subst e1
     refine ⟨hb.2, ?_⟩
     split at hok
     · cases hb2 : (nodup (S.filter fun i => !q8 (g i)) && (S.filter fun i => !q8 (g i)).all (fun i => Nat.blt i new)) with
       | false => rw [hb2] at hok; exact hok.elim
       | true =>
         rw [hb2, cond_true] at hok
         simp only [Bool.and_eq_true] at hb2
         exact yH hF hw hg hb2.1 hb2.2 hnew hal hok
     · rename_i i l hL
       cases hb2 : (nodup (S.filter fun j => !(i :: l).contains j && !q8 (g j)) && (S.filter fun j => !(i :: l).contains j && !q8 (g j)).all (fun j => Nat.blt j new)) with
       | false => rw [hb2] at hok; exact hok.elim
       | true =>
         rw [hb2, cond_true, T.ak] at hok
         simp only [Bool.and_eq_true] at hb2
         refine (yH hF (sH hw (i :: l)) (FH hw hg (i :: l)) hb2.1 hb2.2 (fun r hr j hj => ?_) (sZ hw hg (i :: l) al vs hal) hok).mono ?_
         · cases hfl : (flat r.sv && r.eff.us.all (fun x => oI x.2 && !(i :: l).contains x.1)) with
           | true => rw [hfl] at hr; exact hnew r hr j hj
           | false => rw [hfl] at hr; exact hnew _ hr j hj
         rintro e w' ⟨v, C', r, rfl, hr, hc⟩
         cases hfl : (flat r.sv && r.eff.us.all (fun x => oI x.2 && !(i :: l).contains x.1)) with
         | true =>
           rw [hfl] at hr
           simp only [Bool.and_eq_true] at hfl
           exact ⟨v, _, r, rfl, hr, Came.borrow hw hc hfl.1 (by simpa using hfl.2)⟩
         | false =>
           rw [hfl] at hr
           exact ⟨v, C', _, rfl, hr, Came.frz hw hg hc⟩
 · have h : ∀ i ∈ reach g 400 (bW al) [], g i = g' i := h
   show (F.Lu P (reach g 400 (bW al) []) al (mH (kG g (reach g 400 (bW al) []))) new k).bind _ = (F.Lu P (reach g' 400 (bW al) []) al (mH (kG g' (reach g' 400 (bW al) []))) new k).bind _
   rw [← pJ _ _ _ h, JC h]
def BH (s : Summ) (rw : Operand -> SV) (g : Nat -> Option Ob) (new : Nat) (o : Oper) : T Res :=
 match o.op with
 | .call { callee := .value f, args, argTypes := _ } =>
   match rw f with
   | .fn k caps => s.run (args.toList.map (fun x => nrm (rw x)) ++ caps) g new k
   | _ => .fail
 | _ => .fail
theorem uw {P : Program} {C : Ctx} {w : World} {g : Nat -> Option Ob} {s : Summ} (hs : s.Ok P) {rw : Operand -> SV} {a : Act} {new : Nat} {o : Oper} {post : Res -> Prop}
  (hw : WF C w) (hg : ObsOk C w g) (hnew : s.strict = true -> ∀ i, new <= i -> C.ν i = none) (hnew2 : ∀ r, post r -> ∀ i ∈ r.eff.new, C.ν i = none) (hrw : ∀ x ∈ o.op.operands, rel C w (rw x) (a.eval x))
  (hok : (BH s rw g new o).holds post) : Goes P a o C w post := by
 unfold BH at hok
 split at hok
 · rename_i f args argTypes ho
   split at hok
   · rename_i k caps hf
     have hfr := hrw f (by rw [ho]; simp [Op.operands, Call.operands])
     rw [hf] at hfr
     obtain ⟨cvs, hfv, hcaps⟩ := hfr
     have hal := iF (C := C) (w := w) (ev := fun x => nrm (rw x)) (a := a) args.toList (fun x hx => aX (hrw x (by rw [ho]; simp [Op.operands, Call.operands]; exact .inr (by simpa using hx))))
     obtain ⟨h2, hcalls⟩ := hs.sound C w g _ _ new k post hw hg hnew hnew2 (jl hal hcaps) hok
     intro K Q hK
     have hfn : ∃ fn, P.funcs[k]? = some fn /\ (fn.name == "runtime.NumGoroutine") = false /\ fn.body.isNone = false := by
        unfold callable at h2
        split at h2
        · rename_i fn hfn
          simp only [Bool.and_eq_true, Bool.not_eq_true'] at h2
          refine ⟨fn, hfn, h2.1, ?_⟩
          cases hb : fn.body <;> simp_all
        · cases h2
     obtain ⟨fn, hfn1, hfn2, hfn3⟩ := hfn
     have hexec : (execOp a.eval o).run P w = .ok (.enter k (args.map a.eval ++ cvs.toArray)) w := by
      simp only [execOp, ho, resolve, hfv, Deferred.ofValue, Sem.run_bind, Sem.run_pure, Result.andThen_ok, invoke, callFunc, run_program, hfn1, hfn2, hfn3, Bool.false_eq_true, if_false]
      simp
     unfold Oper.wp
     rw [hexec, Oper.upon_enter]
     have eargs : args.map a.eval ++ cvs.toArray = (args.toList.map a.eval ++ cvs).toArray := by apply Array.ext'; simp
     rw [eargs]
     refine hcalls.mono ?_
     rintro e w' ⟨v, C', r, rfl, hp, hc⟩
     exact hK r v w' C' hp hc
   · exact hok.elim
 · exact hok.elim
end Rx
