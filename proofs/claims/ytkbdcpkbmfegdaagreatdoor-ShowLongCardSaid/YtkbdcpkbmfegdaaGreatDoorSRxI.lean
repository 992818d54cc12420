/- Rx, part I: contracts between functions, and a call by its contract. -/
import Derived.Test.YtkbdcpkbmfegdaaGreatDoorSRxH
set_option linter.unusedSectionVars false
set_option linter.unusedSimpArgs false
set_option linter.unusedVariables false
namespace Rx
open Go
variable [Glob]
def isNil : Value -> Bool
 | .slice none 0 _ => true
 | _ => false
def bY : Dt -> Dt -> Prop
 | .cell v, .cell v' => v' = v
 | .cell v, .arr _ n' _ => isNil v = true /\ n' = 0
 | .arr sz n f, .arr sz' n' f' => n' = n /\ (n = 0 ∨ (sz' = sz /\ ∀ k, k < n -> ∀ j, j < sz -> bY (f k j) (f' k j)))
 | .arr _ _ _, .cell _ => False
 | .mp kt vt l, d' => d' = .mp kt vt l
 | .cell _, .mp _ _ _ => False
 | .arr _ _ _, .mp _ _ _ => False
 | .ifc, d' => d' = .ifc
 | .cell _, .ifc => False
 | .arr _ _ _, .ifc => False
 | .cell v, .ri k a b n => v = .int k n /\ a <= n /\ n <= b
 | .ri k a b n, .ri k' a' b' n' => k' = k /\ n' = n /\ a' <= a /\ b <= b'
 | .ri k _ _ n, .cell v => v = .int k n
 | .ri _ _ _ _, .arr _ _ _ => False
 | .ri _ _ _ _, .mp _ _ _ => False
 | .ri _ _ _ _, .ifc => False
 | .arr _ _ _, .ri _ _ _ _ => False
theorem iA {w : World} : ∀ (d d' : Dt) (v : Value), bY d d' -> Rep w d v -> Rep w d' v
 | .cell x, .cell x', v, h, r => by simp only [bY] at h; subst h; exact r
 | .cell x, .arr sz n f, v, h, r => by
   simp only [bY] at h
   obtain ⟨h1, rfl⟩ := h
   simp only [Rep] at r
   subst r
   unfold isNil at h1
   split at h1
   · exact ⟨none, _, rfl, Nat.zero_le _, fun h => absurd h (Nat.lt_irrefl 0)⟩
   · cases h1
 | .arr sz n f, .arr sz' n' f', v, h, r => by
   simp only [bY] at h
   obtain ⟨rfl, h⟩ := h
   obtain ⟨A, c, rfl, hnc, hr⟩ := r
   refine ⟨A, c, rfl, hnc, fun hpos => ?_⟩
   rcases h with h | ⟨rfl, h⟩
   · omega
   obtain ⟨b, off, rfl, hc⟩ := hr hpos
   refine ⟨b, off, rfl, fun i hi j hj => ?_⟩
   obtain ⟨u, h1, h2⟩ := hc i hi j hj
   exact ⟨u, h1, h2.1, iA _ _ u (h i hi j hj) h2.2⟩
 | .arr _ _ _, .cell _, _, h, _ => by simp only [bY] at h
 | .mp kt vt l, d', v, h, r => by simp only [bY] at h; subst h; exact r
 | .cell _, .mp _ _ _, _, h, _ => by simp only [bY] at h
 | .arr _ _ _, .mp _ _ _, _, h, _ => by simp only [bY] at h
 | .ifc, d', v, h, r => by simp only [bY] at h; subst h; exact r
 | .cell _, .ifc, _, h, _ => by simp only [bY] at h
 | .arr _ _ _, .ifc, _, h, _ => by simp only [bY] at h
 | .cell x, .ri k a b n, v, h, r => by
   simp only [bY] at h
   obtain ⟨rfl, h1, h2⟩ := h
   exact ⟨r, h1, h2⟩
 | .ri k a b n, .ri k' a' b' n', v, h, r => by
   simp only [bY] at h
   obtain ⟨rfl, rfl, h1, h2⟩ := h
   obtain ⟨e, r1, r2⟩ := r
   exact ⟨e, Int.le_trans h1 r1, Int.le_trans r2 h2⟩
 | .ri k a b n, .cell x, v, h, r => by
   simp only [bY] at h
   subst h
   exact r.1
 | .ri _ _ _ _, .arr _ _ _, _, h, _ => by simp only [bY] at h
 | .ri _ _ _ _, .mp _ _ _, _, h, _ => by simp only [bY] at h
 | .ri _ _ _ _, .ifc, _, h, _ => by simp only [bY] at h
 | .arr _ _ _, .ri _ _ _ _, _, h, _ => by simp only [bY] at h
theorem dN : ∀ d : Dt, bY d d
 | .cell v => by simp only [bY]
 | .arr sz n f => by
   unfold bY
   exact ⟨rfl, .inr ⟨rfl, fun k _ j _ => dN (f k j)⟩⟩
 | .mp kt vt l => by simp only [bY]
 | .ifc => by simp only [bY]
 | .ri k a b n => by simp only [bY]; exact ⟨trivial, trivial, Int.le_refl _, Int.le_refl _⟩
mutual
def leS : SV -> SV -> Prop
 | .dt d, s' => match s' with
   | .dt d' => bY d d'
   | .kb b => d = .cell (.bool b)
   | .sy s => d = .cell (.string s)
   | .ki k n => d = .cell (.int k n)
   | .junk => True
   | _ => False
 | .ki k n, s' => match s' with
   | .dt d' => bY (.cell (.int k n)) d'
   | .ki k' n' => k = k' /\ n = n'
   | .junk => True
   | _ => False
 | .sy s, s' => match s' with
   | .dt d' => bY (.cell (.string s)) d'
   | .sy t => s = t
   | .junk => True
   | _ => False
 | .kb b, s' => match s' with
   | .dt d' => bY (.cell (.bool b)) d'
   | .kb b' => b = b'
   | .junk => True
   | _ => False
 | .agg l, s' => match s' with
   | .agg l' => leL l l'
   | .junk => True
   | _ => False
 | .tup l, s' => match s' with
   | .tup l' => leL l l'
   | .junk => True
   | _ => False
 | .fn f l, s' => match s' with
   | .fn f' l' => f = f' /\ leL l l'
   | .junk => True
   | _ => False
 | .ptr i o, s' => match s' with
   | .ptr i' o' => i = i' /\ o = o'
   | .junk => True
   | _ => False
 | .nm i, s' => match s' with
   | .nm i' => i = i'
   | .junk => True
   | _ => False
 | .rp i x z o, s' => match s' with
   | .rp i' x' z' o' => i = i' /\ x = x' /\ z = z' /\ o = o'
   | .junk => True
   | _ => False
 | .ri k a b n, s' => match s' with
   | .dt d' => bY (.cell (.int k n)) d'
   | .ki k' n' => k = k' /\ n = n'
   | .ri k' a' b' n' => k = k' /\ n = n' /\ a' <= a /\ b <= b'
   | .junk => True
   | _ => False
 | .sl i z o n c, s' => match s' with
   | .sl i' z' o' n' c' => i = i' /\ z = z' /\ o = o' /\ n = n' /\ c = c'
   | .junk => True
   | _ => False
 | .el m g, s' => match s' with
   | .el m' g' => m' = m /\ ∀ j, j < m -> bY (g j) (g' j)
   | .junk => True
   | _ => False
 | .junk, s' => match s' with
   | .junk => True
   | _ => False
def leL : List SV -> List SV -> Prop
 | [], l' => match l' with
   | [] => True
   | _ => False
 | s :: l, l' => match l' with
   | [] => False
   | s' :: l' => leS s s' /\ leL l l'
end
mutual
theorem F7 {C : Ctx} {w : World} : ∀ (s s' : SV) (v : Value), leS s s' -> rel C w s v -> rel C w s' v
 | .dt d, s', v, h, r => by
   cases s' <;> simp only [leS] at h <;> first | trivial | skip
   · exact Pers.mono r fun w' => iA _ _ v h
   · subst h; exact aj.1 r
   · subst h; exact aj.1 r
   · subst h; exact aj.1 r
 | .ki k n, s', v, h, r => by
   cases s' <;> simp only [leS] at h <;> first | trivial | skip
   · intro w' _; exact iA _ _ v h r
   · obtain ⟨rfl, rfl⟩ := h; exact r
 | .sy s, s', v, h, r => by
   cases s' <;> simp only [leS] at h <;> first | trivial | skip
   · intro w' _; exact iA _ _ v h r
   · subst h; exact r
 | .kb b, s', v, h, r => by
   cases s' <;> simp only [leS] at h <;> first | trivial | skip
   · intro w' _; exact iA _ _ v h r
   · subst h; exact r
 | .agg l, s', v, h, r => by
   cases s' <;> simp only [leS] at h <;> first | trivial | skip
   obtain ⟨vs, e, r⟩ := r
   exact ⟨vs, e, qy l _ vs h r⟩
 | .tup l, s', v, h, r => by
   cases s' <;> simp only [leS] at h <;> first | trivial | skip
   obtain ⟨vs, e, r⟩ := r
   exact ⟨vs, e, qy l _ vs h r⟩
 | .fn f l, s', v, h, r => by
   cases s' <;> simp only [leS] at h <;> first | trivial | skip
   obtain ⟨rfl, h⟩ := h
   obtain ⟨vs, e, r⟩ := r
   exact ⟨vs, e, qy l _ vs h r⟩
 | .ptr i o, s', v, h, r => by
   cases s' <;> simp only [leS] at h <;> first | trivial | skip
   obtain ⟨rfl, rfl⟩ := h; exact r
 | .nm i, s', v, h, r => by
   cases s' <;> simp only [leS] at h <;> first | trivial | skip
   subst h; exact r
 | .rp i x z o, s', v, h, r => by
   cases s' <;> simp only [leS] at h <;> first | trivial | skip
   obtain ⟨rfl, rfl, rfl, rfl⟩ := h; exact r
 | .ri k a b n, s', v, h, r => by
   cases s' <;> simp only [leS] at h <;> first | trivial | skip
   · intro w' _; exact iA _ _ v h r.1
   · obtain ⟨rfl, rfl⟩ := h; exact r.1
   · obtain ⟨rfl, rfl, h1, h2⟩ := h; exact ⟨r.1, Int.le_trans h1 r.2.1, Int.le_trans r.2.2 h2⟩
 | .sl i z o n c, s', v, h, r => by
   cases s' <;> simp only [leS] at h <;> first | trivial | skip
   obtain ⟨rfl, rfl, rfl, rfl, rfl⟩ := h; exact r
 | .el m g, s', v, h, r => by
   cases s' <;> simp only [leS] at h <;> first | trivial | skip
   obtain ⟨rfl, h⟩ := h
   obtain ⟨b, off, e, p⟩ := r
   refine ⟨b, off, e, Pers.mono p fun w' hw j hj => ?_⟩
   obtain ⟨u, h1, h2⟩ := hw j hj
   exact ⟨u, h1, iA _ _ u (h j hj) h2⟩
 | .junk, s', v, h, r => by
   cases s' <;> simp only [leS] at h <;> trivial
theorem qy {C : Ctx} {w : World} : ∀ (l l' : List SV) (vs : List Value), leL l l' -> relL C w l vs -> relL C w l' vs
 | [], l', vs, h, r => by
   cases l' <;> simp only [leL] at h <;> first | exact r | exact h.elim
 | s :: l, l', vs, h, r => by
   cases l' with
   | nil => simp only [leL] at h
   | cons s' l' =>
     simp only [leL] at h
     obtain ⟨v, r', e, h1, h2⟩ := r
     exact ⟨v, r', e, F7 s s' v h.1 h1, qy l l' r' h.2 h2⟩
end
def PX : Ob -> Ob -> Prop
 | .cells t cs, .cells t' cs' => t' = t /\ leL cs cs'
 | .row t sz n f, .row t' sz' n' f' => t' = t /\ sz' = sz /\ n' = n /\ ∀ k, k < n -> ∀ j, j < sz -> bY (f k j) (f' k j)
 | .frz d, .frz d' => bY d d'
 | .mp kt vt l, o => o = .mp kt vt l
 | .it m n s, o => o = .it m n s
 | .vec t sz n tr ex, o => o = .vec t sz n tr ex
 | .itx m n c, o => o = .itx m n c
 | _, _ => False
theorem rO {C : Ctx} {w : World} {i : Nat} : ∀ {o o' : Ob}, PX o o' -> obHolds C w i o -> obHolds C w i o'
 | .cells t cs, .cells t' cs', h, ⟨b, h1, h2, vs, h3, h4⟩ => by
   obtain ⟨rfl, h⟩ := h
   exact ⟨b, h1, h2, vs, h3, qy _ _ vs h h4⟩
 | .row t sz n f, .row t' sz' n' f', h, ⟨A, c, h1, h2⟩ => by
   obtain ⟨rfl, rfl, rfl, h⟩ := h
   refine ⟨A, c, h1, ?_⟩
   rcases h2 with h2 | ⟨b, h2, h3, h4, cur, h5, h6, h7⟩
   · exact .inl h2
   · refine .inr ⟨b, h2, h3, h4, cur, h5, h6, fun k j hk hj => ?_⟩
     obtain ⟨u, h8, h9⟩ := h7 k j hk hj
     exact ⟨u, h8, h9.1, Pers.mono h9.2 fun w' => iA _ _ u (h k hk j hj)⟩
 | .frz d, .frz d', h, ⟨v, h1, h2⟩ => ⟨v, h1, Pers.mono h2 fun w' => iA _ _ v h⟩
 | .mp kt vt l, o, h, r => by
   have h : o = .mp kt vt l := h
   subst h; exact r
 | .it m n s, o, h, r => by
   have h : o = .it m n s := h
   subst h; exact r
 | .vec t sz n tr ex, o, h, r => by
   have h : o = .vec t sz n tr ex := h
   subst h; exact r
 | .itx m n c, o, h, r => by
   have h : o = .itx m n c := h
   subst h; exact r
 | .cells _ _, .mp _ _ _, h, _ => h.elim
 | .cells _ _, .it _ _ _, h, _ => h.elim
 | .cells _ _, .vec _ _ _ _ _, h, _ => h.elim
 | .cells _ _, .itx _ _ _, h, _ => h.elim
 | .row _ _ _ _, .vec _ _ _ _ _, h, _ => h.elim
 | .row _ _ _ _, .itx _ _ _, h, _ => h.elim
 | .frz _, .vec _ _ _ _ _, h, _ => h.elim
 | .frz _, .itx _ _ _, h, _ => h.elim
 | .row _ _ _ _, .mp _ _ _, h, _ => h.elim
 | .row _ _ _ _, .it _ _ _, h, _ => h.elim
 | .frz _, .mp _ _ _, h, _ => h.elim
 | .frz _, .it _ _ _, h, _ => h.elim
 | .cells _ _, .row _ _ _ _, h, _ => h.elim
 | .cells _ _, .frz _, h, _ => h.elim
 | .row _ _ _ _, .cells _ _, h, _ => h.elim
 | .row _ _ _ _, .frz _, h, _ => h.elim
 | .frz _, .cells _ _, h, _ => h.elim
 | .frz _, .row _ _ _ _, h, _ => h.elim
mutual
def ren (ids : List Nat) : SV -> SV
 | .agg l => .agg (Lj ids l)
 | .tup l => .tup (Lj ids l)
 | .ptr i off => match ids[i]? with
   | some j => .ptr j off
   | none => .junk
 | .nm i => match ids[i]? with
   | some j => .nm j
   | none => .junk
 | .rp i idx sz off => match ids[i]? with
   | some j => .rp j idx sz off
   | none => .junk
 | .sl i sz o n c => match ids[i]? with
   | some j => .sl j sz o n c
   | none => .junk
 | .ri k a b n => .ri k a b n
 | .fn f caps => .fn f (Lj ids caps)
 | .junk => .junk
 | .dt d => .dt d
 | .el m g => .el m g
 | .kb b => .kb b
 | .sy s => .sy s
 | .ki k n => .ki k n
def Lj (ids : List Nat) : List SV -> List SV
 | [] => []
 | s :: l => ren ids s :: Lj ids l
end
mutual
def fits (n : Nat) : SV -> Bool
 | .agg l => Od n l
 | .tup l => Od n l
 | .ptr i _ => Nat.blt i n
 | .nm i => Nat.blt i n
 | .rp i _ _ _ => Nat.blt i n
 | .sl i _ _ _ _ => Nat.blt i n
 | .fn _ caps => Od n caps
 | _ => true
def Od (n : Nat) : List SV -> Bool
 | [] => true
 | s :: l => fits n s && Od n l
end
def lF (ids : List Nat) : Ob -> Ob
 | .cells t cs => .cells t (Lj ids cs)
 | .row t sz n f => .row t sz n f
 | .frz d => .frz d
 | .mp kt vt l => .mp kt vt l
 | .it m n s => .it (ids.getD m 0) n s
 | .vec t sz _ _ _ => .vec t sz 0 .nil false
 | .itx m n c => .itx (ids.getD m 0) n c
structure Under (ids : List Nat) (C1 C2 : Ctx) : Prop where
 to : ∀ (i : Nat) v, C1.ν i = some v -> ∃ j, ids[i]? = some j /\ C2.ν j = some v
 back : ∀ (i j : Nat) v, ids[i]? = some j -> C2.ν j = some v -> C1.ν i = some v
 own : ∀ (i j b : Nat), ids[i]? = some j -> (C1.ρ i = some b ↔ C2.ρ j = some b)
theorem bP {W W' : Nat -> Prop} {w : World} {φ : World -> Prop} (h : ∀ b, W' b -> W b) (p : Pers W w φ) : Pers W' w φ :=
 fun w' a => p w' (a.mono fun k _ hk => h k hk)
mutual
theorem OM {ids : List Nat} {C1 C2 : Ctx} {w : World} (u : Under ids C1 C2) (hW : ∀ b, C2.W b -> C1.W b) : ∀ (s : SV) (v : Value), rel C1 w s v -> rel C2 w (ren ids s) v
 | .junk, _, _ => trivial
 | .dt _, _, r => bP hW r
 | .agg l, _, ⟨vs, e, r⟩ => ⟨vs, e, pK u hW l vs r⟩
 | .tup l, _, ⟨vs, e, r⟩ => ⟨vs, e, pK u hW l vs r⟩
 | .ptr i off, v, ⟨b, hb, e⟩ => by
   obtain ⟨j, h1, h2⟩ := u.to i _ hb
   simp only [ren, h1]
   exact ⟨b, h2, e⟩
 | .nm i, v, r => by
   obtain ⟨j, h1, h2⟩ := u.to i _ r.1
   simp only [ren, h1]
   exact ⟨h2, r.2⟩
 | .rp i idx sz off, v, ⟨b, n, c, hb, e⟩ => by
   obtain ⟨j, h1, h2⟩ := u.to i _ hb
   simp only [ren, h1]
   exact ⟨b, n, c, h2, e⟩
 | .sl i sz o n c, v, ⟨b, m, cc, x, hb, e⟩ => by
   obtain ⟨j, h1, h2⟩ := u.to i _ hb
   simp only [ren, h1]
   exact ⟨b, m, cc, x, h2, e⟩
 | .ri _ _ _ _, _, r => r
 | .el _ _, _, ⟨b, off, e, p⟩ => ⟨b, off, e, bP hW p⟩
 | .fn _ caps, _, ⟨vs, e, r⟩ => ⟨vs, e, pK u hW caps vs r⟩
 | .kb _, _, r => r
 | .sy _, _, r => r
 | .ki _ _, _, r => r
theorem pK {ids : List Nat} {C1 C2 : Ctx} {w : World} (u : Under ids C1 C2) (hW : ∀ b, C2.W b -> C1.W b) : ∀ (l : List SV) (vs : List Value), relL C1 w l vs -> relL C2 w (Lj ids l) vs
 | [], _, r => r
 | s :: l, _, ⟨v, r, e, h1, h2⟩ => ⟨v, r, e, OM u hW s v h1, pK u hW l r h2⟩
end
theorem aaj {ids : List Nat} {C1 C2 : Ctx} {w : World} (u : Under ids C1 C2) (hW : ∀ b, C2.W b -> C1.W b) {i j : Nat} (hij : ids[i]? = some j) (ob : Ob) (h : obHolds C1 w i ob) : obHolds C2 w j (lF ids ob) := by
 have hν : ∀ v, C1.ν i = some v -> C2.ν j = some v := fun v hv => by
  obtain ⟨j', h1, h2⟩ := u.to i v hv
  rw [hij] at h1; injection h1 with h1; subst h1; exact h2
 cases ob with
 | cells t cs =>
   obtain ⟨b, h1, h2, vs, h3, h4⟩ := h
   exact ⟨b, (u.own i j b hij).1 h1, hν _ h2, vs, h3, pK u hW cs vs h4⟩
 | row t sz n f =>
   obtain ⟨A, c, h1, h2⟩ := h
   refine ⟨A, c, hν _ h1, ?_⟩
   rcases h2 with h2 | ⟨b, h2, h3, h4, cur, h5, h6, h7⟩
   · exact .inl h2
   · refine .inr ⟨b, (u.own i j b hij).1 h2, h3, h4, cur, h5, h6, fun k m hk hm => ?_⟩
     obtain ⟨x, h8, h9⟩ := h7 k m hk hm
     exact ⟨x, h8, h9.1, bP hW h9.2⟩
 | frz d => obtain ⟨v, h1, h2⟩ := h; exact ⟨v, hν _ h1, bP hW h2⟩
 | mp kt vt l => obtain ⟨b, h1, h2, h3⟩ := h; exact ⟨b, (u.own i j b hij).1 h1, hν _ h2, h3⟩
 | it m n s =>
   obtain ⟨b, bm, h1, h2, h3, h4⟩ := h
   obtain ⟨q, q1, q2⟩ := u.to m _ h3
   refine ⟨b, bm, (u.own i j b hij).1 h1, hν _ h2, ?_, h4⟩
   rw [List.getD_eq_getElem?_getD, q1]; exact q2
 | vec t sz n tr ex =>
   obtain ⟨b, m, h1, h2, h3, h4, cur, h5, h6, h7⟩ := h
   exact ⟨b, m, (u.own i j b hij).1 h1, hν _ h2, Nat.zero_le _, fun h => by simp at h, cur, h5, h6, fun k hk => by omega⟩
 | itx m n c =>
   obtain ⟨s, h0, b, bm, h1, h2, h3, h4⟩ := h
   obtain ⟨q, q1, q2⟩ := u.to m _ h3
   refine ⟨s, h0, b, bm, (u.own i j b hij).1 h1, hν _ h2, ?_, h4⟩
   rw [List.getD_eq_getElem?_getD, q1]; exact q2
def Ctx.sub (C : Ctx) (ids : List Nat) (W0 : Nat -> Prop) : Ctx := ⟨fun i => (ids[i]?).bind C.ν, fun i => (ids[i]?).bind C.ρ, W0⟩
theorem vN (C : Ctx) (ids : List Nat) (W0 : Nat -> Prop) : Under ids (C.sub ids W0) C := by
 refine ⟨fun i v h => ?_, fun i j v h h' => ?_, fun i j b h => ?_⟩
 · obtain ⟨j, h1, h2⟩ := Option.bind_eq_some_iff.1 h
   exact ⟨j, h1, h2⟩
 · exact Option.bind_eq_some_iff.2 ⟨j, h, h'⟩
 · show (ids[i]?).bind C.ρ = some b ↔ _
   rw [h]; rfl
theorem LA {C : Ctx} {ids : List Nat} {W0 : Nat -> Prop} {i : Nat} (h : ids.length <= i) : (C.sub ids W0).ν i = none := by
 show (ids[i]?).bind C.ν = none
 rw [List.getElem?_eq_none h]; rfl
def nodup : List Nat -> Bool
 | [] => true
 | x :: l => !(l.contains x) && nodup l
theorem vw : ∀ {l : List Nat} {i j k : Nat}, nodup l = true -> l[i]? = some k -> l[j]? = some k -> i = j
 | [], _, _, _, _, h, _ => by simp at h
 | x :: l, 0, 0, _, _, _, _ => rfl
 | x :: l, 0, j + 1, k, h, h1, h2 => by
   simp only [nodup, Bool.and_eq_true, Bool.not_eq_true'] at h
   simp at h1 h2
   subst h1
   have : l.contains x = true := by simpa using List.mem_of_getElem? h2
   rw [this] at h; simp at h
 | x :: l, i + 1, 0, k, h, h1, h2 => by
   simp only [nodup, Bool.and_eq_true, Bool.not_eq_true'] at h
   simp at h1 h2
   subst h2
   have : l.contains x = true := by simpa using List.mem_of_getElem? h1
   rw [this] at h; simp at h
 | x :: l, i + 1, j + 1, k, h, h1, h2 => by
   simp only [nodup, Bool.and_eq_true] at h
   have a1 : l[i]? = some k := by simpa using h1
   have a2 : l[j]? = some k := by simpa using h2
   rw [vw h.2 a1 a2]
theorem LB {C : Ctx} {w : World} (hw : WF C w) {ids : List Nat} (hn : nodup ids = true) {W0 : Nat -> Prop} (h0 : ∀ b, W0 b -> C.W b /\ ¬ ∃ j, j ∈ ids /\ C.ρ j = some b) : WF (C.sub ids W0) w := by
 have hs : ∀ i b, (C.sub ids W0).ρ i = some b -> ∃ j, ids[i]? = some j /\ C.ρ j = some b := fun i b h => by
  obtain ⟨j, h1, h2⟩ := Option.bind_eq_some_iff.1 h
  exact ⟨j, h1, h2⟩
 refine ⟨fun i b h => ?_, fun i j b h h' => ?_, fun b h => ?_, fun i b h => ?_, fun i b h hb => ?_, hw.gl.step (Ag.refl _ w) fun b _ hb => ?_⟩
 · obtain ⟨j, _, h2⟩ := hs i b h
   exact hw.lt j b h2
 · obtain ⟨k, h1, h2⟩ := hs i b h
   obtain ⟨m, h3, h4⟩ := hs j b h'
   have := hw.inj k m b h2 h4
   subst this
   exact vw hn h1 h3
 · rcases (h0 b h).1 with h | ⟨i, hi⟩
   · exact hw.w0 b h
   · exact hw.lt i b hi
 · obtain ⟨j, h1, h2⟩ := hs i b h
   obtain ⟨v, hv⟩ := hw.own j b h2
   exact ⟨v, Option.bind_eq_some_iff.2 ⟨j, h1, hv⟩⟩
 · obtain ⟨j, h1, h2⟩ := hs i b h
   exact (h0 b hb).2 ⟨j, List.mem_of_getElem? h1, h2⟩
 · rcases hb with hb | ⟨i, hi⟩
   · exact (h0 b hb).1
   · obtain ⟨j, _, h2⟩ := hs i b hi
     exact .inr ⟨j, h2⟩
def Ctx.drop (C : Ctx) (l : List Nat) : Ctx := ⟨C.ν, fun j => bif l.contains j then none else C.ρ j, C.W0⟩
theorem dL {C : Ctx} {l : List Nat} {j b : Nat} (h : (C.drop l).ρ j = some b) : j ∉ l /\ C.ρ j = some b := by
 have h : (bif l.contains j then none else C.ρ j) = some b := h
 cases hc : l.contains j with
 | true => rw [hc] at h; cases h
 | false => rw [hc] at h; exact ⟨by simpa using hc, h⟩
theorem yO {C : Ctx} {l : List Nat} {j : Nat} (h : j ∉ l) : (C.drop l).ρ j = C.ρ j := by
 show (bif l.contains j then none else C.ρ j) = _
 have : l.contains j = false := by simpa using h
 rw [this]; rfl
theorem eD {C : Ctx} (w : World) (l : List Nat) : Step (fun j => j ∈ l) C w (C.drop l) w :=
 ⟨fun _ _ h => h, rfl, fun j b h => .inl ⟨j, (dL h).2⟩, fun j b hj h => by rw [yO hj]; exact h, Ag.refl _ w⟩
theorem sH {C : Ctx} {w : World} (hw : WF C w) (l : List Nat) : WF (C.drop l) w :=
 ⟨fun j b h => hw.lt j b (dL h).2, fun j k b h h' => hw.inj j k b (dL h).2 (dL h').2, hw.w0, fun j b h => hw.own j b (dL h).2, fun j b h => hw.dis j b (dL h).2, Pers.kI (eD w l) hw.gl⟩
theorem Lf {C : Ctx} {w : World} {b : Nat} {o : Obj} (hb : w.heap[b]? = some o) (hn : ¬ C.W b) : Pers C.W w (fun w' => w'.heap[b]? = some o) := by
 intro w' ha
 have hlt : b < w.heap.size := (Array.getElem?_eq_some_iff.1 hb).1
 rw [ha.block b hlt hn]; exact hb
theorem Kt {C : Ctx} {w : World} (hw : WF C w) {l : List Nat} {i n sz : Nat} (hi : i ∈ l) {t : TypeId} {f : Nat -> Nat -> Dt} (h : obHolds C w i (.row t sz n f)) : obHolds (C.drop l) w i (.frz (.arr sz n f)) := by
 obtain ⟨A, c, hν, h⟩ := h
 refine ⟨.slice A n c, hν, ?_⟩
 rcases h with ⟨rfl, rfl, rfl⟩ | ⟨b, hb, rfl, hnc, cur, hh, hs, hc⟩
 · intro w' _
   exact ⟨none, 0, rfl, Nat.le_refl _, fun h => absurd h (Nat.lt_irrefl 0)⟩
 · have hn : ¬ (C.drop l).W b := by
    rintro (h | ⟨j, hj⟩)
    · exact hw.dis i b hb h
    · obtain ⟨h1, h2⟩ := dL hj
      exact h1 (hw.inj j i b h2 hb ▸ hi)
   have hp := Lf hh hn
   intro w' ha
   refine ⟨_, c, rfl, hnc, fun _ => ⟨b, 0, rfl, fun k hk j hj => ?_⟩⟩
   obtain ⟨u, h1, h2⟩ := hc k j hk hj
   refine ⟨u, ?_, h2.1, (Pers.kI (eD w l) h2.2) w' ha⟩
   rw [Nat.zero_add, cell_of_row w' b _ cur t (0, 0) (hp w' ha)]
   exact h1
def rowOf (g : Nat -> Option Ob) (i : Nat) : Option Dt :=
 match g i with
 | some (.row _ sz n f) => some (.arr sz n f)
 | _ => none
mutual
def cB (g : Nat -> Option Ob) (lent : List Nat) : SV -> List Nat
 | .nm i => bif lent.contains i then [] else match rowOf g i with
   | some _ => [i]
   | none => []
 | .agg l => iW g lent l
 | .tup l => iW g lent l
 | _ => []
def iW (g : Nat -> Option Ob) (lent : List Nat) : List SV -> List Nat
 | [] => []
 | s :: l => cB g lent s ++ iW g lent l
end
mutual
def oK (g : Nat -> Option Ob) (L : List Nat) : SV -> SV
 | .nm i => bif L.contains i then match rowOf g i with
   | some d => .dt d
   | none => .nm i
   else .nm i
 | .agg l => .agg (oL g L l)
 | .tup l => .tup (oL g L l)
 | .junk => .junk
 | .dt d => .dt d
 | .ptr i o => .ptr i o
 | .el m f => .el m f
 | .fn f l => .fn f l
 | .kb b => .kb b
 | .sy s => .sy s
 | .ki k n => .ki k n
 | .rp i x z o => .rp i x z o
 | .ri k a b n => .ri k a b n
 | .sl i z o n c => .sl i z o n c
def oL (g : Nat -> Option Ob) (L : List Nat) : List SV -> List SV
 | [] => []
 | s :: l => oK g L s :: oL g L l
end
def jZ (g : Nat -> Option Ob) (L : List Nat) : List (Nat × Option Ob) := L.map fun i => (i, (rowOf g i).map .frz)
def Ku (g : Nat -> Option Ob) (L : List Nat) (i : Nat) : Option Ob := bif L.contains i then (rowOf g i).map .frz else g i
theorem uT {C : Ctx} {w : World} {g : Nat -> Option Ob} (hw : WF C w) (hg : ObsOk C w g) {L : List Nat} {i : Nat} (hi : i ∈ L) {d : Dt} (hd : rowOf g i = some d) : obHolds (C.drop L) w i (.frz d) := by
 unfold rowOf at hd
 split at hd
 · rename_i t sz n f h
   injection hd with hd
   subst hd
   exact Kt hw hi (hg i _ h)
 · cases hd
theorem FH {C : Ctx} {w : World} {g : Nat -> Option Ob} (hw : WF C w) (hg : ObsOk C w g) (L : List Nat) : ObsOk (C.drop L) w (Ku g L) := by
 intro i ob h
 unfold Ku at h
 cases hc : L.contains i with
 | true =>
   rw [hc, cond_true] at h
   have hi : i ∈ L := by simpa using hc
   obtain ⟨d, hd, rfl⟩ := Option.map_eq_some_iff.1 h
   exact uT hw hg hi hd
 | false =>
   rw [hc, cond_false] at h
   have hi : i ∉ L := by simpa using hc
   exact bZ hw (eD w L) hi ob (hg i ob h)
mutual
theorem FI {C : Ctx} {w : World} {g : Nat -> Option Ob} (hw : WF C w) (hg : ObsOk C w g) (L : List Nat) : ∀ (s : SV) (v : Value), rel C w s v -> rel (C.drop L) w (oK g L s) v
 | .nm i, v, r => by
   simp only [oK]
   cases hc : L.contains i with
   | false => exact r
   | true =>
     rw [cond_true]
     cases hd : rowOf g i with
     | none => exact r
     | some d =>
       obtain ⟨v', h1, h2⟩ := uT hw hg (by simpa using hc) hd
       have h1 : C.ν i = some v' := h1
       rw [show C.ν i = some v from r.1] at h1
       injection h1 with h1
       subst h1
       exact h2
 | .agg l, _, ⟨vs, e, r⟩ => ⟨vs, e, sZ hw hg L l vs r⟩
 | .tup l, _, ⟨vs, e, r⟩ => ⟨vs, e, sZ hw hg L l vs r⟩
 | .junk, _, _ => trivial
 | .dt d, v, r => aC (eD w L) (.dt d) v r
 | .ptr i o, v, r => aC (eD w L) (.ptr i o) v r
 | .el m f, v, r => aC (eD w L) (.el m f) v r
 | .fn f l, v, r => aC (eD w L) (.fn f l) v r
 | .kb b, v, r => r
 | .sy s, v, r => r
 | .ki k n, v, r => r
 | .rp i x z o, v, r => aC (eD w L) (.rp i x z o) v r
 | .ri k a b n, v, r => r
 | .sl i z o n c, v, r => aC (eD w L) (.sl i z o n c) v r
theorem sZ {C : Ctx} {w : World} {g : Nat -> Option Ob} (hw : WF C w) (hg : ObsOk C w g) (L : List Nat) : ∀ (l : List SV) (vs : List Value), relL C w l vs -> relL (C.drop L) w (oL g L l) vs
 | [], _, r => r
 | s :: l, _, ⟨v, r, e, h1, h2⟩ => ⟨v, r, e, FI hw hg L s v h1, sZ hw hg L l r h2⟩
end
theorem lookup_append {α : Type} : ∀ (l m : List (Nat × α)) (i : Nat), (l ++ m).lookup i = match l.lookup i with
  | some x => some x
  | none => m.lookup i
 | [], m, i => rfl
 | (j, x) :: l, m, i => by
   simp only [List.cons_append, List.lookup]
   cases h : (i == j) with
   | true => rfl
   | false => exact lookup_append l m i
theorem gy {α : Type} : ∀ {l : List (Nat × α)} {i : Nat} {x : α}, l.lookup i = some x -> (i, x) ∈ l
 | [], _, _, h => by simp at h
 | (j, y) :: l, i, x, h => by
   simp only [List.lookup] at h
   split at h
   · rename_i hji
     have : i = j := by simpa using hji
     injection h with h
     subst h; subst this; simp
   · simp [gy h]
theorem iD {α : Type} : ∀ {l : List (Nat × α)} {i : Nat}, l.lookup i = none -> i ∉ l.map (·.1)
 | [], _, _ => by simp
 | (j, y) :: l, i, h => by
   simp only [List.lookup] at h
   split at h
   · cases h
   · rename_i hji
     have : ¬ i = j := by simpa using hji
     simp only [List.map_cons, List.mem_cons, not_or]
     exact ⟨this, iD h⟩
theorem Came.frz {C : Ctx} {w : World} {g : Nat -> Option Ob} (hw : WF C w) (hg : ObsOk C w g) {L : List Nat} {r : Res} {C' : Ctx} {w' : World} {v : Value} (h : Came (C.drop L) w r C' w' v) :
  Came C w ⟨r.sv, ⟨r.eff.us ++ jZ g L, r.eff.new⟩⟩ C' w' v := by
 have ht : ∀ j, j ∈ L -> j ∈ (jZ g L).map (·.1) := fun j hj => by
  simp only [jZ, List.map_map, List.mem_map]
  exact ⟨j, hj, rfl⟩
 refine ⟨h.rel, ?_, h.wf, fun i hi => h.new i hi, fun i ob hi => ?_⟩
 · refine Step.trans (sH hw L) ((eD w L).mono fun j hj => ?_) (h.step.mono fun j hj => ?_)
   · show j ∈ (r.eff.us ++ jZ g L).map (·.1)
     rw [List.map_append, List.mem_append]
     exact .inr (ht j hj)
   · show j ∈ (r.eff.us ++ jZ g L).map (·.1)
     rw [List.map_append, List.mem_append]
     exact .inl hj
 · simp only [lookup_append] at hi
   cases hl : r.eff.us.lookup i with
   | some x =>
     rw [hl] at hi
     injection hi with hi
     subst hi
     exact h.obs i ob hl
   | none =>
     rw [hl] at hi
     have hm := gy hi
     simp only [jZ, List.mem_map, Prod.mk.injEq] at hm
     obtain ⟨j, hj, rfl, hd⟩ := hm
     obtain ⟨d, hd2, rfl⟩ := Option.map_eq_some_iff.1 hd
     exact bZ (sH hw L) h.step (iD hl) _ (uT hw hg hj hd2)
def callable (P : Program) (f : FuncId) : Bool :=
 match P.funcs[f]? with
 | some fn => !(fn.name == "runtime.NumGoroutine") && fn.body.isSome
 | none => false
theorem zy {α : Type} : ∀ {ids : List Nat} {l : List α} {i j : Nat} {x : α}, nodup ids = true -> ids[i]? = some j -> l[i]? = some x -> (ids.zip l).lookup j = some x
 | [], _, _, _, _, _, h, _ => by simp at h
 | _ :: _, [], _, _, _, _, _, h => by simp at h
 | y :: ids, z :: l, 0, j, x, _, h1, h2 => by
   simp at h1 h2
   subst h1; subst h2
   simp [List.lookup]
 | y :: ids, z :: l, i + 1, j, x, h, h1, h2 => by
   simp only [nodup, Bool.and_eq_true, Bool.not_eq_true'] at h
   simp at h1 h2
   have hne : (j == y) = false := by
     cases he : (j == y) with
     | false => rfl
     | true =>
       have : j = y := by simpa using he
       subst this
       have : ids.contains j = true := by simpa using List.mem_of_getElem? h1
       rw [this] at h; simp at h
   simp only [List.zip_cons_cons, List.lookup, hne]
   exact zy h.2 h1 h2
def Goes (P : Program) (a : Act) (o : Oper) (C : Ctx) (w : World) (post : Res -> Prop) : Prop :=
 ∀ (K : Act -> World -> Prop) (Q : Exit -> Act -> World -> Prop), (∀ r v w' C', post r -> Came C w r C' w' v -> K (a.put o.dst v) w') -> o.wp P a w K Q
theorem Did.goes {P : Program} {a : Act} {o : Oper} {C : Ctx} {w : World} {r : Res} {post : Res -> Prop} (h : Did P a o C w r) (hp : post r) : Goes P a o C w post := by
 intro K Q hK
 obtain ⟨v, w', C', hr, hc⟩ := h
 unfold Oper.wp
 rcases hr with hr | ⟨hr, rfl⟩
 · rw [hr]; exact hK _ _ _ _ hp hc
 · rw [hr]; exact hK _ _ _ _ hp hc
def posOf : List Nat -> Nat -> Option Nat
 | [], _ => none
 | x :: l, j => bif Nat.beq x j then some 0 else (posOf l j).map (· + 1)
theorem eH : ∀ {l : List Nat} {j p : Nat}, posOf l j = some p -> l[p]? = some j
 | [], _, _, h => by cases h
 | x :: l, j, p, h => by
   simp only [posOf] at h
   cases hx : Nat.beq x j with
   | true =>
     rw [hx] at h
     simp only [cond_true, Option.some.injEq] at h
     subst h
     simp [Nat.eq_of_beq_eq_true hx]
   | false =>
     rw [hx] at h
     obtain ⟨q, h1, rfl⟩ := Option.map_eq_some_iff.1 h
     simpa using eH h1
theorem Bb : ∀ {l : List Nat} {j : Nat}, posOf l j = none -> j ∉ l
 | [], _, _ => by simp
 | x :: l, j, h => by
   simp only [posOf] at h
   cases hx : Nat.beq x j with
   | true => rw [hx] at h; cases h
   | false =>
     rw [hx] at h
     simp only [cond_false, Option.map_eq_none_iff] at h
     simp only [List.mem_cons, not_or]
     refine ⟨fun e => ?_, Bb h⟩
     rw [nW e.symm] at hx; cases hx
theorem Bc {l : List Nat} (hn : nodup l = true) {p j : Nat} (h : l[p]? = some j) : posOf l j = some p := by
 cases hp : posOf l j with
 | none => exact absurd (List.mem_of_getElem? h) (Bb hp)
 | some q => rw [vw hn (eH hp) h]
mutual
def dI : SV -> List Nat
 | .nm i => [i]
 | .agg l => gH l
 | .tup l => gH l
 | .fn _ l => gH l
 | .sl i _ _ _ _ => [i]
 | _ => []
def gH : List SV -> List Nat
 | [] => []
 | s :: l => dI s ++ gH l
end
mutual
theorem sW {g g' : Nat -> Option Ob} {lent : List Nat} : ∀ (s : SV), (∀ i ∈ dI s, g i = g' i) -> cB g lent s = cB g' lent s
 | .nm i, h => by simp only [cB, rowOf, h i (by simp [dI])]
 | .agg l, h => lS l h
 | .tup l, h => lS l h
 | .junk, _ => rfl
 | .dt _, _ => rfl
 | .ptr _ _, _ => rfl
 | .el _ _, _ => rfl
 | .fn _ _, _ => rfl
 | .kb _, _ => rfl
 | .sy _, _ => rfl
 | .ki _ _, _ => rfl
 | .rp _ _ _ _, _ => rfl
 | .ri _ _ _ _, _ => rfl
 | .sl _ _ _ _ _, _ => rfl
theorem lS {g g' : Nat -> Option Ob} {lent : List Nat} : ∀ (l : List SV), (∀ i ∈ gH l, g i = g' i) -> iW g lent l = iW g' lent l
 | [], _ => rfl
 | s :: l, h => by
   simp only [iW]
   rw [sW s fun i hi => h i (by simp [gH, hi]), lS l fun i hi => h i (by simp [gH, hi])]
end
mutual
theorem wm {g g' : Nat -> Option Ob} {L : List Nat} : ∀ (s : SV), (∀ i ∈ dI s, g i = g' i) -> oK g L s = oK g' L s
 | .nm i, h => by simp only [oK, rowOf, h i (by simp [dI])]
 | .agg l, h => by simp only [oK]; rw [mU l h]
 | .tup l, h => by simp only [oK]; rw [mU l h]
 | .junk, _ => rfl
 | .dt _, _ => rfl
 | .ptr _ _, _ => rfl
 | .el _ _, _ => rfl
 | .fn _ _, _ => rfl
 | .kb _, _ => rfl
 | .sy _, _ => rfl
 | .ki _ _, _ => rfl
 | .rp _ _ _ _, _ => rfl
 | .ri _ _ _ _, _ => rfl
 | .sl _ _ _ _ _, _ => rfl
theorem mU {g g' : Nat -> Option Ob} {L : List Nat} : ∀ (l : List SV), (∀ i ∈ gH l, g i = g' i) -> oL g L l = oL g' L l
 | [], _ => rfl
 | s :: l, h => by
   simp only [oL]
   rw [wm s fun i hi => h i (by simp [gH, hi]), mU l fun i hi => h i (by simp [gH, hi])]
end
mutual
theorem y8 {g : Nat -> Option Ob} {lent : List Nat} : ∀ (s : SV), ∀ i ∈ cB g lent s, i ∈ dI s
 | .nm j, i, h => by
   simp only [cB] at h
   cases hc : lent.contains j with
   | true => rw [hc] at h; simp at h
   | false =>
     rw [hc, cond_false] at h
     split at h
     · exact h
     · simp at h
 | .agg l, i, h => oJ l i h
 | .tup l, i, h => oJ l i h
 | .junk, _, h => by simp [cB] at h
 | .dt _, _, h => by simp [cB] at h
 | .ptr _ _, _, h => by simp [cB] at h
 | .el _ _, _, h => by simp [cB] at h
 | .fn _ _, _, h => by simp [cB] at h
 | .kb _, _, h => by simp [cB] at h
 | .sy _, _, h => by simp [cB] at h
 | .ki _ _, _, h => by simp [cB] at h
 | .rp _ _ _ _, _, h => by simp [cB] at h
 | .ri _ _ _ _, _, h => by simp [cB] at h
 | .sl _ _ _ _ _, _, h => by simp [cB] at h
theorem oJ {g : Nat -> Option Ob} {lent : List Nat} : ∀ (l : List SV), ∀ i ∈ iW g lent l, i ∈ gH l
 | [], _, h => by simp [iW] at h
 | s :: l, i, h => by
   simp only [iW, List.mem_append] at h
   simp only [gH, List.mem_append]
   exact h.imp (y8 s i) (oJ l i)
end
end Rx
