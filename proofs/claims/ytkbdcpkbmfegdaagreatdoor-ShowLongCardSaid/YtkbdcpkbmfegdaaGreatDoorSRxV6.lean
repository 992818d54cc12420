/- Rx, part V6: what is equal; operators, lengths, indexes. -/
import Derived.Test.YtkbdcpkbmfegdaaGreatDoorSRxV4
set_option linter.unusedSectionVars false
set_option linter.unusedSimpArgs false
set_option linter.unusedVariables false
namespace Rx
open Go
variable [Glob]
def xK (x y : SV) : Option Bool :=
 match qW x, qW y with
 | some a, some b => if a.k = b.k then (bif decide (a.b < b.a) || decide (b.b < a.a) then some false else bif decide (a.a = a.b) && (decide (b.a = b.b) && decide (a.a = b.a)) then some true else none) else none
 | _, _ => match dn1 x, dn1 y with
   | .dt (.cell (.string a)), .dt (.cell (.string b)) => some (a == b)
   | .dt (.cell (.bool a)), .dt (.cell (.bool b)) => some (a == b)
   | _, _ => none
theorem HY {s : SV} {x : Bd} {C : Ctx} {w : World} {v : Value} (h : qW s = some x) (r : rel C w s v) {P : Program} : nrm (dn1 s) = .dt (.cell (.int x.k x.n)) ∨ (∃ k a b n, s = .dt (.ri k a b n)) := by
 unfold qW at h
 split at h <;> first | (injection h with h; subst h; left; rfl) | (right; exact ⟨_, _, _, _, rfl⟩) | cases h
theorem Ci {P : Program} {C : Ctx} {w : World} {t : TypeId} {x y : SV} {u v : Value} {b q : Bool} (hx : rel C w x u) (hy : rel C w y v) (h : jq P t (dn1 x) (dn1 y) = some b) (hq : xK x y = some q) : b = q := by
 unfold xK at hq
 split at hq
 · rename_i a c ha hc
   obtain ⟨e1, l1, l2⟩ := qg ha hx
   obtain ⟨e2, m1, m2⟩ := qg hc hy
   split at hq
   · rename_i hk
     have hb : b = decide (a.n = c.n) := by
        rcases HY (P := P) ha hx with d1 | ⟨k, p, q', n, rfl⟩
        · rcases HY (P := P) hc hy with d2 | ⟨k, p, q', n, rfl⟩
          · unfold jq at h
            rw [d1, d2] at h
            split at h
            · rename_i z1 z2; cases z1
            · rename_i z1 z2
              injection z1 with z1; injection z1 with z1; injection z1 with z1 z3
              injection z2 with z2; injection z2 with z2; injection z2 with z2 z4
              subst z1; subst z3; subst z2; subst z4
              rw [if_pos hk] at h
              injection h with h
              rw [← h]; rfl
            · rename_i z1 z2; cases z1
            · cases h
          · unfold jq at h
            simp only [dn1, nrm] at h
            split at h <;> first | (rename_i z1 z2; cases z2; done) | (cases h; done)
        · unfold jq at h
          simp only [dn1, nrm] at h
          split at h <;> first | (rename_i z1 z2; cases z1; done) | (cases h; done)
     subst hb
     cases h1 : (decide (a.b < c.a) || decide (c.b < a.a)) with
     | true =>
       rw [h1, cond_true] at hq
       injection hq with hq
       subst hq
       simp only [Bool.or_eq_true, decide_eq_true_eq] at h1
       simp only [decide_eq_false_iff_not]; omega
     | false =>
       rw [h1, cond_false] at hq
       cases h2 : (decide (a.a = a.b) && (decide (c.a = c.b) && decide (a.a = c.a))) with
       | false => rw [h2] at hq; cases hq
       | true =>
         rw [h2, cond_true] at hq
         injection hq with hq
         subst hq
         simp only [Bool.and_eq_true, decide_eq_true_eq] at h2 ⊢
         omega
   · cases hq
 · split at hq
   · rename_i a c ha hc
     unfold jq at h
     rw [ha, hc] at h
     simp only [nrm] at h
     split at h
     · rename_i z _; cases z
     · rename_i z _; cases z
     · rename_i z1 z2
       injection z1 with z1; injection z1 with z1; injection z1 with z1
       injection z2 with z2; injection z2 with z2; injection z2 with z2
       subst z1; subst z2
       injection h with h; injection hq with hq
       rw [← h, ← hq]
     · cases h
   · rename_i a c ha hc
     unfold jq at h
     rw [ha, hc] at h
     simp only [nrm] at h
     split at h
     · rename_i z1 z2
       injection z1 with z1; injection z1 with z1; injection z1 with z1
       injection z2 with z2; injection z2 with z2; injection z2 with z2
       subst z1; subst z2
       injection h with h; injection hq with hq
       rw [← h, ← hq]
     · rename_i z _; cases z
     · rename_i z _; cases z
     · cases h
   · cases hq
def jQ (l m : List SV) : List Field -> Option Bool
 | [] => some true
 | f :: fs => match l[f.offset]?, m[f.offset]? with
   | some x, some y => match xK x y with
     | some false => some false
     | some true => jQ l m fs
     | none => match jQ l m fs with
       | some false => some false
       | _ => none
   | _, _ => none
theorem jr {P : Program} {C : Ctx} {w : World} {l m : List SV} {us vs : List Value} (hl : relL C w l us) (hm : relL C w m vs) : ∀ (fs : List Field) (b q : Bool), eqFields P (l.map dn1) (m.map dn1) fs = some b -> jQ l m fs = some q -> b = q
 | [], b, q, h, hq => by
   simp only [eqFields, Option.some.injEq] at h
   simp only [jQ, Option.some.injEq] at hq
   rw [← h, ← hq]
 | f :: fs, b, q, h, hq => by
   unfold eqFields at h
   cases hn : (f.name == "_") with
   | true => rw [hn] at h; cases h
   | false =>
   rw [hn, cond_false] at h
   cases ha : nQ P f.type with
   | none => simp [ha] at h
   | some z =>
   cases z with
   | true => simp [ha] at h
   | false =>
   simp only [List.getElem?_map] at h
   unfold jQ at hq
   cases hx : l[f.offset]? with
   | none => simp [ha, hx] at h
   | some x =>
   cases hy : m[f.offset]? with
   | none => simp [ha, hx, hy] at h
   | some y =>
   simp only [ha, hx, hy, Option.map_some] at h
   simp only [hx, hy] at hq
   cases hc : jq P f.type (dn1 x) (dn1 y) with
   | none => simp [hc] at h
   | some p =>
   cases hf : eqFields P (l.map dn1) (m.map dn1) fs with
   | none => simp [hc, hf] at h
   | some r =>
   simp only [hc, hf, Option.some.injEq] at h
   subst h
   obtain ⟨u, _, hu2⟩ := aY _ x hl hx
   obtain ⟨v, _, hv2⟩ := aY _ y hm hy
   cases hqc : xK x y with
   | some z =>
     have hz := Ci hu2 hv2 hc hqc
     subst hz
     cases p with
     | false => simp only [hqc, Option.some.injEq] at hq; rw [← hq]; rfl
     | true =>
       simp only [hqc] at hq
       rw [Bool.true_and]
       exact jr hl hm fs r q hf hq
   | none =>
     simp only [hqc] at hq
     split at hq
     · rename_i h1
       injection hq with hq
       have := jr hl hm fs r false hf h1
       rw [this, ← hq, Bool.and_false]
     · cases hq
def eqV (P : Program) (t : TypeId) (x y : SV) : Option (T SV) :=
 match x, y with
 | .agg l, .agg m => match Cj P t (dn (.agg l)) (dn (.agg m)) with
   | some b => match (match P.underlying t with
        | some (.struct fs) => jQ l m fs.toList
        | _ => none) with
     | some q => some (.ret (.kb q))
     | none => some (.ite b (.ret (.kb true)) (.ret (.kb false)))
   | none => none
 | _, _ => none
def WA : T SV -> T SV
 | .ret (.kb b) => .ret (.kb (!b))
 | .ite b x y => .ite b y x
 | _ => .fail
theorem Db {P : Program} {C : Ctx} {w : World} (t : TypeId) (x y : SV) (u v : Value) {tr : T SV} (hx : rel C w x u) (hy : rel C w y v) (h : eqV P t x y = some tr) :
  ∃ b, Cj P t (dn x) (dn y) = some b /\ (∀ s, tr.val = some s -> s = .kb b) /\ (∀ s, (WA tr).val = some s -> s = .kb (!b)) := by
 unfold eqV at h
 split at h
 · rename_i l m
   cases hb : Cj P t (dn (.agg l)) (dn (.agg m)) with
   | none => rw [hb] at h; cases h
   | some b =>
     rw [hb] at h
     refine ⟨b, rfl, ?_⟩
     simp only at h
     split at h
     · rename_i q hq
       injection h with h
       subst h
       have : b = q := by
        split at hq
        · rename_i fs hu
          obtain ⟨us, rfl, hl⟩ := hx
          obtain ⟨vs, rfl, hm⟩ := hy
          refine jr (P := P) hl hm fs.toList b q ?_ hq
          unfold Cj at hb
          simp only [dn, hu] at hb
          cases hg : (P.stoodInHeld t || P.eqGuardType P.depth t) with
          | true => rw [hg] at hb; cases hb
          | false => rw [hg, cond_false] at hb; exact hb
        · cases hq
       subst this
       exact ⟨fun s hs => by simp only [T.val, Option.some.injEq] at hs; exact hs.symm, fun s hs => by simp only [WA, T.val, Option.some.injEq] at hs; exact hs.symm⟩
     · injection h with h
       subst h
       exact ⟨fun s hs => by cases b <;> simp [T.val] at hs <;> exact hs.symm, fun s hs => by cases b <;> simp [WA, T.val] at hs <;> exact hs.symm⟩
 · cases h
def ptrEq (P : Program) (t : TypeId) (x y : SV) : Option Bool :=
 match P.underlying t with
 | some (.pointer e) => match bg P e with
   | some (_ + 1) => match x, y with
     | .ptr i a, .ptr j b => bif Nat.beq i j then some (Nat.beq a b) else none
     | _, _ => none
   | _ => none
 | _ => none
theorem wI {P : Program} {C : Ctx} {w : World} {t : TypeId} {x y : SV} {u v : Value} {q : Bool} (hx : rel C w x u) (hy : rel C w y v) (h : ptrEq P t x y = some q) :
  (∀ op ox oy, (eqGuard op t ox oy u v).run P w = .ok () w) /\ (Op.equal t u v).run P w = .ok q w /\ (binOp .eql t u v = do pure (.bool (← Op.equal t u v))) /\ (binOp .neq t u v = do pure (.bool (!(← Op.equal t u v)))) := by
 unfold ptrEq at h
 split at h
 · rename_i e hu
   split at h
   · rename_i z hz
     split at h
     · rename_i i a j b
       cases hij : Nat.beq i j with
       | false => rw [hij] at h; cases h
       | true =>
         rw [hij, cond_true] at h
         injection h with h
         have := Nat.eq_of_beq_eq_true hij
         subst this
         obtain ⟨b1, h1, rfl⟩ := hx
         obtain ⟨b2, h2, rfl⟩ := hy
         rw [h1] at h2
         injection h2 with h2; injection h2 with h2; injection h2 with h2; injection h2 with h2
         subst h2
         refine ⟨fun op ox oy => ?_, ?_, rfl, rfl⟩
         · unfold eqGuard; split <;> rfl
         · have gen : ∀ d, (Op.equalIn (d + 1) t (.pointer (some ⟨b1, a, none⟩)) (.pointer (some ⟨b1, b, none⟩))).run P w = .ok q w := by
            intro d
            have hq : ((⟨b1, a, none⟩ : Addr) == ⟨b1, b, none⟩) = q := by
             rw [← h]
             cases hab : Nat.beq a b with
             | true => have := Nat.eq_of_beq_eq_true hab; subst this; simp
             | false =>
               have : a ≠ b := fun e => by rw [e, Nat.beq_refl] at hab; cases hab
               simp [this]
            simp [Op.equalIn, underlying, hu, aL hz, sameAddr, hq]
           exact gen 9999
     · cases h
   · cases h
 · cases h
def NC (P : Program) (t : TypeId) (op : BinOp) (x y : SV) : T SV :=
 match op with
 | .eql => match eqV P t x y with
   | some t => t
   | none => match ptrEq P t x y with
     | some q => .ret (.kb q)
     | none => jV P t .eql (dn x) (dn y)
 | .neq => match eqV P t x y with
   | some t => WA t
   | none => match ptrEq P t x y with
     | some q => .ret (.kb (!q))
     | none => jV P t .neq (dn x) (dn y)
 | op => jV P t op (dn x) (dn y)
def H6 (P : Program) (t : TypeId) (op : BinOp) (x y : SV) : T SV :=
 match qW x, qW y with
 | some a, some b => if a.k = b.k then riV op a.k a b else .fail
 | _, _ => NC P t op x y
def jy : SV -> Option ByteArray
 | .sy s => some s
 | .dt (.cell (.string s)) => some s
 | _ => none
theorem gG {C : Ctx} {w : World} {s : SV} {v : Value} {x : ByteArray} (h : jy s = some x) (r : rel C w s v) : v = .string x := by
 unfold jy at h
 split at h
 · injection h with h; subst h; exact r
 · injection h with h; subst h; exact aj.1 r
 · cases h
def syV (op : BinOp) (x y : ByteArray) : T SV :=
 match op with
 | .add => .need ((x.size : Int) + y.size <= 9223372036854775807) (.ret (.sy (x ++ y)))
 | .eql => .ite (x.data.toList == y.data.toList) (.ret (.kb true)) (.ret (.kb false))
 | .neq => .ite (x.data.toList == y.data.toList) (.ret (.kb false)) (.ret (.kb true))
 | _ => .fail
def syB (op : BinOp) : Option ByteArray -> Option ByteArray -> T SV
 | some a, some b => syV op a b
 | _, _ => .fail
def PN : SV -> Bool
 | .sy _ => true
 | _ => false
def QU (P : Program) (t : TypeId) (op : BinOp) (x y : SV) : T SV :=
 match x, y with
 | .ki k a, .ki k' b => if k = k' then kiV op k a b else .fail
 | x, y => bif PN x || PN y then syB op (jy x) (jy y) else H6 P t op x y
theorem Qr {P : Program} {C : Ctx} {w : World} (op : BinOp) (x y : ByteArray) (t : TypeId) (a b : Operand) {s : SV} (hok : (syV op x y).ok) (hv : (syV op x y).val = some s) :
  ∃ r, (do eqGuard op t a b (.string x) (.string y); binOp op t (.string x) (.string y) : Sem Value).run P w = .ok r w /\ rel C w s r := by
 cases op <;> simp only [syV, T.ok, T.val, Option.some.injEq, and_true, reduceCtorEq] at hok hv <;> (try contradiction)
 · subst hv
   obtain ⟨v, h1, h2⟩ := lG (P := P) (w := w) .add x y t a b (s := vS (x ++ y)) ⟨hok, trivial⟩ rfl
   injection h1 with h1; injection h1 with h1; subst h1
   exact ⟨_, h2, rfl⟩
 · obtain ⟨v, h1, h2⟩ := lG (P := P) (w := w) .eql x y t a b (s := vB (x.data.toList == y.data.toList)) trivial rfl
   injection h1 with h1; injection h1 with h1; subst h1
   refine ⟨_, h2, ?_⟩
   revert hv
   cases (x.data.toList == y.data.toList) <;> simp <;> (intro h; subst h; rfl)
 · obtain ⟨v, h1, h2⟩ := lG (P := P) (w := w) .neq x y t a b (s := vB (!(x.data.toList == y.data.toList))) trivial rfl
   injection h1 with h1; injection h1 with h1; subst h1
   refine ⟨_, h2, ?_⟩
   revert hv
   cases (x.data.toList == y.data.toList) <;> simp <;> (intro h; subst h; rfl)
theorem Qq {P : Program} {C : Ctx} {w : World} (op : BinOp) (x y : SV) (u v : Value) (t : TypeId) (a b : Operand) {s : SV} (hx : rel C w x u) (hy : rel C w y v) (hok : (syB op (jy x) (jy y)).ok) (hv : (syB op (jy x) (jy y)).val = some s) :
  ∃ r, (do eqGuard op t a b u v; binOp op t u v : Sem Value).run P w = .ok r w /\ rel C w s r := by
 cases hp : jy x with
 | none => rw [hp] at hok; exact hok.elim
 | some p =>
   cases hq : jy y with
   | none => rw [hp, hq] at hok; exact hok.elim
   | some q =>
     rw [hp, hq] at hok hv
     have := gG hp hx
     subst this
     have := gG hq hy
     subst this
     exact Qr op p q t a b hok hv
theorem vU {P : Program} {C : Ctx} {w : World} (op : BinOp) (x y : SV) (u v : Value) (t : TypeId) (a b : Operand) {s : SV}
  (hx : rel C w x u) (hy : rel C w y v) (hok : (NC P t op x y).ok) (hv : (NC P t op x y).val = some s) :
  ∃ r, (do eqGuard op t a b u v; binOp op t u v : Sem Value).run P w = .ok r w /\ rel C w s r := by
 unfold NC at hok hv
 cases op with
 | eql =>
   simp only at hok hv
   cases he : eqV P t x y with
   | some tr =>
     rw [he] at hv
     obtain ⟨q, h1, h2, _⟩ := Db t x y u v hx hy he
     have hs := h2 s hv
     subst hs
     obtain ⟨g1, g2, g3, _⟩ := mO (P := P) t _ _ u v q (lN hx) (lN hy) h1
     refine ⟨.bool q, ?_, rfl⟩
     simp only [Sem.run_bind, g1, Result.andThen_ok, g3, g2, Sem.run_pure]
   | none =>
     rw [he] at hok hv
     simp only at hok hv
     cases hq : ptrEq P t x y with
     | some q =>
       rw [hq] at hv
       simp only [T.val, Option.some.injEq] at hv
       subst hv
       obtain ⟨g1, g2, g3, _⟩ := wI (P := P) hx hy hq
       refine ⟨.bool q, ?_, rfl⟩
       simp only [Sem.run_bind, g1, Result.andThen_ok, g3, g2, Sem.run_pure]
     | none =>
       rw [hq] at hok hv
       exact jC .eql _ _ u v t a b (lN hx) (lN hy) hok hv
 | neq =>
   simp only at hok hv
   cases he : eqV P t x y with
   | some tr =>
     rw [he] at hv
     obtain ⟨q, h1, _, h2⟩ := Db t x y u v hx hy he
     have hs := h2 s hv
     subst hs
     obtain ⟨g1, g2, _, g3⟩ := mO (P := P) t _ _ u v q (lN hx) (lN hy) h1
     refine ⟨.bool (!q), ?_, rfl⟩
     simp only [Sem.run_bind, g1, Result.andThen_ok, g3, g2, Sem.run_pure]
   | none =>
     rw [he] at hok hv
     simp only at hok hv
     cases hq : ptrEq P t x y with
     | some q =>
       rw [hq] at hv
       simp only [T.val, Option.some.injEq] at hv
       subst hv
       obtain ⟨g1, g2, _, g3⟩ := wI (P := P) hx hy hq
       refine ⟨.bool (!q), ?_, rfl⟩
       simp only [Sem.run_bind, g1, Result.andThen_ok, g3, g2, Sem.run_pure]
     | none =>
       rw [hq] at hok hv
       exact jC .neq _ _ u v t a b (lN hx) (lN hy) hok hv
 | _ => exact jC _ _ _ u v t a b (lN hx) (lN hy) hok hv
theorem J7 {P : Program} {C : Ctx} {w : World} (op : BinOp) (x y : SV) (u v : Value) (t : TypeId) (a b : Operand) {s : SV}
  (hx : rel C w x u) (hy : rel C w y v) (hok : (QU P t op x y).ok) (hv : (QU P t op x y).val = some s) :
  ∃ r, (do eqGuard op t a b u v; binOp op t u v : Sem Value).run P w = .ok r w /\ rel C w s r := by
 have two : (H6 P t op x y).ok -> (H6 P t op x y).val = some s -> ∃ r, (do eqGuard op t a b u v; binOp op t u v : Sem Value).run P w = .ok r w /\ rel C w s r := by
  intro hok hv
  unfold H6 at hok hv
  cases hp : qW x with
  | none => rw [hp] at hok hv; exact vU op x y u v t a b hx hy hok hv
  | some p =>
    cases hq : qW y with
    | none => rw [hp, hq] at hok hv; exact vU op x y u v t a b hx hy hok hv
    | some q =>
      rw [hp, hq] at hok hv
      simp only at hok hv
      obtain ⟨e1, l1⟩ := qg hp hx
      obtain ⟨e2, l2⟩ := qg hq hy
      by_cases hk : p.k = q.k
      · rw [if_pos hk] at hok hv
        subst e1; subst e2
        rw [← hk]
        exact Qf op p.k p q t a b l1 l2 hok hv
      · rw [if_neg hk] at hok; exact hok.elim
 unfold QU at hok hv
 split at hok
 · rename_i k n k' m
   by_cases hk : k = k'
   · subst hk
     simp only [if_true] at hok hv
     have hu : u = .int k n := hx
     have hvv : v = .int k m := hy
     subst hu; subst hvv
     exact PV op k n m t a b hok hv
   · rw [if_neg hk] at hok; exact hok.elim
 · rename_i hno
   have hv : (bif PN x || PN y then syB op (jy x) (jy y) else H6 P t op x y).val = some s := by
    revert hv
    split
    · rename_i k a k' b; exact absurd rfl (hno _ _ _ _ rfl)
    · exact id
   cases hb : (PN x || PN y) with
   | true => rw [hb] at hok hv; exact Qq op x y u v t a b hx hy hok hv
   | false => rw [hb] at hok hv; exact two hok hv
end Rx
set_option linter.unusedSectionVars false
set_option linter.unusedSimpArgs false
set_option linter.unusedVariables false
namespace Rx
open Go
variable [Glob]
def Ho (P : Program) (new : Nat) (t tx : TypeId) (s x : SV) : T Res :=
 match P.underlying t, P.underlying tx, s, x with
 | some (.slice e), some (.int _), .dt (.cell (.slice none 0 0)), .ki .i64 l => match wN P e, zeroOf P e with
   | some (sz, by'), some zs => bif decide (0 <= l) && (Nat.ble (l.toNat * by') 140737488355328 && (Nat.ble (l.toNat * sz) 65535 && (Nat.beq zs.length sz && zs.all eB))) then
     (match l with
     | .ofNat 0 => .ret ⟨.dt (.cell (.slice none 0 0)), .none⟩
     | l => .ret ⟨.sl new sz 0 l.toNat none, ⟨[(new, some (.vec e sz l.toNat (kM .nil 0 ((List.range (l.toNat * sz)).map fun k => zs.getD (k % sz) .junk)) false))], [new]⟩⟩)
     else .fail
   | _, _ => .fail
 | _, _, _, _ => .fail
theorem Hq {P : Program} {C : Ctx} {w : World} (hw : WF C w) {new : Nat} (t tx ty : TypeId) (s x : SV) (u v : Value) {r : Res}
  (hs : rel C w s u) (hx : rel C w x v) (hok : (Ho P new t tx s x).ok) (hval : (Ho P new t tx s x).val = some r) (hnew : ∀ i, i ∈ r.eff.new -> C.ν i = none) :
  ∃ v' w' C', (Builtin.append_ #[t, tx] ty #[u, v]).run P w = .ok v' w' /\ Came C w r C' w' v' := by
 unfold Ho at hok hval
 split at hok
 · rename_i e kx l ht htx
   simp only [ht, htx] at hval
   rw [aj] at hs
   subst hs
   have hx : v = .int .i64 l := hx
   subst hx
   split at hok
   · rename_i sz by' zs hrt hzz
     simp only [hrt, hzz] at hval
     cases hb : (decide (0 <= l) && (Nat.ble (l.toNat * by') 140737488355328 && (Nat.ble (l.toNat * sz) 65535 && (Nat.beq zs.length sz && zs.all eB)))) with
     | false => rw [hb] at hok; exact hok.elim
     | true =>
     rw [hb] at hok hval
     simp only [cond_true] at hok hval
     simp only [Bool.and_eq_true, decide_eq_true_eq] at hb
     obtain ⟨hl0, hby, hsz6, hzl6, hone6⟩ := hb
     replace hby := Nat.le_of_ble_eq_true hby
     replace hsz6 := Nat.le_of_ble_eq_true hsz6
     replace hzl6 := Nat.eq_of_beq_eq_true hzl6
     obtain ⟨i, z, hi, hz, hsz, hbb, hzs, hsz0, hby0⟩ := iQ hrt
     subst hsz; subst hbb
     obtain ⟨z', hzr, hzl⟩ := fH hzz C w
     have ez : z' = z := by
        simp [zeroValue, typeInfo, hi, hz] at hzr
        exact hzr.symm
     subst ez
     have hones := xB hone6 hzl
     have hll : (l.toNat : Int) = l := Int.toNat_of_nonneg hl0
     split at hok
     · rename_i h0
       simp only [T.val, Option.some.injEq] at hval
       subst hval
       have hrun : (Builtin.append_ #[t, tx] ty #[.slice none 0 0, .int .i64 0]).run P w = .ok (.slice none 0 0) w := by
        have hw0 : IntKind.i64.wrap 0 = 0 := by rfl
        simp [Builtin.append_, run_underlying ht, run_underlying htx, Go.sizeOf, typeInfo, hi, asInt, asIntOf, hw0]
       exact ⟨_, w, C, hrun, Came.pure hw (aj.2 rfl)⟩
     · rename_i h0
       have hval : (T.ret (⟨.sl new i.size 0 l.toNat none, ⟨[(new, some (.vec e i.size l.toNat (kM .nil 0 ((List.range (l.toNat * i.size)).map fun k => zs.getD (k % i.size) .junk)) false))], [new]⟩⟩ : Res)).val = some r := by
        revert hval
        split
        · exact absurd rfl h0
        · exact id
       simp only [T.val, Option.some.injEq] at hval
       subst hval
       have hnn : C.ν new = none := hnew new (by simp)
       have hn : ¬ l.toNat = 0 := by
        intro h
        apply h0
        rw [h] at hll
        exact hll.symm
       clear h0
       generalize l.toNat = n at hby hsz6 hll hn ⊢
       subst hll
       have hn47 : n <= 140737488355328 := Nat.le_trans (Nat.le_mul_of_pos_right _ hby0) hby
       have hwrap : IntKind.i64.wrap (n : Int) = n := nJ _ _ ⟨by show (-(2:Int)^63) <= _; omega, by show _ <= ((2:Int)^63 - 1); omega⟩
       have hcap : Builtin.nextslicecap n 0 * i.bytes <= 2 ^ 48 := by
        have := growslice_fits (need := n) (old := 0) (bytes := i.bytes) (by omega) hby
        omega
       have hlb : ¬ ((n : Int) * i.bytes > 2 ^ 48) := by
        have : ((n * i.bytes : Nat) : Int) <= ((140737488355328 : Nat) : Int) := Int.ofNat_le.2 hby
        rw [Int.natCast_mul] at this
        omega
       have hge := grownCap_ge w n 0 e
       have hrun : (Builtin.append_ #[t, tx] ty #[.slice none 0 0, .int .i64 n]).run P w =
         .ok (.slice (some ⟨w.heap.size, 0, none⟩) n (grownCap w n 0 e)) (w.drew.alloc (.cells (Builtin.zeroCells z'.cells n ++ Builtin.zeroCells z'.cells (grownCap w n 0 e - n)) e)) := by
        have h1 : ¬ ((n : Int) > IntKind.i64.max) := by
         show ¬ ((n : Int) > (2:Int) ^ 63 - 1)
         omega
        have h2 : ¬ (281474976710656 < Builtin.nextslicecap n 0 * i.bytes) := by omega
        have h3 : ¬ (281474976710656 < (n : Int) * i.bytes) := by omega
        have h4 : ¬ ((n : Int) < 0) := by omega
        have h5 : ¬ (n * i.size = 0) := by
         intro h
         rcases Nat.mul_eq_zero.1 h with h | h <;> omega
        have h6 : ¬ (9223372036854775807 < (n : Int)) := by omega
        simp [Builtin.append_, run_underlying ht, run_underlying htx, Go.sizeOf, typeInfo, zeroValue, hi, hz, asInt, asIntOf, hwrap, hn, h2, h3, h4, h5, h6, Question.forced, run_firstCells_none, newRow, grownCap]
        done
       refine ⟨_, _, _, hrun, Came.Bo hw hnn ⟨rfl, rfl, rfl, by simp, fun k hk _ => heap_alloc_old w.drew _ hk⟩ (by simp) (heap_alloc_new w.drew _) (m := grownCap w n 0 e) ?_ hge hge (fun h => by cases h) fun k hk => ?_⟩
       · simp only [Array.size_append, size_zeroCells, hzs]
         rw [← Nat.add_mul]; congr 1; omega
       · have hj : k % i.size < zs.length := by rw [hzl6]; exact Nat.mod_lt _ hsz0
         obtain ⟨v, h3, h4⟩ := aY (k % i.size) zs[k % i.size] hzl (List.getElem?_eq_getElem hj)
         obtain ⟨d1, d2, d3⟩ := qo hk
         have hg := rA z'.cells n (k / i.size) (k % i.size) d1 (by rw [hzs]; exact d2)
         rw [hzs, d3] at hg
         refine ⟨v, ?_, hones v (List.mem_of_getElem? h3), ?_⟩
         · rw [Array.getElem?_append_left (by rw [size_zeroCells, hzs]; exact hk), hg]
           simpa using h3
         · rw [gW _ .nil 0 k (by simp; omega), if_pos (by simp; omega), List.getD_eq_getElem?_getD, Nat.sub_zero, List.getElem?_map, List.getElem?_range hk]
           simpa [List.getD, List.getElem?_eq_getElem hj] using h4
   · exact hok.elim
 · exact hok.elim
def Ww (P : Program) (t : TypeId) (x : SV) : Option SV :=
 match P.underlying t, x with
 | some (.slice _), .sl _ _ _ n _ => some (.ki .i64 n)
 | some (.slice _), .dt (.cell (.slice _ n _)) => some (.ki .i64 n)
 | some (.slice _), .dt (.arr _ n _) => some (.ki .i64 n)
 | some .string, .dt (.cell (.string s)) => some (.ki .i64 s.size)
 | _, _ => none
theorem KR {P : Program} {C : Ctx} {w : World} (x s : SV) (u : Value) (t ty : TypeId) (hx : rel C w x u) (h : Ww P t x = some s) :
  ∃ y, (Builtin.len_ #[t] ty #[u]).run P w = .ok y w /\ rel C w s y := by
 unfold Ww at h
 split at h
 · rename_i hu
   injection h with h; subst h
   obtain ⟨b, m, cc, x, _, rfl, _⟩ := hx
   exact ⟨_, by simp [Builtin.len_, run_underlying hu]; rfl, rfl⟩
 · rename_i hu
   injection h with h; subst h
   rw [aj] at hx; subst hx
   exact ⟨_, by simp [Builtin.len_, run_underlying hu]; rfl, rfl⟩
 · rename_i hu
   injection h with h; subst h
   obtain ⟨A, c, rfl, _⟩ := hx.here
   exact ⟨_, by simp [Builtin.len_, run_underlying hu]; rfl, rfl⟩
 · rename_i hu
   injection h with h; subst h
   rw [aj] at hx; subst hx
   exact ⟨_, by simp [Builtin.len_, run_underlying hu]; rfl, rfl⟩
 · cases h
def Yq (P : Program) (t : TypeId) (x : SV) : Option SV :=
 match P.underlying t, x with
 | some (.slice _), .sl _ _ _ _ (some k) => some (.ki .i64 k)
 | some (.slice _), .dt (.cell (.slice _ _ c)) => some (.ki .i64 c)
 | _, _ => none
theorem Kc {P : Program} {C : Ctx} {w : World} (x s : SV) (u : Value) (t ty : TypeId) (hx : rel C w x u) (h : Yq P t x = some s) :
  ∃ y, (Builtin.cap_ #[t] ty #[u]).run P w = .ok y w /\ rel C w s y := by
 unfold Yq at h
 split at h
 · rename_i k hu
   injection h with h; subst h
   obtain ⟨b, m, cc, x, _, rfl, _, _, _, hc, _⟩ := hx
   have := hc _ rfl
   subst this
   exact ⟨_, by simp [Builtin.cap_, run_underlying hu]; rfl, rfl⟩
 · rename_i hu
   injection h with h; subst h
   rw [aj] at hx; subst hx
   exact ⟨_, by simp [Builtin.cap_, run_underlying hu]; rfl, rfl⟩
 · cases h
def FQ (P : Program) (t : TypeId) (x ix : SV) : T SV :=
 match P.underlying t, x, FX ix with
 | some (.slice e), .dt (.arr sz n f), some i => match bg P e with
   | some z => bif Nat.beq z sz && (decide (0 <= i) && decide (i < n)) then .ret (.el sz fun j => f i.toNat j) else .fail
   | none => .fail
 | some (.array n e), .el m f, some i => match bg P e with
   | some z => bif decide (0 <= i) && (decide (i < n) && Nat.ble (i.toNat * z) m) then .ret (.el (m - i.toNat * z) fun j => f (j + i.toNat * z)) else .fail
   | none => .fail
 | some (.array n e), .ptr q off, some i => match bg P e with
   | some z => bif decide (0 <= i) && decide (i < n) then .ret (.ptr q (off + i.toNat * z)) else .fail
   | none => .fail
 | _, _, _ => .fail
theorem FR {P : Program} {C : Ctx} {w : World} (t : TypeId) (x ix s : SV) (u v : Value)
  (hx : rel C w x u) (hi : rel C w ix v) (hok : (FQ P t x ix).ok) (hv : (FQ P t x ix).val = some s) :
  ∃ y, (Instr.indexAt t u v).run P w = .ok y w /\ rel C w s y := by
 unfold FQ at hok hv
 split at hok
 · rename_i e sz n f i hu hix
   simp only [hu, hix] at hv
   cases hz : bg P e with
   | none => simp [hz, T.ok] at hok
   | some z =>
     simp only [hz] at hok hv
     cases hb : (Nat.beq z sz && (decide (0 <= i) && decide (i < n))) with
     | false => rw [hb] at hok; exact hok.elim
     | true =>
       rw [hb] at hv
       simp only [cond_true, T.val, Option.some.injEq] at hv
       subst hv
       simp only [Bool.and_eq_true, decide_eq_true_eq] at hb
       have e1 := Nat.eq_of_beq_eq_true hb.1
       subst e1
       obtain ⟨h0, h1⟩ := hb.2
       obtain ⟨k, rfl⟩ := iy hix hi
       obtain ⟨A, c, rfl, hnc, hcells⟩ := hx.here
       have hn : 0 < n := by omega
       obtain ⟨b, off, rfl, _⟩ := hcells hn
       refine ⟨.pointer (some ⟨b, off + i.toNat * z, none⟩), ?_, b, off + i.toNat * z, rfl, hx.mono fun w' hw' j hj => ?_⟩
       · simp only [Instr.indexAt, asIntOf, underlying, Sem.run_bind, Sem.run_pure, run_program, Result.andThen_ok, hu]
         rw [if_pos ⟨h0, h1⟩]
         simp only [Sem.run_bind, Sem.run_pure, Result.andThen_ok, aL hz, aZ]
       · obtain ⟨A', c', e', _, hcells'⟩ := hw'
         injection e' with e1 e2 e3
         subst e1
         obtain ⟨b', off', e4, hh⟩ := hcells' hn
         injection e4 with e4
         injection e4 with e5 e6
         subst e5; subst e6
         obtain ⟨u, q1, q2⟩ := hh i.toNat (by omega) j hj
         exact ⟨u, q1, q2.2⟩
 · rename_i n e m f i hu hix
   simp only [hu, hix] at hv
   cases hz : bg P e with
   | none => simp [hz, T.ok] at hok
   | some z =>
     simp only [hz] at hok hv
     cases hb : (decide (0 <= i) && (decide (i < n) && Nat.ble (i.toNat * z) m)) with
     | false => rw [hb] at hok; exact hok.elim
     | true =>
       rw [hb] at hv
       simp only [cond_true, T.val, Option.some.injEq] at hv
       subst hv
       simp only [Bool.and_eq_true, decide_eq_true_eq] at hb
       obtain ⟨h0, h1, h2⟩ := hb
       have h2 := Nat.le_of_ble_eq_true h2
       obtain ⟨k, rfl⟩ := iy hix hi
       obtain ⟨b, off, rfl, hp⟩ := hx
       refine ⟨.pointer (some ⟨b, off + i.toNat * z, none⟩), ?_, b, off + i.toNat * z, rfl, hp.mono fun w' hw' j hj => ?_⟩
       · simp only [Instr.indexAt, asIntOf, underlying, Sem.run_bind, Sem.run_pure, run_program, Result.andThen_ok, hu, Instr.sureAddr]
         rw [if_pos ⟨h0, h1⟩]
         simp only [Sem.run_bind, Sem.run_pure, Result.andThen_ok, aL hz, aZ]
       · have := hw' (j + i.toNat * z) (by omega)
         rwa [show off + (j + i.toNat * z) = off + i.toNat * z + j by omega] at this
 · rename_i n e q off i hu hix
   simp only [hu, hix] at hv
   cases hz : bg P e with
   | none => simp [hz, T.ok] at hok
   | some z =>
     simp only [hz] at hok hv
     cases hb : (decide (0 <= i) && decide (i < n)) with
     | false => rw [hb] at hok; exact hok.elim
     | true =>
       rw [hb] at hv
       simp only [cond_true, T.val, Option.some.injEq] at hv
       subst hv
       simp only [Bool.and_eq_true, decide_eq_true_eq] at hb
       obtain ⟨h0, h1⟩ := hb
       obtain ⟨k, rfl⟩ := iy hix hi
       obtain ⟨b, hν, rfl⟩ := hx
       refine ⟨.pointer (some ⟨b, off + i.toNat * z, none⟩), ?_, b, hν, rfl⟩
       simp only [Instr.indexAt, asIntOf, underlying, Sem.run_bind, Sem.run_pure, run_program, Result.andThen_ok, hu, Instr.sureAddr]
       rw [if_pos ⟨h0, h1⟩]
       simp only [Sem.run_bind, Sem.run_pure, Result.andThen_ok, aL hz, aZ]
 · exact hok.elim
def uY (P : Program) (t : TypeId) (x ix : SV) : T SV :=
 match P.underlying t, x, FX ix with
 | some (.array n e), .agg l, some i => match bg P e, nQ P e, BF l with
   | some 1, some false, some ss => bif Nat.beq l.length n && (decide (0 <= i) && decide (i < n)) then .ret (vS (ss.getD i.toNat ⟨#[]⟩)) else .fail
   | _, _, _ => .fail
 | some .string, .dt (.cell (.string s)), some i => bif decide (0 <= i) && decide (i < s.size) then .ret (.ki .u8 (au s i)) else .fail
 | _, _, _ => .fail
theorem FU {P : Program} {C : Ctx} {w : World} (t : TypeId) (x ix s : SV) (u v : Value)
  (hx : rel C w x u) (hi : rel C w ix v) (hok : (uY P t x ix).ok) (hv : (uY P t x ix).val = some s) :
  ∃ y, (Instr.index t u v).run P w = .ok y w /\ rel C w s y := by
 unfold uY at hok hv
 split at hok
 · rename_i n e l i hu hix
   simp only [hu, hix] at hv
   obtain ⟨k, rfl⟩ := iy hix hi
   split at hok
   · rename_i ss hz ha hss
     simp only [hz, ha, hss] at hv
     cases hb : (Nat.beq l.length n && (decide (0 <= i) && decide (i < n))) with
     | false => rw [hb] at hok; exact hok.elim
     | true =>
       rw [hb] at hv
       simp only [Bool.and_eq_true, decide_eq_true_eq] at hb
       refine lU (P := P) t (.agg l) (vI k i) s u (.int k i) hx (aj.2 rfl) ?_ ?_
       · simp only [kZ, hu, hz, ha, hss, hb.1, cond_true, T.ok]; exact ⟨hb.2, trivial⟩
       · simp only [kZ, hu, hz, ha, hss, hb.1, cond_true, T.val]; exact hv
   · exact hok.elim
 · rename_i str i hu hix
   simp only [hu, hix] at hv
   obtain ⟨k, rfl⟩ := iy hix hi
   cases hb : (decide (0 <= i) && decide (i < str.size)) with
   | false => rw [hb] at hok; exact hok.elim
   | true =>
     rw [hb] at hv
     simp only [cond_true, T.val, Option.some.injEq] at hv
     subst hv
     simp only [Bool.and_eq_true, decide_eq_true_eq] at hb
     obtain ⟨y, h1, h2⟩ := lU (P := P) t (.dt (.cell (.string str))) (vI k i) (vI .u8 (au str i)) u (.int k i) hx (aj.2 rfl) (by
      simp only [kZ, hu, T.ok]; exact ⟨hb, trivial⟩) (by simp only [kZ, hu, T.val])
     exact ⟨y, h1, aj.1 h2⟩
 · exact hok.elim
def Fp (P : Program) (t : TypeId) (x : SV) (low high : Option SV) : T SV :=
 match P.underlying t, x, Cg low, Cg high with
 | some .string, .dt (.cell (.string s)), some l, some h => bif decide (0 <= z0 l) && (decide (z0 l <= zn s.size h) && decide (zn s.size h <= s.size)) then .ret (vS (s.extract (z0 l).toNat (zn s.size h).toNat)) else .fail
 | some (.slice e), .dt (.arr sz n f), some l, some h => match bg P e with
   | some z => bif Nat.beq z sz && (decide (0 <= z0 l) && (decide (z0 l <= zn n h) && decide (zn n h <= n))) then .ret (.dt (.arr sz ((zn n h).toNat - (z0 l).toNat) fun i j => f (i + (z0 l).toNat) j)) else .fail
   | none => .fail
 | _, _, _, _ => .fail
theorem H7 {P : Program} {w : World} {n : Nat} {l h : Option Int} {vl vh : Option Value} (hl : (l = none /\ vl = none) ∨ ∃ a k, l = some a /\ vl = some (.int k a)) (hh : (h = none /\ vh = none) ∨ ∃ a k, h = some a /\ vh = some (.int k a))
  (h0 : 0 <= z0 l) (h1 : z0 l <= zn n h) (h2 : zn n h <= n) : (Instr.sliceBounds false n n vl vh none).run P w = .ok ((z0 l).toNat, (zn n h).toNat, n) w := by
 have nn : (n : Int).toNat = n := by simp
 rcases hl with ⟨rfl, rfl⟩ | ⟨a, k, rfl, rfl⟩ <;> rcases hh with ⟨rfl, rfl⟩ | ⟨b, k', rfl, rfl⟩ <;> simp only [z0, zn] at h0 h1 h2 ⊢
 · simp [Instr.sliceBounds]
 · have b1 := aG (P := P) (w := w) k' b n .sliceAlen ⟨by omega, h2⟩
   simp [Instr.sliceBounds, b1]
 · have b1 := aG (P := P) (w := w) k a n .sliceB ⟨h0, h1⟩
   simp [Instr.sliceBounds, b1]
 · have b1 := aG (P := P) (w := w) k' b n .sliceAlen ⟨by omega, h2⟩
   have b2 := aG (P := P) (w := w) k a b.toNat .sliceB ⟨h0, by omega⟩
   simp [Instr.sliceBounds, b1, b2]
theorem Fq {P : Program} {C : Ctx} {w : World} (t : TypeId) (x s : SV) (low high : Option SV) (u : Value) (vl vh : Option Value)
  (hx : rel C w x u) (hl : ∀ s, low = some s -> ∃ v, vl = some v /\ rel C w s v) (hl0 : low = none -> vl = none) (hh : ∀ s, high = some s -> ∃ v, vh = some v /\ rel C w s v) (hh0 : high = none -> vh = none)
  (hok : (Fp P t x low high).ok) (hv : (Fp P t x low high).val = some s) :
  ∃ y, (Instr.sliceAt t u vl vh none).run P w = .ok y w /\ rel C w s y := by
 unfold Fp at hok hv
 split at hok
 · rename_i str l h hu hbl hbh
   simp only [hu, hbl, hbh] at hv
   have ql := bX hbl hl hl0
   have qh := bX hbh hh hh0
   rw [aj] at hx
   subst hx
   cases hb : (decide (0 <= z0 l) && (decide (z0 l <= zn str.size h) && decide (zn str.size h <= str.size))) with
   | false => rw [hb] at hok; exact hok.elim
   | true =>
     rw [hb] at hv
     simp only [cond_true, T.val, Option.some.injEq] at hv
     subst hv
     simp only [Bool.and_eq_true, decide_eq_true_eq] at hb
     have hrun := H7 (P := P) (w := w) ql qh hb.1 hb.2.1 hb.2.2
     refine ⟨_, ?_, aj.2 rfl⟩
     simp only [Instr.sliceAt, Instr.slice, underlying, Sem.run_bind, Sem.run_pure, run_program, Result.andThen_ok, hu, Option.isSome_none, Bool.false_eq_true, if_false, hrun]
 · rename_i e sz n f l h hu hbl hbh
   simp only [hu, hbl, hbh] at hv
   have ql := bX hbl hl hl0
   have qh := bX hbh hh hh0
   cases hz : bg P e with
   | none => simp [hz, T.ok] at hok
   | some z =>
     simp only [hz] at hok hv
     cases hb : (Nat.beq z sz && (decide (0 <= z0 l) && (decide (z0 l <= zn n h) && decide (zn n h <= n)))) with
     | false => rw [hb] at hok; exact hok.elim
     | true =>
       rw [hb] at hv
       simp only [cond_true, T.val, Option.some.injEq] at hv
       subst hv
       simp only [Bool.and_eq_true, decide_eq_true_eq] at hb
       obtain ⟨e1, b1, b2, b3⟩ := hb
       have e1 := Nat.eq_of_beq_eq_true e1
       subst e1
       obtain ⟨A, c, rfl, hnc, hcells⟩ := hx.here
       have hrun := rD (P := P) (w := w) (n := n) (c := c) ql qh b1 b2 (by omega)
       refine ⟨_, by simp only [Instr.sliceAt, Instr.slice, underlying, Sem.run_bind, Sem.run_pure, run_program, Result.andThen_ok, hu, hrun, aL hz]; rfl, hx.mono fun w' hw' => ?_⟩
       exact xZ (l := (z0 l).toNat) (h := (zn n h).toNat) (by omega) (by omega) hw'
 · exact hok.elim
def NQ (P : Program) (t : TypeId) (d x : SV) : T Res := match P.underlying t, d, x with
 | some (.slice e), .dt (.cell (.slice none 0 _)), .sl _ _ _ _ _ => (match P.info? e with
   | some _ => .ret ⟨.ki .i64 0, .none⟩
   | none => .fail)
 | _, _, _ => .fail
theorem Ic {P : Program} {C : Ctx} {w : World} (hw : WF C w) (t tx ty : TypeId) (d x : SV) (u v : Value) {r : Res}
  (hd : rel C w d u) (hx : rel C w x v) (hok : (NQ P t d x).ok) (hv : (NQ P t d x).val = some r) :
  ∃ y, (Builtin.copy_ #[t, tx] ty #[u, v]).run P w = .ok y w /\ Came C w r C w y := by
 unfold NQ at hok hv
 split at hok
 · rename_i e q i z o n c hu
   simp only [hu] at hv
   split at hok
   · rename_i j hj
     simp only [hj, T.val, Option.some.injEq] at hv
     subst hv
     have hd := aj.1 hd
     subst hd
     obtain ⟨b, m, cc, y, _, rfl, _⟩ := hx
     have hf : (Builtin.firstCells j.size 0 (.slice (some ⟨b, y, none⟩) n cc)).run P w = .ok #[] w := run_firstCells_some (P := P) w j.size 0 _ n cc [] (by simp) (by simp)
     exact ⟨.int .i64 0, by simp [Builtin.copy_, run_underlying hu, Go.sizeOf, typeInfo, hj, Builtin.lenOf, hf, goInt], Came.pure hw rfl⟩
   · exact hok.elim
 · exact hok.elim
end Rx
