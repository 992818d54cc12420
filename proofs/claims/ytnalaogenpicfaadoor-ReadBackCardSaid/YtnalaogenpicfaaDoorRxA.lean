/- Rx, part A: decision trees, slots, pure data, symbolic values and what they stand for. -/
import Derived.WalkKit
import Derived.Orders
set_option linter.unusedSectionVars false
set_option linter.unusedSimpArgs false
set_option linter.unusedVariables false
namespace Rx
open Go

universe u v

/-! ## decision trees -/
inductive T (α : Type u) : Type u where
  | ret (a : α)
  | ite (b : Bool) (t e : T α)
  | need (p : Prop) (t : T α)
  | both (t e : T α)
  | all (n : Nat) (f : Nat → T α)
  | fail

namespace T
variable {α : Type u} {β : Type v}

def bind : T α → (α → T β) → T β
  | .ret a, f => f a
  | .ite b t e, f => .ite b (t.bind f) (e.bind f)
  | .need p t, f => .need p (t.bind f)
  | .both t e, f => .both (t.bind f) (e.bind f)
  | .all n g, f => .all n fun i => (g i).bind f
  | .fail, _ => .fail

/-- every way that can be gone ends in a result that meets post -/
def holds (post : α → Prop) : T α → Prop
  | .ret a => post a
  | .ite b t e => (b = true → t.holds post) ∧ (b = false → e.holds post)
  | .need p t => p ∧ t.holds post
  | .both t e => t.holds post ∧ e.holds post
  | .all n f => ∀ i, i < n → (f i).holds post
  | .fail => False

/-- the result of the way that is gone, where one alone can be gone -/
def val : T α → Option α
  | .ret a => some a
  | .ite b t e => if b = true then t.val else e.val
  | .need _ t => t.val
  | _ => none

/-- what the way that is gone needs -/
def ok : T α → Prop
  | .ret _ => True
  | .ite b t e => if b = true then t.ok else e.ok
  | .need p t => p ∧ t.ok
  | _ => False

def det : T α → Bool
  | .ret _ => true
  | .ite _ t e => t.det && e.det
  | .need _ t => t.det
  | .fail => true
  | _ => false

theorem holds_iff {post : α → Prop} : ∀ t : T α, t.det = true → (t.holds post ↔ t.ok ∧ ∃ a, t.val = some a ∧ post a)
  | .ret a, _ => by simp [holds, ok, val]
  | .ite b t e, h => by
    simp only [det, Bool.and_eq_true] at h
    have h1 := holds_iff (post := post) t h.1
    have h2 := holds_iff (post := post) e h.2
    cases b <;> simp [holds, ok, val, h1, h2]
  | .need p t, h => by
    have h1 := holds_iff (post := post) t h
    simp only [holds, ok, val, h1, and_assoc]
  | .fail, _ => by simp [holds, ok]
  | .both _ _, h => by simp [det] at h
  | .all _ _, h => by simp [det] at h

theorem holds_of {post : α → Prop} {a : α} (hp : post a) : ∀ t : T α, t.ok → t.val = some a → t.holds post
  | .ret b, _, hv => by simp only [val, Option.some.injEq] at hv; subst hv; exact hp
  | .ite b t e, h, hv => by
    cases b
    · exact ⟨fun h => (by cases h), fun _ => holds_of hp e h hv⟩
    · exact ⟨fun _ => holds_of hp t h hv, fun h => (by cases h)⟩
  | .need p t, h, hv => ⟨h.1, holds_of hp t h.2 hv⟩
  | .both _ _, h, _ => h.elim
  | .all _ _, h, _ => h.elim
  | .fail, h, _ => h.elim

theorem holds_bind {post : β → Prop} : ∀ (t : T α) (f : α → T β), (t.bind f).holds post ↔ t.holds (fun a => (f a).holds post)
  | .ret a, f => Iff.rfl
  | .ite b t e, f => by simp only [bind, holds, holds_bind t f, holds_bind e f]
  | .need p t, f => by simp only [bind, holds, holds_bind t f]
  | .both t e, f => by simp only [bind, holds, holds_bind t f, holds_bind e f]
  | .all n g, f => by simp only [bind, holds]; exact forall_congr' fun i => imp_congr_right fun _ => holds_bind (g i) f
  | .fail, f => Iff.rfl

theorem holds_mono {p q : α → Prop} (h : ∀ a, p a → q a) : ∀ t : T α, t.holds p → t.holds q
  | .ret a, H => h a H
  | .ite _ t e, H => ⟨fun hb => holds_mono h t (H.1 hb), fun hb => holds_mono h e (H.2 hb)⟩
  | .need _ t, H => ⟨H.1, holds_mono h t H.2⟩
  | .both t e, H => ⟨holds_mono h t H.1, holds_mono h e H.2⟩
  | .all _ f, H => fun i hi => holds_mono h (f i) (H i hi)
  | .fail, H => H

theorem bind_ok {α : Type} {β : Type} : ∀ {t : T α} {f : α → T β}, (t.bind f).ok → t.ok ∧ ∀ a, t.val = some a → (f a).ok
  | .ret a, f, h => ⟨trivial, fun b hb => by simp only [T.val, Option.some.injEq] at hb; subst hb; exact h⟩
  | .ite b t e, f, h => by
    cases b
    · exact bind_ok (t := e) h
    · exact bind_ok (t := t) h
  | .need p t, f, h => ⟨⟨h.1, (bind_ok (t := t) h.2).1⟩, (bind_ok (t := t) h.2).2⟩
  | .both _ _, f, h => h.elim
  | .all _ _, f, h => h.elim
  | .fail, f, h => h.elim

theorem bind_val {α : Type} {β : Type} : ∀ {t : T α} {f : α → T β} {b : β}, (t.bind f).val = some b → ∃ a, t.val = some a ∧ (f a).val = some b
  | .ret a, f, b, h => ⟨a, rfl, h⟩
  | .ite q t e, f, b, h => by
    cases q
    · exact bind_val (t := e) h
    · exact bind_val (t := t) h
  | .need p t, f, b, h => bind_val (t := t) h
  | .both _ _, f, b, h => by cases h
  | .all _ _, f, b, h => by cases h
  | .fail, f, b, h => by cases h
end T

/-! ## slots: a tree by number -/
inductive Tr (α : Type u) : Type u where
  | nil
  | node (l : Tr α) (v : α) (r : Tr α)

theorem beq_f {a b : Nat} (h : ¬ a = b) : Nat.beq a b = false := by
  cases e : Nat.beq a b
  · rfl
  · exact absurd (Nat.eq_of_beq_eq_true e) h
theorem beq_t {a b : Nat} (h : a = b) : Nat.beq a b = true := by subst h; exact Nat.beq_refl _

namespace Tr
variable {α : Type u}
def get (d : α) : Tr α → Nat → α
  | .nil, _ => d
  | .node l v r, n => bif n.beq 0 then v else bif (n % 2).beq 1 then l.get d (n / 2) else r.get d (n / 2 - 1)

def set (d : α) : Nat → Tr α → Nat → α → Tr α
  | 0, t, _, _ => t
  | k + 1, .nil, n, v => bif n.beq 0 then .node .nil v .nil else bif (n % 2).beq 1 then .node (set d k .nil (n / 2) v) d .nil else .node .nil d (set d k .nil (n / 2 - 1) v)
  | k + 1, .node l x r, n, v => bif n.beq 0 then .node l v r else bif (n % 2).beq 1 then .node (set d k l (n / 2) v) x r else .node l x (set d k r (n / 2 - 1) v)

theorem get_set (d : α) : ∀ (k : Nat) (t : Tr α) (n : Nat) (v : α) (j : Nat), n < 2 ^ k - 1 → (set d k t n v).get d j = if j = n then v else t.get d j := by
  intro k
  induction k with
  | zero => intro t n v j h; simp at h
  | succ k ih =>
    intro t n v j h
    have hp : 2 ^ (k + 1) = 2 * 2 ^ k := by rw [Nat.pow_succ, Nat.mul_comm]
    have hpos : 0 < 2 ^ k := Nat.two_pow_pos k
    have key : ∀ (l r : Tr α) (x : α),
        (bif n.beq 0 then Tr.node l v r else bif (n % 2).beq 1 then Tr.node (set d k l (n / 2) v) x r else Tr.node l x (set d k r (n / 2 - 1) v)).get d j
          = if j = n then v else (Tr.node l x r).get d j := by
      intro l r x
      by_cases h0 : n = 0
      · subst h0
        simp only [Nat.beq_refl, cond_true, get]
        by_cases hj : j = 0
        · subst hj; simp
        · have e1 : Nat.beq j 0 = false := beq_f hj
          simp [e1, hj]
      · have e0 : Nat.beq n 0 = false := beq_f h0
        rw [e0, cond_false]
        by_cases h1 : n % 2 = 1
        · have e1 : Nat.beq (n % 2) 1 = true := beq_t h1
          rw [e1, cond_true]
          simp only [get]
          by_cases hj : j = 0
          · subst hj
            have : ¬ (0 = n) := by omega
            simp [this]
          · have ej : Nat.beq j 0 = false := beq_f hj
            rw [ej, cond_false, cond_false]
            by_cases hj1 : j % 2 = 1
            · have ej1 : Nat.beq (j % 2) 1 = true := beq_t hj1
              rw [ej1, cond_true, cond_true, ih l (n / 2) v (j / 2) (by omega)]
              by_cases hjn : j = n
              · subst hjn; simp
              · have : ¬ (j / 2 = n / 2) := by omega
                simp [hjn, this]
            · have ej1 : Nat.beq (j % 2) 1 = false := beq_f hj1
              have hjn : ¬ (j = n) := by omega
              rw [ej1, cond_false, cond_false, if_neg hjn]
        · have e1 : Nat.beq (n % 2) 1 = false := beq_f h1
          rw [e1, cond_false]
          simp only [get]
          by_cases hj : j = 0
          · subst hj
            have : ¬ (0 = n) := by omega
            simp [this]
          · have ej : Nat.beq j 0 = false := beq_f hj
            rw [ej, cond_false, cond_false]
            by_cases hj1 : j % 2 = 1
            · have ej1 : Nat.beq (j % 2) 1 = true := beq_t hj1
              have hjn : ¬ (j = n) := by omega
              rw [ej1, cond_true, cond_true, if_neg hjn]
            · have ej1 : Nat.beq (j % 2) 1 = false := beq_f hj1
              rw [ej1, cond_false, cond_false, ih r (n / 2 - 1) v (j / 2 - 1) (by omega)]
              by_cases hjn : j = n
              · subst hjn; simp
              · have : ¬ (j / 2 - 1 = n / 2 - 1) := by omega
                simp [hjn, this]
    cases t with
    | node l x r => exact key l r x
    | nil =>
      have := key .nil .nil d
      simp only [set] at *
      rw [this]
      simp only [get]
      split
      · rfl
      · cases Nat.beq j 0 <;> simp
        
end Tr

/-! ## kinds of keys and values of maps -/
inductive Ty where
  | int (k : IntKind)
  | bool
  | str

abbrev Ty.den : Ty → Type
  | .int _ => Int
  | .bool => Bool
  | .str => ByteArray

def Ty.val : (t : Ty) → t.den → Value
  | .int k, n => .int k n
  | .bool, b => .bool b
  | .str, s => .string s

def Ty.eqb : (t : Ty) → t.den → t.den → Bool
  | .int _, a, b => @decide (a = b) (Int.instDecidableEq a b)
  | .bool, a, b => @BEq.beq Bool _ a b
  | .str, a, b => @BEq.beq (List UInt8) _ a.data.toList b.data.toList

def mEnt (kt vt : Ty) : Nat → List (kt.den × vt.den) → List MapEntry
  | _, [] => []
  | i, x :: l => ⟨kt.val x.1, vt.val x.2, i⟩ :: mEnt kt vt (i + 1) l

/-! ## pure data -/
inductive Dt where
  | cell (v : Value)
  | arr (sz n : Nat) (f : Nat → Nat → Dt)
  | mp (kt vt : Ty) (l : List (kt.den × vt.den))
  | ifc

def Rep (w : World) : Dt → Value → Prop
  | .cell x, v => v = x
  | .arr sz n f, v => ∃ A c, v = .slice A n c ∧ n ≤ c ∧ (0 < n → ∃ b off, A = some ⟨b, off, none⟩ ∧
      ∀ i, i < n → ∀ j, j < sz → ∃ u, w.cell? ⟨b, off + i * sz + j, none⟩ = some u ∧ u.oneCell' = true ∧ Rep w (f i j) u)
  | .mp kt vt l, v => ∃ b, v = .map (some b) ∧ w.heap[b]? = some (.map (mEnt kt vt 0 l).toArray l.length)
  | .ifc, v => ∃ t x, v = .iface t x

/-! ## worlds -/
structure Ag (W : Nat → Prop) (w w' : World) : Prop where
  os : w'.os = w.os
  tape : w'.tape = w.tape
  output : w'.output = w.output
  size : w.heap.size ≤ w'.heap.size
  block : ∀ k, k < w.heap.size → ¬ W k → w'.heap[k]? = w.heap[k]?

theorem Ag.refl (W : Nat → Prop) (w : World) : Ag W w w := ⟨rfl, rfl, rfl, Nat.le_refl _, fun _ _ _ => rfl⟩
theorem Ag.trans {W : Nat → Prop} {a b c : World} (h : Ag W a b) (k : Ag W b c) : Ag W a c :=
  ⟨k.os.trans h.os, k.tape.trans h.tape, k.output.trans h.output, Nat.le_trans h.size k.size,
    fun i hi hw => (k.block i (Nat.lt_of_lt_of_le hi h.size) hw).trans (h.block i hi hw)⟩
theorem Ag.mono {W W' : Nat → Prop} {a b : World} (h : Ag W a b) (hW : ∀ k, k < a.heap.size → W k → W' k) : Ag W' a b :=
  ⟨h.os, h.tape, h.output, h.size, fun i hi hw => h.block i hi (fun hk => hw (hW i hi hk))⟩

def Pers (W : Nat → Prop) (w : World) (φ : World → Prop) : Prop := ∀ w', Ag W w w' → φ w'

theorem Pers.here {W : Nat → Prop} {w : World} {φ : World → Prop} (h : Pers W w φ) : φ w := h w (Ag.refl W w)
theorem Pers.mono {W : Nat → Prop} {w : World} {φ ψ : World → Prop} (h : Pers W w φ) (hm : ∀ w', φ w' → ψ w') : Pers W w ψ := fun w' a => hm w' (h w' a)
/-- what W' may write behind w' counts: less than W, or new -/
theorem Pers.step {W W' : Nat → Prop} {w w' : World} {φ : World → Prop} (h : Pers W w φ) (ha : Ag W w w') (hW : ∀ k, k < w.heap.size → W' k → W k) : Pers W' w' φ := by
  intro w'' a
  exact h w'' ⟨a.os.trans ha.os, a.tape.trans ha.tape, a.output.trans ha.output, Nat.le_trans ha.size a.size,
    fun i hi hw => (a.block i (Nat.lt_of_lt_of_le hi ha.size) (fun hk => hw (hW i hi hk))).trans (ha.block i hi hw)⟩

theorem pers_not {W : Nat → Prop} {w : World} {a : Addr} {φ : World → Value → Prop} (h : Pers W w (fun w' => ∃ u, w'.cell? a = some u ∧ φ w' u)) : ¬ W a.block := by
  intro hW
  have hag : Ag W w { w with heap := w.heap.setIfInBounds a.block (.map #[] 0) } := by
    refine ⟨rfl, rfl, rfl, by simp, fun k hk hn => ?_⟩
    have : a.block ≠ k := fun e => hn (e ▸ hW)
    simp [Array.getElem?_setIfInBounds_ne this]
  obtain ⟨u, hu, _⟩ := h.here
  obtain ⟨u', hu', _⟩ := h _ hag
  have hlt : a.block < w.heap.size := World.block_lt_of_cell? _ _ hu
  simp [World.cell?, Array.getElem?_setIfInBounds, hlt] at hu'

/-- what a cell holds for good is one value -/
theorem pers_cell {W : Nat → Prop} {w : World} {a : Addr} {φ : World → Value → Prop} (h : Pers W w (fun w' => ∃ u, w'.cell? a = some u ∧ φ w' u)) :
    ∃ u, Pers W w (fun w' => w'.cell? a = some u ∧ φ w' u) := by
  obtain ⟨u, hu, _⟩ := h.here
  have hlt : a.block < w.heap.size := World.block_lt_of_cell? _ _ hu
  have hn := pers_not h
  refine ⟨u, fun w' ha => ?_⟩
  obtain ⟨u', hu', hφ⟩ := h w' ha
  have hs : w'.cell? a = w.cell? a := World.cell?_of_block (ha.block a.block hlt hn)
  rw [hs, hu] at hu'
  injection hu' with hu'
  subst hu'
  exact ⟨by rw [hs, hu], hφ⟩

/-! ## symbolic values -/
inductive SV where
  | junk
  | dt (d : Dt)
  | agg (l : List SV)
  | tup (l : List SV)
  | ptr (i off : Nat)
  | el (m : Nat) (g : Nat → Dt)
  | fn (f : Nat) (caps : List SV)
  | kb (b : Bool)
  | ki (k : IntKind) (n : Int)
  | nm (i : Nat)
  | rp (i idx sz off : Nat)

instance : Inhabited SV := ⟨.junk⟩

/-- the names of the objects that are tracked (a pointer to the block's start, a slice, a map); the blocks that are ours; the blocks that others may write -/
structure Ctx where
  ν : Nat → Option Value
  ρ : Nat → Option Nat
  W0 : Nat → Prop

def Ctx.W (C : Ctx) (b : Nat) : Prop := C.W0 b ∨ ∃ i, C.ρ i = some b

mutual
def rel (C : Ctx) (w : World) : SV → Value → Prop
  | .junk, _ => True
  | .dt d, v => Pers C.W w (fun w' => Rep w' d v)
  | .agg l, v => ∃ vs : List Value, v = .agg vs.toArray ∧ relL C w l vs
  | .tup l, v => ∃ vs : List Value, v = .tuple vs.toArray ∧ relL C w l vs
  | .ptr i off, v => ∃ b, C.ν i = some (.pointer (some ⟨b, 0, none⟩)) ∧ v = .pointer (some ⟨b, off, none⟩)
  | .el m g, v => ∃ b off, v = .pointer (some ⟨b, off, none⟩) ∧ Pers C.W w (fun w' => ∀ j, j < m → ∃ u, w'.cell? ⟨b, off + j, none⟩ = some u ∧ Rep w' (g j) u)
  | .fn f caps, v => ∃ vs : List Value, v = .func (.func f) #[] vs.toArray ∧ relL C w caps vs
  | .kb b, v => v = .bool b
  | .ki k n, v => v = .int k n
  | .nm i, v => C.ν i = some v ∧ v.oneCell' = true
  | .rp i idx sz off, v => ∃ b n c, C.ν i = some (.slice (some ⟨b, 0, none⟩) n c) ∧ v = .pointer (some ⟨b, idx * sz + off, none⟩)
def relL (C : Ctx) (w : World) : List SV → List Value → Prop
  | [], vs => vs = []
  | s :: l, vs => ∃ v r, vs = v :: r ∧ rel C w s v ∧ relL C w l r
end

/-! ## tracked objects -/
inductive Ob where
  | cells (t : TypeId) (cs : List SV)
  | row (t : TypeId) (sz n : Nat) (f : Nat → Nat → Dt)
  | frz (d : Dt)
  | mp (kt vt : Ty) (l : List (kt.den × vt.den))
  | it (m n : Nat) (seen : List Nat)

def obHolds (C : Ctx) (w : World) (i : Nat) : Ob → Prop
  | .cells t cs => ∃ b, C.ρ i = some b ∧ C.ν i = some (.pointer (some ⟨b, 0, none⟩)) ∧ ∃ vs : List Value, w.heap[b]? = some (.cells vs.toArray t (0, 0)) ∧ relL C w cs vs
  | .row t sz n f => ∃ A c, C.ν i = some (.slice A n c) ∧ ((A = none ∧ n = 0 ∧ c = 0) ∨ ∃ b, C.ρ i = some b ∧ A = some ⟨b, 0, none⟩ ∧ n ≤ c ∧ ∃ cur : Array Value,
      w.heap[b]? = some (.cells cur t (0, 0)) ∧ cur.size = c * sz ∧ ∀ k j, k < n → j < sz → ∃ u, cur[k * sz + j]? = some u ∧ u.oneCell' = true ∧ Pers C.W w (fun w' => Rep w' (f k j) u))
  | .frz d => ∃ v, C.ν i = some v ∧ Pers C.W w (fun w' => Rep w' d v)
  | .mp kt vt l => ∃ b, C.ρ i = some b ∧ C.ν i = some (.map (some b)) ∧ w.heap[b]? = some (.map (mEnt kt vt 0 l).toArray l.length)
  | .it m n seen => ∃ b bm, C.ρ i = some b ∧ C.ν i = some (.pointer (some ⟨b, 0, none⟩)) ∧ C.ν m = some (.map (some bm)) ∧ w.heap[b]? = some (.mapIter (some bm) n seen.reverse.toArray n)

/-- what holds of the program's own variables as long as nobody writes them -/
class Glob where
  ok : World → Prop
variable [Glob]

/-- well formed: blocks that are there, each object its own; the program's own variables as they are -/
structure WF (C : Ctx) (w : World) : Prop where
  lt : ∀ i b, C.ρ i = some b → b < w.heap.size
  inj : ∀ i j b, C.ρ i = some b → C.ρ j = some b → i = j
  w0 : ∀ b, C.W0 b → b < w.heap.size
  own : ∀ i b, C.ρ i = some b → ∃ v, C.ν i = some v
  dis : ∀ i b, C.ρ i = some b → ¬ C.W0 b
  gl : Pers C.W w Glob.ok

/-- a step: objects of X may have turned, or gone; new ones may be there -/
structure Step (X : Nat → Prop) (C : Ctx) (w : World) (C' : Ctx) (w' : World) : Prop where
  ext : ∀ i v, C.ν i = some v → C'.ν i = some v
  w0 : C'.W0 = C.W0
  own : ∀ j b, C'.ρ j = some b → (∃ i, C.ρ i = some b) ∨ w.heap.size ≤ b
  keep : ∀ i b, ¬ X i → C.ρ i = some b → C'.ρ i = some b
  ag : Ag (fun b => ∃ i, X i ∧ C.ρ i = some b) w w'

theorem Step.agW {X : Nat → Prop} {C C' : Ctx} {w w' : World} (h : Step X C w C' w') : Ag C.W w w' :=
  h.ag.mono fun k _ hk => by obtain ⟨i, _, hi⟩ := hk; exact .inr ⟨i, hi⟩

theorem Step.wsub {X : Nat → Prop} {C C' : Ctx} {w w' : World} (h : Step X C w C' w') : ∀ k, k < w.heap.size → C'.W k → C.W k := by
  intro k hk hw
  rcases hw with hw | ⟨i, hi⟩
  · exact .inl (by rw [← h.w0]; exact hw)
  · rcases h.own i k hi with h1 | h1
    · exact .inr h1
    · omega

theorem Pers.stepC {X : Nat → Prop} {C C' : Ctx} {w w' : World} {φ : World → Prop} (h : Step X C w C' w') (p : Pers C.W w φ) : Pers C'.W w' φ :=
  p.step h.agW h.wsub

mutual
theorem rel_step {X : Nat → Prop} {C C' : Ctx} {w w' : World} (h : Step X C w C' w') : ∀ (s : SV) (v : Value), rel C w s v → rel C' w' s v
  | .junk, _, _ => trivial
  | .dt _, _, r => Pers.stepC h r
  | .agg l, _, ⟨vs, e, r⟩ => ⟨vs, e, relL_step h l vs r⟩
  | .tup l, _, ⟨vs, e, r⟩ => ⟨vs, e, relL_step h l vs r⟩
  | .ptr _ _, _, ⟨b, hb, e⟩ => ⟨b, h.ext _ _ hb, e⟩
  | .el _ _, _, ⟨b, off, e, p⟩ => ⟨b, off, e, Pers.stepC h p⟩
  | .fn _ caps, _, ⟨vs, e, r⟩ => ⟨vs, e, relL_step h caps vs r⟩
  | .kb _, _, r => r
  | .ki _ _, _, r => r
  | .nm i, v, r => ⟨h.ext i v r.1, r.2⟩
  | .rp _ _ _ _, _, ⟨b, n, c, hb, e⟩ => ⟨b, n, c, h.ext _ _ hb, e⟩
theorem relL_step {X : Nat → Prop} {C C' : Ctx} {w w' : World} (h : Step X C w C' w') : ∀ (l : List SV) (vs : List Value), relL C w l vs → relL C' w' l vs
  | [], _, r => r
  | s :: l, _, ⟨v, r, e, h1, h2⟩ => ⟨v, r, e, rel_step h s v h1, relL_step h l r h2⟩
end

theorem block_step {X : Nat → Prop} {C C' : Ctx} {w w' : World} (hw : WF C w) (h : Step X C w C' w') {i b : Nat} (hi : C.ρ i = some b) (hx : ¬ X i) : w'.heap[b]? = w.heap[b]? := by
  refine h.ag.block b (hw.lt i b hi) ?_
  rintro ⟨j, hj, hjb⟩
  exact hx (hw.inj j i b hjb hi ▸ hj)

theorem ob_step {X : Nat → Prop} {C C' : Ctx} {w w' : World} (hw : WF C w) (h : Step X C w C' w') {i : Nat} (hx : ¬ X i) (ob : Ob)
    (ho : obHolds C w i ob) : obHolds C' w' i ob := by
  cases ob with
  | cells t cs =>
    obtain ⟨b, hb, hν, vs, hh, hr⟩ := ho
    exact ⟨b, h.keep i b hx hb, h.ext _ _ hν, vs, by rw [block_step hw h hb hx]; exact hh, relL_step h cs vs hr⟩
  | row t sz n f =>
    obtain ⟨A, c, hν, hr⟩ := ho
    refine ⟨A, c, h.ext _ _ hν, ?_⟩
    rcases hr with hr | ⟨b, hb, hA, hnc, cur, hh, hs, hc⟩
    · exact .inl hr
    · refine .inr ⟨b, h.keep i b hx hb, hA, hnc, cur, by rw [block_step hw h hb hx]; exact hh, hs, fun k j hk hj => ?_⟩
      obtain ⟨u, h1, h2⟩ := hc k j hk hj
      exact ⟨u, h1, h2.1, Pers.stepC h h2.2⟩
  | frz d =>
    obtain ⟨v, hν, hp⟩ := ho
    exact ⟨v, h.ext _ _ hν, Pers.stepC h hp⟩
  | mp kt vt l =>
    obtain ⟨b, hb, hν, hh⟩ := ho
    exact ⟨b, h.keep i b hx hb, h.ext _ _ hν, by rw [block_step hw h hb hx]; exact hh⟩
  | it m n seen =>
    obtain ⟨b, bm, hb, hν, hm, hh⟩ := ho
    exact ⟨b, bm, h.keep i b hx hb, h.ext _ _ hν, h.ext _ _ hm, by rw [block_step hw h hb hx]; exact hh⟩

theorem Step.refl {X : Nat → Prop} (C : Ctx) (w : World) : Step X C w C w :=
  ⟨fun _ _ h => h, rfl, fun j _ h => .inl ⟨j, h⟩, fun _ _ _ h => h, Ag.refl _ w⟩

theorem Step.mono {X Y : Nat → Prop} {C C' : Ctx} {w w' : World} (h : Step X C w C' w') (hXY : ∀ i, X i → Y i) : Step Y C w C' w' :=
  ⟨h.ext, h.w0, h.own, fun i b hi => h.keep i b (fun hx => hi (hXY i hx)), h.ag.mono fun _ _ ⟨i, hi, hb⟩ => ⟨i, hXY i hi, hb⟩⟩

theorem Step.trans {X : Nat → Prop} {C C' C'' : Ctx} {w w' w'' : World} (hw : WF C' w') (h : Step X C w C' w') (k : Step X C' w' C'' w'') : Step X C w C'' w'' := by
  refine ⟨fun i v hi => k.ext i v (h.ext i v hi), k.w0.trans h.w0, fun j b hj => ?_, fun i b hx hi => k.keep i b hx (h.keep i b hx hi), ?_⟩
  · rcases k.own j b hj with ⟨i, hi⟩ | h1
    · exact h.own i b hi
    · exact .inr (Nat.le_trans h.ag.size h1)
  · refine ⟨k.ag.os.trans h.ag.os, k.ag.tape.trans h.ag.tape, k.ag.output.trans h.ag.output, Nat.le_trans h.ag.size k.ag.size, fun b hb hx => ?_⟩
    refine (k.ag.block b (Nat.lt_of_lt_of_le hb h.ag.size) ?_).trans (h.ag.block b hb hx)
    rintro ⟨i, hi, hib⟩
    rcases h.own i b hib with ⟨i', hi'⟩ | h1
    · apply hx
      refine ⟨i', ?_, hi'⟩
      by_cases hxi : X i'
      · exact hxi
      · have := h.keep i' b hxi hi'
        rw [hw.inj i' i b this hib]
        exact hi
    · omega
end Rx
