/- Rx, part A: decision trees, slots, pure data, symbolic values and what they stand for. -/
import Derived.WalkKit
import Derived.Orders
import Derived.MapKept
set_option linter.unusedSectionVars false
set_option linter.unusedSimpArgs false
set_option linter.unusedVariables false
namespace Rx
open Go
universe u v
inductive T (α : Type u) : Type u where
 | ret (a : α)
 | ite (b : Bool) (t e : T α)
 | need (p : Prop) (t : T α)
 | both (t e : T α)
 | all (n : Nat) (f : Nat -> T α)
 | fail
namespace T
variable {α : Type u} {β : Type v}
def bind : T α -> (α -> T β) -> T β
 | .ret a, f => f a
 | .ite b t e, f => .ite b (t.bind f) (e.bind f)
 | .need p t, f => .need p (t.bind f)
 | .both t e, f => .both (t.bind f) (e.bind f)
 | .all n g, f => .all n fun i => (g i).bind f
 | .fail, _ => .fail
def holds (post : α -> Prop) : T α -> Prop
 | .ret a => post a
 | .ite b t e => (b = true -> t.holds post) /\ (b = false -> e.holds post)
 | .need p t => p /\ t.holds post
 | .both t e => t.holds post /\ e.holds post
 | .all n f => ∀ i, i < n -> (f i).holds post
 | .fail => False
def val : T α -> Option α
 | .ret a => some a
 | .ite b t e => if b = true then t.val else e.val
 | .need _ t => t.val
 | _ => none
def ok : T α -> Prop
 | .ret _ => True
 | .ite b t e => if b = true then t.ok else e.ok
 | .need p t => p /\ t.ok
 | _ => False
def det : T α -> Bool
 | .ret _ => true
 | .ite _ t e => t.det && e.det
 | .need _ t => t.det
 | .fail => true
 | _ => false
theorem bC {post : α -> Prop} : ∀ t : T α, t.det = true -> (t.holds post ↔ t.ok /\ ∃ a, t.val = some a /\ post a)
 | .ret a, _ => by simp [holds, ok, val]
 | .ite b t e, h => by
   simp only [det, Bool.and_eq_true] at h
   have h1 := bC (post := post) t h.1
   have h2 := bC (post := post) e h.2
   cases b <;> simp [holds, ok, val, h1, h2]
 | .need p t, h => by
   have h1 := bC (post := post) t h
   simp only [holds, ok, val, h1, and_assoc]
 | .fail, _ => by simp [holds, ok]
 | .both _ _, h => by simp [det] at h
 | .all _ _, h => by simp [det] at h
theorem holds_of {post : α -> Prop} {a : α} (hp : post a) : ∀ t : T α, t.ok -> t.val = some a -> t.holds post
 | .ret b, _, hv => by simp only [val, Option.some.injEq] at hv; subst hv; exact hp
 | .ite b t e, h, hv => by
   cases b
   · exact ⟨fun h => (by cases h), fun _ => holds_of hp e h hv⟩
   · exact ⟨fun _ => holds_of hp t h hv, fun h => (by cases h)⟩
 | .need p t, h, hv => ⟨h.1, holds_of hp t h.2 hv⟩
 | .both _ _, h, _ => h.elim
 | .all _ _, h, _ => h.elim
 | .fail, h, _ => h.elim
theorem ak {post : β -> Prop} : ∀ (t : T α) (f : α -> T β), (t.bind f).holds post ↔ t.holds (fun a => (f a).holds post)
 | .ret a, f => Iff.rfl
 | .ite b t e, f => by simp only [bind, holds, ak t f, ak e f]
 | .need p t, f => by simp only [bind, holds, ak t f]
 | .both t e, f => by simp only [bind, holds, ak t f, ak e f]
 | .all n g, f => by simp only [bind, holds]; exact forall_congr' fun i => imp_congr_right fun _ => ak (g i) f
 | .fail, f => Iff.rfl
theorem aD {p q : α -> Prop} (h : ∀ a, p a -> q a) : ∀ t : T α, t.holds p -> t.holds q
 | .ret a, H => h a H
 | .ite _ t e, H => ⟨fun hb => aD h t (H.1 hb), fun hb => aD h e (H.2 hb)⟩
 | .need _ t, H => ⟨H.1, aD h t H.2⟩
 | .both t e, H => ⟨aD h t H.1, aD h e H.2⟩
 | .all _ f, H => fun i hi => aD h (f i) (H i hi)
 | .fail, H => H
theorem bind_ok {α : Type} {β : Type} : ∀ {t : T α} {f : α -> T β}, (t.bind f).ok -> t.ok /\ ∀ a, t.val = some a -> (f a).ok
 | .ret a, f, h => ⟨trivial, fun b hb => by simp only [T.val, Option.some.injEq] at hb; subst hb; exact h⟩
 | .ite b t e, f, h => by
   cases b
   · exact bind_ok (t := e) h
   · exact bind_ok (t := t) h
 | .need p t, f, h => ⟨⟨h.1, (bind_ok (t := t) h.2).1⟩, (bind_ok (t := t) h.2).2⟩
 | .both _ _, f, h => h.elim
 | .all _ _, f, h => h.elim
 | .fail, f, h => h.elim
theorem bM {α : Type} {β : Type} : ∀ {t : T α} {f : α -> T β} {b : β}, (t.bind f).val = some b -> ∃ a, t.val = some a /\ (f a).val = some b
 | .ret a, f, b, h => ⟨a, rfl, h⟩
 | .ite q t e, f, b, h => by
   cases q
   · exact bM (t := e) h
   · exact bM (t := t) h
 | .need p t, f, b, h => bM (t := t) h
 | .both _ _, f, b, h => by cases h
 | .all _ _, f, b, h => by cases h
 | .fail, f, b, h => by cases h
end T
inductive Tr (α : Type u) : Type u where
 | nil
 | node (l : Tr α) (v : α) (r : Tr α)
theorem eU {a b : Nat} (h : ¬ a = b) : Nat.beq a b = false := by
 cases e : Nat.beq a b
 · rfl
 · exact absurd (Nat.eq_of_beq_eq_true e) h
theorem nW {a b : Nat} (h : a = b) : Nat.beq a b = true := by subst h; exact Nat.beq_refl _
namespace Tr
variable {α : Type u}
def get (d : α) : Tr α -> Nat -> α
 | .nil, _ => d
 | .node l v r, n => bif n.beq 0 then v else bif (n % 2).beq 1 then l.get d (n / 2) else r.get d (n / 2 - 1)
def set (d : α) : Nat -> Tr α -> Nat -> α -> Tr α
 | 0, t, _, _ => t
 | k + 1, .nil, n, v => bif n.beq 0 then .node .nil v .nil else bif (n % 2).beq 1 then .node (set d k .nil (n / 2) v) d .nil else .node .nil d (set d k .nil (n / 2 - 1) v)
 | k + 1, .node l x r, n, v => bif n.beq 0 then .node l v r else bif (n % 2).beq 1 then .node (set d k l (n / 2) v) x r else .node l x (set d k r (n / 2 - 1) v)
theorem qw (d : α) : ∀ (k : Nat) (t : Tr α) (n : Nat) (v : α) (j : Nat), n < 2 ^ k - 1 -> (set d k t n v).get d j = if j = n then v else t.get d j := by
 intro k
 induction k with
 | zero => intro t n v j h; simp at h
 | succ k ih =>
   intro t n v j h
   have hp : 2 ^ (k + 1) = 2 * 2 ^ k := by rw [Nat.pow_succ, Nat.mul_comm]
   have hpos : 0 < 2 ^ k := Nat.two_pow_pos k
   have key : ∀ (l r : Tr α) (x : α),
        (bif n.beq 0 then Tr.node l v r else bif (n % 2).beq 1 then Tr.node (set d k l (n / 2) v) x r else Tr.node l x (set d k r (n / 2 - 1) v)).get d j
         = if j = n then v else (Tr.node l x r).get d j := by
    intro l r x
    by_cases h0 : n = 0
    · subst h0
      simp only [Nat.beq_refl, cond_true, get]
      by_cases hj : j = 0
      · subst hj; simp
      · have e1 : Nat.beq j 0 = false := eU hj
        simp [e1, hj]
    · have e0 : Nat.beq n 0 = false := eU h0
      rw [e0, cond_false]
      by_cases h1 : n % 2 = 1
      · have e1 : Nat.beq (n % 2) 1 = true := nW h1
        rw [e1, cond_true]
        simp only [get]
        by_cases hj : j = 0
        · subst hj
          have : ¬ (0 = n) := by omega
          simp [this]
        · have ej : Nat.beq j 0 = false := eU hj
          rw [ej, cond_false, cond_false]
          by_cases hj1 : j % 2 = 1
          · have ej1 : Nat.beq (j % 2) 1 = true := nW hj1
            rw [ej1, cond_true, cond_true, ih l (n / 2) v (j / 2) (by omega)]
            by_cases hjn : j = n
            · subst hjn; simp
            · have : ¬ (j / 2 = n / 2) := by omega
              simp [hjn, this]
          · have ej1 : Nat.beq (j % 2) 1 = false := eU hj1
            have hjn : ¬ (j = n) := by omega
            rw [ej1, cond_false, cond_false, if_neg hjn]
      · have e1 : Nat.beq (n % 2) 1 = false := eU h1
        rw [e1, cond_false]
        simp only [get]
        by_cases hj : j = 0
        · subst hj
          have : ¬ (0 = n) := by omega
          simp [this]
        · have ej : Nat.beq j 0 = false := eU hj
          rw [ej, cond_false, cond_false]
          by_cases hj1 : j % 2 = 1
          · have ej1 : Nat.beq (j % 2) 1 = true := nW hj1
            have hjn : ¬ (j = n) := by omega
            rw [ej1, cond_true, cond_true, if_neg hjn]
          · have ej1 : Nat.beq (j % 2) 1 = false := eU hj1
            rw [ej1, cond_false, cond_false, ih r (n / 2 - 1) v (j / 2 - 1) (by omega)]
            by_cases hjn : j = n
            · subst hjn; simp
            · have : ¬ (j / 2 - 1 = n / 2 - 1) := by omega
              simp [hjn, this]
   cases t with
   | node l x r => exact key l r x
   | nil =>
     have := key .nil .nil d
     simp only [set] at *
     rw [this]
     simp only [get]
     split
     · rfl
     · cases Nat.beq j 0 <;> simp
end Tr
inductive Ty where
 | int (k : IntKind)
 | bool
 | str
abbrev Ty.den : Ty -> Type
 | .int _ => Int
 | .bool => Bool
 | .str => ByteArray
def Ty.val : (t : Ty) -> t.den -> Value
 | .int k, n => .int k n
 | .bool, b => .bool b
 | .str, s => .string s
def Ty.eqb : (t : Ty) -> t.den -> t.den -> Bool
 | .int _, a, b => @decide (a = b) (Int.instDecidableEq a b)
 | .bool, a, b => @BEq.beq Bool _ a b
 | .str, a, b => @BEq.beq (List UInt8) _ a.data.toList b.data.toList
def gQ (kt vt : Ty) : Nat -> List (kt.den × vt.den) -> List MapEntry
 | _, [] => []
 | i, x :: l => ⟨kt.val x.1, vt.val x.2, i⟩ :: gQ kt vt (i + 1) l
def kQ {V : Type} (kt : Ty) : List (kt.den × V) -> kt.den -> Option V
 | [], _ => none
 | x :: l, k => bif kt.eqb k x.1 then some x.2 else kQ kt l k
def Ty.desc : Ty -> TypeDesc
 | .int k => .int k
 | .bool => .bool
 | .str => .string
def Vu (kt vt : Ty) (l : List (kt.den × vt.den)) (es : List MapEntry) : Prop :=
 ∀ d : kt.den, ∃ a, Instr.findNow kt.desc (kt.val d) es 0 = some a /\ a.map (·.2) = (kQ kt l d).map vt.val
inductive Dt where
 | cell (v : Value)
 | arr (sz n : Nat) (f : Nat -> Nat -> Dt)
 | mp (kt vt : Ty) (l : List (kt.den × vt.den))
 | ifc
 | ri (k : IntKind) (a b n : Int)
def Rep (w : World) : Dt -> Value -> Prop
 | .cell x, v => v = x
 | .arr sz n f, v => ∃ A c, v = .slice A n c /\ n <= c /\ (0 < n -> ∃ b off, A = some ⟨b, off, none⟩ /\
   ∀ i, i < n -> ∀ j, j < sz -> ∃ u, w.cell? ⟨b, off + i * sz + j, none⟩ = some u /\ u.oneCell' = true /\ Rep w (f i j) u)
 | .mp kt vt l, v => ∃ b es c, v = .map (some b) /\ w.heap[b]? = some (.map es c) /\ (∀ x ∈ es.toList, MapKept.IsKey kt.desc x.key) /\ Vu kt vt l es.toList
 | .ifc, v => ∃ t x, v = .iface t x
 | .ri k a b n, v => v = .int k n /\ a <= n /\ n <= b
structure Ag (W : Nat -> Prop) (w w' : World) : Prop where
 os : w'.os = w.os
 tape : w'.tape = w.tape
 output : w'.output = w.output
 size : w.heap.size <= w'.heap.size
 block : ∀ k, k < w.heap.size -> ¬ W k -> w'.heap[k]? = w.heap[k]?
theorem Ag.refl (W : Nat -> Prop) (w : World) : Ag W w w := ⟨rfl, rfl, rfl, Nat.le_refl _, fun _ _ _ => rfl⟩
theorem Ag.trans {W : Nat -> Prop} {a b c : World} (h : Ag W a b) (k : Ag W b c) : Ag W a c :=
 ⟨k.os.trans h.os, k.tape.trans h.tape, k.output.trans h.output, Nat.le_trans h.size k.size,
  fun i hi hw => (k.block i (Nat.lt_of_lt_of_le hi h.size) hw).trans (h.block i hi hw)⟩
theorem Ag.mono {W W' : Nat -> Prop} {a b : World} (h : Ag W a b) (hW : ∀ k, k < a.heap.size -> W k -> W' k) : Ag W' a b :=
 ⟨h.os, h.tape, h.output, h.size, fun i hi hw => h.block i hi (fun hk => hw (hW i hi hk))⟩
def Pers (W : Nat -> Prop) (w : World) (φ : World -> Prop) : Prop := ∀ w', Ag W w w' -> φ w'
theorem Pers.here {W : Nat -> Prop} {w : World} {φ : World -> Prop} (h : Pers W w φ) : φ w := h w (Ag.refl W w)
theorem Pers.mono {W : Nat -> Prop} {w : World} {φ ψ : World -> Prop} (h : Pers W w φ) (hm : ∀ w', φ w' -> ψ w') : Pers W w ψ := fun w' a => hm w' (h w' a)
theorem Pers.step {W W' : Nat -> Prop} {w w' : World} {φ : World -> Prop} (h : Pers W w φ) (ha : Ag W w w') (hW : ∀ k, k < w.heap.size -> W' k -> W k) : Pers W' w' φ := by
 intro w'' a
 exact h w'' ⟨a.os.trans ha.os, a.tape.trans ha.tape, a.output.trans ha.output, Nat.le_trans ha.size a.size,
  fun i hi hw => (a.block i (Nat.lt_of_lt_of_le hi ha.size) (fun hk => hw (hW i hi hk))).trans (ha.block i hi hw)⟩
theorem Ta {W : Nat -> Prop} {w : World} {a : Addr} {φ : World -> Value -> Prop} (h : Pers W w (fun w' => ∃ u, w'.cell? a = some u /\ φ w' u)) : ¬ W a.block := by
 intro hW
 have hag : Ag W w { w with heap := w.heap.setIfInBounds a.block (.map #[] 0) } := by
  refine ⟨rfl, rfl, rfl, by simp, fun k hk hn => ?_⟩
  have : a.block ≠ k := fun e => hn (e ▸ hW)
  simp [Array.getElem?_setIfInBounds_ne this]
 obtain ⟨u, hu, _⟩ := h.here
 obtain ⟨u', hu', _⟩ := h _ hag
 have hlt : a.block < w.heap.size := World.block_lt_of_cell? _ _ hu
 simp [World.cell?, Array.getElem?_setIfInBounds, hlt] at hu'
theorem Eu {W : Nat -> Prop} {w : World} {a : Addr} {φ : World -> Value -> Prop} (h : Pers W w (fun w' => ∃ u, w'.cell? a = some u /\ φ w' u)) :
  ∃ u, Pers W w (fun w' => w'.cell? a = some u /\ φ w' u) := by
 obtain ⟨u, hu, _⟩ := h.here
 have hlt : a.block < w.heap.size := World.block_lt_of_cell? _ _ hu
 have hn := Ta h
 refine ⟨u, fun w' ha => ?_⟩
 obtain ⟨u', hu', hφ⟩ := h w' ha
 have hs : w'.cell? a = w.cell? a := World.cell?_of_block (ha.block a.block hlt hn)
 rw [hs, hu] at hu'
 injection hu' with hu'
 subst hu'
 exact ⟨by rw [hs, hu], hφ⟩
inductive SV where
 | junk
 | dt (d : Dt)
 | agg (l : List SV)
 | tup (l : List SV)
 | ptr (i off : Nat)
 | el (m : Nat) (g : Nat -> Dt)
 | fn (f : Nat) (caps : List SV)
 | kb (b : Bool)
 | ki (k : IntKind) (n : Int)
 | nm (i : Nat)
 | rp (i idx sz off : Nat)
 | ri (k : IntKind) (a b n : Int)
 | sl (i sz o n : Nat) (c : Option Nat)
 | sy (s : ByteArray)
instance : Inhabited SV := ⟨.junk⟩
structure Ctx where
 ν : Nat -> Option Value
 ρ : Nat -> Option Nat
 W0 : Nat -> Prop
def Ctx.W (C : Ctx) (b : Nat) : Prop := C.W0 b ∨ ∃ i, C.ρ i = some b
mutual
def rel (C : Ctx) (w : World) : SV -> Value -> Prop
 | .junk, _ => True
 | .dt d, v => Pers C.W w (fun w' => Rep w' d v)
 | .agg l, v => ∃ vs : List Value, v = .agg vs.toArray /\ relL C w l vs
 | .tup l, v => ∃ vs : List Value, v = .tuple vs.toArray /\ relL C w l vs
 | .ptr i off, v => ∃ b, C.ν i = some (.pointer (some ⟨b, 0, none⟩)) /\ v = .pointer (some ⟨b, off, none⟩)
 | .el m g, v => ∃ b off, v = .pointer (some ⟨b, off, none⟩) /\ Pers C.W w (fun w' => ∀ j, j < m -> ∃ u, w'.cell? ⟨b, off + j, none⟩ = some u /\ Rep w' (g j) u)
 | .fn f caps, v => ∃ vs : List Value, v = .func (.func f) #[] vs.toArray /\ relL C w caps vs
 | .kb b, v => v = .bool b
 | .sy s, v => v = .string s
 | .ki k n, v => v = .int k n
 | .nm i, v => C.ν i = some v /\ v.oneCell' = true
 | .rp i idx sz off, v => ∃ b n c, C.ν i = some (.slice (some ⟨b, 0, none⟩) n c) /\ v = .pointer (some ⟨b, idx * sz + off, none⟩)
 | .ri k a b n, v => v = .int k n /\ a <= n /\ n <= b
 | .sl i sz o n c, v => ∃ b m cc x, C.ν i = some (.slice (some ⟨b, 0, none⟩) m m) /\ v = .slice (some ⟨b, x, none⟩) n cc /\ (cc = 0 ∨ x = o * sz) /\ n <= cc /\ o + cc <= m /\ (∀ k, c = some k -> cc = k) /\ (c = none -> o + cc = m)
def relL (C : Ctx) (w : World) : List SV -> List Value -> Prop
 | [], vs => vs = []
 | s :: l, vs => ∃ v r, vs = v :: r /\ rel C w s v /\ relL C w l r
end
inductive Ob where
 | cells (t : TypeId) (cs : List SV)
 | row (t : TypeId) (sz n : Nat) (f : Nat -> Nat -> Dt)
 | frz (d : Dt)
 | mp (kt vt : Ty) (l : List (kt.den × vt.den))
 | it (m n : Nat) (seen : List Nat)
 | vec (t : TypeId) (sz len : Nat) (tr : Tr SV) (ex : Bool)
 | itx (m n : Nat) (cur : Option Nat)
def obHolds (C : Ctx) (w : World) (i : Nat) : Ob -> Prop
 | .cells t cs => ∃ b, C.ρ i = some b /\ C.ν i = some (.pointer (some ⟨b, 0, none⟩)) /\ ∃ vs : List Value, w.heap[b]? = some (.cells vs.toArray t (0, 0)) /\ relL C w cs vs
 | .row t sz n f => ∃ A c, C.ν i = some (.slice A n c) /\ ((A = none /\ n = 0 /\ c = 0) ∨ ∃ b, C.ρ i = some b /\ A = some ⟨b, 0, none⟩ /\ n <= c /\ ∃ cur : Array Value,
   w.heap[b]? = some (.cells cur t (0, 0)) /\ cur.size = c * sz /\ ∀ k j, k < n -> j < sz -> ∃ u, cur[k * sz + j]? = some u /\ u.oneCell' = true /\ Pers C.W w (fun w' => Rep w' (f k j) u))
 | .frz d => ∃ v, C.ν i = some v /\ Pers C.W w (fun w' => Rep w' d v)
 | .mp kt vt l => ∃ b, C.ρ i = some b /\ C.ν i = some (.map (some b)) /\ w.heap[b]? = some (.map (gQ kt vt 0 l).toArray l.length)
 | .it m n seen => ∃ b bm, C.ρ i = some b /\ C.ν i = some (.pointer (some ⟨b, 0, none⟩)) /\ C.ν m = some (.map (some bm)) /\ w.heap[b]? = some (.mapIter (some bm) n seen.reverse.toArray n)
 | .vec t sz len tr ex => ∃ b m, C.ρ i = some b /\ C.ν i = some (.slice (some ⟨b, 0, none⟩) m m) /\ len <= m /\ (ex = true -> len = m) /\ ∃ cur : Array Value,
   w.heap[b]? = some (.cells cur t (0, 0)) /\ cur.size = m * sz /\ ∀ k, k < len * sz -> ∃ u, cur[k]? = some u /\ u.oneCell' = true /\ rel C w (tr.get .junk k) u
 | .itx m n cur => ∃ seen : List Nat, (∀ k, cur = some k -> ∃ r, seen = k :: r) /\ ∃ b bm, C.ρ i = some b /\ C.ν i = some (.pointer (some ⟨b, 0, none⟩)) /\ C.ν m = some (.map (some bm)) /\ w.heap[b]? = some (.mapIter (some bm) n seen.reverse.toArray n)
class Glob where
 ok : World -> Prop
 val : Nat -> Option (Nat × (Nat -> Dt))
 holds : ∀ w, ok w -> ∀ g m f, val g = some (m, f) -> ∀ j, j < m -> ∃ u, w.cell? ⟨g, j, none⟩ = some u /\ Rep w (f j) u
variable [Glob]
structure WF (C : Ctx) (w : World) : Prop where
 lt : ∀ i b, C.ρ i = some b -> b < w.heap.size
 inj : ∀ i j b, C.ρ i = some b -> C.ρ j = some b -> i = j
 w0 : ∀ b, C.W0 b -> b < w.heap.size
 own : ∀ i b, C.ρ i = some b -> ∃ v, C.ν i = some v
 dis : ∀ i b, C.ρ i = some b -> ¬ C.W0 b
 gl : Pers C.W w Glob.ok
structure Step (X : Nat -> Prop) (C : Ctx) (w : World) (C' : Ctx) (w' : World) : Prop where
 ext : ∀ i v, C.ν i = some v -> C'.ν i = some v
 w0 : C'.W0 = C.W0
 own : ∀ j b, C'.ρ j = some b -> (∃ i, C.ρ i = some b) ∨ w.heap.size <= b
 keep : ∀ i b, ¬ X i -> C.ρ i = some b -> C'.ρ i = some b
 ag : Ag (fun b => ∃ i, X i /\ C.ρ i = some b) w w'
theorem Step.agW {X : Nat -> Prop} {C C' : Ctx} {w w' : World} (h : Step X C w C' w') : Ag C.W w w' :=
 h.ag.mono fun k _ hk => by obtain ⟨i, _, hi⟩ := hk; exact .inr ⟨i, hi⟩
theorem Step.akl {X : Nat -> Prop} {C C' : Ctx} {w w' : World} (h : Step X C w C' w') : ∀ k, k < w.heap.size -> C'.W k -> C.W k := by
 intro k hk hw
 rcases hw with hw | ⟨i, hi⟩
 · exact .inl (by rw [← h.w0]; exact hw)
 · rcases h.own i k hi with h1 | h1
   · exact .inr h1
   · omega
theorem Pers.kI {X : Nat -> Prop} {C C' : Ctx} {w w' : World} {φ : World -> Prop} (h : Step X C w C' w') (p : Pers C.W w φ) : Pers C'.W w' φ :=
 p.step h.agW h.akl
mutual
theorem aC {X : Nat -> Prop} {C C' : Ctx} {w w' : World} (h : Step X C w C' w') : ∀ (s : SV) (v : Value), rel C w s v -> rel C' w' s v
 | .junk, _, _ => trivial
 | .dt _, _, r => Pers.kI h r
 | .agg l, _, ⟨vs, e, r⟩ => ⟨vs, e, cO h l vs r⟩
 | .tup l, _, ⟨vs, e, r⟩ => ⟨vs, e, cO h l vs r⟩
 | .ptr _ _, _, ⟨b, hb, e⟩ => ⟨b, h.ext _ _ hb, e⟩
 | .el _ _, _, ⟨b, off, e, p⟩ => ⟨b, off, e, Pers.kI h p⟩
 | .fn _ caps, _, ⟨vs, e, r⟩ => ⟨vs, e, cO h caps vs r⟩
 | .kb _, _, r => r
 | .sy _, _, r => r
 | .ki _ _, _, r => r
 | .nm i, v, r => ⟨h.ext i v r.1, r.2⟩
 | .rp _ _ _ _, _, ⟨b, n, c, hb, e⟩ => ⟨b, n, c, h.ext _ _ hb, e⟩
 | .ri _ _ _ _, _, r => r
 | .sl _ _ _ _ _, _, ⟨b, m, cc, x, hb, e⟩ => ⟨b, m, cc, x, h.ext _ _ hb, e⟩
theorem cO {X : Nat -> Prop} {C C' : Ctx} {w w' : World} (h : Step X C w C' w') : ∀ (l : List SV) (vs : List Value), relL C w l vs -> relL C' w' l vs
 | [], _, r => r
 | s :: l, _, ⟨v, r, e, h1, h2⟩ => ⟨v, r, e, aC h s v h1, cO h l r h2⟩
end
theorem iL {X : Nat -> Prop} {C C' : Ctx} {w w' : World} (hw : WF C w) (h : Step X C w C' w') {i b : Nat} (hi : C.ρ i = some b) (hx : ¬ X i) : w'.heap[b]? = w.heap[b]? := by
 refine h.ag.block b (hw.lt i b hi) ?_
 rintro ⟨j, hj, hjb⟩
 exact hx (hw.inj j i b hjb hi ▸ hj)
theorem bZ {X : Nat -> Prop} {C C' : Ctx} {w w' : World} (hw : WF C w) (h : Step X C w C' w') {i : Nat} (hx : ¬ X i) (ob : Ob)
  (ho : obHolds C w i ob) : obHolds C' w' i ob := by
 cases ob with
 | cells t cs =>
   obtain ⟨b, hb, hν, vs, hh, hr⟩ := ho
   exact ⟨b, h.keep i b hx hb, h.ext _ _ hν, vs, by rw [iL hw h hb hx]; exact hh, cO h cs vs hr⟩
 | row t sz n f =>
   obtain ⟨A, c, hν, hr⟩ := ho
   refine ⟨A, c, h.ext _ _ hν, ?_⟩
   rcases hr with hr | ⟨b, hb, hA, hnc, cur, hh, hs, hc⟩
   · exact .inl hr
   · refine .inr ⟨b, h.keep i b hx hb, hA, hnc, cur, by rw [iL hw h hb hx]; exact hh, hs, fun k j hk hj => ?_⟩
     obtain ⟨u, h1, h2⟩ := hc k j hk hj
     exact ⟨u, h1, h2.1, Pers.kI h h2.2⟩
 | frz d =>
   obtain ⟨v, hν, hp⟩ := ho
   exact ⟨v, h.ext _ _ hν, Pers.kI h hp⟩
 | mp kt vt l =>
   obtain ⟨b, hb, hν, hh⟩ := ho
   exact ⟨b, h.keep i b hx hb, h.ext _ _ hν, by rw [iL hw h hb hx]; exact hh⟩
 | it m n seen =>
   obtain ⟨b, bm, hb, hν, hm, hh⟩ := ho
   exact ⟨b, bm, h.keep i b hx hb, h.ext _ _ hν, h.ext _ _ hm, by rw [iL hw h hb hx]; exact hh⟩
 | vec t sz len tr ex =>
   obtain ⟨b, m, hb, hν, hl, he, cur, hh, hs, hc⟩ := ho
   refine ⟨b, m, h.keep i b hx hb, h.ext _ _ hν, hl, he, cur, by rw [iL hw h hb hx]; exact hh, hs, fun k hk => ?_⟩
   obtain ⟨u, h1, h2, h3⟩ := hc k hk
   exact ⟨u, h1, h2, aC h _ _ h3⟩
 | itx m n cur =>
   obtain ⟨seen, hcur, b, bm, hb, hν, hm, hh⟩ := ho
   exact ⟨seen, hcur, b, bm, h.keep i b hx hb, h.ext _ _ hν, h.ext _ _ hm, by rw [iL hw h hb hx]; exact hh⟩
theorem Step.refl {X : Nat -> Prop} (C : Ctx) (w : World) : Step X C w C w :=
 ⟨fun _ _ h => h, rfl, fun j _ h => .inl ⟨j, h⟩, fun _ _ _ h => h, Ag.refl _ w⟩
theorem Step.mono {X Y : Nat -> Prop} {C C' : Ctx} {w w' : World} (h : Step X C w C' w') (hXY : ∀ i, X i -> Y i) : Step Y C w C' w' :=
 ⟨h.ext, h.w0, h.own, fun i b hi => h.keep i b (fun hx => hi (hXY i hx)), h.ag.mono fun _ _ ⟨i, hi, hb⟩ => ⟨i, hXY i hi, hb⟩⟩
theorem Step.trans {X : Nat -> Prop} {C C' C'' : Ctx} {w w' w'' : World} (hw : WF C' w') (h : Step X C w C' w') (k : Step X C' w' C'' w'') : Step X C w C'' w'' := by
 refine ⟨fun i v hi => k.ext i v (h.ext i v hi), k.w0.trans h.w0, fun j b hj => ?_, fun i b hx hi => k.keep i b hx (h.keep i b hx hi), ?_⟩
 · rcases k.own j b hj with ⟨i, hi⟩ | h1
   · exact h.own i b hi
   · exact .inr (Nat.le_trans h.ag.size h1)
 · refine ⟨k.ag.os.trans h.ag.os, k.ag.tape.trans h.ag.tape, k.ag.output.trans h.ag.output, Nat.le_trans h.ag.size k.ag.size, fun b hb hx => ?_⟩
   refine (k.ag.block b (Nat.lt_of_lt_of_le hb h.ag.size) ?_).trans (h.ag.block b hb hx)
   rintro ⟨i, hi, hib⟩
   rcases h.own i b hib with ⟨i', hi'⟩ | h1
   · apply hx
     refine ⟨i', ?_, hi'⟩
     by_cases hxi : X i'
     · exact hxi
     · have := h.keep i' b hxi hi'
       rw [hw.inj i' i b this hib]
       exact hi
   · omega
end Rx
set_option linter.unusedSectionVars false
set_option linter.unusedSimpArgs false
set_option linter.unusedVariables false
namespace Rx
open Go
variable [Glob]
def aR : Dt := .cell undef
def mZ : Value -> SV
 | .bool b => .kb b
 | .int k n => .ki k n
 | v => .dt (.cell v)
theorem Bj (C : Ctx) (w : World) (v : Value) : rel C w (mZ v) v := by
 unfold mZ
 split
 · exact (rfl : Value.bool _ = Value.bool _)
 · exact (rfl : Value.int _ _ = Value.int _ _)
 · intro w' _
   rfl
theorem ny (C : Ctx) (w : World) : ∀ vs : List Value, relL C w (vs.map mZ) vs
 | [] => rfl
 | v :: vs => ⟨v, vs, rfl, Bj C w v, ny C w vs⟩
def eB : SV -> Bool
 | .dt (.cell v) => v.oneCell'
 | .dt (.arr _ _ _) => true
 | .dt (.mp _ _ _) => true
 | .dt .ifc => true
 | .dt (.ri _ _ _ _) => true
 | .ptr _ _ => true
 | .el _ _ => true
 | .fn _ _ => true
 | .kb _ => true
 | .sy _ => true
 | .ki _ _ => true
 | .rp _ _ _ _ => true
 | .nm _ => true
 | .ri _ _ _ _ => true
 | .sl _ _ _ _ _ => true
 | _ => false
theorem gV {C : Ctx} {w : World} {s : SV} {v : Value} (h : eB s = true) (r : rel C w s v) : v.oneCell' = true := by
 cases s with
 | dt d =>
   cases d with
   | cell x => have := r.here; simp only [Rep] at this; subst this; simpa [eB] using h
   | arr sz n f => obtain ⟨A, c, rfl, _⟩ := r.here; rfl
   | mp kt vt l => obtain ⟨b, _, _, rfl, _⟩ := r.here; rfl
   | ifc => obtain ⟨t, x, rfl⟩ := r.here; rfl
   | ri k a b n => rw [r.here.1]; rfl
 | ptr i off => obtain ⟨b, _, rfl⟩ := r; rfl
 | el m g => obtain ⟨b, off, rfl, _⟩ := r; rfl
 | fn f caps => obtain ⟨vs, rfl, _⟩ := r; rfl
 | kb b => rw [show v = .bool b from r]; rfl
 | sy s => rw [show v = .string s from r]; rfl
 | ki k n => rw [show v = .int k n from r]; rfl
 | nm i => exact r.2
 | rp i idx sz off => obtain ⟨b, n, c, _, rfl⟩ := r; rfl
 | ri k a b n => rw [r.1]; rfl
 | sl i sz o n c => obtain ⟨b, m, cc, x, _, rfl, _⟩ := r; rfl
 | junk => simp [eB] at h
 | agg l => simp [eB] at h
 | tup l => simp [eB] at h
def dz : SV -> Option (List SV)
 | .agg l => some l
 | s => bif eB s then some [s] else none
theorem cells_one {v : Value} (h : v.oneCell' = true) : v.cells = #[v] := by cases v <;> first | rfl | simp [Value.oneCell'] at h
theorem gq {C : Ctx} {w : World} {s : SV} {v : Value} {l : List SV} (h : dz s = some l) (r : rel C w s v) :
  ∃ vs : List Value, v.cells = vs.toArray /\ relL C w l vs := by
 have one : eB s = true -> some [s] = some l -> ∃ vs : List Value, v.cells = vs.toArray /\ relL C w l vs := by
  intro h1 h2
  injection h2 with h2
  subst h2
  exact ⟨[v], cells_one (gV h1 r), v, [], rfl, r, rfl⟩
 cases s with
 | agg l' =>
   simp only [dz, Option.some.injEq] at h
   subst h
   obtain ⟨vs, rfl, hr⟩ := r
   exact ⟨vs, rfl, hr⟩
 | _ =>
   simp only [dz] at h
   cases ho : eB _ with
   | false => rw [ho] at h; cases h
   | true => rw [ho] at h; exact one ho h
theorem aQ {C : Ctx} {w : World} : ∀ {l : List SV} {vs : List Value}, relL C w l vs -> vs.length = l.length
 | [], _, h => by rw [show _ = [] from h]; rfl
 | _ :: _, _, ⟨_, _, e, _, h⟩ => by subst e; simp [aQ h]
theorem aY {C : Ctx} {w : World} : ∀ {l : List SV} {vs : List Value} (i : Nat) (s : SV), relL C w l vs -> l[i]? = some s -> ∃ v, vs[i]? = some v /\ rel C w s v
 | [], _, _, _, _, h => by simp at h
 | _ :: _, _, 0, s, ⟨v, r, e, h1, _⟩, h => by subst e; simp at h; subst h; exact ⟨v, rfl, h1⟩
 | _ :: l, _, i + 1, s, ⟨v, r, e, _, h2⟩, h => by subst e; simpa using aY i s h2 (by simpa using h)
theorem jl {C : Ctx} {w : World} : ∀ {l l' : List SV} {vs vs' : List Value}, relL C w l vs -> relL C w l' vs' -> relL C w (l ++ l') (vs ++ vs')
 | [], _, _, _, h, h' => by rw [show _ = [] from h]; simpa using h'
 | _ :: _, _, _, _, ⟨v, r, e, h1, h2⟩, h' => by subst e; exact ⟨v, _, rfl, h1, jl h2 h'⟩
theorem qG {C : Ctx} {w : World} : ∀ {l : List SV} {vs : List Value} (i : Nat), relL C w l vs -> relL C w (l.drop i) (vs.drop i)
 | _, _, 0, h => by simpa using h
 | [], _, _ + 1, h => by rw [show _ = [] from h]; exact rfl
 | _ :: _, _, i + 1, ⟨v, r, e, _, h2⟩ => by subst e; simpa using qG i h2
theorem qH {C : Ctx} {w : World} : ∀ {l : List SV} {vs : List Value} (i : Nat), relL C w l vs -> relL C w (l.take i) (vs.take i)
 | _, _, 0, _ => rfl
 | [], _, _ + 1, h => by rw [show _ = [] from h]; exact rfl
 | _ :: _, _, i + 1, ⟨v, r, e, h1, h2⟩ => by subst e; exact ⟨v, _, rfl, h1, qH i h2⟩
def splice {α : Type} (l : List α) (off : Nat) (cs : List α) : List α := l.take off ++ cs ++ l.drop (off + cs.length)
theorem wK {C : Ctx} {w : World} {l cs : List SV} {vs us : List Value} (off : Nat) (h : relL C w l vs) (h' : relL C w cs us) : relL C w (splice l off cs) (splice vs off us) := by
 unfold splice
 rw [aQ h']
 exact jl (jl (qH off h) h') (qG _ h)
def bg (P : Program) (t : TypeId) : Option Nat := (P.info? t).map (·.size)
def nQ (P : Program) (t : TypeId) : Option Bool := (P.underlying t).map fun
 | .struct _ | .array _ _ => true
 | _ => false
def zeroOf (P : Program) (t : TypeId) : Option (List SV) := ((P.info? t).bind (·.zero)).map fun v => v.cells.toList.map mZ
structure Eff where
 us : List (Nat × Option Ob)
 new : List Nat
def Eff.none : Eff := ⟨[], []⟩
structure Res where
 sv : SV
 eff : Eff
def upd {α : Type} (f : Nat -> α) (i : Nat) (v : α) (j : Nat) : α := bif j.beq i then v else f j
theorem upd_same {α : Type} (f : Nat -> α) (i : Nat) (v : α) : upd f i v i = v := by simp [upd]
theorem bE {α : Type} (f : Nat -> α) {i j : Nat} (v : α) (h : ¬ j = i) : upd f i v j = f j := by simp [upd, eU h]
def Eff.touched (e : Eff) : List Nat := e.us.map (·.1)
def Eff.obs (g : Nat -> Option Ob) (e : Eff) (j : Nat) : Option Ob := (e.us.lookup j).getD (g j)
def Eff.X (e : Eff) (i : Nat) : Prop := i ∈ e.touched
theorem wE {α : Type} : ∀ {l : List (Nat × α)} {j : Nat}, j ∉ l.map (·.1) -> l.lookup j = Option.none
 | [], _, _ => rfl
 | (i, x) :: l, j, h => by
   simp only [List.map_cons, List.mem_cons, not_or] at h
   have : (j == i) = false := by simpa using h.1
   simp only [List.lookup, this]
   exact wE h.2
theorem qE (g : Nat -> Option Ob) (e : Eff) (j : Nat) (h : j ∉ e.touched) : e.obs g j = g j := by
 unfold Eff.obs
 rw [wE h]
 rfl
theorem vD (e : Eff) (g g' : Nat -> Option Ob) (i : Nat) (h : g i = g' i) : e.obs g i = e.obs g' i := by
 unfold Eff.obs
 rw [h]
structure Came (C : Ctx) (w : World) (r : Res) (C' : Ctx) (w' : World) (v : Value) : Prop where
 rel : Rx.rel C' w' r.sv v
 step : Step r.eff.X C w C' w'
 wf : WF C' w'
 new : ∀ i, C'.ν i ≠ none -> C.ν i ≠ none ∨ i ∈ r.eff.new
 obs : ∀ i ob, r.eff.us.lookup i = some (some ob) -> obHolds C' w' i ob
theorem Came.pure {C : Ctx} {w : World} (hw : WF C w) {s : SV} {v : Value} (h : Rx.rel C w s v) : Came C w ⟨s, .none⟩ C w v :=
 ⟨h, Step.refl C w, hw, fun _ hi => .inl hi, fun _ _ hi => (by simp [Eff.none] at hi)⟩
theorem dV {X : Nat -> Prop} {C : Ctx} {w w' : World} (h : Ag (fun _ => False) w w') : Step X C w C w' :=
 ⟨fun _ _ h => h, rfl, fun j _ h => .inl ⟨j, h⟩, fun _ _ _ h => h, h.mono fun _ _ h => h.elim⟩
theorem jc {X : Nat -> Prop} {C : Ctx} {w w' : World} (hw : WF C w) (h : Step X C w C w') : WF C w' :=
 ⟨fun i b hi => Nat.lt_of_lt_of_le (hw.lt i b hi) h.ag.size, hw.inj, fun b hb => Nat.lt_of_lt_of_le (hw.w0 b hb) h.ag.size, hw.own, hw.dis, Pers.kI h hw.gl⟩
theorem kP {C : Ctx} {w w' : World} (hw : WF C w) (h : Ag (fun _ => False) w w') : WF C w' := jc (X := fun _ => False) hw (dV h)
theorem gZ {X : Nat -> Prop} (w : World) (o : Obj) : Ag X w (w.alloc o) := ⟨rfl, rfl, rfl, by simp, fun _ hk _ => heap_alloc_old w _ hk⟩
def Ctx.add (C : Ctx) (i : Nat) (v : Value) (b : Nat) : Ctx := ⟨upd C.ν i (some v), upd C.ρ i (some b), C.W0⟩
theorem rZ {X : Nat -> Prop} {C : Ctx} {w w' : World} {i : Nat} {v : Value} {b : Nat} (hw : WF C w) (hi : C.ν i = none) (hb : w.heap.size <= b) (ha : Ag (fun _ => False) w w') : Step X C w (C.add i v b) w' := by
 have hρ : C.ρ i = none := by
  cases h : C.ρ i with
  | none => rfl
  | some b => obtain ⟨v, hv⟩ := hw.own i b h; rw [hi] at hv; cases hv
 refine ⟨fun j u hj => ?_, rfl, fun j c hj => ?_, fun j c _ hj => ?_, ha.mono fun _ _ h => h.elim⟩
 · have : ¬ j = i := by rintro rfl; rw [hi] at hj; cases hj
   show upd C.ν i _ j = _
   rw [bE _ _ this, hj]
 · by_cases hji : j = i
   · subst hji
     have : upd C.ρ j (some b) j = some c := hj
     rw [upd_same] at this
     injection this with this
     subst this
     exact .inr hb
   · have : upd C.ρ i (some b) j = some c := hj
     rw [bE _ _ hji] at this
     exact .inl ⟨j, this⟩
 · have : ¬ j = i := by rintro rfl; rw [hρ] at hj; cases hj
   show upd C.ρ i _ j = _
   rw [bE _ _ this, hj]
theorem QF {C : Ctx} {w w' : World} {i : Nat} {v : Value} {b : Nat} (hw : WF C w) (hb : w.heap.size <= b) (hb' : b < w'.heap.size) (hi : C.ν i = none) (ha : Ag (fun _ => False) w w') : WF (C.add i v b) w' := by
 have hs := ha.size
 have cs : ∀ j c, (C.add i v b).ρ j = some c -> (j = i /\ c = b) ∨ (j ≠ i /\ C.ρ j = some c) := by
  intro j c hj
  by_cases hji : j = i
  · subst hji
    have : upd C.ρ j (some b) j = some c := hj
    rw [upd_same] at this
    injection this with this
    exact .inl ⟨rfl, this.symm⟩
  · have : upd C.ρ i (some b) j = some c := hj
    rw [bE _ _ hji] at this
    exact .inr ⟨hji, this⟩
 refine ⟨fun j c hj => ?_, fun j k c hj hk => ?_, fun c hc => Nat.lt_of_lt_of_le (hw.w0 c hc) hs, fun j c hj => ?_, fun j c hj hc => ?_, Pers.kI (rZ (X := fun _ => False) hw hi hb ha) hw.gl⟩
 · rcases cs j c hj with ⟨_, rfl⟩ | ⟨_, h⟩
   · exact hb'
   · exact Nat.lt_of_lt_of_le (hw.lt j c h) hs
 · rcases cs j c hj with ⟨rfl, rfl⟩ | ⟨_, h⟩ <;> rcases cs k c hk with ⟨rfl, h2⟩ | ⟨_, h'⟩
   · rfl
   · have := hw.lt k _ h'; omega
   · subst h2; have := hw.lt j _ h; omega
   · exact hw.inj j k c h h'
 · rcases cs j c hj with ⟨rfl, rfl⟩ | ⟨hne, h⟩
   · exact ⟨v, upd_same _ _ _⟩
   · obtain ⟨u, hu⟩ := hw.own j c h
     exact ⟨u, by show upd C.ν i _ j = _; rw [bE _ _ hne, hu]⟩
 · rcases cs j c hj with ⟨rfl, rfl⟩ | ⟨_, h⟩
   · have := hw.w0 c hc; omega
   · exact hw.dis j c h hc
theorem Came.alloc {C : Ctx} {w : World} (hw : WF C w) {i : Nat} (hi : C.ν i = none) {t : TypeId} {cs : List SV} {vs : List Value} (h : relL C w cs vs) :
  Came C w ⟨.ptr i 0, ⟨[(i, some (.cells t cs))], [i]⟩⟩ (C.add i (.pointer (some ⟨w.heap.size, 0, none⟩)) w.heap.size) (w.alloc (.cells vs.toArray t)) (.pointer (some ⟨w.heap.size, 0, none⟩)) := by
 have hstep : Step (fun _ => False) C w (C.add i (.pointer (some ⟨w.heap.size, 0, none⟩)) w.heap.size) (w.alloc (.cells vs.toArray t)) := rZ hw hi (Nat.le_refl _) (gZ w _)
 refine ⟨⟨w.heap.size, upd_same _ _ _, rfl⟩, hstep.mono fun _ h => h.elim, QF hw (Nat.le_refl _) (by simp) hi (gZ w _), fun j hj => ?_, fun j ob hj => ?_⟩
 · by_cases hji : j = i
   · right; subst hji; simp
   · left
     have : upd C.ν i (some (Value.pointer (some ⟨w.heap.size, 0, none⟩))) j ≠ none := hj
     rw [bE _ _ hji] at this
     exact this
 · by_cases hji : j = i
   · subst hji
     simp [List.lookup] at hj
     subst hj
     exact ⟨w.heap.size, upd_same _ _ _, upd_same _ _ _, vs, heap_alloc_new w _, cO hstep cs vs h⟩
   · have : (j == i) = false := by simpa using hji
     simp [List.lookup, this] at hj
end Rx
