/- Rx, part D1: equal or not, for the kernel. Printed by gen/told.py. -/
import Derived.Test.YtkbdcpkbmfegdaaGreatDoorSRxX6
set_option linter.unusedSectionVars false
set_option linter.unusedSimpArgs false
set_option linter.unusedVariables false
namespace Rx
open Go
variable [Glob]
noncomputable section
variable {α : Type}
def BT (b : Bool) (x y : T α) : T α := @Bool.rec (fun _ => T α) y x b
theorem fZ {b : Bool} {x y : T α} {post : α -> Prop} (h : (BT b x y).holds post) : (b = true /\ x.holds post) ∨ y.holds post := by
 cases b
 · exact .inr h
 · exact .inl ⟨rfl, h⟩
theorem qU {b : Bool} {x : T α} {post : α -> Prop} (h : (BT b x .fail).holds post) : b = true /\ x.holds post := by
 cases b
 · exact h.elim
 · exact ⟨rfl, h⟩
def P9 (i : Nat) (l : List Nat) : Bool := @List.rec Nat (fun _ => Bool) false (fun j _ r => @Bool.rec (fun _ => Bool) r true (Nat.beq i j)) l
theorem I9 {i : Nat} : ∀ {l : List Nat}, P9 i l = true ↔ i ∈ l
 | [] => by simp [P9]
 | j :: l => by
   have ih := I9 (i := i) (l := l)
   show (@Bool.rec (fun _ => Bool) (P9 i l) true (Nat.beq i j)) = true ↔ _
   cases hb : Nat.beq i j with
   | true => simp [Nat.eq_of_beq_eq_true hb]
   | false =>
     have : i ≠ j := fun e => by rw [nW e] at hb; cases hb
     show P9 i l = true ↔ _
     rw [ih]; simp [this]
abbrev Q2 (α : Type) := T α -> T α -> T α
def byE (l : List UInt8) : List UInt8 -> Bool := @List.rec UInt8 (fun _ => List UInt8 -> Bool) (fun m => @List.rec UInt8 (fun _ => Bool) true (fun _ _ _ => false) m) (fun x _ ih m => @List.rec UInt8 (fun _ => Bool) false (fun y m _ => aK (Nat.beq x.toNat y.toNat) (ih m)) m) l
theorem Ka : ∀ {l m : List UInt8}, byE l m = true -> l = m
 | [], [], _ => rfl
 | [], _ :: _, h => by cases h
 | _ :: _, [], h => by cases h
 | x :: l, y :: m, h => by
   have h : aK (Nat.beq x.toNat y.toNat) (byE l m) = true := h
   rw [ig, Bool.and_eq_true] at h
   rw [UInt8.toNat_inj.1 (Nat.eq_of_beq_eq_true h.1), Ka h.2]
def JE (s t : ByteArray) : Bool := byE s.data.toList t.data.toList
theorem GR {s t : ByteArray} (h : JE s t = true) : s = t := by
 have h := Ka h
 cases s with | mk a => cases t with | mk b =>
 have h : a.toList = b.toList := h
 rw [Array.toList_inj.1 h]
def ael (u v : Value) (c alt : T α) : T α := match u, v with
 | .string s, .string t => BT (JE s t) c alt
 | .slice none 0 0, .slice none 0 0 => c
 | .pointer none, .pointer none => c
 | .nilIface, .nilIface => c
 | .map none, .map none => c
 | .int k n, .int k' m => BT (aK (dR k k') (eqI n m)) c alt
 | .bool p, .bool q => BT (eqB p q) c alt
 | .string _, _ => alt
 | .slice _ _ _, _ => alt
 | .pointer _, _ => alt
 | .int _ _, _ => alt
 | .bool _, _ => alt
 | u, v => .need (u = v) c
theorem pU {a b : IntKind} (h : dR a b = true) : a = b := by simpa [dR] using h
theorem XB {p q : Bool} (h : eqB p q = true) : p = q := by cases p <;> cases q <;> first | rfl | cases h
theorem aB {a b : Bool} (h : aK a b = true) : a = true /\ b = true := by rw [ig, Bool.and_eq_true] at h; exact h
theorem yQ {a b : Int} (h : eqI a b = true) : a = b := by rw [uR] at h; simpa using h
theorem Vq {u v : Value} {c alt : T α} {post : α -> Prop} (h : (ael u v c alt).holds post) : (u = v /\ c.holds post) ∨ alt.holds post := by
 unfold ael at h
 split at h
 · rcases fZ h with ⟨h1, h2⟩ | h
   · exact .inl ⟨by rw [GR h1], h2⟩
   · exact .inr h
 · exact .inl ⟨rfl, h⟩
 · exact .inl ⟨rfl, h⟩
 · exact .inl ⟨rfl, h⟩
 · exact .inl ⟨rfl, h⟩
 · rcases fZ h with ⟨h1, h2⟩ | h
   · obtain ⟨h1, h3⟩ := aB h1
     exact .inl ⟨by rw [pU h1, yQ h3], h2⟩
   · exact .inr h
 · rcases fZ h with ⟨h1, h2⟩ | h
   · exact .inl ⟨by rw [XB h1], h2⟩
   · exact .inr h
 · exact .inr h
 · exact .inr h
 · exact .inr h
 · exact .inr h
 · exact .inr h
 · exact .inl ⟨h.1, h.2⟩
def dtE (d e : Dt) (c alt : T α) : T α := match d, e with
 | .cell u, .cell v => ael u v c alt
 | .cell _, _ => alt
 | _, .cell _ => alt
 | .ri k a b n, .ri k' a' b' n' => BT (aK (dR k k') (aK (eqI a a') (eqI b b'))) (.need (n = n') c) alt
 | .arr sz n f, .arr sz' n' f' => BT (aK (Nat.beq sz sz') (Nat.beq n n')) (.need (f = f') c) alt
 | d, e => .need (d = e) c
theorem VW {d e : Dt} {c alt : T α} {post : α -> Prop} (h : (dtE d e c alt).holds post) : (d = e /\ c.holds post) ∨ alt.holds post := by
 unfold dtE at h
 split at h
 · rcases Vq h with ⟨h1, h2⟩ | h
   · exact .inl ⟨by rw [h1], h2⟩
   · exact .inr h
 · exact .inr h
 · exact .inr h
 · rcases fZ h with ⟨h1, h2⟩ | h
   · obtain ⟨h1, h3⟩ := aB h1
     obtain ⟨h3, h4⟩ := aB h3
     exact .inl ⟨by rw [pU h1, yQ h3, yQ h4, h2.1], h2.2⟩
   · exact .inr h
 · rcases fZ h with ⟨h1, h2⟩ | h
   · obtain ⟨h1, h3⟩ := aB h1
     exact .inl ⟨by rw [Nat.eq_of_beq_eq_true h1, Nat.eq_of_beq_eq_true h3, h2.1], h2.2⟩
   · exact .inr h
 · exact .inl ⟨h.1, h.2⟩
def aaq (s : SV) : Nat -> Nat -> Q2 α := @SV.rec (fun _ => Nat -> Nat -> Q2 α) (fun _ => PUnit) (fun _ _ _ alt => alt) (fun _ => fun _ _ _ alt => alt) (fun _ _ => fun _ _ _ alt => alt) (fun _ _ => fun _ _ _ alt => alt) (fun j p i o c alt => BT (aK (Nat.beq i j) (Nat.beq o p)) c alt) (fun _ _ => fun _ _ _ alt => alt) (fun _ _ _ => fun _ _ _ alt => alt) (fun _ => fun _ _ _ alt => alt) (fun _ _ => fun _ _ _ alt => alt) (fun _ => fun _ _ _ alt => alt) (fun _ _ _ _ => fun _ _ _ alt => alt) (fun _ _ _ _ => fun _ _ _ alt => alt) (fun _ _ _ _ _ => fun _ _ _ alt => alt) (fun _ => fun _ _ _ alt => alt) PUnit.unit (fun _ _ _ _ => PUnit.unit) s
theorem Tc {b : SV} {c alt : T α} {post : α -> Prop} {i o : Nat} (h : (aaq b i o c alt).holds post) : (SV.ptr i o = b /\ c.holds post) ∨ alt.holds post := by
 cases b
 case ptr j p =>
  rcases fZ (show (BT (aK (Nat.beq i j) (Nat.beq o p)) c alt).holds post from h) with ⟨h1, h2⟩ | h
  · obtain ⟨h1, h3⟩ := aB h1
    exact .inl ⟨by rw [Nat.eq_of_beq_eq_true h1, Nat.eq_of_beq_eq_true h3], h2⟩
  · exact .inr h
 all_goals exact .inr h
def nmE (s : SV) : Nat -> Q2 α := @SV.rec (fun _ => Nat -> Q2 α) (fun _ => PUnit) (fun _ _ alt => alt) (fun _ => fun _ _ alt => alt) (fun _ _ => fun _ _ alt => alt) (fun _ _ => fun _ _ alt => alt) (fun _ _ => fun _ _ alt => alt) (fun _ _ => fun _ _ alt => alt) (fun _ _ _ => fun _ _ alt => alt) (fun _ => fun _ _ alt => alt) (fun _ _ => fun _ _ alt => alt) (fun j i c alt => BT (Nat.beq i j) c alt) (fun _ _ _ _ => fun _ _ alt => alt) (fun _ _ _ _ => fun _ _ alt => alt) (fun _ _ _ _ _ => fun _ _ alt => alt) (fun _ => fun _ _ alt => alt) PUnit.unit (fun _ _ _ _ => PUnit.unit) s
theorem Wz {b : SV} {c alt : T α} {post : α -> Prop} {i : Nat} (h : (nmE b i c alt).holds post) : (SV.nm i = b /\ c.holds post) ∨ alt.holds post := by
 cases b
 case nm j =>
  rcases fZ (show (BT (Nat.beq i j) c alt).holds post from h) with ⟨h1, h2⟩ | h
  · exact .inl ⟨by rw [Nat.eq_of_beq_eq_true h1], h2⟩
  · exact .inr h
 all_goals exact .inr h
def kbE (s : SV) : Bool -> Q2 α := @SV.rec (fun _ => Bool -> Q2 α) (fun _ => PUnit) (fun _ _ alt => alt) (fun _ => fun _ _ alt => alt) (fun _ _ => fun _ _ alt => alt) (fun _ _ => fun _ _ alt => alt) (fun _ _ => fun _ _ alt => alt) (fun _ _ => fun _ _ alt => alt) (fun _ _ _ => fun _ _ alt => alt) (fun q p c alt => BT (eqB p q) c alt) (fun _ _ => fun _ _ alt => alt) (fun _ => fun _ _ alt => alt) (fun _ _ _ _ => fun _ _ alt => alt) (fun _ _ _ _ => fun _ _ alt => alt) (fun _ _ _ _ _ => fun _ _ alt => alt) (fun _ => fun _ _ alt => alt) PUnit.unit (fun _ _ _ _ => PUnit.unit) s
theorem Ws {b : SV} {c alt : T α} {post : α -> Prop} {p : Bool} (h : (kbE b p c alt).holds post) : (SV.kb p = b /\ c.holds post) ∨ alt.holds post := by
 cases b
 case kb q =>
  rcases fZ (show (BT (eqB p q) c alt).holds post from h) with ⟨h1, h2⟩ | h
  · exact .inl ⟨by rw [XB h1], h2⟩
  · exact .inr h
 all_goals exact .inr h
def kiE (s : SV) : IntKind -> Int -> Q2 α := @SV.rec (fun _ => IntKind -> Int -> Q2 α) (fun _ => PUnit) (fun _ _ _ alt => alt) (fun _ => fun _ _ _ alt => alt) (fun _ _ => fun _ _ _ alt => alt) (fun _ _ => fun _ _ _ alt => alt) (fun _ _ => fun _ _ _ alt => alt) (fun _ _ => fun _ _ _ alt => alt) (fun _ _ _ => fun _ _ _ alt => alt) (fun _ => fun _ _ _ alt => alt) (fun k' m k n c alt => BT (aK (dR k k') (eqI n m)) c alt) (fun _ => fun _ _ _ alt => alt) (fun _ _ _ _ => fun _ _ _ alt => alt) (fun _ _ _ _ => fun _ _ _ alt => alt) (fun _ _ _ _ _ => fun _ _ _ alt => alt) (fun _ => fun _ _ _ alt => alt) PUnit.unit (fun _ _ _ _ => PUnit.unit) s
theorem Wt {b : SV} {c alt : T α} {post : α -> Prop} {k : IntKind} {n : Int} (h : (kiE b k n c alt).holds post) : (SV.ki k n = b /\ c.holds post) ∨ alt.holds post := by
 cases b
 case ki k' m =>
  rcases fZ (show (BT (aK (dR k k') (eqI n m)) c alt).holds post from h) with ⟨h1, h2⟩ | h
  · obtain ⟨h1, h3⟩ := aB h1
    exact .inl ⟨by rw [pU h1, yQ h3], h2⟩
  · exact .inr h
 all_goals exact .inr h
def rpE (s : SV) : Nat -> Nat -> Nat -> Nat -> Q2 α := @SV.rec (fun _ => Nat -> Nat -> Nat -> Nat -> Q2 α) (fun _ => PUnit) (fun _ _ _ _ _ alt => alt) (fun _ => fun _ _ _ _ _ alt => alt) (fun _ _ => fun _ _ _ _ _ alt => alt) (fun _ _ => fun _ _ _ _ _ alt => alt) (fun _ _ => fun _ _ _ _ _ alt => alt) (fun _ _ => fun _ _ _ _ _ alt => alt) (fun _ _ _ => fun _ _ _ _ _ alt => alt) (fun _ => fun _ _ _ _ _ alt => alt) (fun _ _ => fun _ _ _ _ _ alt => alt) (fun _ => fun _ _ _ _ _ alt => alt) (fun i' o' y' z' i o y z c alt => BT (aK (Nat.beq i i') (aK (Nat.beq o o') (aK (Nat.beq y y') (Nat.beq z z')))) c alt) (fun _ _ _ _ => fun _ _ _ _ _ alt => alt) (fun _ _ _ _ _ => fun _ _ _ _ _ alt => alt) (fun _ => fun _ _ _ _ _ alt => alt) PUnit.unit (fun _ _ _ _ => PUnit.unit) s
theorem WV {b : SV} {c alt : T α} {post : α -> Prop} {i o y z : Nat} (h : (rpE b i o y z c alt).holds post) : (SV.rp i o y z = b /\ c.holds post) ∨ alt.holds post := by
 cases b
 case rp i' o' y' z' =>
  rcases fZ (show (BT (aK (Nat.beq i i') (aK (Nat.beq o o') (aK (Nat.beq y y') (Nat.beq z z')))) c alt).holds post from h) with ⟨h1, h2⟩ | h
  · obtain ⟨h1, h3⟩ := aB h1
    obtain ⟨h3, h4⟩ := aB h3
    obtain ⟨h4, h5⟩ := aB h4
    exact .inl ⟨by rw [Nat.eq_of_beq_eq_true h1, Nat.eq_of_beq_eq_true h3, Nat.eq_of_beq_eq_true h4, Nat.eq_of_beq_eq_true h5], h2⟩
  · exact .inr h
 all_goals exact .inr h
def riW (n a b m : Int) (c : T α) : T α := .need (n = m /\ a <= n /\ n <= b) c
def riN (u : Value) (k : IntKind) (a b n : Int) (c alt : T α) : T α := match u with
 | .int k' m => BT (dR k k') (riW n a b m c) alt
 | _ => alt
def riD (e : Dt) (k : IntKind) (a b n : Int) (c alt : T α) : T α := match e with
 | .cell u => riN u k a b n c alt
 | .ri k' a' b' n' => BT (dR k k') (BT (aK (eqI a a') (eqI b b')) (.need (n = n') c) (riW n a b n' c)) alt
 | _ => alt
def riE (s : SV) : IntKind -> Int -> Int -> Int -> Q2 α := @SV.rec (fun _ => IntKind -> Int -> Int -> Int -> Q2 α) (fun _ => PUnit) (fun _ _ _ _ _ alt => alt) (fun e k a b n c alt => riD e k a b n c alt) (fun _ _ => fun _ _ _ _ _ alt => alt) (fun _ _ => fun _ _ _ _ _ alt => alt) (fun _ _ => fun _ _ _ _ _ alt => alt) (fun _ _ => fun _ _ _ _ _ alt => alt) (fun _ _ _ => fun _ _ _ _ _ alt => alt) (fun _ => fun _ _ _ _ _ alt => alt) (fun k' m k a b n c alt => BT (dR k k') (riW n a b m c) alt) (fun _ => fun _ _ _ _ _ alt => alt) (fun _ _ _ _ => fun _ _ _ _ _ alt => alt) (fun k' a' b' n' k a b n c alt => BT (dR k k') (BT (aK (eqI a a') (eqI b b')) (.need (n = n') c) (riW n a b n' c)) alt) (fun _ _ _ _ _ => fun _ _ _ _ _ alt => alt) (fun _ => fun _ _ _ _ _ alt => alt) PUnit.unit (fun _ _ _ _ => PUnit.unit) s
def onE (a : Option Nat) : Option Nat -> Bool := @Option.rec Nat (fun _ => Option Nat -> Bool) (fun b => @Option.rec Nat (fun _ => Bool) true (fun _ => false) b) (fun i b => @Option.rec Nat (fun _ => Bool) false (fun j => Nat.beq i j) b) a
theorem aal {a b : Option Nat} (h : onE a b = true) : a = b := by
 cases a <;> cases b <;> first | rfl | cases h | exact congrArg some (Nat.eq_of_beq_eq_true h)
def slE (s : SV) : Nat -> Nat -> Nat -> Nat -> Option Nat -> Q2 α := @SV.rec (fun _ => Nat -> Nat -> Nat -> Nat -> Option Nat -> Q2 α) (fun _ => PUnit) (fun _ _ _ _ _ _ alt => alt) (fun _ => fun _ _ _ _ _ _ alt => alt) (fun _ _ => fun _ _ _ _ _ _ alt => alt) (fun _ _ => fun _ _ _ _ _ _ alt => alt) (fun _ _ => fun _ _ _ _ _ _ alt => alt) (fun _ _ => fun _ _ _ _ _ _ alt => alt) (fun _ _ _ => fun _ _ _ _ _ _ alt => alt) (fun _ => fun _ _ _ _ _ _ alt => alt) (fun _ _ => fun _ _ _ _ _ _ alt => alt) (fun _ => fun _ _ _ _ _ _ alt => alt) (fun _ _ _ _ => fun _ _ _ _ _ _ alt => alt) (fun _ _ _ _ => fun _ _ _ _ _ _ alt => alt) (fun i' o' y' z' k' i o y z k c alt => BT (aK (Nat.beq i i') (aK (Nat.beq o o') (aK (Nat.beq y y') (aK (Nat.beq z z') (onE k k'))))) c alt) (fun _ => fun _ _ _ _ _ _ alt => alt) PUnit.unit (fun _ _ _ _ => PUnit.unit) s
theorem WY {b : SV} {c alt : T α} {post : α -> Prop} {i o y z : Nat} {k : Option Nat} (h : (slE b i o y z k c alt).holds post) : (SV.sl i o y z k = b /\ c.holds post) ∨ alt.holds post := by
 cases b
 case sl i' o' y' z' k' =>
  rcases fZ (show (BT (aK (Nat.beq i i') (aK (Nat.beq o o') (aK (Nat.beq y y') (aK (Nat.beq z z') (onE k k'))))) c alt).holds post from h) with ⟨h1, h2⟩ | h
  · obtain ⟨h1, h3⟩ := aB h1
    obtain ⟨h3, h4⟩ := aB h3
    obtain ⟨h4, h5⟩ := aB h4
    obtain ⟨h5, h6⟩ := aB h5
    exact .inl ⟨by rw [Nat.eq_of_beq_eq_true h1, Nat.eq_of_beq_eq_true h3, Nat.eq_of_beq_eq_true h4, Nat.eq_of_beq_eq_true h5, aal h6], h2⟩
  · exact .inr h
 all_goals exact .inr h
def syD (d : Dt) (s : ByteArray) (c alt : T α) : T α := match d with
 | .cell (.string t) => .need (s = t) c
 | _ => alt
def syE (s : SV) : ByteArray -> Q2 α := @SV.rec (fun _ => ByteArray -> Q2 α) (fun _ => PUnit) (fun _ _ alt => alt) (fun e => fun s c alt => syD e s c alt) (fun _ _ => fun _ _ alt => alt) (fun _ _ => fun _ _ alt => alt) (fun _ _ => fun _ _ alt => alt) (fun _ _ => fun _ _ alt => alt) (fun _ _ _ => fun _ _ alt => alt) (fun _ => fun _ _ alt => alt) (fun _ _ => fun _ _ alt => alt) (fun _ => fun _ _ alt => alt) (fun _ _ _ _ => fun _ _ alt => alt) (fun _ _ _ _ => fun _ _ alt => alt) (fun _ _ _ _ _ => fun _ _ alt => alt) (fun t s c alt => .need (s = t) c) PUnit.unit (fun _ _ _ _ => PUnit.unit) s
theorem Xh {b : SV} {c alt : T α} {post : α -> Prop} {s : ByteArray} (h : (syE b s c alt).holds post) : ((∀ (C : Ctx) (w : World) (v : Value), rel C w b v -> rel C w (.sy s) v) /\ c.holds post) ∨ alt.holds post := by
 cases b
 case sy t =>
  have h : (T.need (s = t) c).holds post := h
  exact .inl ⟨fun C w v r => by rw [h.1]; exact r, h.2⟩
 case dt d =>
  replace h : (syD d s c alt).holds post := h
  unfold syD at h
  split at h
  · rename_i t
    exact .inl ⟨fun C w v r => by
        have : v = .string t := aj.1 r
        rw [this, h.1]
        rfl, h.2⟩
  · exact .inr h
 all_goals exact .inr h
def dtX (s : SV) : Dt -> Q2 α := @SV.rec (fun _ => Dt -> Q2 α) (fun _ => PUnit) (fun _ _ alt => alt) (fun e d c alt => dtE d e c alt) (fun _ _ => fun _ _ alt => alt) (fun _ _ => fun _ _ alt => alt) (fun _ _ => fun _ _ alt => alt) (fun _ _ => fun _ _ alt => alt) (fun _ _ _ => fun _ _ alt => alt) (fun _ => fun _ _ alt => alt) (fun _ _ => fun _ _ alt => alt) (fun _ => fun _ _ alt => alt) (fun _ _ _ _ => fun _ _ alt => alt) (fun _ _ _ _ => fun _ _ alt => alt) (fun _ _ _ _ _ => fun _ _ alt => alt) (fun _ => fun _ _ alt => alt) PUnit.unit (fun _ _ _ _ => PUnit.unit) s
theorem VX {b : SV} {c alt : T α} {post : α -> Prop} {d : Dt} (h : (dtX b d c alt).holds post) : (SV.dt d = b /\ c.holds post) ∨ alt.holds post := by
 cases b
 case dt e =>
  rcases VW (show (dtE d e c alt).holds post from h) with ⟨h1, h2⟩ | h
  · exact .inl ⟨by rw [h1], h2⟩
  · exact .inr h
 all_goals exact .inr h
def agE (s : SV) : (List SV -> Q2 α) -> Q2 α := @SV.rec (fun _ => (List SV -> Q2 α) -> Q2 α) (fun _ => PUnit) (fun _ _ alt => alt) (fun _ => fun _ _ alt => alt) (fun m _ r c alt => r m c alt) (fun _ _ => fun _ _ alt => alt) (fun _ _ => fun _ _ alt => alt) (fun _ _ => fun _ _ alt => alt) (fun _ _ _ => fun _ _ alt => alt) (fun _ => fun _ _ alt => alt) (fun _ _ => fun _ _ alt => alt) (fun _ => fun _ _ alt => alt) (fun _ _ _ _ => fun _ _ alt => alt) (fun _ _ _ _ => fun _ _ alt => alt) (fun _ _ _ _ _ => fun _ _ alt => alt) (fun _ => fun _ _ alt => alt) PUnit.unit (fun _ _ _ _ => PUnit.unit) s
def tuE (s : SV) : (List SV -> Q2 α) -> Q2 α := @SV.rec (fun _ => (List SV -> Q2 α) -> Q2 α) (fun _ => PUnit) (fun _ _ alt => alt) (fun _ => fun _ _ alt => alt) (fun _ _ => fun _ _ alt => alt) (fun m _ r c alt => r m c alt) (fun _ _ => fun _ _ alt => alt) (fun _ _ => fun _ _ alt => alt) (fun _ _ _ => fun _ _ alt => alt) (fun _ => fun _ _ alt => alt) (fun _ _ => fun _ _ alt => alt) (fun _ => fun _ _ alt => alt) (fun _ _ _ _ => fun _ _ alt => alt) (fun _ _ _ _ => fun _ _ alt => alt) (fun _ _ _ _ _ => fun _ _ alt => alt) (fun _ => fun _ _ alt => alt) PUnit.unit (fun _ _ _ _ => PUnit.unit) s
def aeB (s : SV) : Nat -> (List SV -> Q2 α) -> Q2 α := @SV.rec (fun _ => Nat -> (List SV -> Q2 α) -> Q2 α) (fun _ => PUnit) (fun _ _ _ alt => alt) (fun _ => fun _ _ _ alt => alt) (fun _ _ => fun _ _ _ alt => alt) (fun _ _ => fun _ _ _ alt => alt) (fun _ _ => fun _ _ _ alt => alt) (fun _ _ => fun _ _ _ alt => alt) (fun g m _ f r c alt => BT (Nat.beq f g) (r m c alt) alt) (fun _ => fun _ _ _ alt => alt) (fun _ _ => fun _ _ _ alt => alt) (fun _ => fun _ _ _ alt => alt) (fun _ _ _ _ => fun _ _ _ alt => alt) (fun _ _ _ _ => fun _ _ _ alt => alt) (fun _ _ _ _ _ => fun _ _ _ alt => alt) (fun _ => fun _ _ _ alt => alt) PUnit.unit (fun _ _ _ _ => PUnit.unit) s
def eqS (s : SV) : SV -> Q2 α := @SV.rec (fun _ => SV -> Q2 α) (fun _ => List SV -> Q2 α) (fun _ c _ => c) (fun d b c alt => dtX b d c alt) (fun _ r b c alt => agE b r c alt) (fun _ r b c alt => tuE b r c alt) (fun i x b c alt => aaq b i x c alt) (fun m g b c alt => .need (SV.el m g = b) c) (fun f _ r b c alt => aeB b f r c alt) (fun p b c alt => kbE b p c alt) (fun k n b c alt => kiE b k n c alt) (fun i b c alt => nmE b i c alt) (fun i x y z b c alt => rpE b i x y z c alt) (fun k a d n b c alt => riE b k a d n c alt) (fun i x y z k b c alt => slE b i x y z k c alt) (fun t b c alt => syE b t c alt) (fun m c alt => @List.rec SV (fun _ => T α) c (fun _ _ _ => alt) m) (fun _ _ r rl m c alt => @List.rec SV (fun _ => T α) alt (fun y m _ => r y (rl m c alt) alt) m) s
def eqL (l : List SV) : List SV -> Q2 α := @List.rec SV (fun _ => List SV -> Q2 α) (fun m c alt => @List.rec SV (fun _ => T α) c (fun _ _ _ => alt) m) (fun x _ rl m c alt => @List.rec SV (fun _ => T α) alt (fun y m _ => eqS x y (rl m c alt) alt) m) l
def Imp (a b : SV) : Prop := ∀ (C : Ctx) (w : World) (v : Value), rel C w b v -> rel C w a v
def Yd (l m : List SV) : Prop := ∀ (C : Ctx) (w : World) (vs : List Value), relL C w m vs -> relL C w l vs
theorem wS {a b : SV} {P Q : Prop} (h : (a = b /\ P) ∨ Q) : (Imp a b /\ P) ∨ Q := by
 rcases h with ⟨rfl, h⟩ | h
 · exact .inl ⟨fun _ _ _ h => h, h⟩
 · exact .inr h
theorem RG {k : IntKind} {a d n m : Int} {s : SV} (h : n = m /\ a <= n /\ n <= d) (hs : ∀ (C : Ctx) (w : World) (v : Value), rel C w s v -> v = .int k m) : Imp (.ri k a d n) s := fun C w v hv => ⟨by rw [hs C w v hv, h.1], h.2⟩
theorem OP {k k' : IntKind} {a d n a' b' n' : Int} {c alt : T α} {post : α -> Prop} {s : SV} (hs : ∀ (C : Ctx) (w : World) (v : Value), rel C w s v -> v = .int k' n' /\ a' <= n' /\ n' <= b')
  (h : (BT (dR k k') (BT (aK (eqI a a') (eqI d b')) (.need (n = n') c) (riW n a d n' c)) alt).holds post) : (Imp (SV.ri k a d n) s /\ c.holds post) ∨ alt.holds post := by
 rcases fZ h with ⟨h1, g⟩ | g
 · have h1 := pU h1
   refine .inl ?_
   cases hb : aK (eqI a a') (eqI d b') with
   | true =>
     rw [hb] at g
     obtain ⟨q1, q2⟩ := aB hb
     have q1 := yQ q1
     have q2 := yQ q2
     have g : n = n' /\ c.holds post := g
     exact ⟨fun C w v hv => by rw [h1, q1, q2, g.1]; exact hs C w v hv, g.2⟩
   | false =>
     rw [hb] at g
     have g : (n = n' /\ a <= n /\ n <= d) /\ c.holds post := g
     exact ⟨RG g.1 fun C w v hv => by rw [h1]; exact (hs C w v hv).1, g.2⟩
 · exact .inr g
theorem OQ {k k' : IntKind} {a d n m : Int} {c alt : T α} {post : α -> Prop} {s : SV} (hs : ∀ (C : Ctx) (w : World) (v : Value), rel C w s v -> v = .int k' m)
  (h : (BT (dR k k') (riW n a d m c) alt).holds post) : (Imp (SV.ri k a d n) s /\ c.holds post) ∨ alt.holds post := by
 rcases fZ h with ⟨h1, g⟩ | g
 · have h1 := pU h1
   have g : (n = m /\ a <= n /\ n <= d) /\ c.holds post := g
   exact .inl ⟨RG g.1 fun C w v hv => by rw [h1]; exact hs C w v hv, g.2⟩
 · exact .inr g
theorem WS {b : SV} {c alt : T α} {post : α -> Prop} {k : IntKind} {a d n : Int} (h : (riE b k a d n c alt).holds post) : (Imp (SV.ri k a d n) b /\ c.holds post) ∨ alt.holds post := by
 cases b
 case ri k' a' b' n' => exact OP (fun C w v hv => hv) h
 case ki k' m => exact OQ (fun C w v hv => hv) h
 case dt e =>
  have h : (riD e k a d n c alt).holds post := h
  unfold riD at h
  split at h
  · rename_i u
    unfold riN at h
    split at h
    · exact OQ (fun C w v hv => aj.1 hv) h
    · exact .inr h
  · exact OP (fun C w v hv => hv.here) h
  · exact .inr h
 all_goals exact .inr h
def YA (l : List SV) : List SV -> Q2 α := @SV.rec_1 (fun _ => SV -> Q2 α) (fun _ => List SV -> Q2 α) (fun _ c _ => c) (fun d b c alt => dtX b d c alt) (fun _ r b c alt => agE b r c alt) (fun _ r b c alt => tuE b r c alt) (fun i x b c alt => aaq b i x c alt) (fun m g b c alt => .need (SV.el m g = b) c) (fun f _ r b c alt => aeB b f r c alt) (fun p b c alt => kbE b p c alt) (fun k n b c alt => kiE b k n c alt) (fun i b c alt => nmE b i c alt) (fun i x y z b c alt => rpE b i x y z c alt) (fun k a d n b c alt => riE b k a d n c alt) (fun i x y z k b c alt => slE b i x y z k c alt) (fun t b c alt => syE b t c alt) (fun m c alt => @List.rec SV (fun _ => T α) c (fun _ _ _ => alt) m) (fun _ _ r rl m c alt => @List.rec SV (fun _ => T α) alt (fun y m _ => r y (rl m c alt) alt) m) l
mutual
theorem sN {c alt : T α} {post : α -> Prop} : ∀ {a b : SV}, (eqS a b c alt).holds post -> (Imp a b /\ c.holds post) ∨ alt.holds post
 | .junk, b, h => .inl ⟨fun _ _ _ _ => trivial, h⟩
 | .dt d, b, h => wS (VX h)
 | .agg l, b, h => by
   cases b
   case agg m =>
    rcases sK (l := l) (m := m) h with ⟨h1, h2⟩ | h
    · exact .inl ⟨fun C w v ⟨vs, e, r⟩ => ⟨vs, e, h1 C w vs r⟩, h2⟩
    · exact .inr h
   all_goals exact .inr h
 | .tup l, b, h => by
   cases b
   case tup m =>
    rcases sK (l := l) (m := m) h with ⟨h1, h2⟩ | h
    · exact .inl ⟨fun C w v ⟨vs, e, r⟩ => ⟨vs, e, h1 C w vs r⟩, h2⟩
    · exact .inr h
   all_goals exact .inr h
 | .ptr i o, b, h => wS (Tc h)
 | .el m g, b, h => wS (.inl ⟨h.1, h.2⟩)
 | .fn f l, b, h => by
   cases b
   case fn g m =>
    rcases fZ (show (BT (Nat.beq f g) (YA l m c alt) alt).holds post from h) with ⟨h0, h⟩ | h
    · rcases sK (l := l) (m := m) h with ⟨h1, h2⟩ | h
      · rw [Nat.eq_of_beq_eq_true h0]
        exact .inl ⟨fun C w v ⟨vs, e, r⟩ => ⟨vs, e, h1 C w vs r⟩, h2⟩
      · exact .inr h
    · exact .inr h
   all_goals exact .inr h
 | .kb p, b, h => wS (Ws h)
 | .ki k n, b, h => wS (Wt h)
 | .nm i, b, h => wS (Wz h)
 | .rp i x y z, b, h => wS (WV h)
 | .ri k a d n, b, h => WS h
 | .sl i x y z k, b, h => wS (WY h)
 | .sy t, b, h => Xh h
theorem sK {c alt : T α} {post : α -> Prop} : ∀ {l m : List SV}, (YA l m c alt).holds post -> (Yd l m /\ c.holds post) ∨ alt.holds post
 | [], [], h => .inl ⟨fun _ _ _ h => h, h⟩
 | [], _ :: _, h => .inr h
 | _ :: _, [], h => .inr h
 | x :: l, y :: m, h => by
   rcases sN (a := x) (b := y) (c := YA l m c alt) h with ⟨h1, h2⟩ | h
   · rcases sK (l := l) (m := m) h2 with ⟨h3, h4⟩ | h
     · exact .inl ⟨fun C w vs ⟨v, r, e, q1, q2⟩ => ⟨v, r, e, h1 C w v q1, h3 C w r q2⟩, h4⟩
     · exact .inr h
   · exact .inr h
end
theorem sM {c alt : T α} {post : α -> Prop} : ∀ {l m : List SV}, (eqL l m c alt).holds post -> (Yd l m /\ c.holds post) ∨ alt.holds post
 | [], [], h => .inl ⟨fun _ _ _ h => h, h⟩
 | [], _ :: _, h => .inr h
 | _ :: _, [], h => .inr h
 | x :: l, y :: m, h => by
   rcases sN (a := x) (b := y) (c := eqL l m c alt) h with ⟨h1, h2⟩ | h
   · rcases sM (l := l) (m := m) h2 with ⟨h3, h4⟩ | h
     · exact .inl ⟨fun C w vs ⟨v, r, e, q1, q2⟩ => ⟨v, r, e, h1 C w v q1, h3 C w r q2⟩, h4⟩
     · exact .inr h
   · exact .inr h
def asg (c i : Nat) (l : List Nat) : List Nat := @Bool.rec (fun _ => List Nat) l (@Bool.rec (fun _ => List Nat) (l ++ [i]) l (P9 i l)) (Nat.beq c l.length)
def aiP (s : SV) : Nat -> List Nat -> List Nat := @SV.rec (fun _ => Nat -> List Nat -> List Nat) (fun _ => PUnit) (fun _ l => l) (fun _ => fun _ l => l) (fun _ _ => fun _ l => l) (fun _ _ => fun _ l => l) (fun i _ c l => asg c i l) (fun _ _ => fun _ l => l) (fun _ _ _ => fun _ l => l) (fun _ => fun _ l => l) (fun _ _ => fun _ l => l) (fun _ => fun _ l => l) (fun _ _ _ _ => fun _ l => l) (fun _ _ _ _ => fun _ l => l) (fun _ _ _ _ _ => fun _ l => l) (fun _ => fun _ l => l) PUnit.unit (fun _ _ _ _ => PUnit.unit) s
def nmA (s : SV) : Nat -> List Nat -> List Nat := @SV.rec (fun _ => Nat -> List Nat -> List Nat) (fun _ => PUnit) (fun _ l => l) (fun _ => fun _ l => l) (fun _ _ => fun _ l => l) (fun _ _ => fun _ l => l) (fun _ _ => fun _ l => l) (fun _ _ => fun _ l => l) (fun _ _ _ => fun _ l => l) (fun _ => fun _ l => l) (fun _ _ => fun _ l => l) (fun i c l => asg c i l) (fun _ _ _ _ => fun _ l => l) (fun _ _ _ _ => fun _ l => l) (fun _ _ _ _ _ => fun _ l => l) (fun _ => fun _ l => l) PUnit.unit (fun _ _ _ _ => PUnit.unit) s
def rpA (s : SV) : Nat -> List Nat -> List Nat := @SV.rec (fun _ => Nat -> List Nat -> List Nat) (fun _ => PUnit) (fun _ l => l) (fun _ => fun _ l => l) (fun _ _ => fun _ l => l) (fun _ _ => fun _ l => l) (fun _ _ => fun _ l => l) (fun _ _ => fun _ l => l) (fun _ _ _ => fun _ l => l) (fun _ => fun _ l => l) (fun _ _ => fun _ l => l) (fun _ => fun _ l => l) (fun i _ _ _ c l => asg c i l) (fun _ _ _ _ => fun _ l => l) (fun _ _ _ _ _ => fun _ l => l) (fun _ => fun _ l => l) PUnit.unit (fun _ _ _ _ => PUnit.unit) s
def slA (s : SV) : Nat -> List Nat -> List Nat := @SV.rec (fun _ => Nat -> List Nat -> List Nat) (fun _ => PUnit) (fun _ l => l) (fun _ => fun _ l => l) (fun _ _ => fun _ l => l) (fun _ _ => fun _ l => l) (fun _ _ => fun _ l => l) (fun _ _ => fun _ l => l) (fun _ _ _ => fun _ l => l) (fun _ => fun _ l => l) (fun _ _ => fun _ l => l) (fun _ => fun _ l => l) (fun _ _ _ _ => fun _ l => l) (fun _ _ _ _ => fun _ l => l) (fun i _ _ _ _ c l => asg c i l) (fun _ => fun _ l => l) PUnit.unit (fun _ _ _ _ => PUnit.unit) s
def agA (s : SV) : (List SV -> List Nat -> List Nat) -> List Nat -> List Nat := @SV.rec (fun _ => (List SV -> List Nat -> List Nat) -> List Nat -> List Nat) (fun _ => PUnit) (fun _ l => l) (fun _ => fun _ l => l) (fun m _ r l => r m l) (fun _ _ => fun _ l => l) (fun _ _ => fun _ l => l) (fun _ _ => fun _ l => l) (fun _ _ _ => fun _ l => l) (fun _ => fun _ l => l) (fun _ _ => fun _ l => l) (fun _ => fun _ l => l) (fun _ _ _ _ => fun _ l => l) (fun _ _ _ _ => fun _ l => l) (fun _ _ _ _ _ => fun _ l => l) (fun _ => fun _ l => l) PUnit.unit (fun _ _ _ _ => PUnit.unit) s
def tuA (s : SV) : (List SV -> List Nat -> List Nat) -> List Nat -> List Nat := @SV.rec (fun _ => (List SV -> List Nat -> List Nat) -> List Nat -> List Nat) (fun _ => PUnit) (fun _ l => l) (fun _ => fun _ l => l) (fun _ _ => fun _ l => l) (fun m _ r l => r m l) (fun _ _ => fun _ l => l) (fun _ _ => fun _ l => l) (fun _ _ _ => fun _ l => l) (fun _ => fun _ l => l) (fun _ _ => fun _ l => l) (fun _ => fun _ l => l) (fun _ _ _ _ => fun _ l => l) (fun _ _ _ _ => fun _ l => l) (fun _ _ _ _ _ => fun _ l => l) (fun _ => fun _ l => l) PUnit.unit (fun _ _ _ _ => PUnit.unit) s
def fnA (s : SV) : (List SV -> List Nat -> List Nat) -> List Nat -> List Nat := @SV.rec (fun _ => (List SV -> List Nat -> List Nat) -> List Nat -> List Nat) (fun _ => PUnit) (fun _ l => l) (fun _ => fun _ l => l) (fun _ _ => fun _ l => l) (fun _ _ => fun _ l => l) (fun _ _ => fun _ l => l) (fun _ _ => fun _ l => l) (fun _ m _ r l => r m l) (fun _ => fun _ l => l) (fun _ _ => fun _ l => l) (fun _ => fun _ l => l) (fun _ _ _ _ => fun _ l => l) (fun _ _ _ _ => fun _ l => l) (fun _ _ _ _ _ => fun _ l => l) (fun _ => fun _ l => l) PUnit.unit (fun _ _ _ _ => PUnit.unit) s
def asS (s : SV) : SV -> List Nat -> List Nat := @SV.rec (fun _ => SV -> List Nat -> List Nat) (fun _ => List SV -> List Nat -> List Nat) (fun _ l => l) (fun _ => fun _ l => l) (fun _ r b l => agA b r l) (fun _ r b l => tuA b r l) (fun c _ b l => aiP b c l) (fun _ _ => fun _ l => l) (fun _ _ r b l => fnA b r l) (fun _ => fun _ l => l) (fun _ _ => fun _ l => l) (fun c b l => nmA b c l) (fun c _ _ _ b l => rpA b c l) (fun _ _ _ _ => fun _ l => l) (fun c _ _ _ _ b l => slA b c l) (fun _ => fun _ l => l) (fun _ l => l) (fun _ _ r rl m l => @List.rec SV (fun _ => List Nat) l (fun y m _ => rl m (r y l)) m) s
def asL (s : List SV) : List SV -> List Nat -> List Nat := @List.rec SV (fun _ => List SV -> List Nat -> List Nat) (fun _ l => l) (fun x _ rl m l => @List.rec SV (fun _ => List Nat) l (fun y m _ => rl m (asS x y l)) m) s
theorem nU {c i : Nat} {l : List Nat} (h : l.Nodup) : (asg c i l).Nodup := by
 unfold asg
 cases Nat.beq c l.length with
 | false => exact h
 | true =>
   cases hb : P9 i l with
   | true => exact h
   | false =>
     have : i ∉ l := fun hm => by rw [I9.2 hm] at hb; cases hb
     show (l ++ [i]).Nodup
     rw [List.nodup_append]
     exact ⟨h, by simp, fun a ha b hb e => by simp at hb; subst hb; subst e; exact this ha⟩
mutual
theorem yx : ∀ (a b : SV) (l : List Nat), l.Nodup -> (asS a b l).Nodup
 | .agg x, b, l, h => by
   cases b
   case agg m => exact xC x m l h
   all_goals exact h
 | .tup x, b, l, h => by
   cases b
   case tup m => exact xC x m l h
   all_goals exact h
 | .fn _ x, b, l, h => by
   cases b
   case fn g m => exact xC x m l h
   all_goals exact h
 | .ptr _ _, b, l, h => by
   cases b
   case ptr i _ => exact nU h
   all_goals exact h
 | .nm _, b, l, h => by
   cases b
   case nm i => exact nU h
   all_goals exact h
 | .rp _ _ _ _, b, l, h => by
   cases b
   case rp i _ _ _ => exact nU h
   all_goals exact h
 | .sl _ _ _ _ _, b, l, h => by
   cases b
   case sl i _ _ _ _ => exact nU h
   all_goals exact h
 | .junk, _, _, h => h
 | .dt _, _, _, h => h
 | .el _ _, _, _, h => h
 | .kb _, _, _, h => h
 | .ki _ _, _, _, h => h
 | .ri _ _ _ _, _, _, h => h
 | .sy _, _, _, h => h
theorem xC : ∀ (x m : List SV) (l : List Nat), l.Nodup -> (asS (.agg x) (.agg m) l).Nodup
 | [], _, _, h => h
 | s :: x, [], _, h => h
 | s :: x, y :: m, l, h => xC x m _ (yx s y l h)
end
theorem yw : ∀ (x m : List SV) (l : List Nat), l.Nodup -> (asL x m l).Nodup
 | [], _, _, h => h
 | s :: x, [], _, h => h
 | s :: x, y :: m, l, h => yw x m _ (yx s y l h)
end
end Rx
set_option linter.unusedSectionVars false
set_option linter.unusedSimpArgs false
set_option linter.unusedVariables false
namespace Rx
open Go
variable [Glob]
noncomputable section
def asT (t : Tr SV) : Tr SV -> List Nat -> List Nat := @Tr.rec SV (fun _ => Tr SV -> List Nat -> List Nat) (fun _ l => l) (fun _ v _ gl gr u l => @Tr.rec SV (fun _ => List Nat) l (fun l' v' r' _ _ => gr r' (asS v v' (gl l' l))) u) t
def clA (b : Ob) : List SV -> List Nat -> List Nat := @Ob.rec (fun _ => List SV -> List Nat -> List Nat) (fun _ cs' cs l => asL cs cs' l) (fun _ _ _ _ _ l => l) (fun _ _ l => l) (fun _ _ _ _ l => l) (fun _ _ _ _ l => l) (fun _ _ _ _ _ _ l => l) (fun _ _ _ _ l => l) b
def vcA (b : Ob) : Tr SV -> List Nat -> List Nat := @Ob.rec (fun _ => Tr SV -> List Nat -> List Nat) (fun _ _ _ l => l) (fun _ _ _ _ _ l => l) (fun _ _ l => l) (fun _ _ _ _ l => l) (fun _ _ _ _ l => l) (fun _ _ _ tr' _ tr l => asT tr tr' l) (fun _ _ _ _ l => l) b
def itA (b : Ob) : Nat -> List Nat -> List Nat := @Ob.rec (fun _ => Nat -> List Nat -> List Nat) (fun _ _ _ l => l) (fun _ _ _ _ _ l => l) (fun _ _ l => l) (fun _ _ _ _ l => l) (fun i _ _ c l => asg c i l) (fun _ _ _ _ _ _ l => l) (fun i _ _ c l => asg c i l) b
def asB (a : Ob) : Ob -> List Nat -> List Nat := @Ob.rec (fun _ => Ob -> List Nat -> List Nat) (fun _ cs b l => clA b cs l) (fun _ _ _ _ _ l => l) (fun _ _ l => l) (fun _ _ _ _ l => l) (fun m _ _ b l => itA b m l) (fun _ _ _ tr _ b l => vcA b tr l) (fun m _ _ b l => itA b m l) a
def asO (o p : Option Ob) (l : List Nat) : List Nat := @Option.rec Ob (fun _ => List Nat) l (fun a => @Option.rec Ob (fun _ => List Nat) l (fun b => asB a b l) p) o
theorem J2 : ∀ (t u : Tr SV) (l : List Nat), l.Nodup -> (asT t u l).Nodup
 | .nil, _, _, h => h
 | .node _ _ _, .nil, _, h => h
 | .node a v b, .node a' v' b', l, h => J2 b b' _ (yx v v' _ (J2 a a' l h))
theorem Yi (o p : Option Ob) (l : List Nat) (h : l.Nodup) : (asO o p l).Nodup := by
 cases o with
 | none => exact h
 | some a =>
   cases p with
   | none => exact h
   | some b =>
     cases a with
     | cells t cs => cases b with
       | cells t' cs' => exact yw cs cs' l h
       | _ => exact h
     | vec t z n tr ex => cases b with
       | vec t' z' n' tr' ex' => exact J2 tr tr' l h
       | _ => exact h
     | it m n s => cases b with
       | it i _ _ => exact nU h
       | itx i _ _ => exact nU h
       | _ => exact h
     | itx m n s => cases b with
       | it i _ _ => exact nU h
       | itx i _ _ => exact nU h
       | _ => exact h
     | _ => exact h
def bQ (l : List Nat) : Nat -> Nat := @List.rec Nat (fun _ => Nat -> Nat) (fun _ => 0) (fun x _ ih n => @Nat.rec (fun _ => Nat) x (fun m _ => ih m) n) l
def qQ (g : Nat -> Option Ob) (os : List (Option Ob)) : Nat -> List Nat -> List Nat := @List.rec (Option Ob) (fun _ => Nat -> List Nat -> List Nat) (fun _ l => l) (fun o _ ih k l => ih (Nat.succ k) (asO o (g (bQ l k)) l)) os
theorem qd {g : Nat -> Option Ob} : ∀ (os : List (Option Ob)) (k : Nat) (l : List Nat), l.Nodup -> (qQ g os k l).Nodup
 | [], _, _, h => h
 | o :: os, k, l, h => qd os _ _ (Yi o _ l h)
def fNT {α : Type} (n : Nat) (f : Nat -> T α) : T α := @Nat.rec (fun _ => T α) (f (nat_lit 0)) (fun m _ => f (Nat.succ m)) n
theorem YD {α : Type} (n : Nat) (f : Nat -> T α) : fNT n f = f n := by cases n <;> rfl
def Kr {α : Type} (l : List Nat) : (List Nat -> T α) -> T α := @List.rec Nat (fun _ => (List Nat -> T α) -> T α) (fun f => f []) (fun x _ ih f => fNT x fun x => ih fun l => f (x :: l)) l
theorem qp {α : Type} : ∀ (l : List Nat) (f : List Nat -> T α), Kr l f = f l
 | [], _ => rfl
 | x :: l, f => by
   show fNT x (fun x => Kr l fun l => f (x :: l)) = _
   rw [YD, qp l]
theorem mF : ∀ {l : List Nat} {n i : Nat}, l[n]? = some i -> bQ l n = i
 | [], _, _, h => by simp at h
 | x :: l, 0, i, h => by
   show x = i
   simpa using h
 | x :: l, n + 1, i, h => by
   show bQ l n = i
   exact mF (by simpa using h)
theorem tY {l : List Nat} (h : l.Nodup) {i j : Nat} (hi : i < l.length) (hj : j < l.length) (e : bQ l i = bQ l j) : i = j := by
 rw [mF (List.getElem?_eq_getElem hi), mF (List.getElem?_eq_getElem hj)] at e
 exact (List.getElem_inj h).1 e
def rnS (r : Nat -> Nat) (s : SV) : SV := @SV.rec (fun _ => SV) (fun _ => List SV) .junk (fun d => .dt d) (fun _ x => .agg x) (fun _ x => .tup x) (fun i o => .ptr (r i) o) (fun m g => .el m g) (fun f _ x => .fn f x) (fun b => .kb b) (fun k n => .ki k n) (fun i => .nm (r i)) (fun i x z o => .rp (r i) x z o) (fun k a b n => .ri k a b n) (fun i z o n c => .sl (r i) z o n c) (fun s => .sy s) [] (fun _ _ x l => x :: l) s
def rnL (r : Nat -> Nat) (l : List SV) : List SV := @List.rec SV (fun _ => List SV) [] (fun s _ ih => rnS r s :: ih) l
def rnT (r : Nat -> Nat) (t : Tr SV) : Tr SV := @Tr.rec SV (fun _ => Tr SV) .nil (fun _ v _ gl gr => .node gl (rnS r v) gr) t
def rnO (r : Nat -> Nat) (b : Ob) : Ob := @Ob.rec (fun _ => Ob) (fun t cs => .cells t (rnL r cs)) (fun t z n f => .row t z n f) (fun d => .frz d) (fun k v l => .mp k v l) (fun m n s => .it (r m) n s) (fun t z n tr ex => .vec t z n (rnT r tr) ex) (fun m n c => .itx (r m) n c) b
def bdS (M : Nat) (s : SV) : Bool := @SV.rec (fun _ => Bool) (fun _ => Bool) true (fun _ => true) (fun _ x => x) (fun _ x => x) (fun i _ => Nat.blt i M) (fun _ _ => true) (fun _ _ x => x) (fun _ => true) (fun _ _ => true) (fun i => Nat.blt i M) (fun i _ _ _ => Nat.blt i M) (fun _ _ _ _ => true) (fun i _ _ _ _ => Nat.blt i M) (fun _ => true) true (fun _ _ x l => aK x l) s
def bdL (M : Nat) (l : List SV) : Bool := @List.rec SV (fun _ => Bool) true (fun s _ ih => aK (bdS M s) ih) l
def bdT (M : Nat) (t : Tr SV) : Bool := @Tr.rec SV (fun _ => Bool) true (fun _ v _ gl gr => aK gl (aK (bdS M v) gr)) t
def bdO (M : Nat) (b : Ob) : Bool := @Ob.rec (fun _ => Bool) (fun _ cs => bdL M cs) (fun _ _ _ _ => true) (fun _ => true) (fun _ _ _ => true) (fun m _ _ => Nat.blt m M) (fun _ _ _ tr _ => bdT M tr) (fun m _ _ => Nat.blt m M) b
def QT (M : Nat) (l : List (Option Ob)) : Bool := @List.rec (Option Ob) (fun _ => Bool) true (fun o _ ih => aK (@Option.rec Ob (fun _ => Bool) true (bdO M) o) ih) l
theorem yB {a b : Nat} (h : Nat.blt a b = true) : a < b := by simpa [Nat.blt_eq] using h
theorem nV {M : Nat} : ∀ {l : List (Option Ob)} {i : Nat} {ob : Ob}, QT M l = true -> l[i]? = some (some ob) -> bdO M ob = true
 | [], _, _, _, h => by simp at h
 | o :: l, 0, ob, hb, h => by simp at h; subst h; exact (aB hb).1
 | o :: l, i + 1, ob, hb, h => nV (l := l) (i := i) (aB hb).2 (by simpa using h)
section
variable {C1 C2 : Ctx} {w : World} {τ ρ : Nat -> Nat} {M : Nat}
mutual
theorem Bl (hW : ∀ b, C2.W b -> C1.W b) (hν : ∀ i u, i < M -> C1.ν (τ i) = some u -> C2.ν (ρ i) = some u) : ∀ (s : SV) (v : Value), bdS M s = true -> rel C1 w (rnS τ s) v -> rel C2 w (rnS ρ s) v
 | .junk, _, _, _ => trivial
 | .dt _, _, _, r => bP hW r
 | .agg l, v, hb, ⟨vs, e, r⟩ => ⟨vs, e, um hW hν l vs hb r⟩
 | .tup l, v, hb, ⟨vs, e, r⟩ => ⟨vs, e, um hW hν l vs hb r⟩
 | .ptr i _, _, hb, ⟨b, h, e⟩ => ⟨b, hν i _ (yB hb) h, e⟩
 | .el _ _, _, _, ⟨b, off, e, p⟩ => ⟨b, off, e, bP hW p⟩
 | .fn _ l, _, hb, ⟨vs, e, r⟩ => ⟨vs, e, um hW hν l vs hb r⟩
 | .kb _, _, _, r => r
 | .sy _, _, _, r => r
 | .ki _ _, _, _, r => r
 | .nm i, v, hb, r => ⟨hν i _ (yB hb) r.1, r.2⟩
 | .rp i _ _ _, _, hb, ⟨b, n, c, h, e⟩ => ⟨b, n, c, hν i _ (yB hb) h, e⟩
 | .ri _ _ _ _, _, _, r => r
 | .sl i _ _ _ _, _, hb, ⟨b, m, cc, x, h, e⟩ => ⟨b, m, cc, x, hν i _ (yB hb) h, e⟩
theorem um (hW : ∀ b, C2.W b -> C1.W b) (hν : ∀ i u, i < M -> C1.ν (τ i) = some u -> C2.ν (ρ i) = some u) : ∀ (l : List SV) (vs : List Value), bdS M (.agg l) = true -> relL C1 w (match rnS τ (.agg l) with | .agg x => x | _ => []) vs -> relL C2 w (match rnS ρ (.agg l) with | .agg x => x | _ => []) vs
 | [], _, _, r => r
 | s :: l, _, hb, ⟨v, r, e, h1, h2⟩ => ⟨v, r, e, Bl hW hν s v (aB hb).1 h1, um hW hν l r (aB hb).2 h2⟩
end
theorem xY (hW : ∀ b, C2.W b -> C1.W b) (hν : ∀ i u, i < M -> C1.ν (τ i) = some u -> C2.ν (ρ i) = some u) : ∀ (l : List SV) (vs : List Value), bdL M l = true -> relL C1 w (rnL τ l) vs -> relL C2 w (rnL ρ l) vs
 | [], _, _, r => r
 | s :: l, _, hb, ⟨v, r, e, h1, h2⟩ => ⟨v, r, e, Bl hW hν s v (aB hb).1 h1, xY hW hν l r (aB hb).2 h2⟩
theorem Gy (r : Nat -> Nat) : ∀ (t : Tr SV) (k : Nat), (rnT r t).get .junk k = rnS r (t.get .junk k)
 | .nil, _ => rfl
 | .node l v x, k => by
   show (Tr.node (rnT r l) (rnS r v) (rnT r x)).get .junk k = _
   simp only [Tr.get]
   cases k.beq 0 with
   | true => rfl
   | false =>
     cases (k % 2).beq 1 with
     | true => exact Gy r l _
     | false => exact Gy r x _
theorem E8 : ∀ (t : Tr SV) (k : Nat), bdT M t = true -> bdS M (t.get .junk k) = true
 | .nil, _, _ => rfl
 | .node l v x, k, h => by
   obtain ⟨h1, h2⟩ := aB h
   obtain ⟨h2, h3⟩ := aB h2
   simp only [Tr.get]
   cases k.beq 0 with
   | true => exact h2
   | false =>
     cases (k % 2).beq 1 with
     | true => exact E8 l _ h1
     | false => exact E8 x _ h3
theorem Jf (hW : ∀ b, C2.W b -> C1.W b) (hν : ∀ i u, i < M -> C1.ν (τ i) = some u -> C2.ν (ρ i) = some u) {i1 i2 : Nat} (h1 : ∀ u, C1.ν i1 = some u -> C2.ν i2 = some u) (h2 : ∀ b, C1.ρ i1 = some b -> C2.ρ i2 = some b) {ob : Ob} (hb : bdO M ob = true)
  (h : obHolds C1 w i1 (rnO τ ob)) : obHolds C2 w i2 (rnO ρ ob) := by
 cases ob with
 | cells t cs =>
   obtain ⟨b, e1, e2, vs, e3, e4⟩ := h
   exact ⟨b, h2 b e1, h1 _ e2, vs, e3, xY hW hν cs vs hb e4⟩
 | row t sz n f =>
   obtain ⟨A, c, e1, e2⟩ := h
   refine ⟨A, c, h1 _ e1, ?_⟩
   rcases e2 with e2 | ⟨b, e2, e3, e4, cur, e5, e6, e7⟩
   · exact .inl e2
   · refine .inr ⟨b, h2 b e2, e3, e4, cur, e5, e6, fun k j hk hj => ?_⟩
     obtain ⟨u, q1, q2, q3⟩ := e7 k j hk hj
     exact ⟨u, q1, q2, bP hW q3⟩
 | frz d =>
   obtain ⟨v, e1, e2⟩ := h
   exact ⟨v, h1 _ e1, bP hW e2⟩
 | mp kt vt l =>
   obtain ⟨b, e1, e2, e3⟩ := h
   exact ⟨b, h2 b e1, h1 _ e2, e3⟩
 | it m n s =>
   obtain ⟨b, bm, e1, e2, e3, e4⟩ := h
   exact ⟨b, bm, h2 b e1, h1 _ e2, hν m _ (yB hb) e3, e4⟩
 | vec t sz n tr ex =>
   obtain ⟨b, m, e1, e2, e3, e4, cur, e5, e6, e7⟩ := h
   refine ⟨b, m, h2 b e1, h1 _ e2, e3, e4, cur, e5, e6, fun k hk => ?_⟩
   obtain ⟨u, q1, q2, q3⟩ := e7 k hk
   refine ⟨u, q1, q2, ?_⟩
   rw [Gy] at q3 ⊢
   exact Bl hW hν _ _ (E8 tr k hb) q3
 | itx m n c =>
   obtain ⟨s, e0, b, bm, e1, e2, e3, e4⟩ := h
   exact ⟨s, e0, b, bm, h2 b e1, h1 _ e2, hν m _ (yB hb) e3, e4⟩
end
mutual
theorem Lr : ∀ s : SV, rnS id s = s
 | .junk => rfl
 | .dt _ => rfl
 | .agg l => congrArg SV.agg (x9 l)
 | .tup l => congrArg SV.tup (x9 l)
 | .ptr _ _ => rfl
 | .el _ _ => rfl
 | .fn f l => congrArg (SV.fn f) (x9 l)
 | .kb _ => rfl
 | .sy _ => rfl
 | .ki _ _ => rfl
 | .nm _ => rfl
 | .rp _ _ _ _ => rfl
 | .ri _ _ _ _ => rfl
 | .sl _ _ _ _ _ => rfl
theorem x9 : ∀ l : List SV, (@SV.rec_1 (fun _ => SV) (fun _ => List SV) .junk (fun d => .dt d) (fun _ x => .agg x) (fun _ x => .tup x) (fun i o => .ptr (id i) o) (fun m g => .el m g) (fun f _ x => .fn f x) (fun b => .kb b) (fun k n => .ki k n) (fun i => .nm (id i)) (fun i x z o => .rp (id i) x z o) (fun k a b n => .ri k a b n) (fun i z o n c => .sl (id i) z o n c) (fun s => .sy s) [] (fun _ _ x l => x :: l) l : List SV) = l
 | [] => rfl
 | s :: l => by
   have h1 := Lr s
   have h2 := x9 l
   show rnS id s :: _ = _
   rw [h1]
   exact congrArg (s :: ·) h2
end
theorem Gx : ∀ l : List SV, rnL id l = l
 | [] => rfl
 | s :: l => by
   show rnS id s :: rnL id l = _
   rw [Lr, Gx l]
theorem Ls : ∀ t : Tr SV, rnT id t = t
 | .nil => rfl
 | .node l v r => by
   show Tr.node (rnT id l) (rnS id v) (rnT id r) = _
   rw [Ls l, Lr, Ls r]
theorem Lp (b : Ob) : rnO id b = b := by
 cases b with
 | cells t cs => exact congrArg (Ob.cells t) (Gx cs)
 | vec t z n tr ex => exact congrArg (fun x => Ob.vec t z n x ex) (Ls tr)
 | _ => rfl
section
variable {α : Type}
def eqT (t : Tr SV) : Tr SV -> Q2 α := @Tr.rec SV (fun _ => Tr SV -> Q2 α) (fun _ c _ => c) (fun _ v _ el er u c alt => @Tr.rec SV (fun _ => T α) alt (fun l v' r _ _ => el l (eqS v v' (er r c alt) alt) alt) u) t
def aiz (t u : Tr SV) : Prop := ∀ k, Imp (t.get .junk k) (u.get .junk k)
def Qz (a b : Ob) : Prop := ∀ (C : Ctx) (w : World) (i : Nat), obHolds C w i b -> obHolds C w i a
theorem Fz {c alt : T α} {post : α -> Prop} : ∀ {t u : Tr SV}, (eqT t u c alt).holds post -> (aiz t u /\ c.holds post) ∨ alt.holds post
 | .nil, _, h => .inl ⟨fun _ _ _ _ _ => trivial, h⟩
 | .node _ _ _, .nil, h => .inr h
 | .node l v r, .node l' v' r', h => by
   rcases Fz (t := l) (u := l') (c := eqS v v' (eqT r r' c alt) alt) h with ⟨h1, h⟩ | h
   · rcases sN h with ⟨h2, h⟩ | h
     · rcases Fz (t := r) (u := r') h with ⟨h3, h⟩ | h
       · refine .inl ⟨fun k => ?_, h⟩
         simp only [Tr.get]
         cases k.beq 0 with
         | true => exact h2
         | false =>
           cases (k % 2).beq 1 with
           | true => exact h1 _
           | false => exact h3 _
       · exact .inr h
     · exact .inr h
   · exact .inr h
 termination_by structural t => t
def clE (b : Ob) : TypeId -> List SV -> Q2 α := @Ob.rec (fun _ => TypeId -> List SV -> Q2 α) (fun t' cs' t cs c alt => BT (Nat.beq t t') (eqL cs cs' c alt) alt) (fun _ _ _ _ _ _ _ alt => alt) (fun _ _ _ _ alt => alt) (fun _ _ _ _ _ _ alt => alt) (fun _ _ _ _ _ _ alt => alt) (fun _ _ _ _ _ _ _ _ alt => alt) (fun _ _ _ _ _ _ alt => alt) b
def vcL (n n' : Nat) (ex ex' : Bool) : Bool := @Bool.rec (fun _ => Bool) (Nat.ble n n') (aK ex' (Nat.beq n n')) ex
theorem aem {n n' : Nat} {ex ex' : Bool} (h : vcL n n' ex ex' = true) : n <= n' /\ (ex = true -> ex' = true /\ n = n') := by
 cases ex with
 | false => exact ⟨Nat.le_of_ble_eq_true h, fun h => by cases h⟩
 | true =>
   obtain ⟨h1, h2⟩ := aB h
   have h2 := Nat.eq_of_beq_eq_true h2
   exact ⟨Nat.le_of_eq h2, fun _ => ⟨h1, h2⟩⟩
def vcE (b : Ob) : TypeId -> Nat -> Nat -> Tr SV -> Bool -> Q2 α := @Ob.rec (fun _ => TypeId -> Nat -> Nat -> Tr SV -> Bool -> Q2 α) (fun _ _ _ _ _ _ _ _ alt => alt) (fun _ _ _ _ _ _ _ _ _ _ alt => alt) (fun _ _ _ _ _ _ _ alt => alt) (fun _ _ _ _ _ _ _ _ _ alt => alt) (fun _ _ _ _ _ _ _ _ _ alt => alt) (fun t' z' n' tr' ex' t z n tr ex c alt => BT (aK (Nat.beq t t') (aK (Nat.beq z z') (vcL n n' ex ex'))) (eqT tr tr' c alt) alt) (fun _ _ _ _ _ _ _ _ _ alt => alt) b
def eqO (a b : Ob) : Q2 α := @Ob.rec (fun _ => Ob -> Q2 α) (fun t cs b => clE b t cs) (fun t z n f b c _ => .need (b = .row t z n f) c) (fun d b c _ => .need (b = .frz d) c) (fun k v l b c _ => .need (b = .mp k v l) c) (fun m n s b c _ => .need (b = .it m n s) c) (fun t z n tr ex b => vcE b t z n tr ex) (fun m n x b c _ => .need (b = .itx m n x) c) a b
theorem V6 {a b : Ob} {c alt : T α} {post : α -> Prop} (h : (eqO a b c alt).holds post) : (Qz a b /\ c.holds post) ∨ alt.holds post := by
 cases a with
 | cells t cs =>
   cases b with
   | cells t' cs' =>
     rcases fZ (show (BT (Nat.beq t t') (eqL cs cs' c alt) alt).holds post from h) with ⟨h1, k⟩ | h
     · rcases sM k with ⟨h2, k⟩ | h
       · have h1 := Nat.eq_of_beq_eq_true h1
         subst h1
         exact .inl ⟨fun C w i ⟨b, e1, e2, vs, e3, e4⟩ => ⟨b, e1, e2, vs, e3, h2 C w vs e4⟩, k⟩
       · exact .inr h
     · exact .inr h
   | _ => exact .inr h
 | vec t z n tr ex =>
   cases b with
   | vec t' z' n' tr' ex' =>
     rcases fZ (show (BT (aK (Nat.beq t t') (aK (Nat.beq z z') (vcL n n' ex ex'))) (eqT tr tr' c alt) alt).holds post from h) with ⟨h1, k⟩ | h
     · obtain ⟨h1, h2⟩ := aB h1
       obtain ⟨h2, h3⟩ := aB h2
       have h1 := Nat.eq_of_beq_eq_true h1
       have h2 := Nat.eq_of_beq_eq_true h2
       obtain ⟨h3, h4⟩ := aem h3
       subst h1 h2
       rcases Fz k with ⟨h5, k⟩ | h
       · exact .inl ⟨fun C w i ⟨b, m, e1, e2, e3, e4, cur, e5, e6, e7⟩ => ⟨b, m, e1, e2, Nat.le_trans h3 e3, fun hx => by rw [(h4 hx).2]; exact e4 (h4 hx).1, cur, e5, e6, fun k hk => by
          obtain ⟨u, q1, q2, q3⟩ := e7 k (Nat.lt_of_lt_of_le hk (Nat.mul_le_mul_right _ h3))
          exact ⟨u, q1, q2, h5 k C w u q3⟩⟩, k⟩
       · exact .inr h
     · exact .inr h
   | _ => exact .inr h
 | row t z n f => obtain ⟨h1, h2⟩ := h; subst h1; exact .inl ⟨fun _ _ _ h => h, h2⟩
 | frz d => obtain ⟨h1, h2⟩ := h; subst h1; exact .inl ⟨fun _ _ _ h => h, h2⟩
 | mp k v l => obtain ⟨h1, h2⟩ := h; subst h1; exact .inl ⟨fun _ _ _ h => h, h2⟩
 | it m n s => obtain ⟨h1, h2⟩ := h; subst h1; exact .inl ⟨fun _ _ _ h => h, h2⟩
 | itx m n c' => obtain ⟨h1, h2⟩ := h; subst h1; exact .inl ⟨fun _ _ _ h => h, h2⟩
def YB (a : Ob) (o : Option Ob) (c alt : T α) : T α := @Option.rec Ob (fun _ => T α) alt (fun b => eqO a b c alt) o
theorem Rq {a : Ob} {o : Option Ob} {c alt : T α} {post : α -> Prop} (h : (YB a o c alt).holds post) : ((∃ b, o = some b /\ Qz a b) /\ c.holds post) ∨ alt.holds post := by
 cases o with
 | none => exact .inr h
 | some b =>
   rcases V6 (show (eqO a b c alt).holds post from h) with ⟨h1, h⟩ | h
   · exact .inl ⟨⟨b, rfl, h1⟩, h⟩
   · exact .inr h
def Kk (r : Nat -> Nat) (g : Nat -> Option Ob) (l : List (Option Ob)) : Nat -> Q2 α := @List.rec (Option Ob) (fun _ => Nat -> Q2 α) (fun _ c _ => c) (fun o _ ih i c alt => @Option.rec Ob (fun _ => T α) (ih (Nat.succ i) c alt) (fun b => YB (rnO r b) (g (r i)) (ih (Nat.succ i) c alt) alt) o) l
theorem jX {r : Nat -> Nat} {g : Nat -> Option Ob} {c alt : T α} {post : α -> Prop} : ∀ {l : List (Option Ob)} {i : Nat}, (Kk r g l i c alt).holds post -> ((∀ j b, l[j]? = some (some b) -> ∃ o, g (r (i + j)) = some o /\ Qz (rnO r b) o) /\ c.holds post) ∨ alt.holds post
 | [], _, h => .inl ⟨fun j b hj => by simp at hj, h⟩
 | none :: l, i, h => by
   rcases jX (l := l) (i := i + 1) h with ⟨h1, h⟩ | h
   · refine .inl ⟨fun j b hj => ?_, h⟩
     cases j with
     | zero => simp at hj
     | succ j => rw [show i + (j + 1) = i + 1 + j by omega]; exact h1 j b (by simpa using hj)
   · exact .inr h
 | some x :: l, i, h => by
   rcases Rq (show (YB (rnO r x) (g (r i)) (Kk r g l (Nat.succ i) c alt) alt).holds post from h) with ⟨h0, h⟩ | h
   · rcases jX (l := l) (i := i + 1) h with ⟨h1, h⟩ | h
     · refine .inl ⟨fun j b hj => ?_, h⟩
       cases j with
       | zero => simp at hj; subst hj; exact h0
       | succ j => rw [show i + (j + 1) = i + 1 + j by omega]; exact h1 j b (by simpa using hj)
     · exact .inr h
   · exact .inr h
end
end
end Rx
set_option linter.unusedSectionVars false
set_option linter.unusedSimpArgs false
set_option linter.unusedVariables false
namespace Rx
open Go
variable [Glob]
noncomputable section
structure TE where
 m : Nat
 al : List SV
 obs : List (Option Ob)
 r : SV
 out : List (Option Ob)
def TE.M (e : TE) : Nat := Nat.add e.m e.out.length
def TE.ok (e : TE) : Bool := aK (bdL e.m e.al) (aK (QT e.m e.obs) (aK (Nat.ble e.obs.length e.m) (aK (bdS e.M e.r) (QT e.M e.out))))
def ah (P : Program) (f : FuncId) (e : TE) : Prop := e.ok = true /\
 ∀ (C : Ctx) (w : World) (vs : List Value), WF C w -> (∀ i ob, e.obs[i]? = some (some ob) -> obHolds C w i ob) -> (∀ i, e.m <= i -> C.ν i = none) -> relL C w e.al vs ->
   callable P f = true /\ Calls P f vs.toArray w fun x w' => ∃ v C' τ, x = .returned v /\ Step (fun i => e.m <= i) C w C' w' /\ WF C' w' /\ (∀ i, i < e.m -> C'.ν i = C.ν i) /\
    (∀ i, i < e.m -> τ i = i) /\ (∀ i, e.m <= i -> i < e.M -> e.m <= τ i) /\ (∀ i j, e.m <= i -> i < e.M -> e.m <= j -> j < e.M -> τ i = τ j -> i = j) /\
    rel C' w' (rnS τ e.r) v /\ ∀ t ob, e.out[t]? = some (some ob) -> obHolds C' w' (τ (e.m + t)) (rnO τ ob)
def gF (m : Nat) (ids : List Nat) (new i : Nat) : Nat := @Bool.rec (fun _ => Nat) (Nat.add new (Nat.sub i m)) (bQ ids i) (Nat.blt i m)
def SY (r : Nat -> Nat) (l : List (Option Ob)) : Nat -> List (Nat × Option Ob) := @List.rec (Option Ob) (fun _ => Nat -> List (Nat × Option Ob)) (fun _ => []) (fun o _ ih n => (n, @Option.rec Ob (fun _ => Option Ob) none (fun b => some (rnO r b)) o) :: ih (Nat.succ n)) l
def q9 (l : List SV) : List SV := @List.rec SV (fun _ => List SV) [] (fun s _ ih => nKS s :: ih) l
def resE (e : TE) (ids : List Nat) (new : Nat) : Res := ⟨rnS (gF e.m ids new) e.r, ⟨SY (gF e.m ids new) e.out new, upto new e.out.length⟩⟩
def EN (e : TE) (al : List SV) (g : Nat -> Option Ob) (new : Nat) (alt : T Res) : T Res :=
 Kr (qQ g e.obs (nat_lit 0) (asL e.al al [])) fun ids =>
    BT (Nat.beq ids.length e.m) (eqL (rnL (gF e.m ids new) e.al) al (Kk (gF e.m ids new) g e.obs (nat_lit 0) (.ret (resE e ids new)) alt) alt) alt
def JQ (es : List (Nat × TE)) (al : List SV) (g : Nat -> Option Ob) (new : Nat) (alt : T Res) : T Res :=
 @List.rec (Nat × TE) (fun _ => T Res) alt (fun x _ ih => BT (Nat.beq x.1 new) (EN x.2 al g new ih) ih) es
def Vm (es : List (Nat × TE)) : Summ := ⟨false, fun _ _ _ => [], fun al g new _ => JQ es (q9 al) g new .fail⟩
theorem jS {C : Ctx} {w : World} : ∀ {al : List SV} {vs : List Value}, relL C w al vs -> relL C w (q9 al) vs
 | [], _, h => h
 | s :: l, _, ⟨v, r, e, h1, h2⟩ => ⟨v, r, e, by rw [vo]; exact zJ h1, jS h2⟩
theorem Es {r : Nat -> Nat} : ∀ {l : List (Option Ob)} {n i : Nat} {x : Option Ob}, (SY r l n).lookup i = some x -> ∃ t o, i = n + t /\ l[t]? = some o /\ x = o.map (rnO r)
 | [], _, _, _, h => by cases h
 | o :: l, n, i, x, h => by
   have h : List.lookup i ((n, @Option.rec Ob (fun _ => Option Ob) none (fun b => some (rnO r b)) o) :: SY r l (n + 1)) = some x := h
   rw [List.lookup_cons] at h
   by_cases e : i = n
   · subst e
     simp at h
     refine ⟨0, o, rfl, rfl, ?_⟩
     rw [← h]
     cases o <;> rfl
   · have : (i == n) = false := by simpa using e
     rw [this] at h
     obtain ⟨t, o', h1, h2, h3⟩ := Es (l := l) (n := n + 1) h
     exact ⟨t + 1, o', by omega, by simpa using h2, h3⟩
theorem nA {m : Nat} {ids : List Nat} {new i : Nat} (h : i < m) : gF m ids new i = bQ ids i := by
 unfold gF
 have : Nat.blt i m = true := by rw [Nat.blt_eq]; exact h
 rw [this]
theorem OO {m : Nat} {ids : List Nat} {new i : Nat} (h : m <= i) : gF m ids new i = new + (i - m) := by
 unfold gF
 have : Nat.blt i m = false := by
  cases hb : Nat.blt i m with
  | false => rfl
  | true => rw [Nat.blt_eq] at hb; omega
 rw [this]
 rfl
def gY (C : Ctx) (m : Nat) (ids : List Nat) : Ctx :=
 ⟨fun i => if i < m then C.ν (bQ ids i) else none, fun i => if i < m then C.ρ (bQ ids i) else none, fun b => C.W0 b ∨ ∃ j, C.ρ j = some b /\ ∀ i, i < m -> bQ ids i ≠ j⟩
theorem uG : ∀ (k n i : Nat), n <= i -> i < n + k -> i ∈ upto n k
 | 0, n, i, h1, h2 => by omega
 | k + 1, n, i, h1, h2 => by
   simp only [upto, List.mem_cons]
   by_cases h : i = n
   · exact .inl h
   · exact .inr (uG k (n + 1) i (by omega) (by omega))
theorem BP {P : Program} {f : FuncId} {e : TE} (he : ah P f e) {C : Ctx} {w : World} {g : Nat -> Option Ob} {al : List SV} {vs : List Value} {new : Nat} {post : Res -> Prop} (hw : WF C w) (hg : ObsOk C w g)
  (hnew : ∀ r, post r -> ∀ i ∈ r.eff.new, C.ν i = none) (hr : relL C w al vs) {ids : List Nat} (hnd : ids.Nodup) (hlen : ids.length = e.m) (hal : Yd (rnL (gF e.m ids new) e.al) al)
  (hobs : ∀ i ob, e.obs[i]? = some (some ob) -> ∃ o, g (gF e.m ids new i) = some o /\ Qz (rnO (gF e.m ids new) ob) o) (h : post (resE e ids new)) :
  callable P f = true /\ Calls P f vs.toArray w fun x w' => ∃ v C' r, x = .returned v /\ post r /\ Came C w r C' w' v := by
 obtain ⟨hok, he⟩ := he
 obtain ⟨b1, hok⟩ := aB hok
 obtain ⟨b2, hok⟩ := aB hok
 obtain ⟨b3, hok⟩ := aB hok
 obtain ⟨b4, b5⟩ := aB hok
 have hnew := hnew _ h
 have hnew : ∀ i, new <= i -> i < new + e.out.length -> C.ν i = none := fun i h1 h2 => hnew i (uG _ _ _ h1 h2)
 have hρinj : ∀ i j, i < e.m -> j < e.m -> bQ ids i = bQ ids j -> i = j := fun i j hi hj hij => tY hnd (by omega) (by omega) hij
 have hW : ∀ b, (gY C e.m ids).W b ↔ C.W b := by
  intro b
  constructor
  · rintro ((hb | ⟨j, hj, _⟩) | ⟨i, hi⟩)
    · exact .inl hb
    · exact .inr ⟨j, hj⟩
    · have hi : (if i < e.m then C.ρ (bQ ids i) else none) = some b := hi
      split at hi
      · exact .inr ⟨_, hi⟩
      · cases hi
  · rintro (hb | ⟨j, hj⟩)
    · exact .inl (.inl hb)
    · by_cases hex : ∃ i, i < e.m /\ bQ ids i = j
      · obtain ⟨i, hi, rfl⟩ := hex
        exact .inr ⟨i, by show (if i < e.m then C.ρ (bQ ids i) else none) = some b; rw [if_pos hi]; exact hj⟩
      · exact .inl (.inr ⟨j, hj, fun i hi hij => hex ⟨i, hi, hij⟩⟩)
 have hC0ν : ∀ i, i < e.m -> (gY C e.m ids).ν i = C.ν (bQ ids i) := fun i hi => if_pos hi
 have hC0ρ : ∀ i, i < e.m -> (gY C e.m ids).ρ i = C.ρ (bQ ids i) := fun i hi => if_pos hi
 have hC0ν' : ∀ i, e.m <= i -> (gY C e.m ids).ν i = none := fun i hi => if_neg (by omega)
 have hC0ρ' : ∀ i, e.m <= i -> (gY C e.m ids).ρ i = none := fun i hi => if_neg (by omega)
 have hC0W0 : ∀ b, (gY C e.m ids).W0 b ↔ (C.W0 b ∨ ∃ j, C.ρ j = some b /\ ∀ i, i < e.m -> bQ ids i ≠ j) := fun b => Iff.rfl
 have hwf0 : WF (gY C e.m ids) w := by
  refine ⟨fun i b hi => ?_, fun i j b hi hj => ?_, fun b hb => ?_, fun i b hi => ?_, fun i b hi hb => ?_, bP (fun b hb => (hW b).1 hb) hw.gl⟩
  · by_cases h1 : i < e.m
    · rw [hC0ρ i h1] at hi; exact hw.lt _ _ hi
    · rw [hC0ρ' i (by omega)] at hi; cases hi
  · by_cases h1 : i < e.m
    · by_cases h2 : j < e.m
      · rw [hC0ρ i h1] at hi; rw [hC0ρ j h2] at hj
        exact hρinj i j h1 h2 (hw.inj _ _ b hi hj)
      · rw [hC0ρ' j (by omega)] at hj; cases hj
    · rw [hC0ρ' i (by omega)] at hi; cases hi
  · rcases hb with hb | ⟨j, hj, _⟩
    · exact hw.w0 b hb
    · exact hw.lt j b hj
  · by_cases h1 : i < e.m
    · rw [hC0ρ i h1] at hi
      rw [hC0ν i h1]
      exact hw.own _ b hi
    · rw [hC0ρ' i (by omega)] at hi; cases hi
  · by_cases h1 : i < e.m
    · rw [hC0ρ i h1] at hi
      rcases hb with hb | ⟨j, hj, hn⟩
      · exact hw.dis _ b hi hb
      · exact hn i h1 (hw.inj _ _ b hi hj)
    · rw [hC0ρ' i (by omega)] at hi; cases hi
 have hν0 : ∀ i u, i < e.m -> C.ν (gF e.m ids new i) = some u -> (gY C e.m ids).ν (id i) = some u := fun i u hi hu => by
  rw [nA hi] at hu
  show (gY C e.m ids).ν i = _
  rw [hC0ν i hi]; exact hu
 have hobs0 : ∀ i ob, e.obs[i]? = some (some ob) -> obHolds (gY C e.m ids) w i ob := by
  intro i ob hi
  have hil : i < e.m := by
   have := (List.getElem?_eq_some_iff.1 hi).1
   have := Nat.le_of_ble_eq_true b3
   omega
  obtain ⟨o, ho, hio⟩ := hobs i ob hi
  have h1 := hio _ _ _ (hg _ _ ho)
  have := Jf (C1 := C) (C2 := gY C e.m ids) (τ := gF e.m ids new) (ρ := id) (fun b hb => (hW b).1 hb) hν0 (i1 := gF e.m ids new i) (i2 := i) (fun u hu => hν0 i u hil hu) (fun b hb => by rw [hC0ρ i hil, ← nA (ids := ids) (new := new) hil]; exact hb) (nV b2 hi) h1
  rwa [Lp] at this
 have hrel0 : relL (gY C e.m ids) w e.al vs := by
  have hr := hal _ _ _ hr
  have := xY (C2 := gY C e.m ids) (ρ := id) (fun b hb => (hW b).1 hb) hν0 e.al vs b1 hr
  rwa [Gx] at this
 obtain ⟨hc, hcalls⟩ := he _ w vs hwf0 hobs0 hC0ν' hrel0
 refine ⟨hc, hcalls.mono ?_⟩
 rintro x w' ⟨v, D, τ, rfl, hst, hwf, hkeep, ht1, ht2, ht3, hres, hout⟩
 generalize gY C e.m ids = C0 at *
 have hnb : ∀ j u, C.ν j = some u -> ¬ (new <= j /\ j < new + e.out.length) := fun j u hj hb => by rw [hnew j hb.1 hb.2] at hj; cases hj
 have hnr : ∀ j b, C.ρ j = some b -> ¬ (new <= j /\ j < new + e.out.length) := fun j b hj hb => by
  obtain ⟨u, hu⟩ := hw.own j b hj
  exact hnb j u hu hb
 let C' : Ctx := ⟨fun j => if new <= j /\ j < new + e.out.length then D.ν (τ (e.m + (j - new))) else C.ν j, fun j => if new <= j /\ j < new + e.out.length then D.ρ (τ (e.m + (j - new))) else C.ρ j, C.W0⟩
 have hM : e.M = e.m + e.out.length := rfl
 have hC'n : ∀ t, t < e.out.length -> C'.ν (new + t) = D.ν (τ (e.m + t)) := fun t ht => by
  show (if new <= new + t /\ new + t < new + e.out.length then D.ν (τ (e.m + (new + t - new))) else C.ν (new + t)) = _
  rw [if_pos (by omega), show new + t - new = t by omega]
 have hC'r : ∀ t, t < e.out.length -> C'.ρ (new + t) = D.ρ (τ (e.m + t)) := fun t ht => by
  show (if new <= new + t /\ new + t < new + e.out.length then D.ρ (τ (e.m + (new + t - new))) else C.ρ (new + t)) = _
  rw [if_pos (by omega), show new + t - new = t by omega]
 have hC'o : ∀ j, ¬ (new <= j /\ j < new + e.out.length) -> C'.ν j = C.ν j := fun j hj => if_neg hj
 have hC'p : ∀ j, ¬ (new <= j /\ j < new + e.out.length) -> C'.ρ j = C.ρ j := fun j hj => if_neg hj
 have hkeepρ : ∀ i b, i < e.m -> C0.ρ i = some b -> D.ρ i = some b := fun i b hi hb => hst.keep i b (by omega) hb
 have hDW0 : ∀ b, D.W0 b ↔ C0.W0 b := fun b => by rw [hst.w0]
 have hρD : ∀ j b, C.ρ j = some b -> (∃ i, i < e.m /\ bQ ids i = j /\ D.ρ i = some b) ∨ D.W0 b := by
  intro j b hj
  by_cases hex : ∃ i, i < e.m /\ bQ ids i = j
  · obtain ⟨i, hi, hij⟩ := hex
    exact .inl ⟨i, hi, hij, hkeepρ i b hi (by rw [hC0ρ i hi, hij]; exact hj)⟩
  · exact .inr ((hDW0 b).2 ((hC0W0 b).2 (.inr ⟨j, hj, fun i hi hij => hex ⟨i, hi, hij⟩⟩)))
 have hC'W : ∀ b, C'.W b -> D.W b := by
  rintro b (hb | ⟨j, hj⟩)
  · exact .inl ((hDW0 b).2 ((hC0W0 b).2 (.inl hb)))
  · by_cases hin : new <= j /\ j < new + e.out.length
    · have : C'.ρ j = D.ρ (τ (e.m + (j - new))) := if_pos hin
      rw [this] at hj
      exact .inr ⟨_, hj⟩
    · rw [hC'p j hin] at hj
      rcases hρD j b hj with ⟨i, _, _, h1⟩ | h1
      · exact .inr ⟨i, h1⟩
      · exact .inl h1
 have hν' : ∀ i u, i < e.M -> D.ν (τ i) = some u -> C'.ν (gF e.m ids new i) = some u := by
  intro i u hi hu
  by_cases h1 : i < e.m
  · rw [ht1 i h1, hkeep i h1, hC0ν i h1] at hu
    rw [nA h1, hC'o _ (hnb _ u hu)]
    exact hu
  · rw [OO (by omega), hC'n (i - e.m) (by omega), show e.m + (i - e.m) = i by omega]
    exact hu
 have hsz := hst.ag.size
 refine ⟨v, C', resE e ids new, rfl, h, ⟨Bl hC'W hν' e.r v b4 hres, ?_, ?_, fun i hi => ?_, fun i ob hi => ?_⟩⟩
 ·
  refine ⟨fun i u hi => by rw [hC'o i (hnb i u hi)]; exact hi, rfl, fun j b hj => ?_, fun i b hi hb => by rw [hC'p i (hnr i b hb)]; exact hb, hst.ag.mono fun k _ ⟨i, hi, hib⟩ => by rw [hC0ρ' i hi] at hib; cases hib⟩
  by_cases hin : new <= j /\ j < new + e.out.length
  · have h1 : C'.ρ j = D.ρ (τ (e.m + (j - new))) := if_pos hin
    rw [h1] at hj
    rcases hst.own _ b hj with ⟨i, hi⟩ | h2
    · by_cases h3 : i < e.m
      · rw [hC0ρ i h3] at hi; exact .inl ⟨_, hi⟩
      · rw [hC0ρ' i (by omega)] at hi; cases hi
    · exact .inr h2
  · rw [hC'p j hin] at hj
    exact .inl ⟨j, hj⟩
 ·
  refine ⟨fun i b hi => ?_, fun i j b hi hj => ?_, fun b hb => Nat.lt_of_lt_of_le (hw.w0 b hb) hsz, fun i b hi => ?_, fun i b hi hb => ?_, bP hC'W hwf.gl⟩
  · by_cases hin : new <= i /\ i < new + e.out.length
    · have h1 : C'.ρ i = D.ρ (τ (e.m + (i - new))) := if_pos hin
      rw [h1] at hi; exact hwf.lt _ b hi
    · rw [hC'p i hin] at hi; exact Nat.lt_of_lt_of_le (hw.lt i b hi) hsz
  ·
   have cross : ∀ i j b, new <= i /\ i < new + e.out.length -> ¬ (new <= j /\ j < new + e.out.length) -> C'.ρ i = some b -> C'.ρ j = some b -> False := by
    intro i j b hin hjn hi hj
    have h1 : C'.ρ i = D.ρ (τ (e.m + (i - new))) := if_pos hin
    rw [h1] at hi
    rw [hC'p j hjn] at hj
    rcases hρD j b hj with ⟨k, hk, _, h2⟩ | h2
    · have := hwf.inj _ _ b hi h2
      have := ht2 (e.m + (i - new)) (by omega) (by omega)
      omega
    · exact hwf.dis _ b hi h2
   by_cases hin : new <= i /\ i < new + e.out.length
   · by_cases hjn : new <= j /\ j < new + e.out.length
     · have h1 : C'.ρ i = D.ρ (τ (e.m + (i - new))) := if_pos hin
       have h2 : C'.ρ j = D.ρ (τ (e.m + (j - new))) := if_pos hjn
       rw [h1] at hi; rw [h2] at hj
       have := ht3 _ _ (by omega) (by omega) (by omega) (by omega) (hwf.inj _ _ b hi hj)
       omega
     · exact (cross i j b hin hjn hi hj).elim
   · by_cases hjn : new <= j /\ j < new + e.out.length
     · exact (cross j i b hjn hin hj hi).elim
     · rw [hC'p i hin] at hi; rw [hC'p j hjn] at hj
       exact hw.inj i j b hi hj
  · by_cases hin : new <= i /\ i < new + e.out.length
    · have h1 : C'.ρ i = D.ρ (τ (e.m + (i - new))) := if_pos hin
      have h2 : C'.ν i = D.ν (τ (e.m + (i - new))) := if_pos hin
      rw [h1] at hi; rw [h2]; exact hwf.own _ b hi
    · rw [hC'p i hin] at hi; rw [hC'o i hin]; exact hw.own i b hi
  · by_cases hin : new <= i /\ i < new + e.out.length
    · have h1 : C'.ρ i = D.ρ (τ (e.m + (i - new))) := if_pos hin
      rw [h1] at hi
      exact hwf.dis _ b hi ((hDW0 b).2 ((hC0W0 b).2 (.inl hb)))
    · rw [hC'p i hin] at hi; exact hw.dis i b hi hb
 · by_cases hin : new <= i /\ i < new + e.out.length
   · exact .inr (uG _ _ _ hin.1 hin.2)
   · left; rw [hC'o i hin] at hi; exact hi
 · obtain ⟨t, o, rfl, h1, h2⟩ := Es hi
   cases o with
   | none => cases h2
   | some o =>
     simp only [Option.map_some, Option.some.injEq] at h2
     subst h2
     have htl : t < e.out.length := (List.getElem?_eq_some_iff.1 h1).1
     exact Jf hC'W hν' (fun u hu => by rw [hC'n t htl]; exact hu) (fun b hb => by rw [hC'r t htl]; exact hb) (nV b5 h1) (hout t o h1)
theorem wT {P : Program} {f : FuncId} {e : TE} (he : ah P f e) {C : Ctx} {w : World} {g : Nat -> Option Ob} {al : List SV} {vs : List Value} {new : Nat} {alt : T Res} {post : Res -> Prop} (hw : WF C w) (hg : ObsOk C w g)
  (hnew : ∀ r, post r -> ∀ i ∈ r.eff.new, C.ν i = none) (hr : relL C w al vs) (h : (EN e al g new alt).holds post) :
  (callable P f = true /\ Calls P f vs.toArray w fun x w' => ∃ v C' r, x = .returned v /\ post r /\ Came C w r C' w' v) ∨ alt.holds post := by
 unfold EN at h
 rw [qp] at h
 have hnd : (qQ g e.obs 0 (asL e.al al [])).Nodup := qd _ _ _ (yw _ _ _ List.nodup_nil)
 generalize qQ g e.obs 0 (asL e.al al []) = ids at h hnd
 rcases Or.symm (fZ h) with h | ⟨hlen, h⟩
 · exact .inr h
 have hlen := Nat.eq_of_beq_eq_true hlen
 rcases Or.symm (sM h) with h | ⟨hal, h⟩
 · exact .inr h
 rcases Or.symm (jX h) with h | ⟨hobs, h⟩
 · exact .inr h
 exact .inl (BP he hw hg hnew hr hnd hlen hal (fun i b hi => by have := hobs i b hi; rwa [Nat.zero_add] at this) h)
theorem wU {P : Program} {f : FuncId} {C : Ctx} {w : World} {g : Nat -> Option Ob} {al : List SV} {vs : List Value} {new : Nat} {alt : T Res} {post : Res -> Prop} (hw : WF C w) (hg : ObsOk C w g)
  (hnew : ∀ r, post r -> ∀ i ∈ r.eff.new, C.ν i = none) (hr : relL C w al vs) : ∀ (es : List (Nat × TE)), (∀ x ∈ es, ah P f x.2) -> (JQ es al g new alt).holds post ->
  (callable P f = true /\ Calls P f vs.toArray w fun x w' => ∃ v C' r, x = .returned v /\ post r /\ Came C w r C' w' v) ∨ alt.holds post
 | [], _, h => .inr h
 | x :: es, he, h => by
   have ih := fun (h : (JQ es al g new alt).holds post) => wU (alt := alt) hw hg hnew hr es (fun y hy => he y (by simp [hy])) h
   rcases fZ (show (BT (Nat.beq x.1 new) (EN x.2 al g new (JQ es al g new alt)) (JQ es al g new alt)).holds post from h) with ⟨_, h⟩ | h
   · rcases wT (he x (by simp)) hw hg hnew hr h with h | h
     · exact .inl h
     · exact ih h
   · exact ih h
theorem JO {P : Program} {f : FuncId} {es : List (Nat × TE)} (he : ∀ x ∈ es, ah P f x.2) : bJ P f (Vm es) := by
 intro C w g al vs new post hw hg hnew hr h
 rcases wU hw hg hnew (jS hr) es he h with h | h
 · exact h
 · exact h.elim
def obT (l : List (Option Ob)) : Nat -> OB := @List.rec (Option Ob) (fun _ => Nat -> OB) (fun _ => .nil) (fun o _ ih n => lX (ih (Nat.succ n)) n o) l
theorem Gi : ∀ (l : List (Option Ob)) (n i : Nat), n + l.length < 16777215 -> ay (obT l n) i = if n <= i then (l[i - n]?).getD none else none
 | [], n, i, _ => by
   show ay .nil i = _
   simp
   rfl
 | o :: l, n, i, h => by
   simp only [List.length_cons] at h
   show ay (lX (obT l (n + 1)) n o) i = _
   rw [oM i (by omega), Gi l (n + 1) i (by omega)]
   by_cases e : i = n
   · subst e; simp
   · rw [if_neg e]
     by_cases h1 : n <= i
     · rw [if_pos (by omega), if_pos h1, show i - n = (i - (n + 1)) + 1 by omega]
       simp
     · rw [if_neg (by omega), if_neg h1]
def Nu (m : Nat) (l : List Nat) : Bool := @List.rec Nat (fun _ => Bool) true (fun x _ ih => aK (Nat.ble m x) ih) l
def Ib (e : TE) : KK := fun s ob nb => Kr (qQ (ay ob) e.out e.m (asS e.r s (upto (nat_lit 0) e.m))) fun ids =>
 BT (aK (Nat.beq ids.length e.M) (aK (idN e.m ids) (Nu e.m (ids.drop e.m)))) (eqS (rnS (bQ ids) e.r) s (Kk (bQ ids) (ay ob) e.out e.m (.ret (.kb true, ⟨.nil, nat_lit 0⟩)) .fail) .fail) .fail
where
 idN (m : Nat) (ids : List Nat) : Bool := @Nat.rec (fun _ => Bool) true (fun k ih => aK (Nat.beq (bQ ids k) k) ih) m
theorem FP {ids : List Nat} : ∀ {m i : Nat}, Ib.idN m ids = true -> i < m -> bQ ids i = i
 | 0, _, _, h => by omega
 | m + 1, i, h, hi => by
   obtain ⟨h1, h2⟩ := aB (show aK (Nat.beq (bQ ids m) m) (Ib.idN m ids) = true from h)
   by_cases e : i = m
   · subst e; exact Nat.eq_of_beq_eq_true h1
   · exact FP h2 (by omega)
theorem uI {m : Nat} : ∀ {l : List Nat} {x : Nat}, Nu m l = true -> x ∈ l -> m <= x
 | y :: l, x, h, hx => by
   obtain ⟨h1, h2⟩ := aB (show aK (Nat.ble m y) (Nu m l) = true from h)
   rcases List.mem_cons.1 hx with rfl | hx
   · exact Nat.le_of_ble_eq_true h1
   · exact uI h2 hx
theorem Hg : ∀ (n k : Nat), (upto n k).Nodup
 | _, 0 => List.nodup_nil
 | n, k + 1 => by
   simp only [upto, List.nodup_cons]
   exact ⟨fun h => by have := uH h; omega, Hg (n + 1) k⟩
theorem wV {D : Deps} (hD : D.Ok) {n top : Nat} {f : FuncId} {e : TE} (hok : e.ok = true) (hm : Nat.ble e.m top = true) (ht : Nat.ble top 16000000 = true)
  (h : (Bp D.P D.F D.fl D.win D.fuel n top e.m f e.al (obT e.obs 0) e.m (Ib e)).holds fun y => y.1 = .kb true) : ah D.P f e := by
 have hm := Nat.le_of_ble_eq_true hm
 have ht := Nat.le_of_ble_eq_true ht
 obtain ⟨b1, hok'⟩ := aB hok
 obtain ⟨b2, hok'⟩ := aB hok'
 obtain ⟨b3, hok'⟩ := aB hok'
 have b3 := Nat.le_of_ble_eq_true b3
 refine ⟨hok, fun C w vs hw hobs hnone hrel => ?_⟩
 have hget : ∀ i, ay (obT e.obs 0) i = (e.obs[i]?).getD none := fun i => by
  rw [Gi e.obs 0 i (by omega), if_pos (Nat.zero_le _), Nat.sub_zero]
 have hF : FOk (obT e.obs 0) e.m := fun i hi => by
  rw [hget, List.getElem?_eq_none (by omega)]; rfl
 have h1 := pQ hD n top e.m f e.al (obT e.obs 0) e.m (Ib e) (fun y => y.1 = .kb true) hF ⟨hm, by omega⟩ h
 have hk : HOk top ⟨ay (obT e.obs 0), e.m⟩ C w := ⟨hw, fun i ob hi => by
  have hi : ay (obT e.obs 0) i = some ob := hi
  rw [hget] at hi
  cases hx : e.obs[i]? with
  | none => rw [hx] at hi; cases hi
  | some o =>
    rw [hx] at hi
    have hi : o = some ob := hi
    subst hi
    exact hobs i ob hx, fun i hi _ => hnone i hi⟩
 obtain ⟨hc, h2⟩ := (gM hD n top e.m f e.al ⟨ay (obT e.obs 0), e.m⟩).1 C w vs _ hk hrel h1
 refine ⟨hc, h2.mono ?_⟩
 rintro x w' ⟨v, C', y, rfl, ⟨ob', hob', hy⟩, hst, hk', hv, hfr⟩
 unfold Ib at hy
 rw [qp] at hy
 have hnd : (qQ (ay ob') e.out e.m (asS e.r y.1 (upto 0 e.m))).Nodup := qd _ _ _ (yx _ _ _ (Hg _ _))
 generalize qQ (ay ob') e.out e.m (asS e.r y.1 (upto 0 e.m)) = ids at hy hnd
 obtain ⟨g1, hy⟩ := qU hy
 obtain ⟨g1, g2⟩ := aB g1
 obtain ⟨g2, g3⟩ := aB g2
 have g1 := Nat.eq_of_beq_eq_true g1
 have hM : e.M = e.m + e.out.length := rfl
 rcases Or.symm (sN hy) with hy | ⟨q1, hy⟩
 · exact hy.elim
 rcases Or.symm (jX hy) with hy | ⟨q2, hy⟩
 · exact hy.elim
 refine ⟨v, C', bQ ids, rfl, hst.mono fun i hi => hi.1, hk'.wf, fun i hi => hfr i (.inl hi), fun i hi => FP g2 hi, fun i h3 h4 => ?_, fun i j h3 h4 h5 h6 h7 => tY hnd (by omega) (by omega) h7, q1 _ _ _ hv, fun t ob ht' => ?_⟩
 · refine uI g3 ?_
   rw [mF (List.getElem?_eq_getElem (by omega : i < ids.length))]
   have : (ids.drop e.m)[i - e.m]? = some ids[i] := by
    rw [List.getElem?_drop, show e.m + (i - e.m) = i by omega]
    exact List.getElem?_eq_getElem (by omega)
   exact List.mem_of_getElem? this
 · obtain ⟨o, ho, hio⟩ := q2 t ob ht'
   rw [← hob'] at ho
   exact hio _ _ _ (hk'.ob _ _ ho)
end
end Rx
set_option linter.unusedSectionVars false
set_option linter.unusedSimpArgs false
set_option linter.unusedVariables false
namespace Rx
open Go
variable [Glob]
noncomputable section
structure ME where
 m : Nat
 al : List SV
 obs : List (Option Ob)
 r : SV
 aft : List (Option Ob)
def ME.M (e : ME) : Nat := e.aft.length
def ME.ok (e : ME) : Bool := aK (bdL e.m e.al) (aK (QT e.m e.obs) (aK (Nat.ble e.obs.length e.m) (aK (Nat.ble e.m e.M) (aK (bdS e.M e.r) (QT e.M e.aft)))))
def MIn (e : ME) (C : Ctx) (w : World) : Prop := WF C w /\ (∀ i ob, e.obs[i]? = some (some ob) -> obHolds C w i ob) /\ ∀ i, e.m <= i -> C.ν i = none
def Pf (e : ME) (C : Ctx) (w w' : World) (v : Value) : Prop := ∃ C' τ, Step (fun _ => True) C w C' w' /\ WF C' w' /\ (∀ i, i < e.m -> C'.ν i = C.ν i) /\
 (∀ i, i < e.m -> τ i = i) /\ (∀ i, e.m <= i -> i < e.M -> e.m <= τ i) /\ (∀ i j, e.m <= i -> i < e.M -> e.m <= j -> j < e.M -> τ i = τ j -> i = j) /\
 rel C' w' (rnS τ e.r) v /\ ∀ i ob, e.aft[i]? = some (some ob) -> obHolds C' w' (τ i) (rnO τ ob)
def eP (P : Program) (f : FuncId) (e : ME) : Prop := e.ok = true /\
 ∀ (C : Ctx) (w : World) (vs : List Value), MIn e C w -> relL C w e.al vs -> callable P f = true /\ Calls P f vs.toArray w fun x w' => ∃ v, x = .returned v /\ Pf e C w w' v
def WI (r : Nat -> Nat) (l : List (Option Ob)) : Nat -> List (Nat × Option Ob) := @List.rec (Option Ob) (fun _ => Nat -> List (Nat × Option Ob)) (fun _ => []) (fun o _ ih n => (r n, @Option.rec Ob (fun _ => Option Ob) none (fun b => some (rnO r b)) o) :: ih (Nat.succ n)) l
def Ll (e : ME) (ids : List Nat) (new : Nat) : Res := ⟨rnS (gF e.m ids new) e.r, ⟨WI (gF e.m ids new) e.aft (nat_lit 0), upto new (Nat.sub e.M e.m)⟩⟩
def Nv (m : Nat) (l : List Nat) : Bool := @List.rec Nat (fun _ => Bool) true (fun x _ ih => aK (Nat.blt x m) ih) l
theorem CO {m : Nat} : ∀ {l : List Nat} {x : Nat}, Nv m l = true -> x ∈ l -> x < m
 | y :: l, x, h, hx => by
   obtain ⟨h1, h2⟩ := aB (show aK (Nat.blt y m) (Nv m l) = true from h)
   rcases List.mem_cons.1 hx with rfl | hx
   · exact yB h1
   · exact CO h2 hx
def EL (e : ME) (al : List SV) (g : Nat -> Option Ob) (new : Nat) (alt : T Res) : T Res :=
 Kr (qQ g e.obs (nat_lit 0) (asL e.al al [])) fun ids =>
    BT (aK (Nat.beq ids.length e.m) (Nv new ids)) (eqL (rnL (gF e.m ids new) e.al) al (Kk (gF e.m ids new) g e.obs (nat_lit 0) (.ret (Ll e ids new)) alt) alt) alt
theorem Ji {r : Nat -> Nat} : ∀ {l : List (Option Ob)} {n i : Nat} {x : Option Ob}, (WI r l n).lookup i = some x -> ∃ t o, i = r (n + t) /\ l[t]? = some o /\ x = o.map (rnO r)
 | [], _, _, _, h => by cases h
 | o :: l, n, i, x, h => by
   have h : List.lookup i ((r n, @Option.rec Ob (fun _ => Option Ob) none (fun b => some (rnO r b)) o) :: WI r l (n + 1)) = some x := h
   rw [List.lookup_cons] at h
   by_cases e : i = r n
   · subst e
     simp at h
     refine ⟨0, o, rfl, rfl, ?_⟩
     rw [← h]
     cases o <;> rfl
   · have : (i == r n) = false := by simpa using e
     rw [this] at h
     obtain ⟨t, o', h1, h2, h3⟩ := Ji (l := l) (n := n + 1) h
     exact ⟨t + 1, o', by rw [h1]; congr 1; omega, by simpa using h2, h3⟩
theorem Jj {r : Nat -> Nat} : ∀ {l : List (Option Ob)} {n t : Nat}, t < l.length -> r (n + t) ∈ (WI r l n).map (·.1)
 | [], _, _, h => by simp at h
 | o :: l, n, 0, _ => by
   show r n ∈ r n :: _
   simp
 | o :: l, n, t + 1, h => by
   have := Jj (r := r) (l := l) (n := n + 1) (t := t) (by simpa using h)
   rw [show n + 1 + t = n + (t + 1) by omega] at this
   exact List.mem_cons_of_mem _ this
theorem emb {e : ME} {C : Ctx} {w : World} {g : Nat -> Option Ob} {ids : List Nat} {new : Nat} (hok : e.ok = true) (hw : WF C w) (hg : ObsOk C w g) (hnd : ids.Nodup) (hlen : ids.length = e.m) (hlt : Nv new ids = true)
  (hnew : ∀ i, new <= i -> i < new + (e.M - e.m) -> C.ν i = none) (hobs : ∀ j b, e.obs[j]? = some (some b) -> ∃ o, g (gF e.m ids new (0 + j)) = some o /\ Qz (rnO (gF e.m ids new) b) o) :
  MIn e (gY C e.m ids) w /\ (∀ l vs, bdL e.m l = true -> relL C w (rnL (gF e.m ids new) l) vs -> relL (gY C e.m ids) w l vs) /\
  ∀ w' v, Pf e (gY C e.m ids) w w' v -> ∃ C', Came C w (Ll e ids new) C' w' v := by
 obtain ⟨b1, hok⟩ := aB hok
 obtain ⟨b2, hok⟩ := aB hok
 obtain ⟨b3, hok⟩ := aB hok
 obtain ⟨b4, hok⟩ := aB hok
 obtain ⟨b5, b6⟩ := aB hok
 have b3 := Nat.le_of_ble_eq_true b3
 have b4 := Nat.le_of_ble_eq_true b4
 have hρinj : ∀ i j, i < e.m -> j < e.m -> bQ ids i = bQ ids j -> i = j := fun i j hi hj hij => tY hnd (by omega) (by omega) hij
 have hidlt : ∀ i, i < e.m -> bQ ids i < new := fun i hi => by
  have h : ids[i]? = some ids[i] := List.getElem?_eq_getElem (by omega : i < ids.length)
  rw [mF h]
  exact CO hlt (List.mem_of_getElem? h)
 have hW : ∀ b, (gY C e.m ids).W b ↔ C.W b := by
  intro b
  constructor
  · rintro ((hb | ⟨j, hj, _⟩) | ⟨i, hi⟩)
    · exact .inl hb
    · exact .inr ⟨j, hj⟩
    · have hi : (if i < e.m then C.ρ (bQ ids i) else none) = some b := hi
      split at hi
      · exact .inr ⟨_, hi⟩
      · cases hi
  · rintro (hb | ⟨j, hj⟩)
    · exact .inl (.inl hb)
    · by_cases hex : ∃ i, i < e.m /\ bQ ids i = j
      · obtain ⟨i, hi, rfl⟩ := hex
        exact .inr ⟨i, by show (if i < e.m then C.ρ (bQ ids i) else none) = some b; rw [if_pos hi]; exact hj⟩
      · exact .inl (.inr ⟨j, hj, fun i hi hij => hex ⟨i, hi, hij⟩⟩)
 have hC0ν : ∀ i, i < e.m -> (gY C e.m ids).ν i = C.ν (bQ ids i) := fun i hi => if_pos hi
 have hC0ρ : ∀ i, i < e.m -> (gY C e.m ids).ρ i = C.ρ (bQ ids i) := fun i hi => if_pos hi
 have hC0ν' : ∀ i, e.m <= i -> (gY C e.m ids).ν i = none := fun i hi => if_neg (by omega)
 have hC0ρ' : ∀ i, e.m <= i -> (gY C e.m ids).ρ i = none := fun i hi => if_neg (by omega)
 have hC0W0 : ∀ b, (gY C e.m ids).W0 b ↔ (C.W0 b ∨ ∃ j, C.ρ j = some b /\ ∀ i, i < e.m -> bQ ids i ≠ j) := fun b => Iff.rfl
 have hwf0 : WF (gY C e.m ids) w := by
  refine ⟨fun i b hi => ?_, fun i j b hi hj => ?_, fun b hb => ?_, fun i b hi => ?_, fun i b hi hb => ?_, bP (fun b hb => (hW b).1 hb) hw.gl⟩
  · by_cases h1 : i < e.m
    · rw [hC0ρ i h1] at hi; exact hw.lt _ _ hi
    · rw [hC0ρ' i (by omega)] at hi; cases hi
  · by_cases h1 : i < e.m
    · by_cases h2 : j < e.m
      · rw [hC0ρ i h1] at hi; rw [hC0ρ j h2] at hj
        exact hρinj i j h1 h2 (hw.inj _ _ b hi hj)
      · rw [hC0ρ' j (by omega)] at hj; cases hj
    · rw [hC0ρ' i (by omega)] at hi; cases hi
  · rcases hb with hb | ⟨j, hj, _⟩
    · exact hw.w0 b hb
    · exact hw.lt j b hj
  · by_cases h1 : i < e.m
    · rw [hC0ρ i h1] at hi
      rw [hC0ν i h1]
      exact hw.own _ b hi
    · rw [hC0ρ' i (by omega)] at hi; cases hi
  · by_cases h1 : i < e.m
    · rw [hC0ρ i h1] at hi
      rcases hb with hb | ⟨j, hj, hn⟩
      · exact hw.dis _ b hi hb
      · exact hn i h1 (hw.inj _ _ b hi hj)
    · rw [hC0ρ' i (by omega)] at hi; cases hi
 have hν0 : ∀ i u, i < e.m -> C.ν (gF e.m ids new i) = some u -> (gY C e.m ids).ν (id i) = some u := fun i u hi hu => by
  rw [nA hi] at hu
  show (gY C e.m ids).ν i = _
  rw [hC0ν i hi]; exact hu
 have hobs0 : ∀ i ob, e.obs[i]? = some (some ob) -> obHolds (gY C e.m ids) w i ob := by
  intro i ob hi
  have hil : i < e.m := by
   have := (List.getElem?_eq_some_iff.1 hi).1
   omega
  obtain ⟨o, ho, hio⟩ := hobs i ob hi
  rw [Nat.zero_add] at ho
  have h1 := hio _ _ _ (hg _ _ ho)
  have := Jf (C1 := C) (C2 := gY C e.m ids) (τ := gF e.m ids new) (ρ := id) (fun b hb => (hW b).1 hb) hν0 (i1 := gF e.m ids new i) (i2 := i) (fun u hu => hν0 i u hil hu) (fun b hb => by rw [hC0ρ i hil, ← nA (ids := ids) (new := new) hil]; exact hb) (nV b2 hi) h1
  rwa [Lp] at this
 refine ⟨⟨hwf0, hobs0, hC0ν'⟩, fun l vs hb hr => ?_, ?_⟩
 · have := xY (C2 := gY C e.m ids) (ρ := id) (fun b hb => (hW b).1 hb) hν0 l vs hb hr
   rwa [Gx] at this
 rintro w' v ⟨D, τ, hst, hwf, hkeep, ht1, ht2, ht3, hres, hout⟩
 generalize gY C e.m ids = C0 at *
 have hnb : ∀ j u, C.ν j = some u -> ¬ (new <= j /\ j < new + (e.M - e.m)) := fun j u hj hb => by rw [hnew j hb.1 hb.2] at hj; cases hj
 have hnr : ∀ j b, C.ρ j = some b -> ¬ (new <= j /\ j < new + (e.M - e.m)) := fun j b hj hb => by
  obtain ⟨u, hu⟩ := hw.own j b hj
  exact hnb j u hu hb
 have hDW0 : ∀ b, D.W0 b ↔ C0.W0 b := fun b => by rw [hst.w0]
 let dx : Nat -> Option Nat := fun j => if new <= j /\ j < new + (e.M - e.m) then some (τ (e.m + (j - new))) else if h : ∃ k, k < e.m /\ bQ ids k = j then some h.choose else none
 have dx_new : ∀ t, t < e.M - e.m -> dx (new + t) = some (τ (e.m + t)) := fun t ht => by
  show (if new <= new + t /\ new + t < new + (e.M - e.m) then some (τ (e.m + (new + t - new))) else _) = _
  rw [if_pos (by omega), show new + t - new = t by omega]
 have dx_old : ∀ k, k < e.m -> dx (bQ ids k) = some k := fun k hk => by
  have h0 := hidlt k hk
  have hex : ∃ k', k' < e.m /\ bQ ids k' = bQ ids k := ⟨k, hk, rfl⟩
  show (if new <= bQ ids k /\ bQ ids k < new + (e.M - e.m) then _ else if h : ∃ k', k' < e.m /\ bQ ids k' = bQ ids k then some h.choose else none) = some k
  rw [if_neg (by omega), dif_pos hex]
  exact congrArg some (hρinj _ _ hex.choose_spec.1 hk hex.choose_spec.2)
 have dx_some : ∀ j d, dx j = some d -> (∃ t, t < e.M - e.m /\ j = new + t /\ d = τ (e.m + t)) ∨ (d < e.m /\ bQ ids d = j) := fun j d h => by
  have h : (if new <= j /\ j < new + (e.M - e.m) then some (τ (e.m + (j - new))) else if h : ∃ k, k < e.m /\ bQ ids k = j then some h.choose else none) = some d := h
  split at h
  · rename_i hc
    injection h with h
    exact .inl ⟨j - new, by omega, by omega, h.symm⟩
  · split at h
    · rename_i hex
      injection h with h
      exact .inr ⟨by rw [← h]; exact hex.choose_spec.1, by rw [← h]; exact hex.choose_spec.2⟩
    · cases h
 have dx_none : ∀ j, dx j = none -> ¬ (new <= j /\ j < new + (e.M - e.m)) /\ ∀ k, k < e.m -> bQ ids k ≠ j := fun j h => by
  have h : (if new <= j /\ j < new + (e.M - e.m) then some (τ (e.m + (j - new))) else if h : ∃ k, k < e.m /\ bQ ids k = j then some h.choose else none) = none := h
  split at h
  · cases h
  · rename_i hc
    split at h
    · cases h
    · rename_i hex
      exact ⟨hc, fun k hk e => hex ⟨k, hk, e⟩⟩
 have dx_inj : ∀ i j d, dx i = some d -> dx j = some d -> i = j := fun i j d hi hj => by
  rcases dx_some i d hi with ⟨t, h1, h2, h3⟩ | ⟨h1, h2⟩
  · rcases dx_some j d hj with ⟨t', h4, h5, h6⟩ | ⟨h4, h5⟩
    · have := ht3 (e.m + t) (e.m + t') (by omega) (by omega) (by omega) (by omega) (h3.symm.trans h6)
      omega
    · have := ht2 (e.m + t) (by omega) (by omega)
      omega
  · rcases dx_some j d hj with ⟨t', h4, h5, h6⟩ | ⟨h4, h5⟩
    · have := ht2 (e.m + t') (by omega) (by omega)
      omega
    · rw [← h2, ← h5]
 let C' : Ctx := ⟨fun j => if new <= j /\ j < new + (e.M - e.m) then D.ν (τ (e.m + (j - new))) else C.ν j, fun j => match dx j with
  | some d => D.ρ d
  | none => C.ρ j, C.W0⟩
 have hC'o : ∀ j, ¬ (new <= j /\ j < new + (e.M - e.m)) -> C'.ν j = C.ν j := fun j hj => if_neg hj
 have hC'r : ∀ j d, dx j = some d -> C'.ρ j = D.ρ d := fun j d h => by
  show (match dx j with
  | some d => D.ρ d
  | none => C.ρ j) = _
  rw [h]
 have hC'p : ∀ j, dx j = none -> C'.ρ j = C.ρ j := fun j h => by
  show (match dx j with
  | some d => D.ρ d
  | none => C.ρ j) = _
  rw [h]
 have hC'n : ∀ j d, dx j = some d -> C'.ν j = D.ν d := fun j d h => by
  rcases dx_some j d h with ⟨t, h1, h2, h3⟩ | ⟨h1, h2⟩
  · subst h2
    show (if new <= new + t /\ new + t < new + (e.M - e.m) then D.ν (τ (e.m + (new + t - new))) else C.ν (new + t)) = _
    rw [if_pos (by omega), show new + t - new = t by omega, h3]
  · have := hidlt d h1
    rw [← h2, hC'o _ (by omega), hkeep d h1, hC0ν d h1]
 have hlone : ∀ j b, dx j = none -> C.ρ j = some b -> C0.W0 b := fun j b h hj => (hC0W0 b).2 (.inr ⟨j, hj, (dx_none j h).2⟩)
 have hsz := hst.ag.size
 have hC'W : ∀ b, C'.W b -> D.W b := by
  rintro b (hb | ⟨j, hj⟩)
  · exact .inl ((hDW0 b).2 ((hC0W0 b).2 (.inl hb)))
  · cases hd : dx j with
    | some d => rw [hC'r j d hd] at hj; exact .inr ⟨d, hj⟩
    | none => rw [hC'p j hd] at hj; exact .inl ((hDW0 b).2 (hlone j b hd hj))
 have hρ' : ∀ i, i < e.M -> dx (gF e.m ids new i) = some (τ i) := fun i hi => by
  by_cases h1 : i < e.m
  · rw [nA h1, dx_old i h1, ht1 i h1]
  · rw [OO (by omega), dx_new (i - e.m) (by omega), show e.m + (i - e.m) = i by omega]
 have hν' : ∀ i u, i < e.M -> D.ν (τ i) = some u -> C'.ν (gF e.m ids new i) = some u := fun i u hi hu => by
  rw [hC'n _ _ (hρ' i hi)]; exact hu
 refine ⟨C', Bl hC'W hν' e.r v b5 hres, ?_, ?_, fun i hi => ?_, fun i ob hi => ?_⟩
 ·
  have hX : ∀ k, k < e.m -> (Ll e ids new).eff.X (bQ ids k) := fun k hk => by
   have := Jj (r := gF e.m ids new) (l := e.aft) (n := 0) (t := k) (Nat.lt_of_lt_of_le hk b4)
   rw [Nat.zero_add, nA hk] at this
   exact this
  refine ⟨fun i u hi => by rw [hC'o i (hnb i u hi)]; exact hi, rfl, fun j b hj => ?_, fun i b hi hb => ?_, hst.ag.mono fun k _ ⟨i, hi, hib⟩ => ?_⟩
  · cases hd : dx j with
    | none => rw [hC'p j hd] at hj; exact .inl ⟨j, hj⟩
    | some d =>
      rw [hC'r j d hd] at hj
      rcases hst.own d b hj with ⟨i, hi⟩ | h2
      · by_cases h3 : i < e.m
        · rw [hC0ρ i h3] at hi; exact .inl ⟨_, hi⟩
        · rw [hC0ρ' i (by omega)] at hi; cases hi
      · exact .inr h2
  · cases hd : dx i with
    | none => rw [hC'p i hd]; exact hb
    | some d =>
      rw [hC'r i d hd]
      rcases dx_some i d hd with ⟨t, h1, h2, h3⟩ | ⟨h1, h2⟩
      · exact absurd ⟨by omega, by omega⟩ (hnr i b hb)
      · exact absurd (by rw [← h2]; exact hX d h1) hi
  · by_cases h3 : i < e.m
    · exact ⟨bQ ids i, hX i h3, by rw [← hC0ρ i h3]; exact hib⟩
    · rw [hC0ρ' i (by omega)] at hib; cases hib
 ·
  refine ⟨fun i b hi => ?_, fun i j b hi hj => ?_, fun b hb => Nat.lt_of_lt_of_le (hw.w0 b hb) hsz, fun i b hi => ?_, fun i b hi hb => ?_, bP hC'W hwf.gl⟩
  · cases hd : dx i with
    | some d => rw [hC'r i d hd] at hi; exact hwf.lt _ b hi
    | none => rw [hC'p i hd] at hi; exact Nat.lt_of_lt_of_le (hw.lt i b hi) hsz
  · have cross : ∀ i j d b, dx i = some d -> dx j = none -> C'.ρ i = some b -> C'.ρ j = some b -> False := by
     intro i j d b hd hn hi hj
     rw [hC'r i d hd] at hi
     rw [hC'p j hn] at hj
     exact hwf.dis _ b hi ((hDW0 b).2 (hlone j b hn hj))
    cases hd : dx i with
    | some d =>
      cases hd' : dx j with
      | some d' =>
        rw [hC'r i d hd] at hi
        rw [hC'r j d' hd'] at hj
        have := hwf.inj _ _ b hi hj
        subst this
        exact dx_inj i j d hd hd'
      | none => exact (cross i j d b hd hd' hi hj).elim
    | none =>
      cases hd' : dx j with
      | some d' => exact (cross j i d' b hd' hd hj hi).elim
      | none =>
        rw [hC'p i hd] at hi
        rw [hC'p j hd'] at hj
        exact hw.inj i j b hi hj
  · cases hd : dx i with
    | some d => rw [hC'r i d hd] at hi; rw [hC'n i d hd]; exact hwf.own _ b hi
    | none => rw [hC'p i hd] at hi; rw [hC'o i (dx_none i hd).1]; exact hw.own i b hi
  · cases hd : dx i with
    | some d => rw [hC'r i d hd] at hi; exact hwf.dis _ b hi ((hDW0 b).2 ((hC0W0 b).2 (.inl hb)))
    | none => rw [hC'p i hd] at hi; exact hw.dis i b hi hb
 · by_cases hin : new <= i /\ i < new + (e.M - e.m)
   · exact .inr (uG _ _ _ hin.1 hin.2)
   · left; rw [hC'o i hin] at hi; exact hi
 · obtain ⟨t, o, rfl, h1, h2⟩ := Ji hi
   cases o with
   | none => cases h2
   | some o =>
     simp only [Option.map_some, Option.some.injEq] at h2
     subst h2
     have htl : t < e.M := (List.getElem?_eq_some_iff.1 h1).1
     rw [Nat.zero_add]
     exact Jf hC'W hν' (fun u hu => hν' t u htl hu) (fun b hb => by rw [hC'r _ _ (hρ' t htl)]; exact hb) (nV b6 h1) (hout t o h1)
theorem EM {e : ME} (hok : e.ok = true) {C : Ctx} {w : World} {g : Nat -> Option Ob} {al : List SV} {new : Nat} {alt : T Res} {post : Res -> Prop} (hw : WF C w) (hg : ObsOk C w g)
  (hnew : ∀ r, post r -> ∀ i ∈ r.eff.new, C.ν i = none) (h : (EL e al g new alt).holds post) :
  (∃ C0 r, post r /\ MIn e C0 w /\ (∀ vs, relL C w al vs -> relL C0 w e.al vs) /\ ∀ w' v, Pf e C0 w w' v -> ∃ C', Came C w r C' w' v) ∨ alt.holds post := by
 have hok' := hok
 obtain ⟨b1, _⟩ := aB hok'
 unfold EL at h
 rw [qp] at h
 have hnd : (qQ g e.obs 0 (asL e.al al [])).Nodup := qd _ _ _ (yw _ _ _ List.nodup_nil)
 generalize qQ g e.obs 0 (asL e.al al []) = ids at h hnd
 rcases Or.symm (fZ h) with h | ⟨hlen, h⟩
 · exact .inr h
 obtain ⟨hlen, hlt⟩ := aB hlen
 have hlen := Nat.eq_of_beq_eq_true hlen
 rcases Or.symm (sM h) with h | ⟨hal, h⟩
 · exact .inr h
 rcases Or.symm (jX h) with h | ⟨hobs, h⟩
 · exact .inr h
 have h : post (Ll e ids new) := h
 obtain ⟨q1, q2, q3⟩ := emb hok hw hg hnd hlen hlt (fun i h1 h2 => hnew _ h i (uG _ _ _ h1 h2)) hobs
 exact .inl ⟨_, _, h, q1, fun vs hr => q2 e.al vs b1 (hal _ _ _ hr), q3⟩
theorem JN {P : Program} {f : FuncId} {e : ME} (he : eP P f e) {C : Ctx} {w : World} {g : Nat -> Option Ob} {al : List SV} {vs : List Value} {new : Nat} {alt : T Res} {post : Res -> Prop} (hw : WF C w) (hg : ObsOk C w g)
  (hnew : ∀ r, post r -> ∀ i ∈ r.eff.new, C.ν i = none) (hr : relL C w al vs) (h : (EL e al g new alt).holds post) :
  (callable P f = true /\ Calls P f vs.toArray w fun x w' => ∃ v C' r, x = .returned v /\ post r /\ Came C w r C' w' v) ∨ alt.holds post := by
 rcases EM he.1 hw hg hnew h with ⟨C0, r, hp, hin, hal, hout⟩ | h
 · obtain ⟨hc, hcalls⟩ := he.2 C0 w vs hin (hal vs hr)
   refine .inl ⟨hc, hcalls.mono ?_⟩
   rintro x w' ⟨v, rfl, hm⟩
   obtain ⟨C', hcame⟩ := hout w' v hm
   exact ⟨v, C', r, rfl, hp, hcame⟩
 · exact .inr h
def lZ (es : List ME) (al : List SV) (g : Nat -> Option Ob) (new : Nat) (alt : T Res) : T Res := @List.rec ME (fun _ => T Res) alt (fun x _ ih => EL x al g new ih) es
theorem uF {P : Program} {f : FuncId} {C : Ctx} {w : World} {g : Nat -> Option Ob} {al : List SV} {vs : List Value} {new : Nat} {alt : T Res} {post : Res -> Prop} (hw : WF C w) (hg : ObsOk C w g)
  (hnew : ∀ r, post r -> ∀ i ∈ r.eff.new, C.ν i = none) (hr : relL C w al vs) : ∀ (es : List ME), (∀ x ∈ es, eP P f x) -> (lZ es al g new alt).holds post ->
  (callable P f = true /\ Calls P f vs.toArray w fun x w' => ∃ v C' r, x = .returned v /\ post r /\ Came C w r C' w' v) ∨ alt.holds post
 | [], _, h => .inr h
 | x :: es, he, h => by
   rcases JN (he x (by simp)) hw hg hnew hr (show (EL x al g new (lZ es al g new alt)).holds post from h) with h | h
   · exact .inl h
   · exact uF (alt := alt) hw hg hnew hr es (fun y hy => he y (by simp [hy])) h
def He (es : List ME) : Summ := ⟨false, fun _ _ _ => [], fun al g new _ => lZ es (q9 al) g new .fail⟩
theorem Hf {P : Program} {f : FuncId} {es : List ME} (he : ∀ x ∈ es, eP P f x) : bJ P f (He es) := by
 intro C w g al vs new post hw hg hnew hr h
 rcases uF hw hg hnew (jS hr) es he h with h | h
 · exact h
 · exact h.elim
end
end Rx
set_option linter.unusedSectionVars false
set_option linter.unusedSimpArgs false
set_option linter.unusedVariables false
namespace Rx
open Go
def iV (P : Program) (c : Code) (Q : Exit -> Act -> World -> Prop) (a : Act) (w : World) : Prop :=
 ∀ (b : Frame) (k : List Item) (cs : List Frame), ∃ e a' w', Q e a' w' /\ Arrives P (lone (b.at a (.code c :: .inLoop c :: k)) cs w) b k cs e a' w'
theorem Gz {P : Program} {c : Code} {Q : Exit -> Act -> World -> Prop} {a : Act} {w : World} (h : c.wp P (Exit.then (iV P c Q) Q) a w) : iV P c Q a w := by
 intro b k cs
 obtain ⟨e, a₁, w₁, hq, harr⟩ := h b (.inLoop c :: k) cs
 cases e with
 | normal =>
   obtain ⟨e₂, a₂, w₂, hq₂, harr₂⟩ := hq b k cs
   exact ⟨e₂, a₂, w₂, hq₂, .of_steps (Steps.trans harr (.one step_inLoop)) harr₂⟩
 | exit id => exact ⟨_, a₁, w₁, hq, .pass (x := .inLoop c) rfl (fun _ _ => .inl (by simp)) harr⟩
 | goto l => exact ⟨_, a₁, w₁, hq, .pass (x := .inLoop c) rfl (fun _ _ => .inl (by simp)) harr⟩
 | ret => exact ⟨_, a₁, w₁, hq, .pass (x := .inLoop c) rfl (fun _ _ => .inl (by simp)) harr⟩
 | panic ch => exact ⟨_, a₁, w₁, hq, .pass (x := .inLoop c) rfl (fun _ _ => .inl (by simp)) harr⟩
 | outgrown => exact ⟨_, a₁, w₁, hq, .pass (x := .inLoop c) rfl (fun _ _ => .inl (by simp)) harr⟩
theorem JV {P : Program} {c : Code} {Q : Exit -> Act -> World -> Prop} {a : Act} {w : World} (h : iV P c Q a w) : (Code.loop c).wp P Q a w := by
 intro b k cs
 obtain ⟨e, a', w', hq, harr⟩ := h b k cs
 exact ⟨e, a', w', hq, .of_steps (.one step_loop) harr⟩
theorem jL {P : Program} {c : Code} {Q Q' : Exit -> Act -> World -> Prop} {a : Act} {w : World} (h : iV P c Q a w) (hq : ∀ e a w, Q e a w -> Q' e a w) : iV P c Q' a w :=
 fun b k cs => let ⟨e, a', w', q, r⟩ := h b k cs; ⟨e, a', w', hq _ _ _ q, r⟩
variable [Glob]
noncomputable section
def zB (f : CS -> T (Ex × CS)) : Nat -> CS -> T (Ex × CS)
 | 0, σ => .ret (.normal, σ)
 | n + 1, σ => (f σ).bind fun x => match x.1 with
   | .normal => zB f n x.2
   | e => .ret (e, x.2)
def aiQ (E : CEnv) (fn : Func) (tl : CS -> T (SV × HS)) (x : Ex × CS) : T (SV × HS) := match x.1 with
 | .normal => tl x.2
 | .ret => (uS E.P fn x.2).bind fun s => .ret (s, x.2.h)
 | .exit _ => .fail
def Qh (E : CEnv) (fn : Func) (c : Code) (tl : CS -> T (SV × HS)) (n : Nat) (σ : CS) : T (SV × HS) := (zB ((aN c).1 E) n σ).bind (aiQ E fn tl)
def Qy (E : CEnv) (fn : Func) (C : Ctx) (w : World) (n0 : Nat) (post : SV × HS -> Prop) (ex : Exit) (a' : Act) (w' : World) : Prop :=
 ex = .ret /\ a'.defers = [] /\ ∃ v C' y, (results fn a'.tmps).run E.P w' = .ok v w' /\ post y /\ Step E.X C w C' w' /\ HOk E.top y.2 C' w' /\ rel C' w' y.1 v /\ ∀ i, i < n0 ∨ E.top <= i -> C'.ν i = C.ν i
theorem rR {E : CEnv} (hE : E.Ok) (hm : E.P.follows .mixedOrders = true) {fn : Func} {c : Code} {tl : CS -> T (SV × HS)} {post : SV × HS -> Prop}
  (htl : ∀ σ C a w, (tl σ).holds post -> InvC E C σ a w -> iV E.P c (Qy E fn C w σ.h.nob post) a w) :
  ∀ n σ C a w, (Qh E fn c tl n σ).holds post -> InvC E C σ a w -> iV E.P c (Qy E fn C w σ.h.nob post) a w
 | 0, σ, C, a, w, hh, hi => htl σ C a w hh hi
 | n + 1, σ, C, a, w, hh, hi => by
   unfold Qh at hh
   simp only [zB] at hh
   rw [T.ak, T.ak] at hh
   have hh := T.aV ((dA c).1 E hE σ hi.ok) hh
   refine Gz (wp_mono ((mJ c).1 E hE hm σ _ hh C a w hi) ?_)
   rintro e a1 w1 ⟨⟨ex, σ1⟩, C1, ⟨hg, hp⟩, rfl, hi1, hn1, hst1, hfr1⟩
   cases ex with
   | normal =>
     have hp : (Qh E fn c tl n σ1).holds post := by
       unfold Qh
       rw [T.ak]
       exact hp
     refine jL (rR hE hm htl n σ1 C1 a1 w1 hp hi1) ?_
     rintro e a2 w2 ⟨rfl, h1, v, C', y, h2, h3, h4, h5, h6, h7⟩
     have hst := StepC.trans hi1.hk.wf hn1 hst1 ⟨h4, h7⟩
     exact ⟨rfl, h1, v, C', y, h2, h3, hst.st, h5, h6, hst.tp⟩
   | exit id => exact hp.elim
   | ret =>
     have hp : ((uS E.P fn σ1).bind fun s => T.ret (s, σ1.h)).holds post := hp
     rw [T.ak, T.bC _ (yU _ _ _)] at hp
     obtain ⟨hok, s, hval, hp⟩ := hp
     obtain ⟨v, hrun, hr⟩ := yV hi1.hk.ob hi1.sl fn hok hval
     exact ⟨rfl, hi1.df, v, C1, (s, σ1.h), hrun, hp, hst1.st, hi1.hk, hr, hst1.tp⟩
def Hr (P : Program) (fn : Func) (c : Code) (e : ME) : Prop := e.ok = true /\
 ∀ (C : Ctx) (a : Act) (w : World), MIn e C w -> a.tmps.size = fn.ntmps -> a.defers = [] -> (∀ j, rel C w (e.al.getD j .junk) (a.tmps.getD j undef)) ->
   iV P c (fun ex a' w' => ex = .ret /\ a'.defers = [] /\ ∃ v, (results fn a'.tmps).run P w' = .ok v w' /\ Pf e C w w' v) a w
def vL (sl : Nat -> SV) (l : List SV) : Nat -> List SV := @List.rec SV (fun _ => Nat -> List SV) (fun _ => []) (fun _ _ ih i => sl i :: ih (Nat.succ i)) l
def nC (a : Act) : List SV -> Nat -> List Value
 | [], _ => []
 | _ :: l, i => a.tmps.getD i undef :: nC a l (i + 1)
theorem EG {C : Ctx} {w : World} {sl : Nat -> SV} {a : Act} (h : ∀ j, rel C w (sl j) (a.tmps.getD j undef)) : ∀ (l : List SV) (i : Nat), relL C w (vL sl l i) (nC a l i)
 | [], _ => rfl
 | _ :: l, i => ⟨_, _, rfl, h i, EG h l (i + 1)⟩
theorem Bt {C : Ctx} {w : World} {a : Act} : ∀ (l : List SV) (i : Nat), relL C w l (nC a l i) -> ∀ j, rel C w (l.getD j .junk) (a.tmps.getD (i + j) undef)
 | [], _, _, j => by
   show rel C w ([].getD j .junk) _
   rw [List.getD_eq_getElem?_getD, List.getElem?_nil]
   exact trivial
 | s :: l, i, ⟨v, r, e, h1, h2⟩, 0 => by
   simp only [nC, List.cons.injEq] at e
   obtain ⟨rfl, rfl⟩ := e
   exact h1
 | s :: l, i, ⟨v, r, e, h1, h2⟩, j + 1 => by
   simp only [nC, List.cons.injEq] at e
   obtain ⟨rfl, rfl⟩ := e
   have := Bt l (i + 1) h2 j
   rw [show i + 1 + j = i + (j + 1) by omega] at this
   simpa using this
def O5 (E : CEnv) (es : List ME) (l : List SV) (σ : CS) : T (SV × HS) := lift E σ.h (lZ es (q9 (vL σ.sl l (nat_lit 0))) σ.h.obj σ.h.nob .fail)
theorem BN {C : Ctx} {w : World} {g : Nat -> Option Ob} {al : List SV} {new : Nat} {alt : T Res} {post : Res -> Prop} (hw : WF C w) (hg : ObsOk C w g)
  (hnew : ∀ r, post r -> ∀ i ∈ r.eff.new, C.ν i = none) : ∀ (es : List ME), (∀ x ∈ es, x.ok = true) -> (lZ es al g new alt).holds post ->
  (∃ e ∈ es, ∃ C0 r, post r /\ MIn e C0 w /\ (∀ vs, relL C w al vs -> relL C0 w e.al vs) /\ ∀ w' v, Pf e C0 w w' v -> ∃ C', Came C w r C' w' v) ∨ alt.holds post
 | [], _, h => .inr h
 | x :: es, he, h => by
   rcases EM (he x (by simp)) hw hg hnew (show (EL x al g new (lZ es al g new alt)).holds post from h) with h | h
   · exact .inl ⟨x, by simp, h⟩
   · rcases BN (alt := alt) hw hg hnew es (fun y hy => he y (by simp [hy])) h with ⟨e, h1, h2⟩ | h
     · exact .inl ⟨e, by simp [h1], h2⟩
     · exact .inr h
theorem wR {E : CEnv} {fn : Func} {c : Code} (hN : E.N = fn.ntmps) {es : List ME} {l : List SV} (hes : ∀ x ∈ es, Hr E.P fn c x) (hl : ∀ x ∈ es, x.al.length = l.length) {post : SV × HS -> Prop} (σ : CS) (C : Ctx) (a : Act) (w : World)
  (hh : (O5 E es l σ).holds post) (hi : InvC E C σ a w) : iV E.P c (Qy E fn C w σ.h.nob post) a w := by
 unfold O5 lift at hh
 generalize ht : lZ es (q9 (vL σ.sl l (nat_lit 0))) σ.h.obj σ.h.nob .fail = t at hh
 cases hd : t.det with
 | false => rw [hd] at hh; exact hh.elim
 | true =>
   rw [hd, cond_true, T.ak] at hh
   have hh2 := T.aD (q := fun r => jf E σ.h r.eff = true /\ post (r.sv, σ.h.eff r.eff)) (fun r hr => by
    cases hb : jf E σ.h r.eff with
    | false => rw [hb] at hr; exact hr.elim
    | true => rw [hb] at hr; exact ⟨rfl, hr⟩) _ hh
   rw [← ht] at hh2
   rcases BN hi.hk.wf hi.hk.ob (fun r hr i hi' => by
    obtain ⟨q1, q2, _⟩ := mM hr.1
    have := dF q1 hi'
    exact hi.hk.nb i this.1 (by omega)) es (fun x hx => (hes x hx).1) hh2 with ⟨e, he, C0, r, ⟨hp1, hp2⟩, hin, hal, hout⟩ | h
   · have hsl := Bt e.al 0 (hal (nC a e.al 0) (by
        have h1 := jS (EG hi.sl l 0)
        have h2 : ∀ (l l' : List SV) (i : Nat), l.length = l'.length -> nC a l i = nC a l' i := by
         intro l
         induction l with
         | nil => intro l' i h; cases l' with
           | nil => rfl
           | cons _ _ => simp at h
         | cons x l ih => intro l' i h; cases l' with
           | nil => simp at h
           | cons y l' => simp only [nC]; rw [ih l' (i + 1) (by simpa using h)]
        rw [h2 e.al l 0 (hl e he)]
        exact h1))
     refine jL ((hes e he).2 C0 a w hin (by rw [hi.sz, hN]) hi.df fun j => by have := hsl j; rwa [Nat.zero_add] at this) ?_
     rintro ex a' w' ⟨rfl, h1, v, h2, h3⟩
     obtain ⟨C', hcame⟩ := hout w' v h3
     obtain ⟨q1, q2, q3⟩ := Came.hok hi.hk hcame hp1
     exact ⟨rfl, h1, v, C', (r.sv, σ.h.eff r.eff), h2, hp2, q2, q1, hcame.rel, q3⟩
   · exact h.elim
def Tt (f : CG) (n : Nat) : CG := @Nat.rec (fun _ => CG) (fun kn _ _ => kn) (fun _ ih kn ke kr => f (ih kn ke kr) ke kr) n
theorem zC {E : CEnv} {f : CS -> T (Ex × CS)} (hf : ∀ σ : CS, σ.h.Ok -> (f σ).good (mg E σ)) : ∀ (n : Nat) (σ : CS), σ.h.Ok -> (zB f n σ).good (mg E σ)
 | 0, _, h => ⟨h, Nat.le_refl _, Nat.le_max_right _ _⟩
 | n + 1, σ, h => T.aW (fun x hx => by
     obtain ⟨ex, σ'⟩ := x
     cases ex with
     | normal => exact T.fK (fun y hy => kY hx hy) _ (zC hf n σ' hx.1)
     | exit id => exact hx
     | ret => exact hx) _ (hf σ h)
theorem Jz {c : Code} {x : CP} (hx : qP c x.f) {E : CEnv} {X : EX} (hE : E.Ok) (hX : XRef X E) (hN : E.N <= 16777215) : ∀ (n : Nat) (kn : KS) (ke : Nat -> KS) (kr : KS) (sl : Tr SV) (ob : OB) (nb : Nat) (post : SV × HD -> Prop), dJ E.top nb -> FOk ob nb ->
  (Tt (x.f E.P X E.fl E.N E.fuel) n kn ke kr sl ob nb).holds post -> (zB ((aN c).1 E) n ⟨view E.fl sl .nil, ⟨ay ob, nb⟩⟩).holds (KC E.fl post kn ke kr)
 | 0, _, _, _, sl, ob, _, _, _, _, h => ⟨sl, ob, rfl, h⟩
 | n + 1, kn, ke, kr, sl, ob, nb, post, hT, hF, h => by
   have h : (x.f E.P X E.fl E.N E.fuel (Tt (x.f E.P X E.fl E.N E.fuel) n kn ke kr) ke kr sl ob nb).holds post := h
   simp only [zB, T.ak]
   have h1 := T.aV ((dA c).1 E hE ⟨view E.fl sl .nil, ⟨ay ob, nb⟩⟩ hF) (hx E X hE hX hN _ _ _ sl ob nb post hT hF h)
   refine T.aD (fun z hz => ?_) _ h1
   obtain ⟨sl', ob', e, hh, hT', hF'⟩ := KC.facts hT hz.1 hz.2
   obtain ⟨ex, σ'⟩ := z
   cases ex with
   | normal =>
     show T.holds _ (zB ((aN c).1 E) n σ')
     rw [show σ' = _ from e]
     exact Jz hx hE hX hN n kn ke kr sl' ob' _ post hT' hF' hh
   | exit k => exact ⟨sl', ob', e, hh⟩
   | ret => exact ⟨sl', ob', e, hh⟩
def Po (e : ME) : KK := fun s ob nb => Kr (qQ (ay ob) e.aft (nat_lit 0) (asS e.r s (upto (nat_lit 0) e.m))) fun ids =>
 BT (aK (Nat.beq ids.length e.M) (aK (Ib.idN e.m ids) (Nu e.m (ids.drop e.m)))) (eqS (rnS (bQ ids) e.r) s (Kk (bQ ids) (ay ob) e.aft (nat_lit 0) (.ret (.kb true, ⟨.nil, nat_lit 0⟩)) .fail) .fail) .fail
theorem yE {e : ME} {C C' : Ctx} {w w' : World} {v : Value} {top : Nat} {y : SV × HS} (hst : Step (fun _ => True) C w C' w') (hk : HOk top y.2 C' w') (hv : rel C' w' y.1 v) (hfr : ∀ i, i < e.m -> C'.ν i = C.ν i)
  (hy : KP (fun y => y.1 = .kb true) (Po e) y) : Pf e C w w' v := by
 obtain ⟨ob', hob', hy⟩ := hy
 unfold Po at hy
 rw [qp] at hy
 have hnd : (qQ (ay ob') e.aft 0 (asS e.r y.1 (upto 0 e.m))).Nodup := qd _ _ _ (yx _ _ _ (Hg _ _))
 generalize qQ (ay ob') e.aft 0 (asS e.r y.1 (upto 0 e.m)) = ids at hy hnd
 obtain ⟨g1, hy⟩ := qU hy
 obtain ⟨g1, g2⟩ := aB g1
 obtain ⟨g2, g3⟩ := aB g2
 have g1 := Nat.eq_of_beq_eq_true g1
 rcases Or.symm (sN hy) with hy | ⟨q1, hy⟩
 · exact hy.elim
 rcases Or.symm (jX hy) with hy | ⟨q2, hy⟩
 · exact hy.elim
 refine ⟨C', bQ ids, hst, hk.wf, hfr, fun i hi => FP g2 hi, fun i h3 h4 => ?_, fun i j h3 h4 h5 h6 h7 => tY hnd (by omega) (by omega) h7, q1 _ _ _ hv, fun t ob ht' => ?_⟩
 · refine uI g3 ?_
   rw [mF (List.getElem?_eq_getElem (by omega : i < ids.length))]
   have : (ids.drop e.m)[i - e.m]? = some ids[i] := by
    rw [List.getElem?_drop, show e.m + (i - e.m) = i by omega]
    exact List.getElem?_eq_getElem (by omega)
   exact List.mem_of_getElem? this
 · obtain ⟨o, ho, hio⟩ := q2 t ob ht'
   rw [← hob', Nat.zero_add] at ho
   exact hio _ _ _ (hk.ob _ _ ho)
def GH (P : Program) (F : FuncId -> Option Summ) (fl : FuncId -> Nat) (win : FuncId -> Nat -> Nat -> Nat) (fu n top f : Nat) : EX := ⟨Bp P F fl win fu n, top, nat_lit 0, win f n⟩
def afo (P : Program) (F : FuncId -> Option Summ) (fl : FuncId -> Nat) (win : FuncId -> Nat -> Nat -> Nat) (fu n top : Nat) (f : FuncId) (fn : Func) (c : Code) (es : List ME) (e : ME) (k : Nat) : R :=
 Tt ((cg c).f P (GH P F fl win fu n top f) (fl f) fn.ntmps fu) k
    (fun sl ob nb => qR (GH P F fl win fu n top f) (lZ es (q9 (vL (view (fl f) sl .nil) e.al (nat_lit 0))) (ay ob) nb .fail) ob nb (Po e))
    (fun _ _ _ _ => .fail) (fun sl ob nb => Iu P (fl f) fn sl ob fun s => Po e s ob nb) (mE e.al (nat_lit 0) .nil) (obT e.obs (nat_lit 0)) e.m
theorem Tv {D : Deps} (hD : D.Ok) {n top : Nat} {f : FuncId} {fn : Func} {c : Code} {es : List ME} {l : List SV} {q : KK} {post : SV × HD -> Prop} (hN : fn.ntmps <= 16777215) (k : Nat) (sl : Tr SV) (ob : OB) (nb : Nat) (hT : dJ top nb) (hF : FOk ob nb)
  (h : (Tt ((cg c).f D.P (GH D.P D.F D.fl D.win D.fuel n top f) (D.fl f) fn.ntmps D.fuel) k
   (fun sl ob nb => qR (GH D.P D.F D.fl D.win D.fuel n top f) (lZ es (q9 (vL (view (D.fl f) sl .nil) l (nat_lit 0))) (ay ob) nb .fail) ob nb q)
   (fun _ _ _ _ => .fail) (fun sl ob nb => Iu D.P (D.fl f) fn sl ob fun s => q s ob nb) sl ob nb).holds post) :
  (Qh ⟨D.P, fn.ntmps, fun _ _ => none, pR D n, top, 0, D.win f n, D.fuel, D.fl f⟩ fn c (O5 ⟨D.P, fn.ntmps, fun _ _ => none, pR D n, top, 0, D.win f n, D.fuel, D.fl f⟩ es l) k ⟨view (D.fl f) sl .nil, ⟨ay ob, nb⟩⟩).holds (KP post q) := by
 let E : CEnv := ⟨D.P, fn.ntmps, fun _ _ => none, pR D n, top, 0, D.win f n, D.fuel, D.fl f⟩
 have hE : E.Ok := ⟨fun rid i s hs => (by cases hs), fun top base f al h => (gM hD n top base f al h).1, fun top base f al h hh => (gM hD n top base f al h).2⟩
 have hX : XRef (GH D.P D.F D.fl D.win D.fuel n top f) E := ⟨pQ hD n, rfl, rfl, rfl, fun _ _ => rfl⟩
 have h1 := T.aV (zC (fun σ h => (dA c).1 E hE σ h) k ⟨view E.fl sl .nil, ⟨ay ob, nb⟩⟩ hF)
  (Jz (Ke c).1 hE hX hN k _ _ _ sl ob nb _ hT hF h)
 unfold Qh
 rw [T.ak]
 refine T.aD (fun z hz => ?_) _ h1
 obtain ⟨sl', ob', ez, hh, hT', hF'⟩ := KC.facts hT hz.1 hz.2
 obtain ⟨ex, σ'⟩ := z
 have ez2 : σ' = ⟨view E.fl sl' .nil, ⟨ay ob', σ'.h.nob⟩⟩ := ez
 clear ez
 cases ex with
 | normal =>
   have h3 : (O5 E es l ⟨view E.fl sl' .nil, ⟨ay ob', σ'.h.nob⟩⟩).holds (KP post q) := fq (E := E) rfl rfl hT' hh
   rw [← ez2] at h3
   exact h3
 | exit k => exact hh.elim
 | ret =>
   show ((uS D.P fn σ').bind fun s => T.ret (s, σ'.h)).holds _
   rw [T.ak]
   have h3 := Iw (nb := σ'.h.nob) (show (Iu D.P (D.fl f) fn sl' ob' fun s => q s ob' σ'.h.nob).holds _ from hh)
   rw [show (⟨view (D.fl f) sl' .nil, ⟨ay ob', σ'.h.nob⟩⟩ : CS) = σ' from ez2.symm] at h3
   refine T.aD (fun s hs => ?_) _ h3
   exact ⟨ob', congrArg (fun σ : CS => σ.h.obj) ez2, hs⟩
theorem C9 {D : Deps} {n top : Nat} {f : FuncId} {fn : Func} {e : ME} (hok : e.ok = true) (hm : e.m <= top) (ht : top <= 16000000) (hN : fn.ntmps <= 16777215) (ha : e.al.length <= fn.ntmps) :
  dJ top e.m /\ FOk (obT e.obs 0) e.m /\ ∀ (C : Ctx) (a : Act) (w : World), MIn e C w -> a.tmps.size = fn.ntmps -> a.defers = [] -> (∀ j, rel C w (e.al.getD j .junk) (a.tmps.getD j undef)) ->
   InvC ⟨D.P, fn.ntmps, fun _ _ => none, pR D n, top, 0, D.win f n, D.fuel, D.fl f⟩ C ⟨view (D.fl f) (mE e.al 0 .nil) .nil, ⟨ay (obT e.obs 0), e.m⟩⟩ a w := by
 obtain ⟨b1, hok'⟩ := aB hok
 obtain ⟨b2, hok'⟩ := aB hok'
 obtain ⟨b3, hok'⟩ := aB hok'
 have b3 := Nat.le_of_ble_eq_true b3
 have hget : ∀ i, ay (obT e.obs 0) i = (e.obs[i]?).getD none := fun i => by
  rw [Gi e.obs 0 i (by omega), if_pos (Nat.zero_le _), Nat.sub_zero]
 have hF : FOk (obT e.obs 0) e.m := fun i hi => by
  rw [hget, List.getElem?_eq_none (by omega)]; rfl
 refine ⟨⟨hm, by omega⟩, hF, fun C a w ⟨hw, hobs, hnone⟩ hsz hdf hsl => ⟨⟨hw, fun i ob hi => ?_, fun i hi _ => hnone i hi⟩, hF, hsz, hdf, fun j => ?_⟩⟩
 · have hi : ay (obT e.obs 0) i = some ob := hi
   rw [hget] at hi
   cases hx : e.obs[i]? with
   | none => rw [hx] at hi; cases hi
   | some o =>
     rw [hx] at hi
     have hi : o = some ob := hi
     subst hi
     exact hobs i ob hx
 · show rel C w (BS (fQ (D.fl f) j) (gX (mE e.al 0 .nil) j) .junk) _
   cases fQ (D.fl f) j with
   | false => exact trivial
   | true =>
     show rel C w (gX (mE e.al 0 .nil) j) _
     rw [vk e.al 0 .nil j (by omega)]
     by_cases hj : j < e.al.length
     · rw [if_pos (by omega)]
       exact hsl j
     · rw [if_neg (by omega)]
       exact trivial
theorem Vo {D : Deps} (hD : D.Ok) {n top : Nat} {f : FuncId} {fn : Func} {c : Code} {es : List ME} {e : ME} (hes : ∀ x ∈ es, Hr D.P fn c x) (hl : ∀ x ∈ es, x.al.length = e.al.length) (hok : e.ok = true)
  (hN : Nat.ble fn.ntmps 16777215 = true) (ha : Nat.ble e.al.length fn.ntmps = true) (hm : Nat.ble e.m top = true) (ht : Nat.ble top 16000000 = true) (k : Nat)
  (h : (afo D.P D.F D.fl D.win D.fuel n top f fn c es e k).holds fun y => y.1 = .kb true) : Hr D.P fn c e := by
 have hN := Nat.le_of_ble_eq_true hN
 obtain ⟨hT, hF, hinv⟩ := C9 (D := D) (n := n) (f := f) (fn := fn) hok (Nat.le_of_ble_eq_true hm) (Nat.le_of_ble_eq_true ht) hN (Nat.le_of_ble_eq_true ha)
 refine ⟨hok, fun C a w hin hsz hdf hsl => ?_⟩
 let E : CEnv := ⟨D.P, fn.ntmps, fun _ _ => none, pR D n, top, 0, D.win f n, D.fuel, D.fl f⟩
 have hE : E.Ok := ⟨fun rid i s hs => (by cases hs), fun top base f al h => (gM hD n top base f al h).1, fun top base f al h hh => (gM hD n top base f al h).2⟩
 have h2 := Tv hD hN k _ _ _ hT hF h
 refine jL (rR hE hD.2 (fun σ C a w hh hi => wR (E := E) rfl hes hl σ C a w hh hi) k _ C a w h2 (hinv C a w hin hsz hdf hsl)) ?_
 rintro ex a' w' ⟨rfl, g1, v, C', y, g2, g3, g4, g5, g6, g7⟩
 exact ⟨rfl, g1, v, g2, yE (g4.mono fun _ _ => trivial) g5 g6 (fun i hi => g7 i (.inl hi)) g3⟩
def inLoop : Code -> Option Code
 | .loop c => some c
 | .seq a _ => inLoop a
 | .block _ a => inLoop a
 | _ => none
def xW : Code -> Option (Code × Code)
 | .seq p b => match inLoop b with
   | some c => some (p, c)
   | none => none
 | _ => none
theorem vQ {P : Program} {c : Code} {Q0 : Exit -> Act -> World -> Prop} {a : Act} {w : World} (h : iV P c Q0 a w) : ∀ (b : Code) (Q : Exit -> Act -> World -> Prop), inLoop b = some c -> (∀ e a w, Q0 e a w -> e = .ret /\ Q .ret a w) -> b.wp P Q a w
 | .loop c', Q, hb, hq => by
   simp only [inLoop, Option.some.injEq] at hb
   subst hb
   exact JV (jL h fun e a w hh => by
    obtain ⟨h1, h2⟩ := hq e a w hh
    rw [h1]; exact h2)
 | .seq x y, Q, hb, hq => wp_seq (vQ h x _ hb fun e a w hh => hq e a w hh)
 | .block id x, Q, hb, hq => wp_block (vQ h x _ hb fun e a w hh => hq e a w hh)
def afi (P : Program) (F : FuncId -> Option Summ) (fl : FuncId -> Nat) (win : FuncId -> Nat -> Nat -> Nat) (fu n top : Nat) (f : FuncId) (fn : Func) (pre c : Code) (es : List ME) (l : List SV) (e : ME) (k : Nat) : R :=
 (cg pre).f P (GH P F fl win fu n top f) (fl f) fn.ntmps fu (Tt ((cg c).f P (GH P F fl win fu n top f) (fl f) fn.ntmps fu) k
    (fun sl ob nb => qR (GH P F fl win fu n top f) (lZ es (q9 (vL (view (fl f) sl .nil) l (nat_lit 0))) (ay ob) nb .fail) ob nb (Po e))
    (fun _ _ _ _ => .fail) (fun sl ob nb => Iu P (fl f) fn sl ob fun s => Po e s ob nb)) (fun _ _ _ _ => .fail) (fun _ _ _ => .fail) (mE e.al (nat_lit 0) .nil) (obT e.obs (nat_lit 0)) e.m
theorem Vn {D : Deps} (hD : D.Ok) {n top : Nat} {f : FuncId} {fn : Func} {b pre c : Code} {es : List ME} {l : List SV} {e : ME} (hf : D.P.funcs[f]? = some fn) (hb : fn.body = some b) (hc : callable D.P f = true) (hp : xW b = some (pre, c))
  (hes : ∀ x ∈ es, Hr D.P fn c x) (hl : ∀ x ∈ es, x.al.length = l.length) (hok : e.ok = true)
  (hN : Nat.ble fn.ntmps 16777215 = true) (ha : Nat.ble e.al.length fn.ntmps = true) (hm : Nat.ble e.m top = true) (ht : Nat.ble top 16000000 = true) (k : Nat)
  (h : (afi D.P D.F D.fl D.win D.fuel n top f fn pre c es l e k).holds fun y => y.1 = .kb true) : eP D.P f e := by
 have hN := Nat.le_of_ble_eq_true hN
 have ha' := Nat.le_of_ble_eq_true ha
 obtain ⟨hT, hF, hinv⟩ := C9 (D := D) (n := n) (f := f) (fn := fn) hok (Nat.le_of_ble_eq_true hm) (Nat.le_of_ble_eq_true ht) hN ha'
 refine ⟨hok, fun C w vs hin hr => ⟨hc, ?_⟩⟩
 let E : CEnv := ⟨D.P, fn.ntmps, fun _ _ => none, pR D n, top, 0, D.win f n, D.fuel, D.fl f⟩
 have hE : E.Ok := ⟨fun rid i s hs => (by cases hs), fun top base f al h => (gM hD n top base f al h).1, fun top base f al h hh => (gM hD n top base f al h).2⟩
 have hX : XRef (GH D.P D.F D.fl D.win D.fuel n top f) E := ⟨pQ hD n, rfl, rfl, rfl, fun _ _ => rfl⟩
 have hlen := aQ hr
 obtain ⟨y, hb', hy⟩ : ∃ y, b = .seq pre y /\ inLoop y = some c := by
  unfold xW at hp
  split at hp
  · rename_i p x
    split at hp
    · rename_i c' hx
      simp only [Option.some.injEq, Prod.mk.injEq] at hp
      obtain ⟨rfl, rfl⟩ := hp
      exact ⟨_, rfl, hx⟩
    · cases hp
  · cases hp
 subst hb'
 have hi0 := hinv C { tmps := vs.toArray ++ Array.replicate (fn.ntmps - vs.toArray.size) undef, defers := [] } w hin (by simp; omega) rfl (fun j => Da hr _ j)
 have h1 := T.aV ((dA pre).1 E hE ⟨view E.fl (mE e.al 0 .nil) .nil, ⟨ay (obT e.obs 0), e.m⟩⟩ hF) ((Ke pre).1 E _ hE hX hN _ _ _ (mE e.al 0 .nil) (obT e.obs 0) e.m _ hT hF h)
 refine calls_of_wp hf hb (wp_seq (wp_mono ((mJ pre).1 E hE hD.2 _ _ h1 C _ w hi0) ?_))
 rintro ex a1 w1 ⟨⟨ex, σ1⟩, C1, ⟨hg, hq⟩, rfl, hi1, hn1, hst1, hfr1⟩
 obtain ⟨sl', ob', ez, hh, hT', hF'⟩ := KC.facts hT hg hq
 have ez2 : σ1 = ⟨view E.fl sl' .nil, ⟨ay ob', σ1.h.nob⟩⟩ := ez
 clear ez
 cases ex with
 | exit k => exact hh.elim
 | ret => exact hh.elim
 | normal =>
   have h2 := Tv hD hN k sl' ob' _ hT' hF' hh
   rw [show (⟨view (D.fl f) sl' .nil, ⟨ay ob', σ1.h.nob⟩⟩ : CS) = σ1 from ez2.symm] at h2
   refine vQ (rR hE hD.2 (fun σ C a w hh hi => wR (E := E) rfl hes hl σ C a w hh hi) k σ1 C1 a1 w1 h2 hi1) y _ hy ?_
   rintro ex a' w' ⟨rfl, g1, v, C', y', g2, g3, g4, g5, g6, g7⟩
   have hst := StepC.trans hi1.hk.wf hn1 hst1 ⟨g4, g7⟩
   exact ⟨rfl, g1, v, g2, v, rfl, yE (hst.st.mono fun _ _ => trivial) g5 g6 (fun i hi => hst.tp i (.inl hi)) g3⟩
end
end Rx
