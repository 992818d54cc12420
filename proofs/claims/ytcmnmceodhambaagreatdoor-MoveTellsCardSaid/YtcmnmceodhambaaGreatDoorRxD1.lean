/- Rx, part D1: equal or not, for the kernel. Printed by gen/told.py. -/
import Derived.Test.YtcmnmceodhambaaGreatDoorRxX6
set_option linter.unusedSectionVars false
set_option linter.unusedSimpArgs false
set_option linter.unusedVariables false
namespace Rx
open Go
variable [Glob]
noncomputable section
variable {α : Type}
def BT (b : Bool) (x y : T α) : T α := @Bool.rec (fun _ => T α) y x b
theorem iD {b : Bool} {x y : T α} {post : α -> Prop} (h : (BT b x y).holds post) : (b = true /\ x.holds post) ∨ y.holds post := by
 cases b
 · exact .inr h
 · exact .inl ⟨rfl, h⟩
theorem Wm {b : Bool} {x : T α} {post : α -> Prop} (h : (BT b x .fail).holds post) : b = true /\ x.holds post := by
 cases b
 · exact h.elim
 · exact ⟨rfl, h⟩
def L6 (i : Nat) (l : List Nat) : Bool := @List.rec Nat (fun _ => Bool) false (fun j _ r => @Bool.rec (fun _ => Bool) r true (Nat.beq i j)) l
theorem Gs {i : Nat} : ∀ {l : List Nat}, L6 i l = true ↔ i ∈ l
 | [] => by simp [L6]
 | j :: l => by
   have ih := Gs (i := i) (l := l)
   show (@Bool.rec (fun _ => Bool) (L6 i l) true (Nat.beq i j)) = true ↔ _
   cases hb : Nat.beq i j with
   | true => simp [Nat.eq_of_beq_eq_true hb]
   | false =>
     have : i ≠ j := fun e => by rw [lU e] at hb; cases hb
     show L6 i l = true ↔ _
     rw [ih]; simp [this]
abbrev Q2 (α : Type) := T α -> T α -> T α
def byE (l : List UInt8) : List UInt8 -> Bool := @List.rec UInt8 (fun _ => List UInt8 -> Bool) (fun m => @List.rec UInt8 (fun _ => Bool) true (fun _ _ _ => false) m) (fun x _ ih m => @List.rec UInt8 (fun _ => Bool) false (fun y m _ => aT (Nat.beq x.toNat y.toNat) (ih m)) m) l
theorem Qa : ∀ {l m : List UInt8}, byE l m = true -> l = m
 | [], [], _ => rfl
 | [], _ :: _, h => by cases h
 | _ :: _, [], h => by cases h
 | x :: l, y :: m, h => by
   have h : aT (Nat.beq x.toNat y.toNat) (byE l m) = true := h
   rw [gQ, Bool.and_eq_true] at h
   rw [UInt8.toNat_inj.1 (Nat.eq_of_beq_eq_true h.1), Qa h.2]
def GN (s t : ByteArray) : Bool := byE s.data.toList t.data.toList
theorem Fw {s t : ByteArray} (h : GN s t = true) : s = t := by
 have h := Qa h
 cases s with | mk a => cases t with | mk b =>
 have h : a.toList = b.toList := h
 rw [Array.toList_inj.1 h]
def TW (u v : Value) (c alt : T α) : T α := match u, v with
 | .string s, .string t => BT (GN s t) c alt
 | .slice none 0 0, .slice none 0 0 => c
 | .pointer none, .pointer none => c
 | .nilIface, .nilIface => c
 | .map none, .map none => c
 | .int k n, .int k' m => BT (aT (dQ k k') (eqI n m)) c alt
 | .bool p, .bool q => BT (eqB p q) c alt
 | .string _, _ => alt
 | .slice _ _ _, _ => alt
 | .pointer _, _ => alt
 | .int _ _, _ => alt
 | .bool _, _ => alt
 | u, v => .need (u = v) c
theorem pG {a b : IntKind} (h : dQ a b = true) : a = b := by simpa [dQ] using h
theorem Pe {p q : Bool} (h : eqB p q = true) : p = q := by cases p <;> cases q <;> first | rfl | cases h
theorem aZ {a b : Bool} (h : aT a b = true) : a = true /\ b = true := by rw [gQ, Bool.and_eq_true] at h; exact h
theorem Cg {a b : Int} (h : eqI a b = true) : a = b := by rw [vo] at h; simpa using h
theorem NU {u v : Value} {c alt : T α} {post : α -> Prop} (h : (TW u v c alt).holds post) : (u = v /\ c.holds post) ∨ alt.holds post := by
 unfold TW at h
 split at h
 · rcases iD h with ⟨h1, h2⟩ | h
   · exact .inl ⟨by rw [Fw h1], h2⟩
   · exact .inr h
 · exact .inl ⟨rfl, h⟩
 · exact .inl ⟨rfl, h⟩
 · exact .inl ⟨rfl, h⟩
 · exact .inl ⟨rfl, h⟩
 · rcases iD h with ⟨h1, h2⟩ | h
   · obtain ⟨h1, h3⟩ := aZ h1
     exact .inl ⟨by rw [pG h1, Cg h3], h2⟩
   · exact .inr h
 · rcases iD h with ⟨h1, h2⟩ | h
   · exact .inl ⟨by rw [Pe h1], h2⟩
   · exact .inr h
 · exact .inr h
 · exact .inr h
 · exact .inr h
 · exact .inr h
 · exact .inr h
 · exact .inl ⟨h.1, h.2⟩
def dtE (d e : Dt) (c alt : T α) : T α := match d, e with
 | .cell u, .cell v => TW u v c alt
 | .cell _, _ => alt
 | _, .cell _ => alt
 | .ri k a b n, .ri k' a' b' n' => BT (aT (dQ k k') (aT (eqI a a') (eqI b b'))) (.need (n = n') c) alt
 | .arr sz n f, .arr sz' n' f' => BT (aT (Nat.beq sz sz') (Nat.beq n n')) (.need (f = f') c) alt
 | d, e => .need (d = e) c
theorem Rk {d e : Dt} {c alt : T α} {post : α -> Prop} (h : (dtE d e c alt).holds post) : (d = e /\ c.holds post) ∨ alt.holds post := by
 unfold dtE at h
 split at h
 · rcases NU h with ⟨h1, h2⟩ | h
   · exact .inl ⟨by rw [h1], h2⟩
   · exact .inr h
 · exact .inr h
 · exact .inr h
 · rcases iD h with ⟨h1, h2⟩ | h
   · obtain ⟨h1, h3⟩ := aZ h1
     obtain ⟨h3, h4⟩ := aZ h3
     exact .inl ⟨by rw [pG h1, Cg h3, Cg h4, h2.1], h2.2⟩
   · exact .inr h
 · rcases iD h with ⟨h1, h2⟩ | h
   · obtain ⟨h1, h3⟩ := aZ h1
     exact .inl ⟨by rw [Nat.eq_of_beq_eq_true h1, Nat.eq_of_beq_eq_true h3, h2.1], h2.2⟩
   · exact .inr h
 · exact .inl ⟨h.1, h.2⟩
def TG (s : SV) : Nat -> Nat -> Q2 α := @SV.rec (fun _ => Nat -> Nat -> Q2 α) (fun _ => PUnit) (fun _ _ _ alt => alt) (fun _ => fun _ _ _ alt => alt) (fun _ _ => fun _ _ _ alt => alt) (fun _ _ => fun _ _ _ alt => alt) (fun j p i o c alt => BT (aT (Nat.beq i j) (Nat.beq o p)) c alt) (fun _ _ => fun _ _ _ alt => alt) (fun _ _ _ => fun _ _ _ alt => alt) (fun _ => fun _ _ _ alt => alt) (fun _ _ => fun _ _ _ alt => alt) (fun _ => fun _ _ _ alt => alt) (fun _ _ _ _ => fun _ _ _ alt => alt) (fun _ _ _ _ => fun _ _ _ alt => alt) (fun _ _ _ _ _ => fun _ _ _ alt => alt) (fun _ => fun _ _ _ alt => alt) PUnit.unit (fun _ _ _ _ => PUnit.unit) s
theorem Ou {b : SV} {c alt : T α} {post : α -> Prop} {i o : Nat} (h : (TG b i o c alt).holds post) : (SV.ptr i o = b /\ c.holds post) ∨ alt.holds post := by
 cases b
 case ptr j p =>
  rcases iD (show (BT (aT (Nat.beq i j) (Nat.beq o p)) c alt).holds post from h) with ⟨h1, h2⟩ | h
  · obtain ⟨h1, h3⟩ := aZ h1
    exact .inl ⟨by rw [Nat.eq_of_beq_eq_true h1, Nat.eq_of_beq_eq_true h3], h2⟩
  · exact .inr h
 all_goals exact .inr h
def nmE (s : SV) : Nat -> Q2 α := @SV.rec (fun _ => Nat -> Q2 α) (fun _ => PUnit) (fun _ _ alt => alt) (fun _ => fun _ _ alt => alt) (fun _ _ => fun _ _ alt => alt) (fun _ _ => fun _ _ alt => alt) (fun _ _ => fun _ _ alt => alt) (fun _ _ => fun _ _ alt => alt) (fun _ _ _ => fun _ _ alt => alt) (fun _ => fun _ _ alt => alt) (fun _ _ => fun _ _ alt => alt) (fun j i c alt => BT (Nat.beq i j) c alt) (fun _ _ _ _ => fun _ _ alt => alt) (fun _ _ _ _ => fun _ _ alt => alt) (fun _ _ _ _ _ => fun _ _ alt => alt) (fun _ => fun _ _ alt => alt) PUnit.unit (fun _ _ _ _ => PUnit.unit) s
theorem Qy {b : SV} {c alt : T α} {post : α -> Prop} {i : Nat} (h : (nmE b i c alt).holds post) : (SV.nm i = b /\ c.holds post) ∨ alt.holds post := by
 cases b
 case nm j =>
  rcases iD (show (BT (Nat.beq i j) c alt).holds post from h) with ⟨h1, h2⟩ | h
  · exact .inl ⟨by rw [Nat.eq_of_beq_eq_true h1], h2⟩
  · exact .inr h
 all_goals exact .inr h
def kbE (s : SV) : Bool -> Q2 α := @SV.rec (fun _ => Bool -> Q2 α) (fun _ => PUnit) (fun _ _ alt => alt) (fun _ => fun _ _ alt => alt) (fun _ _ => fun _ _ alt => alt) (fun _ _ => fun _ _ alt => alt) (fun _ _ => fun _ _ alt => alt) (fun _ _ => fun _ _ alt => alt) (fun _ _ _ => fun _ _ alt => alt) (fun q p c alt => BT (eqB p q) c alt) (fun _ _ => fun _ _ alt => alt) (fun _ => fun _ _ alt => alt) (fun _ _ _ _ => fun _ _ alt => alt) (fun _ _ _ _ => fun _ _ alt => alt) (fun _ _ _ _ _ => fun _ _ alt => alt) (fun _ => fun _ _ alt => alt) PUnit.unit (fun _ _ _ _ => PUnit.unit) s
theorem QV {b : SV} {c alt : T α} {post : α -> Prop} {p : Bool} (h : (kbE b p c alt).holds post) : (SV.kb p = b /\ c.holds post) ∨ alt.holds post := by
 cases b
 case kb q =>
  rcases iD (show (BT (eqB p q) c alt).holds post from h) with ⟨h1, h2⟩ | h
  · exact .inl ⟨by rw [Pe h1], h2⟩
  · exact .inr h
 all_goals exact .inr h
def kiE (s : SV) : IntKind -> Int -> Q2 α := @SV.rec (fun _ => IntKind -> Int -> Q2 α) (fun _ => PUnit) (fun _ _ _ alt => alt) (fun _ => fun _ _ _ alt => alt) (fun _ _ => fun _ _ _ alt => alt) (fun _ _ => fun _ _ _ alt => alt) (fun _ _ => fun _ _ _ alt => alt) (fun _ _ => fun _ _ _ alt => alt) (fun _ _ _ => fun _ _ _ alt => alt) (fun _ => fun _ _ _ alt => alt) (fun k' m k n c alt => BT (aT (dQ k k') (eqI n m)) c alt) (fun _ => fun _ _ _ alt => alt) (fun _ _ _ _ => fun _ _ _ alt => alt) (fun _ _ _ _ => fun _ _ _ alt => alt) (fun _ _ _ _ _ => fun _ _ _ alt => alt) (fun _ => fun _ _ _ alt => alt) PUnit.unit (fun _ _ _ _ => PUnit.unit) s
theorem Rs {b : SV} {c alt : T α} {post : α -> Prop} {k : IntKind} {n : Int} (h : (kiE b k n c alt).holds post) : (SV.ki k n = b /\ c.holds post) ∨ alt.holds post := by
 cases b
 case ki k' m =>
  rcases iD (show (BT (aT (dQ k k') (eqI n m)) c alt).holds post from h) with ⟨h1, h2⟩ | h
  · obtain ⟨h1, h3⟩ := aZ h1
    exact .inl ⟨by rw [pG h1, Cg h3], h2⟩
  · exact .inr h
 all_goals exact .inr h
def rpE (s : SV) : Nat -> Nat -> Nat -> Nat -> Q2 α := @SV.rec (fun _ => Nat -> Nat -> Nat -> Nat -> Q2 α) (fun _ => PUnit) (fun _ _ _ _ _ alt => alt) (fun _ => fun _ _ _ _ _ alt => alt) (fun _ _ => fun _ _ _ _ _ alt => alt) (fun _ _ => fun _ _ _ _ _ alt => alt) (fun _ _ => fun _ _ _ _ _ alt => alt) (fun _ _ => fun _ _ _ _ _ alt => alt) (fun _ _ _ => fun _ _ _ _ _ alt => alt) (fun _ => fun _ _ _ _ _ alt => alt) (fun _ _ => fun _ _ _ _ _ alt => alt) (fun _ => fun _ _ _ _ _ alt => alt) (fun i' o' y' z' i o y z c alt => BT (aT (Nat.beq i i') (aT (Nat.beq o o') (aT (Nat.beq y y') (Nat.beq z z')))) c alt) (fun _ _ _ _ => fun _ _ _ _ _ alt => alt) (fun _ _ _ _ _ => fun _ _ _ _ _ alt => alt) (fun _ => fun _ _ _ _ _ alt => alt) PUnit.unit (fun _ _ _ _ => PUnit.unit) s
theorem Rj {b : SV} {c alt : T α} {post : α -> Prop} {i o y z : Nat} (h : (rpE b i o y z c alt).holds post) : (SV.rp i o y z = b /\ c.holds post) ∨ alt.holds post := by
 cases b
 case rp i' o' y' z' =>
  rcases iD (show (BT (aT (Nat.beq i i') (aT (Nat.beq o o') (aT (Nat.beq y y') (Nat.beq z z')))) c alt).holds post from h) with ⟨h1, h2⟩ | h
  · obtain ⟨h1, h3⟩ := aZ h1
    obtain ⟨h3, h4⟩ := aZ h3
    obtain ⟨h4, h5⟩ := aZ h4
    exact .inl ⟨by rw [Nat.eq_of_beq_eq_true h1, Nat.eq_of_beq_eq_true h3, Nat.eq_of_beq_eq_true h4, Nat.eq_of_beq_eq_true h5], h2⟩
  · exact .inr h
 all_goals exact .inr h
def riW (n a b m : Int) (c : T α) : T α := .need (n = m /\ a <= n /\ n <= b) c
def riN (u : Value) (k : IntKind) (a b n : Int) (c alt : T α) : T α := match u with
 | .int k' m => BT (dQ k k') (riW n a b m c) alt
 | _ => alt
def riD (e : Dt) (k : IntKind) (a b n : Int) (c alt : T α) : T α := match e with
 | .cell u => riN u k a b n c alt
 | .ri k' a' b' n' => BT (dQ k k') (BT (aT (eqI a a') (eqI b b')) (.need (n = n') c) (riW n a b n' c)) alt
 | _ => alt
def riE (s : SV) : IntKind -> Int -> Int -> Int -> Q2 α := @SV.rec (fun _ => IntKind -> Int -> Int -> Int -> Q2 α) (fun _ => PUnit) (fun _ _ _ _ _ alt => alt) (fun e k a b n c alt => riD e k a b n c alt) (fun _ _ => fun _ _ _ _ _ alt => alt) (fun _ _ => fun _ _ _ _ _ alt => alt) (fun _ _ => fun _ _ _ _ _ alt => alt) (fun _ _ => fun _ _ _ _ _ alt => alt) (fun _ _ _ => fun _ _ _ _ _ alt => alt) (fun _ => fun _ _ _ _ _ alt => alt) (fun k' m k a b n c alt => BT (dQ k k') (riW n a b m c) alt) (fun _ => fun _ _ _ _ _ alt => alt) (fun _ _ _ _ => fun _ _ _ _ _ alt => alt) (fun k' a' b' n' k a b n c alt => BT (dQ k k') (BT (aT (eqI a a') (eqI b b')) (.need (n = n') c) (riW n a b n' c)) alt) (fun _ _ _ _ _ => fun _ _ _ _ _ alt => alt) (fun _ => fun _ _ _ _ _ alt => alt) PUnit.unit (fun _ _ _ _ => PUnit.unit) s
def onE (a : Option Nat) : Option Nat -> Bool := @Option.rec Nat (fun _ => Option Nat -> Bool) (fun b => @Option.rec Nat (fun _ => Bool) true (fun _ => false) b) (fun i b => @Option.rec Nat (fun _ => Bool) false (fun j => Nat.beq i j) b) a
theorem TI {a b : Option Nat} (h : onE a b = true) : a = b := by
 cases a <;> cases b <;> first | rfl | cases h | exact congrArg some (Nat.eq_of_beq_eq_true h)
def slE (s : SV) : Nat -> Nat -> Nat -> Nat -> Option Nat -> Q2 α := @SV.rec (fun _ => Nat -> Nat -> Nat -> Nat -> Option Nat -> Q2 α) (fun _ => PUnit) (fun _ _ _ _ _ _ alt => alt) (fun _ => fun _ _ _ _ _ _ alt => alt) (fun _ _ => fun _ _ _ _ _ _ alt => alt) (fun _ _ => fun _ _ _ _ _ _ alt => alt) (fun _ _ => fun _ _ _ _ _ _ alt => alt) (fun _ _ => fun _ _ _ _ _ _ alt => alt) (fun _ _ _ => fun _ _ _ _ _ _ alt => alt) (fun _ => fun _ _ _ _ _ _ alt => alt) (fun _ _ => fun _ _ _ _ _ _ alt => alt) (fun _ => fun _ _ _ _ _ _ alt => alt) (fun _ _ _ _ => fun _ _ _ _ _ _ alt => alt) (fun _ _ _ _ => fun _ _ _ _ _ _ alt => alt) (fun i' o' y' z' k' i o y z k c alt => BT (aT (Nat.beq i i') (aT (Nat.beq o o') (aT (Nat.beq y y') (aT (Nat.beq z z') (onE k k'))))) c alt) (fun _ => fun _ _ _ _ _ _ alt => alt) PUnit.unit (fun _ _ _ _ => PUnit.unit) s
theorem Qp {b : SV} {c alt : T α} {post : α -> Prop} {i o y z : Nat} {k : Option Nat} (h : (slE b i o y z k c alt).holds post) : (SV.sl i o y z k = b /\ c.holds post) ∨ alt.holds post := by
 cases b
 case sl i' o' y' z' k' =>
  rcases iD (show (BT (aT (Nat.beq i i') (aT (Nat.beq o o') (aT (Nat.beq y y') (aT (Nat.beq z z') (onE k k'))))) c alt).holds post from h) with ⟨h1, h2⟩ | h
  · obtain ⟨h1, h3⟩ := aZ h1
    obtain ⟨h3, h4⟩ := aZ h3
    obtain ⟨h4, h5⟩ := aZ h4
    obtain ⟨h5, h6⟩ := aZ h5
    exact .inl ⟨by rw [Nat.eq_of_beq_eq_true h1, Nat.eq_of_beq_eq_true h3, Nat.eq_of_beq_eq_true h4, Nat.eq_of_beq_eq_true h5, TI h6], h2⟩
  · exact .inr h
 all_goals exact .inr h
def syE (s : SV) : ByteArray -> Q2 α := @SV.rec (fun _ => ByteArray -> Q2 α) (fun _ => PUnit) (fun _ _ alt => alt) (fun _ => fun _ _ alt => alt) (fun _ _ => fun _ _ alt => alt) (fun _ _ => fun _ _ alt => alt) (fun _ _ => fun _ _ alt => alt) (fun _ _ => fun _ _ alt => alt) (fun _ _ _ => fun _ _ alt => alt) (fun _ => fun _ _ alt => alt) (fun _ _ => fun _ _ alt => alt) (fun _ => fun _ _ alt => alt) (fun _ _ _ _ => fun _ _ alt => alt) (fun _ _ _ _ => fun _ _ alt => alt) (fun _ _ _ _ _ => fun _ _ alt => alt) (fun t s c alt => .need (s = t) c) PUnit.unit (fun _ _ _ _ => PUnit.unit) s
theorem Qs {b : SV} {c alt : T α} {post : α -> Prop} {s : ByteArray} (h : (syE b s c alt).holds post) : (SV.sy s = b /\ c.holds post) ∨ alt.holds post := by
 cases b
 case sy t =>
  have h : (T.need (s = t) c).holds post := h
  exact .inl ⟨by rw [h.1], h.2⟩
 all_goals exact .inr h
def dtX (s : SV) : Dt -> Q2 α := @SV.rec (fun _ => Dt -> Q2 α) (fun _ => PUnit) (fun _ _ alt => alt) (fun e d c alt => dtE d e c alt) (fun _ _ => fun _ _ alt => alt) (fun _ _ => fun _ _ alt => alt) (fun _ _ => fun _ _ alt => alt) (fun _ _ => fun _ _ alt => alt) (fun _ _ _ => fun _ _ alt => alt) (fun _ => fun _ _ alt => alt) (fun _ _ => fun _ _ alt => alt) (fun _ => fun _ _ alt => alt) (fun _ _ _ _ => fun _ _ alt => alt) (fun _ _ _ _ => fun _ _ alt => alt) (fun _ _ _ _ _ => fun _ _ alt => alt) (fun _ => fun _ _ alt => alt) PUnit.unit (fun _ _ _ _ => PUnit.unit) s
theorem Ri {b : SV} {c alt : T α} {post : α -> Prop} {d : Dt} (h : (dtX b d c alt).holds post) : (SV.dt d = b /\ c.holds post) ∨ alt.holds post := by
 cases b
 case dt e =>
  rcases Rk (show (dtE d e c alt).holds post from h) with ⟨h1, h2⟩ | h
  · exact .inl ⟨by rw [h1], h2⟩
  · exact .inr h
 all_goals exact .inr h
def agE (s : SV) : (List SV -> Q2 α) -> Q2 α := @SV.rec (fun _ => (List SV -> Q2 α) -> Q2 α) (fun _ => PUnit) (fun _ _ alt => alt) (fun _ => fun _ _ alt => alt) (fun m _ r c alt => r m c alt) (fun _ _ => fun _ _ alt => alt) (fun _ _ => fun _ _ alt => alt) (fun _ _ => fun _ _ alt => alt) (fun _ _ _ => fun _ _ alt => alt) (fun _ => fun _ _ alt => alt) (fun _ _ => fun _ _ alt => alt) (fun _ => fun _ _ alt => alt) (fun _ _ _ _ => fun _ _ alt => alt) (fun _ _ _ _ => fun _ _ alt => alt) (fun _ _ _ _ _ => fun _ _ alt => alt) (fun _ => fun _ _ alt => alt) PUnit.unit (fun _ _ _ _ => PUnit.unit) s
def tuE (s : SV) : (List SV -> Q2 α) -> Q2 α := @SV.rec (fun _ => (List SV -> Q2 α) -> Q2 α) (fun _ => PUnit) (fun _ _ alt => alt) (fun _ => fun _ _ alt => alt) (fun _ _ => fun _ _ alt => alt) (fun m _ r c alt => r m c alt) (fun _ _ => fun _ _ alt => alt) (fun _ _ => fun _ _ alt => alt) (fun _ _ _ => fun _ _ alt => alt) (fun _ => fun _ _ alt => alt) (fun _ _ => fun _ _ alt => alt) (fun _ => fun _ _ alt => alt) (fun _ _ _ _ => fun _ _ alt => alt) (fun _ _ _ _ => fun _ _ alt => alt) (fun _ _ _ _ _ => fun _ _ alt => alt) (fun _ => fun _ _ alt => alt) PUnit.unit (fun _ _ _ _ => PUnit.unit) s
def VK (s : SV) : Nat -> (List SV -> Q2 α) -> Q2 α := @SV.rec (fun _ => Nat -> (List SV -> Q2 α) -> Q2 α) (fun _ => PUnit) (fun _ _ _ alt => alt) (fun _ => fun _ _ _ alt => alt) (fun _ _ => fun _ _ _ alt => alt) (fun _ _ => fun _ _ _ alt => alt) (fun _ _ => fun _ _ _ alt => alt) (fun _ _ => fun _ _ _ alt => alt) (fun g m _ f r c alt => BT (Nat.beq f g) (r m c alt) alt) (fun _ => fun _ _ _ alt => alt) (fun _ _ => fun _ _ _ alt => alt) (fun _ => fun _ _ _ alt => alt) (fun _ _ _ _ => fun _ _ _ alt => alt) (fun _ _ _ _ => fun _ _ _ alt => alt) (fun _ _ _ _ _ => fun _ _ _ alt => alt) (fun _ => fun _ _ _ alt => alt) PUnit.unit (fun _ _ _ _ => PUnit.unit) s
def eqS (s : SV) : SV -> Q2 α := @SV.rec (fun _ => SV -> Q2 α) (fun _ => List SV -> Q2 α) (fun _ c _ => c) (fun d b c alt => dtX b d c alt) (fun _ r b c alt => agE b r c alt) (fun _ r b c alt => tuE b r c alt) (fun i x b c alt => TG b i x c alt) (fun m g b c alt => .need (SV.el m g = b) c) (fun f _ r b c alt => VK b f r c alt) (fun p b c alt => kbE b p c alt) (fun k n b c alt => kiE b k n c alt) (fun i b c alt => nmE b i c alt) (fun i x y z b c alt => rpE b i x y z c alt) (fun k a d n b c alt => riE b k a d n c alt) (fun i x y z k b c alt => slE b i x y z k c alt) (fun t b c alt => syE b t c alt) (fun m c alt => @List.rec SV (fun _ => T α) c (fun _ _ _ => alt) m) (fun _ _ r rl m c alt => @List.rec SV (fun _ => T α) alt (fun y m _ => r y (rl m c alt) alt) m) s
def eqL (l : List SV) : List SV -> Q2 α := @List.rec SV (fun _ => List SV -> Q2 α) (fun m c alt => @List.rec SV (fun _ => T α) c (fun _ _ _ => alt) m) (fun x _ rl m c alt => @List.rec SV (fun _ => T α) alt (fun y m _ => eqS x y (rl m c alt) alt) m) l
def Imp (a b : SV) : Prop := ∀ (C : Ctx) (w : World) (v : Value), rel C w b v -> rel C w a v
def V9 (l m : List SV) : Prop := ∀ (C : Ctx) (w : World) (vs : List Value), relL C w m vs -> relL C w l vs
theorem uo {a b : SV} {P Q : Prop} (h : (a = b /\ P) ∨ Q) : (Imp a b /\ P) ∨ Q := by
 rcases h with ⟨rfl, h⟩ | h
 · exact .inl ⟨fun _ _ _ h => h, h⟩
 · exact .inr h
theorem Nj {k : IntKind} {a d n m : Int} {s : SV} (h : n = m /\ a <= n /\ n <= d) (hs : ∀ (C : Ctx) (w : World) (v : Value), rel C w s v -> v = .int k m) : Imp (.ri k a d n) s := fun C w v hv => ⟨by rw [hs C w v hv, h.1], h.2⟩
theorem LP {k k' : IntKind} {a d n a' b' n' : Int} {c alt : T α} {post : α -> Prop} {s : SV} (hs : ∀ (C : Ctx) (w : World) (v : Value), rel C w s v -> v = .int k' n' /\ a' <= n' /\ n' <= b')
  (h : (BT (dQ k k') (BT (aT (eqI a a') (eqI d b')) (.need (n = n') c) (riW n a d n' c)) alt).holds post) : (Imp (SV.ri k a d n) s /\ c.holds post) ∨ alt.holds post := by
 rcases iD h with ⟨h1, g⟩ | g
 · have h1 := pG h1
   refine .inl ?_
   cases hb : aT (eqI a a') (eqI d b') with
   | true =>
     rw [hb] at g
     obtain ⟨q1, q2⟩ := aZ hb
     have q1 := Cg q1
     have q2 := Cg q2
     have g : n = n' /\ c.holds post := g
     exact ⟨fun C w v hv => by rw [h1, q1, q2, g.1]; exact hs C w v hv, g.2⟩
   | false =>
     rw [hb] at g
     have g : (n = n' /\ a <= n /\ n <= d) /\ c.holds post := g
     exact ⟨Nj g.1 fun C w v hv => by rw [h1]; exact (hs C w v hv).1, g.2⟩
 · exact .inr g
theorem Kj {k k' : IntKind} {a d n m : Int} {c alt : T α} {post : α -> Prop} {s : SV} (hs : ∀ (C : Ctx) (w : World) (v : Value), rel C w s v -> v = .int k' m)
  (h : (BT (dQ k k') (riW n a d m c) alt).holds post) : (Imp (SV.ri k a d n) s /\ c.holds post) ∨ alt.holds post := by
 rcases iD h with ⟨h1, g⟩ | g
 · have h1 := pG h1
   have g : (n = m /\ a <= n /\ n <= d) /\ c.holds post := g
   exact .inl ⟨Nj g.1 fun C w v hv => by rw [h1]; exact hs C w v hv, g.2⟩
 · exact .inr g
theorem Rz {b : SV} {c alt : T α} {post : α -> Prop} {k : IntKind} {a d n : Int} (h : (riE b k a d n c alt).holds post) : (Imp (SV.ri k a d n) b /\ c.holds post) ∨ alt.holds post := by
 cases b
 case ri k' a' b' n' => exact LP (fun C w v hv => hv) h
 case ki k' m => exact Kj (fun C w v hv => hv) h
 case dt e =>
  have h : (riD e k a d n c alt).holds post := h
  unfold riD at h
  split at h
  · rename_i u
    unfold riN at h
    split at h
    · exact Kj (fun C w v hv => aj.1 hv) h
    · exact .inr h
  · exact LP (fun C w v hv => hv.here) h
  · exact .inr h
 all_goals exact .inr h
def Ut (l : List SV) : List SV -> Q2 α := @SV.rec_1 (fun _ => SV -> Q2 α) (fun _ => List SV -> Q2 α) (fun _ c _ => c) (fun d b c alt => dtX b d c alt) (fun _ r b c alt => agE b r c alt) (fun _ r b c alt => tuE b r c alt) (fun i x b c alt => TG b i x c alt) (fun m g b c alt => .need (SV.el m g = b) c) (fun f _ r b c alt => VK b f r c alt) (fun p b c alt => kbE b p c alt) (fun k n b c alt => kiE b k n c alt) (fun i b c alt => nmE b i c alt) (fun i x y z b c alt => rpE b i x y z c alt) (fun k a d n b c alt => riE b k a d n c alt) (fun i x y z k b c alt => slE b i x y z k c alt) (fun t b c alt => syE b t c alt) (fun m c alt => @List.rec SV (fun _ => T α) c (fun _ _ _ => alt) m) (fun _ _ r rl m c alt => @List.rec SV (fun _ => T α) alt (fun y m _ => r y (rl m c alt) alt) m) l
mutual
theorem xG {c alt : T α} {post : α -> Prop} : ∀ {a b : SV}, (eqS a b c alt).holds post -> (Imp a b /\ c.holds post) ∨ alt.holds post
 | .junk, b, h => .inl ⟨fun _ _ _ _ => trivial, h⟩
 | .dt d, b, h => uo (Ri h)
 | .agg l, b, h => by
   cases b
   case agg m =>
    rcases tC (l := l) (m := m) h with ⟨h1, h2⟩ | h
    · exact .inl ⟨fun C w v ⟨vs, e, r⟩ => ⟨vs, e, h1 C w vs r⟩, h2⟩
    · exact .inr h
   all_goals exact .inr h
 | .tup l, b, h => by
   cases b
   case tup m =>
    rcases tC (l := l) (m := m) h with ⟨h1, h2⟩ | h
    · exact .inl ⟨fun C w v ⟨vs, e, r⟩ => ⟨vs, e, h1 C w vs r⟩, h2⟩
    · exact .inr h
   all_goals exact .inr h
 | .ptr i o, b, h => uo (Ou h)
 | .el m g, b, h => uo (.inl ⟨h.1, h.2⟩)
 | .fn f l, b, h => by
   cases b
   case fn g m =>
    rcases iD (show (BT (Nat.beq f g) (Ut l m c alt) alt).holds post from h) with ⟨h0, h⟩ | h
    · rcases tC (l := l) (m := m) h with ⟨h1, h2⟩ | h
      · rw [Nat.eq_of_beq_eq_true h0]
        exact .inl ⟨fun C w v ⟨vs, e, r⟩ => ⟨vs, e, h1 C w vs r⟩, h2⟩
      · exact .inr h
    · exact .inr h
   all_goals exact .inr h
 | .kb p, b, h => uo (QV h)
 | .ki k n, b, h => uo (Rs h)
 | .nm i, b, h => uo (Qy h)
 | .rp i x y z, b, h => uo (Rj h)
 | .ri k a d n, b, h => Rz h
 | .sl i x y z k, b, h => uo (Qp h)
 | .sy t, b, h => uo (Qs h)
theorem tC {c alt : T α} {post : α -> Prop} : ∀ {l m : List SV}, (Ut l m c alt).holds post -> (V9 l m /\ c.holds post) ∨ alt.holds post
 | [], [], h => .inl ⟨fun _ _ _ h => h, h⟩
 | [], _ :: _, h => .inr h
 | _ :: _, [], h => .inr h
 | x :: l, y :: m, h => by
   rcases xG (a := x) (b := y) (c := Ut l m c alt) h with ⟨h1, h2⟩ | h
   · rcases tC (l := l) (m := m) h2 with ⟨h3, h4⟩ | h
     · exact .inl ⟨fun C w vs ⟨v, r, e, q1, q2⟩ => ⟨v, r, e, h1 C w v q1, h3 C w r q2⟩, h4⟩
     · exact .inr h
   · exact .inr h
end
theorem Eb {c alt : T α} {post : α -> Prop} : ∀ {l m : List SV}, (eqL l m c alt).holds post -> (V9 l m /\ c.holds post) ∨ alt.holds post
 | [], [], h => .inl ⟨fun _ _ _ h => h, h⟩
 | [], _ :: _, h => .inr h
 | _ :: _, [], h => .inr h
 | x :: l, y :: m, h => by
   rcases xG (a := x) (b := y) (c := eqL l m c alt) h with ⟨h1, h2⟩ | h
   · rcases Eb (l := l) (m := m) h2 with ⟨h3, h4⟩ | h
     · exact .inl ⟨fun C w vs ⟨v, r, e, q1, q2⟩ => ⟨v, r, e, h1 C w v q1, h3 C w r q2⟩, h4⟩
     · exact .inr h
   · exact .inr h
def asg (c i : Nat) (l : List Nat) : List Nat := @Bool.rec (fun _ => List Nat) l (@Bool.rec (fun _ => List Nat) (l ++ [i]) l (L6 i l)) (Nat.beq c l.length)
def Xa (s : SV) : Nat -> List Nat -> List Nat := @SV.rec (fun _ => Nat -> List Nat -> List Nat) (fun _ => PUnit) (fun _ l => l) (fun _ => fun _ l => l) (fun _ _ => fun _ l => l) (fun _ _ => fun _ l => l) (fun i _ c l => asg c i l) (fun _ _ => fun _ l => l) (fun _ _ _ => fun _ l => l) (fun _ => fun _ l => l) (fun _ _ => fun _ l => l) (fun _ => fun _ l => l) (fun _ _ _ _ => fun _ l => l) (fun _ _ _ _ => fun _ l => l) (fun _ _ _ _ _ => fun _ l => l) (fun _ => fun _ l => l) PUnit.unit (fun _ _ _ _ => PUnit.unit) s
def nmA (s : SV) : Nat -> List Nat -> List Nat := @SV.rec (fun _ => Nat -> List Nat -> List Nat) (fun _ => PUnit) (fun _ l => l) (fun _ => fun _ l => l) (fun _ _ => fun _ l => l) (fun _ _ => fun _ l => l) (fun _ _ => fun _ l => l) (fun _ _ => fun _ l => l) (fun _ _ _ => fun _ l => l) (fun _ => fun _ l => l) (fun _ _ => fun _ l => l) (fun i c l => asg c i l) (fun _ _ _ _ => fun _ l => l) (fun _ _ _ _ => fun _ l => l) (fun _ _ _ _ _ => fun _ l => l) (fun _ => fun _ l => l) PUnit.unit (fun _ _ _ _ => PUnit.unit) s
def rpA (s : SV) : Nat -> List Nat -> List Nat := @SV.rec (fun _ => Nat -> List Nat -> List Nat) (fun _ => PUnit) (fun _ l => l) (fun _ => fun _ l => l) (fun _ _ => fun _ l => l) (fun _ _ => fun _ l => l) (fun _ _ => fun _ l => l) (fun _ _ => fun _ l => l) (fun _ _ _ => fun _ l => l) (fun _ => fun _ l => l) (fun _ _ => fun _ l => l) (fun _ => fun _ l => l) (fun i _ _ _ c l => asg c i l) (fun _ _ _ _ => fun _ l => l) (fun _ _ _ _ _ => fun _ l => l) (fun _ => fun _ l => l) PUnit.unit (fun _ _ _ _ => PUnit.unit) s
def slA (s : SV) : Nat -> List Nat -> List Nat := @SV.rec (fun _ => Nat -> List Nat -> List Nat) (fun _ => PUnit) (fun _ l => l) (fun _ => fun _ l => l) (fun _ _ => fun _ l => l) (fun _ _ => fun _ l => l) (fun _ _ => fun _ l => l) (fun _ _ => fun _ l => l) (fun _ _ _ => fun _ l => l) (fun _ => fun _ l => l) (fun _ _ => fun _ l => l) (fun _ => fun _ l => l) (fun _ _ _ _ => fun _ l => l) (fun _ _ _ _ => fun _ l => l) (fun i _ _ _ _ c l => asg c i l) (fun _ => fun _ l => l) PUnit.unit (fun _ _ _ _ => PUnit.unit) s
def agA (s : SV) : (List SV -> List Nat -> List Nat) -> List Nat -> List Nat := @SV.rec (fun _ => (List SV -> List Nat -> List Nat) -> List Nat -> List Nat) (fun _ => PUnit) (fun _ l => l) (fun _ => fun _ l => l) (fun m _ r l => r m l) (fun _ _ => fun _ l => l) (fun _ _ => fun _ l => l) (fun _ _ => fun _ l => l) (fun _ _ _ => fun _ l => l) (fun _ => fun _ l => l) (fun _ _ => fun _ l => l) (fun _ => fun _ l => l) (fun _ _ _ _ => fun _ l => l) (fun _ _ _ _ => fun _ l => l) (fun _ _ _ _ _ => fun _ l => l) (fun _ => fun _ l => l) PUnit.unit (fun _ _ _ _ => PUnit.unit) s
def tuA (s : SV) : (List SV -> List Nat -> List Nat) -> List Nat -> List Nat := @SV.rec (fun _ => (List SV -> List Nat -> List Nat) -> List Nat -> List Nat) (fun _ => PUnit) (fun _ l => l) (fun _ => fun _ l => l) (fun _ _ => fun _ l => l) (fun m _ r l => r m l) (fun _ _ => fun _ l => l) (fun _ _ => fun _ l => l) (fun _ _ _ => fun _ l => l) (fun _ => fun _ l => l) (fun _ _ => fun _ l => l) (fun _ => fun _ l => l) (fun _ _ _ _ => fun _ l => l) (fun _ _ _ _ => fun _ l => l) (fun _ _ _ _ _ => fun _ l => l) (fun _ => fun _ l => l) PUnit.unit (fun _ _ _ _ => PUnit.unit) s
def fnA (s : SV) : (List SV -> List Nat -> List Nat) -> List Nat -> List Nat := @SV.rec (fun _ => (List SV -> List Nat -> List Nat) -> List Nat -> List Nat) (fun _ => PUnit) (fun _ l => l) (fun _ => fun _ l => l) (fun _ _ => fun _ l => l) (fun _ _ => fun _ l => l) (fun _ _ => fun _ l => l) (fun _ _ => fun _ l => l) (fun _ m _ r l => r m l) (fun _ => fun _ l => l) (fun _ _ => fun _ l => l) (fun _ => fun _ l => l) (fun _ _ _ _ => fun _ l => l) (fun _ _ _ _ => fun _ l => l) (fun _ _ _ _ _ => fun _ l => l) (fun _ => fun _ l => l) PUnit.unit (fun _ _ _ _ => PUnit.unit) s
def asS (s : SV) : SV -> List Nat -> List Nat := @SV.rec (fun _ => SV -> List Nat -> List Nat) (fun _ => List SV -> List Nat -> List Nat) (fun _ l => l) (fun _ => fun _ l => l) (fun _ r b l => agA b r l) (fun _ r b l => tuA b r l) (fun c _ b l => Xa b c l) (fun _ _ => fun _ l => l) (fun _ _ r b l => fnA b r l) (fun _ => fun _ l => l) (fun _ _ => fun _ l => l) (fun c b l => nmA b c l) (fun c _ _ _ b l => rpA b c l) (fun _ _ _ _ => fun _ l => l) (fun c _ _ _ _ b l => slA b c l) (fun _ => fun _ l => l) (fun _ l => l) (fun _ _ r rl m l => @List.rec SV (fun _ => List Nat) l (fun y m _ => rl m (r y l)) m) s
def asL (s : List SV) : List SV -> List Nat -> List Nat := @List.rec SV (fun _ => List SV -> List Nat -> List Nat) (fun _ l => l) (fun x _ rl m l => @List.rec SV (fun _ => List Nat) l (fun y m _ => rl m (asS x y l)) m) s
theorem qg {c i : Nat} {l : List Nat} (h : l.Nodup) : (asg c i l).Nodup := by
 unfold asg
 cases Nat.beq c l.length with
 | false => exact h
 | true =>
   cases hb : L6 i l with
   | true => exact h
   | false =>
     have : i ∉ l := fun hm => by rw [Gs.2 hm] at hb; cases hb
     show (l ++ [i]).Nodup
     rw [List.nodup_append]
     exact ⟨h, by simp, fun a ha b hb e => by simp at hb; subst hb; subst e; exact this ha⟩
mutual
theorem Em : ∀ (a b : SV) (l : List Nat), l.Nodup -> (asS a b l).Nodup
 | .agg x, b, l, h => by
   cases b
   case agg m => exact xH x m l h
   all_goals exact h
 | .tup x, b, l, h => by
   cases b
   case tup m => exact xH x m l h
   all_goals exact h
 | .fn _ x, b, l, h => by
   cases b
   case fn g m => exact xH x m l h
   all_goals exact h
 | .ptr _ _, b, l, h => by
   cases b
   case ptr i _ => exact qg h
   all_goals exact h
 | .nm _, b, l, h => by
   cases b
   case nm i => exact qg h
   all_goals exact h
 | .rp _ _ _ _, b, l, h => by
   cases b
   case rp i _ _ _ => exact qg h
   all_goals exact h
 | .sl _ _ _ _ _, b, l, h => by
   cases b
   case sl i _ _ _ _ => exact qg h
   all_goals exact h
 | .junk, _, _, h => h
 | .dt _, _, _, h => h
 | .el _ _, _, _, h => h
 | .kb _, _, _, h => h
 | .ki _ _, _, _, h => h
 | .ri _ _ _ _, _, _, h => h
 | .sy _, _, _, h => h
theorem xH : ∀ (x m : List SV) (l : List Nat), l.Nodup -> (asS (.agg x) (.agg m) l).Nodup
 | [], _, _, h => h
 | s :: x, [], _, h => h
 | s :: x, y :: m, l, h => xH x m _ (Em s y l h)
end
theorem Je : ∀ (x m : List SV) (l : List Nat), l.Nodup -> (asL x m l).Nodup
 | [], _, _, h => h
 | s :: x, [], _, h => h
 | s :: x, y :: m, l, h => Je x m _ (Em s y l h)
end
end Rx
set_option linter.unusedSectionVars false
set_option linter.unusedSimpArgs false
set_option linter.unusedVariables false
namespace Rx
open Go
variable [Glob]
noncomputable section
def asT (t : Tr SV) : Tr SV -> List Nat -> List Nat := @Tr.rec SV (fun _ => Tr SV -> List Nat -> List Nat) (fun _ l => l) (fun _ v _ gl gr u l => @Tr.rec SV (fun _ => List Nat) l (fun l' v' r' _ _ => gr r' (asS v v' (gl l' l))) u) t
def clA (b : Ob) : List SV -> List Nat -> List Nat := @Ob.rec (fun _ => List SV -> List Nat -> List Nat) (fun _ cs' cs l => asL cs cs' l) (fun _ _ _ _ _ l => l) (fun _ _ l => l) (fun _ _ _ _ l => l) (fun _ _ _ _ l => l) (fun _ _ _ _ _ _ l => l) (fun _ _ _ _ l => l) b
def vcA (b : Ob) : Tr SV -> List Nat -> List Nat := @Ob.rec (fun _ => Tr SV -> List Nat -> List Nat) (fun _ _ _ l => l) (fun _ _ _ _ _ l => l) (fun _ _ l => l) (fun _ _ _ _ l => l) (fun _ _ _ _ l => l) (fun _ _ _ tr' _ tr l => asT tr tr' l) (fun _ _ _ _ l => l) b
def itA (b : Ob) : Nat -> List Nat -> List Nat := @Ob.rec (fun _ => Nat -> List Nat -> List Nat) (fun _ _ _ l => l) (fun _ _ _ _ _ l => l) (fun _ _ l => l) (fun _ _ _ _ l => l) (fun i _ _ c l => asg c i l) (fun _ _ _ _ _ _ l => l) (fun i _ _ c l => asg c i l) b
def asB (a : Ob) : Ob -> List Nat -> List Nat := @Ob.rec (fun _ => Ob -> List Nat -> List Nat) (fun _ cs b l => clA b cs l) (fun _ _ _ _ _ l => l) (fun _ _ l => l) (fun _ _ _ _ l => l) (fun m _ _ b l => itA b m l) (fun _ _ _ tr _ b l => vcA b tr l) (fun m _ _ b l => itA b m l) a
def asO (o p : Option Ob) (l : List Nat) : List Nat := @Option.rec Ob (fun _ => List Nat) l (fun a => @Option.rec Ob (fun _ => List Nat) l (fun b => asB a b l) p) o
theorem IU : ∀ (t u : Tr SV) (l : List Nat), l.Nodup -> (asT t u l).Nodup
 | .nil, _, _, h => h
 | .node _ _ _, .nil, _, h => h
 | .node a v b, .node a' v' b', l, h => IU b b' _ (Em v v' _ (IU a a' l h))
theorem UK (o p : Option Ob) (l : List Nat) (h : l.Nodup) : (asO o p l).Nodup := by
 cases o with
 | none => exact h
 | some a =>
   cases p with
   | none => exact h
   | some b =>
     cases a with
     | cells t cs => cases b with
       | cells t' cs' => exact Je cs cs' l h
       | _ => exact h
     | vec t z n tr ex => cases b with
       | vec t' z' n' tr' ex' => exact IU tr tr' l h
       | _ => exact h
     | it m n s => cases b with
       | it i _ _ => exact qg h
       | itx i _ _ => exact qg h
       | _ => exact h
     | itx m n s => cases b with
       | it i _ _ => exact qg h
       | itx i _ _ => exact qg h
       | _ => exact h
     | _ => exact h
def iU (l : List Nat) : Nat -> Nat := @List.rec Nat (fun _ => Nat -> Nat) (fun _ => 0) (fun x _ ih n => @Nat.rec (fun _ => Nat) x (fun m _ => ih m) n) l
def Jm (g : Nat -> Option Ob) (os : List (Option Ob)) : Nat -> List Nat -> List Nat := @List.rec (Option Ob) (fun _ => Nat -> List Nat -> List Nat) (fun _ l => l) (fun o _ ih k l => ih (Nat.succ k) (asO o (g (iU l k)) l)) os
theorem ET {g : Nat -> Option Ob} : ∀ (os : List (Option Ob)) (k : Nat) (l : List Nat), l.Nodup -> (Jm g os k l).Nodup
 | [], _, _, h => h
 | o :: os, k, l, h => ET os _ _ (UK o _ l h)
def fNT {α : Type} (n : Nat) (f : Nat -> T α) : T α := @Nat.rec (fun _ => T α) (f (nat_lit 0)) (fun m _ => f (Nat.succ m)) n
theorem TY {α : Type} (n : Nat) (f : Nat -> T α) : fNT n f = f n := by cases n <;> rfl
def R5 {α : Type} (l : List Nat) : (List Nat -> T α) -> T α := @List.rec Nat (fun _ => (List Nat -> T α) -> T α) (fun f => f []) (fun x _ ih f => fNT x fun x => ih fun l => f (x :: l)) l
theorem D9 {α : Type} : ∀ (l : List Nat) (f : List Nat -> T α), R5 l f = f l
 | [], _ => rfl
 | x :: l, f => by
   show fNT x (fun x => R5 l fun l => f (x :: l)) = _
   rw [TY, D9 l]
theorem sP : ∀ {l : List Nat} {n i : Nat}, l[n]? = some i -> iU l n = i
 | [], _, _, h => by simp at h
 | x :: l, 0, i, h => by
   show x = i
   simpa using h
 | x :: l, n + 1, i, h => by
   show iU l n = i
   exact sP (by simpa using h)
theorem Gx {l : List Nat} (h : l.Nodup) {i j : Nat} (hi : i < l.length) (hj : j < l.length) (e : iU l i = iU l j) : i = j := by
 rw [sP (List.getElem?_eq_getElem hi), sP (List.getElem?_eq_getElem hj)] at e
 exact (List.getElem_inj h).1 e
def rnS (r : Nat -> Nat) (s : SV) : SV := @SV.rec (fun _ => SV) (fun _ => List SV) .junk (fun d => .dt d) (fun _ x => .agg x) (fun _ x => .tup x) (fun i o => .ptr (r i) o) (fun m g => .el m g) (fun f _ x => .fn f x) (fun b => .kb b) (fun k n => .ki k n) (fun i => .nm (r i)) (fun i x z o => .rp (r i) x z o) (fun k a b n => .ri k a b n) (fun i z o n c => .sl (r i) z o n c) (fun s => .sy s) [] (fun _ _ x l => x :: l) s
def rnL (r : Nat -> Nat) (l : List SV) : List SV := @List.rec SV (fun _ => List SV) [] (fun s _ ih => rnS r s :: ih) l
def rnT (r : Nat -> Nat) (t : Tr SV) : Tr SV := @Tr.rec SV (fun _ => Tr SV) .nil (fun _ v _ gl gr => .node gl (rnS r v) gr) t
def rnO (r : Nat -> Nat) (b : Ob) : Ob := @Ob.rec (fun _ => Ob) (fun t cs => .cells t (rnL r cs)) (fun t z n f => .row t z n f) (fun d => .frz d) (fun k v l => .mp k v l) (fun m n s => .it (r m) n s) (fun t z n tr ex => .vec t z n (rnT r tr) ex) (fun m n c => .itx (r m) n c) b
def bdS (M : Nat) (s : SV) : Bool := @SV.rec (fun _ => Bool) (fun _ => Bool) true (fun _ => true) (fun _ x => x) (fun _ x => x) (fun i _ => Nat.blt i M) (fun _ _ => true) (fun _ _ x => x) (fun _ => true) (fun _ _ => true) (fun i => Nat.blt i M) (fun i _ _ _ => Nat.blt i M) (fun _ _ _ _ => true) (fun i _ _ _ _ => Nat.blt i M) (fun _ => true) true (fun _ _ x l => aT x l) s
def bdL (M : Nat) (l : List SV) : Bool := @List.rec SV (fun _ => Bool) true (fun s _ ih => aT (bdS M s) ih) l
def bdT (M : Nat) (t : Tr SV) : Bool := @Tr.rec SV (fun _ => Bool) true (fun _ v _ gl gr => aT gl (aT (bdS M v) gr)) t
def bdO (M : Nat) (b : Ob) : Bool := @Ob.rec (fun _ => Bool) (fun _ cs => bdL M cs) (fun _ _ _ _ => true) (fun _ => true) (fun _ _ _ => true) (fun m _ _ => Nat.blt m M) (fun _ _ _ tr _ => bdT M tr) (fun m _ _ => Nat.blt m M) b
def U6 (M : Nat) (l : List (Option Ob)) : Bool := @List.rec (Option Ob) (fun _ => Bool) true (fun o _ ih => aT (@Option.rec Ob (fun _ => Bool) true (bdO M) o) ih) l
theorem CZ {a b : Nat} (h : Nat.blt a b = true) : a < b := by simpa [Nat.blt_eq] using h
theorem Af {M : Nat} : ∀ {l : List (Option Ob)} {i : Nat} {ob : Ob}, U6 M l = true -> l[i]? = some (some ob) -> bdO M ob = true
 | [], _, _, _, h => by simp at h
 | o :: l, 0, ob, hb, h => by simp at h; subst h; exact (aZ hb).1
 | o :: l, i + 1, ob, hb, h => Af (l := l) (i := i) (aZ hb).2 (by simpa using h)
section
variable {C1 C2 : Ctx} {w : World} {τ ρ : Nat -> Nat} {M : Nat}
mutual
theorem Ee (hW : ∀ b, C2.W b -> C1.W b) (hν : ∀ i u, i < M -> C1.ν (τ i) = some u -> C2.ν (ρ i) = some u) : ∀ (s : SV) (v : Value), bdS M s = true -> rel C1 w (rnS τ s) v -> rel C2 w (rnS ρ s) v
 | .junk, _, _, _ => trivial
 | .dt _, _, _, r => bO hW r
 | .agg l, v, hb, ⟨vs, e, r⟩ => ⟨vs, e, sG hW hν l vs hb r⟩
 | .tup l, v, hb, ⟨vs, e, r⟩ => ⟨vs, e, sG hW hν l vs hb r⟩
 | .ptr i _, _, hb, ⟨b, h, e⟩ => ⟨b, hν i _ (CZ hb) h, e⟩
 | .el _ _, _, _, ⟨b, off, e, p⟩ => ⟨b, off, e, bO hW p⟩
 | .fn _ l, _, hb, ⟨vs, e, r⟩ => ⟨vs, e, sG hW hν l vs hb r⟩
 | .kb _, _, _, r => r
 | .sy _, _, _, r => r
 | .ki _ _, _, _, r => r
 | .nm i, v, hb, r => ⟨hν i _ (CZ hb) r.1, r.2⟩
 | .rp i _ _ _, _, hb, ⟨b, n, c, h, e⟩ => ⟨b, n, c, hν i _ (CZ hb) h, e⟩
 | .ri _ _ _ _, _, _, r => r
 | .sl i _ _ _ _, _, hb, ⟨b, m, cc, x, h, e⟩ => ⟨b, m, cc, x, hν i _ (CZ hb) h, e⟩
theorem sG (hW : ∀ b, C2.W b -> C1.W b) (hν : ∀ i u, i < M -> C1.ν (τ i) = some u -> C2.ν (ρ i) = some u) : ∀ (l : List SV) (vs : List Value), bdS M (.agg l) = true -> relL C1 w (match rnS τ (.agg l) with | .agg x => x | _ => []) vs -> relL C2 w (match rnS ρ (.agg l) with | .agg x => x | _ => []) vs
 | [], _, _, r => r
 | s :: l, _, hb, ⟨v, r, e, h1, h2⟩ => ⟨v, r, e, Ee hW hν s v (aZ hb).1 h1, sG hW hν l r (aZ hb).2 h2⟩
end
theorem Fb (hW : ∀ b, C2.W b -> C1.W b) (hν : ∀ i u, i < M -> C1.ν (τ i) = some u -> C2.ν (ρ i) = some u) : ∀ (l : List SV) (vs : List Value), bdL M l = true -> relL C1 w (rnL τ l) vs -> relL C2 w (rnL ρ l) vs
 | [], _, _, r => r
 | s :: l, _, hb, ⟨v, r, e, h1, h2⟩ => ⟨v, r, e, Ee hW hν s v (aZ hb).1 h1, Fb hW hν l r (aZ hb).2 h2⟩
theorem D5 (r : Nat -> Nat) : ∀ (t : Tr SV) (k : Nat), (rnT r t).get .junk k = rnS r (t.get .junk k)
 | .nil, _ => rfl
 | .node l v x, k => by
   show (Tr.node (rnT r l) (rnS r v) (rnT r x)).get .junk k = _
   simp only [Tr.get]
   cases k.beq 0 with
   | true => rfl
   | false =>
     cases (k % 2).beq 1 with
     | true => exact D5 r l _
     | false => exact D5 r x _
theorem EW : ∀ (t : Tr SV) (k : Nat), bdT M t = true -> bdS M (t.get .junk k) = true
 | .nil, _, _ => rfl
 | .node l v x, k, h => by
   obtain ⟨h1, h2⟩ := aZ h
   obtain ⟨h2, h3⟩ := aZ h2
   simp only [Tr.get]
   cases k.beq 0 with
   | true => exact h2
   | false =>
     cases (k % 2).beq 1 with
     | true => exact EW l _ h1
     | false => exact EW x _ h3
theorem Tj (hW : ∀ b, C2.W b -> C1.W b) (hν : ∀ i u, i < M -> C1.ν (τ i) = some u -> C2.ν (ρ i) = some u) {i1 i2 : Nat} (h1 : ∀ u, C1.ν i1 = some u -> C2.ν i2 = some u) (h2 : ∀ b, C1.ρ i1 = some b -> C2.ρ i2 = some b) {ob : Ob} (hb : bdO M ob = true)
  (h : obHolds C1 w i1 (rnO τ ob)) : obHolds C2 w i2 (rnO ρ ob) := by
 cases ob with
 | cells t cs =>
   obtain ⟨b, e1, e2, vs, e3, e4⟩ := h
   exact ⟨b, h2 b e1, h1 _ e2, vs, e3, Fb hW hν cs vs hb e4⟩
 | row t sz n f =>
   obtain ⟨A, c, e1, e2⟩ := h
   refine ⟨A, c, h1 _ e1, ?_⟩
   rcases e2 with e2 | ⟨b, e2, e3, e4, cur, e5, e6, e7⟩
   · exact .inl e2
   · refine .inr ⟨b, h2 b e2, e3, e4, cur, e5, e6, fun k j hk hj => ?_⟩
     obtain ⟨u, q1, q2, q3⟩ := e7 k j hk hj
     exact ⟨u, q1, q2, bO hW q3⟩
 | frz d =>
   obtain ⟨v, e1, e2⟩ := h
   exact ⟨v, h1 _ e1, bO hW e2⟩
 | mp kt vt l =>
   obtain ⟨b, e1, e2, e3⟩ := h
   exact ⟨b, h2 b e1, h1 _ e2, e3⟩
 | it m n s =>
   obtain ⟨b, bm, e1, e2, e3, e4⟩ := h
   exact ⟨b, bm, h2 b e1, h1 _ e2, hν m _ (CZ hb) e3, e4⟩
 | vec t sz n tr ex =>
   obtain ⟨b, m, e1, e2, e3, e4, cur, e5, e6, e7⟩ := h
   refine ⟨b, m, h2 b e1, h1 _ e2, e3, e4, cur, e5, e6, fun k hk => ?_⟩
   obtain ⟨u, q1, q2, q3⟩ := e7 k hk
   refine ⟨u, q1, q2, ?_⟩
   rw [D5] at q3 ⊢
   exact Ee hW hν _ _ (EW tr k hb) q3
 | itx m n c =>
   obtain ⟨s, e0, b, bm, e1, e2, e3, e4⟩ := h
   exact ⟨s, e0, b, bm, h2 b e1, h1 _ e2, hν m _ (CZ hb) e3, e4⟩
end
mutual
theorem Jt : ∀ s : SV, rnS id s = s
 | .junk => rfl
 | .dt _ => rfl
 | .agg l => congrArg SV.agg (xL l)
 | .tup l => congrArg SV.tup (xL l)
 | .ptr _ _ => rfl
 | .el _ _ => rfl
 | .fn f l => congrArg (SV.fn f) (xL l)
 | .kb _ => rfl
 | .sy _ => rfl
 | .ki _ _ => rfl
 | .nm _ => rfl
 | .rp _ _ _ _ => rfl
 | .ri _ _ _ _ => rfl
 | .sl _ _ _ _ _ => rfl
theorem xL : ∀ l : List SV, (@SV.rec_1 (fun _ => SV) (fun _ => List SV) .junk (fun d => .dt d) (fun _ x => .agg x) (fun _ x => .tup x) (fun i o => .ptr (id i) o) (fun m g => .el m g) (fun f _ x => .fn f x) (fun b => .kb b) (fun k n => .ki k n) (fun i => .nm (id i)) (fun i x z o => .rp (id i) x z o) (fun k a b n => .ri k a b n) (fun i z o n c => .sl (id i) z o n c) (fun s => .sy s) [] (fun _ _ x l => x :: l) l : List SV) = l
 | [] => rfl
 | s :: l => by
   have h1 := Jt s
   have h2 := xL l
   show rnS id s :: _ = _
   rw [h1]
   exact congrArg (s :: ·) h2
end
theorem IV : ∀ l : List SV, rnL id l = l
 | [] => rfl
 | s :: l => by
   show rnS id s :: rnL id l = _
   rw [Jt, IV l]
theorem JR : ∀ t : Tr SV, rnT id t = t
 | .nil => rfl
 | .node l v r => by
   show Tr.node (rnT id l) (rnS id v) (rnT id r) = _
   rw [JR l, Jt, JR r]
theorem Ul (b : Ob) : rnO id b = b := by
 cases b with
 | cells t cs => exact congrArg (Ob.cells t) (IV cs)
 | vec t z n tr ex => exact congrArg (fun x => Ob.vec t z n x ex) (JR tr)
 | _ => rfl
section
variable {α : Type}
def eqT (t : Tr SV) : Tr SV -> Q2 α := @Tr.rec SV (fun _ => Tr SV -> Q2 α) (fun _ c _ => c) (fun _ v _ el er u c alt => @Tr.rec SV (fun _ => T α) alt (fun l v' r _ _ => el l (eqS v v' (er r c alt) alt) alt) u) t
def WW (t u : Tr SV) : Prop := ∀ k, Imp (t.get .junk k) (u.get .junk k)
def TK (a b : Ob) : Prop := ∀ (C : Ctx) (w : World) (i : Nat), obHolds C w i b -> obHolds C w i a
theorem FU {c alt : T α} {post : α -> Prop} : ∀ {t u : Tr SV}, (eqT t u c alt).holds post -> (WW t u /\ c.holds post) ∨ alt.holds post
 | .nil, _, h => .inl ⟨fun _ _ _ _ _ => trivial, h⟩
 | .node _ _ _, .nil, h => .inr h
 | .node l v r, .node l' v' r', h => by
   rcases FU (t := l) (u := l') (c := eqS v v' (eqT r r' c alt) alt) h with ⟨h1, h⟩ | h
   · rcases xG h with ⟨h2, h⟩ | h
     · rcases FU (t := r) (u := r') h with ⟨h3, h⟩ | h
       · refine .inl ⟨fun k => ?_, h⟩
         simp only [Tr.get]
         cases k.beq 0 with
         | true => exact h2
         | false =>
           cases (k % 2).beq 1 with
           | true => exact h1 _
           | false => exact h3 _
       · exact .inr h
     · exact .inr h
   · exact .inr h
 termination_by structural t => t
def clE (b : Ob) : TypeId -> List SV -> Q2 α := @Ob.rec (fun _ => TypeId -> List SV -> Q2 α) (fun t' cs' t cs c alt => BT (Nat.beq t t') (eqL cs cs' c alt) alt) (fun _ _ _ _ _ _ _ alt => alt) (fun _ _ _ _ alt => alt) (fun _ _ _ _ _ _ alt => alt) (fun _ _ _ _ _ _ alt => alt) (fun _ _ _ _ _ _ _ _ alt => alt) (fun _ _ _ _ _ _ alt => alt) b
def vcE (b : Ob) : TypeId -> Nat -> Nat -> Tr SV -> Bool -> Q2 α := @Ob.rec (fun _ => TypeId -> Nat -> Nat -> Tr SV -> Bool -> Q2 α) (fun _ _ _ _ _ _ _ _ alt => alt) (fun _ _ _ _ _ _ _ _ _ _ alt => alt) (fun _ _ _ _ _ _ _ alt => alt) (fun _ _ _ _ _ _ _ _ _ alt => alt) (fun _ _ _ _ _ _ _ _ _ alt => alt) (fun t' z' n' tr' ex' t z n tr ex c alt => BT (aT (Nat.beq t t') (aT (Nat.beq z z') (aT (Nat.beq n n') (eqB ex ex')))) (eqT tr tr' c alt) alt) (fun _ _ _ _ _ _ _ _ _ alt => alt) b
def eqO (a b : Ob) : Q2 α := @Ob.rec (fun _ => Ob -> Q2 α) (fun t cs b => clE b t cs) (fun t z n f b c _ => .need (b = .row t z n f) c) (fun d b c _ => .need (b = .frz d) c) (fun k v l b c _ => .need (b = .mp k v l) c) (fun m n s b c _ => .need (b = .it m n s) c) (fun t z n tr ex b => vcE b t z n tr ex) (fun m n x b c _ => .need (b = .itx m n x) c) a b
theorem QT {a b : Ob} {c alt : T α} {post : α -> Prop} (h : (eqO a b c alt).holds post) : (TK a b /\ c.holds post) ∨ alt.holds post := by
 cases a with
 | cells t cs =>
   cases b with
   | cells t' cs' =>
     rcases iD (show (BT (Nat.beq t t') (eqL cs cs' c alt) alt).holds post from h) with ⟨h1, k⟩ | h
     · rcases Eb k with ⟨h2, k⟩ | h
       · have h1 := Nat.eq_of_beq_eq_true h1
         subst h1
         exact .inl ⟨fun C w i ⟨b, e1, e2, vs, e3, e4⟩ => ⟨b, e1, e2, vs, e3, h2 C w vs e4⟩, k⟩
       · exact .inr h
     · exact .inr h
   | _ => exact .inr h
 | vec t z n tr ex =>
   cases b with
   | vec t' z' n' tr' ex' =>
     rcases iD (show (BT (aT (Nat.beq t t') (aT (Nat.beq z z') (aT (Nat.beq n n') (eqB ex ex')))) (eqT tr tr' c alt) alt).holds post from h) with ⟨h1, k⟩ | h
     · obtain ⟨h1, h2⟩ := aZ h1
       obtain ⟨h2, h3⟩ := aZ h2
       obtain ⟨h3, h4⟩ := aZ h3
       have h1 := Nat.eq_of_beq_eq_true h1
       have h2 := Nat.eq_of_beq_eq_true h2
       have h3 := Nat.eq_of_beq_eq_true h3
       have h4 := Pe h4
       subst h1 h2 h3 h4
       rcases FU k with ⟨h5, k⟩ | h
       · refine .inl ⟨fun C w i ⟨b, m, e1, e2, e3, e4, cur, e5, e6, e7⟩ => ⟨b, m, e1, e2, e3, e4, cur, e5, e6, fun k hk => ?_⟩, k⟩
         obtain ⟨u, q1, q2, q3⟩ := e7 k hk
         exact ⟨u, q1, q2, h5 k C w u q3⟩
       · exact .inr h
     · exact .inr h
   | _ => exact .inr h
 | row t z n f => obtain ⟨h1, h2⟩ := h; subst h1; exact .inl ⟨fun _ _ _ h => h, h2⟩
 | frz d => obtain ⟨h1, h2⟩ := h; subst h1; exact .inl ⟨fun _ _ _ h => h, h2⟩
 | mp k v l => obtain ⟨h1, h2⟩ := h; subst h1; exact .inl ⟨fun _ _ _ h => h, h2⟩
 | it m n s => obtain ⟨h1, h2⟩ := h; subst h1; exact .inl ⟨fun _ _ _ h => h, h2⟩
 | itx m n c' => obtain ⟨h1, h2⟩ := h; subst h1; exact .inl ⟨fun _ _ _ h => h, h2⟩
def Ur (a : Ob) (o : Option Ob) (c alt : T α) : T α := @Option.rec Ob (fun _ => T α) alt (fun b => eqO a b c alt) o
theorem Ox {a : Ob} {o : Option Ob} {c alt : T α} {post : α -> Prop} (h : (Ur a o c alt).holds post) : ((∃ b, o = some b /\ TK a b) /\ c.holds post) ∨ alt.holds post := by
 cases o with
 | none => exact .inr h
 | some b =>
   rcases QT (show (eqO a b c alt).holds post from h) with ⟨h1, h⟩ | h
   · exact .inl ⟨⟨b, rfl, h1⟩, h⟩
   · exact .inr h
def QL (r : Nat -> Nat) (g : Nat -> Option Ob) (l : List (Option Ob)) : Nat -> Q2 α := @List.rec (Option Ob) (fun _ => Nat -> Q2 α) (fun _ c _ => c) (fun o _ ih i c alt => @Option.rec Ob (fun _ => T α) (ih (Nat.succ i) c alt) (fun b => Ur (rnO r b) (g (r i)) (ih (Nat.succ i) c alt) alt) o) l
theorem sU {r : Nat -> Nat} {g : Nat -> Option Ob} {c alt : T α} {post : α -> Prop} : ∀ {l : List (Option Ob)} {i : Nat}, (QL r g l i c alt).holds post -> ((∀ j b, l[j]? = some (some b) -> ∃ o, g (r (i + j)) = some o /\ TK (rnO r b) o) /\ c.holds post) ∨ alt.holds post
 | [], _, h => .inl ⟨fun j b hj => by simp at hj, h⟩
 | none :: l, i, h => by
   rcases sU (l := l) (i := i + 1) h with ⟨h1, h⟩ | h
   · refine .inl ⟨fun j b hj => ?_, h⟩
     cases j with
     | zero => simp at hj
     | succ j => rw [show i + (j + 1) = i + 1 + j by omega]; exact h1 j b (by simpa using hj)
   · exact .inr h
 | some x :: l, i, h => by
   rcases Ox (show (Ur (rnO r x) (g (r i)) (QL r g l (Nat.succ i) c alt) alt).holds post from h) with ⟨h0, h⟩ | h
   · rcases sU (l := l) (i := i + 1) h with ⟨h1, h⟩ | h
     · refine .inl ⟨fun j b hj => ?_, h⟩
       cases j with
       | zero => simp at hj; subst hj; exact h0
       | succ j => rw [show i + (j + 1) = i + 1 + j by omega]; exact h1 j b (by simpa using hj)
     · exact .inr h
   · exact .inr h
end
end
end Rx
set_option linter.unusedSectionVars false
set_option linter.unusedSimpArgs false
set_option linter.unusedVariables false
namespace Rx
open Go
variable [Glob]
noncomputable section
structure TE where
 m : Nat
 al : List SV
 obs : List (Option Ob)
 r : SV
 out : List (Option Ob)
def TE.M (e : TE) : Nat := Nat.add e.m e.out.length
def TE.ok (e : TE) : Bool := aT (bdL e.m e.al) (aT (U6 e.m e.obs) (aT (Nat.ble e.obs.length e.m) (aT (bdS e.M e.r) (U6 e.M e.out))))
def aU (P : Program) (f : FuncId) (e : TE) : Prop := e.ok = true /\
 ∀ (C : Ctx) (w : World) (vs : List Value), WF C w -> (∀ i ob, e.obs[i]? = some (some ob) -> obHolds C w i ob) -> (∀ i, e.m <= i -> C.ν i = none) -> relL C w e.al vs ->
   callable P f = true /\ Calls P f vs.toArray w fun x w' => ∃ v C' τ, x = .returned v /\ Step (fun i => e.m <= i) C w C' w' /\ WF C' w' /\ (∀ i, i < e.m -> C'.ν i = C.ν i) /\
    (∀ i, i < e.m -> τ i = i) /\ (∀ i, e.m <= i -> i < e.M -> e.m <= τ i) /\ (∀ i j, e.m <= i -> i < e.M -> e.m <= j -> j < e.M -> τ i = τ j -> i = j) /\
    rel C' w' (rnS τ e.r) v /\ ∀ t ob, e.out[t]? = some (some ob) -> obHolds C' w' (τ (e.m + t)) (rnO τ ob)
def xk (m : Nat) (ids : List Nat) (new i : Nat) : Nat := @Bool.rec (fun _ => Nat) (Nat.add new (Nat.sub i m)) (iU ids i) (Nat.blt i m)
def zQ (r : Nat -> Nat) (l : List (Option Ob)) : Nat -> List (Nat × Option Ob) := @List.rec (Option Ob) (fun _ => Nat -> List (Nat × Option Ob)) (fun _ => []) (fun o _ ih n => (n, @Option.rec Ob (fun _ => Option Ob) none (fun b => some (rnO r b)) o) :: ih (Nat.succ n)) l
def SI (l : List SV) : List SV := @List.rec SV (fun _ => List SV) [] (fun s _ ih => nKS s :: ih) l
def resE (e : TE) (ids : List Nat) (new : Nat) : Res := ⟨rnS (xk e.m ids new) e.r, ⟨zQ (xk e.m ids new) e.out new, upto new e.out.length⟩⟩
def Lr (e : TE) (al : List SV) (g : Nat -> Option Ob) (new : Nat) (alt : T Res) : T Res :=
 R5 (Jm g e.obs (nat_lit 0) (asL e.al al [])) fun ids =>
    BT (Nat.beq ids.length e.m) (eqL (rnL (xk e.m ids new) e.al) al (QL (xk e.m ids new) g e.obs (nat_lit 0) (.ret (resE e ids new)) alt) alt) alt
def Gl (es : List (Nat × TE)) (al : List SV) (g : Nat -> Option Ob) (new : Nat) (alt : T Res) : T Res :=
 @List.rec (Nat × TE) (fun _ => T Res) alt (fun x _ ih => BT (Nat.beq x.1 new) (Lr x.2 al g new ih) ih) es
def Qe (es : List (Nat × TE)) : Summ := ⟨false, fun _ _ _ => [], fun al g new _ => Gl es (SI al) g new .fail⟩
theorem Ck {C : Ctx} {w : World} : ∀ {al : List SV} {vs : List Value}, relL C w al vs -> relL C w (SI al) vs
 | [], _, h => h
 | s :: l, _, ⟨v, r, e, h1, h2⟩ => ⟨v, r, e, by rw [uN]; exact Aj h1, Ck h2⟩
theorem Cn {r : Nat -> Nat} : ∀ {l : List (Option Ob)} {n i : Nat} {x : Option Ob}, (zQ r l n).lookup i = some x -> ∃ t o, i = n + t /\ l[t]? = some o /\ x = o.map (rnO r)
 | [], _, _, _, h => by cases h
 | o :: l, n, i, x, h => by
   have h : List.lookup i ((n, @Option.rec Ob (fun _ => Option Ob) none (fun b => some (rnO r b)) o) :: zQ r l (n + 1)) = some x := h
   rw [List.lookup_cons] at h
   by_cases e : i = n
   · subst e
     simp at h
     refine ⟨0, o, rfl, rfl, ?_⟩
     rw [← h]
     cases o <;> rfl
   · have : (i == n) = false := by simpa using e
     rw [this] at h
     obtain ⟨t, o', h1, h2, h3⟩ := Cn (l := l) (n := n + 1) h
     exact ⟨t + 1, o', by omega, by simpa using h2, h3⟩
theorem Ma {r : Nat -> Nat} : ∀ {l : List (Option Ob)} {n i : Nat}, i ∈ (zQ r l n).map (·.1) ↔ n <= i /\ i < n + l.length
 | [], n, i => by
   have : zQ r [] n = [] := rfl
   rw [this]; simp
 | o :: l, n, i => by
   have e : (zQ r (o :: l) n).map (·.1) = n :: (zQ r l (n + 1)).map (·.1) := rfl
   rw [e, List.mem_cons, Ma (l := l)]
   simp only [List.length_cons]
   omega
theorem Fv {m : Nat} {ids : List Nat} {new i : Nat} (h : i < m) : xk m ids new i = iU ids i := by
 unfold xk
 have : Nat.blt i m = true := by rw [Nat.blt_eq]; exact h
 rw [this]
theorem QM {m : Nat} {ids : List Nat} {new i : Nat} (h : m <= i) : xk m ids new i = new + (i - m) := by
 unfold xk
 have : Nat.blt i m = false := by
  cases hb : Nat.blt i m with
  | false => rfl
  | true => rw [Nat.blt_eq] at hb; omega
 rw [this]
 rfl
def uz (C : Ctx) (m : Nat) (ids : List Nat) : Ctx :=
 ⟨fun i => if i < m then C.ν (iU ids i) else none, fun i => if i < m then C.ρ (iU ids i) else none, fun b => C.W0 b ∨ ∃ j, C.ρ j = some b /\ ∀ i, i < m -> iU ids i ≠ j⟩
theorem EP : ∀ (k n i : Nat), n <= i -> i < n + k -> i ∈ upto n k
 | 0, n, i, h1, h2 => by omega
 | k + 1, n, i, h1, h2 => by
   simp only [upto, List.mem_cons]
   by_cases h : i = n
   · exact .inl h
   · exact .inr (EP k (n + 1) i (by omega) (by omega))
theorem FZ {P : Program} {f : FuncId} {e : TE} (he : aU P f e) {C : Ctx} {w : World} {g : Nat -> Option Ob} {al : List SV} {vs : List Value} {new : Nat} {alt : T Res} {post : Res -> Prop} (hw : WF C w) (hg : ObsOk C w g)
  (hnew : ∀ r, post r -> ∀ i ∈ r.eff.new, C.ν i = none) (hr : relL C w al vs) (h : (Lr e al g new alt).holds post) :
  (callable P f = true /\ Calls P f vs.toArray w fun x w' => ∃ v C' r, x = .returned v /\ post r /\ Came C w r C' w' v) ∨ alt.holds post := by
 obtain ⟨hok, he⟩ := he
 obtain ⟨b1, hok⟩ := aZ hok
 obtain ⟨b2, hok⟩ := aZ hok
 obtain ⟨b3, hok⟩ := aZ hok
 obtain ⟨b4, b5⟩ := aZ hok
 unfold Lr at h
 rw [D9] at h
 have hnd : (Jm g e.obs 0 (asL e.al al [])).Nodup := ET _ _ _ (Je _ _ _ List.nodup_nil)
 generalize Jm g e.obs 0 (asL e.al al []) = ids at h hnd
 rcases Or.symm (iD h) with h | ⟨hlen, h⟩
 · exact .inr h
 have hlen := Nat.eq_of_beq_eq_true hlen
 rcases Or.symm (Eb h) with h | ⟨hal, h⟩
 · exact .inr h
 rcases Or.symm (sU h) with h | ⟨hobs, h⟩
 · exact .inr h
 refine .inl ?_
 have h : post (resE e ids new) := h
 have hnew := hnew _ h
 have hnew : ∀ i, new <= i -> i < new + e.out.length -> C.ν i = none := fun i h1 h2 => hnew i (EP _ _ _ h1 h2)
 have hρinj : ∀ i j, i < e.m -> j < e.m -> iU ids i = iU ids j -> i = j := fun i j hi hj hij => Gx hnd (by omega) (by omega) hij
 have hW : ∀ b, (uz C e.m ids).W b ↔ C.W b := by
  intro b
  constructor
  · rintro ((hb | ⟨j, hj, _⟩) | ⟨i, hi⟩)
    · exact .inl hb
    · exact .inr ⟨j, hj⟩
    · have hi : (if i < e.m then C.ρ (iU ids i) else none) = some b := hi
      split at hi
      · exact .inr ⟨_, hi⟩
      · cases hi
  · rintro (hb | ⟨j, hj⟩)
    · exact .inl (.inl hb)
    · by_cases hex : ∃ i, i < e.m /\ iU ids i = j
      · obtain ⟨i, hi, rfl⟩ := hex
        exact .inr ⟨i, by show (if i < e.m then C.ρ (iU ids i) else none) = some b; rw [if_pos hi]; exact hj⟩
      · exact .inl (.inr ⟨j, hj, fun i hi hij => hex ⟨i, hi, hij⟩⟩)
 have hC0ν : ∀ i, i < e.m -> (uz C e.m ids).ν i = C.ν (iU ids i) := fun i hi => if_pos hi
 have hC0ρ : ∀ i, i < e.m -> (uz C e.m ids).ρ i = C.ρ (iU ids i) := fun i hi => if_pos hi
 have hC0ν' : ∀ i, e.m <= i -> (uz C e.m ids).ν i = none := fun i hi => if_neg (by omega)
 have hC0ρ' : ∀ i, e.m <= i -> (uz C e.m ids).ρ i = none := fun i hi => if_neg (by omega)
 have hC0W0 : ∀ b, (uz C e.m ids).W0 b ↔ (C.W0 b ∨ ∃ j, C.ρ j = some b /\ ∀ i, i < e.m -> iU ids i ≠ j) := fun b => Iff.rfl
 have hwf0 : WF (uz C e.m ids) w := by
  refine ⟨fun i b hi => ?_, fun i j b hi hj => ?_, fun b hb => ?_, fun i b hi => ?_, fun i b hi hb => ?_, bO (fun b hb => (hW b).1 hb) hw.gl⟩
  · by_cases h1 : i < e.m
    · rw [hC0ρ i h1] at hi; exact hw.lt _ _ hi
    · rw [hC0ρ' i (by omega)] at hi; cases hi
  · by_cases h1 : i < e.m
    · by_cases h2 : j < e.m
      · rw [hC0ρ i h1] at hi; rw [hC0ρ j h2] at hj
        exact hρinj i j h1 h2 (hw.inj _ _ b hi hj)
      · rw [hC0ρ' j (by omega)] at hj; cases hj
    · rw [hC0ρ' i (by omega)] at hi; cases hi
  · rcases hb with hb | ⟨j, hj, _⟩
    · exact hw.w0 b hb
    · exact hw.lt j b hj
  · by_cases h1 : i < e.m
    · rw [hC0ρ i h1] at hi
      rw [hC0ν i h1]
      exact hw.own _ b hi
    · rw [hC0ρ' i (by omega)] at hi; cases hi
  · by_cases h1 : i < e.m
    · rw [hC0ρ i h1] at hi
      rcases hb with hb | ⟨j, hj, hn⟩
      · exact hw.dis _ b hi hb
      · exact hn i h1 (hw.inj _ _ b hi hj)
    · rw [hC0ρ' i (by omega)] at hi; cases hi
 have hν0 : ∀ i u, i < e.m -> C.ν (xk e.m ids new i) = some u -> (uz C e.m ids).ν (id i) = some u := fun i u hi hu => by
  rw [Fv hi] at hu
  show (uz C e.m ids).ν i = _
  rw [hC0ν i hi]; exact hu
 have hobs0 : ∀ i ob, e.obs[i]? = some (some ob) -> obHolds (uz C e.m ids) w i ob := by
  intro i ob hi
  have hil : i < e.m := by
   have := (List.getElem?_eq_some_iff.1 hi).1
   have := Nat.le_of_ble_eq_true b3
   omega
  obtain ⟨o, ho, hio⟩ := hobs i ob hi
  rw [Nat.zero_add] at ho
  have h1 := hio _ _ _ (hg _ _ ho)
  have := Tj (C1 := C) (C2 := uz C e.m ids) (τ := xk e.m ids new) (ρ := id) (fun b hb => (hW b).1 hb) hν0 (i1 := xk e.m ids new i) (i2 := i) (fun u hu => hν0 i u hil hu) (fun b hb => by rw [hC0ρ i hil, ← Fv (ids := ids) (new := new) hil]; exact hb) (Af b2 hi) h1
  rwa [Ul] at this
 have hrel0 : relL (uz C e.m ids) w e.al vs := by
  have hr := hal _ _ _ hr
  have := Fb (C2 := uz C e.m ids) (ρ := id) (fun b hb => (hW b).1 hb) hν0 e.al vs b1 hr
  rwa [IV] at this
 obtain ⟨hc, hcalls⟩ := he _ w vs hwf0 hobs0 hC0ν' hrel0
 refine ⟨hc, hcalls.mono ?_⟩
 rintro x w' ⟨v, D, τ, rfl, hst, hwf, hkeep, ht1, ht2, ht3, hres, hout⟩
 generalize uz C e.m ids = C0 at *
 have hnb : ∀ j u, C.ν j = some u -> ¬ (new <= j /\ j < new + e.out.length) := fun j u hj hb => by rw [hnew j hb.1 hb.2] at hj; cases hj
 have hnr : ∀ j b, C.ρ j = some b -> ¬ (new <= j /\ j < new + e.out.length) := fun j b hj hb => by
  obtain ⟨u, hu⟩ := hw.own j b hj
  exact hnb j u hu hb
 let C' : Ctx := ⟨fun j => if new <= j /\ j < new + e.out.length then D.ν (τ (e.m + (j - new))) else C.ν j, fun j => if new <= j /\ j < new + e.out.length then D.ρ (τ (e.m + (j - new))) else C.ρ j, C.W0⟩
 have hM : e.M = e.m + e.out.length := rfl
 have hC'n : ∀ t, t < e.out.length -> C'.ν (new + t) = D.ν (τ (e.m + t)) := fun t ht => by
  show (if new <= new + t /\ new + t < new + e.out.length then D.ν (τ (e.m + (new + t - new))) else C.ν (new + t)) = _
  rw [if_pos (by omega), show new + t - new = t by omega]
 have hC'r : ∀ t, t < e.out.length -> C'.ρ (new + t) = D.ρ (τ (e.m + t)) := fun t ht => by
  show (if new <= new + t /\ new + t < new + e.out.length then D.ρ (τ (e.m + (new + t - new))) else C.ρ (new + t)) = _
  rw [if_pos (by omega), show new + t - new = t by omega]
 have hC'o : ∀ j, ¬ (new <= j /\ j < new + e.out.length) -> C'.ν j = C.ν j := fun j hj => if_neg hj
 have hC'p : ∀ j, ¬ (new <= j /\ j < new + e.out.length) -> C'.ρ j = C.ρ j := fun j hj => if_neg hj
 have hkeepρ : ∀ i b, i < e.m -> C0.ρ i = some b -> D.ρ i = some b := fun i b hi hb => hst.keep i b (by omega) hb
 have hDW0 : ∀ b, D.W0 b ↔ C0.W0 b := fun b => by rw [hst.w0]
 have hρD : ∀ j b, C.ρ j = some b -> (∃ i, i < e.m /\ iU ids i = j /\ D.ρ i = some b) ∨ D.W0 b := by
  intro j b hj
  by_cases hex : ∃ i, i < e.m /\ iU ids i = j
  · obtain ⟨i, hi, hij⟩ := hex
    exact .inl ⟨i, hi, hij, hkeepρ i b hi (by rw [hC0ρ i hi, hij]; exact hj)⟩
  · exact .inr ((hDW0 b).2 ((hC0W0 b).2 (.inr ⟨j, hj, fun i hi hij => hex ⟨i, hi, hij⟩⟩)))
 have hC'W : ∀ b, C'.W b -> D.W b := by
  rintro b (hb | ⟨j, hj⟩)
  · exact .inl ((hDW0 b).2 ((hC0W0 b).2 (.inl hb)))
  · by_cases hin : new <= j /\ j < new + e.out.length
    · have : C'.ρ j = D.ρ (τ (e.m + (j - new))) := if_pos hin
      rw [this] at hj
      exact .inr ⟨_, hj⟩
    · rw [hC'p j hin] at hj
      rcases hρD j b hj with ⟨i, _, _, h1⟩ | h1
      · exact .inr ⟨i, h1⟩
      · exact .inl h1
 have hν' : ∀ i u, i < e.M -> D.ν (τ i) = some u -> C'.ν (xk e.m ids new i) = some u := by
  intro i u hi hu
  by_cases h1 : i < e.m
  · rw [ht1 i h1, hkeep i h1, hC0ν i h1] at hu
    rw [Fv h1, hC'o _ (hnb _ u hu)]
    exact hu
  · rw [QM (by omega), hC'n (i - e.m) (by omega), show e.m + (i - e.m) = i by omega]
    exact hu
 have hsz := hst.ag.size
 refine ⟨v, C', resE e ids new, rfl, h, ⟨Ee hC'W hν' e.r v b4 hres, ?_, ?_, fun i hi => ?_, fun i ob hi => ?_⟩⟩
 ·
  refine ⟨fun i u hi => by rw [hC'o i (hnb i u hi)]; exact hi, rfl, fun j b hj => ?_, fun i b hi hb => by rw [hC'p i (hnr i b hb)]; exact hb, hst.ag.mono fun k _ ⟨i, hi, hib⟩ => by rw [hC0ρ' i hi] at hib; cases hib⟩
  by_cases hin : new <= j /\ j < new + e.out.length
  · have h1 : C'.ρ j = D.ρ (τ (e.m + (j - new))) := if_pos hin
    rw [h1] at hj
    rcases hst.own _ b hj with ⟨i, hi⟩ | h2
    · by_cases h3 : i < e.m
      · rw [hC0ρ i h3] at hi; exact .inl ⟨_, hi⟩
      · rw [hC0ρ' i (by omega)] at hi; cases hi
    · exact .inr h2
  · rw [hC'p j hin] at hj
    exact .inl ⟨j, hj⟩
 ·
  refine ⟨fun i b hi => ?_, fun i j b hi hj => ?_, fun b hb => Nat.lt_of_lt_of_le (hw.w0 b hb) hsz, fun i b hi => ?_, fun i b hi hb => ?_, bO hC'W hwf.gl⟩
  · by_cases hin : new <= i /\ i < new + e.out.length
    · have h1 : C'.ρ i = D.ρ (τ (e.m + (i - new))) := if_pos hin
      rw [h1] at hi; exact hwf.lt _ b hi
    · rw [hC'p i hin] at hi; exact Nat.lt_of_lt_of_le (hw.lt i b hi) hsz
  ·
   have cross : ∀ i j b, new <= i /\ i < new + e.out.length -> ¬ (new <= j /\ j < new + e.out.length) -> C'.ρ i = some b -> C'.ρ j = some b -> False := by
    intro i j b hin hjn hi hj
    have h1 : C'.ρ i = D.ρ (τ (e.m + (i - new))) := if_pos hin
    rw [h1] at hi
    rw [hC'p j hjn] at hj
    rcases hρD j b hj with ⟨k, hk, _, h2⟩ | h2
    · have := hwf.inj _ _ b hi h2
      have := ht2 (e.m + (i - new)) (by omega) (by omega)
      omega
    · exact hwf.dis _ b hi h2
   by_cases hin : new <= i /\ i < new + e.out.length
   · by_cases hjn : new <= j /\ j < new + e.out.length
     · have h1 : C'.ρ i = D.ρ (τ (e.m + (i - new))) := if_pos hin
       have h2 : C'.ρ j = D.ρ (τ (e.m + (j - new))) := if_pos hjn
       rw [h1] at hi; rw [h2] at hj
       have := ht3 _ _ (by omega) (by omega) (by omega) (by omega) (hwf.inj _ _ b hi hj)
       omega
     · exact (cross i j b hin hjn hi hj).elim
   · by_cases hjn : new <= j /\ j < new + e.out.length
     · exact (cross j i b hjn hin hj hi).elim
     · rw [hC'p i hin] at hi; rw [hC'p j hjn] at hj
       exact hw.inj i j b hi hj
  · by_cases hin : new <= i /\ i < new + e.out.length
    · have h1 : C'.ρ i = D.ρ (τ (e.m + (i - new))) := if_pos hin
      have h2 : C'.ν i = D.ν (τ (e.m + (i - new))) := if_pos hin
      rw [h1] at hi; rw [h2]; exact hwf.own _ b hi
    · rw [hC'p i hin] at hi; rw [hC'o i hin]; exact hw.own i b hi
  · by_cases hin : new <= i /\ i < new + e.out.length
    · have h1 : C'.ρ i = D.ρ (τ (e.m + (i - new))) := if_pos hin
      rw [h1] at hi
      exact hwf.dis _ b hi ((hDW0 b).2 ((hC0W0 b).2 (.inl hb)))
    · rw [hC'p i hin] at hi; exact hw.dis i b hi hb
 · by_cases hin : new <= i /\ i < new + e.out.length
   · exact .inr (EP _ _ _ hin.1 hin.2)
   · left; rw [hC'o i hin] at hi; exact hi
 · obtain ⟨t, o, rfl, h1, h2⟩ := Cn hi
   cases o with
   | none => cases h2
   | some o =>
     simp only [Option.map_some, Option.some.injEq] at h2
     subst h2
     have htl : t < e.out.length := (List.getElem?_eq_some_iff.1 h1).1
     exact Tj hC'W hν' (fun u hu => by rw [hC'n t htl]; exact hu) (fun b hb => by rw [hC'r t htl]; exact hb) (Af b5 h1) (hout t o h1)
theorem wR {P : Program} {f : FuncId} {C : Ctx} {w : World} {g : Nat -> Option Ob} {al : List SV} {vs : List Value} {new : Nat} {alt : T Res} {post : Res -> Prop} (hw : WF C w) (hg : ObsOk C w g)
  (hnew : ∀ r, post r -> ∀ i ∈ r.eff.new, C.ν i = none) (hr : relL C w al vs) : ∀ (es : List (Nat × TE)), (∀ x ∈ es, aU P f x.2) -> (Gl es al g new alt).holds post ->
  (callable P f = true /\ Calls P f vs.toArray w fun x w' => ∃ v C' r, x = .returned v /\ post r /\ Came C w r C' w' v) ∨ alt.holds post
 | [], _, h => .inr h
 | x :: es, he, h => by
   have ih := fun (h : (Gl es al g new alt).holds post) => wR (alt := alt) hw hg hnew hr es (fun y hy => he y (by simp [hy])) h
   rcases iD (show (BT (Nat.beq x.1 new) (Lr x.2 al g new (Gl es al g new alt)) (Gl es al g new alt)).holds post from h) with ⟨_, h⟩ | h
   · rcases FZ (he x (by simp)) hw hg hnew hr h with h | h
     · exact .inl h
     · exact ih h
   · exact ih h
theorem Gt {P : Program} {f : FuncId} {es : List (Nat × TE)} (he : ∀ x ∈ es, aU P f x.2) : gV P f (Qe es) := by
 intro C w g al vs new post hw hg hnew hr h
 rcases wR hw hg hnew (Ck hr) es he h with h | h
 · exact h
 · exact h.elim
def obT (l : List (Option Ob)) : Nat -> OB := @List.rec (Option Ob) (fun _ => Nat -> OB) (fun _ => .nil) (fun o _ ih n => lJ (ih (Nat.succ n)) n o) l
theorem J6 : ∀ (l : List (Option Ob)) (n i : Nat), n + l.length < 16777215 -> aB (obT l n) i = if n <= i then (l[i - n]?).getD none else none
 | [], n, i, _ => by
   show aB .nil i = _
   simp
   rfl
 | o :: l, n, i, h => by
   simp only [List.length_cons] at h
   show aB (lJ (obT l (n + 1)) n o) i = _
   rw [nW i (by omega), J6 l (n + 1) i (by omega)]
   by_cases e : i = n
   · subst e; simp
   · rw [if_neg e]
     by_cases h1 : n <= i
     · rw [if_pos (by omega), if_pos h1, show i - n = (i - (n + 1)) + 1 by omega]
       simp
     · rw [if_neg (by omega), if_neg h1]
def Pq (m : Nat) (l : List Nat) : Bool := @List.rec Nat (fun _ => Bool) true (fun x _ ih => aT (Nat.ble m x) ih) l
def Mx (e : TE) : KK := fun s ob nb => R5 (Jm (aB ob) e.out e.m (asS e.r s (upto (nat_lit 0) e.m))) fun ids =>
 BT (aT (Nat.beq ids.length e.M) (aT (idN e.m ids) (Pq e.m (ids.drop e.m)))) (eqS (rnS (iU ids) e.r) s (QL (iU ids) (aB ob) e.out e.m (.ret (.kb true, ⟨.nil, nat_lit 0⟩)) .fail) .fail) .fail
where
 idN (m : Nat) (ids : List Nat) : Bool := @Nat.rec (fun _ => Bool) true (fun k ih => aT (Nat.beq (iU ids k) k) ih) m
theorem Lb {ids : List Nat} : ∀ {m i : Nat}, Mx.idN m ids = true -> i < m -> iU ids i = i
 | 0, _, _, h => by omega
 | m + 1, i, h, hi => by
   obtain ⟨h1, h2⟩ := aZ (show aT (Nat.beq (iU ids m) m) (Mx.idN m ids) = true from h)
   by_cases e : i = m
   · subst e; exact Nat.eq_of_beq_eq_true h1
   · exact Lb h2 (by omega)
theorem Db {m : Nat} : ∀ {l : List Nat} {x : Nat}, Pq m l = true -> x ∈ l -> m <= x
 | y :: l, x, h, hx => by
   obtain ⟨h1, h2⟩ := aZ (show aT (Nat.ble m y) (Pq m l) = true from h)
   rcases List.mem_cons.1 hx with rfl | hx
   · exact Nat.le_of_ble_eq_true h1
   · exact Db h2 hx
theorem K5 : ∀ (n k : Nat), (upto n k).Nodup
 | _, 0 => List.nodup_nil
 | n, k + 1 => by
   simp only [upto, List.nodup_cons]
   exact ⟨fun h => by have := sM h; omega, K5 (n + 1) k⟩
theorem Ie {D : Deps} (hD : D.Ok) {n top : Nat} {f : FuncId} {e : TE} (hok : e.ok = true) (hm : Nat.ble e.m top = true) (ht : Nat.ble top 16000000 = true)
  (h : (EI D.P D.F D.fl D.win D.fuel n top e.m f e.al (obT e.obs 0) e.m (Mx e)).holds fun y => y.1 = .kb true) : aU D.P f e := by
 have hm := Nat.le_of_ble_eq_true hm
 have ht := Nat.le_of_ble_eq_true ht
 obtain ⟨b1, hok'⟩ := aZ hok
 obtain ⟨b2, hok'⟩ := aZ hok'
 obtain ⟨b3, hok'⟩ := aZ hok'
 have b3 := Nat.le_of_ble_eq_true b3
 refine ⟨hok, fun C w vs hw hobs hnone hrel => ?_⟩
 have hget : ∀ i, aB (obT e.obs 0) i = (e.obs[i]?).getD none := fun i => by
  rw [J6 e.obs 0 i (by omega), if_pos (Nat.zero_le _), Nat.sub_zero]
 have hF : FOk (obT e.obs 0) e.m := fun i hi => by
  rw [hget, List.getElem?_eq_none (by omega)]; rfl
 have h1 := tT hD n top e.m f e.al (obT e.obs 0) e.m (Mx e) (fun y => y.1 = .kb true) hF ⟨hm, by omega⟩ h
 have hk : HOk top ⟨aB (obT e.obs 0), e.m⟩ C w := ⟨hw, fun i ob hi => by
  have hi : aB (obT e.obs 0) i = some ob := hi
  rw [hget] at hi
  cases hx : e.obs[i]? with
  | none => rw [hx] at hi; cases hi
  | some o =>
    rw [hx] at hi
    have hi : o = some ob := hi
    subst hi
    exact hobs i ob hx, fun i hi _ => hnone i hi⟩
 obtain ⟨hc, h2⟩ := (mV hD n top e.m f e.al ⟨aB (obT e.obs 0), e.m⟩).1 C w vs _ hk hrel h1
 refine ⟨hc, h2.mono ?_⟩
 rintro x w' ⟨v, C', y, rfl, ⟨ob', hob', hy⟩, hst, hk', hv, hfr⟩
 unfold Mx at hy
 rw [D9] at hy
 have hnd : (Jm (aB ob') e.out e.m (asS e.r y.1 (upto 0 e.m))).Nodup := ET _ _ _ (Em _ _ _ (K5 _ _))
 generalize Jm (aB ob') e.out e.m (asS e.r y.1 (upto 0 e.m)) = ids at hy hnd
 obtain ⟨g1, hy⟩ := Wm hy
 obtain ⟨g1, g2⟩ := aZ g1
 obtain ⟨g2, g3⟩ := aZ g2
 have g1 := Nat.eq_of_beq_eq_true g1
 have hM : e.M = e.m + e.out.length := rfl
 rcases Or.symm (xG hy) with hy | ⟨q1, hy⟩
 · exact hy.elim
 rcases Or.symm (sU hy) with hy | ⟨q2, hy⟩
 · exact hy.elim
 refine ⟨v, C', iU ids, rfl, hst.mono fun i hi => hi.1, hk'.wf, fun i hi => hfr i (.inl hi), fun i hi => Lb g2 hi, fun i h3 h4 => ?_, fun i j h3 h4 h5 h6 h7 => Gx hnd (by omega) (by omega) h7, q1 _ _ _ hv, fun t ob ht' => ?_⟩
 · refine Db g3 ?_
   rw [sP (List.getElem?_eq_getElem (by omega : i < ids.length))]
   have : (ids.drop e.m)[i - e.m]? = some ids[i] := by
    rw [List.getElem?_drop, show e.m + (i - e.m) = i by omega]
    exact List.getElem?_eq_getElem (by omega)
   exact List.mem_of_getElem? this
 · obtain ⟨o, ho, hio⟩ := q2 t ob ht'
   rw [← hob'] at ho
   exact hio _ _ _ (hk'.ob _ _ ho)
end
end Rx
