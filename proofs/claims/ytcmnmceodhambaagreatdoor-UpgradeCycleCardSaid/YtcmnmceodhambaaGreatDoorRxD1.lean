/- Rx, part D1: equal or not, for the kernel. Printed by gen/told.py. -/
import Derived.Test.YtcmnmceodhambaaGreatDoorRxX6
set_option linter.unusedSectionVars false
set_option linter.unusedSimpArgs false
set_option linter.unusedVariables false
namespace Rx
open Go
variable [Glob]
noncomputable section
variable {α : Type}
def BT (b : Bool) (x y : T α) : T α := @Bool.rec (fun _ => T α) y x b
theorem iF {b : Bool} {x y : T α} {post : α -> Prop} (h : (BT b x y).holds post) : (b = true /\ x.holds post) ∨ y.holds post := by
 cases b
 · exact .inr h
 · exact .inl ⟨rfl, h⟩
theorem WE {b : Bool} {x : T α} {post : α -> Prop} (h : (BT b x .fail).holds post) : b = true /\ x.holds post := by
 cases b
 · exact h.elim
 · exact ⟨rfl, h⟩
def MV (i : Nat) (l : List Nat) : Bool := @List.rec Nat (fun _ => Bool) false (fun j _ r => @Bool.rec (fun _ => Bool) r true (Nat.beq i j)) l
theorem GZ {i : Nat} : ∀ {l : List Nat}, MV i l = true ↔ i ∈ l
 | [] => by simp [MV]
 | j :: l => by
   have ih := GZ (i := i) (l := l)
   show (@Bool.rec (fun _ => Bool) (MV i l) true (Nat.beq i j)) = true ↔ _
   cases hb : Nat.beq i j with
   | true => simp [Nat.eq_of_beq_eq_true hb]
   | false =>
     have : i ≠ j := fun e => by rw [mD e] at hb; cases hb
     show MV i l = true ↔ _
     rw [ih]; simp [this]
abbrev Q2 (α : Type) := T α -> T α -> T α
def byE (l : List UInt8) : List UInt8 -> Bool := @List.rec UInt8 (fun _ => List UInt8 -> Bool) (fun m => @List.rec UInt8 (fun _ => Bool) true (fun _ _ _ => false) m) (fun x _ ih m => @List.rec UInt8 (fun _ => Bool) false (fun y m _ => aV (Nat.beq x.toNat y.toNat) (ih m)) m) l
theorem ND : ∀ {l m : List UInt8}, byE l m = true -> l = m
 | [], [], _ => rfl
 | [], _ :: _, h => by cases h
 | _ :: _, [], h => by cases h
 | x :: l, y :: m, h => by
   have h : aV (Nat.beq x.toNat y.toNat) (byE l m) = true := h
   rw [gX, Bool.and_eq_true] at h
   rw [UInt8.toNat_inj.1 (Nat.eq_of_beq_eq_true h.1), ND h.2]
def Il (s t : ByteArray) : Bool := byE s.data.toList t.data.toList
theorem Fy {s t : ByteArray} (h : Il s t = true) : s = t := by
 have h := ND h
 cases s with | mk a => cases t with | mk b =>
 have h : a.toList = b.toList := h
 rw [Array.toList_inj.1 h]
def Uh (u v : Value) (c alt : T α) : T α := match u, v with
 | .string s, .string t => BT (Il s t) c alt
 | .slice none 0 0, .slice none 0 0 => c
 | .pointer none, .pointer none => c
 | .nilIface, .nilIface => c
 | .map none, .map none => c
 | .int k n, .int k' m => BT (aV (dS k k') (eqI n m)) c alt
 | .bool p, .bool q => BT (eqB p q) c alt
 | .string _, _ => alt
 | .slice _ _ _, _ => alt
 | .pointer _, _ => alt
 | .int _ _, _ => alt
 | .bool _, _ => alt
 | u, v => .need (u = v) c
theorem pQ {a b : IntKind} (h : dS a b = true) : a = b := by simpa [dS] using h
theorem SN {p q : Bool} (h : eqB p q = true) : p = q := by cases p <;> cases q <;> first | rfl | cases h
theorem bf {a b : Bool} (h : aV a b = true) : a = true /\ b = true := by rw [gX, Bool.and_eq_true] at h; exact h
theorem CO {a b : Int} (h : eqI a b = true) : a = b := by rw [vT] at h; simpa using h
theorem N8 {u v : Value} {c alt : T α} {post : α -> Prop} (h : (Uh u v c alt).holds post) : (u = v /\ c.holds post) ∨ alt.holds post := by
 unfold Uh at h
 split at h
 · rcases iF h with ⟨h1, h2⟩ | h
   · exact .inl ⟨by rw [Fy h1], h2⟩
   · exact .inr h
 · exact .inl ⟨rfl, h⟩
 · exact .inl ⟨rfl, h⟩
 · exact .inl ⟨rfl, h⟩
 · exact .inl ⟨rfl, h⟩
 · rcases iF h with ⟨h1, h2⟩ | h
   · obtain ⟨h1, h3⟩ := bf h1
     exact .inl ⟨by rw [pQ h1, CO h3], h2⟩
   · exact .inr h
 · rcases iF h with ⟨h1, h2⟩ | h
   · exact .inl ⟨by rw [SN h1], h2⟩
   · exact .inr h
 · exact .inr h
 · exact .inr h
 · exact .inr h
 · exact .inr h
 · exact .inr h
 · exact .inl ⟨h.1, h.2⟩
def dtE (d e : Dt) (c alt : T α) : T α := match d, e with
 | .cell u, .cell v => Uh u v c alt
 | .cell _, _ => alt
 | _, .cell _ => alt
 | .ri k a b n, .ri k' a' b' n' => BT (aV (dS k k') (aV (eqI a a') (eqI b b'))) (.need (n = n') c) alt
 | .arr sz n f, .arr sz' n' f' => BT (aV (Nat.beq sz sz') (Nat.beq n n')) (.need (f = f') c) alt
 | d, e => .need (d = e) c
theorem Ri {d e : Dt} {c alt : T α} {post : α -> Prop} (h : (dtE d e c alt).holds post) : (d = e /\ c.holds post) ∨ alt.holds post := by
 unfold dtE at h
 split at h
 · rcases N8 h with ⟨h1, h2⟩ | h
   · exact .inl ⟨by rw [h1], h2⟩
   · exact .inr h
 · exact .inr h
 · exact .inr h
 · rcases iF h with ⟨h1, h2⟩ | h
   · obtain ⟨h1, h3⟩ := bf h1
     obtain ⟨h3, h4⟩ := bf h3
     exact .inl ⟨by rw [pQ h1, CO h3, CO h4, h2.1], h2.2⟩
   · exact .inr h
 · rcases iF h with ⟨h1, h2⟩ | h
   · obtain ⟨h1, h3⟩ := bf h1
     exact .inl ⟨by rw [Nat.eq_of_beq_eq_true h1, Nat.eq_of_beq_eq_true h3, h2.1], h2.2⟩
   · exact .inr h
 · exact .inl ⟨h.1, h.2⟩
def TP (s : SV) : Nat -> Nat -> Q2 α := @SV.rec (fun _ => Nat -> Nat -> Q2 α) (fun _ => PUnit) (fun _ _ _ alt => alt) (fun _ => fun _ _ _ alt => alt) (fun _ _ => fun _ _ _ alt => alt) (fun _ _ => fun _ _ _ alt => alt) (fun j p i o c alt => BT (aV (Nat.beq i j) (Nat.beq o p)) c alt) (fun _ _ => fun _ _ _ alt => alt) (fun _ _ _ => fun _ _ _ alt => alt) (fun _ => fun _ _ _ alt => alt) (fun _ _ => fun _ _ _ alt => alt) (fun _ => fun _ _ _ alt => alt) (fun _ _ _ _ => fun _ _ _ alt => alt) (fun _ _ _ _ => fun _ _ _ alt => alt) (fun _ _ _ _ _ => fun _ _ _ alt => alt) (fun _ => fun _ _ _ alt => alt) PUnit.unit (fun _ _ _ _ => PUnit.unit) s
theorem Po {b : SV} {c alt : T α} {post : α -> Prop} {i o : Nat} (h : (TP b i o c alt).holds post) : (SV.ptr i o = b /\ c.holds post) ∨ alt.holds post := by
 cases b
 case ptr j p =>
  rcases iF (show (BT (aV (Nat.beq i j) (Nat.beq o p)) c alt).holds post from h) with ⟨h1, h2⟩ | h
  · obtain ⟨h1, h3⟩ := bf h1
    exact .inl ⟨by rw [Nat.eq_of_beq_eq_true h1, Nat.eq_of_beq_eq_true h3], h2⟩
  · exact .inr h
 all_goals exact .inr h
def nmE (s : SV) : Nat -> Q2 α := @SV.rec (fun _ => Nat -> Q2 α) (fun _ => PUnit) (fun _ _ alt => alt) (fun _ => fun _ _ alt => alt) (fun _ _ => fun _ _ alt => alt) (fun _ _ => fun _ _ alt => alt) (fun _ _ => fun _ _ alt => alt) (fun _ _ => fun _ _ alt => alt) (fun _ _ _ => fun _ _ alt => alt) (fun _ => fun _ _ alt => alt) (fun _ _ => fun _ _ alt => alt) (fun j i c alt => BT (Nat.beq i j) c alt) (fun _ _ _ _ => fun _ _ alt => alt) (fun _ _ _ _ => fun _ _ alt => alt) (fun _ _ _ _ _ => fun _ _ alt => alt) (fun _ => fun _ _ alt => alt) PUnit.unit (fun _ _ _ _ => PUnit.unit) s
theorem Rw {b : SV} {c alt : T α} {post : α -> Prop} {i : Nat} (h : (nmE b i c alt).holds post) : (SV.nm i = b /\ c.holds post) ∨ alt.holds post := by
 cases b
 case nm j =>
  rcases iF (show (BT (Nat.beq i j) c alt).holds post from h) with ⟨h1, h2⟩ | h
  · exact .inl ⟨by rw [Nat.eq_of_beq_eq_true h1], h2⟩
  · exact .inr h
 all_goals exact .inr h
def kbE (s : SV) : Bool -> Q2 α := @SV.rec (fun _ => Bool -> Q2 α) (fun _ => PUnit) (fun _ _ alt => alt) (fun _ => fun _ _ alt => alt) (fun _ _ => fun _ _ alt => alt) (fun _ _ => fun _ _ alt => alt) (fun _ _ => fun _ _ alt => alt) (fun _ _ => fun _ _ alt => alt) (fun _ _ _ => fun _ _ alt => alt) (fun q p c alt => BT (eqB p q) c alt) (fun _ _ => fun _ _ alt => alt) (fun _ => fun _ _ alt => alt) (fun _ _ _ _ => fun _ _ alt => alt) (fun _ _ _ _ => fun _ _ alt => alt) (fun _ _ _ _ _ => fun _ _ alt => alt) (fun _ => fun _ _ alt => alt) PUnit.unit (fun _ _ _ _ => PUnit.unit) s
theorem R7 {b : SV} {c alt : T α} {post : α -> Prop} {p : Bool} (h : (kbE b p c alt).holds post) : (SV.kb p = b /\ c.holds post) ∨ alt.holds post := by
 cases b
 case kb q =>
  rcases iF (show (BT (eqB p q) c alt).holds post from h) with ⟨h1, h2⟩ | h
  · exact .inl ⟨by rw [SN h1], h2⟩
  · exact .inr h
 all_goals exact .inr h
def kiE (s : SV) : IntKind -> Int -> Q2 α := @SV.rec (fun _ => IntKind -> Int -> Q2 α) (fun _ => PUnit) (fun _ _ _ alt => alt) (fun _ => fun _ _ _ alt => alt) (fun _ _ => fun _ _ _ alt => alt) (fun _ _ => fun _ _ _ alt => alt) (fun _ _ => fun _ _ _ alt => alt) (fun _ _ => fun _ _ _ alt => alt) (fun _ _ _ => fun _ _ _ alt => alt) (fun _ => fun _ _ _ alt => alt) (fun k' m k n c alt => BT (aV (dS k k') (eqI n m)) c alt) (fun _ => fun _ _ _ alt => alt) (fun _ _ _ _ => fun _ _ _ alt => alt) (fun _ _ _ _ => fun _ _ _ alt => alt) (fun _ _ _ _ _ => fun _ _ _ alt => alt) (fun _ => fun _ _ _ alt => alt) PUnit.unit (fun _ _ _ _ => PUnit.unit) s
theorem Rj {b : SV} {c alt : T α} {post : α -> Prop} {k : IntKind} {n : Int} (h : (kiE b k n c alt).holds post) : (SV.ki k n = b /\ c.holds post) ∨ alt.holds post := by
 cases b
 case ki k' m =>
  rcases iF (show (BT (aV (dS k k') (eqI n m)) c alt).holds post from h) with ⟨h1, h2⟩ | h
  · obtain ⟨h1, h3⟩ := bf h1
    exact .inl ⟨by rw [pQ h1, CO h3], h2⟩
  · exact .inr h
 all_goals exact .inr h
def rpE (s : SV) : Nat -> Nat -> Nat -> Nat -> Q2 α := @SV.rec (fun _ => Nat -> Nat -> Nat -> Nat -> Q2 α) (fun _ => PUnit) (fun _ _ _ _ _ alt => alt) (fun _ => fun _ _ _ _ _ alt => alt) (fun _ _ => fun _ _ _ _ _ alt => alt) (fun _ _ => fun _ _ _ _ _ alt => alt) (fun _ _ => fun _ _ _ _ _ alt => alt) (fun _ _ => fun _ _ _ _ _ alt => alt) (fun _ _ _ => fun _ _ _ _ _ alt => alt) (fun _ => fun _ _ _ _ _ alt => alt) (fun _ _ => fun _ _ _ _ _ alt => alt) (fun _ => fun _ _ _ _ _ alt => alt) (fun i' o' y' z' i o y z c alt => BT (aV (Nat.beq i i') (aV (Nat.beq o o') (aV (Nat.beq y y') (Nat.beq z z')))) c alt) (fun _ _ _ _ => fun _ _ _ _ _ alt => alt) (fun _ _ _ _ _ => fun _ _ _ _ _ alt => alt) (fun _ => fun _ _ _ _ _ alt => alt) PUnit.unit (fun _ _ _ _ => PUnit.unit) s
theorem Sd {b : SV} {c alt : T α} {post : α -> Prop} {i o y z : Nat} (h : (rpE b i o y z c alt).holds post) : (SV.rp i o y z = b /\ c.holds post) ∨ alt.holds post := by
 cases b
 case rp i' o' y' z' =>
  rcases iF (show (BT (aV (Nat.beq i i') (aV (Nat.beq o o') (aV (Nat.beq y y') (Nat.beq z z')))) c alt).holds post from h) with ⟨h1, h2⟩ | h
  · obtain ⟨h1, h3⟩ := bf h1
    obtain ⟨h3, h4⟩ := bf h3
    obtain ⟨h4, h5⟩ := bf h4
    exact .inl ⟨by rw [Nat.eq_of_beq_eq_true h1, Nat.eq_of_beq_eq_true h3, Nat.eq_of_beq_eq_true h4, Nat.eq_of_beq_eq_true h5], h2⟩
  · exact .inr h
 all_goals exact .inr h
def riW (n a b m : Int) (c : T α) : T α := .need (n = m /\ a <= n /\ n <= b) c
def riN (u : Value) (k : IntKind) (a b n : Int) (c alt : T α) : T α := match u with
 | .int k' m => BT (dS k k') (riW n a b m c) alt
 | _ => alt
def riD (e : Dt) (k : IntKind) (a b n : Int) (c alt : T α) : T α := match e with
 | .cell u => riN u k a b n c alt
 | .ri k' a' b' n' => BT (dS k k') (BT (aV (eqI a a') (eqI b b')) (.need (n = n') c) (riW n a b n' c)) alt
 | _ => alt
def riE (s : SV) : IntKind -> Int -> Int -> Int -> Q2 α := @SV.rec (fun _ => IntKind -> Int -> Int -> Int -> Q2 α) (fun _ => PUnit) (fun _ _ _ _ _ alt => alt) (fun e k a b n c alt => riD e k a b n c alt) (fun _ _ => fun _ _ _ _ _ alt => alt) (fun _ _ => fun _ _ _ _ _ alt => alt) (fun _ _ => fun _ _ _ _ _ alt => alt) (fun _ _ => fun _ _ _ _ _ alt => alt) (fun _ _ _ => fun _ _ _ _ _ alt => alt) (fun _ => fun _ _ _ _ _ alt => alt) (fun k' m k a b n c alt => BT (dS k k') (riW n a b m c) alt) (fun _ => fun _ _ _ _ _ alt => alt) (fun _ _ _ _ => fun _ _ _ _ _ alt => alt) (fun k' a' b' n' k a b n c alt => BT (dS k k') (BT (aV (eqI a a') (eqI b b')) (.need (n = n') c) (riW n a b n' c)) alt) (fun _ _ _ _ _ => fun _ _ _ _ _ alt => alt) (fun _ => fun _ _ _ _ _ alt => alt) PUnit.unit (fun _ _ _ _ => PUnit.unit) s
def onE (a : Option Nat) : Option Nat -> Bool := @Option.rec Nat (fun _ => Option Nat -> Bool) (fun b => @Option.rec Nat (fun _ => Bool) true (fun _ => false) b) (fun i b => @Option.rec Nat (fun _ => Bool) false (fun j => Nat.beq i j) b) a
theorem TH {a b : Option Nat} (h : onE a b = true) : a = b := by
 cases a <;> cases b <;> first | rfl | cases h | exact congrArg some (Nat.eq_of_beq_eq_true h)
def slE (s : SV) : Nat -> Nat -> Nat -> Nat -> Option Nat -> Q2 α := @SV.rec (fun _ => Nat -> Nat -> Nat -> Nat -> Option Nat -> Q2 α) (fun _ => PUnit) (fun _ _ _ _ _ _ alt => alt) (fun _ => fun _ _ _ _ _ _ alt => alt) (fun _ _ => fun _ _ _ _ _ _ alt => alt) (fun _ _ => fun _ _ _ _ _ _ alt => alt) (fun _ _ => fun _ _ _ _ _ _ alt => alt) (fun _ _ => fun _ _ _ _ _ _ alt => alt) (fun _ _ _ => fun _ _ _ _ _ _ alt => alt) (fun _ => fun _ _ _ _ _ _ alt => alt) (fun _ _ => fun _ _ _ _ _ _ alt => alt) (fun _ => fun _ _ _ _ _ _ alt => alt) (fun _ _ _ _ => fun _ _ _ _ _ _ alt => alt) (fun _ _ _ _ => fun _ _ _ _ _ _ alt => alt) (fun i' o' y' z' k' i o y z k c alt => BT (aV (Nat.beq i i') (aV (Nat.beq o o') (aV (Nat.beq y y') (aV (Nat.beq z z') (onE k k'))))) c alt) (fun _ => fun _ _ _ _ _ _ alt => alt) PUnit.unit (fun _ _ _ _ => PUnit.unit) s
theorem RP {b : SV} {c alt : T α} {post : α -> Prop} {i o y z : Nat} {k : Option Nat} (h : (slE b i o y z k c alt).holds post) : (SV.sl i o y z k = b /\ c.holds post) ∨ alt.holds post := by
 cases b
 case sl i' o' y' z' k' =>
  rcases iF (show (BT (aV (Nat.beq i i') (aV (Nat.beq o o') (aV (Nat.beq y y') (aV (Nat.beq z z') (onE k k'))))) c alt).holds post from h) with ⟨h1, h2⟩ | h
  · obtain ⟨h1, h3⟩ := bf h1
    obtain ⟨h3, h4⟩ := bf h3
    obtain ⟨h4, h5⟩ := bf h4
    obtain ⟨h5, h6⟩ := bf h5
    exact .inl ⟨by rw [Nat.eq_of_beq_eq_true h1, Nat.eq_of_beq_eq_true h3, Nat.eq_of_beq_eq_true h4, Nat.eq_of_beq_eq_true h5, TH h6], h2⟩
  · exact .inr h
 all_goals exact .inr h
def syE (s : SV) : ByteArray -> Q2 α := @SV.rec (fun _ => ByteArray -> Q2 α) (fun _ => PUnit) (fun _ _ alt => alt) (fun _ => fun _ _ alt => alt) (fun _ _ => fun _ _ alt => alt) (fun _ _ => fun _ _ alt => alt) (fun _ _ => fun _ _ alt => alt) (fun _ _ => fun _ _ alt => alt) (fun _ _ _ => fun _ _ alt => alt) (fun _ => fun _ _ alt => alt) (fun _ _ => fun _ _ alt => alt) (fun _ => fun _ _ alt => alt) (fun _ _ _ _ => fun _ _ alt => alt) (fun _ _ _ _ => fun _ _ alt => alt) (fun _ _ _ _ _ => fun _ _ alt => alt) (fun t s c alt => .need (s = t) c) PUnit.unit (fun _ _ _ _ => PUnit.unit) s
theorem RL {b : SV} {c alt : T α} {post : α -> Prop} {s : ByteArray} (h : (syE b s c alt).holds post) : (SV.sy s = b /\ c.holds post) ∨ alt.holds post := by
 cases b
 case sy t =>
  have h : (T.need (s = t) c).holds post := h
  exact .inl ⟨by rw [h.1], h.2⟩
 all_goals exact .inr h
def dtX (s : SV) : Dt -> Q2 α := @SV.rec (fun _ => Dt -> Q2 α) (fun _ => PUnit) (fun _ _ alt => alt) (fun e d c alt => dtE d e c alt) (fun _ _ => fun _ _ alt => alt) (fun _ _ => fun _ _ alt => alt) (fun _ _ => fun _ _ alt => alt) (fun _ _ => fun _ _ alt => alt) (fun _ _ _ => fun _ _ alt => alt) (fun _ => fun _ _ alt => alt) (fun _ _ => fun _ _ alt => alt) (fun _ => fun _ _ alt => alt) (fun _ _ _ _ => fun _ _ alt => alt) (fun _ _ _ _ => fun _ _ alt => alt) (fun _ _ _ _ _ => fun _ _ alt => alt) (fun _ => fun _ _ alt => alt) PUnit.unit (fun _ _ _ _ => PUnit.unit) s
theorem Sn {b : SV} {c alt : T α} {post : α -> Prop} {d : Dt} (h : (dtX b d c alt).holds post) : (SV.dt d = b /\ c.holds post) ∨ alt.holds post := by
 cases b
 case dt e =>
  rcases Ri (show (dtE d e c alt).holds post from h) with ⟨h1, h2⟩ | h
  · exact .inl ⟨by rw [h1], h2⟩
  · exact .inr h
 all_goals exact .inr h
def agE (s : SV) : (List SV -> Q2 α) -> Q2 α := @SV.rec (fun _ => (List SV -> Q2 α) -> Q2 α) (fun _ => PUnit) (fun _ _ alt => alt) (fun _ => fun _ _ alt => alt) (fun m _ r c alt => r m c alt) (fun _ _ => fun _ _ alt => alt) (fun _ _ => fun _ _ alt => alt) (fun _ _ => fun _ _ alt => alt) (fun _ _ _ => fun _ _ alt => alt) (fun _ => fun _ _ alt => alt) (fun _ _ => fun _ _ alt => alt) (fun _ => fun _ _ alt => alt) (fun _ _ _ _ => fun _ _ alt => alt) (fun _ _ _ _ => fun _ _ alt => alt) (fun _ _ _ _ _ => fun _ _ alt => alt) (fun _ => fun _ _ alt => alt) PUnit.unit (fun _ _ _ _ => PUnit.unit) s
def tuE (s : SV) : (List SV -> Q2 α) -> Q2 α := @SV.rec (fun _ => (List SV -> Q2 α) -> Q2 α) (fun _ => PUnit) (fun _ _ alt => alt) (fun _ => fun _ _ alt => alt) (fun _ _ => fun _ _ alt => alt) (fun m _ r c alt => r m c alt) (fun _ _ => fun _ _ alt => alt) (fun _ _ => fun _ _ alt => alt) (fun _ _ _ => fun _ _ alt => alt) (fun _ => fun _ _ alt => alt) (fun _ _ => fun _ _ alt => alt) (fun _ => fun _ _ alt => alt) (fun _ _ _ _ => fun _ _ alt => alt) (fun _ _ _ _ => fun _ _ alt => alt) (fun _ _ _ _ _ => fun _ _ alt => alt) (fun _ => fun _ _ alt => alt) PUnit.unit (fun _ _ _ _ => PUnit.unit) s
def VX (s : SV) : Nat -> (List SV -> Q2 α) -> Q2 α := @SV.rec (fun _ => Nat -> (List SV -> Q2 α) -> Q2 α) (fun _ => PUnit) (fun _ _ _ alt => alt) (fun _ => fun _ _ _ alt => alt) (fun _ _ => fun _ _ _ alt => alt) (fun _ _ => fun _ _ _ alt => alt) (fun _ _ => fun _ _ _ alt => alt) (fun _ _ => fun _ _ _ alt => alt) (fun g m _ f r c alt => BT (Nat.beq f g) (r m c alt) alt) (fun _ => fun _ _ _ alt => alt) (fun _ _ => fun _ _ _ alt => alt) (fun _ => fun _ _ _ alt => alt) (fun _ _ _ _ => fun _ _ _ alt => alt) (fun _ _ _ _ => fun _ _ _ alt => alt) (fun _ _ _ _ _ => fun _ _ _ alt => alt) (fun _ => fun _ _ _ alt => alt) PUnit.unit (fun _ _ _ _ => PUnit.unit) s
def eqS (s : SV) : SV -> Q2 α := @SV.rec (fun _ => SV -> Q2 α) (fun _ => List SV -> Q2 α) (fun _ c _ => c) (fun d b c alt => dtX b d c alt) (fun _ r b c alt => agE b r c alt) (fun _ r b c alt => tuE b r c alt) (fun i x b c alt => TP b i x c alt) (fun m g b c alt => .need (SV.el m g = b) c) (fun f _ r b c alt => VX b f r c alt) (fun p b c alt => kbE b p c alt) (fun k n b c alt => kiE b k n c alt) (fun i b c alt => nmE b i c alt) (fun i x y z b c alt => rpE b i x y z c alt) (fun k a d n b c alt => riE b k a d n c alt) (fun i x y z k b c alt => slE b i x y z k c alt) (fun t b c alt => syE b t c alt) (fun m c alt => @List.rec SV (fun _ => T α) c (fun _ _ _ => alt) m) (fun _ _ r rl m c alt => @List.rec SV (fun _ => T α) alt (fun y m _ => r y (rl m c alt) alt) m) s
def eqL (l : List SV) : List SV -> Q2 α := @List.rec SV (fun _ => List SV -> Q2 α) (fun m c alt => @List.rec SV (fun _ => T α) c (fun _ _ _ => alt) m) (fun x _ rl m c alt => @List.rec SV (fun _ => T α) alt (fun y m _ => eqS x y (rl m c alt) alt) m) l
def Imp (a b : SV) : Prop := ∀ (C : Ctx) (w : World) (v : Value), rel C w b v -> rel C w a v
def VB (l m : List SV) : Prop := ∀ (C : Ctx) (w : World) (vs : List Value), relL C w m vs -> relL C w l vs
theorem sJ {a b : SV} {P Q : Prop} (h : (a = b /\ P) ∨ Q) : (Imp a b /\ P) ∨ Q := by
 rcases h with ⟨rfl, h⟩ | h
 · exact .inl ⟨fun _ _ _ h => h, h⟩
 · exact .inr h
theorem Pe {k : IntKind} {a d n m : Int} {s : SV} (h : n = m /\ a <= n /\ n <= d) (hs : ∀ (C : Ctx) (w : World) (v : Value), rel C w s v -> v = .int k m) : Imp (.ri k a d n) s := fun C w v hv => ⟨by rw [hs C w v hv, h.1], h.2⟩
theorem K9 {k k' : IntKind} {a d n a' b' n' : Int} {c alt : T α} {post : α -> Prop} {s : SV} (hs : ∀ (C : Ctx) (w : World) (v : Value), rel C w s v -> v = .int k' n' /\ a' <= n' /\ n' <= b')
  (h : (BT (dS k k') (BT (aV (eqI a a') (eqI d b')) (.need (n = n') c) (riW n a d n' c)) alt).holds post) : (Imp (SV.ri k a d n) s /\ c.holds post) ∨ alt.holds post := by
 rcases iF h with ⟨h1, g⟩ | g
 · have h1 := pQ h1
   refine .inl ?_
   cases hb : aV (eqI a a') (eqI d b') with
   | true =>
     rw [hb] at g
     obtain ⟨q1, q2⟩ := bf hb
     have q1 := CO q1
     have q2 := CO q2
     have g : n = n' /\ c.holds post := g
     exact ⟨fun C w v hv => by rw [h1, q1, q2, g.1]; exact hs C w v hv, g.2⟩
   | false =>
     rw [hb] at g
     have g : (n = n' /\ a <= n /\ n <= d) /\ c.holds post := g
     exact ⟨Pe g.1 fun C w v hv => by rw [h1]; exact (hs C w v hv).1, g.2⟩
 · exact .inr g
theorem KD {k k' : IntKind} {a d n m : Int} {c alt : T α} {post : α -> Prop} {s : SV} (hs : ∀ (C : Ctx) (w : World) (v : Value), rel C w s v -> v = .int k' m)
  (h : (BT (dS k k') (riW n a d m c) alt).holds post) : (Imp (SV.ri k a d n) s /\ c.holds post) ∨ alt.holds post := by
 rcases iF h with ⟨h1, g⟩ | g
 · have h1 := pQ h1
   have g : (n = m /\ a <= n /\ n <= d) /\ c.holds post := g
   exact .inl ⟨Pe g.1 fun C w v hv => by rw [h1]; exact hs C w v hv, g.2⟩
 · exact .inr g
theorem Q5 {b : SV} {c alt : T α} {post : α -> Prop} {k : IntKind} {a d n : Int} (h : (riE b k a d n c alt).holds post) : (Imp (SV.ri k a d n) b /\ c.holds post) ∨ alt.holds post := by
 cases b
 case ri k' a' b' n' => exact K9 (fun C w v hv => hv) h
 case ki k' m => exact KD (fun C w v hv => hv) h
 case dt e =>
  have h : (riD e k a d n c alt).holds post := h
  unfold riD at h
  split at h
  · rename_i u
    unfold riN at h
    split at h
    · exact KD (fun C w v hv => ah.1 hv) h
    · exact .inr h
  · exact K9 (fun C w v hv => hv.here) h
  · exact .inr h
 all_goals exact .inr h
def Va (l : List SV) : List SV -> Q2 α := @SV.rec_1 (fun _ => SV -> Q2 α) (fun _ => List SV -> Q2 α) (fun _ c _ => c) (fun d b c alt => dtX b d c alt) (fun _ r b c alt => agE b r c alt) (fun _ r b c alt => tuE b r c alt) (fun i x b c alt => TP b i x c alt) (fun m g b c alt => .need (SV.el m g = b) c) (fun f _ r b c alt => VX b f r c alt) (fun p b c alt => kbE b p c alt) (fun k n b c alt => kiE b k n c alt) (fun i b c alt => nmE b i c alt) (fun i x y z b c alt => rpE b i x y z c alt) (fun k a d n b c alt => riE b k a d n c alt) (fun i x y z k b c alt => slE b i x y z k c alt) (fun t b c alt => syE b t c alt) (fun m c alt => @List.rec SV (fun _ => T α) c (fun _ _ _ => alt) m) (fun _ _ r rl m c alt => @List.rec SV (fun _ => T α) alt (fun y m _ => r y (rl m c alt) alt) m) l
mutual
theorem xU {c alt : T α} {post : α -> Prop} : ∀ {a b : SV}, (eqS a b c alt).holds post -> (Imp a b /\ c.holds post) ∨ alt.holds post
 | .junk, b, h => .inl ⟨fun _ _ _ _ => trivial, h⟩
 | .dt d, b, h => sJ (Sn h)
 | .agg l, b, h => by
   cases b
   case agg m =>
    rcases uJ (l := l) (m := m) h with ⟨h1, h2⟩ | h
    · exact .inl ⟨fun C w v ⟨vs, e, r⟩ => ⟨vs, e, h1 C w vs r⟩, h2⟩
    · exact .inr h
   all_goals exact .inr h
 | .tup l, b, h => by
   cases b
   case tup m =>
    rcases uJ (l := l) (m := m) h with ⟨h1, h2⟩ | h
    · exact .inl ⟨fun C w v ⟨vs, e, r⟩ => ⟨vs, e, h1 C w vs r⟩, h2⟩
    · exact .inr h
   all_goals exact .inr h
 | .ptr i o, b, h => sJ (Po h)
 | .el m g, b, h => sJ (.inl ⟨h.1, h.2⟩)
 | .fn f l, b, h => by
   cases b
   case fn g m =>
    rcases iF (show (BT (Nat.beq f g) (Va l m c alt) alt).holds post from h) with ⟨h0, h⟩ | h
    · rcases uJ (l := l) (m := m) h with ⟨h1, h2⟩ | h
      · rw [Nat.eq_of_beq_eq_true h0]
        exact .inl ⟨fun C w v ⟨vs, e, r⟩ => ⟨vs, e, h1 C w vs r⟩, h2⟩
      · exact .inr h
    · exact .inr h
   all_goals exact .inr h
 | .kb p, b, h => sJ (R7 h)
 | .ki k n, b, h => sJ (Rj h)
 | .nm i, b, h => sJ (Rw h)
 | .rp i x y z, b, h => sJ (Sd h)
 | .ri k a d n, b, h => Q5 h
 | .sl i x y z k, b, h => sJ (RP h)
 | .sy t, b, h => sJ (RL h)
theorem uJ {c alt : T α} {post : α -> Prop} : ∀ {l m : List SV}, (Va l m c alt).holds post -> (VB l m /\ c.holds post) ∨ alt.holds post
 | [], [], h => .inl ⟨fun _ _ _ h => h, h⟩
 | [], _ :: _, h => .inr h
 | _ :: _, [], h => .inr h
 | x :: l, y :: m, h => by
   rcases xU (a := x) (b := y) (c := Va l m c alt) h with ⟨h1, h2⟩ | h
   · rcases uJ (l := l) (m := m) h2 with ⟨h3, h4⟩ | h
     · exact .inl ⟨fun C w vs ⟨v, r, e, q1, q2⟩ => ⟨v, r, e, h1 C w v q1, h3 C w r q2⟩, h4⟩
     · exact .inr h
   · exact .inr h
end
theorem ES {c alt : T α} {post : α -> Prop} : ∀ {l m : List SV}, (eqL l m c alt).holds post -> (VB l m /\ c.holds post) ∨ alt.holds post
 | [], [], h => .inl ⟨fun _ _ _ h => h, h⟩
 | [], _ :: _, h => .inr h
 | _ :: _, [], h => .inr h
 | x :: l, y :: m, h => by
   rcases xU (a := x) (b := y) (c := eqL l m c alt) h with ⟨h1, h2⟩ | h
   · rcases ES (l := l) (m := m) h2 with ⟨h3, h4⟩ | h
     · exact .inl ⟨fun C w vs ⟨v, r, e, q1, q2⟩ => ⟨v, r, e, h1 C w v q1, h3 C w r q2⟩, h4⟩
     · exact .inr h
   · exact .inr h
def asg (c i : Nat) (l : List Nat) : List Nat := @Bool.rec (fun _ => List Nat) l (@Bool.rec (fun _ => List Nat) (l ++ [i]) l (MV i l)) (Nat.beq c l.length)
def XC (s : SV) : Nat -> List Nat -> List Nat := @SV.rec (fun _ => Nat -> List Nat -> List Nat) (fun _ => PUnit) (fun _ l => l) (fun _ => fun _ l => l) (fun _ _ => fun _ l => l) (fun _ _ => fun _ l => l) (fun i _ c l => asg c i l) (fun _ _ => fun _ l => l) (fun _ _ _ => fun _ l => l) (fun _ => fun _ l => l) (fun _ _ => fun _ l => l) (fun _ => fun _ l => l) (fun _ _ _ _ => fun _ l => l) (fun _ _ _ _ => fun _ l => l) (fun _ _ _ _ _ => fun _ l => l) (fun _ => fun _ l => l) PUnit.unit (fun _ _ _ _ => PUnit.unit) s
def nmA (s : SV) : Nat -> List Nat -> List Nat := @SV.rec (fun _ => Nat -> List Nat -> List Nat) (fun _ => PUnit) (fun _ l => l) (fun _ => fun _ l => l) (fun _ _ => fun _ l => l) (fun _ _ => fun _ l => l) (fun _ _ => fun _ l => l) (fun _ _ => fun _ l => l) (fun _ _ _ => fun _ l => l) (fun _ => fun _ l => l) (fun _ _ => fun _ l => l) (fun i c l => asg c i l) (fun _ _ _ _ => fun _ l => l) (fun _ _ _ _ => fun _ l => l) (fun _ _ _ _ _ => fun _ l => l) (fun _ => fun _ l => l) PUnit.unit (fun _ _ _ _ => PUnit.unit) s
def rpA (s : SV) : Nat -> List Nat -> List Nat := @SV.rec (fun _ => Nat -> List Nat -> List Nat) (fun _ => PUnit) (fun _ l => l) (fun _ => fun _ l => l) (fun _ _ => fun _ l => l) (fun _ _ => fun _ l => l) (fun _ _ => fun _ l => l) (fun _ _ => fun _ l => l) (fun _ _ _ => fun _ l => l) (fun _ => fun _ l => l) (fun _ _ => fun _ l => l) (fun _ => fun _ l => l) (fun i _ _ _ c l => asg c i l) (fun _ _ _ _ => fun _ l => l) (fun _ _ _ _ _ => fun _ l => l) (fun _ => fun _ l => l) PUnit.unit (fun _ _ _ _ => PUnit.unit) s
def slA (s : SV) : Nat -> List Nat -> List Nat := @SV.rec (fun _ => Nat -> List Nat -> List Nat) (fun _ => PUnit) (fun _ l => l) (fun _ => fun _ l => l) (fun _ _ => fun _ l => l) (fun _ _ => fun _ l => l) (fun _ _ => fun _ l => l) (fun _ _ => fun _ l => l) (fun _ _ _ => fun _ l => l) (fun _ => fun _ l => l) (fun _ _ => fun _ l => l) (fun _ => fun _ l => l) (fun _ _ _ _ => fun _ l => l) (fun _ _ _ _ => fun _ l => l) (fun i _ _ _ _ c l => asg c i l) (fun _ => fun _ l => l) PUnit.unit (fun _ _ _ _ => PUnit.unit) s
def agA (s : SV) : (List SV -> List Nat -> List Nat) -> List Nat -> List Nat := @SV.rec (fun _ => (List SV -> List Nat -> List Nat) -> List Nat -> List Nat) (fun _ => PUnit) (fun _ l => l) (fun _ => fun _ l => l) (fun m _ r l => r m l) (fun _ _ => fun _ l => l) (fun _ _ => fun _ l => l) (fun _ _ => fun _ l => l) (fun _ _ _ => fun _ l => l) (fun _ => fun _ l => l) (fun _ _ => fun _ l => l) (fun _ => fun _ l => l) (fun _ _ _ _ => fun _ l => l) (fun _ _ _ _ => fun _ l => l) (fun _ _ _ _ _ => fun _ l => l) (fun _ => fun _ l => l) PUnit.unit (fun _ _ _ _ => PUnit.unit) s
def tuA (s : SV) : (List SV -> List Nat -> List Nat) -> List Nat -> List Nat := @SV.rec (fun _ => (List SV -> List Nat -> List Nat) -> List Nat -> List Nat) (fun _ => PUnit) (fun _ l => l) (fun _ => fun _ l => l) (fun _ _ => fun _ l => l) (fun m _ r l => r m l) (fun _ _ => fun _ l => l) (fun _ _ => fun _ l => l) (fun _ _ _ => fun _ l => l) (fun _ => fun _ l => l) (fun _ _ => fun _ l => l) (fun _ => fun _ l => l) (fun _ _ _ _ => fun _ l => l) (fun _ _ _ _ => fun _ l => l) (fun _ _ _ _ _ => fun _ l => l) (fun _ => fun _ l => l) PUnit.unit (fun _ _ _ _ => PUnit.unit) s
def fnA (s : SV) : (List SV -> List Nat -> List Nat) -> List Nat -> List Nat := @SV.rec (fun _ => (List SV -> List Nat -> List Nat) -> List Nat -> List Nat) (fun _ => PUnit) (fun _ l => l) (fun _ => fun _ l => l) (fun _ _ => fun _ l => l) (fun _ _ => fun _ l => l) (fun _ _ => fun _ l => l) (fun _ _ => fun _ l => l) (fun _ m _ r l => r m l) (fun _ => fun _ l => l) (fun _ _ => fun _ l => l) (fun _ => fun _ l => l) (fun _ _ _ _ => fun _ l => l) (fun _ _ _ _ => fun _ l => l) (fun _ _ _ _ _ => fun _ l => l) (fun _ => fun _ l => l) PUnit.unit (fun _ _ _ _ => PUnit.unit) s
def asS (s : SV) : SV -> List Nat -> List Nat := @SV.rec (fun _ => SV -> List Nat -> List Nat) (fun _ => List SV -> List Nat -> List Nat) (fun _ l => l) (fun _ => fun _ l => l) (fun _ r b l => agA b r l) (fun _ r b l => tuA b r l) (fun c _ b l => XC b c l) (fun _ _ => fun _ l => l) (fun _ _ r b l => fnA b r l) (fun _ => fun _ l => l) (fun _ _ => fun _ l => l) (fun c b l => nmA b c l) (fun c _ _ _ b l => rpA b c l) (fun _ _ _ _ => fun _ l => l) (fun c _ _ _ _ b l => slA b c l) (fun _ => fun _ l => l) (fun _ l => l) (fun _ _ r rl m l => @List.rec SV (fun _ => List Nat) l (fun y m _ => rl m (r y l)) m) s
def asL (s : List SV) : List SV -> List Nat -> List Nat := @List.rec SV (fun _ => List SV -> List Nat -> List Nat) (fun _ l => l) (fun x _ rl m l => @List.rec SV (fun _ => List Nat) l (fun y m _ => rl m (asS x y l)) m) s
theorem qj {c i : Nat} {l : List Nat} (h : l.Nodup) : (asg c i l).Nodup := by
 unfold asg
 cases Nat.beq c l.length with
 | false => exact h
 | true =>
   cases hb : MV i l with
   | true => exact h
   | false =>
     have : i ∉ l := fun hm => by rw [GZ.2 hm] at hb; cases hb
     show (l ++ [i]).Nodup
     rw [List.nodup_append]
     exact ⟨h, by simp, fun a ha b hb e => by simp at hb; subst hb; subst e; exact this ha⟩
mutual
theorem D6 : ∀ (a b : SV) (l : List Nat), l.Nodup -> (asS a b l).Nodup
 | .agg x, b, l, h => by
   cases b
   case agg m => exact yx x m l h
   all_goals exact h
 | .tup x, b, l, h => by
   cases b
   case tup m => exact yx x m l h
   all_goals exact h
 | .fn _ x, b, l, h => by
   cases b
   case fn g m => exact yx x m l h
   all_goals exact h
 | .ptr _ _, b, l, h => by
   cases b
   case ptr i _ => exact qj h
   all_goals exact h
 | .nm _, b, l, h => by
   cases b
   case nm i => exact qj h
   all_goals exact h
 | .rp _ _ _ _, b, l, h => by
   cases b
   case rp i _ _ _ => exact qj h
   all_goals exact h
 | .sl _ _ _ _ _, b, l, h => by
   cases b
   case sl i _ _ _ _ => exact qj h
   all_goals exact h
 | .junk, _, _, h => h
 | .dt _, _, _, h => h
 | .el _ _, _, _, h => h
 | .kb _, _, _, h => h
 | .ki _ _, _, _, h => h
 | .ri _ _ _ _, _, _, h => h
 | .sy _, _, _, h => h
theorem yx : ∀ (x m : List SV) (l : List Nat), l.Nodup -> (asS (.agg x) (.agg m) l).Nodup
 | [], _, _, h => h
 | s :: x, [], _, h => h
 | s :: x, y :: m, l, h => yx x m _ (D6 s y l h)
end
theorem J2 : ∀ (x m : List SV) (l : List Nat), l.Nodup -> (asL x m l).Nodup
 | [], _, _, h => h
 | s :: x, [], _, h => h
 | s :: x, y :: m, l, h => J2 x m _ (D6 s y l h)
end
end Rx
set_option linter.unusedSectionVars false
set_option linter.unusedSimpArgs false
set_option linter.unusedVariables false
namespace Rx
open Go
variable [Glob]
noncomputable section
def asT (t : Tr SV) : Tr SV -> List Nat -> List Nat := @Tr.rec SV (fun _ => Tr SV -> List Nat -> List Nat) (fun _ l => l) (fun _ v _ gl gr u l => @Tr.rec SV (fun _ => List Nat) l (fun l' v' r' _ _ => gr r' (asS v v' (gl l' l))) u) t
def clA (b : Ob) : List SV -> List Nat -> List Nat := @Ob.rec (fun _ => List SV -> List Nat -> List Nat) (fun _ cs' cs l => asL cs cs' l) (fun _ _ _ _ _ l => l) (fun _ _ l => l) (fun _ _ _ _ l => l) (fun _ _ _ _ l => l) (fun _ _ _ _ _ _ l => l) (fun _ _ _ _ l => l) b
def vcA (b : Ob) : Tr SV -> List Nat -> List Nat := @Ob.rec (fun _ => Tr SV -> List Nat -> List Nat) (fun _ _ _ l => l) (fun _ _ _ _ _ l => l) (fun _ _ l => l) (fun _ _ _ _ l => l) (fun _ _ _ _ l => l) (fun _ _ _ tr' _ tr l => asT tr tr' l) (fun _ _ _ _ l => l) b
def itA (b : Ob) : Nat -> List Nat -> List Nat := @Ob.rec (fun _ => Nat -> List Nat -> List Nat) (fun _ _ _ l => l) (fun _ _ _ _ _ l => l) (fun _ _ l => l) (fun _ _ _ _ l => l) (fun i _ _ c l => asg c i l) (fun _ _ _ _ _ _ l => l) (fun i _ _ c l => asg c i l) b
def asB (a : Ob) : Ob -> List Nat -> List Nat := @Ob.rec (fun _ => Ob -> List Nat -> List Nat) (fun _ cs b l => clA b cs l) (fun _ _ _ _ _ l => l) (fun _ _ l => l) (fun _ _ _ _ l => l) (fun m _ _ b l => itA b m l) (fun _ _ _ tr _ b l => vcA b tr l) (fun m _ _ b l => itA b m l) a
def asO (o p : Option Ob) (l : List Nat) : List Nat := @Option.rec Ob (fun _ => List Nat) l (fun a => @Option.rec Ob (fun _ => List Nat) l (fun b => asB a b l) p) o
theorem Jh : ∀ (t u : Tr SV) (l : List Nat), l.Nodup -> (asT t u l).Nodup
 | .nil, _, _, h => h
 | .node _ _ _, .nil, _, h => h
 | .node a v b, .node a' v' b', l, h => Jh b b' _ (D6 v v' _ (Jh a a' l h))
theorem TM (o p : Option Ob) (l : List Nat) (h : l.Nodup) : (asO o p l).Nodup := by
 cases o with
 | none => exact h
 | some a =>
   cases p with
   | none => exact h
   | some b =>
     cases a with
     | cells t cs => cases b with
       | cells t' cs' => exact J2 cs cs' l h
       | _ => exact h
     | vec t z n tr ex => cases b with
       | vec t' z' n' tr' ex' => exact Jh tr tr' l h
       | _ => exact h
     | it m n s => cases b with
       | it i _ _ => exact qj h
       | itx i _ _ => exact qj h
       | _ => exact h
     | itx m n s => cases b with
       | it i _ _ => exact qj h
       | itx i _ _ => exact qj h
       | _ => exact h
     | _ => exact h
def jd (l : List Nat) : Nat -> Nat := @List.rec Nat (fun _ => Nat -> Nat) (fun _ => 0) (fun x _ ih n => @Nat.rec (fun _ => Nat) x (fun m _ => ih m) n) l
def JW (g : Nat -> Option Ob) (os : List (Option Ob)) : Nat -> List Nat -> List Nat := @List.rec (Option Ob) (fun _ => Nat -> List Nat -> List Nat) (fun _ l => l) (fun o _ ih k l => ih (Nat.succ k) (asO o (g (jd l k)) l)) os
theorem DW {g : Nat -> Option Ob} : ∀ (os : List (Option Ob)) (k : Nat) (l : List Nat), l.Nodup -> (JW g os k l).Nodup
 | [], _, _, h => h
 | o :: os, k, l, h => DW os _ _ (TM o _ l h)
def fNT {α : Type} (n : Nat) (f : Nat -> T α) : T α := @Nat.rec (fun _ => T α) (f (nat_lit 0)) (fun m _ => f (Nat.succ m)) n
theorem UF {α : Type} (n : Nat) (f : Nat -> T α) : fNT n f = f n := by cases n <;> rfl
def R9 {α : Type} (l : List Nat) : (List Nat -> T α) -> T α := @List.rec Nat (fun _ => (List Nat -> T α) -> T α) (fun f => f []) (fun x _ ih f => fNT x fun x => ih fun l => f (x :: l)) l
theorem Es {α : Type} : ∀ (l : List Nat) (f : List Nat -> T α), R9 l f = f l
 | [], _ => rfl
 | x :: l, f => by
   show fNT x (fun x => R9 l fun l => f (x :: l)) = _
   rw [UF, Es l]
theorem sN : ∀ {l : List Nat} {n i : Nat}, l[n]? = some i -> jd l n = i
 | [], _, _, h => by simp at h
 | x :: l, 0, i, h => by
   show x = i
   simpa using h
 | x :: l, n + 1, i, h => by
   show jd l n = i
   exact sN (by simpa using h)
theorem Hg {l : List Nat} (h : l.Nodup) {i j : Nat} (hi : i < l.length) (hj : j < l.length) (e : jd l i = jd l j) : i = j := by
 rw [sN (List.getElem?_eq_getElem hi), sN (List.getElem?_eq_getElem hj)] at e
 exact (List.getElem_inj h).1 e
def rnS (r : Nat -> Nat) (s : SV) : SV := @SV.rec (fun _ => SV) (fun _ => List SV) .junk (fun d => .dt d) (fun _ x => .agg x) (fun _ x => .tup x) (fun i o => .ptr (r i) o) (fun m g => .el m g) (fun f _ x => .fn f x) (fun b => .kb b) (fun k n => .ki k n) (fun i => .nm (r i)) (fun i x z o => .rp (r i) x z o) (fun k a b n => .ri k a b n) (fun i z o n c => .sl (r i) z o n c) (fun s => .sy s) [] (fun _ _ x l => x :: l) s
def rnL (r : Nat -> Nat) (l : List SV) : List SV := @List.rec SV (fun _ => List SV) [] (fun s _ ih => rnS r s :: ih) l
def rnT (r : Nat -> Nat) (t : Tr SV) : Tr SV := @Tr.rec SV (fun _ => Tr SV) .nil (fun _ v _ gl gr => .node gl (rnS r v) gr) t
def rnO (r : Nat -> Nat) (b : Ob) : Ob := @Ob.rec (fun _ => Ob) (fun t cs => .cells t (rnL r cs)) (fun t z n f => .row t z n f) (fun d => .frz d) (fun k v l => .mp k v l) (fun m n s => .it (r m) n s) (fun t z n tr ex => .vec t z n (rnT r tr) ex) (fun m n c => .itx (r m) n c) b
def bdS (M : Nat) (s : SV) : Bool := @SV.rec (fun _ => Bool) (fun _ => Bool) true (fun _ => true) (fun _ x => x) (fun _ x => x) (fun i _ => Nat.blt i M) (fun _ _ => true) (fun _ _ x => x) (fun _ => true) (fun _ _ => true) (fun i => Nat.blt i M) (fun i _ _ _ => Nat.blt i M) (fun _ _ _ _ => true) (fun i _ _ _ _ => Nat.blt i M) (fun _ => true) true (fun _ _ x l => aV x l) s
def bdL (M : Nat) (l : List SV) : Bool := @List.rec SV (fun _ => Bool) true (fun s _ ih => aV (bdS M s) ih) l
def bdT (M : Nat) (t : Tr SV) : Bool := @Tr.rec SV (fun _ => Bool) true (fun _ v _ gl gr => aV gl (aV (bdS M v) gr)) t
def bdO (M : Nat) (b : Ob) : Bool := @Ob.rec (fun _ => Bool) (fun _ cs => bdL M cs) (fun _ _ _ _ => true) (fun _ => true) (fun _ _ _ => true) (fun m _ _ => Nat.blt m M) (fun _ _ _ tr _ => bdT M tr) (fun m _ _ => Nat.blt m M) b
def TR (M : Nat) (l : List (Option Ob)) : Bool := @List.rec (Option Ob) (fun _ => Bool) true (fun o _ ih => aV (@Option.rec Ob (fun _ => Bool) true (bdO M) o) ih) l
theorem Dc {a b : Nat} (h : Nat.blt a b = true) : a < b := by simpa [Nat.blt_eq] using h
theorem Ac {M : Nat} : ∀ {l : List (Option Ob)} {i : Nat} {ob : Ob}, TR M l = true -> l[i]? = some (some ob) -> bdO M ob = true
 | [], _, _, _, h => by simp at h
 | o :: l, 0, ob, hb, h => by simp at h; subst h; exact (bf hb).1
 | o :: l, i + 1, ob, hb, h => Ac (l := l) (i := i) (bf hb).2 (by simpa using h)
section
variable {C1 C2 : Ctx} {w : World} {τ ρ : Nat -> Nat} {M : Nat}
mutual
theorem Fq (hW : ∀ b, C2.W b -> C1.W b) (hν : ∀ i u, i < M -> C1.ν (τ i) = some u -> C2.ν (ρ i) = some u) : ∀ (s : SV) (v : Value), bdS M s = true -> rel C1 w (rnS τ s) v -> rel C2 w (rnS ρ s) v
 | .junk, _, _, _ => trivial
 | .dt _, _, _, r => bL hW r
 | .agg l, v, hb, ⟨vs, e, r⟩ => ⟨vs, e, tO hW hν l vs hb r⟩
 | .tup l, v, hb, ⟨vs, e, r⟩ => ⟨vs, e, tO hW hν l vs hb r⟩
 | .ptr i _, _, hb, ⟨b, h, e⟩ => ⟨b, hν i _ (Dc hb) h, e⟩
 | .el _ _, _, _, ⟨b, off, e, p⟩ => ⟨b, off, e, bL hW p⟩
 | .fn _ l, _, hb, ⟨vs, e, r⟩ => ⟨vs, e, tO hW hν l vs hb r⟩
 | .kb _, _, _, r => r
 | .sy _, _, _, r => r
 | .ki _ _, _, _, r => r
 | .nm i, v, hb, r => ⟨hν i _ (Dc hb) r.1, r.2⟩
 | .rp i _ _ _, _, hb, ⟨b, n, c, h, e⟩ => ⟨b, n, c, hν i _ (Dc hb) h, e⟩
 | .ri _ _ _ _, _, _, r => r
 | .sl i _ _ _ _, _, hb, ⟨b, m, cc, x, h, e⟩ => ⟨b, m, cc, x, hν i _ (Dc hb) h, e⟩
theorem tO (hW : ∀ b, C2.W b -> C1.W b) (hν : ∀ i u, i < M -> C1.ν (τ i) = some u -> C2.ν (ρ i) = some u) : ∀ (l : List SV) (vs : List Value), bdS M (.agg l) = true -> relL C1 w (match rnS τ (.agg l) with | .agg x => x | _ => []) vs -> relL C2 w (match rnS ρ (.agg l) with | .agg x => x | _ => []) vs
 | [], _, _, r => r
 | s :: l, _, hb, ⟨v, r, e, h1, h2⟩ => ⟨v, r, e, Fq hW hν s v (bf hb).1 h1, tO hW hν l r (bf hb).2 h2⟩
end
theorem DY (hW : ∀ b, C2.W b -> C1.W b) (hν : ∀ i u, i < M -> C1.ν (τ i) = some u -> C2.ν (ρ i) = some u) : ∀ (l : List SV) (vs : List Value), bdL M l = true -> relL C1 w (rnL τ l) vs -> relL C2 w (rnL ρ l) vs
 | [], _, _, r => r
 | s :: l, _, hb, ⟨v, r, e, h1, h2⟩ => ⟨v, r, e, Fq hW hν s v (bf hb).1 h1, DY hW hν l r (bf hb).2 h2⟩
theorem D7 (r : Nat -> Nat) : ∀ (t : Tr SV) (k : Nat), (rnT r t).get .junk k = rnS r (t.get .junk k)
 | .nil, _ => rfl
 | .node l v x, k => by
   show (Tr.node (rnT r l) (rnS r v) (rnT r x)).get .junk k = _
   simp only [Tr.get]
   cases k.beq 0 with
   | true => rfl
   | false =>
     cases (k % 2).beq 1 with
     | true => exact D7 r l _
     | false => exact D7 r x _
theorem EP : ∀ (t : Tr SV) (k : Nat), bdT M t = true -> bdS M (t.get .junk k) = true
 | .nil, _, _ => rfl
 | .node l v x, k, h => by
   obtain ⟨h1, h2⟩ := bf h
   obtain ⟨h2, h3⟩ := bf h2
   simp only [Tr.get]
   cases k.beq 0 with
   | true => exact h2
   | false =>
     cases (k % 2).beq 1 with
     | true => exact EP l _ h1
     | false => exact EP x _ h3
theorem Tv (hW : ∀ b, C2.W b -> C1.W b) (hν : ∀ i u, i < M -> C1.ν (τ i) = some u -> C2.ν (ρ i) = some u) {i1 i2 : Nat} (h1 : ∀ u, C1.ν i1 = some u -> C2.ν i2 = some u) (h2 : ∀ b, C1.ρ i1 = some b -> C2.ρ i2 = some b) {ob : Ob} (hb : bdO M ob = true)
  (h : obHolds C1 w i1 (rnO τ ob)) : obHolds C2 w i2 (rnO ρ ob) := by
 cases ob with
 | cells t cs =>
   obtain ⟨b, e1, e2, vs, e3, e4⟩ := h
   exact ⟨b, h2 b e1, h1 _ e2, vs, e3, DY hW hν cs vs hb e4⟩
 | row t sz n f =>
   obtain ⟨A, c, e1, e2⟩ := h
   refine ⟨A, c, h1 _ e1, ?_⟩
   rcases e2 with e2 | ⟨b, e2, e3, e4, cur, e5, e6, e7⟩
   · exact .inl e2
   · refine .inr ⟨b, h2 b e2, e3, e4, cur, e5, e6, fun k j hk hj => ?_⟩
     obtain ⟨u, q1, q2, q3⟩ := e7 k j hk hj
     exact ⟨u, q1, q2, bL hW q3⟩
 | frz d =>
   obtain ⟨v, e1, e2⟩ := h
   exact ⟨v, h1 _ e1, bL hW e2⟩
 | mp kt vt l =>
   obtain ⟨b, e1, e2, e3⟩ := h
   exact ⟨b, h2 b e1, h1 _ e2, e3⟩
 | it m n s =>
   obtain ⟨b, bm, e1, e2, e3, e4⟩ := h
   exact ⟨b, bm, h2 b e1, h1 _ e2, hν m _ (Dc hb) e3, e4⟩
 | vec t sz n tr ex =>
   obtain ⟨b, m, e1, e2, e3, e4, cur, e5, e6, e7⟩ := h
   refine ⟨b, m, h2 b e1, h1 _ e2, e3, e4, cur, e5, e6, fun k hk => ?_⟩
   obtain ⟨u, q1, q2, q3⟩ := e7 k hk
   refine ⟨u, q1, q2, ?_⟩
   rw [D7] at q3 ⊢
   exact Fq hW hν _ _ (EP tr k hb) q3
 | itx m n c =>
   obtain ⟨s, e0, b, bm, e1, e2, e3, e4⟩ := h
   exact ⟨s, e0, b, bm, h2 b e1, h1 _ e2, hν m _ (Dc hb) e3, e4⟩
end
mutual
theorem Kg : ∀ s : SV, rnS id s = s
 | .junk => rfl
 | .dt _ => rfl
 | .agg l => congrArg SV.agg (xV l)
 | .tup l => congrArg SV.tup (xV l)
 | .ptr _ _ => rfl
 | .el _ _ => rfl
 | .fn f l => congrArg (SV.fn f) (xV l)
 | .kb _ => rfl
 | .sy _ => rfl
 | .ki _ _ => rfl
 | .nm _ => rfl
 | .rp _ _ _ _ => rfl
 | .ri _ _ _ _ => rfl
 | .sl _ _ _ _ _ => rfl
theorem xV : ∀ l : List SV, (@SV.rec_1 (fun _ => SV) (fun _ => List SV) .junk (fun d => .dt d) (fun _ x => .agg x) (fun _ x => .tup x) (fun i o => .ptr (id i) o) (fun m g => .el m g) (fun f _ x => .fn f x) (fun b => .kb b) (fun k n => .ki k n) (fun i => .nm (id i)) (fun i x z o => .rp (id i) x z o) (fun k a b n => .ri k a b n) (fun i z o n c => .sl (id i) z o n c) (fun s => .sy s) [] (fun _ _ x l => x :: l) l : List SV) = l
 | [] => rfl
 | s :: l => by
   have h1 := Kg s
   have h2 := xV l
   show rnS id s :: _ = _
   rw [h1]
   exact congrArg (s :: ·) h2
end
theorem Ji : ∀ l : List SV, rnL id l = l
 | [] => rfl
 | s :: l => by
   show rnS id s :: rnL id l = _
   rw [Kg, Ji l]
theorem JF : ∀ t : Tr SV, rnT id t = t
 | .nil => rfl
 | .node l v r => by
   show Tr.node (rnT id l) (rnS id v) (rnT id r) = _
   rw [JF l, Kg, JF r]
theorem Vj (b : Ob) : rnO id b = b := by
 cases b with
 | cells t cs => exact congrArg (Ob.cells t) (Ji cs)
 | vec t z n tr ex => exact congrArg (fun x => Ob.vec t z n x ex) (JF tr)
 | _ => rfl
section
variable {α : Type}
def eqT (t : Tr SV) : Tr SV -> Q2 α := @Tr.rec SV (fun _ => Tr SV -> Q2 α) (fun _ c _ => c) (fun _ v _ el er u c alt => @Tr.rec SV (fun _ => T α) alt (fun l v' r _ _ => el l (eqS v v' (er r c alt) alt) alt) u) t
def XA (t u : Tr SV) : Prop := ∀ k, Imp (t.get .junk k) (u.get .junk k)
def Uc (a b : Ob) : Prop := ∀ (C : Ctx) (w : World) (i : Nat), obHolds C w i b -> obHolds C w i a
theorem EK {c alt : T α} {post : α -> Prop} : ∀ {t u : Tr SV}, (eqT t u c alt).holds post -> (XA t u /\ c.holds post) ∨ alt.holds post
 | .nil, _, h => .inl ⟨fun _ _ _ _ _ => trivial, h⟩
 | .node _ _ _, .nil, h => .inr h
 | .node l v r, .node l' v' r', h => by
   rcases EK (t := l) (u := l') (c := eqS v v' (eqT r r' c alt) alt) h with ⟨h1, h⟩ | h
   · rcases xU h with ⟨h2, h⟩ | h
     · rcases EK (t := r) (u := r') h with ⟨h3, h⟩ | h
       · refine .inl ⟨fun k => ?_, h⟩
         simp only [Tr.get]
         cases k.beq 0 with
         | true => exact h2
         | false =>
           cases (k % 2).beq 1 with
           | true => exact h1 _
           | false => exact h3 _
       · exact .inr h
     · exact .inr h
   · exact .inr h
 termination_by structural t => t
def clE (b : Ob) : TypeId -> List SV -> Q2 α := @Ob.rec (fun _ => TypeId -> List SV -> Q2 α) (fun t' cs' t cs c alt => BT (Nat.beq t t') (eqL cs cs' c alt) alt) (fun _ _ _ _ _ _ _ alt => alt) (fun _ _ _ _ alt => alt) (fun _ _ _ _ _ _ alt => alt) (fun _ _ _ _ _ _ alt => alt) (fun _ _ _ _ _ _ _ _ alt => alt) (fun _ _ _ _ _ _ alt => alt) b
def vcL (n n' : Nat) (ex ex' : Bool) : Bool := @Bool.rec (fun _ => Bool) (Nat.ble n n') (aV ex' (Nat.beq n n')) ex
theorem Vb {n n' : Nat} {ex ex' : Bool} (h : vcL n n' ex ex' = true) : n <= n' /\ (ex = true -> ex' = true /\ n = n') := by
 cases ex with
 | false => exact ⟨Nat.le_of_ble_eq_true h, fun h => by cases h⟩
 | true =>
   obtain ⟨h1, h2⟩ := bf h
   have h2 := Nat.eq_of_beq_eq_true h2
   exact ⟨Nat.le_of_eq h2, fun _ => ⟨h1, h2⟩⟩
def vcE (b : Ob) : TypeId -> Nat -> Nat -> Tr SV -> Bool -> Q2 α := @Ob.rec (fun _ => TypeId -> Nat -> Nat -> Tr SV -> Bool -> Q2 α) (fun _ _ _ _ _ _ _ _ alt => alt) (fun _ _ _ _ _ _ _ _ _ _ alt => alt) (fun _ _ _ _ _ _ _ alt => alt) (fun _ _ _ _ _ _ _ _ _ alt => alt) (fun _ _ _ _ _ _ _ _ _ alt => alt) (fun t' z' n' tr' ex' t z n tr ex c alt => BT (aV (Nat.beq t t') (aV (Nat.beq z z') (vcL n n' ex ex'))) (eqT tr tr' c alt) alt) (fun _ _ _ _ _ _ _ _ _ alt => alt) b
def eqO (a b : Ob) : Q2 α := @Ob.rec (fun _ => Ob -> Q2 α) (fun t cs b => clE b t cs) (fun t z n f b c _ => .need (b = .row t z n f) c) (fun d b c _ => .need (b = .frz d) c) (fun k v l b c _ => .need (b = .mp k v l) c) (fun m n s b c _ => .need (b = .it m n s) c) (fun t z n tr ex b => vcE b t z n tr ex) (fun m n x b c _ => .need (b = .itx m n x) c) a b
theorem QL {a b : Ob} {c alt : T α} {post : α -> Prop} (h : (eqO a b c alt).holds post) : (Uc a b /\ c.holds post) ∨ alt.holds post := by
 cases a with
 | cells t cs =>
   cases b with
   | cells t' cs' =>
     rcases iF (show (BT (Nat.beq t t') (eqL cs cs' c alt) alt).holds post from h) with ⟨h1, k⟩ | h
     · rcases ES k with ⟨h2, k⟩ | h
       · have h1 := Nat.eq_of_beq_eq_true h1
         subst h1
         exact .inl ⟨fun C w i ⟨b, e1, e2, vs, e3, e4⟩ => ⟨b, e1, e2, vs, e3, h2 C w vs e4⟩, k⟩
       · exact .inr h
     · exact .inr h
   | _ => exact .inr h
 | vec t z n tr ex =>
   cases b with
   | vec t' z' n' tr' ex' =>
     rcases iF (show (BT (aV (Nat.beq t t') (aV (Nat.beq z z') (vcL n n' ex ex'))) (eqT tr tr' c alt) alt).holds post from h) with ⟨h1, k⟩ | h
     · obtain ⟨h1, h2⟩ := bf h1
       obtain ⟨h2, h3⟩ := bf h2
       have h1 := Nat.eq_of_beq_eq_true h1
       have h2 := Nat.eq_of_beq_eq_true h2
       obtain ⟨h3, h4⟩ := Vb h3
       subst h1 h2
       rcases EK k with ⟨h5, k⟩ | h
       · exact .inl ⟨fun C w i ⟨b, m, e1, e2, e3, e4, cur, e5, e6, e7⟩ => ⟨b, m, e1, e2, Nat.le_trans h3 e3, fun hx => by rw [(h4 hx).2]; exact e4 (h4 hx).1, cur, e5, e6, fun k hk => by
          obtain ⟨u, q1, q2, q3⟩ := e7 k (Nat.lt_of_lt_of_le hk (Nat.mul_le_mul_right _ h3))
          exact ⟨u, q1, q2, h5 k C w u q3⟩⟩, k⟩
       · exact .inr h
     · exact .inr h
   | _ => exact .inr h
 | row t z n f => obtain ⟨h1, h2⟩ := h; subst h1; exact .inl ⟨fun _ _ _ h => h, h2⟩
 | frz d => obtain ⟨h1, h2⟩ := h; subst h1; exact .inl ⟨fun _ _ _ h => h, h2⟩
 | mp k v l => obtain ⟨h1, h2⟩ := h; subst h1; exact .inl ⟨fun _ _ _ h => h, h2⟩
 | it m n s => obtain ⟨h1, h2⟩ := h; subst h1; exact .inl ⟨fun _ _ _ h => h, h2⟩
 | itx m n c' => obtain ⟨h1, h2⟩ := h; subst h1; exact .inl ⟨fun _ _ _ h => h, h2⟩
def Ud (a : Ob) (o : Option Ob) (c alt : T α) : T α := @Option.rec Ob (fun _ => T α) alt (fun b => eqO a b c alt) o
theorem Oj {a : Ob} {o : Option Ob} {c alt : T α} {post : α -> Prop} (h : (Ud a o c alt).holds post) : ((∃ b, o = some b /\ Uc a b) /\ c.holds post) ∨ alt.holds post := by
 cases o with
 | none => exact .inr h
 | some b =>
   rcases QL (show (eqO a b c alt).holds post from h) with ⟨h1, h⟩ | h
   · exact .inl ⟨⟨b, rfl, h1⟩, h⟩
   · exact .inr h
def RU (r : Nat -> Nat) (g : Nat -> Option Ob) (l : List (Option Ob)) : Nat -> Q2 α := @List.rec (Option Ob) (fun _ => Nat -> Q2 α) (fun _ c _ => c) (fun o _ ih i c alt => @Option.rec Ob (fun _ => T α) (ih (Nat.succ i) c alt) (fun b => Ud (rnO r b) (g (r i)) (ih (Nat.succ i) c alt) alt) o) l
theorem uw {r : Nat -> Nat} {g : Nat -> Option Ob} {c alt : T α} {post : α -> Prop} : ∀ {l : List (Option Ob)} {i : Nat}, (RU r g l i c alt).holds post -> ((∀ j b, l[j]? = some (some b) -> ∃ o, g (r (i + j)) = some o /\ Uc (rnO r b) o) /\ c.holds post) ∨ alt.holds post
 | [], _, h => .inl ⟨fun j b hj => by simp at hj, h⟩
 | none :: l, i, h => by
   rcases uw (l := l) (i := i + 1) h with ⟨h1, h⟩ | h
   · refine .inl ⟨fun j b hj => ?_, h⟩
     cases j with
     | zero => simp at hj
     | succ j => rw [show i + (j + 1) = i + 1 + j by omega]; exact h1 j b (by simpa using hj)
   · exact .inr h
 | some x :: l, i, h => by
   rcases Oj (show (Ud (rnO r x) (g (r i)) (RU r g l (Nat.succ i) c alt) alt).holds post from h) with ⟨h0, h⟩ | h
   · rcases uw (l := l) (i := i + 1) h with ⟨h1, h⟩ | h
     · refine .inl ⟨fun j b hj => ?_, h⟩
       cases j with
       | zero => simp at hj; subst hj; exact h0
       | succ j => rw [show i + (j + 1) = i + 1 + j by omega]; exact h1 j b (by simpa using hj)
     · exact .inr h
   · exact .inr h
end
end
end Rx
set_option linter.unusedSectionVars false
set_option linter.unusedSimpArgs false
set_option linter.unusedVariables false
namespace Rx
open Go
variable [Glob]
noncomputable section
structure TE where
 m : Nat
 al : List SV
 obs : List (Option Ob)
 r : SV
 out : List (Option Ob)
def TE.M (e : TE) : Nat := Nat.add e.m e.out.length
def TE.ok (e : TE) : Bool := aV (bdL e.m e.al) (aV (TR e.m e.obs) (aV (Nat.ble e.obs.length e.m) (aV (bdS e.M e.r) (TR e.M e.out))))
def aH (P : Program) (f : FuncId) (e : TE) : Prop := e.ok = true /\
 ∀ (C : Ctx) (w : World) (vs : List Value), WF C w -> (∀ i ob, e.obs[i]? = some (some ob) -> obHolds C w i ob) -> (∀ i, e.m <= i -> C.ν i = none) -> relL C w e.al vs ->
   callable P f = true /\ Calls P f vs.toArray w fun x w' => ∃ v C' τ, x = .returned v /\ Step (fun i => e.m <= i) C w C' w' /\ WF C' w' /\ (∀ i, i < e.m -> C'.ν i = C.ν i) /\
    (∀ i, i < e.m -> τ i = i) /\ (∀ i, e.m <= i -> i < e.M -> e.m <= τ i) /\ (∀ i j, e.m <= i -> i < e.M -> e.m <= j -> j < e.M -> τ i = τ j -> i = j) /\
    rel C' w' (rnS τ e.r) v /\ ∀ t ob, e.out[t]? = some (some ob) -> obHolds C' w' (τ (e.m + t)) (rnO τ ob)
def xM (m : Nat) (ids : List Nat) (new i : Nat) : Nat := @Bool.rec (fun _ => Nat) (Nat.add new (Nat.sub i m)) (jd ids i) (Nat.blt i m)
def Bc (r : Nat -> Nat) (l : List (Option Ob)) : Nat -> List (Nat × Option Ob) := @List.rec (Option Ob) (fun _ => Nat -> List (Nat × Option Ob)) (fun _ => []) (fun o _ ih n => (n, @Option.rec Ob (fun _ => Option Ob) none (fun b => some (rnO r b)) o) :: ih (Nat.succ n)) l
def Bf (l : List SV) : List SV := @List.rec SV (fun _ => List SV) [] (fun s _ ih => nKS s :: ih) l
def resE (e : TE) (ids : List Nat) (new : Nat) : Res := ⟨rnS (xM e.m ids new) e.r, ⟨Bc (xM e.m ids new) e.out new, upto new e.out.length⟩⟩
def sO (e : TE) (al : List SV) (g : Nat -> Option Ob) (new : Nat) (alt : T Res) : T Res :=
 R9 (JW g e.obs (nat_lit 0) (asL e.al al [])) fun ids =>
    BT (Nat.beq ids.length e.m) (eqL (rnL (xM e.m ids new) e.al) al (RU (xM e.m ids new) g e.obs (nat_lit 0) (.ret (resE e ids new)) alt) alt) alt
def Gh (es : List (Nat × TE)) (al : List SV) (g : Nat -> Option Ob) (new : Nat) (alt : T Res) : T Res :=
 @List.rec (Nat × TE) (fun _ => T Res) alt (fun x _ ih => BT (Nat.beq x.1 new) (sO x.2 al g new ih) ih) es
def Qj (es : List (Nat × TE)) : Summ := ⟨false, fun _ _ _ => [], fun al g new _ => Gh es (Bf al) g new .fail⟩
theorem iM {C : Ctx} {w : World} : ∀ {al : List SV} {vs : List Value}, relL C w al vs -> relL C w (Bf al) vs
 | [], _, h => h
 | s :: l, _, ⟨v, r, e, h1, h2⟩ => ⟨v, r, e, by rw [vR]; exact yL h1, iM h2⟩
theorem CJ {r : Nat -> Nat} : ∀ {l : List (Option Ob)} {n i : Nat} {x : Option Ob}, (Bc r l n).lookup i = some x -> ∃ t o, i = n + t /\ l[t]? = some o /\ x = o.map (rnO r)
 | [], _, _, _, h => by cases h
 | o :: l, n, i, x, h => by
   have h : List.lookup i ((n, @Option.rec Ob (fun _ => Option Ob) none (fun b => some (rnO r b)) o) :: Bc r l (n + 1)) = some x := h
   rw [List.lookup_cons] at h
   by_cases e : i = n
   · subst e
     simp at h
     refine ⟨0, o, rfl, rfl, ?_⟩
     rw [← h]
     cases o <;> rfl
   · have : (i == n) = false := by simpa using e
     rw [this] at h
     obtain ⟨t, o', h1, h2, h3⟩ := CJ (l := l) (n := n + 1) h
     exact ⟨t + 1, o', by omega, by simpa using h2, h3⟩
theorem Mv {r : Nat -> Nat} : ∀ {l : List (Option Ob)} {n i : Nat}, i ∈ (Bc r l n).map (·.1) ↔ n <= i /\ i < n + l.length
 | [], n, i => by
   have : Bc r [] n = [] := rfl
   rw [this]; simp
 | o :: l, n, i => by
   have e : (Bc r (o :: l) n).map (·.1) = n :: (Bc r l (n + 1)).map (·.1) := rfl
   rw [e, List.mem_cons, Mv (l := l)]
   simp only [List.length_cons]
   omega
theorem EI {m : Nat} {ids : List Nat} {new i : Nat} (h : i < m) : xM m ids new i = jd ids i := by
 unfold xM
 have : Nat.blt i m = true := by rw [Nat.blt_eq]; exact h
 rw [this]
theorem R3 {m : Nat} {ids : List Nat} {new i : Nat} (h : m <= i) : xM m ids new i = new + (i - m) := by
 unfold xM
 have : Nat.blt i m = false := by
  cases hb : Nat.blt i m with
  | false => rfl
  | true => rw [Nat.blt_eq] at hb; omega
 rw [this]
 rfl
def uG (C : Ctx) (m : Nat) (ids : List Nat) : Ctx :=
 ⟨fun i => if i < m then C.ν (jd ids i) else none, fun i => if i < m then C.ρ (jd ids i) else none, fun b => C.W0 b ∨ ∃ j, C.ρ j = some b /\ ∀ i, i < m -> jd ids i ≠ j⟩
theorem Ej : ∀ (k n i : Nat), n <= i -> i < n + k -> i ∈ upto n k
 | 0, n, i, h1, h2 => by omega
 | k + 1, n, i, h1, h2 => by
   simp only [upto, List.mem_cons]
   by_cases h : i = n
   · exact .inl h
   · exact .inr (Ej k (n + 1) i (by omega) (by omega))
theorem gN {P : Program} {f : FuncId} {e : TE} (he : aH P f e) {C : Ctx} {w : World} {g : Nat -> Option Ob} {al : List SV} {vs : List Value} {new : Nat} {alt : T Res} {post : Res -> Prop} (hw : WF C w) (hg : ObsOk C w g)
  (hnew : ∀ r, post r -> ∀ i ∈ r.eff.new, C.ν i = none) (hr : relL C w al vs) (h : (sO e al g new alt).holds post) :
  (callable P f = true /\ Calls P f vs.toArray w fun x w' => ∃ v C' r, x = .returned v /\ post r /\ Came C w r C' w' v) ∨ alt.holds post := by
 obtain ⟨hok, he⟩ := he
 obtain ⟨b1, hok⟩ := bf hok
 obtain ⟨b2, hok⟩ := bf hok
 obtain ⟨b3, hok⟩ := bf hok
 obtain ⟨b4, b5⟩ := bf hok
 unfold sO at h
 rw [Es] at h
 have hnd : (JW g e.obs 0 (asL e.al al [])).Nodup := DW _ _ _ (J2 _ _ _ List.nodup_nil)
 generalize JW g e.obs 0 (asL e.al al []) = ids at h hnd
 rcases Or.symm (iF h) with h | ⟨hlen, h⟩
 · exact .inr h
 have hlen := Nat.eq_of_beq_eq_true hlen
 rcases Or.symm (ES h) with h | ⟨hal, h⟩
 · exact .inr h
 rcases Or.symm (uw h) with h | ⟨hobs, h⟩
 · exact .inr h
 refine .inl ?_
 have h : post (resE e ids new) := h
 have hnew := hnew _ h
 have hnew : ∀ i, new <= i -> i < new + e.out.length -> C.ν i = none := fun i h1 h2 => hnew i (Ej _ _ _ h1 h2)
 have hρinj : ∀ i j, i < e.m -> j < e.m -> jd ids i = jd ids j -> i = j := fun i j hi hj hij => Hg hnd (by omega) (by omega) hij
 have hW : ∀ b, (uG C e.m ids).W b ↔ C.W b := by
  intro b
  constructor
  · rintro ((hb | ⟨j, hj, _⟩) | ⟨i, hi⟩)
    · exact .inl hb
    · exact .inr ⟨j, hj⟩
    · have hi : (if i < e.m then C.ρ (jd ids i) else none) = some b := hi
      split at hi
      · exact .inr ⟨_, hi⟩
      · cases hi
  · rintro (hb | ⟨j, hj⟩)
    · exact .inl (.inl hb)
    · by_cases hex : ∃ i, i < e.m /\ jd ids i = j
      · obtain ⟨i, hi, rfl⟩ := hex
        exact .inr ⟨i, by show (if i < e.m then C.ρ (jd ids i) else none) = some b; rw [if_pos hi]; exact hj⟩
      · exact .inl (.inr ⟨j, hj, fun i hi hij => hex ⟨i, hi, hij⟩⟩)
 have hC0ν : ∀ i, i < e.m -> (uG C e.m ids).ν i = C.ν (jd ids i) := fun i hi => if_pos hi
 have hC0ρ : ∀ i, i < e.m -> (uG C e.m ids).ρ i = C.ρ (jd ids i) := fun i hi => if_pos hi
 have hC0ν' : ∀ i, e.m <= i -> (uG C e.m ids).ν i = none := fun i hi => if_neg (by omega)
 have hC0ρ' : ∀ i, e.m <= i -> (uG C e.m ids).ρ i = none := fun i hi => if_neg (by omega)
 have hC0W0 : ∀ b, (uG C e.m ids).W0 b ↔ (C.W0 b ∨ ∃ j, C.ρ j = some b /\ ∀ i, i < e.m -> jd ids i ≠ j) := fun b => Iff.rfl
 have hwf0 : WF (uG C e.m ids) w := by
  refine ⟨fun i b hi => ?_, fun i j b hi hj => ?_, fun b hb => ?_, fun i b hi => ?_, fun i b hi hb => ?_, bL (fun b hb => (hW b).1 hb) hw.gl⟩
  · by_cases h1 : i < e.m
    · rw [hC0ρ i h1] at hi; exact hw.lt _ _ hi
    · rw [hC0ρ' i (by omega)] at hi; cases hi
  · by_cases h1 : i < e.m
    · by_cases h2 : j < e.m
      · rw [hC0ρ i h1] at hi; rw [hC0ρ j h2] at hj
        exact hρinj i j h1 h2 (hw.inj _ _ b hi hj)
      · rw [hC0ρ' j (by omega)] at hj; cases hj
    · rw [hC0ρ' i (by omega)] at hi; cases hi
  · rcases hb with hb | ⟨j, hj, _⟩
    · exact hw.w0 b hb
    · exact hw.lt j b hj
  · by_cases h1 : i < e.m
    · rw [hC0ρ i h1] at hi
      rw [hC0ν i h1]
      exact hw.own _ b hi
    · rw [hC0ρ' i (by omega)] at hi; cases hi
  · by_cases h1 : i < e.m
    · rw [hC0ρ i h1] at hi
      rcases hb with hb | ⟨j, hj, hn⟩
      · exact hw.dis _ b hi hb
      · exact hn i h1 (hw.inj _ _ b hi hj)
    · rw [hC0ρ' i (by omega)] at hi; cases hi
 have hν0 : ∀ i u, i < e.m -> C.ν (xM e.m ids new i) = some u -> (uG C e.m ids).ν (id i) = some u := fun i u hi hu => by
  rw [EI hi] at hu
  show (uG C e.m ids).ν i = _
  rw [hC0ν i hi]; exact hu
 have hobs0 : ∀ i ob, e.obs[i]? = some (some ob) -> obHolds (uG C e.m ids) w i ob := by
  intro i ob hi
  have hil : i < e.m := by
   have := (List.getElem?_eq_some_iff.1 hi).1
   have := Nat.le_of_ble_eq_true b3
   omega
  obtain ⟨o, ho, hio⟩ := hobs i ob hi
  rw [Nat.zero_add] at ho
  have h1 := hio _ _ _ (hg _ _ ho)
  have := Tv (C1 := C) (C2 := uG C e.m ids) (τ := xM e.m ids new) (ρ := id) (fun b hb => (hW b).1 hb) hν0 (i1 := xM e.m ids new i) (i2 := i) (fun u hu => hν0 i u hil hu) (fun b hb => by rw [hC0ρ i hil, ← EI (ids := ids) (new := new) hil]; exact hb) (Ac b2 hi) h1
  rwa [Vj] at this
 have hrel0 : relL (uG C e.m ids) w e.al vs := by
  have hr := hal _ _ _ hr
  have := DY (C2 := uG C e.m ids) (ρ := id) (fun b hb => (hW b).1 hb) hν0 e.al vs b1 hr
  rwa [Ji] at this
 obtain ⟨hc, hcalls⟩ := he _ w vs hwf0 hobs0 hC0ν' hrel0
 refine ⟨hc, hcalls.mono ?_⟩
 rintro x w' ⟨v, D, τ, rfl, hst, hwf, hkeep, ht1, ht2, ht3, hres, hout⟩
 generalize uG C e.m ids = C0 at *
 have hnb : ∀ j u, C.ν j = some u -> ¬ (new <= j /\ j < new + e.out.length) := fun j u hj hb => by rw [hnew j hb.1 hb.2] at hj; cases hj
 have hnr : ∀ j b, C.ρ j = some b -> ¬ (new <= j /\ j < new + e.out.length) := fun j b hj hb => by
  obtain ⟨u, hu⟩ := hw.own j b hj
  exact hnb j u hu hb
 let C' : Ctx := ⟨fun j => if new <= j /\ j < new + e.out.length then D.ν (τ (e.m + (j - new))) else C.ν j, fun j => if new <= j /\ j < new + e.out.length then D.ρ (τ (e.m + (j - new))) else C.ρ j, C.W0⟩
 have hM : e.M = e.m + e.out.length := rfl
 have hC'n : ∀ t, t < e.out.length -> C'.ν (new + t) = D.ν (τ (e.m + t)) := fun t ht => by
  show (if new <= new + t /\ new + t < new + e.out.length then D.ν (τ (e.m + (new + t - new))) else C.ν (new + t)) = _
  rw [if_pos (by omega), show new + t - new = t by omega]
 have hC'r : ∀ t, t < e.out.length -> C'.ρ (new + t) = D.ρ (τ (e.m + t)) := fun t ht => by
  show (if new <= new + t /\ new + t < new + e.out.length then D.ρ (τ (e.m + (new + t - new))) else C.ρ (new + t)) = _
  rw [if_pos (by omega), show new + t - new = t by omega]
 have hC'o : ∀ j, ¬ (new <= j /\ j < new + e.out.length) -> C'.ν j = C.ν j := fun j hj => if_neg hj
 have hC'p : ∀ j, ¬ (new <= j /\ j < new + e.out.length) -> C'.ρ j = C.ρ j := fun j hj => if_neg hj
 have hkeepρ : ∀ i b, i < e.m -> C0.ρ i = some b -> D.ρ i = some b := fun i b hi hb => hst.keep i b (by omega) hb
 have hDW0 : ∀ b, D.W0 b ↔ C0.W0 b := fun b => by rw [hst.w0]
 have hρD : ∀ j b, C.ρ j = some b -> (∃ i, i < e.m /\ jd ids i = j /\ D.ρ i = some b) ∨ D.W0 b := by
  intro j b hj
  by_cases hex : ∃ i, i < e.m /\ jd ids i = j
  · obtain ⟨i, hi, hij⟩ := hex
    exact .inl ⟨i, hi, hij, hkeepρ i b hi (by rw [hC0ρ i hi, hij]; exact hj)⟩
  · exact .inr ((hDW0 b).2 ((hC0W0 b).2 (.inr ⟨j, hj, fun i hi hij => hex ⟨i, hi, hij⟩⟩)))
 have hC'W : ∀ b, C'.W b -> D.W b := by
  rintro b (hb | ⟨j, hj⟩)
  · exact .inl ((hDW0 b).2 ((hC0W0 b).2 (.inl hb)))
  · by_cases hin : new <= j /\ j < new + e.out.length
    · have : C'.ρ j = D.ρ (τ (e.m + (j - new))) := if_pos hin
      rw [this] at hj
      exact .inr ⟨_, hj⟩
    · rw [hC'p j hin] at hj
      rcases hρD j b hj with ⟨i, _, _, h1⟩ | h1
      · exact .inr ⟨i, h1⟩
      · exact .inl h1
 have hν' : ∀ i u, i < e.M -> D.ν (τ i) = some u -> C'.ν (xM e.m ids new i) = some u := by
  intro i u hi hu
  by_cases h1 : i < e.m
  · rw [ht1 i h1, hkeep i h1, hC0ν i h1] at hu
    rw [EI h1, hC'o _ (hnb _ u hu)]
    exact hu
  · rw [R3 (by omega), hC'n (i - e.m) (by omega), show e.m + (i - e.m) = i by omega]
    exact hu
 have hsz := hst.ag.size
 refine ⟨v, C', resE e ids new, rfl, h, ⟨Fq hC'W hν' e.r v b4 hres, ?_, ?_, fun i hi => ?_, fun i ob hi => ?_⟩⟩
 ·
  refine ⟨fun i u hi => by rw [hC'o i (hnb i u hi)]; exact hi, rfl, fun j b hj => ?_, fun i b hi hb => by rw [hC'p i (hnr i b hb)]; exact hb, hst.ag.mono fun k _ ⟨i, hi, hib⟩ => by rw [hC0ρ' i hi] at hib; cases hib⟩
  by_cases hin : new <= j /\ j < new + e.out.length
  · have h1 : C'.ρ j = D.ρ (τ (e.m + (j - new))) := if_pos hin
    rw [h1] at hj
    rcases hst.own _ b hj with ⟨i, hi⟩ | h2
    · by_cases h3 : i < e.m
      · rw [hC0ρ i h3] at hi; exact .inl ⟨_, hi⟩
      · rw [hC0ρ' i (by omega)] at hi; cases hi
    · exact .inr h2
  · rw [hC'p j hin] at hj
    exact .inl ⟨j, hj⟩
 ·
  refine ⟨fun i b hi => ?_, fun i j b hi hj => ?_, fun b hb => Nat.lt_of_lt_of_le (hw.w0 b hb) hsz, fun i b hi => ?_, fun i b hi hb => ?_, bL hC'W hwf.gl⟩
  · by_cases hin : new <= i /\ i < new + e.out.length
    · have h1 : C'.ρ i = D.ρ (τ (e.m + (i - new))) := if_pos hin
      rw [h1] at hi; exact hwf.lt _ b hi
    · rw [hC'p i hin] at hi; exact Nat.lt_of_lt_of_le (hw.lt i b hi) hsz
  ·
   have cross : ∀ i j b, new <= i /\ i < new + e.out.length -> ¬ (new <= j /\ j < new + e.out.length) -> C'.ρ i = some b -> C'.ρ j = some b -> False := by
    intro i j b hin hjn hi hj
    have h1 : C'.ρ i = D.ρ (τ (e.m + (i - new))) := if_pos hin
    rw [h1] at hi
    rw [hC'p j hjn] at hj
    rcases hρD j b hj with ⟨k, hk, _, h2⟩ | h2
    · have := hwf.inj _ _ b hi h2
      have := ht2 (e.m + (i - new)) (by omega) (by omega)
      omega
    · exact hwf.dis _ b hi h2
   by_cases hin : new <= i /\ i < new + e.out.length
   · by_cases hjn : new <= j /\ j < new + e.out.length
     · have h1 : C'.ρ i = D.ρ (τ (e.m + (i - new))) := if_pos hin
       have h2 : C'.ρ j = D.ρ (τ (e.m + (j - new))) := if_pos hjn
       rw [h1] at hi; rw [h2] at hj
       have := ht3 _ _ (by omega) (by omega) (by omega) (by omega) (hwf.inj _ _ b hi hj)
       omega
     · exact (cross i j b hin hjn hi hj).elim
   · by_cases hjn : new <= j /\ j < new + e.out.length
     · exact (cross j i b hjn hin hj hi).elim
     · rw [hC'p i hin] at hi; rw [hC'p j hjn] at hj
       exact hw.inj i j b hi hj
  · by_cases hin : new <= i /\ i < new + e.out.length
    · have h1 : C'.ρ i = D.ρ (τ (e.m + (i - new))) := if_pos hin
      have h2 : C'.ν i = D.ν (τ (e.m + (i - new))) := if_pos hin
      rw [h1] at hi; rw [h2]; exact hwf.own _ b hi
    · rw [hC'p i hin] at hi; rw [hC'o i hin]; exact hw.own i b hi
  · by_cases hin : new <= i /\ i < new + e.out.length
    · have h1 : C'.ρ i = D.ρ (τ (e.m + (i - new))) := if_pos hin
      rw [h1] at hi
      exact hwf.dis _ b hi ((hDW0 b).2 ((hC0W0 b).2 (.inl hb)))
    · rw [hC'p i hin] at hi; exact hw.dis i b hi hb
 · by_cases hin : new <= i /\ i < new + e.out.length
   · exact .inr (Ej _ _ _ hin.1 hin.2)
   · left; rw [hC'o i hin] at hi; exact hi
 · obtain ⟨t, o, rfl, h1, h2⟩ := CJ hi
   cases o with
   | none => cases h2
   | some o =>
     simp only [Option.map_some, Option.some.injEq] at h2
     subst h2
     have htl : t < e.out.length := (List.getElem?_eq_some_iff.1 h1).1
     exact Tv hC'W hν' (fun u hu => by rw [hC'n t htl]; exact hu) (fun b hb => by rw [hC'r t htl]; exact hb) (Ac b5 h1) (hout t o h1)
theorem xw {P : Program} {f : FuncId} {C : Ctx} {w : World} {g : Nat -> Option Ob} {al : List SV} {vs : List Value} {new : Nat} {alt : T Res} {post : Res -> Prop} (hw : WF C w) (hg : ObsOk C w g)
  (hnew : ∀ r, post r -> ∀ i ∈ r.eff.new, C.ν i = none) (hr : relL C w al vs) : ∀ (es : List (Nat × TE)), (∀ x ∈ es, aH P f x.2) -> (Gh es al g new alt).holds post ->
  (callable P f = true /\ Calls P f vs.toArray w fun x w' => ∃ v C' r, x = .returned v /\ post r /\ Came C w r C' w' v) ∨ alt.holds post
 | [], _, h => .inr h
 | x :: es, he, h => by
   have ih := fun (h : (Gh es al g new alt).holds post) => xw (alt := alt) hw hg hnew hr es (fun y hy => he y (by simp [hy])) h
   rcases iF (show (BT (Nat.beq x.1 new) (sO x.2 al g new (Gh es al g new alt)) (Gh es al g new alt)).holds post from h) with ⟨_, h⟩ | h
   · rcases gN (he x (by simp)) hw hg hnew hr h with h | h
     · exact .inl h
     · exact ih h
   · exact ih h
theorem F9 {P : Program} {f : FuncId} {es : List (Nat × TE)} (he : ∀ x ∈ es, aH P f x.2) : dU P f (Qj es) := by
 intro C w g al vs new post hw hg hnew hr h
 rcases xw hw hg hnew (iM hr) es he h with h | h
 · exact h
 · exact h.elim
def obT (l : List (Option Ob)) : Nat -> OB := @List.rec (Option Ob) (fun _ => Nat -> OB) (fun _ => .nil) (fun o _ ih n => lG (ih (Nat.succ n)) n o) l
theorem KY : ∀ (l : List (Option Ob)) (n i : Nat), n + l.length < 16777215 -> aC (obT l n) i = if n <= i then (l[i - n]?).getD none else none
 | [], n, i, _ => by
   show aC .nil i = _
   simp
   rfl
 | o :: l, n, i, h => by
   simp only [List.length_cons] at h
   show aC (lG (obT l (n + 1)) n o) i = _
   rw [oC i (by omega), KY l (n + 1) i (by omega)]
   by_cases e : i = n
   · subst e; simp
   · rw [if_neg e]
     by_cases h1 : n <= i
     · rw [if_pos (by omega), if_pos h1, show i - n = (i - (n + 1)) + 1 by omega]
       simp
     · rw [if_neg (by omega), if_neg h1]
def Ql (m : Nat) (l : List Nat) : Bool := @List.rec Nat (fun _ => Bool) true (fun x _ ih => aV (Nat.ble m x) ih) l
def JU (e : TE) : KK := fun s ob nb => R9 (JW (aC ob) e.out e.m (asS e.r s (upto (nat_lit 0) e.m))) fun ids =>
 BT (aV (Nat.beq ids.length e.M) (aV (idN e.m ids) (Ql e.m (ids.drop e.m)))) (eqS (rnS (jd ids) e.r) s (RU (jd ids) (aC ob) e.out e.m (.ret (.kb true, ⟨.nil, nat_lit 0⟩)) .fail) .fail) .fail
where
 idN (m : Nat) (ids : List Nat) : Bool := @Nat.rec (fun _ => Bool) true (fun k ih => aV (Nat.beq (jd ids k) k) ih) m
theorem LK {ids : List Nat} : ∀ {m i : Nat}, JU.idN m ids = true -> i < m -> jd ids i = i
 | 0, _, _, h => by omega
 | m + 1, i, h, hi => by
   obtain ⟨h1, h2⟩ := bf (show aV (Nat.beq (jd ids m) m) (JU.idN m ids) = true from h)
   by_cases e : i = m
   · subst e; exact Nat.eq_of_beq_eq_true h1
   · exact LK h2 (by omega)
theorem Dh {m : Nat} : ∀ {l : List Nat} {x : Nat}, Ql m l = true -> x ∈ l -> m <= x
 | y :: l, x, h, hx => by
   obtain ⟨h1, h2⟩ := bf (show aV (Nat.ble m y) (Ql m l) = true from h)
   rcases List.mem_cons.1 hx with rfl | hx
   · exact Nat.le_of_ble_eq_true h1
   · exact Dh h2 hx
theorem LP : ∀ (n k : Nat), (upto n k).Nodup
 | _, 0 => List.nodup_nil
 | n, k + 1 => by
   simp only [upto, List.nodup_cons]
   exact ⟨fun h => by have := sU h; omega, LP (n + 1) k⟩
theorem wY {D : Deps} (hD : D.Ok) {n top : Nat} {f : FuncId} {e : TE} (hok : e.ok = true) (hm : Nat.ble e.m top = true) (ht : Nat.ble top 16000000 = true)
  (h : (Ab D.P D.F D.fl D.win D.fuel n top e.m f e.al (obT e.obs 0) e.m (JU e)).holds fun y => y.1 = .kb true) : aH D.P f e := by
 have hm := Nat.le_of_ble_eq_true hm
 have ht := Nat.le_of_ble_eq_true ht
 obtain ⟨b1, hok'⟩ := bf hok
 obtain ⟨b2, hok'⟩ := bf hok'
 obtain ⟨b3, hok'⟩ := bf hok'
 have b3 := Nat.le_of_ble_eq_true b3
 refine ⟨hok, fun C w vs hw hobs hnone hrel => ?_⟩
 have hget : ∀ i, aC (obT e.obs 0) i = (e.obs[i]?).getD none := fun i => by
  rw [KY e.obs 0 i (by omega), if_pos (Nat.zero_le _), Nat.sub_zero]
 have hF : FOk (obT e.obs 0) e.m := fun i hi => by
  rw [hget, List.getElem?_eq_none (by omega)]; rfl
 have h1 := og hD n top e.m f e.al (obT e.obs 0) e.m (JU e) (fun y => y.1 = .kb true) hF ⟨hm, by omega⟩ h
 have hk : HOk top ⟨aC (obT e.obs 0), e.m⟩ C w := ⟨hw, fun i ob hi => by
  have hi : aC (obT e.obs 0) i = some ob := hi
  rw [hget] at hi
  cases hx : e.obs[i]? with
  | none => rw [hx] at hi; cases hi
  | some o =>
    rw [hx] at hi
    have hi : o = some ob := hi
    subst hi
    exact hobs i ob hx, fun i hi _ => hnone i hi⟩
 obtain ⟨hc, h2⟩ := (kZ hD n top e.m f e.al ⟨aC (obT e.obs 0), e.m⟩).1 C w vs _ hk hrel h1
 refine ⟨hc, h2.mono ?_⟩
 rintro x w' ⟨v, C', y, rfl, ⟨ob', hob', hy⟩, hst, hk', hv, hfr⟩
 unfold JU at hy
 rw [Es] at hy
 have hnd : (JW (aC ob') e.out e.m (asS e.r y.1 (upto 0 e.m))).Nodup := DW _ _ _ (D6 _ _ _ (LP _ _))
 generalize JW (aC ob') e.out e.m (asS e.r y.1 (upto 0 e.m)) = ids at hy hnd
 obtain ⟨g1, hy⟩ := WE hy
 obtain ⟨g1, g2⟩ := bf g1
 obtain ⟨g2, g3⟩ := bf g2
 have g1 := Nat.eq_of_beq_eq_true g1
 have hM : e.M = e.m + e.out.length := rfl
 rcases Or.symm (xU hy) with hy | ⟨q1, hy⟩
 · exact hy.elim
 rcases Or.symm (uw hy) with hy | ⟨q2, hy⟩
 · exact hy.elim
 refine ⟨v, C', jd ids, rfl, hst.mono fun i hi => hi.1, hk'.wf, fun i hi => hfr i (.inl hi), fun i hi => LK g2 hi, fun i h3 h4 => ?_, fun i j h3 h4 h5 h6 h7 => Hg hnd (by omega) (by omega) h7, q1 _ _ _ hv, fun t ob ht' => ?_⟩
 · refine Dh g3 ?_
   rw [sN (List.getElem?_eq_getElem (by omega : i < ids.length))]
   have : (ids.drop e.m)[i - e.m]? = some ids[i] := by
    rw [List.getElem?_drop, show e.m + (i - e.m) = i by omega]
    exact List.getElem?_eq_getElem (by omega)
   exact List.mem_of_getElem? this
 · obtain ⟨o, ho, hio⟩ := q2 t ob ht'
   rw [← hob'] at ho
   exact hio _ _ _ (hk'.ob _ _ ho)
end
end Rx
