/- Rx, part T: small laws for what the trees come to. -/
import Derived.Test.YtnalaogenpicfaaDoorRxS
set_option linter.unusedSectionVars false
set_option linter.unusedSimpArgs false
set_option linter.unusedVariables false
namespace Rx
open Go
variable [Glob]

theorem leS_self (s : SV) : leS s s ↔ True := iff_true_intro (leS_refl s)
theorem leL_self (l : List SV) : leL l l ↔ True := iff_true_intro (leL_refl l)
theorem leDt_self (d : Dt) : leDt d d ↔ True := iff_true_intro (leDt_refl d)
theorem leOb_self (o : Ob) : leOb o o ↔ True := iff_true_intro (leOb_refl o)
theorem leOO_self (l : List (Option Ob)) : leOO l l ↔ True := iff_true_intro (leOO_refl l)
theorem leObL_refl : ∀ l : List Ob, leObL l l
  | [] => by simp only [leObL]
  | o :: l => by simp only [leObL]; exact ⟨leOb_refl o, leObL_refl l⟩
theorem leObL_self (l : List Ob) : leObL l l ↔ True := iff_true_intro (leObL_refl l)

theorem leL_cons (s s' : SV) (l l' : List SV) : leL (s :: l) (s' :: l') ↔ leS s s' ∧ leL l l' := by simp only [leL]
theorem leL_nil : leL [] [] ↔ True := by simp only [leL]
theorem leObL_cons (s s' : Ob) (l l' : List Ob) : leObL (s :: l) (s' :: l') ↔ leOb s s' ∧ leObL l l' := by simp only [leObL]
theorem leObL_nil : leObL [] [] ↔ True := by simp only [leObL]
theorem leOO_cons (s s' : Ob) (l l' : List (Option Ob)) : leOO (some s :: l) (some s' :: l') ↔ leOb s s' ∧ leOO l l' := by simp only [leOO]
theorem leOO_none (s : Option Ob) (l l' : List (Option Ob)) : leOO (s :: l) (none :: l') ↔ leOO l l' := by simp only [leOO, true_and]
theorem leOO_nil : leOO [] [] ↔ True := by simp only [leOO]
theorem leS_junk (s : SV) : leS s .junk ↔ True := by cases s <;> simp only [leS]
theorem leS_dt (d d' : Dt) : leS (.dt d) (.dt d') ↔ leDt d d' := by simp only [leS]
theorem leS_agg (l l' : List SV) : leS (.agg l) (.agg l') ↔ leL l l' := by simp only [leS]
theorem leS_tup (l l' : List SV) : leS (.tup l) (.tup l') ↔ leL l l' := by simp only [leS]
theorem leS_ptr (i o i' o' : Nat) : leS (.ptr i o) (.ptr i' o') ↔ i = i' ∧ o = o' := by simp only [leS]
theorem leS_nm (i i' : Nat) : leS (.nm i) (.nm i') ↔ i = i' := by simp only [leS]
theorem leS_kb (b b' : Bool) : leS (.kb b) (.kb b') ↔ b = b' := by simp only [leS]
theorem leS_kd (b b' : Bool) : leS (.kb b) (.dt (.cell (.bool b'))) ↔ b' = b := by
  simp only [leS, leDt]
  exact ⟨fun h => by injection h, fun h => by rw [h]⟩
theorem leS_dk (b b' : Bool) : leS (.dt (.cell (.bool b))) (.kb b') ↔ b' = b := by
  simp only [leS]
  exact ⟨fun h => by injection h with h; injection h with h; exact h.symm, fun h => by rw [h]⟩
theorem leS_ki (k : IntKind) (n n' : Int) : leS (.ki k n) (.dt (.cell (.int k n'))) ↔ n' = n := by
  simp only [leS, leDt]
  exact ⟨fun h => by injection h, fun h => by rw [h]⟩
theorem leS_dki (k : IntKind) (n n' : Int) : leS (.dt (.cell (.int k n))) (.ki k n') ↔ n' = n := by
  simp only [leS]
  exact ⟨fun h => by injection h with h; injection h with _ h; exact h.symm, fun h => by rw [h]⟩
theorem leS_kk (k : IntKind) (n n' : Int) : leS (.ki k n) (.ki k n') ↔ n = n' := by simp only [leS, true_and]
theorem leS_cell (v v' : Value) : leS (.dt (.cell v)) (.dt (.cell v')) ↔ v' = v := by simp only [leS, leDt]
theorem leS_int (k : IntKind) (n n' : Int) : leS (.dt (.cell (.int k n))) (.dt (.cell (.int k n'))) ↔ n' = n := by
  rw [leS_cell]
  exact ⟨fun h => by injection h, fun h => by rw [h]⟩
theorem leS_bool (n n' : Bool) : leS (.dt (.cell (.bool n))) (.dt (.cell (.bool n'))) ↔ n' = n := by
  rw [leS_cell]
  exact ⟨fun h => by injection h, fun h => by rw [h]⟩
theorem leS_str (n n' : ByteArray) : leS (.dt (.cell (.string n))) (.dt (.cell (.string n'))) ↔ n' = n := by
  rw [leS_cell]
  exact ⟨fun h => by injection h, fun h => by rw [h]⟩
theorem leDt_arr (sz n sz' n' : Nat) (f f' : Nat → Nat → Dt) : leDt (.arr sz n f) (.arr sz' n' f') ↔ n' = n ∧ (n = 0 ∨ (sz' = sz ∧ ∀ k, k < n → ∀ j, j < sz → leDt (f k j) (f' k j))) := by
  conv => lhs; unfold leDt
theorem leOb_cells (t t' : TypeId) (l l' : List SV) : leOb (.cells t l) (.cells t' l') ↔ t' = t ∧ leL l l' := Iff.rfl
theorem leOb_mp (kt vt : Ty) (l l' : List (kt.den × vt.den)) : leOb (.mp kt vt l) (.mp kt vt l') ↔ l' = l := by
  constructor
  · intro h
    have h : Ob.mp kt vt l' = Ob.mp kt vt l := h
    injection h with _ _ h
  · rintro rfl; exact leOb_refl _
theorem leOb_row (t t' : TypeId) (sz n sz' n' : Nat) (f f' : Nat → Nat → Dt) : leOb (.row t sz n f) (.row t' sz' n' f') ↔ t' = t ∧ sz' = sz ∧ n' = n ∧ ∀ k, k < n → ∀ j, j < sz → leDt (f k j) (f' k j) := Iff.rfl

theorem gives1 {post : Out → Prop} {s s' : SV} {o : List (Option Ob)} (hp : post (s', o)) (hs : leS s s') : Gives post s o := ⟨_, hp, hs, leOO_refl _⟩
theorem gives2 {post : Out → Prop} {s s' : SV} {o o' : List (Option Ob)} (hp : post (s', o')) (hs : leS s s') (ho : leOO o o') : Gives post s o := ⟨_, hp, hs, ho⟩

theorem str_eq_nil (s : ByteArray) : (s.data.toList == (ByteArray.mk #[]).data.toList) = decide (s.size = 0) := by
  have h : s.data.toList.length = s.size := rfl
  cases hl : s.data.toList with
  | nil => rw [hl] at h; simp at h; simp [← h]
  | cons x l => rw [hl] at h; simp at h; simp [← h]

theorem str_eq_nil' (s : ByteArray) : (s.data.toList == []) = decide (s.size = 0) := str_eq_nil s

theorem str_beq_nil (s : ByteArray) : (s == ByteArray.mk #[]) = decide (s.size = 0) := by
  rw [← str_eq_nil]
  have := MapKept.bytes_beq s (ByteArray.mk #[])
  cases h : (s == ByteArray.mk #[]) with
  | true => rw [this.1 h]; rfl
  | false =>
    cases h2 : (s.data.toList == (ByteArray.mk #[]).data.toList) with
    | false => rfl
    | true =>
      rw [str_eq_nil, decide_eq_true_eq] at h2
      rw [this.2 (by exact ByteArray.ext (Array.eq_empty_of_size_eq_zero h2))] at h
      cases h

theorem str_nil (s : ByteArray) : s.size = 0 ↔ s = ByteArray.mk #[] := by
  constructor
  · intro h; exact ByteArray.ext (Array.eq_empty_of_size_eq_zero h)
  · rintro rfl; rfl
end Rx
