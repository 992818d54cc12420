/- What a collection comes to, as plain lists: which things are kept, in which order, and how their words turn. -/
import Derived.Test.YtfpnadmpmfcaaaaHpK
open Rx Go
namespace Go.Proofs.Ytfpnadmpmfcaaaa

def sz (l : List Wd) (k : Nat) : Nat := (spSize l k).toNat
def fr (l : List Wd) (k : Nat) : Nat := (spFrom l k).toNat
def blkAt (l : List Wd) (k : Nat) : List Wd := cutW l k (spSize l k)
/-- the things ks, one behind the other, as they were -/
def rawTo (l : List Wd) (ks : List Nat) : List Wd := (ks.map (blkAt l)).flatten
def valB (l : List Wd) (k : Nat) : List Bool := (List.range (sz l k)).map fun t => decide (fr l k ≤ t)
/-- which of their words are values -/
def valTo (l : List Wd) (ks : List Nat) : List Bool := (ks.map (valB l)).flatten
/-- where they are now -/
def mpF (l : List Wd) : List Nat → Nat → List (Int × Int)
  | [], _ => []
  | k :: ks, o => ((k : Int), (o : Int)) :: mpF l ks (o + sz l k)
def imgW (l : List Wd) (ks : List Nat) (w : Wd) : Wd := if (findS l w).k = 5 then ⟨(findS l w).k, (mvGet (mpF l ks 0) (findS l w).n).getD 0, (findS l w).s⟩ else findS l w
def rawAt (l : List Wd) (ks : List Nat) (q : Nat) : Wd := (rawTo l ks).getD q default
def valAt (l : List Wd) (ks : List Nat) (q : Nat) : Bool := (valTo l ks).getD q false
/-- the words as they are when those below p were turned -/
def cook (l : List Wd) (ks : List Nat) (p : Nat) : List Wd := (List.range (rawTo l ks).length).map fun q => if q < p ∧ valAt l ks q = true then imgW l ks (rawAt l ks q) else rawAt l ks q
def stM' (l : List Wd) (ks : List Nat) (p : Nat) : Mv := ⟨cook l ks p, mpF l ks 0⟩
def addK (l : List Wd) (ks : List Nat) (w : Wd) : List Nat := if (findS l w).k = 5 ∧ (findS l w).n.toNat ∉ ks then ks ++ [(findS l w).n.toNat] else ks
def known (l : List Wd) (ks : List Nat) (w : Wd) : Prop := (findS l w).k = 5 → (findS l w).n.toNat ∈ ks ∧ 0 ≤ (findS l w).n
def runK (l : List Wd) : Nat → List Nat → Nat → List Nat
  | 0, ks, _ => ks
  | f + 1, ks, p => if p < (rawTo l ks).length then runK l f (if valAt l ks p = true then addK l ks (rawAt l ks p) else ks) (p + 1) else ks
def runS (l : List Wd) (ks : List Nat) (p : Nat) : List Nat := runK l (l.length + 1 - p) ks p
structure KI (l : List Wd) (ks : List Nat) (p : Nat) : Prop where
  nd : ks.Nodup
  mem : ∀ k ∈ ks, k ∈ (startsS l).getD [] ∧ spP l k
  kn : ∀ q, q < p → valAt l ks q = true → known l ks (rawAt l ks q)
  le : p ≤ (rawTo l ks).length

/-! ## a heap that may be -/
section
variable {l : List Wd} {lim : Int}
theorem acc_sp (h : checkB l lim = true) {k : Nat} (hk : k ∈ (startsS l).getD []) (h10 : (at' l k).k ≠ 10) : spP l k := by
  obtain ⟨r, hr⟩ := Option.isSome_iff_exists.1 (checkB_starts h)
  rw [hr] at hk
  rcases stepS_some (startsF_mem _ _ hr k hk).2.2 with h | h
  · exact absurd h h10
  · exact h
theorem find_chain (h : checkB l lim = true) : ∀ (f : Nat) (w : Wd), chainP l f w → (w.k = 5 → w.n.toNat ∈ (startsS l).getD [] ∧ 0 ≤ w.n) →
    (findF l f w).k = w.k ∧ (findF l f w).s = w.s ∧ (w.k ≠ 5 → findF l f w = w) ∧ (w.k = 5 → (findF l f w).n.toNat ∈ (startsS l).getD [] ∧ 0 ≤ (findF l f w).n ∧ (at' l (findF l f w).n).k ≠ 10)
  | 0, w, hc, _ => hc.elim
  | f + 1, w, hc, ha => by
    unfold findF
    by_cases hw : w.k = 5 ∧ (at' l w.n).k = 10
    · rw [if_pos hw]
      obtain ⟨h1, h2⟩ := hc hw.1
      have hc' := h2 hw.2
      obtain ⟨ha1, ha2⟩ := ha hw.1
      obtain ⟨o1, o2⟩ := checkB_okAt h _ ha1
      have e : ((w.n.toNat : Nat) : Int) = w.n := Int.toNat_of_nonneg ha2
      unfold okAt at o1
      rw [e, if_pos hw.2] at o1
      simp only [Bool.and_eq_true, Bool.or_eq_true, beq_iff_eq, decide_eq_true_eq] at o1
      obtain ⟨b, hb, hbn⟩ := (inS_iff _ _).1 o1.1
      obtain ⟨q1, q2, q3, q4⟩ := find_chain h f ⟨w.k, (at' l w.n).n, w.s⟩ hc' (fun _ => by
        show (at' l w.n).n.toNat ∈ _ ∧ 0 ≤ (at' l w.n).n
        rw [← hbn]
        exact ⟨by simpa using hb, by omega⟩)
      exact ⟨q1, q2, fun hn => absurd hw.1 hn, q4⟩
    · rw [if_neg hw]
      refine ⟨rfl, rfl, fun _ => rfl, fun h5 => ⟨(ha h5).1, (ha h5).2, fun h10 => hw ⟨h5, h10⟩⟩⟩
theorem val_acc {w : Wd} (hv : valOk l w = true) : w.k = 5 → w.n.toNat ∈ (startsS l).getD [] ∧ 0 ≤ w.n := by
  intro h5
  unfold valOk wordOk at hv
  simp only [Bool.and_eq_true, Bool.or_eq_true, Bool.not_eq_true', beq_eq_false_iff_ne] at hv
  obtain ⟨b, hb, hbn⟩ := (inS_iff _ _).1 (hv.2.resolve_left fun h => h h5)
  rw [← hbn]
  exact ⟨by simpa using hb, by omega⟩
/-- where a value is now -/
theorem find_ok (h : checkB l lim = true) {w : Wd} (hv : valOk l w = true) : (findS l w).k = w.k ∧ (findS l w).s = w.s ∧ (w.k ≠ 5 → findS l w = w) ∧
    (w.k = 5 → (findS l w).n.toNat ∈ (startsS l).getD [] ∧ 0 ≤ (findS l w).n ∧ spP l (findS l w).n) := by
  obtain ⟨q1, q2, q3, q4⟩ := find_chain h (l.length + 1) w (chain_of h hv) (val_acc hv)
  refine ⟨q1, q2, q3, fun h5 => ?_⟩
  obtain ⟨a1, a2, a3⟩ := q4 h5
  have e : (((findS l w).n.toNat : Nat) : Int) = (findS l w).n := Int.toNat_of_nonneg a2
  refine ⟨a1, a2, ?_⟩
  rw [← e]
  exact acc_sp h a1 (by rw [e]; exact a3)
theorem sp_sz {k : Nat} (h : spP l k) : 2 ≤ sz l k ∧ k + sz l k ≤ l.length ∧ 1 ≤ fr l k ∧ fr l k ≤ sz l k ∧ ((sz l k : Nat) : Int) = spSize l k ∧ ((fr l k : Nat) : Int) = spFrom l k := by
  have := spSize_bounds l k h
  unfold sz fr
  omega
theorem blk_word (h : checkB l lim = true) {k : Nat} (hk : k ∈ (startsS l).getD []) (hs : spP l k) {t : Nat} (h1 : fr l k ≤ t) (h2 : t < sz l k) : valOk l (l.getD (k + t) default) = true := by
  have o := (checkB_okAt h k hk).1
  unfold okAt at o
  rw [if_neg (sp_kind hs)] at o
  obtain ⟨s1, s2, s3, s4, s5, s6⟩ := sp_sz hs
  have := List.all_eq_true.1 o (t - fr l k) (List.mem_range.2 (by omega))
  have e : at' l ((k : Int) + spFrom l k + ((t - fr l k : Nat) : Int)) = l.getD (k + t) default := by
    unfold at'
    congr 1
    omega
  rw [e] at this
  exact this
end

/-! ## lengths, places -/
theorem blkAt_length {l : List Wd} {k : Nat} (h : spP l k) : (blkAt l k).length = sz l k := by
  obtain ⟨s1, s2, s3, s4, s5, s6⟩ := sp_sz h
  exact cutW_length (by omega) (by omega) (by omega)
theorem blkAt_get {l : List Wd} {k t : Nat} (h : spP l k) (ht : t < sz l k) : (blkAt l k).getD t default = l.getD (k + t) default := by
  unfold blkAt cutW
  obtain ⟨s1, s2, s3, s4, s5, s6⟩ := sp_sz h
  simp only [List.getD_eq_getElem?_getD, List.getElem?_take, List.getElem?_drop]
  rw [if_pos (by omega)]
  simp
theorem valB_length (l : List Wd) (k : Nat) : (valB l k).length = sz l k := by simp [valB]
theorem rawTo_app (l : List Wd) (ks ks' : List Nat) : rawTo l (ks ++ ks') = rawTo l ks ++ rawTo l ks' := by simp [rawTo]
theorem valTo_app (l : List Wd) (ks ks' : List Nat) : valTo l (ks ++ ks') = valTo l ks ++ valTo l ks' := by simp [valTo]
theorem rawTo_one (l : List Wd) (k : Nat) : rawTo l [k] = blkAt l k := by simp [rawTo]
theorem valTo_one (l : List Wd) (k : Nat) : valTo l [k] = valB l k := by simp [valTo]
theorem rawTo_cons (l : List Wd) (k : Nat) (ks : List Nat) : rawTo l (k :: ks) = blkAt l k ++ rawTo l ks := by simp [rawTo]
theorem valTo_cons (l : List Wd) (k : Nat) (ks : List Nat) : valTo l (k :: ks) = valB l k ++ valTo l ks := by simp [valTo]
theorem valTo_length {l : List Wd} : ∀ {ks : List Nat}, (∀ k ∈ ks, spP l k) → (valTo l ks).length = (rawTo l ks).length
  | [], _ => rfl
  | k :: ks, h => by
    rw [valTo_cons, rawTo_cons, List.length_append, List.length_append, valB_length, blkAt_length (h k (by simp)), valTo_length (ks := ks) fun x hx => h x (by simp [hx])]
theorem cook_length (l : List Wd) (ks : List Nat) (p : Nat) : (cook l ks p).length = (rawTo l ks).length := by simp [cook]
theorem cook_get (l : List Wd) (ks : List Nat) (p : Nat) {q : Nat} (h : q < (rawTo l ks).length) : (cook l ks p).getD q default = if q < p ∧ valAt l ks q = true then imgW l ks (rawAt l ks q) else rawAt l ks q := by
  unfold cook
  rw [List.getD_eq_getElem?_getD, List.getElem?_map, List.getElem?_range h]
  rfl
theorem rawAt_left {l : List Wd} {ks : List Nat} (ks' : List Nat) {q : Nat} (h : q < (rawTo l ks).length) : rawAt l (ks ++ ks') q = rawAt l ks q := by
  unfold rawAt
  rw [rawTo_app]
  simp [List.getElem?_append, h]
theorem valAt_left {l : List Wd} {ks : List Nat} (hk : ∀ k ∈ ks, spP l k) (ks' : List Nat) {q : Nat} (h : q < (rawTo l ks).length) : valAt l (ks ++ ks') q = valAt l ks q := by
  unfold valAt
  rw [valTo_app]
  rw [← valTo_length hk] at h
  simp [List.getElem?_append, h]
theorem rawAt_right {l : List Wd} {ks : List Nat} (ks' : List Nat) (q : Nat) : rawAt l (ks ++ ks') ((rawTo l ks).length + q) = rawAt l ks' q := by
  unfold rawAt
  rw [rawTo_app, List.getD_eq_getElem?_getD, List.getD_eq_getElem?_getD, List.getElem?_append_right (by omega), Nat.add_sub_cancel_left]
theorem valAt_right {l : List Wd} {ks : List Nat} (hk : ∀ k ∈ ks, spP l k) (ks' : List Nat) (q : Nat) : valAt l (ks ++ ks') ((rawTo l ks).length + q) = valAt l ks' q := by
  unfold valAt
  rw [valTo_app, ← valTo_length hk, List.getD_eq_getElem?_getD, List.getD_eq_getElem?_getD, List.getElem?_append_right (by omega), Nat.add_sub_cancel_left]
/-- at a place in a thing -/
theorem at_blk {l : List Wd} {ks ks' : List Nat} {k t : Nat} (hk : ∀ x ∈ ks, spP l x) (hs : spP l k) (ht : t < sz l k) :
    rawAt l (ks ++ k :: ks') ((rawTo l ks).length + t) = l.getD (k + t) default ∧ valAt l (ks ++ k :: ks') ((rawTo l ks).length + t) = decide (fr l k ≤ t) := by
  rw [rawAt_right, valAt_right hk]
  constructor
  · have h1 : t < (rawTo l [k]).length := by rw [rawTo_one, blkAt_length hs]; exact ht
    rw [show k :: ks' = [k] ++ ks' from rfl, rawAt_left _ h1]
    unfold rawAt
    rw [rawTo_one]
    exact blkAt_get hs ht
  · have h1 : t < (rawTo l [k]).length := by rw [rawTo_one, blkAt_length hs]; exact ht
    rw [show k :: ks' = [k] ++ ks' from rfl, valAt_left (by simpa using hs) _ h1]
    unfold valAt
    rw [valTo_one]
    unfold valB
    rw [List.getD_eq_getElem?_getD, List.getElem?_map, List.getElem?_range ht]
    rfl
/-- in which thing a place is -/
theorem place {l : List Wd} : ∀ {ks : List Nat} {q : Nat}, (∀ k ∈ ks, spP l k) → q < (rawTo l ks).length → ∃ a k b t, ks = a ++ k :: b ∧ t < sz l k ∧ q = (rawTo l a).length + t
  | [], q, _, h => by simp [rawTo] at h
  | k :: ks, q, hk, h => by
    by_cases hq : q < sz l k
    · exact ⟨[], k, ks, q, rfl, hq, by simp [rawTo]⟩
    · have hl := blkAt_length (hk k (by simp))
      rw [rawTo_cons, List.length_append, hl] at h
      obtain ⟨a, k', b, t, h1, h2, h3⟩ := place (ks := ks) (q := q - sz l k) (fun x hx => hk x (by simp [hx])) (by omega)
      exact ⟨k :: a, k', b, t, by rw [h1]; rfl, h2, by rw [rawTo_cons, List.length_append, hl]; omega⟩

/-! ## where they are -/
theorem mpF_app (l : List Wd) : ∀ (ks ks' : List Nat) (o : Nat), (∀ k ∈ ks, spP l k) → mpF l (ks ++ ks') o = mpF l ks o ++ mpF l ks' (o + (rawTo l ks).length)
  | [], ks', o, _ => by simp [mpF, rawTo]
  | k :: ks, ks', o, hk => by
    rw [List.cons_append, mpF, mpF, mpF_app l ks ks' _ (fun x hx => hk x (by simp [hx])), rawTo_cons, List.length_append, blkAt_length (hk k (by simp))]
    simp [Nat.add_assoc]
theorem eqbI {a b : Int} : (Ty.int .i64).eqb a b = decide (a = b) := by
  cases h : (Ty.int .i64).eqb a b with
  | true => have := (eqb_iff (.int .i64) a b).1 h; simp [show a = b from this]
  | false =>
    have : ¬ a = b := fun e => by
      have := (eqb_iff (.int .i64) a b).2 e
      rw [this] at h; cases h
    simp [this]
theorem mvGet_nil (n : Int) : mvGet [] n = none := rfl
theorem mvGet_cons (x : Int × Int) (mp : List (Int × Int)) (n : Int) : mvGet (x :: mp) n = if n = x.1 then some x.2 else mvGet mp n := by
  show (bif (Ty.int .i64).eqb n x.1 then some x.2 else mvGet mp n) = _
  rw [eqbI]
  by_cases h : n = x.1 <;> simp [h]
theorem mvGet_app (mp mp' : List (Int × Int)) (n : Int) : mvGet (mp ++ mp') n = (mvGet mp n).or (mvGet mp' n) := by
  induction mp with
  | nil => simp [mvGet_nil]
  | cons x mp ih =>
    rw [List.cons_append, mvGet_cons, mvGet_cons, ih]
    split
    · rfl
    · rfl
theorem mset_new (mp : List (Int × Int)) (n v : Int) (h : mvGet mp n = none) : mset (.int .i64) mp n v = mp ++ [(n, v)] := by
  induction mp with
  | nil => rfl
  | cons x mp ih =>
    rw [mvGet_cons] at h
    by_cases hn : n = x.1
    · rw [if_pos hn] at h; cases h
    · rw [if_neg hn] at h
      show (bif (Ty.int .i64).eqb n x.1 then (n, v) :: mp else x :: mset (.int .i64) mp n v) = _
      rw [eqbI, ih h]
      simp [hn]
theorem mvGet_mem (l : List Wd) : ∀ (ks : List Nat) (o : Nat) (n : Int), (mvGet (mpF l ks o) n).isSome = true ↔ n.toNat ∈ ks ∧ 0 ≤ n
  | [], o, n => by simp [mpF, mvGet_nil]
  | k :: ks, o, n => by
    rw [mpF, mvGet_cons]
    have ih := mvGet_mem l ks (o + sz l k) n
    by_cases h : n = (k : Int)
    · rw [if_pos h]
      simp [h]
    · rw [if_neg h, ih]
      constructor
      · rintro ⟨h1, h2⟩; exact ⟨by simp [h1], h2⟩
      · rintro ⟨h1, h2⟩
        rcases List.mem_cons.1 h1 with h1 | h1
        · exact absurd (by omega) h
        · exact ⟨h1, h2⟩
/-- where a thing is: behind those that were copied ahead of it -/
theorem mvGet_at {l : List Wd} {a b : List Nat} {k : Nat} (hk : ∀ x ∈ a, spP l x) (hn : k ∉ a) : mvGet (mpF l (a ++ k :: b) 0) k = some ((rawTo l a).length : Int) := by
  rw [mpF_app l a (k :: b) 0 hk, mvGet_app]
  have h1 : mvGet (mpF l a 0) k = none := by
    cases h : mvGet (mpF l a 0) k with
    | none => rfl
    | some x =>
      have := (mvGet_mem l a 0 k).1 (by rw [h]; rfl)
      exact absurd (by simpa using this.1) hn
  rw [h1, mpF, mvGet_cons, if_pos rfl]
  simp
theorem imgW_ext {l : List Wd} {ks ks' : List Nat} (hk : ∀ x ∈ ks, spP l x) {w : Wd} (h : known l ks w) : imgW l (ks ++ ks') w = imgW l ks w := by
  unfold imgW
  by_cases h5 : (findS l w).k = 5
  · rw [if_pos h5, if_pos h5, mpF_app l ks ks' 0 hk, mvGet_app]
    obtain ⟨x, hx⟩ := Option.isSome_iff_exists.1 ((mvGet_mem l ks 0 _).2 (h h5))
    rw [hx]
    rfl
  · rw [if_neg h5, if_neg h5]

/-! ## one word is moved -/
theorem KI.sp {l : List Wd} {ks : List Nat} {p : Nat} (h : KI l ks p) : ∀ k ∈ ks, spP l k := fun k hk => (h.mem k hk).2
theorem known_ext {l : List Wd} {ks : List Nat} (ks' : List Nat) {w : Wd} (h : known l ks w) : known l (ks ++ ks') w := fun h5 => ⟨List.mem_append_left _ (h h5).1, (h h5).2⟩
theorem cook_app {l : List Wd} {ks : List Nat} {p : Nat} (h : KI l ks p) (k : Nat) : cook l (ks ++ [k]) p = cook l ks p ++ blkAt l k := by
  have hlen : (rawTo l (ks ++ [k])).length = (rawTo l ks).length + (blkAt l k).length := by rw [rawTo_app, rawTo_one, List.length_append]
  apply List.ext_getElem?
  intro q
  by_cases h1 : q < (rawTo l ks).length
  · have e1 : (cook l ks p)[q]? = some ((cook l ks p).getD q default) := by
      rw [List.getD_eq_getElem?_getD, List.getElem?_eq_getElem (by rw [cook_length]; exact h1)]; rfl
    have e2 : (cook l (ks ++ [k]) p)[q]? = some ((cook l (ks ++ [k]) p).getD q default) := by
      rw [List.getD_eq_getElem?_getD, List.getElem?_eq_getElem (by rw [cook_length, hlen]; omega)]; rfl
    rw [List.getElem?_append_left (by rw [cook_length]; exact h1), e1, e2, cook_get _ _ _ h1, cook_get _ _ _ (by rw [hlen]; omega), rawAt_left _ h1, valAt_left h.sp _ h1]
    by_cases hq : q < p ∧ valAt l ks q = true
    · rw [if_pos hq, if_pos hq, imgW_ext h.sp (h.kn q hq.1 hq.2)]
    · rw [if_neg hq, if_neg hq]
  · rw [List.getElem?_append_right (by rw [cook_length]; omega), cook_length]
    by_cases h2 : q < (rawTo l (ks ++ [k])).length
    · have e2 : (cook l (ks ++ [k]) p)[q]? = some ((cook l (ks ++ [k]) p).getD q default) := by
        rw [List.getD_eq_getElem?_getD, List.getElem?_eq_getElem (by rw [cook_length]; exact h2)]; rfl
      have e3 : (blkAt l k)[q - (rawTo l ks).length]? = some ((blkAt l k).getD (q - (rawTo l ks).length) default) := by
        rw [List.getD_eq_getElem?_getD, List.getElem?_eq_getElem (by omega)]; rfl
      have hp : ¬ q < p := by have := h.le; omega
      rw [e2, e3, cook_get _ _ _ h2, if_neg (fun h => hp h.1)]
      have : rawAt l (ks ++ [k]) q = rawAt l [k] (q - (rawTo l ks).length) := by
        have := rawAt_right (l := l) (ks := ks) [k] (q - (rawTo l ks).length)
        rwa [show (rawTo l ks).length + (q - (rawTo l ks).length) = q by omega] at this
      rw [this]
      unfold rawAt
      rw [rawTo_one]
    · rw [List.getElem?_eq_none (by rw [cook_length]; omega), List.getElem?_eq_none (by omega)]
theorem sum_take {l : List Wd} (p : Nat → Bool) : ∀ (f a : Nat) {r : List Nat}, startsF l f a = some r → (∀ x ∈ r, p x = true → spP l x) → (((r.filter p).map (sz l)).sum) ≤ l.length - a
  | 0, a, r, h, _ => by simp only [startsF, Option.some.injEq] at h; subst h; simp
  | f + 1, a, r, h, hp => by
    simp only [startsF] at h
    split at h
    · rename_i hlt
      split at h
      · cases h
      · rename_i d hs
        obtain ⟨r', h1, rfl⟩ := Option.map_eq_some_iff.1 h
        have ih := sum_take p f (a + d) h1 fun x hx => hp x (by simp [hx])
        by_cases ha : p a = true
        · have hsp := hp a (by simp) ha
          obtain ⟨s1, s2, s3, s4, s5, s6⟩ := sp_sz hsp
          unfold stepS at hs
          rw [if_neg (sp_kind hsp), if_pos hsp] at hs
          injection hs with hs
          have hs : sz l a = d := hs
          rw [List.filter_cons_of_pos ha, List.map_cons, List.sum_cons]
          omega
        · rw [List.filter_cons_of_neg ha]
          omega
    · simp only [Option.some.injEq] at h; subst h; simp
theorem starts_rising {l : List Wd} : ∀ (f a : Nat) {r : List Nat}, startsF l f a = some r → r.Nodup
  | 0, a, r, h => by simp only [startsF, Option.some.injEq] at h; subst h; simp
  | f + 1, a, r, h => by
    simp only [startsF] at h
    split at h
    · split at h
      · cases h
      · rename_i d hs
        obtain ⟨r', h1, rfl⟩ := Option.map_eq_some_iff.1 h
        have := stepS_pos hs
        rw [List.nodup_cons]
        exact ⟨fun hm => by have := (startsF_mem f (a + d) h1 a hm).1; omega, starts_rising f (a + d) h1⟩
    · simp only [Option.some.injEq] at h; subst h; simp
theorem rawTo_sum {l : List Wd} : ∀ {ks : List Nat}, (∀ k ∈ ks, spP l k) → (rawTo l ks).length = (ks.map (sz l)).sum
  | [], _ => rfl
  | k :: ks, h => by
    rw [rawTo_cons, List.length_append, blkAt_length (h k (by simp)), rawTo_sum (ks := ks) fun x hx => h x (by simp [hx])]
    rfl
theorem perm_sum {a b : List Nat} (h : List.Perm a b) : a.sum = b.sum := by
  induction h with
  | nil => rfl
  | cons x _ ih => rw [List.sum_cons, List.sum_cons, ih]
  | swap x y l => simp only [List.sum_cons]; omega
  | trans _ _ i j => exact i.trans j
/-- no more is copied than there is -/
theorem rawTo_le {l : List Wd} {ks : List Nat} {p : Nat} (h : KI l ks p) : (rawTo l ks).length ≤ l.length := by
  rw [rawTo_sum h.sp]
  cases hs : startsS l with
  | none =>
    have : ks = [] := by
      cases ks with
      | nil => rfl
      | cons k ks =>
        have := (h.mem k (by simp)).1
        rw [hs] at this
        cases this
    subst this
    simp
  | some r =>
    have hm : ∀ k ∈ ks, k ∈ r := fun k hk => by have := (h.mem k hk).1; rwa [hs] at this
    have hp : List.Perm ks (r.filter fun x => decide (x ∈ ks)) := by
      rw [List.perm_ext_iff_of_nodup h.nd ((starts_rising _ _ hs).filter _)]
      intro x
      simp only [List.mem_filter, decide_eq_true_eq]
      exact ⟨fun hx => ⟨hm x hx, hx⟩, fun hx => hx.2⟩
    rw [perm_sum (hp.map (sz l))]
    have := sum_take (fun x => decide (x ∈ ks)) _ _ hs fun x _ hx => h.sp x (by simpa using hx)
    omega
/-- a value is moved -/
theorem mv_st {l : List Wd} {lim : Int} (hc : checkB l lim = true) {ks : List Nat} {p : Nat} (h : KI l ks p) {w : Wd} (hv : valOk l w = true) :
    mvM l (stM' l ks p) w = stM' l (addK l ks w) p ∧ mvW l (stM' l ks p) w = imgW l (addK l ks w) w ∧ KI l (addK l ks w) p ∧ known l (addK l ks w) w ∧ mvPre l (stM' l ks p) w := by
  obtain ⟨f1, f2, f3, f4⟩ := find_ok hc hv
  obtain ⟨c1, c2, c3⟩ := checkB_lims hc
  have hle := rawTo_le h
  have hpre : mvPre l (stM' l ks p) w := by
    refine ⟨chain_of hc hv, checkB_fits hc, fun h5 => ?_, ?_⟩
    · rw [f1] at h5
      exact ⟨(f4 h5).2.1, (f4 h5).2.2⟩
    · show (cook l ks p).length ≤ _
      rw [cook_length]
      omega
  have hlen : (((stM' l ks p).to.length : Nat) : Int) = ((rawTo l ks).length : Nat) := by show (((cook l ks p).length : Nat) : Int) = _; rw [cook_length]
  by_cases h5 : (findS l w).k = 5
  · have h5' : w.k = 5 := by rw [← f1]; exact h5
    obtain ⟨g1, g2, g3⟩ := f4 h5'
    by_cases hm : (findS l w).n.toNat ∈ ks
    · have e : addK l ks w = ks := by unfold addK; rw [if_neg (fun h => h.2 hm)]
      obtain ⟨x, hx⟩ := Option.isSome_iff_exists.1 ((mvGet_mem l ks 0 (findS l w).n).2 ⟨hm, g2⟩)
      have hx' : mvGet (stM' l ks p).mp (findS l w).n = some x := hx
      rw [e]
      refine ⟨?_, ?_, h, fun _ => ⟨hm, g2⟩, hpre⟩
      · unfold mvM isNew
        rw [hx', if_neg (by simp)]
      · unfold mvW imgW
        rw [if_pos h5, if_pos h5, hx', hx]
        rfl
    · have e : addK l ks w = ks ++ [(findS l w).n.toNat] := by unfold addK; rw [if_pos ⟨h5, hm⟩]
      have en : (((findS l w).n.toNat : Nat) : Int) = (findS l w).n := Int.toNat_of_nonneg g2
      have hx : mvGet (mpF l ks 0) (findS l w).n = none := by
        cases hq : mvGet (mpF l ks 0) (findS l w).n with
        | none => rfl
        | some x => exact absurd ((mvGet_mem l ks 0 _).1 (by rw [hq]; rfl)).1 hm
      have hx' : mvGet (stM' l ks p).mp (findS l w).n = none := hx
      rw [e]
      have hki : KI l (ks ++ [(findS l w).n.toNat]) p := by
        refine ⟨?_, fun k hk => ?_, fun q hq hvq => ?_, ?_⟩
        · rw [List.nodup_append]
          exact ⟨h.nd, by simp, fun a ha b hb => by simp at hb; subst hb; rintro rfl; exact hm ha⟩
        · rcases List.mem_append.1 hk with hk | hk
          · exact h.mem k hk
          · simp at hk; subst hk
            rw [en]
            exact ⟨g1, g3⟩
        · have hq' : q < (rawTo l ks).length := Nat.lt_of_lt_of_le hq h.le
          rw [valAt_left h.sp _ hq'] at hvq
          rw [rawAt_left _ hq']
          exact known_ext _ (h.kn q hq hvq)
        · rw [rawTo_app, List.length_append]
          have := h.le
          omega
      refine ⟨?_, ?_, hki, fun _ => ⟨by simp, g2⟩, hpre⟩
      · unfold mvM isNew
        rw [hx', if_pos (by simp [h5])]
        unfold mvNew stM'
        rw [cook_app h, mpF_app l ks _ 0 h.sp]
        simp only [mpF]
        rw [mset_new _ _ _ hx, cook_length]
        simp [blkAt, en]
      · unfold mvW imgW
        rw [if_pos h5, if_pos h5, hx', hlen]
        have := mvGet_at (b := []) h.sp hm
        rw [en] at this
        rw [this]
        rfl
  · have e : addK l ks w = ks := by unfold addK; rw [if_neg (fun h => h5 h.1)]
    rw [e]
    refine ⟨?_, ?_, h, fun h => absurd h h5, hpre⟩
    · unfold mvM isNew
      rw [if_neg (by simp [h5])]
    · unfold mvW imgW
      rw [if_neg h5, if_neg h5]
/-! ## a word is turned -/
theorem cook_skip {l : List Wd} {ks : List Nat} {p : Nat} (h : valAt l ks p = false) : cook l ks (p + 1) = cook l ks p := by
  unfold cook
  apply List.map_congr_left
  intro q _
  by_cases hq : q = p
  · subst hq
    simp [h]
  · have : (q < p + 1) = (q < p) := by apply propext; omega
    simp only [this]
theorem cook_set {l : List Wd} {ks : List Nat} {p : Nat} (h : valAt l ks p = true) : (cook l ks p).set p (imgW l ks (rawAt l ks p)) = cook l ks (p + 1) := by
  apply List.ext_getElem?
  intro q
  rw [List.getElem?_set]
  by_cases hl : q < (rawTo l ks).length
  · have e : ∀ p, (cook l ks p)[q]? = some ((cook l ks p).getD q default) := fun p => by
      rw [List.getD_eq_getElem?_getD, List.getElem?_eq_getElem (by rw [cook_length]; exact hl)]; rfl
    by_cases hq : p = q
    · subst hq
      rw [if_pos rfl, if_pos (by rw [cook_length]; exact hl), e, cook_get _ _ _ hl, if_pos ⟨Nat.lt_succ_self _, h⟩]
    · rw [if_neg hq, e, e, cook_get _ _ _ hl, cook_get _ _ _ hl]
      have : (q < p + 1) = (q < p) := by apply propext; omega
      simp only [this]
  · rw [List.getElem?_eq_none (by rw [cook_length]; omega), List.getElem?_eq_none (by rw [cook_length]; omega)]
    split
    · split
      · rename_i h2; rw [cook_length] at h2; omega
      · rfl
    · rfl
theorem raw_ok {l : List Wd} {lim : Int} (hc : checkB l lim = true) {ks : List Nat} {p : Nat} (h : KI l ks p) {q : Nat} (hq : q < (rawTo l ks).length) (hv : valAt l ks q = true) : valOk l (rawAt l ks q) = true := by
  obtain ⟨a, k, b, t, rfl, ht, rfl⟩ := place h.sp hq
  have hka : ∀ x ∈ a, spP l x := fun x hx => h.sp x (by simp [hx])
  obtain ⟨e1, e2⟩ := at_blk (ks := a) (ks' := b) hka (h.sp k (by simp)) ht
  rw [e2, decide_eq_true_eq] at hv
  rw [e1]
  exact blk_word hc (h.mem k (by simp)).1 (h.sp k (by simp)) hv ht
/-- the next place -/
theorem KI.next {l : List Wd} {lim : Int} (hc : checkB l lim = true) {ks : List Nat} {p : Nat} (h : KI l ks p) (hp : p < (rawTo l ks).length) :
    KI l (if valAt l ks p = true then addK l ks (rawAt l ks p) else ks) (p + 1) := by
  by_cases hv : valAt l ks p = true
  · rw [if_pos hv]
    obtain ⟨_, _, k1, k2, _⟩ := mv_st hc h (raw_ok hc h hp hv)
    have hx : ∃ x, addK l ks (rawAt l ks p) = ks ++ x := by
      unfold addK
      split
      · exact ⟨_, rfl⟩
      · exact ⟨[], by simp⟩
    obtain ⟨x, hx⟩ := hx
    rw [hx] at k1 k2 ⊢
    refine ⟨k1.nd, k1.mem, fun q hq hvq => ?_, ?_⟩
    · by_cases hqp : q = p
      · subst hqp
        rw [rawAt_left _ hp]
        exact k2
      · exact k1.kn q (by omega) hvq
    · rw [rawTo_app, List.length_append]; omega
  · rw [if_neg hv]
    refine ⟨h.nd, h.mem, fun q hq hvq => ?_, hp⟩
    by_cases hqp : q = p
    · subst hqp; exact absurd hvq hv
    · exact h.kn q (by omega) hvq
theorem runS_step {l : List Wd} {ks : List Nat} {p : Nat} (h : KI l ks p) (hp : p < (rawTo l ks).length) : runS l ks p = runS l (if valAt l ks p = true then addK l ks (rawAt l ks p) else ks) (p + 1) := by
  have := rawTo_le h
  unfold runS
  rw [show l.length + 1 - p = (l.length + 1 - (p + 1)) + 1 by omega, runK, if_pos hp]
theorem runS_end {l : List Wd} {ks : List Nat} {p : Nat} (hp : ¬ p < (rawTo l ks).length) : runS l ks p = ks := by
  unfold runS
  cases l.length + 1 - p with
  | zero => rfl
  | succ f => rw [runK, if_neg hp]
/-- where all is turned -/
theorem KI.last {l : List Wd} {lim : Int} (hc : checkB l lim = true) : ∀ (f : Nat) {ks : List Nat} {p : Nat}, KI l ks p → l.length < p + f → KI l (runS l ks p) (rawTo l (runS l ks p)).length ∧ ∃ x, runS l ks p = ks ++ x
  | 0, ks, p, h, hf => by have := rawTo_le h; have := h.le; omega
  | f + 1, ks, p, h, hf => by
    by_cases hp : p < (rawTo l ks).length
    · rw [runS_step h hp]
      have h1 := h.next hc hp
      obtain ⟨g1, x, g2⟩ := KI.last hc f h1 (by omega)
      refine ⟨g1, ?_⟩
      rw [g2]
      split
      · unfold addK
        split
        · exact ⟨_, by rw [List.append_assoc]⟩
        · exact ⟨x, rfl⟩
      · exact ⟨x, rfl⟩
    · rw [runS_end hp]
      have : p = (rawTo l ks).length := by have := h.le; omega
      exact ⟨this ▸ h, [], by simp⟩
end Go.Proofs.Ytfpnadmpmfcaaaa
