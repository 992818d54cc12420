/- Rx, part C: one operation, symbolically, and that it is so. -/
import Derived.Test.YtnalaogenpicfaaDoorRxB
set_option linter.unusedSectionVars false
set_option linter.unusedSimpArgs false
set_option linter.unusedVariables false
namespace Rx
open Go
variable [Glob]

def lo : IntKind → Int
  | .i8 => -128 | .i16 => -32768 | .i32 => -2147483648 | .i64 => -9223372036854775808 | _ => 0
def hi : IntKind → Int
  | .i8 => 127 | .i16 => 32767 | .i32 => 2147483647 | .i64 => 9223372036854775807
  | .u8 => 255 | .u16 => 65535 | .u32 => 4294967295 | .u64 => 18446744073709551615

theorem wrap_in (k : IntKind) (r : Int) (h : lo k ≤ r ∧ r ≤ hi k) : k.wrap r = r := by
  obtain ⟨h1, h2⟩ := h
  cases k <;> simp only [lo, hi] at h1 h2 <;> simp only [IntKind.wrap, IntKind.bits, IntKind.signed, Bool.true_and, Bool.false_and, decide_eq_true_eq] <;>
    (first | (split <;> omega) | (simp; omega))

abbrev vI (k : IntKind) (n : Int) : SV := .dt (.cell (.int k n))
abbrev vB (b : Bool) : SV := .dt (.cell (.bool b))
abbrev vS (s : ByteArray) : SV := .dt (.cell (.string s))

/-- an operator on two integers of one kind -/
def intOp (op : BinOp) (k : IntKind) (x y : Int) : T SV :=
  match op with
  | .add => .need (lo k ≤ x + y ∧ x + y ≤ hi k) (.ret (vI k (x + y)))
  | .sub => .need (lo k ≤ x - y ∧ x - y ≤ hi k) (.ret (vI k (x - y)))
  | .mul => .need (lo k ≤ x * y ∧ x * y ≤ hi k) (.ret (vI k (x * y)))
  | .quo => .need (y ≠ 0 ∧ lo k ≤ x.tdiv y ∧ x.tdiv y ≤ hi k) (.ret (vI k (x.tdiv y)))
  | .rem => .need (y ≠ 0) (.ret (vI k (x.tmod y)))
  | .eql => .ret (vB (x == y))
  | .neq => .ret (vB (x != y))
  | .lss => .ret (vB (decide (x < y)))
  | .leq => .ret (vB (decide (x ≤ y)))
  | .gtr => .ret (vB (decide (x > y)))
  | .geq => .ret (vB (decide (x ≥ y)))
  | _ => .fail

def strOp (op : BinOp) (x y : ByteArray) : T SV :=
  match op with
  | .add => .need ((x.size : Int) + y.size ≤ 9223372036854775807) (.ret (vS (x ++ y)))
  | .eql => .ret (vB (x.data.toList == y.data.toList))
  | .neq => .ret (vB (!(x.data.toList == y.data.toList)))
  | _ => .fail

def binSV (op : BinOp) (x y : SV) : T SV :=
  match x, y with
  | .dt (.cell (.int k a)), .dt (.cell (.int k' b)) => if k = k' then intOp op k a b else .fail
  | .dt (.cell (.string a)), .dt (.cell (.string b)) => strOp op a b
  | _, _ => .fail

theorem rel_cell {C : Ctx} {w : World} {x v : Value} : rel C w (.dt (.cell x)) v ↔ v = x :=
  ⟨fun h => h.here, fun h _ _ => h⟩

theorem T.ok_ite_pos {α : Type} {p : Prop} [Decidable p] {t e : T α} (h : (if p then t else e).ok) (hp : p) : t.ok := by rwa [if_pos hp] at h

theorem intOp_sound {P : Program} {w : World} (op : BinOp) (k : IntKind) (x y : Int) (t : TypeId) (a b : Operand) {s : SV}
    (hok : (intOp op k x y).ok) (hv : (intOp op k x y).val = some s) :
    ∃ v, s = .dt (.cell v) ∧ (do eqGuard op t a b (.int k x) (.int k y); binOp op t (.int k x) (.int k y) : Sem Value).run P w = .ok v w := by
  cases op <;> simp only [intOp, T.ok, T.val, Option.some.injEq, and_true, reduceCtorEq] at hok hv <;> (try contradiction) <;> subst hv <;>
    refine ⟨_, rfl, ?_⟩ <;>
    first
      | (simp [eqGuard, binOp, Op.intArith, Op.intDiv, Op.intCmp, wrap_in _ _ hok]; done)
      | (simp [eqGuard, binOp, Op.intArith, Op.intDiv, Op.intCmp, wrap_in _ _ hok.2, hok.1]; done)
      | (simp [eqGuard, binOp, Op.intArith, Op.intDiv, Op.intCmp, hok]; done)
      | (simp [eqGuard, binOp, Op.intArith, Op.intDiv, Op.intCmp]; done)

theorem strOp_sound {P : Program} {w : World} (op : BinOp) (x y : ByteArray) (t : TypeId) (a b : Operand) {s : SV}
    (hok : (strOp op x y).ok) (hv : (strOp op x y).val = some s) :
    ∃ v, s = .dt (.cell v) ∧ (do eqGuard op t a b (.string x) (.string y); binOp op t (.string x) (.string y) : Sem Value).run P w = .ok v w := by
  cases op <;> simp only [strOp, T.ok, T.val, Option.some.injEq, and_true, reduceCtorEq] at hok hv <;> (try contradiction) <;> subst hv <;>
    refine ⟨_, rfl, ?_⟩ <;>
    first
      | (simp [eqGuard, binOp, Op.stringOp, Go.ByteArray.toList_eq]; done)
      | (simp [eqGuard, binOp, Op.stringOp]; exact hok)

theorem binSV_sound {P : Program} {C : Ctx} {w : World} (op : BinOp) (x y : SV) (u v : Value) (t : TypeId) (a b : Operand) {s : SV}
    (hx : rel C w x u) (hy : rel C w y v) (hok : (binSV op x y).ok) (hv : (binSV op x y).val = some s) :
    ∃ r, s = .dt (.cell r) ∧ (do eqGuard op t a b u v; binOp op t u v : Sem Value).run P w = .ok r w := by
  unfold binSV at hok hv
  split at hok
  · rename_i k n k' m
    rw [rel_cell] at hx hy
    subst hx; subst hy
    by_cases hk : k = k'
    · subst hk
      simp only [if_true] at hok hv
      exact intOp_sound op k n m t a b hok hv
    · simp [hk, T.ok] at hok
  · rw [rel_cell] at hx hy
    subst hx; subst hy
    simp only at hv
    exact strOp_sound op _ _ t a b hok hv
  · simp [T.ok] at hok

/-! ## one operation (no call of a Go function) -/
def fieldOf (P : Program) (t : TypeId) (f : Nat) : Option Field :=
  match P.underlying t with
  | some (.struct fs) => fs[f]?
  | _ => none

def loadSV (P : Program) (g : Nat → Option Ob) (t : TypeId) (p : SV) : T SV :=
  match aggT P t, szOf P t with
  | some true, some n =>
    match p with
    | .ptr i off =>
      match g i with
      | some (.cells _ cs) => bif (off + n).ble cs.length then .ret (.agg ((cs.drop off).take n)) else .fail
      | _ => .fail
    | .rp i idx sz off =>
      match g i with
      | some (.row _ sz' m f) => bif Nat.beq sz sz' && (off + n).ble sz then .need (idx < m) (.ret (.agg ((List.range n).map fun j => .dt (f idx (off + j))))) else .fail
      | _ => .fail
    | .el m f => bif n.ble m then .ret (.agg ((List.range n).map fun j => .dt (f j))) else .fail
    | _ => .fail
  | some false, some _ =>
    match p with
    | .ptr i off =>
      match g i with
      | some (.cells _ cs) => match cs[off]? with
        | some s => .ret s
        | none => .fail
      | _ => .fail
    | .rp i idx sz off =>
      match g i with
      | some (.row _ sz' m f) => bif Nat.beq sz sz' && Nat.blt off sz then .need (idx < m) (.ret (.dt (f idx off))) else .fail
      | _ => .fail
    | .el m f => bif Nat.ble 1 m then .ret (.dt (f 0)) else .fail
    | _ => .fail
  | _, _ => .fail

def toDts : List SV → Option (List Dt)
  | [] => some []
  | .dt d :: l => bif oneSV (.dt d) then (toDts l).map (d :: ·) else none
  | .kb b :: l => (toDts l).map (.cell (.bool b) :: ·)
  | .ki k n :: l => (toDts l).map (.cell (.int k n) :: ·)
  | _ :: _ => none

def setRow (f : Nat → Nat → Dt) (idx off : Nat) (ds : List Dt) (k j : Nat) : Dt :=
  if k = idx then bif off.ble j && Nat.blt j (off + ds.length) then ds.getD (j - off) (.cell undef) else f k j else f k j

def storeSV (P : Program) (g : Nat → Option Ob) (t : TypeId) (p v : SV) : T Res :=
  match szOf P t, cellsSV v with
  | some n, some us =>
    bif Nat.beq us.length n && us.all oneSV then
      match p with
      | .ptr i off =>
        match g i with
        | some (.cells t' cs) => bif (off + n).ble cs.length then .ret ⟨.junk, ⟨[(i, some (.cells t' (splice cs off us)))], []⟩⟩ else .fail
        | _ => .fail
      | .rp i idx sz off =>
        match g i, toDts us with
        | some (.row t' sz' m f), some ds => bif Nat.beq sz sz' && (off + n).ble sz then .need (idx < m) (.ret ⟨.junk, ⟨[(i, some (.row t' sz' m (setRow f idx off ds)))], []⟩⟩) else .fail
        | _, _ => .fail
      | _ => .fail
    else .fail
  | _, _ => .fail

def fieldAddrSV (P : Program) (s : TypeId) (f : Nat) (p : SV) : T SV :=
  match fieldOf P s f with
  | none => .fail
  | some fl =>
    match szOf P fl.type with
    | some (_ + 1) =>
      match p with
      | .ptr i off => .ret (.ptr i (off + fl.offset))
      | .rp i idx sz off => .ret (.rp i idx sz (off + fl.offset))
      | .el m h => bif fl.offset.ble m then .ret (.el (m - fl.offset) fun j => h (j + fl.offset)) else .fail
      | _ => .fail
    | _ => .fail

def indexAddrSV (P : Program) (g : Nat → Option Ob) (t : TypeId) (x ix : SV) : T SV :=
  match P.underlying t, x, ix with
  | some (.slice e), .nm i, .dt (.cell (.int _ iv)) =>
    match szOf P e, g i with
    | some z, some (.row _ sz n _) => bif Nat.beq z sz then .need (0 ≤ iv ∧ iv < n) (.ret (.rp i iv.toNat sz 0)) else .fail
    | _, _ => .fail
  | some (.slice e), .dt (.arr sz n f), .dt (.cell (.int _ i)) =>
    match szOf P e with
    | some z => bif Nat.beq z sz then .need (0 ≤ i ∧ i < n) (.ret (.el sz fun j => f i.toNat j)) else .fail
    | none => .fail
  | _, _, _ => .fail

def unSV (op : UnOp) (x : SV) : T SV :=
  match op, x with
  | .neg, .dt (.cell (.int k n)) => .need (lo k ≤ 0 - n ∧ 0 - n ≤ hi k) (.ret (vI k (0 - n)))
  | .not, .dt (.cell (.bool b)) => .ret (vB (!b))
  | .not, .kb b => .ret (.kb (!b))
  | _, _ => .fail

def extractSV (x : SV) (i : Nat) : T SV :=
  match x with
  | .tup l => match l[i]? with
    | some s => .ret s
    | none => .fail
  | _ => .fail

def partSV (P : Program) (t : TypeId) (l : List SV) (off : Nat) : T SV :=
  match aggT P t, szOf P t with
  | some true, some n => .ret (.agg ((l.drop off).take n))
  | some false, some _ => match l[off]? with
    | some s => .ret s
    | none => .fail
  | _, _ => .fail

def fieldSV (P : Program) (t : TypeId) (x : SV) (f : Nat) : T SV :=
  match fieldOf P t f, x with
  | some fl, .agg l => partSV P fl.type l fl.offset
  | _, _ => .fail

def lenSV (P : Program) (g : Nat → Option Ob) (t : TypeId) (x : SV) : T SV :=
  match P.underlying t, x with
  | some (.slice _), .nm i => match g i with
    | some (.row _ _ n _) => .ret (vI .i64 n)
    | _ => .fail
  | some (.slice _), .dt (.cell (.slice _ n _)) => .ret (vI .i64 n)
  | some (.slice _), .dt (.arr _ n _) => .ret (vI .i64 n)
  | some .string, .dt (.cell (.string s)) => .ret (vI .i64 s.size)
  | _, _ => .fail

theorem aggT_run {P : Program} {t : TypeId} {b : Bool} (h : aggT P t = some b) (w : World) : (isAgg t).run P w = .ok b w := by
  unfold aggT at h
  cases hu : P.underlying t with
  | none => rw [hu] at h; cases h
  | some d =>
    rw [hu] at h
    simp only [Option.map_some, Option.some.injEq] at h
    subst h
    simp only [isAgg, underlying, Sem.run_bind, run_program, Result.andThen_ok, hu, Sem.run_pure]
    cases d <;> rfl

theorem szOf_run {P : Program} {t : TypeId} {n : Nat} (h : szOf P t = some n) (w : World) : (Go.sizeOf t).run P w = .ok n w := by
  unfold szOf at h
  cases hi : P.info? t with
  | none => rw [hi] at h; cases h
  | some i =>
    rw [hi] at h
    simp only [Option.map_some, Option.some.injEq] at h
    subst h
    simp [Go.sizeOf, typeInfo, hi]

theorem ob_cells {C : Ctx} {w : World} {i b : Nat} {t : TypeId} {cs : List SV} (h : obHolds C w i (.cells t cs)) (hb : C.ν i = some (.pointer (some ⟨b, 0, none⟩))) : ∃ vs : List Value, C.ρ i = some b ∧ w.heap[b]? = some (.cells vs.toArray t (0, 0)) ∧ relL C w cs vs := by
  obtain ⟨b', h1, h2, vs, h3, h4⟩ := h
  rw [h2] at hb
  injection hb with hb; injection hb with hb; injection hb with hb; injection hb with hb
  subst hb
  exact ⟨vs, h1, h3, h4⟩

theorem ob_row {C : Ctx} {w : World} {i b n n' c' : Nat} {t : TypeId} {sz : Nat} {f : Nat → Nat → Dt} (h : obHolds C w i (.row t sz n f)) (hb : C.ν i = some (.slice (some ⟨b, 0, none⟩) n' c')) :
    n' = n ∧ n ≤ c' ∧ ∃ cur : Array Value, C.ρ i = some b ∧ w.heap[b]? = some (.cells cur t (0, 0)) ∧ cur.size = c' * sz ∧ ∀ k j, k < n → j < sz → ∃ u, cur[k * sz + j]? = some u ∧ u.oneCell' = true ∧ rel C w (.dt (f k j)) u := by
  obtain ⟨A, c, h1, h2⟩ := h
  rw [h1] at hb
  injection hb with hb; injection hb with e1 e2 e3
  subst e2; subst e3
  rcases h2 with ⟨h2, _⟩ | ⟨b', h2, h3, h4, cur, h5, h6, h7⟩
  · rw [h2] at e1; cases e1
  · rw [h3] at e1
    injection e1 with e1; injection e1 with e1
    subst e1
    exact ⟨rfl, h4, cur, h2, h5, h6, h7⟩

theorem add_none (b off j : Nat) : (⟨b, off, none⟩ : Addr).add j = ⟨b, off + j, none⟩ := by unfold Addr.add; split <;> simp_all

theorem el_cell {C : Ctx} {w : World} {m : Nat} {g : Nat → Dt} {b off : Nat}
    (h : Pers C.W w (fun w' => ∀ j, j < m → ∃ u, w'.cell? ⟨b, off + j, none⟩ = some u ∧ Rep w' (g j) u)) (j : Nat) (hj : j < m) :
    ∃ u, w.cell? ⟨b, off + j, none⟩ = some u ∧ rel C w (.dt (g j)) u := by
  obtain ⟨u, hu⟩ := pers_cell (h.mono fun w' hw' => hw' j hj)
  exact ⟨u, hu.here.1, hu.mono fun _ h => h.2⟩

theorem relL_range {C : Ctx} {w : World} (f : Nat → SV) (c : Nat → Value) : ∀ (n k : Nat), (∀ j, k ≤ j → j < k + n → rel C w (f j) (c j)) →
    relL C w ((List.range' k n).map f) ((List.range' k n).map c)
  | 0, _, _ => rfl
  | n + 1, k, h => ⟨c k, _, rfl, h k (Nat.le_refl _) (by omega), relL_range f c n (k + 1) fun j h1 h2 => h j (by omega) (by omega)⟩

abbrev ObsOk (C : Ctx) (w : World) (g : Nat → Option Ob) : Prop := ∀ i ob, g i = some ob → obHolds C w i ob

theorem loadSV_sound {P : Program} {C : Ctx} {w : World} {g : Nat → Option Ob} (hg : ObsOk C w g) (t : TypeId) (p s : SV) (u : Value)
    (hp : rel C w p u) (hok : (loadSV P g t p).ok) (hv : (loadSV P g t p).val = some s) :
    ∃ v, (Instr.loadAt t u).run P w = .ok v w ∧ rel C w s v := by
  unfold loadSV at hok hv
  cases ha : aggT P t with
  | none => simp [ha, T.ok] at hok
  | some ag =>
  cases hz : szOf P t with
  | none => cases ag <;> simp [ha, hz, T.ok] at hok
  | some n =>
  cases ag with
  | true =>
    simp only [ha, hz] at hok hv
    cases p with
    | ptr i off =>
      simp only at hok hv
      cases hgi : g i with
      | none => simp [hgi, T.ok] at hok
      | some ob =>
        cases ob with
        | row _ _ _ _ => simp [hgi, T.ok] at hok
        | frz _ => simp [hgi, T.ok] at hok
        | mp _ _ _ => simp [hgi, T.ok] at hok
        | it _ _ _ => simp [hgi, T.ok] at hok
        | cells t' cs =>
          simp only [hgi] at hok hv
          cases hc : (off + n).ble cs.length with
          | false => simp [hc, T.ok] at hok
          | true =>
            simp only [hc, cond_true, T.val, Option.some.injEq] at hv
            subst hv
            obtain ⟨b, hb', rfl⟩ := hp
            obtain ⟨vs, hb, hrow, hr⟩ := ob_cells (hg i _ hgi) hb'
            have hlen := Nat.le_of_ble_eq_true hc
            have hvl := relL_length hr
            refine ⟨.agg ((vs.drop off).take n).toArray, ?_, _, rfl, relL_take _ (relL_drop _ hr)⟩
            have hl : ((vs.drop off).take n).length = n := by simp; omega
            have := run_loadCells_list (P := P) w ⟨b, off, none⟩ ((vs.drop off).take n) (fun j v hj => by
              rw [add_none, cell_of_row w b _ vs.toArray t' (0, 0) hrow]
              rw [List.getElem?_take] at hj
              split at hj
              · simpa using hj
              · cases hj)
            rw [hl] at this
            simp only [Instr.loadAt, Instr.sureAddr, loadVar, Sem.run_bind, Sem.run_pure, Result.andThen_ok, aggT_run ha, szOf_run hz, if_true, this]
    | rp i idx sz off =>
      simp only at hok hv
      cases hgi : g i with
      | none => simp [hgi, T.ok] at hok
      | some ob =>
        cases ob with
        | cells _ _ => simp [hgi, T.ok] at hok
        | frz _ => simp [hgi, T.ok] at hok
        | mp _ _ _ => simp [hgi, T.ok] at hok
        | it _ _ _ => simp [hgi, T.ok] at hok
        | row t' sz' m f =>
          simp only [hgi] at hok hv
          cases hc : (Nat.beq sz sz' && (off + n).ble sz) with
          | false => rw [hc] at hok; simp [T.ok] at hok
          | true =>
            rw [hc] at hok hv
            simp only [cond_true, T.ok, T.val, Option.some.injEq, and_true] at hok hv
            subst hv
            simp only [Bool.and_eq_true] at hc
            have e1 := Nat.eq_of_beq_eq_true hc.1
            have e2 := Nat.le_of_ble_eq_true hc.2
            subst e1
            obtain ⟨b, n', c', hb', rfl⟩ := hp
            obtain ⟨_, hnc, cur, _, hrow, hsz, hcells⟩ := ob_row (hg i _ hgi) hb'
            let cell : Nat → Value := fun j => (w.cell? ⟨b, idx * sz + off + j, none⟩).getD undef
            have hcell : ∀ j, j < n → w.cell? ⟨b, idx * sz + off + j, none⟩ = some (cell j) ∧ rel C w (.dt (f idx (off + j))) (cell j) := fun j hj => by
              obtain ⟨u, hu, hr⟩ := hcells idx (off + j) hok (by omega)
              have hh : w.cell? ⟨b, idx * sz + off + j, none⟩ = some u := by rw [cell_of_row w b _ cur t' (0, 0) hrow, ← hu, Nat.add_assoc]
              have : cell j = u := by simp [cell, hh]
              rw [this]; exact ⟨hh, hr.2⟩
            have hrun := run_loadCells (P := P) w ⟨b, idx * sz + off, none⟩ n cell (fun j hj => by rw [add_none]; exact (hcell j hj).1)
            refine ⟨.agg ((List.range n).map cell).toArray, ?_, _, rfl, ?_⟩
            · simp only [Instr.loadAt, Instr.sureAddr, loadVar, Sem.run_bind, Sem.run_pure, Result.andThen_ok, aggT_run ha, szOf_run hz, if_true, hrun]
            · rw [List.range_eq_range']
              exact relL_range _ cell n 0 fun j _ hj => (hcell j (by omega)).2
    | el m f =>
      simp only at hok hv
      cases hc : n.ble m with
      | false => simp [hc, T.ok] at hok
      | true =>
        simp only [hc, cond_true, T.val, Option.some.injEq] at hv
        subst hv
        have hnm := Nat.le_of_ble_eq_true hc
        obtain ⟨b, off, rfl, hP⟩ := hp
        let cell : Nat → Value := fun j => (w.cell? ⟨b, off + j, none⟩).getD undef
        have hcell : ∀ j, j < n → w.cell? ⟨b, off + j, none⟩ = some (cell j) ∧ rel C w (.dt (f j)) (cell j) := fun j hj => by
          obtain ⟨u, hu, hr⟩ := el_cell hP j (by omega)
          have : cell j = u := by simp [cell, hu]
          rw [this]; exact ⟨hu, hr⟩
        have hrun := run_loadCells (P := P) w ⟨b, off, none⟩ n cell (fun j hj => by rw [add_none]; exact (hcell j hj).1)
        refine ⟨.agg ((List.range n).map cell).toArray, ?_, _, rfl, ?_⟩
        · simp only [Instr.loadAt, Instr.sureAddr, loadVar, Sem.run_bind, Sem.run_pure, Result.andThen_ok, aggT_run ha, szOf_run hz, if_true, hrun]
        · rw [List.range_eq_range']
          exact relL_range _ cell n 0 fun j _ hj => (hcell j (by omega)).2
    | _ => simp [T.ok] at hok
  | false =>
    simp only [ha, hz] at hok hv
    cases p with
    | ptr i off =>
      simp only at hok hv
      cases hgi : g i with
      | none => simp [hgi, T.ok] at hok
      | some ob =>
        cases ob with
        | row _ _ _ _ => simp [hgi, T.ok] at hok
        | frz _ => simp [hgi, T.ok] at hok
        | mp _ _ _ => simp [hgi, T.ok] at hok
        | it _ _ _ => simp [hgi, T.ok] at hok
        | cells t' cs =>
          simp only [hgi] at hok hv
          cases hc : cs[off]? with
          | none => simp [hc, T.ok] at hok
          | some s' =>
            simp only [hc, T.val, Option.some.injEq] at hv
            subst hv
            obtain ⟨b, hb', rfl⟩ := hp
            obtain ⟨vs, hb, hrow, hr⟩ := ob_cells (hg i _ hgi) hb'
            obtain ⟨v, hv1, hr⟩ := relL_get off s' hr hc
            have hcell : w.cell? ⟨b, off, none⟩ = some v := by rw [cell_of_row w b off vs.toArray t' (0, 0) hrow]; simpa using hv1
            refine ⟨v, ?_, hr⟩
            simp [Instr.loadAt, Instr.sureAddr, loadVar, aggT_run ha, run_load, hcell]
    | rp i idx sz off =>
      simp only at hok hv
      cases hgi : g i with
      | none => simp [hgi, T.ok] at hok
      | some ob =>
        cases ob with
        | cells _ _ => simp [hgi, T.ok] at hok
        | frz _ => simp [hgi, T.ok] at hok
        | mp _ _ _ => simp [hgi, T.ok] at hok
        | it _ _ _ => simp [hgi, T.ok] at hok
        | row t' sz' m f =>
          simp only [hgi] at hok hv
          cases hc : (Nat.beq sz sz' && Nat.blt off sz) with
          | false => rw [hc] at hok; simp [T.ok] at hok
          | true =>
            rw [hc] at hok hv
            simp only [cond_true, T.ok, T.val, Option.some.injEq, and_true] at hok hv
            subst hv
            simp only [Bool.and_eq_true, Nat.blt_eq] at hc
            have e1 := Nat.eq_of_beq_eq_true hc.1
            subst e1
            obtain ⟨b, n', c', hb', rfl⟩ := hp
            obtain ⟨_, hnc, cur, _, hrow, hsz, hcells⟩ := ob_row (hg i _ hgi) hb'
            obtain ⟨u, hu, hr⟩ := hcells idx off hok hc.2
            have hh : w.cell? ⟨b, idx * sz + off, none⟩ = some u := by rw [cell_of_row w b _ cur t' (0, 0) hrow, ← hu]
            exact ⟨u, by simp [Instr.loadAt, Instr.sureAddr, loadVar, aggT_run ha, run_load, hh], hr.2⟩
    | el m f =>
      simp only at hok hv
      cases hc : Nat.ble 1 m with
      | false => simp [hc, T.ok] at hok
      | true =>
        simp only [hc, cond_true, T.val, Option.some.injEq] at hv
        subst hv
        obtain ⟨b, off, rfl, hP⟩ := hp
        obtain ⟨u, hu, hr⟩ := el_cell hP 0 (Nat.le_of_ble_eq_true hc)
        refine ⟨u, ?_, hr⟩
        rw [Nat.add_zero] at hu
        simp [Instr.loadAt, Instr.sureAddr, loadVar, aggT_run ha, run_load, hu]
    | _ => simp [T.ok] at hok
end Rx
