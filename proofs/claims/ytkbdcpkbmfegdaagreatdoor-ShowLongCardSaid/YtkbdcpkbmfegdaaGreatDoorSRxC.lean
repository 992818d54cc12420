/- Rx, part C: one operation, symbolically, and that it is so. -/
import Derived.Test.YtkbdcpkbmfegdaaGreatDoorSRxA
set_option linter.unusedSectionVars false
set_option linter.unusedSimpArgs false
set_option linter.unusedVariables false
namespace Rx
open Go
variable [Glob]
def lo : IntKind -> Int
 | .i8 => -128 | .i16 => -32768 | .i32 => -2147483648 | .i64 => -9223372036854775808 | _ => 0
def hi : IntKind -> Int
 | .i8 => 127 | .i16 => 32767 | .i32 => 2147483647 | .i64 => 9223372036854775807
 | .u8 => 255 | .u16 => 65535 | .u32 => 4294967295 | .u64 => 18446744073709551615
theorem nJ (k : IntKind) (r : Int) (h : lo k <= r /\ r <= hi k) : k.wrap r = r := by
 obtain ⟨h1, h2⟩ := h
 cases k <;> simp only [lo, hi] at h1 h2 <;> simp only [IntKind.wrap, IntKind.bits, IntKind.signed, Bool.true_and, Bool.false_and, decide_eq_true_eq] <;>
  (first | (split <;> omega) | (simp; omega))
abbrev vI (k : IntKind) (n : Int) : SV := .dt (.cell (.int k n))
abbrev vB (b : Bool) : SV := .dt (.cell (.bool b))
abbrev vS (s : ByteArray) : SV := .dt (.cell (.string s))
def wo (op : BinOp) (k : IntKind) (x y : Int) : T SV :=
 match op with
 | .add => .need (lo k <= x + y /\ x + y <= hi k) (.ret (vI k (x + y)))
 | .sub => .need (lo k <= x - y /\ x - y <= hi k) (.ret (vI k (x - y)))
 | .mul => .need (lo k <= x * y /\ x * y <= hi k) (.ret (vI k (x * y)))
 | .quo => .need (y ≠ 0 /\ lo k <= x.tdiv y /\ x.tdiv y <= hi k) (.ret (vI k (x.tdiv y)))
 | .rem => .need (y ≠ 0) (.ret (vI k (x.tmod y)))
 | .eql => .ret (vB (x == y))
 | .neq => .ret (vB (x != y))
 | .lss => .ret (vB (decide (x < y)))
 | .leq => .ret (vB (decide (x <= y)))
 | .gtr => .ret (vB (decide (x > y)))
 | .geq => .ret (vB (decide (x ≥ y)))
 | _ => .fail
def OU (op : BinOp) (x y : ByteArray) : T SV :=
 match op with
 | .add => .need ((x.size : Int) + y.size <= 9223372036854775807) (.ret (vS (x ++ y)))
 | .eql => .ret (vB (x.data.toList == y.data.toList))
 | .neq => .ret (vB (!(x.data.toList == y.data.toList)))
 | _ => .fail
def vT (op : BinOp) (x y : SV) : T SV :=
 match x, y with
 | .dt (.cell (.int k a)), .dt (.cell (.int k' b)) => if k = k' then wo op k a b else .fail
 | .dt (.cell (.string a)), .dt (.cell (.string b)) => OU op a b
 | _, _ => .fail
theorem aj {C : Ctx} {w : World} {x v : Value} : rel C w (.dt (.cell x)) v ↔ v = x :=
 ⟨fun h => h.here, fun h _ _ => h⟩
theorem oQ {P : Program} {w : World} (op : BinOp) (k : IntKind) (x y : Int) (t : TypeId) (a b : Operand) {s : SV}
  (hok : (wo op k x y).ok) (hv : (wo op k x y).val = some s) :
  ∃ v, s = .dt (.cell v) /\ (do eqGuard op t a b (.int k x) (.int k y); binOp op t (.int k x) (.int k y) : Sem Value).run P w = .ok v w := by
 cases op <;> simp only [wo, T.ok, T.val, Option.some.injEq, and_true, reduceCtorEq] at hok hv <;> (try contradiction) <;> subst hv <;>
  refine ⟨_, rfl, ?_⟩ <;>
  first
   | (simp [eqGuard, binOp, Op.intArith, Op.intDiv, Op.intCmp, nJ _ _ hok]; done)
   | (simp [eqGuard, binOp, Op.intArith, Op.intDiv, Op.intCmp, nJ _ _ hok.2, hok.1]; done)
   | (simp [eqGuard, binOp, Op.intArith, Op.intDiv, Op.intCmp, hok]; done)
   | (simp [eqGuard, binOp, Op.intArith, Op.intDiv, Op.intCmp]; done)
theorem lG {P : Program} {w : World} (op : BinOp) (x y : ByteArray) (t : TypeId) (a b : Operand) {s : SV}
  (hok : (OU op x y).ok) (hv : (OU op x y).val = some s) :
  ∃ v, s = .dt (.cell v) /\ (do eqGuard op t a b (.string x) (.string y); binOp op t (.string x) (.string y) : Sem Value).run P w = .ok v w := by
 cases op <;> simp only [OU, T.ok, T.val, Option.some.injEq, and_true, reduceCtorEq] at hok hv <;> (try contradiction) <;> subst hv <;>
  refine ⟨_, rfl, ?_⟩ <;>
  first
   | (simp [eqGuard, binOp, Op.stringOp, Go.ByteArray.toList_eq]; done)
   | (simp [eqGuard, binOp, Op.stringOp]; exact hok)
theorem HZ {P : Program} {C : Ctx} {w : World} (op : BinOp) (x y : SV) (u v : Value) (t : TypeId) (a b : Operand) {s : SV}
  (hx : rel C w x u) (hy : rel C w y v) (hok : (vT op x y).ok) (hv : (vT op x y).val = some s) :
  ∃ r, s = .dt (.cell r) /\ (do eqGuard op t a b u v; binOp op t u v : Sem Value).run P w = .ok r w := by
 unfold vT at hok hv
 split at hok
 · rename_i k n k' m
   rw [aj] at hx hy
   subst hx; subst hy
   by_cases hk : k = k'
   · subst hk
     simp only [if_true] at hok hv
     exact oQ op k n m t a b hok hv
   · simp [hk, T.ok] at hok
 · rw [aj] at hx hy
   subst hx; subst hy
   simp only at hv
   exact lG op _ _ t a b hok hv
 · simp [T.ok] at hok
def kW (P : Program) (t : TypeId) (f : Nat) : Option Field :=
 match P.underlying t with
 | some (.struct fs) => fs[f]?
 | _ => none
def fU (P : Program) (g : Nat -> Option Ob) (t : TypeId) (p : SV) : T SV :=
 match nQ P t, bg P t with
 | some true, some n =>
   match p with
   | .ptr i off =>
     match g i with
     | some (.cells _ cs) => bif (off + n).ble cs.length then .ret (.agg ((cs.drop off).take n)) else .fail
     | _ => .fail
   | .rp i idx sz off =>
     match g i with
     | some (.row _ sz' m f) => bif Nat.beq sz sz' && (off + n).ble sz then .need (idx < m) (.ret (.agg ((List.range n).map fun j => .dt (f idx (off + j))))) else .fail
     | _ => .fail
   | .el m f => bif n.ble m then .ret (.agg ((List.range n).map fun j => .dt (f j))) else .fail
   | _ => .fail
 | some false, some _ =>
   match p with
   | .ptr i off =>
     match g i with
     | some (.cells _ cs) => match cs[off]? with
       | some s => .ret s
       | none => .fail
     | _ => .fail
   | .rp i idx sz off =>
     match g i with
     | some (.row _ sz' m f) => bif Nat.beq sz sz' && Nat.blt off sz then .need (idx < m) (.ret (.dt (f idx off))) else .fail
     | _ => .fail
   | .el m f => bif Nat.ble 1 m then .ret (.dt (f 0)) else .fail
   | _ => .fail
 | _, _ => .fail
def kL : List SV -> Option (List Dt)
 | [] => some []
 | .dt d :: l => bif eB (.dt d) then (kL l).map (d :: ·) else none
 | .kb b :: l => (kL l).map (.cell (.bool b) :: ·)
 | .ki k n :: l => (kL l).map (.cell (.int k n) :: ·)
 | _ :: _ => none
def setRow (f : Nat -> Nat -> Dt) (idx off : Nat) (ds : List Dt) (k j : Nat) : Dt :=
 if k = idx then bif off.ble j && Nat.blt j (off + ds.length) then ds.getD (j - off) (.cell undef) else f k j else f k j
def iZ (P : Program) (g : Nat -> Option Ob) (t : TypeId) (p v : SV) : T Res :=
 match bg P t, dz v with
 | some n, some us =>
   bif Nat.beq us.length n && us.all eB then
    match p with
    | .ptr i off =>
      match g i with
      | some (.cells t' cs) => bif (off + n).ble cs.length then .ret ⟨.junk, ⟨[(i, some (.cells t' (splice cs off us)))], []⟩⟩ else .fail
      | _ => .fail
    | .rp i idx sz off =>
      match g i, kL us with
      | some (.row t' sz' m f), some ds => bif Nat.beq sz sz' && (off + n).ble sz then .need (idx < m) (.ret ⟨.junk, ⟨[(i, some (.row t' sz' m (setRow f idx off ds)))], []⟩⟩) else .fail
      | _, _ => .fail
    | _ => .fail
   else .fail
 | _, _ => .fail
def eY (P : Program) (s : TypeId) (f : Nat) (p : SV) : T SV :=
 match kW P s f with
 | none => .fail
 | some fl =>
   match bg P fl.type with
   | some (_ + 1) =>
     match p with
     | .ptr i off => .ret (.ptr i (off + fl.offset))
     | .rp i idx sz off => .ret (.rp i idx sz (off + fl.offset))
     | .el m h => bif fl.offset.ble m then .ret (.el (m - fl.offset) fun j => h (j + fl.offset)) else .fail
     | _ => .fail
   | _ => .fail
def eZ (P : Program) (g : Nat -> Option Ob) (t : TypeId) (x ix : SV) : T SV :=
 match P.underlying t, x, ix with
 | some (.slice e), .nm i, .dt (.cell (.int _ iv)) =>
   match bg P e, g i with
   | some z, some (.row _ sz n _) => bif Nat.beq z sz then .need (0 <= iv /\ iv < n) (.ret (.rp i iv.toNat sz 0)) else .fail
   | _, _ => .fail
 | some (.slice e), .dt (.arr sz n f), .dt (.cell (.int _ i)) =>
   match bg P e with
   | some z => bif Nat.beq z sz then .need (0 <= i /\ i < n) (.ret (.el sz fun j => f i.toNat j)) else .fail
   | none => .fail
 | _, _, _ => .fail
def Vp (op : UnOp) (x : SV) : T SV :=
 match op, x with
 | .neg, .dt (.cell (.int k n)) => .need (lo k <= 0 - n /\ 0 - n <= hi k) (.ret (vI k (0 - n)))
 | .not, .dt (.cell (.bool b)) => .ret (vB (!b))
 | .not, .kb b => .ret (.kb (!b))
 | _, _ => .fail
def iN (x : SV) (i : Nat) : T SV :=
 match x with
 | .tup l => match l[i]? with
   | some s => .ret s
   | none => .fail
 | _ => .fail
def Gl (P : Program) (t : TypeId) (l : List SV) (off : Nat) : T SV :=
 match nQ P t, bg P t with
 | some true, some n => .ret (.agg ((l.drop off).take n))
 | some false, some _ => match l[off]? with
   | some s => .ret s
   | none => .fail
 | _, _ => .fail
def mQ (P : Program) (t : TypeId) (x : SV) (f : Nat) : T SV :=
 match kW P t f, x with
 | some fl, .agg l => Gl P fl.type l fl.offset
 | _, _ => .fail
def zu (P : Program) (g : Nat -> Option Ob) (t : TypeId) (x : SV) : T SV :=
 match P.underlying t, x with
 | some (.slice _), .nm i => match g i with
   | some (.row _ _ n _) => .ret (vI .i64 n)
   | _ => .fail
 | some (.slice _), .dt (.cell (.slice _ n _)) => .ret (vI .i64 n)
 | some (.slice _), .dt (.arr _ n _) => .ret (vI .i64 n)
 | some .string, .dt (.cell (.string s)) => .ret (vI .i64 s.size)
 | _, _ => .fail
theorem d9 {P : Program} {t : TypeId} {b : Bool} (h : nQ P t = some b) (w : World) : (isAgg t).run P w = .ok b w := by
 unfold nQ at h
 cases hu : P.underlying t with
 | none => rw [hu] at h; cases h
 | some d =>
   rw [hu] at h
   simp only [Option.map_some, Option.some.injEq] at h
   subst h
   simp only [isAgg, underlying, Sem.run_bind, run_program, Result.andThen_ok, hu, Sem.run_pure]
   cases d <;> rfl
theorem aL {P : Program} {t : TypeId} {n : Nat} (h : bg P t = some n) (w : World) : (Go.sizeOf t).run P w = .ok n w := by
 unfold bg at h
 cases hi : P.info? t with
 | none => rw [hi] at h; cases h
 | some i =>
   rw [hi] at h
   simp only [Option.map_some, Option.some.injEq] at h
   subst h
   simp [Go.sizeOf, typeInfo, hi]
theorem AX {C : Ctx} {w : World} {i b : Nat} {t : TypeId} {cs : List SV} (h : obHolds C w i (.cells t cs)) (hb : C.ν i = some (.pointer (some ⟨b, 0, none⟩))) : ∃ vs : List Value, C.ρ i = some b /\ w.heap[b]? = some (.cells vs.toArray t (0, 0)) /\ relL C w cs vs := by
 obtain ⟨b', h1, h2, vs, h3, h4⟩ := h
 rw [h2] at hb
 injection hb with hb; injection hb with hb; injection hb with hb; injection hb with hb
 subst hb
 exact ⟨vs, h1, h3, h4⟩
theorem Le {C : Ctx} {w : World} {i b n n' c' : Nat} {t : TypeId} {sz : Nat} {f : Nat -> Nat -> Dt} (h : obHolds C w i (.row t sz n f)) (hb : C.ν i = some (.slice (some ⟨b, 0, none⟩) n' c')) :
  n' = n /\ n <= c' /\ ∃ cur : Array Value, C.ρ i = some b /\ w.heap[b]? = some (.cells cur t (0, 0)) /\ cur.size = c' * sz /\ ∀ k j, k < n -> j < sz -> ∃ u, cur[k * sz + j]? = some u /\ u.oneCell' = true /\ rel C w (.dt (f k j)) u := by
 obtain ⟨A, c, h1, h2⟩ := h
 rw [h1] at hb
 injection hb with hb; injection hb with e1 e2 e3
 subst e2; subst e3
 rcases h2 with ⟨h2, _⟩ | ⟨b', h2, h3, h4, cur, h5, h6, h7⟩
 · rw [h2] at e1; cases e1
 · rw [h3] at e1
   injection e1 with e1; injection e1 with e1
   subst e1
   exact ⟨rfl, h4, cur, h2, h5, h6, h7⟩
theorem aZ (b off j : Nat) : (⟨b, off, none⟩ : Addr).add j = ⟨b, off + j, none⟩ := by unfold Addr.add; split <;> simp_all
theorem N9 {C : Ctx} {w : World} {m : Nat} {g : Nat -> Dt} {b off : Nat}
  (h : Pers C.W w (fun w' => ∀ j, j < m -> ∃ u, w'.cell? ⟨b, off + j, none⟩ = some u /\ Rep w' (g j) u)) (j : Nat) (hj : j < m) :
  ∃ u, w.cell? ⟨b, off + j, none⟩ = some u /\ rel C w (.dt (g j)) u := by
 obtain ⟨u, hu⟩ := Eu (h.mono fun w' hw' => hw' j hj)
 exact ⟨u, hu.here.1, hu.mono fun _ h => h.2⟩
theorem kF {C : Ctx} {w : World} (f : Nat -> SV) (c : Nat -> Value) : ∀ (n k : Nat), (∀ j, k <= j -> j < k + n -> rel C w (f j) (c j)) ->
  relL C w ((List.range' k n).map f) ((List.range' k n).map c)
 | 0, _, _ => rfl
 | n + 1, k, h => ⟨c k, _, rfl, h k (Nat.le_refl _) (by omega), kF f c n (k + 1) fun j h1 h2 => h j (by omega) (by omega)⟩
abbrev ObsOk (C : Ctx) (w : World) (g : Nat -> Option Ob) : Prop := ∀ i ob, g i = some ob -> obHolds C w i ob
theorem jG {P : Program} {C : Ctx} {w : World} {g : Nat -> Option Ob} (hg : ObsOk C w g) (t : TypeId) (p s : SV) (u : Value)
  (hp : rel C w p u) (hok : (fU P g t p).ok) (hv : (fU P g t p).val = some s) :
  ∃ v, (Instr.loadAt t u).run P w = .ok v w /\ rel C w s v := by
 unfold fU at hok hv
 cases ha : nQ P t with
 | none => simp [ha, T.ok] at hok
 | some ag =>
 cases hz : bg P t with
 | none => cases ag <;> simp [ha, hz, T.ok] at hok
 | some n =>
 cases ag with
 | true =>
   simp only [ha, hz] at hok hv
   cases p with
   | ptr i off =>
     simp only at hok hv
     cases hgi : g i with
     | none => simp [hgi, T.ok] at hok
     | some ob =>
       cases ob with
       | row _ _ _ _ => simp [hgi, T.ok] at hok
       | frz _ => simp [hgi, T.ok] at hok
       | mp _ _ _ => simp [hgi, T.ok] at hok
       | it _ _ _ => simp [hgi, T.ok] at hok
       | vec _ _ _ _ _ => simp [hgi, T.ok] at hok
       | itx _ _ _ => simp [hgi, T.ok] at hok
       | cells t' cs =>
         simp only [hgi] at hok hv
         cases hc : (off + n).ble cs.length with
         | false => simp [hc, T.ok] at hok
         | true =>
           simp only [hc, cond_true, T.val, Option.some.injEq] at hv
           subst hv
           obtain ⟨b, hb', rfl⟩ := hp
           obtain ⟨vs, hb, hrow, hr⟩ := AX (hg i _ hgi) hb'
           have hlen := Nat.le_of_ble_eq_true hc
           have hvl := aQ hr
           refine ⟨.agg ((vs.drop off).take n).toArray, ?_, _, rfl, qH _ (qG _ hr)⟩
           have hl : ((vs.drop off).take n).length = n := by simp; omega
           have := run_loadCells_list (P := P) w ⟨b, off, none⟩ ((vs.drop off).take n) (fun j v hj => by
            rw [aZ, cell_of_row w b _ vs.toArray t' (0, 0) hrow]
            rw [List.getElem?_take] at hj
            split at hj
            · simpa using hj
            · cases hj)
           rw [hl] at this
           simp only [Instr.loadAt, Instr.sureAddr, loadVar, Sem.run_bind, Sem.run_pure, Result.andThen_ok, d9 ha, aL hz, if_true, this]
   | rp i idx sz off =>
     simp only at hok hv
     cases hgi : g i with
     | none => simp [hgi, T.ok] at hok
     | some ob =>
       cases ob with
       | cells _ _ => simp [hgi, T.ok] at hok
       | frz _ => simp [hgi, T.ok] at hok
       | mp _ _ _ => simp [hgi, T.ok] at hok
       | it _ _ _ => simp [hgi, T.ok] at hok
       | vec _ _ _ _ _ => simp [hgi, T.ok] at hok
       | itx _ _ _ => simp [hgi, T.ok] at hok
       | row t' sz' m f =>
         simp only [hgi] at hok hv
         cases hc : (Nat.beq sz sz' && (off + n).ble sz) with
         | false => rw [hc] at hok; simp [T.ok] at hok
         | true =>
           rw [hc] at hok hv
           simp only [cond_true, T.ok, T.val, Option.some.injEq, and_true] at hok hv
           subst hv
           simp only [Bool.and_eq_true] at hc
           have e1 := Nat.eq_of_beq_eq_true hc.1
           have e2 := Nat.le_of_ble_eq_true hc.2
           subst e1
           obtain ⟨b, n', c', hb', rfl⟩ := hp
           obtain ⟨_, hnc, cur, _, hrow, hsz, hcells⟩ := Le (hg i _ hgi) hb'
           let cell : Nat -> Value := fun j => (w.cell? ⟨b, idx * sz + off + j, none⟩).getD undef
           have hcell : ∀ j, j < n -> w.cell? ⟨b, idx * sz + off + j, none⟩ = some (cell j) /\ rel C w (.dt (f idx (off + j))) (cell j) := fun j hj => by
             obtain ⟨u, hu, hr⟩ := hcells idx (off + j) hok (by omega)
             have hh : w.cell? ⟨b, idx * sz + off + j, none⟩ = some u := by rw [cell_of_row w b _ cur t' (0, 0) hrow, ← hu, Nat.add_assoc]
             have : cell j = u := by simp [cell, hh]
             rw [this]; exact ⟨hh, hr.2⟩
           have hrun := run_loadCells (P := P) w ⟨b, idx * sz + off, none⟩ n cell (fun j hj => by rw [aZ]; exact (hcell j hj).1)
           refine ⟨.agg ((List.range n).map cell).toArray, ?_, _, rfl, ?_⟩
           · simp only [Instr.loadAt, Instr.sureAddr, loadVar, Sem.run_bind, Sem.run_pure, Result.andThen_ok, d9 ha, aL hz, if_true, hrun]
           · rw [List.range_eq_range']
             exact kF _ cell n 0 fun j _ hj => (hcell j (by omega)).2
   | el m f =>
     simp only at hok hv
     cases hc : n.ble m with
     | false => simp [hc, T.ok] at hok
     | true =>
       simp only [hc, cond_true, T.val, Option.some.injEq] at hv
       subst hv
       have hnm := Nat.le_of_ble_eq_true hc
       obtain ⟨b, off, rfl, hP⟩ := hp
       let cell : Nat -> Value := fun j => (w.cell? ⟨b, off + j, none⟩).getD undef
       have hcell : ∀ j, j < n -> w.cell? ⟨b, off + j, none⟩ = some (cell j) /\ rel C w (.dt (f j)) (cell j) := fun j hj => by
        obtain ⟨u, hu, hr⟩ := N9 hP j (by omega)
        have : cell j = u := by simp [cell, hu]
        rw [this]; exact ⟨hu, hr⟩
       have hrun := run_loadCells (P := P) w ⟨b, off, none⟩ n cell (fun j hj => by rw [aZ]; exact (hcell j hj).1)
       refine ⟨.agg ((List.range n).map cell).toArray, ?_, _, rfl, ?_⟩
       · simp only [Instr.loadAt, Instr.sureAddr, loadVar, Sem.run_bind, Sem.run_pure, Result.andThen_ok, d9 ha, aL hz, if_true, hrun]
       · rw [List.range_eq_range']
         exact kF _ cell n 0 fun j _ hj => (hcell j (by omega)).2
   | _ => simp [T.ok] at hok
 | false =>
   simp only [ha, hz] at hok hv
   cases p with
   | ptr i off =>
     simp only at hok hv
     cases hgi : g i with
     | none => simp [hgi, T.ok] at hok
     | some ob =>
       cases ob with
       | row _ _ _ _ => simp [hgi, T.ok] at hok
       | frz _ => simp [hgi, T.ok] at hok
       | mp _ _ _ => simp [hgi, T.ok] at hok
       | it _ _ _ => simp [hgi, T.ok] at hok
       | vec _ _ _ _ _ => simp [hgi, T.ok] at hok
       | itx _ _ _ => simp [hgi, T.ok] at hok
       | cells t' cs =>
         simp only [hgi] at hok hv
         cases hc : cs[off]? with
         | none => simp [hc, T.ok] at hok
         | some s' =>
           simp only [hc, T.val, Option.some.injEq] at hv
           subst hv
           obtain ⟨b, hb', rfl⟩ := hp
           obtain ⟨vs, hb, hrow, hr⟩ := AX (hg i _ hgi) hb'
           obtain ⟨v, hv1, hr⟩ := aY off s' hr hc
           have hcell : w.cell? ⟨b, off, none⟩ = some v := by rw [cell_of_row w b off vs.toArray t' (0, 0) hrow]; simpa using hv1
           refine ⟨v, ?_, hr⟩
           simp [Instr.loadAt, Instr.sureAddr, loadVar, d9 ha, run_load, hcell]
   | rp i idx sz off =>
     simp only at hok hv
     cases hgi : g i with
     | none => simp [hgi, T.ok] at hok
     | some ob =>
       cases ob with
       | cells _ _ => simp [hgi, T.ok] at hok
       | frz _ => simp [hgi, T.ok] at hok
       | mp _ _ _ => simp [hgi, T.ok] at hok
       | it _ _ _ => simp [hgi, T.ok] at hok
       | vec _ _ _ _ _ => simp [hgi, T.ok] at hok
       | itx _ _ _ => simp [hgi, T.ok] at hok
       | row t' sz' m f =>
         simp only [hgi] at hok hv
         cases hc : (Nat.beq sz sz' && Nat.blt off sz) with
         | false => rw [hc] at hok; simp [T.ok] at hok
         | true =>
           rw [hc] at hok hv
           simp only [cond_true, T.ok, T.val, Option.some.injEq, and_true] at hok hv
           subst hv
           simp only [Bool.and_eq_true, Nat.blt_eq] at hc
           have e1 := Nat.eq_of_beq_eq_true hc.1
           subst e1
           obtain ⟨b, n', c', hb', rfl⟩ := hp
           obtain ⟨_, hnc, cur, _, hrow, hsz, hcells⟩ := Le (hg i _ hgi) hb'
           obtain ⟨u, hu, hr⟩ := hcells idx off hok hc.2
           have hh : w.cell? ⟨b, idx * sz + off, none⟩ = some u := by rw [cell_of_row w b _ cur t' (0, 0) hrow, ← hu]
           exact ⟨u, by simp [Instr.loadAt, Instr.sureAddr, loadVar, d9 ha, run_load, hh], hr.2⟩
   | el m f =>
     simp only at hok hv
     cases hc : Nat.ble 1 m with
     | false => simp [hc, T.ok] at hok
     | true =>
       simp only [hc, cond_true, T.val, Option.some.injEq] at hv
       subst hv
       obtain ⟨b, off, rfl, hP⟩ := hp
       obtain ⟨u, hu, hr⟩ := N9 hP 0 (Nat.le_of_ble_eq_true hc)
       refine ⟨u, ?_, hr⟩
       rw [Nat.add_zero] at hu
       simp [Instr.loadAt, Instr.sureAddr, loadVar, d9 ha, run_load, hu]
   | _ => simp [T.ok] at hok
end Rx
set_option linter.unusedSectionVars false
set_option linter.unusedSimpArgs false
set_option linter.unusedVariables false
namespace Rx
open Go
variable [Glob]
theorem qL {C : Ctx} {w : World} : ∀ {l : List SV} {ds : List Dt} {vs : List Value}, kL l = some ds -> relL C w l vs ->
  ds.length = l.length /\ ∀ (j : Nat) (d : Dt), ds[j]? = some d -> ∃ v, vs[j]? = some v /\ v.oneCell' = true /\ rel C w (.dt d) v
 | [], ds, vs, h, _ => by simp only [kL, Option.some.injEq] at h; subst h; simp
 | s :: l, ds, vs, h, hr => by
   have key : ∀ d, (kL l).map (d :: ·) = some ds -> (∀ v, rel C w s v -> v.oneCell' = true /\ rel C w (.dt d) v) -> ds.length = (s :: l).length /\ ∀ (j : Nat) (d : Dt), ds[j]? = some d -> ∃ v, vs[j]? = some v /\ v.oneCell' = true /\ rel C w (.dt d) v := by
     intro d h hs
     obtain ⟨v, r, rfl, h1, h2⟩ := hr
     have h1 := hs v h1
     cases ht : kL l with
     | none => simp [ht] at h
     | some ds' =>
       simp only [ht, Option.map_some, Option.some.injEq] at h
       subst h
       obtain ⟨hl, hg⟩ := qL ht h2
       refine ⟨by simp [hl], fun j d' hj => ?_⟩
       cases j with
       | zero => simp at hj; subst hj; exact ⟨v, rfl, h1⟩
       | succ j => simpa using hg j d' (by simpa using hj)
   cases s with
   | dt d =>
     simp only [kL] at h
     cases ho : eB (.dt d) with
     | false => rw [ho] at h; cases h
     | true => rw [ho] at h; exact key d h (fun v h => ⟨gV ho h, h⟩)
   | kb b => exact key (.cell (.bool b)) h (fun v h => ⟨gV (s := .kb b) rfl h, aj.2 h⟩)
   | ki k n => exact key (.cell (.int k n)) h (fun v h => ⟨gV (s := .ki k n) rfl h, aj.2 h⟩)
   | _ => simp [kL] at h
theorem kH {α : Type} (l cs : List α) (off j : Nat) (h : off + cs.length <= l.length) : (splice l off cs)[j]? = if off <= j /\ j < off + cs.length then cs[j - off]? else l[j]? := by
 unfold splice
 have e1 : (l.take off).length = off := by simp; omega
 rw [List.append_assoc, List.getElem?_append, e1]
 by_cases h1 : j < off
 · rw [if_pos h1, if_neg (by omega), List.getElem?_take, if_pos h1]
 · rw [if_neg h1, List.getElem?_append]
   by_cases h2 : j - off < cs.length
   · rw [if_pos h2, if_pos (by omega)]
   · rw [if_neg h2, if_neg (by omega), List.getElem?_drop]
     congr 1; omega
theorem lY {P : Program} {C : Ctx} {w : World} {g : Nat -> Option Ob} (hw : WF C w) (hg : ObsOk C w g) (t : TypeId) (p v : SV) (u x : Value) {r : Res}
  (hp : rel C w p u) (hx : rel C w v x) (hok : (iZ P g t p v).ok) (hv : (iZ P g t p v).val = some r) :
  ∃ w', (Instr.storeAt t u x).run P w = .ok () w' /\ Came C w r C w' undef := by
 unfold iZ at hok hv
 cases hz : bg P t with
 | none => simp [hz, T.ok] at hok
 | some n =>
 cases hc : dz v with
 | none => simp [hz, hc, T.ok] at hok
 | some us =>
 simp only [hz, hc] at hok hv
 cases hb : (Nat.beq us.length n && us.all eB) with
 | false => rw [hb] at hok; simp [T.ok] at hok
 | true =>
 rw [hb] at hok hv
 simp only [cond_true] at hok hv
 simp only [Bool.and_eq_true] at hb
 obtain ⟨h1, h3⟩ := hb
 have e1 := Nat.eq_of_beq_eq_true h1
 obtain ⟨xs, hxs, hrx⟩ := gq hc hx
 have hxl := aQ hrx
 have hones : ∀ y ∈ xs, y.oneCell' = true := by
  intro y hy
  obtain ⟨j, hj⟩ := List.getElem?_of_mem hy
  have hjl : j < us.length := by
   have := (List.getElem?_eq_some_iff.1 hj).1; omega
  have hus : us[j]? = some us[j] := List.getElem?_eq_getElem hjl
  obtain ⟨y', hy', hry⟩ := aY j _ hrx hus
  rw [hj] at hy'; injection hy' with hy'; subst hy'
  exact gV (List.all_eq_true.1 h3 _ (List.getElem_mem hjl)) hry
 have write : ∀ (i b off : Nat) (cur : Array Value) (t' : TypeId), C.ρ i = some b -> w.heap[b]? = some (.cells cur t' (0, 0)) -> off + n <= cur.size -> ∀ ob, (∀ w', Step (fun j => j = i) C w C w' -> w'.heap[b]? = some (.cells (splice cur.toList off xs).toArray t' (0, 0)) -> obHolds C w' i ob) ->
   ∃ w', (Instr.storeAt t (.pointer (some ⟨b, off, none⟩)) x).run P w = .ok () w' /\ Came C w ⟨.junk, ⟨[(i, some ob)], []⟩⟩ C w' undef := by
  intro i b off cur t' hb hrow hlen ob hob
  have hrun := run_storeCells_at (P := P) b off t' xs 0 cur w hrow (by omega) hones
  have econ : (cur.toList.take (off + 0) ++ xs ++ cur.toList.drop (off + 0 + xs.length)).toArray = (splice cur.toList off xs).toArray := by simp [splice]
  rw [econ] at hrun
  have hset := setRow_heap w b cur (splice cur.toList off xs).toArray t' (0, 0) hrow
  have hstep : Step (fun j => j = i) C w C (w.setRow b (splice cur.toList off xs).toArray) := by
   refine ⟨fun _ _ h => h, rfl, fun j _ h => .inl ⟨j, h⟩, fun _ _ _ h => h, ⟨rfl, rfl, rfl, by simp, fun k hk hn => ?_⟩⟩
   have : k ≠ b := fun e => hn ⟨i, rfl, e ▸ hb⟩
   exact setRow_other w b k _ this
  refine ⟨w.setRow b (splice cur.toList off xs).toArray, ?_, trivial, hstep.mono fun j hj => (by subst hj; simp [Eff.X, Eff.touched]), jc hw hstep, fun j h => .inl h, fun j ob' hj => ?_⟩
  · simp only [Instr.storeAt, Instr.sureAddr, storeVar, Sem.run_bind, Sem.run_pure, Result.andThen_ok, aL hz, hxs]
    rw [if_neg (by simp; omega)]
    exact hrun
  · by_cases hji : j = i
    · subst hji
      simp [List.lookup] at hj
      subst hj
      exact hob _ hstep hset
    · have : (j == i) = false := by simpa using hji
      simp [List.lookup, this] at hj
 cases p with
 | ptr i off =>
   simp only at hok hv
   cases hgi : g i with
   | none => simp [hgi, T.ok] at hok
   | some ob =>
     cases ob with
     | row _ _ _ _ => simp [hgi, T.ok] at hok
     | frz _ => simp [hgi, T.ok] at hok
     | mp _ _ _ => simp [hgi, T.ok] at hok
     | it _ _ _ => simp [hgi, T.ok] at hok
     | vec _ _ _ _ _ => simp [hgi, T.ok] at hok
     | itx _ _ _ => simp [hgi, T.ok] at hok
     | cells t' cs =>
       simp only [hgi] at hok hv
       cases hb : (off + n).ble cs.length with
       | false => rw [hb] at hok; simp [T.ok] at hok
       | true =>
         rw [hb] at hv
         simp only [cond_true, T.val, Option.some.injEq] at hv
         subst hv
         have e2 := Nat.le_of_ble_eq_true hb
         obtain ⟨b, hb', rfl⟩ := hp
         obtain ⟨vs, hb, hrow, hr⟩ := AX (hg i _ hgi) hb'
         have hvl := aQ hr
         refine write i b off vs.toArray t' hb hrow (by simp; omega) _ fun w' hstep hh => ⟨b, hb, hb', splice vs off xs, by simpa using hh, wK off (cO hstep _ _ hr) (cO hstep _ _ hrx)⟩
 | rp i idx sz off =>
   simp only at hok hv
   cases hgi : g i with
   | none => simp [hgi, T.ok] at hok
   | some ob =>
     cases ob with
     | cells _ _ => simp [hgi, T.ok] at hok
     | frz _ => simp [hgi, T.ok] at hok
     | mp _ _ _ => simp [hgi, T.ok] at hok
     | it _ _ _ => simp [hgi, T.ok] at hok
     | vec _ _ _ _ _ => simp [hgi, T.ok] at hok
     | itx _ _ _ => simp [hgi, T.ok] at hok
     | row t' sz' m f =>
       cases hd : kL us with
       | none => simp [hgi, hd, T.ok] at hok
       | some ds =>
       simp only [hgi, hd] at hok hv
       cases hb : (Nat.beq sz sz' && (off + n).ble sz) with
       | false => rw [hb] at hok; simp [T.ok] at hok
       | true =>
         rw [hb] at hok hv
         simp only [cond_true, T.val, T.ok, and_true, Option.some.injEq] at hok hv
         subst hv
         simp only [Bool.and_eq_true] at hb
         have e2 := Nat.eq_of_beq_eq_true hb.1
         have e3 := Nat.le_of_ble_eq_true hb.2
         subst e2
         obtain ⟨b, n', c', hb', rfl⟩ := hp
         obtain ⟨hn', hnc, cur, hb, hrow, hsz, hcells⟩ := Le (hg i _ hgi) hb'
         obtain ⟨hdl, hdg⟩ := qL hd hrx
         have hfit : idx * sz + sz <= cur.size := by
           rw [hsz]
           have : (idx + 1) * sz <= c' * sz := Nat.mul_le_mul_right sz (by omega)
           rw [Nat.add_mul, Nat.one_mul] at this
           exact this
         refine write i b (idx * sz + off) cur t' hb hrow (by omega) _ fun w' hstep hh => ⟨some ⟨b, 0, none⟩, c', by rw [hb', hn'], .inr ⟨b, hb, rfl, hnc, _, hh, ?_, fun k j hk hj => ?_⟩⟩
         · rw [← hsz]
           simp [splice]; omega
         · have hsg := kH cur.toList xs (idx * sz + off) (k * sz + j) (by simp; omega)
           simp only [List.getElem?_toArray]
           rw [hsg]
           have lin : ∀ a c : Nat, a < c -> a * sz + sz <= c * sz := fun a c h => by
            have : (a + 1) * sz <= c * sz := Nat.mul_le_mul_right sz h
            rw [Nat.add_mul, Nat.one_mul] at this
            exact this
           by_cases hki : k = idx
           · subst hki
             by_cases hin : off <= j /\ j < off + xs.length
             · rw [if_pos (by omega)]
               have hjd : ds[j - off]? = some (ds[j - off]'(by omega)) := List.getElem?_eq_getElem _
               obtain ⟨v', hv1, hv2⟩ := hdg _ _ hjd
               refine ⟨v', by rw [← hv1]; congr 1; omega, hv2.1, ?_⟩
               have hst := aC hstep _ _ hv2.2
               have e : setRow f k off ds k j = ds[j - off]'(by omega) := by
                have a1 : off.ble j = true := by rw [Nat.ble_eq]; exact hin.1
                have a2 : Nat.blt j (off + ds.length) = true := by rw [Nat.blt_eq]; omega
                simp only [setRow, if_true, a1, a2, Bool.and_self, cond_true, List.getD_eq_getElem?_getD, hjd, Option.getD_some]
               rw [e]
               exact hst
             · rw [if_neg (by omega)]
               obtain ⟨u', hu1, hu2⟩ := hcells k j hk hj
               refine ⟨u', by simpa using hu1, hu2.1, ?_⟩
               have hst := aC hstep _ _ hu2.2
               have e : setRow f k off ds k j = f k j := by
                have a1 : (off.ble j && Nat.blt j (off + ds.length)) = false := by
                   cases h1 : off.ble j with
                   | false => rfl
                   | true =>
                     cases h2 : Nat.blt j (off + ds.length) with
                     | false => rfl
                     | true => rw [Nat.blt_eq] at h2; have := Nat.le_of_ble_eq_true h1; omega
                simp only [setRow, if_true, a1, cond_false]
               rw [e]
               exact hst
           · have hne : ¬ (idx * sz + off <= k * sz + j /\ k * sz + j < idx * sz + off + xs.length) := by
              rcases Nat.lt_or_gt_of_ne hki with h | h
              · have := lin k idx h; omega
              · have := lin idx k h; omega
             rw [if_neg hne]
             obtain ⟨u', hu1, hu2⟩ := hcells k j hk hj
             refine ⟨u', by simpa using hu1, hu2.1, ?_⟩
             have e : setRow f idx off ds k j = f k j := by simp only [setRow, hki, if_false]
             rw [e]
             exact aC hstep _ _ hu2.2
 | _ => simp [T.ok] at hok
theorem sS {P : Program} {s : TypeId} {f : Nat} {fl : Field} (h : kW P s f = some fl) : ∃ fs, P.underlying s = some (.struct fs) /\ fs[f]? = some fl := by
 unfold kW at h
 split at h
 · exact ⟨_, ‹_›, h⟩
 · cases h
theorem sQ {P : Program} {C : Ctx} {w : World} (t : TypeId) (f : Nat) (p s : SV) (u : Value)
  (hp : rel C w p u) (hok : (eY P t f p).ok) (hv : (eY P t f p).val = some s) :
  ∃ v, (Instr.fieldAt t u f).run P w = .ok v w /\ rel C w s v := by
 unfold eY at hok hv
 cases hf : kW P t f with
 | none => simp [hf, T.ok] at hok
 | some fl =>
 simp only [hf] at hok hv
 obtain ⟨fs, hu, hfs⟩ := sS hf
 cases hz : bg P fl.type with
 | none => simp [hz, T.ok] at hok
 | some n =>
 cases n with
 | zero => simp [hz, T.ok] at hok
 | succ n =>
 simp only [hz] at hok hv
 have hrun : ∀ a : Addr, a.spot = none -> (Instr.fieldAt t (.pointer (some a)) f).run P w = .ok (.pointer (some (a.add fl.offset))) w := by
  intro a _
  simp [Instr.fieldAt, underlying, hu, hfs, Instr.sureAddr, fieldPlace, aL hz]
 cases p with
 | ptr i off =>
   simp only [T.val, Option.some.injEq] at hv
   subst hv
   obtain ⟨b, hb, rfl⟩ := hp
   exact ⟨_, hrun _ rfl, b, hb, by rw [aZ]⟩
 | rp i idx sz off =>
   simp only [T.val, Option.some.injEq] at hv
   subst hv
   obtain ⟨b, n', c', hb, rfl⟩ := hp
   exact ⟨_, hrun _ rfl, b, n', c', hb, by rw [aZ, Nat.add_assoc]⟩
 | el m g =>
   simp only at hok hv
   cases hc : fl.offset.ble m with
   | false => simp [hc, T.ok] at hok
   | true =>
     simp only [hc, cond_true, T.val, Option.some.injEq] at hv
     subst hv
     have hle := Nat.le_of_ble_eq_true hc
     obtain ⟨b, off, rfl, hP⟩ := hp
     refine ⟨_, hrun _ rfl, b, off + fl.offset, by rw [aZ], hP.mono fun w' hw' j hj => ?_⟩
     obtain ⟨u, h1, h2⟩ := hw' (j + fl.offset) (by omega)
     refine ⟨u, ?_, h2⟩
     rw [← h1]; congr 2; omega
 | _ => simp [T.ok] at hok
theorem tH {P : Program} {C : Ctx} {w : World} {g : Nat -> Option Ob} (hg : ObsOk C w g) (t : TypeId) (x ix s : SV) (u v : Value)
  (hx : rel C w x u) (hi : rel C w ix v) (hok : (eZ P g t x ix).ok) (hv : (eZ P g t x ix).val = some s) :
  ∃ y, (Instr.indexAt t u v).run P w = .ok y w /\ rel C w s y := by
 unfold eZ at hok hv
 split at hok
 · rename_i e i k iv hu
   simp only [hu] at hv
   cases hz : bg P e with
   | none => simp [hz, T.ok] at hok
   | some z =>
   cases hgi : g i with
   | none => simp [hz, hgi, T.ok] at hok
   | some ob =>
   cases ob with
   | cells _ _ => simp [hz, hgi, T.ok] at hok
   | frz _ => simp [hz, hgi, T.ok] at hok
   | mp _ _ _ => simp [hz, hgi, T.ok] at hok
   | it _ _ _ => simp [hz, hgi, T.ok] at hok
   | vec _ _ _ _ _ => simp [hz, hgi, T.ok] at hok
   | itx _ _ _ => simp [hz, hgi, T.ok] at hok
   | row t' sz n f =>
     simp only [hz, hgi] at hok hv
     cases hb : Nat.beq z sz with
     | false => simp [hb, T.ok] at hok
     | true =>
       have := Nat.eq_of_beq_eq_true hb
       subst this
       simp only [hb, cond_true, T.val, T.ok, Option.some.injEq, and_true] at hv hok
       subst hv
       obtain ⟨h0, h1⟩ := hok
       rw [aj] at hi
       subst hi
       have hh := hg i _ hgi
       obtain ⟨A, c, h2, h3⟩ := hh
       have hu' : C.ν i = some u := hx.1
       rw [h2] at hu'
       injection hu' with hu'
       subst hu'
       rcases h3 with ⟨_, h3, _⟩ | ⟨b, _, rfl, _, _⟩
       · omega
       · refine ⟨.pointer (some ⟨b, iv.toNat * z, none⟩), ?_, b, n, c, h2, rfl⟩
         simp only [Instr.indexAt, asIntOf, underlying, Sem.run_bind, Sem.run_pure, run_program, Result.andThen_ok, hu]
         rw [if_pos ⟨h0, h1⟩]
         simp only [Sem.run_bind, Sem.run_pure, Result.andThen_ok, aL hz, aZ, Nat.zero_add]
 · rename_i e sz n f k i hu
   simp only [hu] at hv
   cases hz : bg P e with
   | none => simp [hz, T.ok] at hok
   | some z =>
     simp only [hz] at hok hv
     cases hb : Nat.beq z sz with
     | false => simp [hb, T.ok] at hok
     | true =>
       have := Nat.eq_of_beq_eq_true hb
       subst this
       simp only [hb, cond_true, T.val, T.ok, Option.some.injEq, and_true] at hv hok
       subst hv
       obtain ⟨h0, h1⟩ := hok
       rw [aj] at hi
       subst hi
       obtain ⟨A, c, rfl, hnc, hcells⟩ := hx.here
       have hn : 0 < n := by omega
       obtain ⟨b, off, rfl, _⟩ := hcells hn
       refine ⟨.pointer (some ⟨b, off + i.toNat * z, none⟩), ?_, b, off + i.toNat * z, rfl, hx.mono fun w' hw' j hj => ?_⟩
       · simp only [Instr.indexAt, asIntOf, underlying, Sem.run_bind, Sem.run_pure, run_program, Result.andThen_ok, hu]
         rw [if_pos ⟨h0, h1⟩]
         simp only [Sem.run_bind, Sem.run_pure, Result.andThen_ok, aL hz, aZ]
       · obtain ⟨A', c', e', _, hcells'⟩ := hw'
         injection e' with e1 e2 e3
         subst e1
         obtain ⟨b', off', e4, hh⟩ := hcells' hn
         injection e4 with e4
         injection e4 with e5 e6
         subst e5; subst e6
         obtain ⟨u, q1, q2⟩ := hh i.toNat (by omega) j hj
         exact ⟨u, q1, q2.2⟩
 · simp [T.ok] at hok
theorem rX {P : Program} {C : Ctx} {w : World} (op : UnOp) (x s : SV) (u : Value)
  (hx : rel C w x u) (hok : (Vp op x).ok) (hv : (Vp op x).val = some s) : ∃ y, (Op.unary op u).run P w = .ok y w /\ rel C w s y := by
 unfold Vp at hok hv
 split at hok
 · rw [aj] at hx; subst hx
   simp only [T.val, T.ok, and_true, Option.some.injEq] at hok hv
   subst hv
   exact ⟨_, by simp only [Op.unary, Op.intArith, Sem.run_pure]; rfl, aj.2 (by rw [nJ _ _ hok])⟩
 · rw [aj] at hx; subst hx
   simp only [T.val, Option.some.injEq] at hv
   subst hv
   exact ⟨_, by simp only [Op.unary, Sem.run_pure], aj.2 rfl⟩
 · rename_i b
   have hx : u = .bool b := hx
   subst hx
   simp only [T.val, Option.some.injEq] at hv
   subst hv
   exact ⟨.bool (!b), by simp only [Op.unary, Sem.run_pure], rfl⟩
 · simp [T.ok] at hok
theorem nM {P : Program} {C : Ctx} {w : World} (x s : SV) (u : Value) (i : Nat)
  (hx : rel C w x u) (hok : (iN x i).ok) (hv : (iN x i).val = some s) : ∃ y, (Instr.extract u i).run P w = .ok y w /\ rel C w s y := by
 cases x with
 | tup l =>
   unfold iN at hok hv
   simp only at hok hv
   cases hl : l[i]? with
   | none => simp [hl, T.ok] at hok
   | some s' =>
     simp only [hl, T.val, Option.some.injEq] at hv
     subst hv
     obtain ⟨vs, rfl, hr⟩ := hx
     obtain ⟨v, h1, h2⟩ := aY i s' hr hl
     exact ⟨v, by simp [Instr.extract, h1], h2⟩
 | _ => simp [iN, T.ok] at hok
theorem Gm {P : Program} {C : Ctx} {w : World} (t : TypeId) (l : List SV) (vs : List Value) (off : Nat) (s : SV)
  (hx : relL C w l vs) (hok : (Gl P t l off).ok) (hv : (Gl P t l off).val = some s) : ∃ y, (part t vs.toArray off).run P w = .ok y w /\ rel C w s y := by
 unfold Gl at hok hv
 cases ha : nQ P t with
 | none => simp [ha, T.ok] at hok
 | some ag =>
 cases hz : bg P t with
 | none => cases ag <;> simp [ha, hz, T.ok] at hok
 | some n =>
 cases ag with
 | true =>
   simp only [ha, hz, T.val, Option.some.injEq] at hv
   subst hv
   refine ⟨.agg ((vs.drop off).take n).toArray, ?_, _, rfl, qH _ (qG _ hx)⟩
   simp only [part, Sem.run_bind, Sem.run_pure, Result.andThen_ok, d9 ha, aL hz, if_true]
   congr 2
   apply Array.ext'
   rw [Array.toList_extract]
   simp [List.extract]
 | false =>
   simp only [ha, hz] at hok hv
   cases hl : l[off]? with
   | none => simp [hl, T.ok] at hok
   | some s' =>
     simp only [hl, T.val, Option.some.injEq] at hv
     subst hv
     obtain ⟨v, h1, h2⟩ := aY off s' hx hl
     exact ⟨v, by simp [part, d9 ha, h1], h2⟩
theorem qY {P : Program} {C : Ctx} {w : World} (t : TypeId) (x s : SV) (u : Value) (f : Nat)
  (hx : rel C w x u) (hok : (mQ P t x f).ok) (hv : (mQ P t x f).val = some s) : ∃ y, (Instr.field t u f).run P w = .ok y w /\ rel C w s y := by
 unfold mQ at hok hv
 cases hf : kW P t f with
 | none => simp [hf, T.ok] at hok
 | some fl =>
 obtain ⟨fs, hu, hfs⟩ := sS hf
 cases x with
 | agg l =>
   simp only [hf] at hok hv
   obtain ⟨vs, rfl, hr⟩ := hx
   obtain ⟨y, h1, h2⟩ := Gm fl.type l vs fl.offset s hr hok hv
   exact ⟨y, by simp [Instr.field, underlying, hu, hfs, asAgg, h1], h2⟩
 | _ => simp [hf, T.ok] at hok
theorem IY {P : Program} {C : Ctx} {w : World} {g : Nat -> Option Ob} (hg : ObsOk C w g) (x s : SV) (u : Value) (t ty : TypeId)
  (hx : rel C w x u) (hok : (zu P g t x).ok) (hv : (zu P g t x).val = some s) : ∃ y, (Builtin.len_ #[t] ty #[u]).run P w = .ok y w /\ rel C w s y := by
 unfold zu at hok hv
 split at hok
 · rename_i e i hu
   simp only [hu] at hv
   cases hgi : g i with
   | none => simp [hgi, T.ok] at hok
   | some ob =>
   cases ob with
   | cells _ _ => simp [hgi, T.ok] at hok
   | frz _ => simp [hgi, T.ok] at hok
   | mp _ _ _ => simp [hgi, T.ok] at hok
   | it _ _ _ => simp [hgi, T.ok] at hok
   | vec _ _ _ _ _ => simp [hgi, T.ok] at hok
   | itx _ _ _ => simp [hgi, T.ok] at hok
   | row t' sz n f =>
     simp only [hgi, T.val, Option.some.injEq] at hv
     subst hv
     obtain ⟨A, c, h2, _⟩ := hg i _ hgi
     have hu' : C.ν i = some u := hx.1
     rw [h2] at hu'
     injection hu' with hu'
     subst hu'
     exact ⟨_, by simp [Builtin.len_, underlying, hu]; rfl, aj.2 rfl⟩
 · rename_i e A n c hu
   rw [aj] at hx
   subst hx
   simp only [hu, T.val, Option.some.injEq] at hv
   subst hv
   exact ⟨_, by simp [Builtin.len_, underlying, hu]; rfl, aj.2 rfl⟩
 · rename_i e sz n f hu
   obtain ⟨A, c, rfl, _⟩ := hx.here
   simp only [hu, T.val, Option.some.injEq] at hv
   subst hv
   exact ⟨_, by simp [Builtin.len_, underlying, hu]; rfl, aj.2 rfl⟩
 · rename_i str hu
   rw [aj] at hx
   subst hx
   simp only [hu, T.val, Option.some.injEq] at hv
   subst hv
   exact ⟨_, by simp [Builtin.len_, underlying, hu]; rfl, aj.2 rfl⟩
 · simp [T.ok] at hok
end Rx
