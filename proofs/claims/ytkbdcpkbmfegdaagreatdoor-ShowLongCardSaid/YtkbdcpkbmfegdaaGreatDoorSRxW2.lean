/- Rx, part W2: operations in the order of the text, all calls gone into. -/
import Derived.Test.YtkbdcpkbmfegdaaGreatDoorSRxV8
set_option linter.unusedSectionVars false
set_option linter.unusedSimpArgs false
set_option linter.unusedVariables false
namespace Rx
open Go
variable [Glob]
structure CS where
 sl : Nat -> SV
 h : HS
structure StepC (E : CEnv) (n0 : Nat) (C : Ctx) (w : World) (C' : Ctx) (w' : World) : Prop where
 st : Step E.X C w C' w'
 tp : ∀ i, i < n0 ∨ E.top <= i -> C'.ν i = C.ν i
theorem StepC.refl (E : CEnv) (n0 : Nat) (C : Ctx) (w : World) : StepC E n0 C w C w := ⟨Step.refl C w, fun _ _ => rfl⟩
theorem StepC.trans {E : CEnv} {n0 n1 : Nat} {C C' C'' : Ctx} {w w' w'' : World} (hw : WF C' w') (hn : n0 <= n1) (h : StepC E n0 C w C' w') (k : StepC E n1 C' w' C'' w'') : StepC E n0 C w C'' w'' :=
 ⟨Step.trans hw h.st k.st, fun i hi => (k.tp i (hi.imp (fun h => Nat.lt_of_lt_of_le h hn) id)).trans (h.tp i hi)⟩
structure InvC (E : CEnv) (C : Ctx) (σ : CS) (a : Act) (w : World) : Prop where
 hk : HOk E.top σ.h C w
 ok : σ.h.Ok
 sz : a.tmps.size = E.N
 df : a.defers = []
 sl : ∀ j, rel C w (σ.sl j) (a.tmps.getD j undef)
def putT (d : Option Tmp) (s : SV) (t : Nat -> SV) (j : Nat) : SV := lq d j s (t j)
def fT (N : Nat) (d : Option Tmp) : Bool :=
 match d with
 | some t => Nat.blt t N
 | none => true
theorem InvC.put {E : CEnv} {C C' : Ctx} {σ : CS} {a : Act} {w w' : World} {h' : HS} {s : SV} {v : Value} {d : Option Tmp} (h : InvC E C σ a w) (hst : Step E.X C w C' w') (hk : HOk E.top h' C' w') (ho : h'.Ok) (hr : rel C' w' s v) (hd : fT E.N d = true) :
  InvC E C' ⟨putT d s σ.sl, h'⟩ (a.put d v) w' := by
 have hlt : ∀ t, d = some t -> t < a.tmps.size := fun t e => by subst e; rw [h.sz]; simpa [fT, Nat.blt_eq] using hd
 refine ⟨hk, ho, ?_, ?_, fun j => ?_⟩
 · cases d <;> simp [Act.put, h.sz]
 · cases d <;> exact h.df
 · show rel C' w' (lq d j s (σ.sl j)) _
   rw [j5 _ _ _ _ hlt]
   cases d with
   | none => exact aC hst _ _ (h.sl j)
   | some t =>
     simp only [aS]
     by_cases hj : j = t
     · subst hj; simp only [if_true]; exact hr
     · simp only [hj, if_false]; exact aC hst _ _ (h.sl j)
def dZ : SV := .dt (.cell undef)
def stC (E : CEnv) (ops : Array Oper) (rid i : Nat) (o : Oper) (σ : CS) : T (SV × HS) :=
 bif fT E.N o.dst then
    match o.guard with
    | none => bG E rid i (evC σ.sl) σ.h o
    | some (j, want) => match (ops[j]?).bind (·.dst) with
      | none => .fail
      | some t => bif fT E.N (some t) then
        match σ.sl t with
        | .kb b => bif (bif b then want else !want) then bG E rid i (evC σ.sl) σ.h o else .ret (dZ, σ.h)
        | .dt (.cell (.tuple _)) => .ret (dZ, σ.h)
        | _ => .fail
        else .fail
 else .fail
theorem iI {E : CEnv} (hE : E.Ok) {ops : Array Oper} {rid i : Nat} (o : Oper) {σ : CS} (hh : σ.h.Ok) : (stC E ops rid i o σ).good fun y => y.2.Ok /\ σ.h.nob <= y.2.nob /\ y.2.nob <= max E.top σ.h.nob := by
 have skip : (T.ret (dZ, σ.h) : T (SV × HS)).good fun y => y.2.Ok /\ σ.h.nob <= y.2.nob /\ y.2.nob <= max E.top σ.h.nob := ⟨hh, Nat.le_refl _, Nat.le_max_right _ _⟩
 unfold stC
 cases fT E.N o.dst with
 | false => trivial
 | true =>
   rw [cond_true]
   split
   · exact CZ hE hh o
   · split
     · trivial
     · rename_i t _
       cases fT E.N (some t) with
       | false => trivial
       | true =>
         rw [cond_true]
         split
         · simp only [Bool.cond_eq_ite]
           repeat' split
           all_goals first | exact CZ hE hh o | exact skip
         · exact skip
         · trivial
def jF (ops : Array Oper) (o : Oper) : List Nat :=
 match o.guard with
 | some (j, _) => ((ops[j]?).bind (·.dst)).toList
 | none => []
theorem pY {E : CEnv} (hE : E.Ok) {ops : Array Oper} {rid i : Nat} {o : Oper} {sl : Nat -> SV} {h : HS} {C : Ctx} {a : Act} {w : World} {post : SV × HS -> Prop} (hk : HOk E.top h C w) (hsz : a.tmps.size = E.N)
  (hsl : ∀ t, (Operand.tmp t ∈ o.op.operands ∨ t ∈ jF ops o) -> rel C w (sl t) (a.tmps.getD t undef))
  (hh : (stC E ops rid i o ⟨sl, h⟩).holds post) {K : Act -> World -> Prop} {Q : Exit -> Act -> World -> Prop}
  (hK : fT E.N o.dst = true -> ∀ y v w' C', post y -> StepC E h.nob C w C' w' -> HOk E.top y.2 C' w' -> rel C' w' y.1 v -> K (a.put o.dst v) w') :
  if Region.wanted o (yielded ops a.tmps) then o.wp E.P a w K Q else K (a.put o.dst undef) w := by
 unfold stC at hh
 cases hd : fT E.N o.dst with
 | false => rw [hd] at hh; exact hh.elim
 | true =>
 rw [hd, cond_true] at hh
 have hK := hK hd
 have go : (bG E rid i (evC sl) h o).holds post -> o.wp E.P a w K Q := fun hg =>
  Pw hE hk (fun x hx => Oa hk.wf sl a x fun t ht => hsl t (.inl (ht ▸ hx))) hg K Q fun y v w' C' p s k r t => hK y v w' C' p ⟨s, t⟩ k r
 have skip : post (dZ, h) -> K (a.put o.dst undef) w := fun hp => hK (dZ, h) undef w C hp (StepC.refl E _ C w) hk (aj.2 rfl)
 split at hh
 · rename_i hg
   have hw : Region.wanted o (yielded ops a.tmps) = true := by simp [Region.wanted, hg]
   rw [if_pos hw]
   exact go hh
 · rename_i j want hg
   split at hh
   · exact hh.elim
   · rename_i t hj
     cases hd : fT E.N (some t) with
     | false => rw [hd] at hh; exact hh.elim
     | true =>
       rw [hd, cond_true] at hh
       have hlt : t < a.tmps.size := by
        rw [hsz]
        simpa [fT, Nat.blt_eq] using hd
       have hy := rY hj hlt
       have hslt := hsl t (.inr (by simp [jF, hg, hj]))
       have known : ∀ (b : Bool), a.tmps.getD t undef = .bool b -> Region.wanted o (yielded ops a.tmps) = (bif b then want else !want) := by
        intro b hb
        simp only [Region.wanted, hg, hy, hb]
        cases b <;> cases want <;> rfl
       split at hh
       · rename_i b hs
         have hs : sl t = .kb b := hs
         rw [hs] at hslt
         have hb : a.tmps.getD t undef = .bool b := hslt
         rw [known b hb]
         cases hq : (bif b then want else !want) with
         | true => rw [hq] at hh; simp only [if_true]; exact go hh
         | false => rw [hq] at hh; simp only [Bool.false_eq_true, if_false]; exact skip hh
       · rename_i x hs
         have hs : sl t = .dt (.cell (.tuple x)) := hs
         rw [hs, aj] at hslt
         have hw : Region.wanted o (yielded ops a.tmps) = false := by
          simp only [Region.wanted, hg, hy, hslt]
          rfl
         rw [hw]
         simp only [Bool.false_eq_true, if_false]
         exact skip hh
       · exact hh.elim
def kU (E : CEnv) (ops : Array Oper) (rid : Nat) : Nat -> List Oper -> CS -> T CS
 | _, [], σ => .ret σ
 | i, o :: l, σ => (stC E ops rid i o σ).bind fun y => kU E ops rid (i + 1) l ⟨putT o.dst y.1 σ.sl, y.2⟩
def dstsO (l : List Oper) : List Nat := l.filterMap (·.dst)
theorem uh {a : Act} {d : Option Tmp} {v : Value} {j : Nat} (h : ∀ t, d = some t -> j ≠ t) : (a.put d v).tmps.getD j undef = a.tmps.getD j undef := by
 cases d with
 | none => rfl
 | some t =>
   have := h t rfl
   simp [Act.put, Array.getD_eq_getD_getElem?, Array.getElem?_setIfInBounds, show ¬ t = j from fun e => this e.symm]
theorem ow {E : CEnv} (hE : E.Ok) {ops : Array Oper} {rid : Nat} {Q : Exit -> Act -> World -> Prop} {post : CS -> Prop} : ∀ (l : List Oper) (i : Nat) (σ : CS) (C : Ctx) (a : Act) (w : World), InvC E C σ a w ->
  (kU E ops rid i l σ).holds post -> (∀ C' σ' a' w', post σ' -> InvC E C' σ' a' w' -> StepC E σ.h.nob C w C' w' -> (∀ j, j ∉ dstsO l -> a'.tmps.getD j undef = a.tmps.getD j undef) -> Q .normal a' w') -> wpList E.P ops Q l a w
 | [], _, σ, C, a, w, h, hh, hQ => hQ C σ a w hh h (StepC.refl E _ C w) fun _ _ => rfl
 | o :: l, i, σ, C, a, w, h, hh, hQ => by
   simp only [kU, T.ak] at hh
   have hh := T.aV (iI hE o h.ok) hh
   refine wpList_step fun K hK' => ?_
   refine pY hE h.hk h.sz (fun t _ => h.sl t) hh fun hd y v w' C' hp hst hk hr => hK' _ _ ?_
   refine ow hE l (i + 1) _ C' _ w' (h.put hst.st hk hp.1.1 hr hd) hp.2 fun C2 σ2 a2 w2 p2 i2 s2 f2 => hQ C2 σ2 a2 w2 p2 i2 (StepC.trans hk.wf hp.1.2.1 hst s2) fun j hj => ?_
   have h1 : j ∉ dstsO l := fun hm => hj (by
     simp only [dstsO, List.mem_filterMap] at hm ⊢
     obtain ⟨q, q1, q2⟩ := hm
     exact ⟨q, by simp [q1], q2⟩)
   rw [f2 j h1]
   exact uh fun t ht e => hj (by
     simp only [dstsO, List.mem_filterMap]
     exact ⟨o, by simp, by rw [ht, e]⟩)
theorem iM {E : CEnv} (hE : E.Ok) {ops : Array Oper} {rid : Nat} : ∀ (l : List Oper) (i : Nat) (σ : CS), σ.h.Ok -> (kU E ops rid i l σ).good fun y => y.h.Ok /\ σ.h.nob <= y.h.nob /\ y.h.nob <= max E.top σ.h.nob
 | [], _, σ, h => ⟨h, Nat.le_refl _, Nat.le_max_right _ _⟩
 | o :: l, i, σ, h => T.aW (fun y hy => T.fK (fun z hz => ⟨hz.1, Nat.le_trans hy.2.1 hz.2.1, by
     have h1 := hz.2.2
     have h2 := hy.2.2
     simp only at h1 h2 ⊢
     omega⟩) _ (iM hE l (i + 1) ⟨putT o.dst y.1 σ.sl, y.2⟩ hy.1)) _ (iI hE o h)
end Rx
set_option linter.unusedSectionVars false
set_option linter.unusedSimpArgs false
set_option linter.unusedVariables false
namespace Rx
open Go
variable [Glob]
inductive Kd where
 | pure | load | alloc | heavy
def Kd.jh : Kd -> Bool
 | .heavy => true
 | _ => false
def Kd.Co : Kd -> Bool
 | .alloc => true
 | _ => false
def Kd.YJ : Kd -> Bool
 | .load => true
 | _ => false
def cu : Op -> Kd
 | .move _ | .assign _ | .pick _ _ _ | .build _ _ | .extract _ _ | .fieldAddr _ _ _ | .field _ _ _ | .indexAddr _ _ _ | .slice _ _ _ _ none | .binOp _ _ _ _ _ | .unOp .not _ _ | .unOp .neg _ _ | .index _ _ _ | .makeFunc (.func _) _ _ | .nilCheck _ => .pure
 | .call { callee := .builtin .len, args := ⟨[_]⟩, argTypes := ⟨[_]⟩ } => .pure
 | .call { callee := .builtin .cap, args := ⟨[_]⟩, argTypes := ⟨[_]⟩ } => .pure
 | .call { callee := .builtin .max, args := ⟨[_, _]⟩, argTypes := _ } => .pure
 | .call { callee := .builtin .min, args := ⟨[_, _]⟩, argTypes := _ } => .pure
 | .load _ _ | .lookup _ _ _ _ => .load
 | .alloc _ | .box _ _ | .buildSlice _ _ _ | .makeMap _ none | .makeSlice _ _ _ => .alloc
 | _ => .heavy
structure Pl where
 kd : Kd
 rd : List Nat
 dst : Option Nat
 ms : Nat
def jk (t : Nat) : List Nat -> Bool
 | [] => false
 | x :: l => bif Nat.beq x t then true else jk t l
def FN (d : Option Nat) (l : List Nat) : Bool :=
 match d with
 | some t => jk t l
 | none => false
def plOf (ops : Array Oper) (mk : Nat) (o : Oper) : Pl := ⟨cu o.op, tmpsOf o ++ jF ops o, o.dst, mk⟩
def pI (ops : Array Oper) : List Oper -> List Nat -> List Pl
 | o :: l, m :: ms => plOf ops m o :: pI ops l ms
 | _, _ => []
def XQ (a b : Option Nat) : Bool :=
 match a, b with
 | some x, some y => Nat.beq x y
 | _, _ => false
def pairC (i : Nat) (x y : Pl) : Bool :=
 !XQ x.dst y.dst && (y.ms.testBit i || (!FN x.dst y.rd && (!FN y.dst x.rd && !((x.kd.jh || x.kd.Co) && y.kd.jh))))
def Yz (j : Nat) (o : Oper) : Bool := o.after.toList.all fun e => !Region.binds .any e || Nat.blt e.on j
def Ht (pls : List Pl) : Bool :=
 (List.range pls.length).all fun j => match pls[j]? with
    | some y => (List.range j).all fun i => match pls[i]? with
      | some x => pairC i x y
      | none => false
    | none => false
def hvB (pls : List Pl) (h : Nat) : Bool :=
 match pls[h]? with
 | some x => x.kd.jh
 | none => false
def uV (pls : List Pl) : List Nat := (List.range pls.length).filter (hvB pls)
def Sw (pls : List Pl) (h j : Nat) : Bool :=
 match pls[h]? with
 | some x => x.ms.testBit j
 | none => false
def sD (pls : List Pl) (j : Nat) (y : Pl) : List Nat :=
 (uV pls ++ [pls.length]).filter fun q =>
    ((uV pls).all fun h => !(Nat.ble q h && y.ms.testBit h)) && ((uV pls).all fun h => !(Nat.blt h q && Sw pls h j)) &&
    (Nat.blt q j || (uV pls).any fun h => Nat.ble j h && Nat.blt h q)
def Cw (pls : List Pl) (j : Nat) (y : Pl) : Bool :=
 (List.range j).any fun k => match pls[k]? with
    | some x => (x.kd.jh || x.kd.Co) && !y.ms.testBit k
    | none => false
def Qu (pls : List Pl) (j : Nat) : Bool :=
 (List.range pls.length).any fun k => Nat.blt j k && match pls[k]? with
    | some x => x.kd.Co && !x.ms.testBit j
    | none => false
structure RI where
 ld : List (Nat × Bool × List Nat)
 wd : List Nat
def gL (ops : Array Oper) : Option RI :=
 let pls := pI ops ops.toList (masks ops.toList [])
 bif Nat.beq pls.length ops.size && (Ht pls && (List.range ops.size).all fun j => match ops[j]? with
     | some o => Yz j o
     | none => false) then
    some ⟨(List.range pls.length).filterMap fun j => match pls[j]? with
     | some y => bif y.kd.YJ && (Cw pls j y || !(sD pls j y).isEmpty) then some (j, Cw pls j y, sD pls j y) else none
     | none => none,
     (List.range pls.length).filter fun j => match pls[j]? with
     | some y => y.kd.jh && Qu pls j
     | none => false⟩
 else none
def stW (E : CEnv) (ops : Array Oper) (rid : Nat) (wd : List Nat) (i : Nat) (o : Oper) (σ : CS) : T (SV × HS) :=
 bif jk i wd then
    bif Nat.ble (σ.h.nob + E.win rid) E.top then
     (stC { E with top := σ.h.nob + E.win rid } ops rid i o σ).bind fun y => .ret (y.1, ⟨y.2.obj, σ.h.nob + E.win rid⟩)
    else .fail
 else stC E ops rid i o σ
def dS (E : CEnv) (ops : Array Oper) (rid : Nat) (wd : List Nat) : Nat -> List Oper -> CS -> T (List (CS × SV) × CS)
 | _, [], σ => .ret ([], σ)
 | i, o :: l, σ => (stW E ops rid wd i o σ).bind fun y => (dS E ops rid wd (i + 1) l ⟨putT o.dst y.1 σ.sl, y.2⟩).bind fun z => .ret ((σ, y.1) :: z.1, z.2)
def tgt (rw : Operand -> SV) (o : Oper) : List Nat :=
 match o.op with
 | .load _ x => kD (rw x)
 | .lookup _ x _ _ => dI (rw x)
 | _ => []
def iH (ops : Array Oper) (o : Oper) (σ : CS) : Bool :=
 match o.guard with
 | none => false
 | some (j, want) => match (ops[j]?).bind (·.dst) with
   | none => false
   | some t => match σ.sl t with
     | .kb b => bif (bif b then want else !want) then false else true
     | .dt (.cell (.tuple _)) => true
     | _ => false
def hsAt (tr : List (CS × SV)) (z : CS) (q : Nat) : HS :=
 match tr[q]? with
 | some x => x.1.h
 | none => z.h
noncomputable def lim (x : Nat × Bool × List Nat) (nob n : Nat) : Nat := @Bool.rec (fun _ => Nat) n nob x.2.1
def Yc (P : Program) (ops : Array Oper) (tr : List (CS × SV)) (z : CS) (nob0 : Nat) (x : Nat × Bool × List Nat) : Prop :=
 ∀ o y, ops[x.1]? = some o -> tr[x.1]? = some y -> iH ops o y.1 = false ->
   (∀ i ∈ tgt (evC y.1.sl) o, i < lim x nob0 y.1.h.nob) /\ ∀ q ∈ x.2.2, ∃ r, cxE P (evC y.1.sl) (hsAt tr z q).obj 0 o = .ret r /\ ∀ (C : Ctx) (w : World) (v : Value), rel C w r.sv v -> rel C w y.2 v
def mK (E : CEnv) (ops : Array Oper) (rid : Nat) (σ : CS) : T CS :=
 match gL ops with
 | none => .fail
 | some ri => (dS E ops rid ri.wd 0 ops.toList σ).bind fun z => .need (∀ x ∈ ri.ld, Yc E.P ops z.1 z.2 σ.h.nob x) (.ret z.2)
def bF : Code -> List Nat
 | .region _ ops _ => dstsO ops.toList
 | .seq a b => bF a ++ bF b
 | .cond _ a b => bF a ++ bF b
 | .block _ c => bF c
 | .loop c => bF c
 | _ => []
def oq (l : List Nat) (t : Nat -> SV) (j : Nat) : SV := bif jk j l then .junk else t j
def nP (f : CS -> T (Ex × CS)) : Nat -> CS -> T (Ex × CS)
 | 0, _ => .fail
 | n + 1, σ => (f σ).bind fun x => match x.1 with
   | .normal => nP f n x.2
   | e => .ret (e, x.2)
def oP : Code -> Option (Tmp × Option Tmp)
 | .seq (.region _ ops false) _ => match ops.toList with
   | o :: _ => match o.op, o.guard with
     | .next (.tmp t) false, none => some (t, o.dst)
     | _, _ => none
   | [] => none
 | _ => none
def fQ (m t : Nat) : Bool := Nat.beq (Nat.land (Nat.shiftRight m t) 1) 1
def jm (fl : Nat) (σ : CS) : CS := ⟨fun j => bif fQ fl j then σ.sl j else .junk, σ.h⟩
def nk (E : CEnv) : Code -> CS -> T CS
 | .region rid ops false, σ => match ops.toList with
   | _ :: l => kU E ops rid 1 l σ
   | [] => .fail
 | _, _ => .fail
abbrev CxT := CEnv -> CS -> T (Ex × CS)
def wB (tail : CS -> T (Ex × CS)) (f : Nat -> CS) (u : T (Ex × CS)) : Nat -> T (Ex × CS)
 | 0 => u
 | k + 1 => (tail (f k)).bind fun x => match x.1 with
   | .normal => wB tail f u k
   | _ => .fail
def iY (c : Code) (tail : CxT) (E : CEnv) (σ : CS) (t : Tmp) (d : Option Tmp) : T (Ex × CS) :=
 match σ.sl t with
 | .ptr q 0 => match σ.h.obj q with
   | some (.itx m n _) => match σ.h.obj m with
     | some (.mp kt vt l) =>
       bif Nat.beq n l.length && (Nat.ble E.base q && (Nat.ble E.base σ.h.nob && (Nat.blt q σ.h.nob && (Nat.blt q E.top && (fT E.N d && !jk t (bF c)))))) then
        wB (tail { E with base := σ.h.nob }) (fun k => ⟨putT d (.tup [.kb true, gI kt (bS kt vt l k).1, gI vt (bS kt vt l k).2]) (oq (bF c) σ.sl), ⟨upd σ.h.obj q (some (.itx m n (some k))), σ.h.nob⟩⟩)
           ((tail E ⟨putT d (.tup [.kb false]) (oq (bF c) σ.sl), ⟨upd σ.h.obj q (some (.itx m n none)), σ.h.nob⟩⟩).bind fun x => match x.1 with
             | .normal => .fail
             | e => .ret (e, x.2)) n
       else .fail
     | _ => .fail
   | _ => .fail
 | _ => .fail
def aN : Code -> CxT × CxT
 | .skip => (fun _ σ => .ret (.normal, σ), fun _ _ => .fail)
 | .region rid ops false => (fun E σ => (kU E ops rid 0 ops.toList σ).bind fun σ' => .ret (.normal, jm E.fl σ'), fun _ _ => .fail)
 | .region rid ops true => (fun E σ => (mK E ops rid σ).bind fun σ' => .ret (.normal, jm E.fl σ'), fun _ _ => .fail)
 | .seq a b => (fun E σ => ((aN a).1 E σ).bind fun x => match x.1 with
   | .normal => (aN b).1 E x.2
   | e => .ret (e, x.2), fun E σ => (nk E a σ).bind fun σ' => (aN b).1 E (jm E.fl σ'))
 | .cond c a b => (fun E σ => match evC σ.sl c with
   | .kb q => bif q then (aN a).1 E σ else (aN b).1 E σ
   | _ => .fail, fun _ _ => .fail)
 | .block id c => (fun E σ => ((aN c).1 E σ).bind fun x => match x.1 with
   | .exit k => bif Nat.beq k id then .ret (.normal, x.2) else .ret (.exit k, x.2)
   | e => .ret (e, x.2), fun _ _ => .fail)
 | .loop c => (fun E σ => match oP c with
   | some (t, d) => iY c (aN c).2 E σ t d
   | none => nP ((aN c).1 E) E.fuel σ, fun _ _ => .fail)
 | .exit id => (fun _ σ => .ret (.exit id, σ), fun _ _ => .fail)
 | .ret => (fun _ σ => .ret (.ret, σ), fun _ _ => .fail)
 | _ => (fun _ _ => .fail, fun _ _ => .fail)
def Yx (E : CEnv) (c : Code) (σ : CS) : T (Ex × CS) := (aN c).1 E σ
def yT (P : Program) (σ : CS) : ResultVar -> T SV
 | .tmp t => .ret (nK (σ.sl t))
 | .cell a t => (fA P σ.h.obj t (σ.sl a)).bind fun s => .ret (nK s)
def sU (P : Program) (σ : CS) : List ResultVar -> T (List SV)
 | [] => .ret []
 | r :: l => (yT P σ r).bind fun s => (sU P σ l).bind fun ss => .ret (s :: ss)
def uS (P : Program) (fn : Func) (σ : CS) : T SV :=
 (sU P σ fn.results.toList).bind fun ss => match ss with
    | [s] => .ret s
    | ss => .ret (.tup ss)
def HS.cut (h : HS) : HS := ⟨fun i => bif Nat.blt i h.nob then h.obj i else none, h.nob⟩
structure Deps where
 P : Program
 F : FuncId -> Option Summ
 win : FuncId -> Nat -> Nat -> Nat
 fuel : Nat
 fl : FuncId -> Nat
def JM (P : Program) (top base : Nat) (s : Summ) (f : FuncId) (al : List SV) (h : HS) : T (SV × HS) :=
 lift ⟨P, 0, fun _ _ => none, fun _ _ _ _ _ => .fail, top, base, fun _ => 0, 0, 0⟩ h (s.run (al.map nrm) h.obj h.nob f)
def pR (D : Deps) : Nat -> Nat -> Nat -> FuncId -> List SV -> HS -> T (SV × HS)
 | 0, _, _, _, _, _ => .fail
 | n + 1, top, base, f, al, h => match D.F f with
   | some s => JM D.P top base s f al h.cut
   | none => match D.P.funcs[f]? with
     | some fn => match fn.body with
       | some c => bif callable D.P f && Nat.ble al.length fn.ntmps then
         (Yx ⟨D.P, fn.ntmps, fun _ _ => none, pR D n, top, base, D.win f n, D.fuel, D.fl f⟩ c (jm (D.fl f) ⟨fun j => al.getD j .junk, h.cut⟩)).bind fun y => match y.1 with
             | .exit _ => .fail
             | _ => (uS D.P fn y.2).bind fun s => .ret (s, y.2.h)
         else .fail
       | none => .fail
     | none => .fail
end Rx
set_option linter.unusedSectionVars false
set_option linter.unusedSimpArgs false
set_option linter.unusedVariables false
namespace Rx
open Go
variable [Glob]
theorem Jt {t : T SV} {r : Res} (h : (t.bind jK).val = some r) : r.eff = Eff.none := by
 rw [show t.bind jK = t.bind fun s => .ret (⟨nK s, .none⟩ : Res) from rfl, (jP t fun s => (⟨nK s, .none⟩ : Res)).2] at h
 obtain ⟨s, _, rfl⟩ := Option.map_eq_some_iff.1 h
 rfl
theorem Bn {t : T SV} {r : Res} (h : (t.bind fun s => .ret (⟨s, .none⟩ : Res)).val = some r) : r.eff = Eff.none := by
 rw [(jP t fun s => (⟨s, .none⟩ : Res)).2] at h
 obtain ⟨s, _, rfl⟩ := Option.map_eq_some_iff.1 h
 rfl
def RH : Kd -> Bool
 | .pure => true
 | .load => true
 | _ => false
theorem uN {P : Program} {rw : Operand -> SV} {g : Nat -> Option Ob} {new : Nat} {o : Oper} {r : Res} (hk : RH (cu o.op) = true) (h : (cxE P rw g new o).val = some r) : r.eff = Eff.none := by
 have fin : ∀ {s : SV} {r : Res}, (T.ret (⟨s, .none⟩ : Res)).val = some r -> r.eff = Eff.none := fun h => by injection h with h; subst h; rfl
 have fail : ∀ {r : Res}, (T.fail : T Res).val = some r -> r.eff = Eff.none := fun h => by cases h
 unfold cu at hk
 split at hk <;> first | (simp [RH] at hk; done) | skip
 all_goals
  rename_i ho
  unfold cxE at h
  simp only [ho] at h
  first
   | exact Jt h
   | (unfold sxE at h; simp only [ho] at h; unfold iT at h; simp only [ho] at h; first | exact fin h | exact Bn h | skip)
   | skip
 all_goals
  try simp only [Bool.cond_eq_ite, SA] at h
  repeat' split at h
  all_goals first
   | (cases h; done)
   | exact Jt h
   | exact Bn h
   | (injection h with h; subst h; rfl)
   | (simp only [T.val] at h; split at h <;> (injection h with h; subst h; rfl))
   | (unfold sxE at h; simp only [*] at h; unfold iT at h; simp only [*] at h; exact Bn h)
   | (unfold sxE at h; simp only [*] at h; split at h <;> first | (cases h; done) | (injection h with h; subst h; rfl))
theorem I4 {P : Program} {g g' : Nat -> Option Ob} {t : TypeId} {p : SV} (h : ∀ i ∈ kD p, g i = g' i) : fA P g t p = fA P g' t p := by
 have e := tQ (P := P) (t := t) h
 unfold fA
 split
 · rename_i i idx sz off
   rw [h i (by simp [kD]), e]
 · exact e
theorem Ra {P : Program} {rw : Operand -> SV} {g g' : Nat -> Option Ob} {new new' : Nat} {o : Oper} (hk : cu o.op = .pure) : cxE P rw g new o = cxE P rw g' new' o := by
 unfold cu at hk
 split at hk <;> first | (cases hk; done) | skip
 all_goals
  rename_i ho
  unfold cxE
  simp only [ho]
  try (unfold sxE; simp only [ho]; done)
  try (unfold sxE; simp only [ho]; unfold iT; simp only [ho]; done)
theorem Ih {P : Program} {rw : Operand -> SV} {g g' : Nat -> Option Ob} {new new' : Nat} {o : Oper} (hk : cu o.op = .load) (h : ∀ i ∈ tgt rw o, g i = g' i) : cxE P rw g new o = cxE P rw g' new' o := by
 unfold cu at hk
 split at hk <;> first | (cases hk; done) | skip
 all_goals
  rename_i ho
  unfold tgt at h
  simp only [ho] at h
  unfold cxE
  simp only [ho]
  first
   | rw [I4 h]
   | rw [o9 h]
theorem Pt {P : Program} {rw : Operand -> SV} {g g' : Nat -> Option Ob} {new : Nat} {o : Oper} (hk : cu o.op = .alloc) : cxE P rw g new o = cxE P rw g' new o := by
 unfold cu at hk
 split at hk <;> first | (cases hk; done) | skip
 all_goals
  rename_i ho
  unfold cxE
  simp only [ho]
  try (unfold sxE; simp only [ho]; done)
  try (unfold sxE; simp only [ho]; unfold iT; simp only [ho]; done)
theorem NV {P : Program} {rw : Operand -> SV} {g : Nat -> Option Ob} {new : Nat} {o : Oper} {r : Res} (hk : cu o.op = .alloc) (h : (cxE P rw g new o).val = some r) : ∃ ob, r.eff = ⟨[(new, some ob)], [new]⟩ := by
 unfold cu at hk
 split at hk <;> first | (cases hk; done) | skip
 all_goals
  rename_i ho
  unfold cxE at h
  simp only [ho] at h
  try (unfold sxE at h; simp only [ho] at h)
  try (unfold iT at h; simp only [ho] at h)
  try unfold eX at h
  try unfold zF at h
  try unfold pz at h
  try simp only [Bool.cond_eq_ite] at h
  repeat' split at h
  all_goals first
   | (cases h; done)
   | (injection h with h; subst h; exact ⟨_, rfl⟩)
end Rx
