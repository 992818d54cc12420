/- What the library's pure functions, the picker and the reader tell is so. -/
import Derived.Test.YtkbdcpkbmfegdaaGreatDoorSGvF
import Derived.Shelf.Strings.Builder1
set_option linter.unusedSimpArgs false
set_option linter.unusedVariables false
open Rx Go
namespace Gv
open Rd
def cxP (C : Ctx) : Ctx := ⟨fun _ => none, fun _ => none, C.W⟩
theorem aey (C : Ctx) (b : Nat) : (cxP C).W b ↔ C.W b := by
 constructor
 · intro h
   rcases h with h | ⟨i, hi⟩
   · exact h
   · cases hi
 · exact fun h => .inl h
theorem VO (C : Ctx) : (cxP C).W = C.W := by
 funext b
 exact propext (aey C b)
theorem Yy {C : Ctx} {w : World} (h : WF C w) : WF (cxP C) w :=
 ⟨fun _ _ h => (by cases h), fun _ _ _ h => (by cases h), fun b hb => by
  rcases hb with hb | ⟨i, hi⟩
  · exact h.w0 b hb
  · exact h.lt i b hi, fun _ _ h => (by cases h), fun _ _ h => (by cases h), by rw [VO]; exact h.gl⟩
theorem qM {P : Program} {f : FuncId} {args : List SV} {s s' : SV} (hc : callable P f = true) (h : Ctr P f args [] (.ret (s, []))) {C : Ctx} {w : World} {vs : List Value} {post : Res -> Prop} (hw : WF C w) (hr : relL (cxP C) w args vs)
  (hs : ∀ C' w' v, (∀ b, C.W b -> C'.W b) -> rel C' w' s v -> rel C w' s' v) (hp : post ⟨s', .none⟩) :
  callable P f = true /\ Calls P f vs.toArray w fun e w' => ∃ v C' r, e = .returned v /\ post r /\ Came C w r C' w' v := by
 refine ⟨hc, (h (cxP C) w vs (fun y => y = (s, [])) (Yy hw) (fun i ob hi => by simp at hi) (fun _ _ => rfl) hr rfl).mono ?_⟩
 rintro e w' ⟨v, C', y, rfl, rfl, hst, _, _, hv, _⟩
 have hst0 : Step (fun _ => False) (cxP C) w C' w' := hst.mono fun i hi => by simp at hi
 have hag : Ag (fun _ => False) w w' := hst0.ag.mono fun k _ ⟨i, hi, _⟩ => hi.elim
 refine ⟨v, C, ⟨s', .none⟩, rfl, hp, hs C' w' v (fun b hb => ?_) hv, dV hag, kP hw hag, fun _ hi => .inl hi, fun _ _ hi => (by simp [Eff.none] at hi)⟩
 left
 rw [hst0.w0]
 exact hb
theorem kT {P : Program} {f : FuncId} {args : List SV} {obs : List Ob} {p : Prop} {out : T Out} (h : Ctr P f args obs (.need p out)) (hp : p) : Ctr P f args obs out :=
 fun C w vs post hw ho hn hr hq => h C w vs post hw ho hn hr ⟨hp, hq⟩
theorem c15 : callable prog lQ = true := by kernel_rfl
theorem c16 : callable prog yR = true := by kernel_rfl
theorem c27 : callable prog Kn = true := by kernel_rfl
theorem zh : bJ prog lQ (mkS fun al _ _ => wz al) := by
 intro C w g al vs new post hw _ _ hr hh
 replace hh : (wz al).holds post := hh
 have go : ∀ n : Int, inI n -> vs = [.int .i64 n] -> post ⟨.sy (tJ n), .none⟩ -> callable prog lQ = true /\ Calls prog lQ vs.toArray w fun e w' => ∃ v C' r, e = .returned v /\ post r /\ Came C w r C' w' v := by
  intro n hn hv hp
  subst hv
  exact qM (s' := .sy (tJ n)) c15 (kT (IG n) hn) hw ⟨_, _, rfl, aj.2 rfl, rfl⟩ (fun C' w' v _ h => aj.1 h) hp
 unfold wz at hh
 split at hh
 · rename_i n
   cases hb : inB n n with
   | false => rw [hb] at hh; exact hh.elim
   | true =>
     rw [hb] at hh
     simp only [inB, Bool.and_eq_true, decide_eq_true_eq] at hb
     obtain ⟨v, _, rfl, h1, rfl⟩ := hr
     exact go n hb (by rw [aj.1 h1]) hh
 · rename_i a b n
   cases hb : inB a b with
   | false => rw [hb] at hh; exact hh.elim
   | true =>
     rw [hb] at hh
     simp only [inB, Bool.and_eq_true, decide_eq_true_eq] at hb
     obtain ⟨v, _, rfl, h1, rfl⟩ := hr
     exact go n ⟨by have := h1.2.1; omega, by have := h1.2.2; omega⟩ (by rw [h1.1]) hh
 · exact hh.elim
theorem aiC : callable prog sP = true := by kernel_rfl
theorem G7 : bJ prog sP (mkS fun al _ _ => yc al) := by
 intro C w g al vs new post hw _ _ hr hh
 replace hh : (yc al).holds post := hh
 unfold yc at hh
 split at hh
 · rename_i x
   split at hh
   · rename_i s hs
     obtain ⟨v, _, rfl, h1, rfl⟩ := hr
     have hv := gG hs h1
     subst hv
     exact qM (s' := .kb (OZ s)) aiC (BJ s) hw ⟨_, _, rfl, aj.2 rfl, rfl⟩ (fun C' w' v _ h => (aj.1 h).trans (by rw [TD])) hh
   · exact hh.elim
 · exact hh.elim
theorem Ez {n m : Int} (hm : 0 < m) : 0 <= av n m /\ av n m <= m - 1 := by
 unfold av
 have h0 : 0 <= (if n < 0 then 0 - (n + 1) else n) := by split <;> omega
 have h1 := Int.tmod_nonneg m h0
 have h2 := Int.tmod_lt_of_pos (if n < 0 then 0 - (n + 1) else n) hm
 omega
theorem Gn : bJ prog yR (mkS fun al _ _ => xV al) := by
 intro C w g al vs new post hw _ _ hr hh
 replace hh : (xV al).holds post := hh
 unfold xV at hh
 split at hh
 · rename_i a b n m
   cases hb : (inB a b && (decide (0 < m) && decide (m <= 1000000))) with
   | false => rw [hb] at hh; exact hh.elim
   | true =>
     rw [hb] at hh
     simp only [inB, Bool.and_eq_true, decide_eq_true_eq] at hb
     obtain ⟨v, _, rfl, h1, v2, _, rfl, h2, rfl⟩ := hr
     have e1 : v = .int .i64 n := h1.1
     have e2 := aj.1 h2
     subst e1; subst e2
     have i1 := h1.2.1
     have i2 := h1.2.2
     exact qM (s' := .ri .i64 0 (m - 1) (av n m)) c16 (kT (Ba n m) ⟨⟨by omega, by omega⟩, by omega⟩) hw ⟨_, _, rfl, aj.2 rfl, _, _, rfl, aj.2 rfl, rfl⟩
        (fun C' w' v _ h => ⟨aj.1 h, (Ez hb.2.1).1, (Ez hb.2.1).2⟩) hh
 · exact hh.elim
theorem oC : ∀ l : List Dx, (Ch l).length = l.length
 | [] => rfl
 | d :: l => by simp [Ch, oC l]
mutual
theorem VZ {w : World} : ∀ (d : Dx), d.fits -> ∀ (j : Nat) (v : Value), Rep w (dmT d.dm j) v -> Rep w (dxT d j) v
 | .mk k sym n s l, hf, j, v, h => by
   have h : Rep w (dmT (.mk k n s (Ch l)) j) v := h
   obtain ⟨h1, h2⟩ := hf
   match j, h with
   | 0, h => exact h
   | 1, h =>
     cases sym with
     | none => exact h
     | some x => exact ⟨h, h1 x.1 x.2 rfl⟩
   | 2, h => exact h
   | _ + 3, h =>
     obtain ⟨A, c, e, hc, hh⟩ := h
     rw [oC] at e hc hh
     refine ⟨A, c, e, hc, fun h0 => ?_⟩
     obtain ⟨b, off, ea, hh⟩ := hh h0
     refine ⟨b, off, ea, fun i hi q hq => ?_⟩
     obtain ⟨u, u1, u2, u3⟩ := hh i hi q hq
     exact ⟨u, u1, u2, Fw l h2 i q u u3⟩
theorem Fw {w : World} : ∀ (l : List Dx), yY l -> ∀ (i j : Nat) (v : Value), Rep w (dmL (Ch l) i j) v -> Rep w (dxL l i j) v
 | [], _, _, _, _, h => h
 | d :: l, hf, 0, j, v, h => VZ d hf.1 j v h
 | d :: l, hf, i + 1, j, v, h => Fw l hf.2 i j v h
end
theorem VY {C C' : Ctx} {w : World} {l : List Dx} {v : Value} (hf : yY l) (hW : ∀ b, C.W b -> C'.W b) (h : rel C' w (dmA (Ch l)) v) : rel C w (.dt (.arr 4 l.length (dxL l))) v := by
 intro w' ha
 have ha' : Ag C'.W w w' := ha.mono fun k _ hk => hW k hk
 obtain ⟨A, c, e, hc, hh⟩ := h w' ha'
 rw [oC] at e hc hh
 refine ⟨A, c, e, hc, fun h0 => ?_⟩
 obtain ⟨b, off, ea, hh⟩ := hh h0
 refine ⟨b, off, ea, fun i hi q hq => ?_⟩
 obtain ⟨u, u1, u2, u3⟩ := hh i hi q hq
 exact ⟨u, u1, u2, Fw l hf i q u u3⟩
theorem Li (tbl : List (Nat × List Dx)) : bJ prog Kn (mkS fun al _ new => kE tbl al new) := by
 intro C w g al vs new post hw _ _ hr hh
 replace hh : (kE tbl al new).holds post := hh
 unfold kE at hh
 split at hh
 · rename_i x
   split at hh
   · rename_i s hs
     split at hh
     · rename_i r hr2
       obtain ⟨⟨h1, h2, h3⟩, hp⟩ := hh
       obtain ⟨v, _, rfl, hx, rfl⟩ := hr
       have hv := gG hs hx
       subst hv
       have hc := kT (Tg 400 s) ⟨h1, by rw [h2]; rfl⟩
       have e : Rd.kE 400 s = ⟨Ch r, 0, 0⟩ := by unfold Rd.kE; rw [h2]; rfl
       rw [e] at hc
       refine qM c27 hc hw ⟨_, _, rfl, aj.2 rfl, rfl⟩ (fun C' w' v hW h => ?_) hp
       obtain ⟨us, e, u0, _, rfl, q0, u1, _, rfl, q1, u2, _, rfl, q2, rfl⟩ := h
       exact ⟨_, e, _, _, rfl, VY h3 hW q0, _, _, rfl, aj.1 q1, _, _, rfl, aj.1 q2, rfl⟩
     · exact hh.elim
   · exact hh.elim
 · exact hh.elim
end Gv
set_option linter.unusedSimpArgs false
set_option linter.unusedVariables false
open Rx Go
namespace Go.Proofs
open Go.Shelf
def Tryz.nO : Go.Shelf.Ren := ⟨fun | 169 => 19 | n => n, fun | 70 => 58 | 9 => 9 | 0 => 0 | 72 => 61 | 37 => 59 | 127 => 77 | 3 => 3 | 5 => 5 | n => n, fun | n => n⟩
theorem Tryz.IU : Go.Proofs.Lays.n169 Tryz.prog Tryz.nO := {
 mixed := by kernel_rfl
 f169 := Tryz.func19.trans (congrArg some (by kernel_rfl))
 t0 := Tryz.underlying0
 a0 := Tryz.isAgg0
 z0 := Tryz.sizeOf0
 v0 := Tryz.zeroValue0
 t3 := Tryz.underlying3
 a3 := Tryz.isAgg3
 z3 := Tryz.sizeOf3
 v3 := Tryz.zeroValue3
 t9 := Tryz.underlying9
 a9 := Tryz.isAgg9
 z9 := Tryz.sizeOf9
 v9 := Tryz.zeroValue9
 t37 := Tryz.underlying59
 a37 := Tryz.isAgg59
 z37 := Tryz.sizeOf59
 v37 := Tryz.zeroValue59
 t70 := Tryz.underlying58
 a70 := Tryz.isAgg58
 z70 := Tryz.sizeOf58
 v70 := Tryz.zeroValue58
 t72 := Tryz.underlying61
 a72 := Tryz.isAgg61
 z72 := Tryz.sizeOf61
 v72 := Tryz.zeroValue61
 t127 := Tryz.underlying77
 a127 := Tryz.isAgg77
 z127 := Tryz.sizeOf77
 v127 := Tryz.zeroValue77 }
theorem Tryz.Xb : Builder.Extra Tryz.prog Tryz.nO where
 sizeBuilder := by kernel_rfl
 liesBuilder := by kernel_rfl
 t5 := Tryz.underlying5
 a5 := Tryz.isAgg5
 z5 := Tryz.sizeOf5
 v5 := Tryz.zeroValue5
 infoByte := by kernel_rfl
 cellsByte := by kernel_rfl
 sizeByte := by kernel_rfl
 neB5 := by decide
variable {P : Program} {ρ : Ren}
set_option maxHeartbeats 1000000 in
set_option maxRecDepth 100000 in
theorem Any.J4 (L : Lays.n169 P ρ) (X : Builder.Extra P ρ) (b g cap : Nat) (cur : Array Value) (l : List UInt8) (w : World) (h0 : l ≠ []) (c1' : w.cell? ⟨b, 6, none⟩ = some (.slice (some ⟨g, 0, none⟩) l.length cap))
  (hg : w.heap[g]? = some (.cells cur (ρ.t 5) (0, 0))) (hcap : l.length <= cap) (hnc : l.length <= cur.size) (hl : l.length <= 140737488355328) (hcell : ∀ j x, l[j]? = some x -> w.cell? ((⟨g, 0, none⟩ : Addr).add j) = some (.int .u8 x.toNat)) :
  Calls P (ρ.f 169) #[.pointer (some ⟨b, 5, none⟩)] w fun e w' => e = .returned (.string ⟨l.toArray⟩) /\ w' = w.drew.freeze ⟨g, 0, none⟩ l.length := by
 have hl0 : l.length ≠ 0 := by simpa using h0
 have c1 : w.drew.cell? ⟨b, 6, none⟩ = some (.slice (some ⟨g, 0, none⟩) l.length cap) := c1'
 have hSD : (Builtin.unsafeSliceData_ #[(ρ.t 37)] (ρ.t 127) #[.slice (some ⟨g, 0, none⟩) l.length cap]).run P w.drew = .ok (.pointer (some ⟨g, 0, none⟩)) w.drew :=
  Lib.run_unsafeSliceData_row _ _ _ _ _ _ (by omega)
 have hUS : (Builtin.unsafeString_ #[(ρ.t 127), (ρ.t 3)] (ρ.t 9) #[.pointer (some ⟨g, 0, none⟩), .int .i64 l.length]).run P w.drew = .ok (.string ⟨l.toArray⟩) (w.drew.freeze ⟨g, 0, none⟩ l.length) := by
  refine Lib.run_unsafeString_row w.drew (ρ.t 127) (ρ.t 3) (ρ.t 9) (ρ.t 5) L.t127 X.cellsByte g cur.size (by have hg' : w.drew.heap[g]? = some (.cells cur (ρ.t 5) (0, 0)) := hg; simp [World.shape?, hg']) l h0 hnc (by omega) ?_
  intro j x hx
  exact hcell j x hx
 have mixed := L.mixed
 have t72 := L.t72; have a72 := L.a72; have z72 := L.z72; have v72 := L.v72; have u72 := run_underlying L.t72
 have t70 := L.t70; have a70 := L.a70; have z70 := L.z70; have v70 := L.v70; have u70 := run_underlying L.t70
 have t37 := L.t37; have a37 := L.a37; have z37 := L.z37; have v37 := L.v37; have u37 := run_underlying L.t37
 have t127 := L.t127; have a127 := L.a127; have z127 := L.z127; have v127 := L.v127; have u127 := run_underlying L.t127
 have t3 := L.t3; have a3 := L.a3; have z3 := L.z3; have v3 := L.v3; have u3 := run_underlying L.t3
 have t9 := L.t9; have a9 := L.a9; have z9 := L.z9; have v9 := L.v9; have u9 := run_underlying L.t9
 have t5 := X.t5; have a5 := X.a5; have z5 := X.z5; have v5 := X.v5; have u5 := run_underlying X.t5
 go_enter L.f169, Body.n169_ntmps ρ
 go_wp2
 go_region_o
 all_goals (go_wp2; go_ret; exact ⟨rfl, rfl⟩)
end Go.Proofs
namespace Gv
open Rd
abbrev kV : FuncId := 25
abbrev dM : FuncId := 17
noncomputable abbrev iq : Func := Go.Proofs.Tryz.f17
abbrev fJ : FuncId := 206
noncomputable abbrev jE : Func := Go.Proofs.Tryz.f206
abbrev l8 : FuncId := 19
abbrev gN : TypeId := 187
structure Sv where
 a : Value
 b : Value
 c : Value
 d : Value
 e : Value
 z : Value
def vC (v : Value) : SV := .dt (.cell v)
def shC (x : Sv) (A : SV) (B : SV) : List SV := [vC x.a, vC x.b, vC x.c, vC x.d, vC x.e, A, B, vC x.z]
def Jd : SV := .dt (.cell (.pointer none))
def buO (x : Sv) (A : SV) (n : Nat) (f : Nat -> Nat -> Dt) : List Ob := [.cells gN (shC x A (.nm 1)), .row tU8 1 n f]
def Xz (x : Sv) (n : Nat) (f : Nat -> Nat -> Dt) : T Out := .ret (.tup [], [some (.cells gN (shC x (.ptr 0 5) (.nm 1))), some (.row tU8 1 n f)])
def isA (A : SV) : Prop := A = .ptr 0 5 ∨ A = Jd
def aau : SV -> Option SV
 | .ptr 0 5 => some (.ptr 0 5)
 | .dt (.cell (.pointer none)) => some Jd
 | _ => none
def CY (x : Sv) : FC := ⟨kV, false, false, fun al ol => match al, ol with
 | [.ptr 0 5], [.cells _ [_, _, _, _, _, A, .nm 1, _], .row _ 1 n f] => match aau A with
   | some A => some ([.ptr 0 5], buO x A n f, Xz x n f)
   | none => none
 | _, _ => none⟩
def wbO (x : Sv) (c : Int) (n : Nat) (f : Nat -> Nat -> Dt) : T Out := .need (n <= 100000) (.ret (.dt (.cell .nilIface), [some (.cells gN (shC x (.ptr 0 5) (.nm 2))), none, some (.row tU8 1 (n + 1) (Rx.gP n f (lV 1 [.cell (.int .u8 c)])))]))
def wsO (x : Sv) (s : ByteArray) (n : Nat) (f : Nat -> Nat -> Dt) : T Out := .need (n + s.size <= 100000) (.ret (.tup [vI .i64 s.size, .dt (.cell .nilIface)], [some (.cells gN (shC x (.ptr 0 5) (.nm 2))), none, some (.row tU8 1 (n + s.size) (Rx.gP n f (H9 s)))]))
def ait (x : Sv) (c : Int) (n : Nat) (f : Nat -> Nat -> Dt) (R : SV -> List (Option Ob) -> Prop) : Prop :=
((Rx.leL ([SV.ptr 0 5]) ([SV.ptr 0 5])) /\
((Rx.bD ([Ob.cells 187 [SV.dt (Dt.cell (x.a)), SV.dt (Dt.cell (x.b)), SV.dt (Dt.cell (x.c)), SV.dt (Dt.cell (x.d)), SV.dt (Dt.cell (x.e)), SV.ptr 0 5, SV.nm 1, SV.dt (Dt.cell (x.z))], Ob.row 5 1 (n) (f)]) ([Ob.cells 187 [SV.dt (Dt.cell (x.a)), SV.dt (Dt.cell (x.b)), SV.dt (Dt.cell (x.c)), SV.dt (Dt.cell (x.d)), SV.dt (Dt.cell (x.e)), SV.ptr 0 5, SV.nm 1, SV.dt (Dt.cell (x.z))], Ob.row 5 1 (n) (f)])) /\
 (((n + (1 : Nat)) * (1 : Nat) <= (140737488355328 : Nat)) /\
  (True /\
   R (SV.dt (Dt.cell (Go.Value.nilIface))) ([some (Ob.cells 187 [SV.dt (Dt.cell (x.a)), SV.dt (Dt.cell (x.b)), SV.dt (Dt.cell (x.c)), SV.dt (Dt.cell (x.d)), SV.dt (Dt.cell (x.e)), SV.ptr 0 5, SV.nm 2, SV.dt (Dt.cell (x.z))]), none, some (Ob.row 5 1 (n + (1 : Nat)) (Rx.gP n f (Rx.lV (1 : Nat) [Rx.Dt.cell (.int Go.IntKind.u8 c)])))])))))
def aiu (x : Sv) (c : Int) (n : Nat) (f : Nat -> Nat -> Dt) (R : SV -> List (Option Ob) -> Prop) : Prop :=
((Rx.leL ([SV.ptr 0 5]) ([SV.ptr 0 5])) /\
((Rx.bD ([Ob.cells 187 [SV.dt (Dt.cell (x.a)), SV.dt (Dt.cell (x.b)), SV.dt (Dt.cell (x.c)), SV.dt (Dt.cell (x.d)), SV.dt (Dt.cell (x.e)), SV.dt (Dt.cell (Go.Value.pointer Option.none)), SV.nm 1, SV.dt (Dt.cell (x.z))], Ob.row 5 1 (n) (f)]) ([Ob.cells 187 [SV.dt (Dt.cell (x.a)), SV.dt (Dt.cell (x.b)), SV.dt (Dt.cell (x.c)), SV.dt (Dt.cell (x.d)), SV.dt (Dt.cell (x.e)), SV.dt (Dt.cell (Go.Value.pointer Option.none)), SV.nm 1, SV.dt (Dt.cell (x.z))], Ob.row 5 1 (n) (f)])) /\
 (((n + (1 : Nat)) * (1 : Nat) <= (140737488355328 : Nat)) /\
  (True /\
   R (SV.dt (Dt.cell (Go.Value.nilIface))) ([some (Ob.cells 187 [SV.dt (Dt.cell (x.a)), SV.dt (Dt.cell (x.b)), SV.dt (Dt.cell (x.c)), SV.dt (Dt.cell (x.d)), SV.dt (Dt.cell (x.e)), SV.ptr 0 5, SV.nm 2, SV.dt (Dt.cell (x.z))]), none, some (Ob.row 5 1 (n + (1 : Nat)) (Rx.gP n f (Rx.lV (1 : Nat) [Rx.Dt.cell (.int Go.IntKind.u8 c)])))])))))
def aiw (x : Sv) (s : ByteArray) (n : Nat) (f : Nat -> Nat -> Dt) (R : SV -> List (Option Ob) -> Prop) : Prop :=
((Rx.leL ([SV.ptr 0 5]) ([SV.ptr 0 5])) /\
((Rx.bD ([Ob.cells 187 [SV.dt (Dt.cell (x.a)), SV.dt (Dt.cell (x.b)), SV.dt (Dt.cell (x.c)), SV.dt (Dt.cell (x.d)), SV.dt (Dt.cell (x.e)), SV.ptr 0 5, SV.nm 1, SV.dt (Dt.cell (x.z))], Ob.row 5 1 (n) (f)]) ([Ob.cells 187 [SV.dt (Dt.cell (x.a)), SV.dt (Dt.cell (x.b)), SV.dt (Dt.cell (x.c)), SV.dt (Dt.cell (x.d)), SV.dt (Dt.cell (x.e)), SV.ptr 0 5, SV.nm 1, SV.dt (Dt.cell (x.z))], Ob.row 5 1 (n) (f)])) /\
 ((n + s.size <= (140737488355328 : Nat)) /\
  (True /\
   R (SV.tup [SV.dt (Dt.cell (.int .i64 (↑s.size : Int))), SV.dt (Dt.cell (Go.Value.nilIface))]) ([some (Ob.cells 187 [SV.dt (Dt.cell (x.a)), SV.dt (Dt.cell (x.b)), SV.dt (Dt.cell (x.c)), SV.dt (Dt.cell (x.d)), SV.dt (Dt.cell (x.e)), SV.ptr 0 5, SV.nm 2, SV.dt (Dt.cell (x.z))]), none, some (Ob.row 5 1 (n + s.size) (Rx.gP n f (Rx.H9 s)))])))))
def aix (x : Sv) (s : ByteArray) (n : Nat) (f : Nat -> Nat -> Dt) (R : SV -> List (Option Ob) -> Prop) : Prop :=
((Rx.leL ([SV.ptr 0 5]) ([SV.ptr 0 5])) /\
((Rx.bD ([Ob.cells 187 [SV.dt (Dt.cell (x.a)), SV.dt (Dt.cell (x.b)), SV.dt (Dt.cell (x.c)), SV.dt (Dt.cell (x.d)), SV.dt (Dt.cell (x.e)), SV.dt (Dt.cell (Go.Value.pointer Option.none)), SV.nm 1, SV.dt (Dt.cell (x.z))], Ob.row 5 1 (n) (f)]) ([Ob.cells 187 [SV.dt (Dt.cell (x.a)), SV.dt (Dt.cell (x.b)), SV.dt (Dt.cell (x.c)), SV.dt (Dt.cell (x.d)), SV.dt (Dt.cell (x.e)), SV.dt (Dt.cell (Go.Value.pointer Option.none)), SV.nm 1, SV.dt (Dt.cell (x.z))], Ob.row 5 1 (n) (f)])) /\
 ((n + s.size <= (140737488355328 : Nat)) /\
  (True /\
   R (SV.tup [SV.dt (Dt.cell (.int .i64 (↑s.size : Int))), SV.dt (Dt.cell (Go.Value.nilIface))]) ([some (Ob.cells 187 [SV.dt (Dt.cell (x.a)), SV.dt (Dt.cell (x.b)), SV.dt (Dt.cell (x.c)), SV.dt (Dt.cell (x.d)), SV.dt (Dt.cell (x.e)), SV.ptr 0 5, SV.nm 2, SV.dt (Dt.cell (x.z))]), none, some (Ob.row 5 1 (n + s.size) (Rx.gP n f (Rx.H9 s)))])))))
open Go.Proofs in
set_option maxHeartbeats 1000000 in
set_option maxRecDepth 100000 in
theorem yG (b : Nat) (w : World) (h0 : w.cell? ⟨b, 5, none⟩ = some (.pointer (some ⟨b, 5, none⟩))) :
  Calls prog kV #[.pointer (some ⟨b, 5, none⟩)] w fun e w' => e = .returned (.tuple #[]) /\ w' = w := by
 obtain ⟨j, hj, _⟩ := Option.map_eq_some_iff.1 (show (prog.info? 61).map (·.size) = some 2 by kernel_rfl)
 have mx := mixed
 have u52 := run_underlying Tryz.underlying58
 have u55 := run_underlying Tryz.underlying61
 go_enter Tryz.func25, Tryz.ntmps25
 go_wp2
 rw [Lib.run_neq_ptr_same w _ Tryz.underlying58 hj]
 go_wp2
 go_end0
 exact ⟨rfl, rfl⟩
open Go.Proofs in
set_option maxHeartbeats 1000000 in
set_option maxRecDepth 100000 in
theorem xg (b : Nat) (w : World) (h0 : w.cell? ⟨b, 5, none⟩ = some (.pointer none)) (hsh : w.shape? b = some (gN, 8)) (hfz : w.frozen? ⟨b, 5, none⟩ = false) :
  Calls prog kV #[.pointer (some ⟨b, 5, none⟩)] w fun e w' => e = .returned (.tuple #[]) /\ w' = w.setCell ⟨b, 5, none⟩ (.pointer (some ⟨b, 5, none⟩)) := by
 obtain ⟨j, hj, hjs⟩ := Option.map_eq_some_iff.1 (show (prog.info? 61).map (·.size) = some 2 by kernel_rfl)
 have hl : liesAt prog prog.depth 187 (8 / prog.cellsOf 187) 5 61 1 = true := by kernel_rfl
 have mx := mixed
 have u52 := run_underlying Tryz.underlying58
 have u55 := run_underlying Tryz.underlying61
 have u74 := run_underlying Tryz.underlying84
 go_enter Tryz.func25, Tryz.ntmps25
 go_wp2
 rw [Lib.run_to_unsafe w ⟨b, 5, none⟩ Tryz.underlying58 Tryz.underlying84 hj (by rw [hjs]; decide) hsh (show 5 < 8 by decide)]
 simp only [Result.andThen]
 rw [Oper.upon_value]
 go_wp2
 rw [run_callFunc_extern Tryz.func31 (by kernel_rfl) (by kernel_rfl) (by kernel_rfl) (e := Extern.AbiNoEscape.same) (by kernel_rfl)]
 rw [Lib.run_noEscape]
 simp only [Result.andThen]
 rw [Oper.upon_value]
 go_wp2
 rw [Lib.run_from_unsafe w ⟨b, 5, none⟩ Tryz.underlying84 Tryz.underlying58 hj hsh hl]
 simp only [Result.andThen]
 rw [Oper.upon_value]
 go_wp2
 go_end0
 exact ⟨rfl, rfl⟩
theorem Q9 (x : Sv) {A : SV} (hA : isA A) (n : Nat) (f : Nat -> Nat -> Dt) : Ctr prog kV [.ptr 0 5] (buO x A n f) (Xz x n f) := by
 intro C w vs post hw ho hn hr hp
 have hp : post (.tup [], [some (.cells gN (shC x (.ptr 0 5) (.nm 1))), some (.row tU8 1 n f)]) := hp
 obtain ⟨_, _, rfl, ⟨b, hb, rfl⟩, rfl⟩ := hr
 obtain ⟨b', h1, h2, vs, h3, h4⟩ := ho 0 _ rfl
 have hrow := ho 1 _ rfl
 rw [hb] at h2
 injection h2 with h2; injection h2 with h2; injection h2 with h2; injection h2 with h2
 subst h2
 obtain ⟨y0, _, rfl, r0, y1, _, rfl, r1, y2, _, rfl, r2, y3, _, rfl, r3, y4, _, rfl, r4, va, _, rfl, ha, vb, _, rfl, hvb, y7, _, rfl, r7, rfl⟩ := h4
 have hret : ∀ (C : Ctx) (w : World), rel C w (.tup []) (.tuple #[]) := fun _ _ => ⟨[], rfl, rfl⟩
 rcases hA with rfl | rfl
 · obtain ⟨b2, hb2, rfl⟩ := ha
   rw [hb] at hb2
   injection hb2 with hb2; injection hb2 with hb2; injection hb2 with hb2; injection hb2 with hb2
   subst hb2
   refine (yG b w (by rw [Lib.cell_of_heap h3]; rfl)).mono ?_
   rintro e w' ⟨rfl, rfl⟩
   refine ⟨_, C, _, hp, rfl, Step.refl C _, hw, fun i hi => hn i hi, hret _ _, fun i ob hi => ?_⟩
   match i, hi with
   | 0, hi => injection hi with hi; injection hi with hi; subst hi; exact ⟨b, h1, hb, _, h3, _, _, rfl, r0, _, _, rfl, r1, _, _, rfl, r2, _, _, rfl, r3, _, _, rfl, r4, _, _, rfl, ⟨b, hb, rfl⟩, _, _, rfl, hvb, _, _, rfl, r7, rfl⟩
   | 1, hi => injection hi with hi; injection hi with hi; subst hi; exact hrow
 · have ha : va = .pointer none := aj.1 ha
   subst ha
   refine (xg b w (by rw [Lib.cell_of_heap h3]; rfl) (by simp [World.shape?, h3]) (Lib.frozen_of_heap h3 5)).mono ?_
   rintro e w' ⟨rfl, rfl⟩
   have hs := heap_setCell_same w b 5 _ _ (.pointer (some ⟨b, 5, none⟩)) h3
   have hst : Step (fun i => i = 0) C w C (w.setCell ⟨b, 5, none⟩ (.pointer (some ⟨b, 5, none⟩))) := by
    refine ⟨fun _ _ h => h, rfl, fun j _ h => .inl ⟨j, h⟩, fun _ _ _ h => h, ⟨rfl, rfl, rfl, by simp, fun k hk hx => ?_⟩⟩
    exact heap_setCell_other w _ k _ fun e => hx ⟨0, rfl, by rw [h1]; exact congrArg some e.symm⟩
   have hwf := jc hw hst
   refine ⟨_, C, _, hp, rfl, hst.mono fun i hi => (by subst hi; exact (by decide : 0 < 2)), hwf, fun i hi => hn i hi, hret _ _, fun i ob hi => ?_⟩
   match i, hi with
   | 0, hi =>
     injection hi with hi; injection hi with hi; subst hi
     exact ⟨b, h1, hb, [y0, y1, y2, y3, y4, .pointer (some ⟨b, 5, none⟩), vb, y7], hs, _, _, rfl, aC hst _ _ r0, _, _, rfl, aC hst _ _ r1, _, _, rfl, aC hst _ _ r2, _, _, rfl, aC hst _ _ r3, _, _, rfl, aC hst _ _ r4, _, _, rfl, ⟨b, hb, rfl⟩, _, _, rfl, aC hst _ _ hvb, _, _, rfl, aC hst _ _ r7, rfl⟩
   | 1, hi => injection hi with hi; injection hi with hi; subst hi; exact bZ hw hst (by decide) _ hrow
theorem WX {A B : SV} (h : aau A = some B) : isA B := by
 unfold aau at h
 split at h
 · injection h with h; exact .inl h.symm
 · injection h with h; exact .inr h.symm
 · cases h
theorem sG (x : Sv) : (CY x).Ok prog := by
 intro al ol args obs out h
 unfold CY at h
 simp only at h
 split at h
 · split at h
   · rename_i hA
     simp only [Option.some.injEq, Prod.mk.injEq] at h
     obtain ⟨rfl, rfl, rfl⟩ := h
     exact Q9 x (WX hA) _ _
   · cases h
 · cases h
theorem aen (x : Sv) {A : SV} (hA : isA A) (c : Int) (n : Nat) (f : Nat -> Nat -> Dt) : Ctr prog fJ [.ptr 0 5, vI .u8 c] (buO x A n f) (wbO x c n f) := by
 rcases hA with rfl | rfl
 · refine jo mixed (N := 17) (fn := jE) (c := bI jE) (ks := [(1, 1, CY x)]) (ls := []) (by kernel_rfl) (by kernel_rfl) (by kernel_rfl) (all_cons (sG x) all_nil) yS (gD (by kernel_rfl)) (by kernel_rfl) (Q := ait x c n f) (fun post hp => ?_) (fun R => by kernel_rfl)
   obtain ⟨h, hp⟩ := hp
   unfold ait
   exact ⟨aF _, aP _, by omega, trivial, lT hp (aI _) (aJ _)⟩
 · refine jo mixed (N := 17) (fn := jE) (c := bI jE) (ks := [(1, 1, CY x)]) (ls := []) (by kernel_rfl) (by kernel_rfl) (by kernel_rfl) (all_cons (sG x) all_nil) yS (gD (by kernel_rfl)) (by kernel_rfl) (Q := aiu x c n f) (fun post hp => ?_) (fun R => by kernel_rfl)
   obtain ⟨h, hp⟩ := hp
   unfold aiu
   exact ⟨aF _, aP _, by omega, trivial, lT hp (aI _) (aJ _)⟩
theorem aeo (x : Sv) {A : SV} (hA : isA A) (s : ByteArray) (n : Nat) (f : Nat -> Nat -> Dt) : Ctr prog dM [.ptr 0 5, vS s] (buO x A n f) (wsO x s n f) := by
 rcases hA with rfl | rfl
 · refine jo mixed (N := 19) (fn := iq) (c := bI iq) (ks := [(1, 1, CY x)]) (ls := []) (by kernel_rfl) (by kernel_rfl) (by kernel_rfl) (all_cons (sG x) all_nil) yS (gD (by kernel_rfl)) (by kernel_rfl) (Q := aiw x s n f) (fun post hp => ?_) (fun R => by kernel_rfl)
   obtain ⟨h, hp⟩ := hp
   unfold aiw
   exact ⟨aF _, aP _, by omega, trivial, lT hp (aI _) (aJ _)⟩
 · refine jo mixed (N := 19) (fn := iq) (c := bI iq) (ks := [(1, 1, CY x)]) (ls := []) (by kernel_rfl) (by kernel_rfl) (by kernel_rfl) (all_cons (sG x) all_nil) yS (gD (by kernel_rfl)) (by kernel_rfl) (Q := aix x s n f) (fun post hp => ?_) (fun R => by kernel_rfl)
   obtain ⟨h, hp⟩ := hp
   unfold aix
   exact ⟨aF _, aP _, by omega, trivial, lT hp (aI _) (aJ _)⟩
end Gv
set_option linter.unusedSimpArgs false
set_option linter.unusedVariables false
open Rx Go
namespace Gv
open Rd
theorem OL {C : Ctx} {w : World} {x0 x1 x2 x3 x4 x5 x6 x7 : SV} {vs : List Value} (h : relL C w [x0, x1, x2, x3, x4, x5, x6, x7] vs) :
  ∃ v0 v1 v2 v3 v4 v5 v6 v7, vs = [v0, v1, v2, v3, v4, v5, v6, v7] /\ rel C w x0 v0 /\ rel C w x1 v1 /\ rel C w x2 v2 /\ rel C w x3 v3 /\ rel C w x4 v4 /\ rel C w x5 v5 /\ rel C w x6 v6 /\ rel C w x7 v7 := by
 obtain ⟨y0, _, rfl, r0, y1, _, rfl, r1, y2, _, rfl, r2, y3, _, rfl, r3, y4, _, rfl, r4, y5, _, rfl, r5, y6, _, rfl, r6, y7, _, rfl, r7, rfl⟩ := h
 exact ⟨y0, y1, y2, y3, y4, y5, y6, y7, rfl, r0, r1, r2, r3, r4, r5, r6, r7⟩
theorem Ky {i : Nat} {A : SV} (h : Kw i A = true) : A = .ptr i 5 ∨ A = Jd := by
 unfold Kw at h
 split at h
 · rw [Nat.eq_of_beq_eq_true h]; exact .inl rfl
 · exact .inr rfl
 · cases h
def QB (f : FuncId) (arg : SV) (sv : SV) (ok : Nat -> Prop) (N : Nat -> Nat) (fn : Nat -> (Nat -> Nat -> Dt) -> Nat -> Nat -> Dt) : Prop :=
 ∀ (x : Sv) (A : SV) (n : Nat) (h : Nat -> Nat -> Dt), isA A -> Ctr prog f [.ptr 0 5, arg] (buO x A n h) (.need (ok n) (.ret (sv, [some (.cells gN (shC x (.ptr 0 5) (.nm 2))), none, some (.row tU8 1 (N n) (fn n h))])))
theorem OG {f : FuncId} {arg sv : SV} {ok : Nat -> Prop} {N : Nat -> Nat} {fn : Nat -> (Nat -> Nat -> Dt) -> Nat -> Nat -> Dt} (hctr : QB f arg sv ok N fn) (harg : ∀ ids, jB ids arg = arg)
  {C : Ctx} {w : World} {g : Nat -> Option Ob} {vs : List Value} {i j n new : Nat} {h : Nat -> Nat -> Dt} {x0 x1 x2 x3 x4 A x7 : SV} (hw : WF C w) (hg : ObsOk C w g) (hal : relL C w [.ptr i 5, arg] vs)
  (hgi : g i = some (.cells 187 [x0, x1, x2, x3, x4, A, .nm j, x7])) (hgj : g j = some (.row 5 1 n h)) (hA : Kw i A = true) (hij : i ≠ j) (hi : i < new) (hj : j < new) (hnew : C.ν new = none) (hok : ok n) :
  Calls prog f vs.toArray w fun e w' => ∃ v C', e = .returned v /\ Came C w ⟨.junk, ⟨[(i, some (.cells 187 [x0, x1, x2, x3, x4, .ptr i 5, .nm new, x7])), (j, none), (new, some (.row 5 1 (N n) (fn n h)))], [new]⟩⟩ C' w' v := by
 obtain ⟨b, hb, hν, us, hh, hus⟩ := hg i _ hgi
 obtain ⟨v0, v1, v2, v3, v4, v5, v6, v7, rfl, r0, r1, r2, r3, r4, r5, r6, r7⟩ := OL hus
 let x : Sv := ⟨v0, v1, v2, v3, v4, v7⟩
 let g' : Nat -> Option Ob := fun k => if k = i then some (.cells 187 (shC x A (.nm j))) else g k
 have hg' : ObsOk C w g' := by
  intro k ob hk
  by_cases e : k = i
  · subst e
    have : some (Ob.cells 187 (shC x A (.nm j))) = some ob := by simpa [g'] using hk
    injection this with this
    subst this
    exact ⟨b, hb, hν, _, hh, _, _, rfl, aj.2 rfl, _, _, rfl, aj.2 rfl, _, _, rfl, aj.2 rfl, _, _, rfl, aj.2 rfl, _, _, rfl, aj.2 rfl, _, _, rfl, r5, _, _, rfl, r6, _, _, rfl, aj.2 rfl, rfl⟩
  · exact hg k ob (by simpa [g', e] using hk)
 have e1 : g' i = some (.cells 187 (shC x A (.nm j))) := by simp [g']
 have e2 : g' j = some (.row 5 1 n h) := by simp [g', hij.symm, hgj]
 have p0 : posOf [i, j] i = some 0 := by simp [posOf, Nat.beq_refl]
 have p1 : posOf [i, j] j = some 1 := by simp [posOf, eU hij, Nat.beq_refl]
 obtain ⟨A0, hA0, hA1, hA2⟩ : ∃ A0, isA A0 /\ jB [i, j] (thaw g' A) = A0 /\ thaw g' (.nm j) = .nm j := by
  rcases Ky hA with rfl | rfl
  · exact ⟨.ptr 0 5, .inl rfl, by simp [thaw, jB, p0], by simp [thaw, e2]⟩
  · exact ⟨Jd, .inr rfl, by simp [Jd, thaw, jB], by simp [thaw, e2]⟩
 have hol : pG g' [i, j] [i, j] = some (buO x A0 n h) := by
  simp only [pG, e1, e2, iK, Option.map_some, shC, ru, fF, hA1, hA2, vC, thaw, jB, p1, buO]
 have hargs : leL (fF [i, j] [.ptr i 5, arg]) [.ptr 0 5, arg] := by
  simp only [fF, jB, p0, harg]
  exact aF _
 refine (Ie (g := g') (ids := [i, j]) (new := new) (hctr x A0 n h hA0) hw hg' hal (by simp [nodup, hij]) (fun k hk => by simp at hk; omega) hol hargs (aP _) (post := fun y => y = (sv, [some (.cells gN (shC x (.ptr 0 5) (.nm 2))), none, some (.row tU8 1 (N n) (fn n h))])) ⟨hok, rfl⟩
  (fun y hy k hk => by subst hy; have : k = new := by simpa [upto] using hk
                       rw [this]; exact hnew) (fun y hy => by subst hy; simp)).mono ?_
 rintro e w' ⟨v, C', y, rfl, rfl, hc⟩
 refine ⟨v, C', rfl, ?_⟩
 have hup : upto new (3 - 2) = [new] := rfl
 have hst : Step (fun k => k = i ∨ k = j ∨ k = new) C w C' w' := hc.step.mono fun k hk => by
  have hk : k ∈ (([i, j] ++ [new]).zip ([some (Ob.cells gN (shC x (.ptr 0 5) (.nm 2))), none, some (.row tU8 1 (N n) (fn n h))].map fun x => x.map (lF ([i, j] ++ [new])))).map (·.1) := hk
  simpa using hk
 refine ⟨trivial, hst.mono fun k hk => ?_, hc.wf, fun k hk => ?_, fun k ob hk => ?_⟩
 · show k ∈ [i, j, new]
   simpa using hk
 · rcases hc.new k hk with h1 | h1
   · exact .inl h1
   · exact .inr h1
 · have hc2 := hc.obs
   by_cases ki : k = i
   · subst ki
     simp [List.lookup] at hk
     subst hk
     obtain ⟨b2, q1, q2, us, q3, q4⟩ := hc2 k (.cells gN (shC x (.ptr k 5) (.nm new))) (by
        show List.lookup k (([k, j] ++ [new]).zip ([some (Ob.cells gN (shC x (.ptr 0 5) (.nm 2))), none, some (.row tU8 1 (N n) (fn n h))].map fun x => x.map (lF ([k, j] ++ [new])))) = _
        simp [List.lookup, lF, Lj, ren, shC, vC])
     obtain ⟨u0, u1, u2, u3, u4, u5, u6, u7, rfl, s0, s1, s2, s3, s4, s5, s6, s7⟩ := OL q4
     have t0 : u0 = v0 := aj.1 s0
     have t1 : u1 = v1 := aj.1 s1
     have t2 : u2 = v2 := aj.1 s2
     have t3 : u3 = v3 := aj.1 s3
     have t4 : u4 = v4 := aj.1 s4
     have t7 : u7 = v7 := aj.1 s7
     subst t0; subst t1; subst t2; subst t3; subst t4; subst t7
     exact ⟨b2, q1, q2, _, q3, _, _, rfl, aC hst _ _ r0, _, _, rfl, aC hst _ _ r1, _, _, rfl, aC hst _ _ r2, _, _, rfl, aC hst _ _ r3, _, _, rfl, aC hst _ _ r4, _, _, rfl, s5, _, _, rfl, s6, _, _, rfl, aC hst _ _ r7, rfl⟩
   · have ki' : (k == i) = false := by simpa using ki
     by_cases kj : k = j
     · subst kj
       simp [List.lookup, ki'] at hk
     · have kj' : (k == j) = false := by simpa using kj
       by_cases kn : k = new
       · subst kn
         simp [List.lookup, ki', kj'] at hk
         subst hk
         exact hc2 k (.row tU8 1 (N n) (fn n h)) (by
          show List.lookup k (([i, j] ++ [k]).zip ([some (Ob.cells gN (shC x (.ptr 0 5) (.nm 2))), none, some (.row tU8 1 (N n) (fn n h))].map fun x => x.map (lF ([i, j] ++ [k])))) = _
          simp [List.lookup, ki', kj', lF])
       · have kn' : (k == new) = false := by simpa using kn
         simp [List.lookup, ki', kj', kn'] at hk
theorem Bg {f : FuncId} {arg sv : SV} {ok : Nat -> Prop} {N : Nat -> Nat} {fn : Nat -> (Nat -> Nat -> Dt) -> Nat -> Nat -> Dt} (hctr : QB f arg sv ok N fn) (harg : ∀ ids, jB ids arg = arg) (hcal : callable prog f = true)
  {C : Ctx} {w : World} {g : Nat -> Option Ob} {vs : List Value} {new : Nat} {p : SV} {post : Res -> Prop} (hw : WF C w) (hg : ObsOk C w g) (hnew : ∀ r, post r -> ∀ i ∈ r.eff.new, C.ν i = none) (hal : relL C w [p, arg] vs)
  (hh : (Qd g new p ok N fn).holds post) : callable prog f = true /\ Calls prog f vs.toArray w fun e w' => ∃ v C' r, e = .returned v /\ post r /\ Came C w r C' w' v := by
 refine ⟨hcal, ?_⟩
 unfold Qd at hh
 split at hh
 · rename_i i
   split at hh
   · rename_i x0 x1 x2 x3 x4 A B x7 hgi
     cases hb : (Kw i A && Nat.blt i new) with
     | false => rw [hb] at hh; exact hh.elim
     | true =>
       rw [hb, cond_true] at hh
       simp only [Bool.and_eq_true, Nat.blt_eq] at hb
       split at hh
       · rename_i j
         split at hh
         · rename_i n h hgj
           cases hb2 : (!Nat.beq i j && Nat.blt j new) with
           | false => rw [hb2] at hh; exact hh.elim
           | true =>
             rw [hb2, cond_true] at hh
             simp only [Bool.and_eq_true, Bool.not_eq_true', Nat.blt_eq] at hb2
             have hij : i ≠ j := fun e => by rw [e, Nat.beq_refl] at hb2; cases hb2.1
             obtain ⟨hok, hp⟩ := hh
             refine (OG hctr harg hw hg hal hgi hgj hb.1 hij hb.2 hb2.2 (hnew _ hp new (by simp)) hok).mono ?_
             rintro e w' ⟨v, C', he, hc⟩
             exact ⟨v, C', _, he, hp, hc⟩
         · exact hh.elim
       · obtain ⟨hok, hp⟩ := hh
         have hn0 : C.ν new = none := hnew _ hp new (by simp)
         have hn1 : C.ν (new + 1) = none := hnew _ hp (new + 1) (by simp)
         have hc0 := Came.move (old := none) (i := new) (v := .slice none 0 0) (b := none) (ob := .row 5 1 0 row0) hw hn0 tX (Gh w) (K3 5 1)
         have hst0 : Step (fun k => k = new) C w (C.move none new (.slice none 0 0) none) w := hc0.step.mono fun k hk => by
          have hk : k ∈ [new] := hk
          simpa using hk
         have hin : i ≠ new := by omega
         let g1 : Nat -> Option Ob := fun k => if k = new then some (.row 5 1 0 row0) else if k = i then some (.cells 187 [x0, x1, x2, x3, x4, A, .nm new, x7]) else none
         obtain ⟨b, hb1, hν, us, hheap, hus⟩ := hg i _ hgi
         obtain ⟨v0, v1, v2, v3, v4, v5, v6, v7, rfl, r0, r1, r2, r3, r4, r5, r6, r7⟩ := OL hus
         have t6 : v6 = .slice none 0 0 := aj.1 r6
         subst t6
         have hg1 : ObsOk (C.move none new (.slice none 0 0) none) w g1 := by
          intro k ob hk
          by_cases kn : k = new
          · subst kn
            have : some (Ob.row 5 1 0 row0) = some ob := by simpa [g1] using hk
            injection this with this
            subst this
            exact hc0.obs k _ (by simp [List.lookup])
          · by_cases ki : k = i
            · subst ki
              have : some (Ob.cells 187 [x0, x1, x2, x3, x4, A, .nm new, x7]) = some ob := by
               rw [← hk]; show _ = if k = new then _ else if k = k then _ else _
               rw [if_neg kn, if_pos rfl]
              injection this with this
              subst this
              refine ⟨b, hst0.keep k b (by simpa using kn) hb1, hst0.ext _ _ hν, _, hheap, _, _, rfl, aC hst0 _ _ r0, _, _, rfl, aC hst0 _ _ r1, _, _, rfl, aC hst0 _ _ r2, _, _, rfl, aC hst0 _ _ r3, _, _, rfl, aC hst0 _ _ r4, _, _, rfl, aC hst0 _ _ r5, _, _, rfl, ?_, _, _, rfl, aC hst0 _ _ r7, rfl⟩
              exact ⟨upd_same _ _ _, rfl⟩
            · have : (none : Option Ob) = some ob := by
               rw [← hk]; show _ = if k = new then _ else if k = i then _ else _
               rw [if_neg kn, if_neg ki]
              cases this
         have hn2 : (C.move none new (.slice none 0 0) none).ν (new + 1) = none := by
          show upd C.ν new (some (.slice none 0 0)) (new + 1) = none
          rw [bE _ _ (by omega)]; exact hn1
         refine (OG hctr harg hc0.wf hg1 (cO hst0 _ _ hal) (i := i) (j := new) (n := 0) (h := row0) (new := new + 1) (show g1 i = _ from (if_neg hin).trans (if_pos rfl)) (show g1 new = _ from if_pos rfl) hb.1 hin (by omega) (by omega) hn2 hok).mono ?_
         rintro e w' ⟨v, C', he, hc⟩
         refine ⟨v, C', _, he, hp, trivial, ?_, hc.wf, fun k hk => ?_, hc.obs⟩
         · refine Step.trans hc0.wf (hst0.mono fun k hk => ?_) (hc.step.mono fun k hk => hk)
           subst hk
           show k ∈ [i, k, k + 1]
           simp
         · rcases hc.new k hk with h1 | h1
           · by_cases kn : k = new
             · subst kn; right; show k ∈ [k, k + 1]; simp
             · left
               have : upd C.ν new (some (.slice none 0 0)) k ≠ none := h1
               rwa [bE _ _ kn] at this
           · right
             have h1 : k ∈ [new + 1] := h1
             show k ∈ [new, new + 1]
             simp at h1 ⊢
             exact .inr h1
       · exact hh.elim
   · exact hh.elim
 · exact hh.elim
theorem c35 : callable prog dM = true := by kernel_rfl
theorem c233 : callable prog fJ = true := by kernel_rfl
theorem c37 : callable prog l8 = true := by kernel_rfl
theorem JW : bJ prog dM (mkS fun al g new => wsR al g new) := by
 intro C w g al vs new post hw hg hnew hr hh
 replace hh : (wsR al g new).holds post := hh
 unfold wsR at hh
 split at hh
 · rename_i p x
   split at hh
   · rename_i s hs
     obtain ⟨u, _, rfl, hp, v, _, rfl, hx, rfl⟩ := hr
     have hv := gG hs hx
     subst hv
     exact Bg (arg := vS s) (sv := .tup [vI .i64 s.size, .dt (.cell .nilIface)]) (fun x A n h hA => aeo x hA s n h) (fun _ => rfl) c35 hw hg hnew ⟨_, _, rfl, hp, _, _, rfl, aj.2 rfl, rfl⟩ hh
   · exact hh.elim
 · exact hh.elim
theorem JU : bJ prog fJ (mkS fun al g new => wbR al g new) := by
 intro C w g al vs new post hw hg hnew hr hh
 replace hh : (wbR al g new).holds post := hh
 unfold wbR at hh
 split at hh
 · rename_i p c
   exact Bg (arg := vI .u8 c) (sv := .dt (.cell .nilIface)) (fun x A n h hA => aen x hA c n h) (fun _ => rfl) c233 hw hg hnew hr hh
 · exact hh.elim
theorem FE (w : World) (g n k : Nat) (h : k ≠ g) : (w.freeze ⟨g, 0, none⟩ n).heap[k]? = w.heap[k]? := by
 unfold World.freeze
 split
 · rfl
 · simp only [Array.getElem?_modify]
   rw [if_neg (fun e => h e.symm)]
theorem fC (n : Nat) (f : Nat -> Nat -> Dt) : (nS n f).length = n := by simp [nS]
theorem Jw {n : Nat} {f : Nat -> Nat -> Dt} {j : Nat} {x : UInt8} (h : (nS n f)[j]? = some x) : j < n /\ x = Pm (f j 0) := by
 have hj : j < n := by
  have := (List.getElem?_eq_some_iff.1 h).1
  rwa [fC] at this
 refine ⟨hj, ?_⟩
 unfold nS at h
 rw [List.getElem?_map, List.getElem?_range hj] at h
 simpa using h.symm
theorem H8 : bJ prog l8 (mkS fun al g _ => bsR al g) := by
 intro C w g al vs new post hw hg hnew hr hh
 replace hh : (bsR al g).holds post := hh
 unfold bsR at hh
 split at hh
 · rename_i p
   unfold Wh at hh
   split at hh
   · rename_i i
     split at hh
     · rename_i x0 x1 x2 x3 x4 A j x7 hgi
       split at hh
       · rename_i n f hgj
         obtain ⟨⟨hn0, hn1, hby⟩, hp⟩ := hh
         refine ⟨c37, ?_⟩
         obtain ⟨u, _, rfl, ⟨b, hb, rfl⟩, rfl⟩ := hr
         obtain ⟨b', h1, h2, us, h3, h4⟩ := hg i _ hgi
         rw [hb] at h2
         injection h2 with h2; injection h2 with h2; injection h2 with h2; injection h2 with h2
         subst h2
         obtain ⟨v0, v1, v2, v3, v4, v5, v6, v7, rfl, _, _, _, _, _, _, r6, _⟩ := OL h4
         obtain ⟨Av, c, k1, k2⟩ := hg j _ hgj
         have hv6 : C.ν j = some v6 := r6.1
         rw [k1] at hv6
         injection hv6 with hv6
         subst hv6
         rcases k2 with ⟨_, hz, _⟩ | ⟨q, q1, rfl, q2, cur, q3, q4, q5⟩
         · omega
         have hcell : ∀ k x, (nS n f)[k]? = some x -> w.cell? ((⟨q, 0, none⟩ : Addr).add k) = some (.int .u8 x.toNat) := fun k x hx => by
          obtain ⟨hk, rfl⟩ := Jw hx
          obtain ⟨u, u1, u2, u3⟩ := q5 k 0 hk (by decide)
          have u3 := u3.here
          rw [hby k hk] at u3
          have u3 : u = .int .u8 ((Pm (f k 0)).toNat) := u3
          subst u3
          have e : k * 1 + 0 = k := by omega
          rw [e] at u1
          rw [aZ, Nat.zero_add, cell_of_row w q _ cur tU8 (0, 0) q3]
          exact u1
         have hl0 : nS n f ≠ [] := fun e => by
          have := fC n f
          rw [e] at this
          simp at this
          omega
         have hc6 : w.cell? ⟨b, 6, none⟩ = some (.slice (some ⟨q, 0, none⟩) (nS n f).length c) := by rw [Lib.cell_of_heap h3, fC]; rfl
         refine (Go.Proofs.Any.J4 Go.Proofs.Tryz.IU Go.Proofs.Tryz.Xb b q c cur (nS n f) w hl0 hc6 q3 (by rw [fC]; exact q2) (by rw [fC]; omega) (by rw [fC]; omega) hcell).mono ?_
         rintro e w' ⟨rfl, rfl⟩
         have hsz : (w.drew.freeze ⟨q, 0, none⟩ (nS n f).length).heap.size = w.heap.size := by
          unfold World.freeze
          split
          · rfl
          · exact Array.size_modify
         have hfields : (w.drew.freeze ⟨q, 0, none⟩ (nS n f).length).os = w.os /\ (w.drew.freeze ⟨q, 0, none⟩ (nS n f).length).tape = w.tape /\ (w.drew.freeze ⟨q, 0, none⟩ (nS n f).length).output = w.output := by
          unfold World.freeze
          split <;> exact ⟨rfl, rfl, rfl⟩
         have hst : Step (fun k => k = j) C w C (w.drew.freeze ⟨q, 0, none⟩ (nS n f).length) := by
          refine ⟨fun _ _ h => h, rfl, fun j _ h => .inl ⟨j, h⟩, fun _ _ _ h => h, ⟨hfields.1, hfields.2.1, hfields.2.2, by omega, fun k hk hx => ?_⟩⟩
          exact FE w.drew q _ k fun e => hx ⟨j, rfl, by rw [q1]; exact congrArg some e.symm⟩
         refine ⟨_, C, _, rfl, hp, rfl, hst.mono fun k hk => ?_, jc hw hst, fun k hk => .inl hk, fun k ob hk => ?_⟩
         · subst hk
           show k ∈ [k]
           simp
         · by_cases e : k = j
           · subst e
             simp [List.lookup] at hk
           · have : (k == j) = false := by simpa using e
             simp [List.lookup, this] at hk
       · exact hh.elim
     · exact hh.elim
   · exact hh.elim
 · exact hh.elim
theorem aiy (tbl : List (Nat × List Dx)) : ∀ f s, F tbl f = some s -> bJ prog f s := by
 intro f s h
 unfold F at h
 split at h
 · injection h with h; subst h; exact zh
 · injection h with h; subst h; exact Gn
 · injection h with h; subst h; exact Li tbl
 · injection h with h; subst h; exact G7
 · injection h with h; subst h; exact JW
 · injection h with h; subst h; exact H8
 · injection h with h; subst h; exact JU
 · cases h
end Gv
