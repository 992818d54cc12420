/- strings.Builder's methods, as contracts. -/
import Derived.Test.YtnalaogenpicfaaDoorRdK
import Derived.Shelf.Strings.Builder1
set_option linter.unusedSimpArgs false
set_option linter.unusedVariables false
open Rx Go
namespace Go.Proofs
open Go.Shelf
def Tryd.laysBString_ren : Go.Shelf.Ren := ⟨fun | 169 => 22 | n => n, fun | 70 => 52 | 9 => 9 | 0 => 0 | 72 => 55 | 37 => 53 | 127 => 69 | 3 => 3 | 5 => 5 | n => n, fun | n => n⟩
theorem Tryd.laysBString : Go.Proofs.Lays.n169 Tryd.prog Tryd.laysBString_ren := {
  mixed := by kernel_rfl
  f169 := Tryd.func22.trans (congrArg some (by kernel_rfl))
  t0 := Tryd.underlying0
  a0 := Tryd.isAgg0
  z0 := Tryd.sizeOf0
  v0 := Tryd.zeroValue0
  t3 := Tryd.underlying3
  a3 := Tryd.isAgg3
  z3 := Tryd.sizeOf3
  v3 := Tryd.zeroValue3
  t9 := Tryd.underlying9
  a9 := Tryd.isAgg9
  z9 := Tryd.sizeOf9
  v9 := Tryd.zeroValue9
  t37 := Tryd.underlying53
  a37 := Tryd.isAgg53
  z37 := Tryd.sizeOf53
  v37 := Tryd.zeroValue53
  t70 := Tryd.underlying52
  a70 := Tryd.isAgg52
  z70 := Tryd.sizeOf52
  v70 := Tryd.zeroValue52
  t72 := Tryd.underlying55
  a72 := Tryd.isAgg55
  z72 := Tryd.sizeOf55
  v72 := Tryd.zeroValue55
  t127 := Tryd.underlying69
  a127 := Tryd.isAgg69
  z127 := Tryd.sizeOf69
  v127 := Tryd.zeroValue69 }
theorem Tryd.stringX : Builder.Extra Tryd.prog Tryd.laysBString_ren where
  sizeBuilder := by kernel_rfl
  liesBuilder := by kernel_rfl
  t5 := Tryd.underlying5
  a5 := Tryd.isAgg5
  z5 := Tryd.sizeOf5
  v5 := Tryd.zeroValue5
  infoByte := by kernel_rfl
  cellsByte := by kernel_rfl
  sizeByte := by kernel_rfl
  neB5 := by decide

variable {P : Program} {ρ : Ren}
set_option maxHeartbeats 1000000 in
set_option maxRecDepth 100000 in
/-- String at a builder that holds bytes: its row is written no more -/
theorem Any.bString_row (L : Lays.n169 P ρ) (X : Builder.Extra P ρ) (b g cap : Nat) (cur : Array Value) (p : Value) (l : List UInt8) (w : World) (h0 : l ≠ []) (hbk : w.heap[b]? = some (.cells #[p, .slice (some ⟨g, 0, none⟩) l.length cap] (ρ.t 72) (0, 0)))
    (hg : w.heap[g]? = some (.cells cur (ρ.t 5) (0, 0))) (hcap : l.length ≤ cap) (hnc : l.length ≤ cur.size) (hl : l.length ≤ 140737488355328) (hcell : ∀ j x, l[j]? = some x → w.cell? ((⟨g, 0, none⟩ : Addr).add j) = some (.int .u8 x.toNat)) :
    Calls P (ρ.f 169) #[.pointer (some ⟨b, 0, none⟩)] w fun e w' => e = .returned (.string ⟨l.toArray⟩) ∧ w' = w.drew.freeze ⟨g, 0, none⟩ l.length := by
  have hl0 : l.length ≠ 0 := by simpa using h0
  have c1 : w.drew.cell? ⟨b, 1, none⟩ = some (.slice (some ⟨g, 0, none⟩) l.length cap) := by
    have : w.drew.heap[b]? = some (.cells #[p, .slice (some ⟨g, 0, none⟩) l.length cap] (ρ.t 72) (0, 0)) := hbk
    rw [Lib.cell_of_heap this]; rfl
  have hSD : (Builtin.unsafeSliceData_ #[(ρ.t 37)] (ρ.t 127) #[.slice (some ⟨g, 0, none⟩) l.length cap]).run P w.drew = .ok (.pointer (some ⟨g, 0, none⟩)) w.drew :=
    Lib.run_unsafeSliceData_row _ _ _ _ _ _ (by omega)
  have hUS : (Builtin.unsafeString_ #[(ρ.t 127), (ρ.t 3)] (ρ.t 9) #[.pointer (some ⟨g, 0, none⟩), .int .i64 l.length]).run P w.drew = .ok (.string ⟨l.toArray⟩) (w.drew.freeze ⟨g, 0, none⟩ l.length) := by
    refine Lib.run_unsafeString_row w.drew (ρ.t 127) (ρ.t 3) (ρ.t 9) (ρ.t 5) L.t127 X.cellsByte g cur.size (by have hg' : w.drew.heap[g]? = some (.cells cur (ρ.t 5) (0, 0)) := hg; simp [World.shape?, hg']) l h0 hnc (by omega) ?_
    intro j x hx
    exact hcell j x hx
  have mixed := L.mixed
  have t72 := L.t72; have a72 := L.a72; have z72 := L.z72; have v72 := L.v72; have u72 := run_underlying L.t72
  have t70 := L.t70; have a70 := L.a70; have z70 := L.z70; have v70 := L.v70; have u70 := run_underlying L.t70
  have t37 := L.t37; have a37 := L.a37; have z37 := L.z37; have v37 := L.v37; have u37 := run_underlying L.t37
  have t127 := L.t127; have a127 := L.a127; have z127 := L.z127; have v127 := L.v127; have u127 := run_underlying L.t127
  have t3 := L.t3; have a3 := L.a3; have z3 := L.z3; have v3 := L.v3; have u3 := run_underlying L.t3
  have t9 := L.t9; have a9 := L.a9; have z9 := L.z9; have v9 := L.v9; have u9 := run_underlying L.t9
  have t5 := X.t5; have a5 := X.a5; have z5 := X.z5; have v5 := X.v5; have u5 := run_underlying X.t5
  go_enter L.f169, Body.n169_ntmps ρ
  go_wp2
  go_region_o
  all_goals (go_wp2; go_ret; exact ⟨rfl, rfl⟩)
end Go.Proofs
namespace Rd
--PROG prog
abbrev f_copyCheck : FuncId := 36
abbrev tBuilder : TypeId := 55
abbrev tU8 : TypeId := 5
/-- bytes in a row -/
def lstF (l : List UInt8) (i _j : Nat) : Dt := .cell (.int .u8 ((l.getD i 0).toNat))
def nilP' : SV := .dt (.cell (.pointer none))
def buO (A : SV) (n : Nat) (f : Nat → Nat → Dt) : List Ob := [.cells tBuilder [A, .nm 1], .row tU8 1 n f]
def copyO (n : Nat) (f : Nat → Nat → Dt) : T Out := .ret (.tup [], [some (.cells tBuilder [.ptr 0 0, .nm 1]), some (.row tU8 1 n f)])
def isA (A : SV) : Prop := A = .ptr 0 0 ∨ A = nilP'
def selA : SV → Option SV
  | .ptr 0 0 => some (.ptr 0 0)
  | .dt (.cell (.pointer none)) => some nilP'
  | _ => none
def rdU8 : SV → Option Int
  | .dt (.cell (.int .u8 n)) => some n
  | .ki .u8 n => some n
  | _ => none
def copyF : FC := ⟨f_copyCheck, false, false, fun al ol => match al, ol with
  | [.ptr 0 0], [.cells _ [A, .nm 1], .row _ 1 n f] => match selA A with
    | some A => some ([.ptr 0 0], buO A n f, copyO n f)
    | none => none
  | _, _ => none⟩
def wbO (c : Int) (n : Nat) (f : Nat → Nat → Dt) : T Out := .need (n ≤ 100000) (.ret (.dt (.cell .nilIface), [some (.cells tBuilder [.ptr 0 0, .nm 2]), none, some (.row tU8 1 (n + 1) (catF n f (litF 1 [.cell (.int .u8 c)])))]))
def wsO (s : ByteArray) (n : Nat) (f : Nat → Nat → Dt) : T Out := .need (n + s.size ≤ 100000) (.ret (.tup [vI .i64 s.size, .dt (.cell .nilIface)], [some (.cells tBuilder [.ptr 0 0, .nm 2]), none, some (.row tU8 1 (n + s.size) (catF n f (bytF s)))]))
def wbQ1 (c : Int) (n : Nat) (f : Nat → Nat → Dt) (R : SV → List (Option Ob) → Prop) : Prop :=
((Rx.leL ([SV.ptr 0 0]) ([SV.ptr 0 0])) ∧
((Rx.leObL ([Ob.cells 55 [SV.ptr 0 0, SV.nm 1], Ob.row 5 1 (n) (f)]) ([Ob.cells 55 [SV.ptr 0 0, SV.nm 1], Ob.row 5 1 (n) (f)])) ∧
 (((n + (1 : Nat)) * (1 : Nat) ≤ (140737488355328 : Nat)) ∧
  (True ∧
   R (SV.dt (Dt.cell (Go.Value.nilIface))) ([some (Ob.cells 55 [SV.ptr 0 0, SV.nm 2]), none, some (Ob.row 5 1 (n + (1 : Nat)) (Rx.catF n f (Rx.litF (1 : Nat) [Rx.Dt.cell (Go.Value.int Go.IntKind.u8 c)])))])))))
def wbQ2 (c : Int) (n : Nat) (f : Nat → Nat → Dt) (R : SV → List (Option Ob) → Prop) : Prop :=
((Rx.leL ([SV.ptr 0 0]) ([SV.ptr 0 0])) ∧
((Rx.leObL ([Ob.cells 55 [SV.dt (Dt.cell (Go.Value.pointer Option.none)), SV.nm 1], Ob.row 5 1 (n) (f)]) ([Ob.cells 55 [SV.dt (Dt.cell (Go.Value.pointer Option.none)), SV.nm 1], Ob.row 5 1 (n) (f)])) ∧
 (((n + (1 : Nat)) * (1 : Nat) ≤ (140737488355328 : Nat)) ∧
  (True ∧
   R (SV.dt (Dt.cell (Go.Value.nilIface))) ([some (Ob.cells 55 [SV.ptr 0 0, SV.nm 2]), none, some (Ob.row 5 1 (n + (1 : Nat)) (Rx.catF n f (Rx.litF (1 : Nat) [Rx.Dt.cell (Go.Value.int Go.IntKind.u8 c)])))])))))
def wsQ1 (s : ByteArray) (n : Nat) (f : Nat → Nat → Dt) (R : SV → List (Option Ob) → Prop) : Prop :=
((Rx.leL ([SV.ptr 0 0]) ([SV.ptr 0 0])) ∧
((Rx.leObL ([Ob.cells 55 [SV.ptr 0 0, SV.nm 1], Ob.row 5 1 (n) (f)]) ([Ob.cells 55 [SV.ptr 0 0, SV.nm 1], Ob.row 5 1 (n) (f)])) ∧
 ((n + s.size ≤ (140737488355328 : Nat)) ∧
  (True ∧
   R (SV.tup [SV.dt (Dt.cell (Go.Value.int Go.IntKind.i64 (↑s.size : Int))), SV.dt (Dt.cell (Go.Value.nilIface))]) ([some (Ob.cells 55 [SV.ptr 0 0, SV.nm 2]), none, some (Ob.row 5 1 (n + s.size) (Rx.catF n f (Rx.bytF s)))])))))
def wsQ2 (s : ByteArray) (n : Nat) (f : Nat → Nat → Dt) (R : SV → List (Option Ob) → Prop) : Prop :=
((Rx.leL ([SV.ptr 0 0]) ([SV.ptr 0 0])) ∧
((Rx.leObL ([Ob.cells 55 [SV.dt (Dt.cell (Go.Value.pointer Option.none)), SV.nm 1], Ob.row 5 1 (n) (f)]) ([Ob.cells 55 [SV.dt (Dt.cell (Go.Value.pointer Option.none)), SV.nm 1], Ob.row 5 1 (n) (f)])) ∧
 ((n + s.size ≤ (140737488355328 : Nat)) ∧
  (True ∧
   R (SV.tup [SV.dt (Dt.cell (Go.Value.int Go.IntKind.i64 (↑s.size : Int))), SV.dt (Dt.cell (Go.Value.nilIface))]) ([some (Ob.cells 55 [SV.ptr 0 0, SV.nm 2]), none, some (Ob.row 5 1 (n + s.size) (Rx.catF n f (Rx.bytF s)))])))))
/-! ## copyCheck: the seat's own walk -/
open Go.Proofs in
set_option maxHeartbeats 1000000 in
set_option maxRecDepth 100000 in
theorem copyCheck_used (b : Nat) (w : World) (h0 : w.cell? ⟨b, 0, none⟩ = some (.pointer (some ⟨b, 0, none⟩))) :
    Calls prog f_copyCheck #[.pointer (some ⟨b, 0, none⟩)] w fun e w' => e = .returned (.tuple #[]) ∧ w' = w := by
  obtain ⟨j, hj, _⟩ := Option.map_eq_some_iff.1 (show (prog.info? 55).map (·.size) = some 2 by kernel_rfl)
  have mx := mixed
  have u52 := run_underlying Tryd.underlying52
  have u55 := run_underlying Tryd.underlying55
  go_enter Tryd.func36, Tryd.ntmps36
  go_wp2
  rw [Lib.run_neq_ptr_same w _ Tryd.underlying52 hj]
  go_wp2
  go_end0
  exact ⟨rfl, rfl⟩
open Go.Proofs in
set_option maxHeartbeats 1000000 in
set_option maxRecDepth 100000 in
theorem copyCheck_fresh (b : Nat) (w : World) (h0 : w.cell? ⟨b, 0, none⟩ = some (.pointer none)) (hsh : w.shape? b = some (tBuilder, 2)) (hfz : w.frozen? ⟨b, 0, none⟩ = false) :
    Calls prog f_copyCheck #[.pointer (some ⟨b, 0, none⟩)] w fun e w' => e = .returned (.tuple #[]) ∧ w' = w.setCell ⟨b, 0, none⟩ (.pointer (some ⟨b, 0, none⟩)) := by
  obtain ⟨j, hj, hjs⟩ := Option.map_eq_some_iff.1 (show (prog.info? 55).map (·.size) = some 2 by kernel_rfl)
  have hl : liesAt prog prog.depth 55 (2 / prog.cellsOf 55) 0 55 1 = true := by kernel_rfl
  have mx := mixed
  have u52 := run_underlying Tryd.underlying52
  have u55 := run_underlying Tryd.underlying55
  have u74 := run_underlying Tryd.underlying74
  go_enter Tryd.func36, Tryd.ntmps36
  go_wp2
  rw [Lib.run_to_unsafe w ⟨b, 0, none⟩ Tryd.underlying52 Tryd.underlying74 hj (by rw [hjs]; decide) hsh (Nat.zero_lt_succ 1)]
  simp only [Result.andThen]
  rw [Oper.upon_value]
  go_wp2
  rw [run_callFunc_extern Tryd.func41 (by kernel_rfl) (by kernel_rfl) (by kernel_rfl) (e := Extern.AbiNoEscape.same) (by kernel_rfl)]
  rw [Lib.run_noEscape]
  simp only [Result.andThen]
  rw [Oper.upon_value]
  go_wp2
  rw [Lib.run_from_unsafe w ⟨b, 0, none⟩ Tryd.underlying74 Tryd.underlying52 hj hsh hl]
  simp only [Result.andThen]
  rw [Oper.upon_value]
  go_wp2
  go_end0
  exact ⟨rfl, rfl⟩

theorem copy_ctr {A : SV} (hA : isA A) (n : Nat) (f : Nat → Nat → Dt) : Ctr prog f_copyCheck [.ptr 0 0] (buO A n f) (copyO n f) := by
  intro C w vs post hw ho hn hr hp
  have hp : post (.tup [], [some (.cells tBuilder [.ptr 0 0, .nm 1]), some (.row tU8 1 n f)]) := hp
  obtain ⟨_, _, rfl, ⟨b, hb, rfl⟩, rfl⟩ := hr
  obtain ⟨b', h1, h2, vs, h3, h4⟩ := ho 0 _ rfl
  have hrow := ho 1 _ rfl
  rw [hb] at h2
  injection h2 with h2; injection h2 with h2; injection h2 with h2; injection h2 with h2
  subst h2
  obtain ⟨va, _, rfl, ha, vb, _, rfl, hvb, rfl⟩ := h4
  have hret : ∀ (C : Ctx) (w : World), rel C w (.tup []) (.tuple #[]) := fun _ _ => ⟨[], rfl, rfl⟩
  rcases hA with rfl | rfl
  · obtain ⟨b2, hb2, rfl⟩ := ha
    rw [hb] at hb2
    injection hb2 with hb2; injection hb2 with hb2; injection hb2 with hb2; injection hb2 with hb2
    subst hb2
    refine (copyCheck_used b w (by rw [Lib.cell_of_heap h3]; rfl)).mono ?_
    rintro e w' ⟨rfl, rfl⟩
    refine ⟨_, C, _, hp, rfl, Step.refl C _, hw, fun i hi => hn i hi, hret _ _, fun i ob hi => ?_⟩
    match i, hi with
    | 0, hi => injection hi with hi; injection hi with hi; subst hi; exact ⟨b, h1, hb, _, h3, _, _, rfl, ⟨b, hb, rfl⟩, _, _, rfl, hvb, rfl⟩
    | 1, hi => injection hi with hi; injection hi with hi; subst hi; exact hrow
  · have ha : va = .pointer none := rel_cell.1 ha
    subst ha
    refine (copyCheck_fresh b w (by rw [Lib.cell_of_heap h3]; rfl) (by simp [World.shape?, h3]) (Lib.frozen_of_heap h3 0)).mono ?_
    rintro e w' ⟨rfl, rfl⟩
    have hs := heap_setCell_same w b 0 _ _ (.pointer (some ⟨b, 0, none⟩)) h3
    have hst : Step (fun i => i = 0) C w C (w.setCell ⟨b, 0, none⟩ (.pointer (some ⟨b, 0, none⟩))) := by
      refine ⟨fun _ _ h => h, rfl, fun j _ h => .inl ⟨j, h⟩, fun _ _ _ h => h, ⟨rfl, rfl, rfl, by simp, fun k hk hx => ?_⟩⟩
      exact heap_setCell_other w _ k _ fun e => hx ⟨0, rfl, by rw [h1]; exact congrArg some e.symm⟩
    have hwf := wf_step hw hst
    refine ⟨_, C, _, hp, rfl, hst.mono fun i hi => (by subst hi; exact (by decide : 0 < 2)), hwf, fun i hi => hn i hi, hret _ _, fun i ob hi => ?_⟩
    match i, hi with
    | 0, hi =>
      injection hi with hi; injection hi with hi; subst hi
      exact ⟨b, h1, hb, [.pointer (some ⟨b, 0, none⟩), vb], hs, _, _, rfl, ⟨b, hb, rfl⟩, _, _, rfl, rel_step hst _ _ hvb, rfl⟩
    | 1, hi => injection hi with hi; injection hi with hi; subst hi; exact ob_step hw hst (by decide) _ hrow
theorem selA_is {A B : SV} (h : selA A = some B) : isA B := by
  unfold selA at h
  split at h
  · injection h with h; exact .inl h.symm
  · injection h with h; exact .inr h.symm
  · cases h
theorem copyF_ok : copyF.Ok prog := by
  intro al ol args obs out h
  unfold copyF at h
  simp only at h
  split at h
  · split at h
    · rename_i hA
      simp only [Option.some.injEq, Prod.mk.injEq] at h
      obtain ⟨rfl, rfl, rfl⟩ := h
      exact copy_ctr (selA_is hA) _ _
    · cases h
  · cases h

/-! ## writes -/
theorem sz_bound {n : Nat} {s : ByteArray} (h : n + s.size ≤ 100000) : n + s.size ≤ 140737488355328 := by omega
theorem wb_ctr {A : SV} (hA : isA A) (c : Int) (n : Nat) (f : Nat → Nat → Dt) : Ctr prog f_bWriteByte [.ptr 0 0, vI .u8 c] (buO A n f) (wbO c n f) := by
  rcases hA with rfl | rfl
  · refine ctr_fn mixed (N := 17) (fn := c_bWriteByte) (c := bodyOf c_bWriteByte) (ks := [(1, 1, copyF)]) (ls := []) (by kernel_rfl) (by kernel_rfl) (by kernel_rfl) (all_cons copyF_ok all_nil) fin0 (no_loops (by kernel_rfl)) (by kernel_rfl) (Q := wbQ1 c n f) (fun post hp => ?_) (fun R => by kernel_rfl)
    obtain ⟨h, hp⟩ := hp
    unfold wbQ1
    exact ⟨leL_refl _, leObL_refl _, by omega, trivial, gives2 hp (leS_refl _) (leOO_refl _)⟩
  · refine ctr_fn mixed (N := 17) (fn := c_bWriteByte) (c := bodyOf c_bWriteByte) (ks := [(1, 1, copyF)]) (ls := []) (by kernel_rfl) (by kernel_rfl) (by kernel_rfl) (all_cons copyF_ok all_nil) fin0 (no_loops (by kernel_rfl)) (by kernel_rfl) (Q := wbQ2 c n f) (fun post hp => ?_) (fun R => by kernel_rfl)
    obtain ⟨h, hp⟩ := hp
    unfold wbQ2
    exact ⟨leL_refl _, leObL_refl _, by omega, trivial, gives2 hp (leS_refl _) (leOO_refl _)⟩
theorem ws_ctr {A : SV} (hA : isA A) (s : ByteArray) (n : Nat) (f : Nat → Nat → Dt) : Ctr prog f_bWriteString [.ptr 0 0, vS s] (buO A n f) (wsO s n f) := by
  rcases hA with rfl | rfl
  · refine ctr_fn mixed (N := 19) (fn := c_bWriteString) (c := bodyOf c_bWriteString) (ks := [(1, 1, copyF)]) (ls := []) (by kernel_rfl) (by kernel_rfl) (by kernel_rfl) (all_cons copyF_ok all_nil) fin0 (no_loops (by kernel_rfl)) (by kernel_rfl) (Q := wsQ1 s n f) (fun post hp => ?_) (fun R => by kernel_rfl)
    obtain ⟨h, hp⟩ := hp
    unfold wsQ1
    exact ⟨leL_refl _, leObL_refl _, by omega, trivial, gives2 hp (leS_refl _) (leOO_refl _)⟩
  · refine ctr_fn mixed (N := 19) (fn := c_bWriteString) (c := bodyOf c_bWriteString) (ks := [(1, 1, copyF)]) (ls := []) (by kernel_rfl) (by kernel_rfl) (by kernel_rfl) (all_cons copyF_ok all_nil) fin0 (no_loops (by kernel_rfl)) (by kernel_rfl) (Q := wsQ2 s n f) (fun post hp => ?_) (fun R => by kernel_rfl)
    obtain ⟨h, hp⟩ := hp
    unfold wsQ2
    exact ⟨leL_refl _, leObL_refl _, by omega, trivial, gives2 hp (leS_refl _) (leOO_refl _)⟩
def wbF : FC := ⟨f_bWriteByte, true, false, fun al ol => match al, ol with
  | [.ptr 0 0, c], [.cells _ [A, .nm 1], .row _ 1 n f] => match rdU8 c, selA A with
    | some c, some A => some ([.ptr 0 0, vI .u8 c], buO A n f, wbO c n f)
    | _, _ => none
  | _, _ => none⟩
def wsF : FC := ⟨f_bWriteString, true, false, fun al ol => match al, ol with
  | [.ptr 0 0, s], [.cells _ [A, .nm 1], .row _ 1 n f] => match rdS s, selA A with
    | some s, some A => some ([.ptr 0 0, vS s], buO A n f, wsO s n f)
    | _, _ => none
  | _, _ => none⟩
theorem wbF_ok : wbF.Ok prog := by
  intro al ol args obs out h
  unfold wbF at h
  simp only at h
  repeat' split at h
  all_goals first
    | (rename_i hA; simp only [Option.some.injEq, Prod.mk.injEq] at h; obtain ⟨rfl, rfl, rfl⟩ := h; exact wb_ctr (selA_is hA) _ _ _)
    | cases h
theorem wsF_ok : wsF.Ok prog := by
  intro al ol args obs out h
  unfold wsF at h
  simp only at h
  repeat' split at h
  all_goals first
    | (rename_i hA; simp only [Option.some.injEq, Prod.mk.injEq] at h; obtain ⟨rfl, rfl, rfl⟩ := h; exact ws_ctr (selA_is hA) _ _ _)
    | cases h

/-! ## the string -/
def strO (l : List UInt8) : T Out := .ret (vS ⟨l.toArray⟩, [none, none])
theorem freeze_other (w : World) (g n k : Nat) (h : k ≠ g) : (w.freeze ⟨g, 0, none⟩ n).heap[k]? = w.heap[k]? := by
  unfold World.freeze
  split
  · rfl
  · simp only [Array.getElem?_modify]
    rw [if_neg (fun e => h e.symm)]
theorem str_ctr {l : List UInt8} (h0 : l ≠ []) (hl : l.length ≤ 100000) : Ctr prog f_bString [.ptr 0 0] (buO (.ptr 0 0) l.length (lstF l)) (strO l) := by
  intro C w vs post hw ho hn hr hp
  have hp : post (vS ⟨l.toArray⟩, [none, none]) := hp
  obtain ⟨_, _, rfl, ⟨b, hb, rfl⟩, rfl⟩ := hr
  obtain ⟨b', h1, h2, vs, h3, h4⟩ := ho 0 _ rfl
  obtain ⟨A, c, r1, r2⟩ := ho 1 _ rfl
  rw [hb] at h2
  injection h2 with h2; injection h2 with h2; injection h2 with h2; injection h2 with h2
  subst h2
  obtain ⟨va, _, rfl, ha, vb, _, rfl, hvb, rfl⟩ := h4
  have hvb : C.ν 1 = some vb := hvb.1
  rw [r1] at hvb
  injection hvb with hvb
  subst hvb
  have hlen : 0 < l.length := List.length_pos_iff.2 h0
  rcases r2 with ⟨_, hz, _⟩ | ⟨g, g1, rfl, g2, cur, g3, g4, g5⟩
  · omega
  have hcell : ∀ j x, l[j]? = some x → w.cell? ((⟨g, 0, none⟩ : Addr).add j) = some (.int .u8 x.toNat) := fun j x hx => by
    have hj : j < l.length := (List.getElem?_eq_some_iff.1 hx).1
    obtain ⟨u, u1, u2, u3⟩ := g5 j 0 hj (by decide)
    have u3 := u3.here
    have u3 : u = .int .u8 ((l.getD j 0).toNat) := u3
    rw [List.getD_eq_getElem?_getD, hx] at u3
    subst u3
    have e : j * 1 + 0 = j := by omega
    rw [e] at u1
    rw [add_none, Nat.zero_add, cell_of_row w g _ cur tU8 (0, 0) g3]
    exact u1
  refine (Go.Proofs.Any.bString_row Go.Proofs.Tryd.laysBString Go.Proofs.Tryd.stringX b g c cur va l w h0 h3 g3 g2 (by omega) (by omega) hcell).mono ?_
  rintro e w' ⟨rfl, rfl⟩
  have hsz : (w.drew.freeze ⟨g, 0, none⟩ l.length).heap.size = w.heap.size := by
    unfold World.freeze
    split
    · rfl
    · exact Array.size_modify
  have hfields : (w.drew.freeze ⟨g, 0, none⟩ l.length).os = w.os ∧ (w.drew.freeze ⟨g, 0, none⟩ l.length).tape = w.tape ∧ (w.drew.freeze ⟨g, 0, none⟩ l.length).output = w.output := by
    unfold World.freeze
    split <;> exact ⟨rfl, rfl, rfl⟩
  have hst : Step (fun i => i = 1) C w C (w.drew.freeze ⟨g, 0, none⟩ l.length) := by
    refine ⟨fun _ _ h => h, rfl, fun j _ h => .inl ⟨j, h⟩, fun _ _ _ h => h, ⟨hfields.1, hfields.2.1, hfields.2.2, by omega, fun k hk hx => ?_⟩⟩
    exact freeze_other w.drew g _ k fun e => hx ⟨1, rfl, by rw [g1]; exact congrArg some e.symm⟩
  refine ⟨_, C, _, hp, rfl, hst.mono fun i hi => (by subst hi; exact (by decide : 1 < 2)), wf_step hw hst, fun i hi => hn i hi, rel_cell.2 rfl, fun i ob hi => ?_⟩
  match i, hi with
  | 0, hi => injection hi with hi; cases hi
  | 1, hi => injection hi with hi; cases hi
end Rd
