/- The library's functions, as contracts. -/
import Derived.Test.YtdflkgliephjfaaDoorRdN
import Derived.Shelf.Strconv.Itoa3
import Derived.Shelf.Strconv.ErrVarAll
import Derived.Shelf.Small.Strs
import Derived.Shelf.Lay
import Derived.Ground.NamesProg
import Derived.KernelRfl
set_option linter.unusedSimpArgs false
set_option linter.unusedVariables false
open Rx Go
namespace Go.Proofs
open Go.Shelf
shelf_lay LaysM.n171 Nm 171 at Tryd as Tryd.laysItoa
shelf_lay LaysC.n172 Nm 172 at Tryd as Tryd.laysAtoi
shelf_lay Lays.n137 Nm 137 at Tryd as Tryd.laysIndexByte
end Go.Proofs
namespace Rd

/-- what the library reads: its table, and its two errors -/
noncomputable instance : Glob := ⟨fun w => Lib.TabIs prog w "internal/strconv.uint64pow10" .u64 Lib.pow10Tab ∧
  (∃ tp p, w.var? prog "strconv.ErrSyntax" = some #[.iface tp p]) ∧ ∃ tp p, w.var? prog "strconv.ErrRange" = some #[.iface tp p]⟩

/-- a function that brings a value alone -/
theorem ctr_pure {P : Program} {f : FuncId} {args : List SV} {vs0 : List Value} {s : SV} (hargs : ∀ (C : Ctx) (w : World) (vs : List Value), relL C w args vs → vs = vs0)
    (h : ∀ w, Glob.ok w → Calls P f vs0.toArray w fun e w' => ∃ v, e = .returned v ∧ Ag (fun _ => False) w w' ∧ ∀ C : Ctx, rel C w' s v) : Ctr P f args [] (.ret (s, [])) := by
  intro C w vs post hw _ hn hr hp
  have := hargs C w vs hr
  subst this
  refine (h w hw.gl.here).mono ?_
  rintro e w' ⟨v, rfl, ha, hv⟩
  exact ⟨v, C, (s, []), hp, rfl, step_grown ha, wf_grown hw ha, hn, hv C, fun i ob hi => by simp at hi⟩

theorem ctr_need {P : Program} {f : FuncId} {args : List SV} {obs : List Ob} {p : Prop} {out : T Out} (h : p → Ctr P f args obs out) : Ctr P f args obs (.need p out) :=
  fun C w vs post hw ho hn hr hp => h hp.1 C w vs post hw ho hn hr hp.2
theorem ctr_ite {P : Program} {f : FuncId} {args : List SV} {obs : List Ob} {b : Bool} {t e : T Out} (h1 : b = true → Ctr P f args obs t) (h2 : b = false → Ctr P f args obs e) : Ctr P f args obs (.ite b t e) := by
  intro C w vs post hw ho hn hr hp
  cases hb : b with
  | true => exact h1 hb C w vs post hw ho hn hr (hp.1 hb)
  | false => exact h2 hb C w vs post hw ho hn hr (hp.2 hb)

theorem args1 {x : Value} : ∀ (C : Ctx) (w : World) (vs : List Value), relL C w [.dt (.cell x)] vs → vs = [x] := by
  rintro C w _ ⟨v, _, rfl, h, rfl⟩
  rw [rel_cell.1 h]
theorem args2 {x y : Value} : ∀ (C : Ctx) (w : World) (vs : List Value), relL C w [.dt (.cell x), .dt (.cell y)] vs → vs = [x, y] := by
  rintro C w _ ⟨v, _, rfl, h, v', _, rfl, h', rfl⟩
  rw [rel_cell.1 h, rel_cell.1 h']

/-! ## a byte's place in a string -/
def ixB (s : ByteArray) (c : Int) : Int := Lib.indexByte s.data.toList c.toNat.toUInt8
theorem indexByte_ctr (s : ByteArray) (c : Int) : Ctr prog f_IndexByte [vS s, vI .u8 c] [] (.ret (vI .i64 (ixB s c), [])) := by
  refine ctr_pure args2 fun w _ => (Go.Proofs.Any.strings_IndexByte Go.Proofs.Tryd.laysIndexByte s c w).mono ?_
  rintro e w' ⟨rfl, rfl⟩
  exact ⟨_, rfl, Ag.refl _ _, fun C => rel_cell.2 rfl⟩

/-! ## numbers in digits -/
def itoaB (n : Int) : ByteArray := ⟨(Lib.itoa n).toArray⟩
def inI (n : Int) : Prop := -9223372036854775808 ≤ n ∧ n ≤ 9223372036854775807
theorem itoa_ctr (n : Int) : Ctr prog f_Itoa [vI .i64 n] [] (.need (inI n) (.ret (vS (itoaB n), []))) := by
  refine ctr_need fun hn => ctr_pure args1 fun w hw => (Go.Proofs.Any.strconv_Itoa Go.Proofs.Tryd.laysItoa n hn.1 hn.2 w hw.1).mono ?_
  rintro e w' ⟨rfl, k, os, rfl⟩
  refine ⟨_, rfl, ⟨rfl, rfl, rfl, by simp [Sort.grow, World.drewN], fun i hi _ => ?_⟩, fun C => rel_cell.2 rfl⟩
  simp [Sort.grow, World.drewN, Array.getElem?_append, hi]

def atoiOk (s : ByteArray) : Bool := match Lib.atoiAll s.data.toList with
  | .ok _ => true
  | _ => false
def atoiV (s : ByteArray) : Int := match Lib.atoiAll s.data.toList with
  | .ok v => v
  | _ => 0
def atoiE (s : ByteArray) : Int := match Lib.atoiAll s.data.toList with
  | .range => Lib.atoiSat s.data.toList
  | _ => 0
def atoiO (s : ByteArray) : T Out := .need (s.size ≤ 281474976710656) (.ite (atoiOk s) (.ret (.tup [vI .i64 (atoiV s), .dt (.cell .nilIface)], [])) (.ret (.tup [vI .i64 (atoiE s), .dt .ifc], [])))

theorem ag_below {w w' : World} (h : RowKit.Below w.heap.size w w') : Ag (fun _ => False) w w' := ⟨h.os, h.tape, h.output, h.size, fun k hk _ => h.block k hk⟩
theorem ag_bytes {w : World} {t : TypeId} {x : ByteArray} : Ag (fun _ => False) w (Lib.bytesWorld w t x) := ag_below (Lib.bytesWorld_below _ _ _)

theorem atoi_ctr (s : ByteArray) : Ctr prog f_Atoi [vS s] [] (atoiO s) := by
  refine ctr_need fun hn => ctr_ite (fun hb => ?_) fun hb => ?_
  · cases h : Lib.atoiAll s.data.toList with
    | ok v =>
      refine ctr_pure args1 fun w hw => (Go.Proofs.Any.strconv_Atoi_ok Go.Proofs.Tryd.laysAtoi s (by omega) v h w).mono ?_
      rintro e w' ⟨rfl, hw'⟩
      refine ⟨_, rfl, ?_, fun C => ⟨_, rfl, _, _, rfl, rel_cell.2 (by simp [atoiV, h]), _, _, rfl, rel_cell.2 rfl, rfl⟩⟩
      rcases hw' with rfl | ⟨t, rfl⟩
      · exact Ag.refl _ _
      · exact ag_bytes
    | «syntax» => simp [atoiOk, h] at hb
    | range => simp [atoiOk, h] at hb
  · cases h : Lib.atoiAll s.data.toList with
    | ok v => simp [atoiOk, h] at hb
    | «syntax» =>
      refine ctr_pure args1 fun w hw => ?_
      obtain ⟨tp, p, hv⟩ := hw.2.1
      refine (Go.Proofs.Any.strconv_Atoi_syntax_var Go.Proofs.Tryd.laysAtoi s hn h tp p w hv).mono ?_
      rintro e w' ⟨N, rfl, _, _, hb⟩
      exact ⟨_, rfl, ag_below hb, fun C => ⟨_, rfl, _, _, rfl, rel_cell.2 (by simp [atoiE, h]), _, _, rfl, fun w'' _ => ⟨_, _, rfl⟩, rfl⟩⟩
    | range =>
      refine ctr_pure args1 fun w hw => ?_
      obtain ⟨tp, p, hv⟩ := hw.2.2
      refine (Go.Proofs.Any.strconv_Atoi_range_var Go.Proofs.Tryd.laysAtoi s hn h tp p w hv).mono ?_
      rintro e w' ⟨N, rfl, _, _, hb⟩
      exact ⟨_, rfl, ag_below hb, fun C => ⟨_, rfl, _, _, rfl, rel_cell.2 (by simp [atoiE, h]), _, _, rfl, fun w'' _ => ⟨_, _, rfl⟩, rfl⟩⟩
end Rd
