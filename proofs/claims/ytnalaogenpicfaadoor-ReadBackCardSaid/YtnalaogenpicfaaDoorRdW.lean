/- The program's own variables: a start that fits, and what the rows' condition gives. -/
import Derived.Test.YtnalaogenpicfaaDoorRdL
import Derived.Test.YtnalaogenpicfaaDoorRows
import Derived.SizedLaws
import Derived.LaidLaws
import Derived.Stop.LaidErr
import Derived.ChangeMaps5
set_option linter.unusedSimpArgs false
set_option linter.unusedVariables false
open Rx Go
namespace Rd
open Go.RowKit
abbrev SR := Go.Proofs.YtnalaogenpicfaaDoor.Rows.readDeepRow
/-- what the rows list -/
noncomputable def laidL : List (String × DataW Unit) := Go.Proofs.YtnalaogenpicfaaDoor.Rows.readDeepRow.laid

theorem own : ownKnob prog.godebug = none := by kernel_rfl

/-- the cells of a table -/
def valsOf : DataW Unit → Array Value
  | .agg l => (l.map fun d => match d with
    | .lit (.int k n) => Value.int k n
    | _ => undef).toArray
  | _ => #[]
def setB (h : Array Obj) (g : Nat) (cs : Array Value) : Array Obj := h.modify g fun o => match o with
  | .cells _ t frozen => .cells cs t frozen
  | o => o
abbrev synS : ByteArray := { data := #[105, 110, 118, 97, 108, 105, 100, 32, 115, 121, 110, 116, 97, 120] }
abbrev rngS : ByteArray := { data := #[118, 97, 108, 117, 101, 32, 111, 117, 116, 32, 111, 102, 32, 114, 97, 110, 103, 101] }
noncomputable def low : Nat := (World.holding prog default ⟨#[], #[], []⟩).heap.size
noncomputable def laidWorld (os : Os) : World :=
  let w0 := World.holding prog os ⟨#[.cells #[.string rngS] 105, .cells #[.string synS] 105], #[], []⟩
  { w0 with heap := setB (setB (setB (setB (setB w0.heap 0 (valsOf Go.Proofs.YtnalaogenpicfaaDoor.Rows.laid_internal_strconv_uint64pow10)) 4 (valsOf Go.Proofs.YtnalaogenpicfaaDoor.Rows.laid_math_bits_deBruijn32tab)) 5 (valsOf Go.Proofs.YtnalaogenpicfaaDoor.Rows.laid_math_bits_deBruijn64tab))
    3 #[.iface 103 (.pointer (some ⟨low, 0, none⟩))]) 2 #[.iface 103 (.pointer (some ⟨low + 1, 0, none⟩))] }
theorem laidWorld_met (os : Os) (args : Array Value) : laidMet prog laidL ((laidWorld os).forCall (fun _ _ => 0) ⟨#[], args, []⟩).memory :=
  laidMet_of_run' 8 (by kernel_rfl) (by kernel_rfl)

theorem star : "*" ++ "errors.errorString" = "*errors.errorString" := by decide
theorem row103 (u : TypeId) (h : prog.typeName? 3 u = some "*errors.errorString") : u = 103 :=
  typeName_ptr_named (nm := "errors.errorString") (by rw [star]; kernel_rfl) (by kernel_rfl) (by decide) u (by rw [star]; exact h)

theorem var_ag {w w' : World} (ha : Ag C0.W w w') {n : String} {cs : Array Value} (h : w.var? prog n = some cs) : w'.var? prog n = some cs := by
  unfold World.var? at h ⊢
  cases hg : prog.globalNamed n with
  | none => rw [hg] at h; cases h
  | some g =>
    rw [hg] at h
    simp only [Option.bind_some] at h ⊢
    cases hc : w.heap[g]? with
    | none => rw [hc] at h; cases h
    | some o =>
      have hlt : g < w.heap.size := (Array.getElem?_eq_some_iff.1 hc).1
      rw [ha.block g hlt (C0_W g), hc]
      rw [hc] at h
      exact h

theorem laid_tail {P : Program} {W : World} {x : String × DataW Unit} {r : List (String × DataW Unit)} (h : laidMet P (x :: r) W) : laidMet P r W := h.tail

/-- WHAT THE ROWS' CONDITION GIVES, for good. -/
theorem glob_of_laid {w : World} (h : laidMet prog laidL w) : Pers C0.W w Glob.ok := by
  have h1 : laidMet prog (("math/bits.deBruijn32tab", Go.Proofs.YtnalaogenpicfaaDoor.Rows.laid_math_bits_deBruijn32tab) :: ("math/bits.deBruijn64tab", Go.Proofs.YtnalaogenpicfaaDoor.Rows.laid_math_bits_deBruijn64tab) ::
    ("internal/strconv.uint64pow10", Lib.tabData .u64 Lib.pow10Tab) :: ("strconv.ErrRange", .iface "*errors.errorString" (.ptr (.agg [.lit (.string [118, 97, 108, 117, 101, 32, 111, 117, 116, 32, 111, 102, 32, 114, 97, 110, 103, 101])]))) ::
    ("strconv.ErrSyntax", .iface "*errors.errorString" (.ptr (.agg [.lit (.string [105, 110, 118, 97, 108, 105, 100, 32, 115, 121, 110, 116, 97, 120])]))) :: []) w := h
  have h2 := laid_tail (laid_tail h1)
  have ht : Lib.TabIs prog w "internal/strconv.uint64pow10" .u64 Lib.pow10Tab := Lib.tabIs_of_head (g := 0) (t := 90) (e := 77) (n := 20) (by kernel_rfl) (by kernel_rfl) (by kernel_rfl) (by kernel_rfl) (by kernel_rfl) (by kernel_rfl) h2
  obtain ⟨a0, s0, hv0, -, -, -⟩ := laid_sentinel (g := 3) (ti := 64) (tp := 103) (te := 105) (ts := 9) (laid_tail h2) (by kernel_rfl) (by kernel_rfl) Go.Proofs.Tryd.underlying64 row103 (by kernel_rfl) Go.Proofs.Tryd.underlying105 rfl rfl (by kernel_rfl) (by kernel_rfl) (by kernel_rfl)
  obtain ⟨a1, s1, hv1, -, -, -⟩ := laid_sentinel (g := 2) (ti := 64) (tp := 103) (te := 105) (ts := 9) (laid_tail (laid_tail h2)) (by kernel_rfl) (by kernel_rfl) Go.Proofs.Tryd.underlying64 row103 (by kernel_rfl) Go.Proofs.Tryd.underlying105 rfl rfl (by kernel_rfl) (by kernel_rfl) (by kernel_rfl)
  intro w' ha
  exact ⟨var_ag ha ht, ⟨_, _, var_ag ha hv1⟩, ⟨_, _, var_ag ha hv0⟩⟩

theorem kids : Kids prog (· < prog.types.size) := kids_rows (by kernel_rfl) (by kernel_rfl)
theorem slices_full : ∀ t e, t < prog.types.size → prog.underlying t = some (.slice e) → 0 < prog.cellsOf e := slices_full_of prog (by kernel_rfl)
end Rd
