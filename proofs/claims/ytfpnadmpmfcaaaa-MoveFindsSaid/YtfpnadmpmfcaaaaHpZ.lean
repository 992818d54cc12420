/- What every law of this seat shares: the table of types. -/
import Derived.Test.YtfpnadmpmfcaaaaRxZ
import Derived.Test.YtfpnadmpmfcaaaaRows
open Rx Go
namespace Go.Proofs.Ytfpnadmpmfcaaaa

theorem own : ownKnob Try.prog.godebug = none := by kernel_rfl
theorem kids : Kids Try.prog (· < Try.prog.types.size) := kids_rows (by kernel_rfl) (by kernel_rfl)
theorem slices_full : ∀ t e, t < Try.prog.types.size → Try.prog.underlying t = some (.slice e) → 0 < Try.prog.cellsOf e := slices_full_of Try.prog (by kernel_rfl)
end Go.Proofs.Ytfpnadmpmfcaaaa
