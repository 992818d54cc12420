/-
  No cell of these rows narrows 'for every input' (looked for: loops, veiled, ifaces, maps, wideKeys, modest, calm, conditions, laid).
  DERIVED. THE GIVEN ROWS OF THIS SEAT. 7 by the template 'for every input the law returns true; each argument reads behind the call as it read before'; 0 by the template 'total and deterministic' (their statements: YtfpnadmpmfcaaaaTotals.lean).
  GIVEN WITH THE SEED: the statements are not yours to turn. If you find one false, say at which input.
  Laid BY PROGRAM, IN A SANDBOX (cutbox-rows.mjs): the forced cells as the released guide's own fill.sh prints them over the translation 55211af8c455ded6… (all of the seat's roots in one cut). By AI agents, Wed Nov 11 2026. No macro, syntax, notation, axiom, sorry.
-/
import Derived.Test.YtfpnadmpmfcaaaaChecked
import GoSem.Claim
import GoSem.ClaimJoined
import GoSem.ClaimMapViews
import Derived.JoinedTies
import Derived.KernelRfl
namespace Go.Proofs.Ytfpnadmpmfcaaaa
/- THE CELL 'sum', in the pinned program and in every row, IS THE sha256 OF THE DUMP (.gsa) THAT YtfpnadmpmfcaaaaProg.lean LOADS. Nothing in Lean hashes anything: it is a label: what it is worth is what the hold of that sum in a sandbox is worth. -/
noncomputable def Try.pinned : Pinned := { name := "ytfpnadmpmfcaaaa", sum := "55211af8c455ded6f90a9e4132bfe7afa53d7c580452c4486e846881adfb7f47", checked := Try.checked }
namespace Rows
def none {H : Type} : Left H := { results := [], args := [] }

/-- 'grafterykeep.HeapFull': WHATEVER THE INPUT: true; the input reads as it did. -/
def heapFullSpec : ChangeSpec := { name := "heapFull", fn := fun _ => fun
  | [d] => { results := [.lit (.bool true)], args := [d] }
  | _ => none }
def heapFullRow : OpenClaim := { program := "ytfpnadmpmfcaaaa", sum := "55211af8c455ded6f90a9e4132bfe7afa53d7c580452c4486e846881adfb7f47", func := "graftery/grafterykeep.HeapFull", spec := "heapFull", unfollowed := true, recurses := true, apart := false }
def HeapFullSaid : Prop := heapFullRow.holds Try.pinned (OpenSpec.ofChange heapFullSpec)

/-- ITS FALSE NEIGHBOUR: 'it returns false'. Refute it at one input. -/
def heapFullWrong : ChangeSpec := { name := "heapFull", fn := fun _ => fun
  | [d] => { results := [.lit (.bool false)], args := [d] }
  | _ => none }
def HeapFullWrongFalsely : Prop := heapFullRow.holds Try.pinned (OpenSpec.ofChange heapFullWrong)

/-- 'grafterykeep.HeapGood': WHATEVER THE INPUT: true; the input reads as it did. -/
def heapGoodSpec : ChangeSpec := { name := "heapGood", fn := fun _ => fun
  | [d1, d2] => { results := [.lit (.bool true)], args := [d1, d2] }
  | _ => none }
def heapGoodRow : OpenClaim := { program := "ytfpnadmpmfcaaaa", sum := "55211af8c455ded6f90a9e4132bfe7afa53d7c580452c4486e846881adfb7f47", func := "graftery/grafterykeep.HeapGood", spec := "heapGood", unfollowed := true, recurses := true, apart := false }
def HeapGoodSaid : Prop := heapGoodRow.holds Try.pinned (OpenSpec.ofChange heapGoodSpec)

/-- ITS FALSE NEIGHBOUR: 'it returns false'. Refute it at one input. -/
def heapGoodWrong : ChangeSpec := { name := "heapGood", fn := fun _ => fun
  | [d1, d2] => { results := [.lit (.bool false)], args := [d1, d2] }
  | _ => none }
def HeapGoodWrongFalsely : Prop := heapGoodRow.holds Try.pinned (OpenSpec.ofChange heapGoodWrong)

/-- 'grafterykeep.CollectShares': WHATEVER THE INPUT: true; the input reads as it did. -/
def collectSharesSpec : ChangeSpec := { name := "collectShares", fn := fun _ => fun
  | [d1, d2, d3] => { results := [.lit (.bool true)], args := [d1, d2, d3] }
  | _ => none }
def collectSharesRow : OpenClaim := { program := "ytfpnadmpmfcaaaa", sum := "55211af8c455ded6f90a9e4132bfe7afa53d7c580452c4486e846881adfb7f47", func := "graftery/grafterykeep.CollectShares", spec := "collectShares", unfollowed := true, recurses := true, apart := false }
def CollectSharesSaid : Prop := collectSharesRow.holds Try.pinned (OpenSpec.ofChange collectSharesSpec)

/-- ITS FALSE NEIGHBOUR: 'it returns false'. Refute it at one input. -/
def collectSharesWrong : ChangeSpec := { name := "collectShares", fn := fun _ => fun
  | [d1, d2, d3] => { results := [.lit (.bool false)], args := [d1, d2, d3] }
  | _ => none }
def CollectSharesWrongFalsely : Prop := collectSharesRow.holds Try.pinned (OpenSpec.ofChange collectSharesWrong)

/-- 'grafterykeep.CollectAll': WHATEVER THE INPUT: true; the input reads as it did. -/
def collectAllSpec : ChangeSpec := { name := "collectAll", fn := fun _ => fun
  | [d] => { results := [.lit (.bool true)], args := [d] }
  | _ => none }
def collectAllRow : OpenClaim := { program := "ytfpnadmpmfcaaaa", sum := "55211af8c455ded6f90a9e4132bfe7afa53d7c580452c4486e846881adfb7f47", func := "graftery/grafterykeep.CollectAll", spec := "collectAll", unfollowed := true, recurses := true, apart := false }
def CollectAllSaid : Prop := collectAllRow.holds Try.pinned (OpenSpec.ofChange collectAllSpec)

/-- ITS FALSE NEIGHBOUR: 'it returns false'. Refute it at one input. -/
def collectAllWrong : ChangeSpec := { name := "collectAll", fn := fun _ => fun
  | [d] => { results := [.lit (.bool false)], args := [d] }
  | _ => none }
def CollectAllWrongFalsely : Prop := collectAllRow.holds Try.pinned (OpenSpec.ofChange collectAllWrong)

/-- 'grafterykeep.PartsBack': WHATEVER THE INPUT: true; the input reads as it did. -/
def partsBackSpec : ChangeSpec := { name := "partsBack", fn := fun _ => fun
  | [d1, d2, d3, d4] => { results := [.lit (.bool true)], args := [d1, d2, d3, d4] }
  | _ => none }
def partsBackRow : OpenClaim := { program := "ytfpnadmpmfcaaaa", sum := "55211af8c455ded6f90a9e4132bfe7afa53d7c580452c4486e846881adfb7f47", func := "graftery/grafterykeep.PartsBack", spec := "partsBack", unfollowed := true, recurses := true, apart := false }
def PartsBackSaid : Prop := partsBackRow.holds Try.pinned (OpenSpec.ofChange partsBackSpec)

/-- ITS FALSE NEIGHBOUR: 'it returns false'. Refute it at one input. -/
def partsBackWrong : ChangeSpec := { name := "partsBack", fn := fun _ => fun
  | [d1, d2, d3, d4] => { results := [.lit (.bool false)], args := [d1, d2, d3, d4] }
  | _ => none }
def PartsBackWrongFalsely : Prop := partsBackRow.holds Try.pinned (OpenSpec.ofChange partsBackWrong)

/-- 'grafterykeep.CollectKeeps': WHATEVER THE INPUT: true; the input reads as it did. -/
def collectKeepsSpec : ChangeSpec := { name := "collectKeeps", fn := fun _ => fun
  | [d1, d2] => { results := [.lit (.bool true)], args := [d1, d2] }
  | _ => none }
def collectKeepsRow : OpenClaim := { program := "ytfpnadmpmfcaaaa", sum := "55211af8c455ded6f90a9e4132bfe7afa53d7c580452c4486e846881adfb7f47", func := "graftery/grafterykeep.CollectKeeps", spec := "collectKeeps", unfollowed := true, recurses := true, apart := false }
def CollectKeepsSaid : Prop := collectKeepsRow.holds Try.pinned (OpenSpec.ofChange collectKeepsSpec)

/-- ITS FALSE NEIGHBOUR: 'it returns false'. Refute it at one input. -/
def collectKeepsWrong : ChangeSpec := { name := "collectKeeps", fn := fun _ => fun
  | [d1, d2] => { results := [.lit (.bool false)], args := [d1, d2] }
  | _ => none }
def CollectKeepsWrongFalsely : Prop := collectKeepsRow.holds Try.pinned (OpenSpec.ofChange collectKeepsWrong)

/-- 'grafterykeep.MoveFinds': WHATEVER THE INPUT: true; the input reads as it did. -/
def moveFindsSpec : ChangeSpec := { name := "moveFinds", fn := fun _ => fun
  | [d1, d2] => { results := [.lit (.bool true)], args := [d1, d2] }
  | _ => none }
def moveFindsRow : OpenClaim := { program := "ytfpnadmpmfcaaaa", sum := "55211af8c455ded6f90a9e4132bfe7afa53d7c580452c4486e846881adfb7f47", func := "graftery/grafterykeep.MoveFinds", spec := "moveFinds", unfollowed := true, recurses := true, apart := false }
def MoveFindsSaid : Prop := moveFindsRow.holds Try.pinned (OpenSpec.ofChange moveFindsSpec)

/-- ITS FALSE NEIGHBOUR: 'it returns false'. Refute it at one input. -/
def moveFindsWrong : ChangeSpec := { name := "moveFinds", fn := fun _ => fun
  | [d1, d2] => { results := [.lit (.bool false)], args := [d1, d2] }
  | _ => none }
def MoveFindsWrongFalsely : Prop := moveFindsRow.holds Try.pinned (OpenSpec.ofChange moveFindsWrong)

/- THE SECOND FORM. 'bulk': how many values and letters a reading holds, each counted each time it is reached (what is shared counts as often as it is met; a slice's spare places count too). A statement '..UptoSaid' is the law's where the arguments, and the package variables that the reading takes, are together of bulk at most 1048576: NARROWER than '..Said'. Prove '..Said' where nothing that the law and all that it calls make is longer than what came in: it says more and counts as full. Else prove '..UptoSaid'. A law counts once. -/
mutual
def uptoBulk {H : Type} : DataW H → Nat
  | .lit (.string bytes) => bytes.length + 1
  | .lit _ => 1
  | .nil => 1
  | .ptr d => uptoBulk d + 1
  | .slice elems spare => uptoBulkAll elems + uptoBulkAll spare + 1
  | .agg parts => uptoBulkAll parts + 1
  | .iface _ d => uptoBulk d + 1
  | .map entries => uptoBulkEntries entries + 1
  | .held _ => 1
def uptoBulkAll {H : Type} : List (DataW H) → Nat
  | [] => 0
  | d :: r => uptoBulk d + uptoBulkAll r
def uptoBulkEntries {H : Type} : List (Lit × DataW H) → Nat
  | [] => 0
  | x :: r => uptoBulkEntry x + uptoBulkEntries r
def uptoBulkEntry {H : Type} : Lit × DataW H → Nat
  | (.string bytes, d) => bytes.length + uptoBulk d + 1
  | (_, d) => uptoBulk d + 1
 end
def uptoSmall : (H : Type) → List (DataW H) → Bool := fun _ ds => decide (uptoBulkAll ds ≤ 1048576)
def OpenSpec.upto (s : _root_.Go.ChangeSpec) : _root_.Go.OpenSpec := { _root_.Go.OpenSpec.ofChange s with cond := some uptoSmall }

/-- 'grafterykeep.HeapFull', WHERE WHAT IT READS IS OF BULK AT MOST 1048576: true; the input reads as it did. -/
def heapFullUptoRow : OpenClaim := { program := "ytfpnadmpmfcaaaa", sum := "55211af8c455ded6f90a9e4132bfe7afa53d7c580452c4486e846881adfb7f47", func := "graftery/grafterykeep.HeapFull", spec := "heapFull", unfollowed := true, recurses := true, apart := false, narrowed := true }
def HeapFullUptoSaid : Prop := heapFullUptoRow.holds Try.pinned (OpenSpec.upto heapFullSpec)

/-- 'grafterykeep.HeapGood', WHERE WHAT IT READS IS OF BULK AT MOST 1048576: true; the input reads as it did. -/
def heapGoodUptoRow : OpenClaim := { program := "ytfpnadmpmfcaaaa", sum := "55211af8c455ded6f90a9e4132bfe7afa53d7c580452c4486e846881adfb7f47", func := "graftery/grafterykeep.HeapGood", spec := "heapGood", unfollowed := true, recurses := true, apart := false, narrowed := true }
def HeapGoodUptoSaid : Prop := heapGoodUptoRow.holds Try.pinned (OpenSpec.upto heapGoodSpec)

/-- 'grafterykeep.CollectShares', WHERE WHAT IT READS IS OF BULK AT MOST 1048576: true; the input reads as it did. -/
def collectSharesUptoRow : OpenClaim := { program := "ytfpnadmpmfcaaaa", sum := "55211af8c455ded6f90a9e4132bfe7afa53d7c580452c4486e846881adfb7f47", func := "graftery/grafterykeep.CollectShares", spec := "collectShares", unfollowed := true, recurses := true, apart := false, narrowed := true }
def CollectSharesUptoSaid : Prop := collectSharesUptoRow.holds Try.pinned (OpenSpec.upto collectSharesSpec)

/-- 'grafterykeep.CollectAll', WHERE WHAT IT READS IS OF BULK AT MOST 1048576: true; the input reads as it did. -/
def collectAllUptoRow : OpenClaim := { program := "ytfpnadmpmfcaaaa", sum := "55211af8c455ded6f90a9e4132bfe7afa53d7c580452c4486e846881adfb7f47", func := "graftery/grafterykeep.CollectAll", spec := "collectAll", unfollowed := true, recurses := true, apart := false, narrowed := true }
def CollectAllUptoSaid : Prop := collectAllUptoRow.holds Try.pinned (OpenSpec.upto collectAllSpec)

/-- 'grafterykeep.PartsBack', WHERE WHAT IT READS IS OF BULK AT MOST 1048576: true; the input reads as it did. -/
def partsBackUptoRow : OpenClaim := { program := "ytfpnadmpmfcaaaa", sum := "55211af8c455ded6f90a9e4132bfe7afa53d7c580452c4486e846881adfb7f47", func := "graftery/grafterykeep.PartsBack", spec := "partsBack", unfollowed := true, recurses := true, apart := false, narrowed := true }
def PartsBackUptoSaid : Prop := partsBackUptoRow.holds Try.pinned (OpenSpec.upto partsBackSpec)

/-- 'grafterykeep.CollectKeeps', WHERE WHAT IT READS IS OF BULK AT MOST 1048576: true; the input reads as it did. -/
def collectKeepsUptoRow : OpenClaim := { program := "ytfpnadmpmfcaaaa", sum := "55211af8c455ded6f90a9e4132bfe7afa53d7c580452c4486e846881adfb7f47", func := "graftery/grafterykeep.CollectKeeps", spec := "collectKeeps", unfollowed := true, recurses := true, apart := false, narrowed := true }
def CollectKeepsUptoSaid : Prop := collectKeepsUptoRow.holds Try.pinned (OpenSpec.upto collectKeepsSpec)

/-- 'grafterykeep.MoveFinds', WHERE WHAT IT READS IS OF BULK AT MOST 1048576: true; the input reads as it did. -/
def moveFindsUptoRow : OpenClaim := { program := "ytfpnadmpmfcaaaa", sum := "55211af8c455ded6f90a9e4132bfe7afa53d7c580452c4486e846881adfb7f47", func := "graftery/grafterykeep.MoveFinds", spec := "moveFinds", unfollowed := true, recurses := true, apart := false, narrowed := true }
def MoveFindsUptoSaid : Prop := moveFindsUptoRow.holds Try.pinned (OpenSpec.upto moveFindsSpec)

end Rows
end Go.Proofs.Ytfpnadmpmfcaaaa
