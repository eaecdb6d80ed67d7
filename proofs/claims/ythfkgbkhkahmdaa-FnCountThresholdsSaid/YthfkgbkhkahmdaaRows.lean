/-
  No cell of these rows narrows 'for every input' (looked for: loops, veiled, ifaces, maps, wideKeys, modest, calm, conditions, laid).
  DERIVED. THE GIVEN ROWS OF THIS SEAT. 10 by the template 'for every input the law returns true; each argument reads behind the call as it read before'; 0 by the template 'total and deterministic' (their statements: YthfkgbkhkahmdaaTotals.lean).
  GIVEN WITH THE SEED: the statements are not yours to turn. If you find one false, say at which input.
  Laid BY PROGRAM, IN A SANDBOX (cutbox-rows.mjs): the forced cells as the released guide's own fill.sh prints them over the translation 1197f78e4dd0ed72… (all of the seat's roots in one cut). By AI agents, Wed Nov 11 2026. No macro, syntax, notation, axiom, sorry.
-/
import Derived.Test.YthfkgbkhkahmdaaChecked
import GoSem.Claim
import GoSem.ClaimJoined
import GoSem.ClaimMapViews
import Derived.JoinedTies
import Derived.KernelRfl
namespace Go.Proofs.Ythfkgbkhkahmdaa
/- THE CELL 'sum', in the pinned program and in every row, IS THE sha256 OF THE DUMP (.gsa) THAT YthfkgbkhkahmdaaProg.lean LOADS. Nothing in Lean hashes anything: it is a label: what it is worth is what the hold of that sum in a sandbox is worth. -/
noncomputable def Try.pinned : Pinned := { name := "ythfkgbkhkahmdaa", sum := "1197f78e4dd0ed72173a1b47899a438c9e835f79aac80e8932c4776da2d7e82d", checked := Try.checked }
namespace Rows
def none {H : Type} : Left H := { results := [], args := [] }

/-- 'laws.FnThresholdTables': WHATEVER THE INPUT: true; the input reads as it did. -/
def fnThresholdTablesSpec : ChangeSpec := { name := "fnThresholdTables", fn := fun _ => fun
  | [d] => { results := [.lit (.bool true)], args := [d] }
  | _ => none }
def fnThresholdTablesRow : OpenClaim := { program := "ythfkgbkhkahmdaa", sum := "1197f78e4dd0ed72173a1b47899a438c9e835f79aac80e8932c4776da2d7e82d", func := "loop.example/g01135/laws.FnThresholdTables", spec := "fnThresholdTables", unfollowed := true, recurses := true, apart := false }
def FnThresholdTablesSaid : Prop := fnThresholdTablesRow.holds Try.pinned (OpenSpec.ofChange fnThresholdTablesSpec)

/-- ITS FALSE NEIGHBOUR: 'it returns false'. Refute it at one input. -/
def fnThresholdTablesWrong : ChangeSpec := { name := "fnThresholdTables", fn := fun _ => fun
  | [d] => { results := [.lit (.bool false)], args := [d] }
  | _ => none }
def FnThresholdTablesWrongFalsely : Prop := fnThresholdTablesRow.holds Try.pinned (OpenSpec.ofChange fnThresholdTablesWrong)

/-- 'laws.FnExactCountThresholds': WHATEVER THE INPUT: true; the input reads as it did. -/
def fnExactCountThresholdsSpec : ChangeSpec := { name := "fnExactCountThresholds", fn := fun _ => fun
  | [d] => { results := [.lit (.bool true)], args := [d] }
  | _ => none }
def fnExactCountThresholdsRow : OpenClaim := { program := "ythfkgbkhkahmdaa", sum := "1197f78e4dd0ed72173a1b47899a438c9e835f79aac80e8932c4776da2d7e82d", func := "loop.example/g01135/laws.FnExactCountThresholds", spec := "fnExactCountThresholds", unfollowed := true, recurses := true, apart := false }
def FnExactCountThresholdsSaid : Prop := fnExactCountThresholdsRow.holds Try.pinned (OpenSpec.ofChange fnExactCountThresholdsSpec)

/-- ITS FALSE NEIGHBOUR: 'it returns false'. Refute it at one input. -/
def fnExactCountThresholdsWrong : ChangeSpec := { name := "fnExactCountThresholds", fn := fun _ => fun
  | [d] => { results := [.lit (.bool false)], args := [d] }
  | _ => none }
def FnExactCountThresholdsWrongFalsely : Prop := fnExactCountThresholdsRow.holds Try.pinned (OpenSpec.ofChange fnExactCountThresholdsWrong)

/-- 'laws.FnExactBothTable': WHATEVER THE INPUT: true; the input reads as it did. -/
def fnExactBothTableSpec : ChangeSpec := { name := "fnExactBothTable", fn := fun _ => fun
  | [d1, d2] => { results := [.lit (.bool true)], args := [d1, d2] }
  | _ => none }
def fnExactBothTableRow : OpenClaim := { program := "ythfkgbkhkahmdaa", sum := "1197f78e4dd0ed72173a1b47899a438c9e835f79aac80e8932c4776da2d7e82d", func := "loop.example/g01135/laws.FnExactBothTable", spec := "fnExactBothTable", unfollowed := true, recurses := true, apart := false }
def FnExactBothTableSaid : Prop := fnExactBothTableRow.holds Try.pinned (OpenSpec.ofChange fnExactBothTableSpec)

/-- ITS FALSE NEIGHBOUR: 'it returns false'. Refute it at one input. -/
def fnExactBothTableWrong : ChangeSpec := { name := "fnExactBothTable", fn := fun _ => fun
  | [d1, d2] => { results := [.lit (.bool false)], args := [d1, d2] }
  | _ => none }
def FnExactBothTableWrongFalsely : Prop := fnExactBothTableRow.holds Try.pinned (OpenSpec.ofChange fnExactBothTableWrong)

/-- 'laws.FnCountThresholds': WHATEVER THE INPUT: true; the input reads as it did. -/
def fnCountThresholdsSpec : ChangeSpec := { name := "fnCountThresholds", fn := fun _ => fun
  | [d] => { results := [.lit (.bool true)], args := [d] }
  | _ => none }
def fnCountThresholdsRow : OpenClaim := { program := "ythfkgbkhkahmdaa", sum := "1197f78e4dd0ed72173a1b47899a438c9e835f79aac80e8932c4776da2d7e82d", func := "loop.example/g01135/laws.FnCountThresholds", spec := "fnCountThresholds", unfollowed := true, recurses := true, apart := false }
def FnCountThresholdsSaid : Prop := fnCountThresholdsRow.holds Try.pinned (OpenSpec.ofChange fnCountThresholdsSpec)

/-- ITS FALSE NEIGHBOUR: 'it returns false'. Refute it at one input. -/
def fnCountThresholdsWrong : ChangeSpec := { name := "fnCountThresholds", fn := fun _ => fun
  | [d] => { results := [.lit (.bool false)], args := [d] }
  | _ => none }
def FnCountThresholdsWrongFalsely : Prop := fnCountThresholdsRow.holds Try.pinned (OpenSpec.ofChange fnCountThresholdsWrong)

/-- 'laws.FnExactSizeOf': WHATEVER THE INPUT: true; the input reads as it did. -/
def fnExactSizeOfSpec : ChangeSpec := { name := "fnExactSizeOf", fn := fun _ => fun
  | [d1, d2] => { results := [.lit (.bool true)], args := [d1, d2] }
  | _ => none }
def fnExactSizeOfRow : OpenClaim := { program := "ythfkgbkhkahmdaa", sum := "1197f78e4dd0ed72173a1b47899a438c9e835f79aac80e8932c4776da2d7e82d", func := "loop.example/g01135/laws.FnExactSizeOf", spec := "fnExactSizeOf", unfollowed := true, recurses := true, apart := false }
def FnExactSizeOfSaid : Prop := fnExactSizeOfRow.holds Try.pinned (OpenSpec.ofChange fnExactSizeOfSpec)

/-- ITS FALSE NEIGHBOUR: 'it returns false'. Refute it at one input. -/
def fnExactSizeOfWrong : ChangeSpec := { name := "fnExactSizeOf", fn := fun _ => fun
  | [d1, d2] => { results := [.lit (.bool false)], args := [d1, d2] }
  | _ => none }
def FnExactSizeOfWrongFalsely : Prop := fnExactSizeOfRow.holds Try.pinned (OpenSpec.ofChange fnExactSizeOfWrong)

/-- 'laws.FnExactIsThreshold': WHATEVER THE INPUT: true; the input reads as it did. -/
def fnExactIsThresholdSpec : ChangeSpec := { name := "fnExactIsThreshold", fn := fun _ => fun
  | [d1, d2] => { results := [.lit (.bool true)], args := [d1, d2] }
  | _ => none }
def fnExactIsThresholdRow : OpenClaim := { program := "ythfkgbkhkahmdaa", sum := "1197f78e4dd0ed72173a1b47899a438c9e835f79aac80e8932c4776da2d7e82d", func := "loop.example/g01135/laws.FnExactIsThreshold", spec := "fnExactIsThreshold", unfollowed := true, recurses := true, apart := false }
def FnExactIsThresholdSaid : Prop := fnExactIsThresholdRow.holds Try.pinned (OpenSpec.ofChange fnExactIsThresholdSpec)

/-- ITS FALSE NEIGHBOUR: 'it returns false'. Refute it at one input. -/
def fnExactIsThresholdWrong : ChangeSpec := { name := "fnExactIsThreshold", fn := fun _ => fun
  | [d1, d2] => { results := [.lit (.bool false)], args := [d1, d2] }
  | _ => none }
def FnExactIsThresholdWrongFalsely : Prop := fnExactIsThresholdRow.holds Try.pinned (OpenSpec.ofChange fnExactIsThresholdWrong)

/-- 'laws.FnExactLeastPlane': WHATEVER THE INPUT: true; the input reads as it did. -/
def fnExactLeastPlaneSpec : ChangeSpec := { name := "fnExactLeastPlane", fn := fun _ => fun
  | [d1, d2] => { results := [.lit (.bool true)], args := [d1, d2] }
  | _ => none }
def fnExactLeastPlaneRow : OpenClaim := { program := "ythfkgbkhkahmdaa", sum := "1197f78e4dd0ed72173a1b47899a438c9e835f79aac80e8932c4776da2d7e82d", func := "loop.example/g01135/laws.FnExactLeastPlane", spec := "fnExactLeastPlane", unfollowed := true, recurses := true, apart := false }
def FnExactLeastPlaneSaid : Prop := fnExactLeastPlaneRow.holds Try.pinned (OpenSpec.ofChange fnExactLeastPlaneSpec)

/-- ITS FALSE NEIGHBOUR: 'it returns false'. Refute it at one input. -/
def fnExactLeastPlaneWrong : ChangeSpec := { name := "fnExactLeastPlane", fn := fun _ => fun
  | [d1, d2] => { results := [.lit (.bool false)], args := [d1, d2] }
  | _ => none }
def FnExactLeastPlaneWrongFalsely : Prop := fnExactLeastPlaneRow.holds Try.pinned (OpenSpec.ofChange fnExactLeastPlaneWrong)

/-- 'laws.FnExactVoteOf': WHATEVER THE INPUT: true; the input reads as it did. -/
def fnExactVoteOfSpec : ChangeSpec := { name := "fnExactVoteOf", fn := fun _ => fun
  | [d1, d2] => { results := [.lit (.bool true)], args := [d1, d2] }
  | _ => none }
def fnExactVoteOfRow : OpenClaim := { program := "ythfkgbkhkahmdaa", sum := "1197f78e4dd0ed72173a1b47899a438c9e835f79aac80e8932c4776da2d7e82d", func := "loop.example/g01135/laws.FnExactVoteOf", spec := "fnExactVoteOf", unfollowed := true, recurses := true, apart := false }
def FnExactVoteOfSaid : Prop := fnExactVoteOfRow.holds Try.pinned (OpenSpec.ofChange fnExactVoteOfSpec)

/-- ITS FALSE NEIGHBOUR: 'it returns false'. Refute it at one input. -/
def fnExactVoteOfWrong : ChangeSpec := { name := "fnExactVoteOf", fn := fun _ => fun
  | [d1, d2] => { results := [.lit (.bool false)], args := [d1, d2] }
  | _ => none }
def FnExactVoteOfWrongFalsely : Prop := fnExactVoteOfRow.holds Try.pinned (OpenSpec.ofChange fnExactVoteOfWrong)

/-- 'laws.FnExactIsWeighted': WHATEVER THE INPUT: true; the input reads as it did. -/
def fnExactIsWeightedSpec : ChangeSpec := { name := "fnExactIsWeighted", fn := fun _ => fun
  | [d1, d2] => { results := [.lit (.bool true)], args := [d1, d2] }
  | _ => none }
def fnExactIsWeightedRow : OpenClaim := { program := "ythfkgbkhkahmdaa", sum := "1197f78e4dd0ed72173a1b47899a438c9e835f79aac80e8932c4776da2d7e82d", func := "loop.example/g01135/laws.FnExactIsWeighted", spec := "fnExactIsWeighted", unfollowed := true, recurses := true, apart := false }
def FnExactIsWeightedSaid : Prop := fnExactIsWeightedRow.holds Try.pinned (OpenSpec.ofChange fnExactIsWeightedSpec)

/-- ITS FALSE NEIGHBOUR: 'it returns false'. Refute it at one input. -/
def fnExactIsWeightedWrong : ChangeSpec := { name := "fnExactIsWeighted", fn := fun _ => fun
  | [d1, d2] => { results := [.lit (.bool false)], args := [d1, d2] }
  | _ => none }
def FnExactIsWeightedWrongFalsely : Prop := fnExactIsWeightedRow.holds Try.pinned (OpenSpec.ofChange fnExactIsWeightedWrong)

/-- 'laws.FnTables': WHATEVER THE INPUT: true; the input reads as it did. -/
def fnTablesSpec : ChangeSpec := { name := "fnTables", fn := fun _ => fun
  | [d] => { results := [.lit (.bool true)], args := [d] }
  | _ => none }
def fnTablesRow : OpenClaim := { program := "ythfkgbkhkahmdaa", sum := "1197f78e4dd0ed72173a1b47899a438c9e835f79aac80e8932c4776da2d7e82d", func := "loop.example/g01135/laws.FnTables", spec := "fnTables", unfollowed := true, recurses := true, apart := false }
def FnTablesSaid : Prop := fnTablesRow.holds Try.pinned (OpenSpec.ofChange fnTablesSpec)

/-- ITS FALSE NEIGHBOUR: 'it returns false'. Refute it at one input. -/
def fnTablesWrong : ChangeSpec := { name := "fnTables", fn := fun _ => fun
  | [d] => { results := [.lit (.bool false)], args := [d] }
  | _ => none }
def FnTablesWrongFalsely : Prop := fnTablesRow.holds Try.pinned (OpenSpec.ofChange fnTablesWrong)

/- THE SECOND FORM. 'bulk': how many values and letters a reading holds, each counted each time it is reached (what is shared counts as often as it is met; a slice's spare places count too). A statement '..UptoSaid' is the law's where the arguments, and the package variables that the reading takes, are together of bulk at most 1048576: NARROWER than '..Said'. Prove '..Said' where nothing that the law and all that it calls make is longer than what came in: it says more and counts as full. Else prove '..UptoSaid'. A law counts once. -/
mutual
def uptoBulk {H : Type} : DataW H → Nat
  | .lit (.string bytes) => bytes.length + 1
  | .lit _ => 1
  | .nil => 1
  | .ptr d => uptoBulk d + 1
  | .slice elems spare => uptoBulkAll elems + uptoBulkAll spare + 1
  | .agg parts => uptoBulkAll parts + 1
  | .iface _ d => uptoBulk d + 1
  | .map entries => uptoBulkEntries entries + 1
  | .held _ => 1
def uptoBulkAll {H : Type} : List (DataW H) → Nat
  | [] => 0
  | d :: r => uptoBulk d + uptoBulkAll r
def uptoBulkEntries {H : Type} : List (Lit × DataW H) → Nat
  | [] => 0
  | x :: r => uptoBulkEntry x + uptoBulkEntries r
def uptoBulkEntry {H : Type} : Lit × DataW H → Nat
  | (.string bytes, d) => bytes.length + uptoBulk d + 1
  | (_, d) => uptoBulk d + 1
 end
def uptoSmall : (H : Type) → List (DataW H) → Bool := fun _ ds => decide (uptoBulkAll ds ≤ 1048576)
def OpenSpec.upto (s : _root_.Go.ChangeSpec) : _root_.Go.OpenSpec := { _root_.Go.OpenSpec.ofChange s with cond := some uptoSmall }

/-- 'laws.FnThresholdTables', WHERE WHAT IT READS IS OF BULK AT MOST 1048576: true; the input reads as it did. -/
def fnThresholdTablesUptoRow : OpenClaim := { program := "ythfkgbkhkahmdaa", sum := "1197f78e4dd0ed72173a1b47899a438c9e835f79aac80e8932c4776da2d7e82d", func := "loop.example/g01135/laws.FnThresholdTables", spec := "fnThresholdTables", unfollowed := true, recurses := true, apart := false, narrowed := true }
def FnThresholdTablesUptoSaid : Prop := fnThresholdTablesUptoRow.holds Try.pinned (OpenSpec.upto fnThresholdTablesSpec)

/-- 'laws.FnExactCountThresholds', WHERE WHAT IT READS IS OF BULK AT MOST 1048576: true; the input reads as it did. -/
def fnExactCountThresholdsUptoRow : OpenClaim := { program := "ythfkgbkhkahmdaa", sum := "1197f78e4dd0ed72173a1b47899a438c9e835f79aac80e8932c4776da2d7e82d", func := "loop.example/g01135/laws.FnExactCountThresholds", spec := "fnExactCountThresholds", unfollowed := true, recurses := true, apart := false, narrowed := true }
def FnExactCountThresholdsUptoSaid : Prop := fnExactCountThresholdsUptoRow.holds Try.pinned (OpenSpec.upto fnExactCountThresholdsSpec)

/-- 'laws.FnExactBothTable', WHERE WHAT IT READS IS OF BULK AT MOST 1048576: true; the input reads as it did. -/
def fnExactBothTableUptoRow : OpenClaim := { program := "ythfkgbkhkahmdaa", sum := "1197f78e4dd0ed72173a1b47899a438c9e835f79aac80e8932c4776da2d7e82d", func := "loop.example/g01135/laws.FnExactBothTable", spec := "fnExactBothTable", unfollowed := true, recurses := true, apart := false, narrowed := true }
def FnExactBothTableUptoSaid : Prop := fnExactBothTableUptoRow.holds Try.pinned (OpenSpec.upto fnExactBothTableSpec)

/-- 'laws.FnCountThresholds', WHERE WHAT IT READS IS OF BULK AT MOST 1048576: true; the input reads as it did. -/
def fnCountThresholdsUptoRow : OpenClaim := { program := "ythfkgbkhkahmdaa", sum := "1197f78e4dd0ed72173a1b47899a438c9e835f79aac80e8932c4776da2d7e82d", func := "loop.example/g01135/laws.FnCountThresholds", spec := "fnCountThresholds", unfollowed := true, recurses := true, apart := false, narrowed := true }
def FnCountThresholdsUptoSaid : Prop := fnCountThresholdsUptoRow.holds Try.pinned (OpenSpec.upto fnCountThresholdsSpec)

/-- 'laws.FnExactSizeOf', WHERE WHAT IT READS IS OF BULK AT MOST 1048576: true; the input reads as it did. -/
def fnExactSizeOfUptoRow : OpenClaim := { program := "ythfkgbkhkahmdaa", sum := "1197f78e4dd0ed72173a1b47899a438c9e835f79aac80e8932c4776da2d7e82d", func := "loop.example/g01135/laws.FnExactSizeOf", spec := "fnExactSizeOf", unfollowed := true, recurses := true, apart := false, narrowed := true }
def FnExactSizeOfUptoSaid : Prop := fnExactSizeOfUptoRow.holds Try.pinned (OpenSpec.upto fnExactSizeOfSpec)

/-- 'laws.FnExactIsThreshold', WHERE WHAT IT READS IS OF BULK AT MOST 1048576: true; the input reads as it did. -/
def fnExactIsThresholdUptoRow : OpenClaim := { program := "ythfkgbkhkahmdaa", sum := "1197f78e4dd0ed72173a1b47899a438c9e835f79aac80e8932c4776da2d7e82d", func := "loop.example/g01135/laws.FnExactIsThreshold", spec := "fnExactIsThreshold", unfollowed := true, recurses := true, apart := false, narrowed := true }
def FnExactIsThresholdUptoSaid : Prop := fnExactIsThresholdUptoRow.holds Try.pinned (OpenSpec.upto fnExactIsThresholdSpec)

/-- 'laws.FnExactLeastPlane', WHERE WHAT IT READS IS OF BULK AT MOST 1048576: true; the input reads as it did. -/
def fnExactLeastPlaneUptoRow : OpenClaim := { program := "ythfkgbkhkahmdaa", sum := "1197f78e4dd0ed72173a1b47899a438c9e835f79aac80e8932c4776da2d7e82d", func := "loop.example/g01135/laws.FnExactLeastPlane", spec := "fnExactLeastPlane", unfollowed := true, recurses := true, apart := false, narrowed := true }
def FnExactLeastPlaneUptoSaid : Prop := fnExactLeastPlaneUptoRow.holds Try.pinned (OpenSpec.upto fnExactLeastPlaneSpec)

/-- 'laws.FnExactVoteOf', WHERE WHAT IT READS IS OF BULK AT MOST 1048576: true; the input reads as it did. -/
def fnExactVoteOfUptoRow : OpenClaim := { program := "ythfkgbkhkahmdaa", sum := "1197f78e4dd0ed72173a1b47899a438c9e835f79aac80e8932c4776da2d7e82d", func := "loop.example/g01135/laws.FnExactVoteOf", spec := "fnExactVoteOf", unfollowed := true, recurses := true, apart := false, narrowed := true }
def FnExactVoteOfUptoSaid : Prop := fnExactVoteOfUptoRow.holds Try.pinned (OpenSpec.upto fnExactVoteOfSpec)

/-- 'laws.FnExactIsWeighted', WHERE WHAT IT READS IS OF BULK AT MOST 1048576: true; the input reads as it did. -/
def fnExactIsWeightedUptoRow : OpenClaim := { program := "ythfkgbkhkahmdaa", sum := "1197f78e4dd0ed72173a1b47899a438c9e835f79aac80e8932c4776da2d7e82d", func := "loop.example/g01135/laws.FnExactIsWeighted", spec := "fnExactIsWeighted", unfollowed := true, recurses := true, apart := false, narrowed := true }
def FnExactIsWeightedUptoSaid : Prop := fnExactIsWeightedUptoRow.holds Try.pinned (OpenSpec.upto fnExactIsWeightedSpec)

/-- 'laws.FnTables', WHERE WHAT IT READS IS OF BULK AT MOST 1048576: true; the input reads as it did. -/
def fnTablesUptoRow : OpenClaim := { program := "ythfkgbkhkahmdaa", sum := "1197f78e4dd0ed72173a1b47899a438c9e835f79aac80e8932c4776da2d7e82d", func := "loop.example/g01135/laws.FnTables", spec := "fnTables", unfollowed := true, recurses := true, apart := false, narrowed := true }
def FnTablesUptoSaid : Prop := fnTablesUptoRow.holds Try.pinned (OpenSpec.upto fnTablesSpec)

end Rows
end Go.Proofs.Ythfkgbkhkahmdaa
