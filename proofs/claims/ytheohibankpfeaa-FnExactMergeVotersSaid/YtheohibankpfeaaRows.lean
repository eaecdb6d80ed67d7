/-
  No cell of these rows narrows 'for every input' (looked for: loops, veiled, ifaces, maps, wideKeys, modest, calm, conditions, laid).
  DERIVED. THE GIVEN ROWS OF THIS SEAT. 12 by the template 'for every input the law returns true; each argument reads behind the call as it read before'; 0 by the template 'total and deterministic' (their statements: YtheohibankpfeaaTotals.lean).
  GIVEN WITH THE SEED: the statements are not yours to turn. If you find one false, say at which input.
  Laid BY PROGRAM, IN A SANDBOX (cutbox-rows.mjs): the forced cells as the released guide's own fill.sh prints them over the translation 57b06c30a360ac8e… (all of the seat's roots in one cut). By AI agents, Wed Nov 11 2026. No macro, syntax, notation, axiom, sorry.
-/
import Derived.Test.YtheohibankpfeaaChecked
import GoSem.Claim
import GoSem.ClaimJoined
import GoSem.ClaimMapViews
import Derived.JoinedTies
import Derived.KernelRfl
namespace Go.Proofs.Ytheohibankpfeaa
/- THE CELL 'sum', in the pinned program and in every row, IS THE sha256 OF THE DUMP (.gsa) THAT YtheohibankpfeaaProg.lean LOADS. Nothing in Lean hashes anything: it is a label: what it is worth is what the hold of that sum in a sandbox is worth. -/
noncomputable def Try.pinned : Pinned := { name := "ytheohibankpfeaa", sum := "57b06c30a360ac8ed378a4d0d0b170e565fb7276d3645d2be4f58e8094e5b6c8", checked := Try.checked }
namespace Rows
def none {H : Type} : Left H := { results := [], args := [] }

/-- 'laws.FnExactDualVote': WHATEVER THE INPUT: true; the input reads as it did. -/
def fnExactDualVoteSpec : ChangeSpec := { name := "fnExactDualVote", fn := fun _ => fun
  | [d] => { results := [.lit (.bool true)], args := [d] }
  | _ => none }
def fnExactDualVoteRow : OpenClaim := { program := "ytheohibankpfeaa", sum := "57b06c30a360ac8ed378a4d0d0b170e565fb7276d3645d2be4f58e8094e5b6c8", func := "loop.example/g01135/laws.FnExactDualVote", spec := "fnExactDualVote", apart := false }
def FnExactDualVoteSaid : Prop := fnExactDualVoteRow.holds Try.pinned (OpenSpec.ofChange fnExactDualVoteSpec)

/-- ITS FALSE NEIGHBOUR: 'it returns false'. Refute it at one input. -/
def fnExactDualVoteWrong : ChangeSpec := { name := "fnExactDualVote", fn := fun _ => fun
  | [d] => { results := [.lit (.bool false)], args := [d] }
  | _ => none }
def FnExactDualVoteWrongFalsely : Prop := fnExactDualVoteRow.holds Try.pinned (OpenSpec.ofChange fnExactDualVoteWrong)

/-- 'laws.FnExactDictatorOf': WHATEVER THE INPUT: true; the input reads as it did. -/
def fnExactDictatorOfSpec : ChangeSpec := { name := "fnExactDictatorOf", fn := fun _ => fun
  | [d] => { results := [.lit (.bool true)], args := [d] }
  | _ => none }
def fnExactDictatorOfRow : OpenClaim := { program := "ytheohibankpfeaa", sum := "57b06c30a360ac8ed378a4d0d0b170e565fb7276d3645d2be4f58e8094e5b6c8", func := "loop.example/g01135/laws.FnExactDictatorOf", spec := "fnExactDictatorOf", apart := false }
def FnExactDictatorOfSaid : Prop := fnExactDictatorOfRow.holds Try.pinned (OpenSpec.ofChange fnExactDictatorOfSpec)

/-- ITS FALSE NEIGHBOUR: 'it returns false'. Refute it at one input. -/
def fnExactDictatorOfWrong : ChangeSpec := { name := "fnExactDictatorOf", fn := fun _ => fun
  | [d] => { results := [.lit (.bool false)], args := [d] }
  | _ => none }
def FnExactDictatorOfWrongFalsely : Prop := fnExactDictatorOfRow.holds Try.pinned (OpenSpec.ofChange fnExactDictatorOfWrong)

/-- 'laws.FnExactWinsWith': WHATEVER THE INPUT: true; the input reads as it did. -/
def fnExactWinsWithSpec : ChangeSpec := { name := "fnExactWinsWith", fn := fun _ => fun
  | [d1, d2] => { results := [.lit (.bool true)], args := [d1, d2] }
  | _ => none }
def fnExactWinsWithRow : OpenClaim := { program := "ytheohibankpfeaa", sum := "57b06c30a360ac8ed378a4d0d0b170e565fb7276d3645d2be4f58e8094e5b6c8", func := "loop.example/g01135/laws.FnExactWinsWith", spec := "fnExactWinsWith", apart := false }
def FnExactWinsWithSaid : Prop := fnExactWinsWithRow.holds Try.pinned (OpenSpec.ofChange fnExactWinsWithSpec)

/-- ITS FALSE NEIGHBOUR: 'it returns false'. Refute it at one input. -/
def fnExactWinsWithWrong : ChangeSpec := { name := "fnExactWinsWith", fn := fun _ => fun
  | [d1, d2] => { results := [.lit (.bool false)], args := [d1, d2] }
  | _ => none }
def FnExactWinsWithWrongFalsely : Prop := fnExactWinsWithRow.holds Try.pinned (OpenSpec.ofChange fnExactWinsWithWrong)

/-- 'laws.FnExactVetoVoters': WHATEVER THE INPUT: true; the input reads as it did. -/
def fnExactVetoVotersSpec : ChangeSpec := { name := "fnExactVetoVoters", fn := fun _ => fun
  | [d] => { results := [.lit (.bool true)], args := [d] }
  | _ => none }
def fnExactVetoVotersRow : OpenClaim := { program := "ytheohibankpfeaa", sum := "57b06c30a360ac8ed378a4d0d0b170e565fb7276d3645d2be4f58e8094e5b6c8", func := "loop.example/g01135/laws.FnExactVetoVoters", spec := "fnExactVetoVoters", apart := false }
def FnExactVetoVotersSaid : Prop := fnExactVetoVotersRow.holds Try.pinned (OpenSpec.ofChange fnExactVetoVotersSpec)

/-- ITS FALSE NEIGHBOUR: 'it returns false'. Refute it at one input. -/
def fnExactVetoVotersWrong : ChangeSpec := { name := "fnExactVetoVoters", fn := fun _ => fun
  | [d] => { results := [.lit (.bool false)], args := [d] }
  | _ => none }
def FnExactVetoVotersWrongFalsely : Prop := fnExactVetoVotersRow.holds Try.pinned (OpenSpec.ofChange fnExactVetoVotersWrong)

/-- 'laws.FnExactIsClass': WHATEVER THE INPUT: true; the input reads as it did. -/
def fnExactIsClassSpec : ChangeSpec := { name := "fnExactIsClass", fn := fun _ => fun
  | [d] => { results := [.lit (.bool true)], args := [d] }
  | _ => none }
def fnExactIsClassRow : OpenClaim := { program := "ytheohibankpfeaa", sum := "57b06c30a360ac8ed378a4d0d0b170e565fb7276d3645d2be4f58e8094e5b6c8", func := "loop.example/g01135/laws.FnExactIsClass", spec := "fnExactIsClass", apart := false }
def FnExactIsClassSaid : Prop := fnExactIsClassRow.holds Try.pinned (OpenSpec.ofChange fnExactIsClassSpec)

/-- ITS FALSE NEIGHBOUR: 'it returns false'. Refute it at one input. -/
def fnExactIsClassWrong : ChangeSpec := { name := "fnExactIsClass", fn := fun _ => fun
  | [d] => { results := [.lit (.bool false)], args := [d] }
  | _ => none }
def FnExactIsClassWrongFalsely : Prop := fnExactIsClassRow.holds Try.pinned (OpenSpec.ofChange fnExactIsClassWrong)

/-- 'laws.FnExactCountThresholds': WHATEVER THE INPUT: true; the input reads as it did. -/
def fnExactCountThresholdsSpec : ChangeSpec := { name := "fnExactCountThresholds", fn := fun _ => fun
  | [d] => { results := [.lit (.bool true)], args := [d] }
  | _ => none }
def fnExactCountThresholdsRow : OpenClaim := { program := "ytheohibankpfeaa", sum := "57b06c30a360ac8ed378a4d0d0b170e565fb7276d3645d2be4f58e8094e5b6c8", func := "loop.example/g01135/laws.FnExactCountThresholds", spec := "fnExactCountThresholds", unfollowed := true, recurses := true, apart := false }
def FnExactCountThresholdsSaid : Prop := fnExactCountThresholdsRow.holds Try.pinned (OpenSpec.ofChange fnExactCountThresholdsSpec)

/-- ITS FALSE NEIGHBOUR: 'it returns false'. Refute it at one input. -/
def fnExactCountThresholdsWrong : ChangeSpec := { name := "fnExactCountThresholds", fn := fun _ => fun
  | [d] => { results := [.lit (.bool false)], args := [d] }
  | _ => none }
def FnExactCountThresholdsWrongFalsely : Prop := fnExactCountThresholdsRow.holds Try.pinned (OpenSpec.ofChange fnExactCountThresholdsWrong)

/-- 'laws.FnExactMergeVoters': WHATEVER THE INPUT: true; the input reads as it did. -/
def fnExactMergeVotersSpec : ChangeSpec := { name := "fnExactMergeVoters", fn := fun _ => fun
  | [d1, d2, d3] => { results := [.lit (.bool true)], args := [d1, d2, d3] }
  | _ => none }
def fnExactMergeVotersRow : OpenClaim := { program := "ytheohibankpfeaa", sum := "57b06c30a360ac8ed378a4d0d0b170e565fb7276d3645d2be4f58e8094e5b6c8", func := "loop.example/g01135/laws.FnExactMergeVoters", spec := "fnExactMergeVoters", apart := false }
def FnExactMergeVotersSaid : Prop := fnExactMergeVotersRow.holds Try.pinned (OpenSpec.ofChange fnExactMergeVotersSpec)

/-- ITS FALSE NEIGHBOUR: 'it returns false'. Refute it at one input. -/
def fnExactMergeVotersWrong : ChangeSpec := { name := "fnExactMergeVoters", fn := fun _ => fun
  | [d1, d2, d3] => { results := [.lit (.bool false)], args := [d1, d2, d3] }
  | _ => none }
def FnExactMergeVotersWrongFalsely : Prop := fnExactMergeVotersRow.holds Try.pinned (OpenSpec.ofChange fnExactMergeVotersWrong)

/-- 'laws.FnExactVoteTable': WHATEVER THE INPUT: true; the input reads as it did. -/
def fnExactVoteTableSpec : ChangeSpec := { name := "fnExactVoteTable", fn := fun _ => fun
  | [d] => { results := [.lit (.bool true)], args := [d] }
  | _ => none }
def fnExactVoteTableRow : OpenClaim := { program := "ytheohibankpfeaa", sum := "57b06c30a360ac8ed378a4d0d0b170e565fb7276d3645d2be4f58e8094e5b6c8", func := "loop.example/g01135/laws.FnExactVoteTable", spec := "fnExactVoteTable", unfollowed := true, recurses := true, apart := false }
def FnExactVoteTableSaid : Prop := fnExactVoteTableRow.holds Try.pinned (OpenSpec.ofChange fnExactVoteTableSpec)

/-- ITS FALSE NEIGHBOUR: 'it returns false'. Refute it at one input. -/
def fnExactVoteTableWrong : ChangeSpec := { name := "fnExactVoteTable", fn := fun _ => fun
  | [d] => { results := [.lit (.bool false)], args := [d] }
  | _ => none }
def FnExactVoteTableWrongFalsely : Prop := fnExactVoteTableRow.holds Try.pinned (OpenSpec.ofChange fnExactVoteTableWrong)

/-- 'laws.FnExactPlaneTable': WHATEVER THE INPUT: true; the input reads as it did. -/
def fnExactPlaneTableSpec : ChangeSpec := { name := "fnExactPlaneTable", fn := fun _ => fun
  | [d] => { results := [.lit (.bool true)], args := [d] }
  | _ => none }
def fnExactPlaneTableRow : OpenClaim := { program := "ytheohibankpfeaa", sum := "57b06c30a360ac8ed378a4d0d0b170e565fb7276d3645d2be4f58e8094e5b6c8", func := "loop.example/g01135/laws.FnExactPlaneTable", spec := "fnExactPlaneTable", apart := false }
def FnExactPlaneTableSaid : Prop := fnExactPlaneTableRow.holds Try.pinned (OpenSpec.ofChange fnExactPlaneTableSpec)

/-- ITS FALSE NEIGHBOUR: 'it returns false'. Refute it at one input. -/
def fnExactPlaneTableWrong : ChangeSpec := { name := "fnExactPlaneTable", fn := fun _ => fun
  | [d] => { results := [.lit (.bool false)], args := [d] }
  | _ => none }
def FnExactPlaneTableWrongFalsely : Prop := fnExactPlaneTableRow.holds Try.pinned (OpenSpec.ofChange fnExactPlaneTableWrong)

/-- 'laws.FnExactBothTable': WHATEVER THE INPUT: true; the input reads as it did. -/
def fnExactBothTableSpec : ChangeSpec := { name := "fnExactBothTable", fn := fun _ => fun
  | [d1, d2] => { results := [.lit (.bool true)], args := [d1, d2] }
  | _ => none }
def fnExactBothTableRow : OpenClaim := { program := "ytheohibankpfeaa", sum := "57b06c30a360ac8ed378a4d0d0b170e565fb7276d3645d2be4f58e8094e5b6c8", func := "loop.example/g01135/laws.FnExactBothTable", spec := "fnExactBothTable", unfollowed := true, recurses := true, apart := false }
def FnExactBothTableSaid : Prop := fnExactBothTableRow.holds Try.pinned (OpenSpec.ofChange fnExactBothTableSpec)

/-- ITS FALSE NEIGHBOUR: 'it returns false'. Refute it at one input. -/
def fnExactBothTableWrong : ChangeSpec := { name := "fnExactBothTable", fn := fun _ => fun
  | [d1, d2] => { results := [.lit (.bool false)], args := [d1, d2] }
  | _ => none }
def FnExactBothTableWrongFalsely : Prop := fnExactBothTableRow.holds Try.pinned (OpenSpec.ofChange fnExactBothTableWrong)

/-- 'laws.FnCountThresholds': WHATEVER THE INPUT: true; the input reads as it did. -/
def fnCountThresholdsSpec : ChangeSpec := { name := "fnCountThresholds", fn := fun _ => fun
  | [d] => { results := [.lit (.bool true)], args := [d] }
  | _ => none }
def fnCountThresholdsRow : OpenClaim := { program := "ytheohibankpfeaa", sum := "57b06c30a360ac8ed378a4d0d0b170e565fb7276d3645d2be4f58e8094e5b6c8", func := "loop.example/g01135/laws.FnCountThresholds", spec := "fnCountThresholds", unfollowed := true, recurses := true, apart := false }
def FnCountThresholdsSaid : Prop := fnCountThresholdsRow.holds Try.pinned (OpenSpec.ofChange fnCountThresholdsSpec)

/-- ITS FALSE NEIGHBOUR: 'it returns false'. Refute it at one input. -/
def fnCountThresholdsWrong : ChangeSpec := { name := "fnCountThresholds", fn := fun _ => fun
  | [d] => { results := [.lit (.bool false)], args := [d] }
  | _ => none }
def FnCountThresholdsWrongFalsely : Prop := fnCountThresholdsRow.holds Try.pinned (OpenSpec.ofChange fnCountThresholdsWrong)

/-- 'laws.FnExactSizeOf': WHATEVER THE INPUT: true; the input reads as it did. -/
def fnExactSizeOfSpec : ChangeSpec := { name := "fnExactSizeOf", fn := fun _ => fun
  | [d1, d2] => { results := [.lit (.bool true)], args := [d1, d2] }
  | _ => none }
def fnExactSizeOfRow : OpenClaim := { program := "ytheohibankpfeaa", sum := "57b06c30a360ac8ed378a4d0d0b170e565fb7276d3645d2be4f58e8094e5b6c8", func := "loop.example/g01135/laws.FnExactSizeOf", spec := "fnExactSizeOf", unfollowed := true, recurses := true, apart := false }
def FnExactSizeOfSaid : Prop := fnExactSizeOfRow.holds Try.pinned (OpenSpec.ofChange fnExactSizeOfSpec)

/-- ITS FALSE NEIGHBOUR: 'it returns false'. Refute it at one input. -/
def fnExactSizeOfWrong : ChangeSpec := { name := "fnExactSizeOf", fn := fun _ => fun
  | [d1, d2] => { results := [.lit (.bool false)], args := [d1, d2] }
  | _ => none }
def FnExactSizeOfWrongFalsely : Prop := fnExactSizeOfRow.holds Try.pinned (OpenSpec.ofChange fnExactSizeOfWrong)

/- THE SECOND FORM. 'bulk': how many values and letters a reading holds, each counted each time it is reached (what is shared counts as often as it is met; a slice's spare places count too). A statement '..UptoSaid' is the law's where the arguments, and the package variables that the reading takes, are together of bulk at most 1048576: NARROWER than '..Said'. Prove '..Said' where nothing that the law and all that it calls make is longer than what came in: it says more and counts as full. Else prove '..UptoSaid'. A law counts once. -/
mutual
def uptoBulk {H : Type} : DataW H → Nat
  | .lit (.string bytes) => bytes.length + 1
  | .lit _ => 1
  | .nil => 1
  | .ptr d => uptoBulk d + 1
  | .slice elems spare => uptoBulkAll elems + uptoBulkAll spare + 1
  | .agg parts => uptoBulkAll parts + 1
  | .iface _ d => uptoBulk d + 1
  | .map entries => uptoBulkEntries entries + 1
  | .held _ => 1
def uptoBulkAll {H : Type} : List (DataW H) → Nat
  | [] => 0
  | d :: r => uptoBulk d + uptoBulkAll r
def uptoBulkEntries {H : Type} : List (Lit × DataW H) → Nat
  | [] => 0
  | x :: r => uptoBulkEntry x + uptoBulkEntries r
def uptoBulkEntry {H : Type} : Lit × DataW H → Nat
  | (.string bytes, d) => bytes.length + uptoBulk d + 1
  | (_, d) => uptoBulk d + 1
 end
def uptoSmall : (H : Type) → List (DataW H) → Bool := fun _ ds => decide (uptoBulkAll ds ≤ 1048576)
def OpenSpec.upto (s : _root_.Go.ChangeSpec) : _root_.Go.OpenSpec := { _root_.Go.OpenSpec.ofChange s with cond := some uptoSmall }

/-- 'laws.FnExactDualVote', WHERE WHAT IT READS IS OF BULK AT MOST 1048576: true; the input reads as it did. -/
def fnExactDualVoteUptoRow : OpenClaim := { program := "ytheohibankpfeaa", sum := "57b06c30a360ac8ed378a4d0d0b170e565fb7276d3645d2be4f58e8094e5b6c8", func := "loop.example/g01135/laws.FnExactDualVote", spec := "fnExactDualVote", apart := false, narrowed := true }
def FnExactDualVoteUptoSaid : Prop := fnExactDualVoteUptoRow.holds Try.pinned (OpenSpec.upto fnExactDualVoteSpec)

/-- 'laws.FnExactDictatorOf', WHERE WHAT IT READS IS OF BULK AT MOST 1048576: true; the input reads as it did. -/
def fnExactDictatorOfUptoRow : OpenClaim := { program := "ytheohibankpfeaa", sum := "57b06c30a360ac8ed378a4d0d0b170e565fb7276d3645d2be4f58e8094e5b6c8", func := "loop.example/g01135/laws.FnExactDictatorOf", spec := "fnExactDictatorOf", apart := false, narrowed := true }
def FnExactDictatorOfUptoSaid : Prop := fnExactDictatorOfUptoRow.holds Try.pinned (OpenSpec.upto fnExactDictatorOfSpec)

/-- 'laws.FnExactWinsWith', WHERE WHAT IT READS IS OF BULK AT MOST 1048576: true; the input reads as it did. -/
def fnExactWinsWithUptoRow : OpenClaim := { program := "ytheohibankpfeaa", sum := "57b06c30a360ac8ed378a4d0d0b170e565fb7276d3645d2be4f58e8094e5b6c8", func := "loop.example/g01135/laws.FnExactWinsWith", spec := "fnExactWinsWith", apart := false, narrowed := true }
def FnExactWinsWithUptoSaid : Prop := fnExactWinsWithUptoRow.holds Try.pinned (OpenSpec.upto fnExactWinsWithSpec)

/-- 'laws.FnExactVetoVoters', WHERE WHAT IT READS IS OF BULK AT MOST 1048576: true; the input reads as it did. -/
def fnExactVetoVotersUptoRow : OpenClaim := { program := "ytheohibankpfeaa", sum := "57b06c30a360ac8ed378a4d0d0b170e565fb7276d3645d2be4f58e8094e5b6c8", func := "loop.example/g01135/laws.FnExactVetoVoters", spec := "fnExactVetoVoters", apart := false, narrowed := true }
def FnExactVetoVotersUptoSaid : Prop := fnExactVetoVotersUptoRow.holds Try.pinned (OpenSpec.upto fnExactVetoVotersSpec)

/-- 'laws.FnExactIsClass', WHERE WHAT IT READS IS OF BULK AT MOST 1048576: true; the input reads as it did. -/
def fnExactIsClassUptoRow : OpenClaim := { program := "ytheohibankpfeaa", sum := "57b06c30a360ac8ed378a4d0d0b170e565fb7276d3645d2be4f58e8094e5b6c8", func := "loop.example/g01135/laws.FnExactIsClass", spec := "fnExactIsClass", apart := false, narrowed := true }
def FnExactIsClassUptoSaid : Prop := fnExactIsClassUptoRow.holds Try.pinned (OpenSpec.upto fnExactIsClassSpec)

/-- 'laws.FnExactCountThresholds', WHERE WHAT IT READS IS OF BULK AT MOST 1048576: true; the input reads as it did. -/
def fnExactCountThresholdsUptoRow : OpenClaim := { program := "ytheohibankpfeaa", sum := "57b06c30a360ac8ed378a4d0d0b170e565fb7276d3645d2be4f58e8094e5b6c8", func := "loop.example/g01135/laws.FnExactCountThresholds", spec := "fnExactCountThresholds", unfollowed := true, recurses := true, apart := false, narrowed := true }
def FnExactCountThresholdsUptoSaid : Prop := fnExactCountThresholdsUptoRow.holds Try.pinned (OpenSpec.upto fnExactCountThresholdsSpec)

/-- 'laws.FnExactMergeVoters', WHERE WHAT IT READS IS OF BULK AT MOST 1048576: true; the input reads as it did. -/
def fnExactMergeVotersUptoRow : OpenClaim := { program := "ytheohibankpfeaa", sum := "57b06c30a360ac8ed378a4d0d0b170e565fb7276d3645d2be4f58e8094e5b6c8", func := "loop.example/g01135/laws.FnExactMergeVoters", spec := "fnExactMergeVoters", apart := false, narrowed := true }
def FnExactMergeVotersUptoSaid : Prop := fnExactMergeVotersUptoRow.holds Try.pinned (OpenSpec.upto fnExactMergeVotersSpec)

/-- 'laws.FnExactVoteTable', WHERE WHAT IT READS IS OF BULK AT MOST 1048576: true; the input reads as it did. -/
def fnExactVoteTableUptoRow : OpenClaim := { program := "ytheohibankpfeaa", sum := "57b06c30a360ac8ed378a4d0d0b170e565fb7276d3645d2be4f58e8094e5b6c8", func := "loop.example/g01135/laws.FnExactVoteTable", spec := "fnExactVoteTable", unfollowed := true, recurses := true, apart := false, narrowed := true }
def FnExactVoteTableUptoSaid : Prop := fnExactVoteTableUptoRow.holds Try.pinned (OpenSpec.upto fnExactVoteTableSpec)

/-- 'laws.FnExactPlaneTable', WHERE WHAT IT READS IS OF BULK AT MOST 1048576: true; the input reads as it did. -/
def fnExactPlaneTableUptoRow : OpenClaim := { program := "ytheohibankpfeaa", sum := "57b06c30a360ac8ed378a4d0d0b170e565fb7276d3645d2be4f58e8094e5b6c8", func := "loop.example/g01135/laws.FnExactPlaneTable", spec := "fnExactPlaneTable", apart := false, narrowed := true }
def FnExactPlaneTableUptoSaid : Prop := fnExactPlaneTableUptoRow.holds Try.pinned (OpenSpec.upto fnExactPlaneTableSpec)

/-- 'laws.FnExactBothTable', WHERE WHAT IT READS IS OF BULK AT MOST 1048576: true; the input reads as it did. -/
def fnExactBothTableUptoRow : OpenClaim := { program := "ytheohibankpfeaa", sum := "57b06c30a360ac8ed378a4d0d0b170e565fb7276d3645d2be4f58e8094e5b6c8", func := "loop.example/g01135/laws.FnExactBothTable", spec := "fnExactBothTable", unfollowed := true, recurses := true, apart := false, narrowed := true }
def FnExactBothTableUptoSaid : Prop := fnExactBothTableUptoRow.holds Try.pinned (OpenSpec.upto fnExactBothTableSpec)

/-- 'laws.FnCountThresholds', WHERE WHAT IT READS IS OF BULK AT MOST 1048576: true; the input reads as it did. -/
def fnCountThresholdsUptoRow : OpenClaim := { program := "ytheohibankpfeaa", sum := "57b06c30a360ac8ed378a4d0d0b170e565fb7276d3645d2be4f58e8094e5b6c8", func := "loop.example/g01135/laws.FnCountThresholds", spec := "fnCountThresholds", unfollowed := true, recurses := true, apart := false, narrowed := true }
def FnCountThresholdsUptoSaid : Prop := fnCountThresholdsUptoRow.holds Try.pinned (OpenSpec.upto fnCountThresholdsSpec)

/-- 'laws.FnExactSizeOf', WHERE WHAT IT READS IS OF BULK AT MOST 1048576: true; the input reads as it did. -/
def fnExactSizeOfUptoRow : OpenClaim := { program := "ytheohibankpfeaa", sum := "57b06c30a360ac8ed378a4d0d0b170e565fb7276d3645d2be4f58e8094e5b6c8", func := "loop.example/g01135/laws.FnExactSizeOf", spec := "fnExactSizeOf", unfollowed := true, recurses := true, apart := false, narrowed := true }
def FnExactSizeOfUptoSaid : Prop := fnExactSizeOfUptoRow.holds Try.pinned (OpenSpec.upto fnExactSizeOfSpec)

end Rows
end Go.Proofs.Ytheohibankpfeaa
