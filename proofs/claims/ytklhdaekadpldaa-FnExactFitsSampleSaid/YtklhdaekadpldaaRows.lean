/-
  No cell of these rows narrows 'for every input' (looked for: loops, veiled, ifaces, maps, wideKeys, modest, calm, conditions, laid).
  DERIVED. THE GIVEN ROWS OF THIS SEAT. 12 by the template 'for every input the law returns true; each argument reads behind the call as it read before'; 0 by the template 'total and deterministic' (their statements: YtklhdaekadpldaaTotals.lean).
  GIVEN WITH THE SEED: the statements are not yours to turn. If you find one false, say at which input.
  Laid BY PROGRAM, IN A SANDBOX (cutbox-rows.mjs): the forced cells as the released guide's own fill.sh prints them over the translation 8893f32ae8d1424c… (all of the seat's roots in one cut). By AI agents, Wed Nov 11 2026. No macro, syntax, notation, axiom, sorry.
-/
import Derived.Test.YtklhdaekadpldaaChecked
import GoSem.Claim
import GoSem.ClaimJoined
import GoSem.ClaimMapViews
import Derived.JoinedTies
import Derived.KernelRfl
namespace Go.Proofs.Ytklhdaekadpldaa
/- THE CELL 'sum', in the pinned program and in every row, IS THE sha256 OF THE DUMP (.gsa) THAT YtklhdaekadpldaaProg.lean LOADS. Nothing in Lean hashes anything: it is a label: what it is worth is what the hold of that sum in a sandbox is worth. -/
noncomputable def Try.pinned : Pinned := { name := "ytklhdaekadpldaa", sum := "8893f32ae8d1424cf0cb9d48f060b5cd7941fca8b11957db6eb10221e4920a14", checked := Try.checked }
namespace Rows
def none {H : Type} : Left H := { results := [], args := [] }

/-- 'laws.FnExactIsThreshold': WHATEVER THE INPUT: true; the input reads as it did. -/
def fnExactIsThresholdSpec : ChangeSpec := { name := "fnExactIsThreshold", fn := fun _ => fun
  | [d1, d2] => { results := [.lit (.bool true)], args := [d1, d2] }
  | _ => none }
def fnExactIsThresholdRow : OpenClaim := { program := "ytklhdaekadpldaa", sum := "8893f32ae8d1424cf0cb9d48f060b5cd7941fca8b11957db6eb10221e4920a14", func := "loop.example/g01135/laws.FnExactIsThreshold", spec := "fnExactIsThreshold", unfollowed := true, recurses := true, plainKeys := false, apart := false }
def FnExactIsThresholdSaid : Prop := fnExactIsThresholdRow.holds Try.pinned (OpenSpec.ofChange fnExactIsThresholdSpec)

/-- ITS FALSE NEIGHBOUR: 'it returns false'. Refute it at one input. -/
def fnExactIsThresholdWrong : ChangeSpec := { name := "fnExactIsThreshold", fn := fun _ => fun
  | [d1, d2] => { results := [.lit (.bool false)], args := [d1, d2] }
  | _ => none }
def FnExactIsThresholdWrongFalsely : Prop := fnExactIsThresholdRow.holds Try.pinned (OpenSpec.ofChange fnExactIsThresholdWrong)

/-- 'laws.FnExactSwingCounts': WHATEVER THE INPUT: true; the input reads as it did. -/
def fnExactSwingCountsSpec : ChangeSpec := { name := "fnExactSwingCounts", fn := fun _ => fun
  | [d] => { results := [.lit (.bool true)], args := [d] }
  | _ => none }
def fnExactSwingCountsRow : OpenClaim := { program := "ytklhdaekadpldaa", sum := "8893f32ae8d1424cf0cb9d48f060b5cd7941fca8b11957db6eb10221e4920a14", func := "loop.example/g01135/laws.FnExactSwingCounts", spec := "fnExactSwingCounts", plainKeys := false, apart := false }
def FnExactSwingCountsSaid : Prop := fnExactSwingCountsRow.holds Try.pinned (OpenSpec.ofChange fnExactSwingCountsSpec)

/-- ITS FALSE NEIGHBOUR: 'it returns false'. Refute it at one input. -/
def fnExactSwingCountsWrong : ChangeSpec := { name := "fnExactSwingCounts", fn := fun _ => fun
  | [d] => { results := [.lit (.bool false)], args := [d] }
  | _ => none }
def FnExactSwingCountsWrongFalsely : Prop := fnExactSwingCountsRow.holds Try.pinned (OpenSpec.ofChange fnExactSwingCountsWrong)

/-- 'laws.FnVoters': WHATEVER THE INPUT: true; the input reads as it did. -/
def fnVotersSpec : ChangeSpec := { name := "fnVoters", fn := fun _ => fun
  | [d] => { results := [.lit (.bool true)], args := [d] }
  | _ => none }
def fnVotersRow : OpenClaim := { program := "ytklhdaekadpldaa", sum := "8893f32ae8d1424cf0cb9d48f060b5cd7941fca8b11957db6eb10221e4920a14", func := "loop.example/g01135/laws.FnVoters", spec := "fnVoters", plainKeys := false, apart := false }
def FnVotersSaid : Prop := fnVotersRow.holds Try.pinned (OpenSpec.ofChange fnVotersSpec)

/-- ITS FALSE NEIGHBOUR: 'it returns false'. Refute it at one input. -/
def fnVotersWrong : ChangeSpec := { name := "fnVoters", fn := fun _ => fun
  | [d] => { results := [.lit (.bool false)], args := [d] }
  | _ => none }
def FnVotersWrongFalsely : Prop := fnVotersRow.holds Try.pinned (OpenSpec.ofChange fnVotersWrong)

/-- 'laws.FnExactOrderCounts': WHATEVER THE INPUT: true; the input reads as it did. -/
def fnExactOrderCountsSpec : ChangeSpec := { name := "fnExactOrderCounts", fn := fun _ => fun
  | [d] => { results := [.lit (.bool true)], args := [d] }
  | _ => none }
def fnExactOrderCountsRow : OpenClaim := { program := "ytklhdaekadpldaa", sum := "8893f32ae8d1424cf0cb9d48f060b5cd7941fca8b11957db6eb10221e4920a14", func := "loop.example/g01135/laws.FnExactOrderCounts", spec := "fnExactOrderCounts", plainKeys := false, apart := false }
def FnExactOrderCountsSaid : Prop := fnExactOrderCountsRow.holds Try.pinned (OpenSpec.ofChange fnExactOrderCountsSpec)

/-- ITS FALSE NEIGHBOUR: 'it returns false'. Refute it at one input. -/
def fnExactOrderCountsWrong : ChangeSpec := { name := "fnExactOrderCounts", fn := fun _ => fun
  | [d] => { results := [.lit (.bool false)], args := [d] }
  | _ => none }
def FnExactOrderCountsWrongFalsely : Prop := fnExactOrderCountsRow.holds Try.pinned (OpenSpec.ofChange fnExactOrderCountsWrong)

/-- 'laws.FnExactQuotaSwings': WHATEVER THE INPUT: true; the input reads as it did. -/
def fnExactQuotaSwingsSpec : ChangeSpec := { name := "fnExactQuotaSwings", fn := fun _ => fun
  | [d1, d2] => { results := [.lit (.bool true)], args := [d1, d2] }
  | _ => none }
def fnExactQuotaSwingsRow : OpenClaim := { program := "ytklhdaekadpldaa", sum := "8893f32ae8d1424cf0cb9d48f060b5cd7941fca8b11957db6eb10221e4920a14", func := "loop.example/g01135/laws.FnExactQuotaSwings", spec := "fnExactQuotaSwings", plainKeys := false, apart := false }
def FnExactQuotaSwingsSaid : Prop := fnExactQuotaSwingsRow.holds Try.pinned (OpenSpec.ofChange fnExactQuotaSwingsSpec)

/-- ITS FALSE NEIGHBOUR: 'it returns false'. Refute it at one input. -/
def fnExactQuotaSwingsWrong : ChangeSpec := { name := "fnExactQuotaSwings", fn := fun _ => fun
  | [d1, d2] => { results := [.lit (.bool false)], args := [d1, d2] }
  | _ => none }
def FnExactQuotaSwingsWrongFalsely : Prop := fnExactQuotaSwingsRow.holds Try.pinned (OpenSpec.ofChange fnExactQuotaSwingsWrong)

/-- 'laws.FnExactFitsSample': WHATEVER THE INPUT: true; the input reads as it did. -/
def fnExactFitsSampleSpec : ChangeSpec := { name := "fnExactFitsSample", fn := fun _ => fun
  | [d1, d2] => { results := [.lit (.bool true)], args := [d1, d2] }
  | _ => none }
def fnExactFitsSampleRow : OpenClaim := { program := "ytklhdaekadpldaa", sum := "8893f32ae8d1424cf0cb9d48f060b5cd7941fca8b11957db6eb10221e4920a14", func := "loop.example/g01135/laws.FnExactFitsSample", spec := "fnExactFitsSample", plainKeys := false, apart := false }
def FnExactFitsSampleSaid : Prop := fnExactFitsSampleRow.holds Try.pinned (OpenSpec.ofChange fnExactFitsSampleSpec)

/-- ITS FALSE NEIGHBOUR: 'it returns false'. Refute it at one input. -/
def fnExactFitsSampleWrong : ChangeSpec := { name := "fnExactFitsSample", fn := fun _ => fun
  | [d1, d2] => { results := [.lit (.bool false)], args := [d1, d2] }
  | _ => none }
def FnExactFitsSampleWrongFalsely : Prop := fnExactFitsSampleRow.holds Try.pinned (OpenSpec.ofChange fnExactFitsSampleWrong)

/-- 'laws.FnExactDummiesOf': WHATEVER THE INPUT: true; the input reads as it did. -/
def fnExactDummiesOfSpec : ChangeSpec := { name := "fnExactDummiesOf", fn := fun _ => fun
  | [d] => { results := [.lit (.bool true)], args := [d] }
  | _ => none }
def fnExactDummiesOfRow : OpenClaim := { program := "ytklhdaekadpldaa", sum := "8893f32ae8d1424cf0cb9d48f060b5cd7941fca8b11957db6eb10221e4920a14", func := "loop.example/g01135/laws.FnExactDummiesOf", spec := "fnExactDummiesOf", plainKeys := false, apart := false }
def FnExactDummiesOfSaid : Prop := fnExactDummiesOfRow.holds Try.pinned (OpenSpec.ofChange fnExactDummiesOfSpec)

/-- ITS FALSE NEIGHBOUR: 'it returns false'. Refute it at one input. -/
def fnExactDummiesOfWrong : ChangeSpec := { name := "fnExactDummiesOf", fn := fun _ => fun
  | [d] => { results := [.lit (.bool false)], args := [d] }
  | _ => none }
def FnExactDummiesOfWrongFalsely : Prop := fnExactDummiesOfRow.holds Try.pinned (OpenSpec.ofChange fnExactDummiesOfWrong)

/-- 'laws.FnExactLeastPlane': WHATEVER THE INPUT: true; the input reads as it did. -/
def fnExactLeastPlaneSpec : ChangeSpec := { name := "fnExactLeastPlane", fn := fun _ => fun
  | [d1, d2] => { results := [.lit (.bool true)], args := [d1, d2] }
  | _ => none }
def fnExactLeastPlaneRow : OpenClaim := { program := "ytklhdaekadpldaa", sum := "8893f32ae8d1424cf0cb9d48f060b5cd7941fca8b11957db6eb10221e4920a14", func := "loop.example/g01135/laws.FnExactLeastPlane", spec := "fnExactLeastPlane", unfollowed := true, recurses := true, plainKeys := false, apart := false }
def FnExactLeastPlaneSaid : Prop := fnExactLeastPlaneRow.holds Try.pinned (OpenSpec.ofChange fnExactLeastPlaneSpec)

/-- ITS FALSE NEIGHBOUR: 'it returns false'. Refute it at one input. -/
def fnExactLeastPlaneWrong : ChangeSpec := { name := "fnExactLeastPlane", fn := fun _ => fun
  | [d1, d2] => { results := [.lit (.bool false)], args := [d1, d2] }
  | _ => none }
def FnExactLeastPlaneWrongFalsely : Prop := fnExactLeastPlaneRow.holds Try.pinned (OpenSpec.ofChange fnExactLeastPlaneWrong)

/-- 'laws.FnExactMistakesOf': WHATEVER THE INPUT: true; the input reads as it did. -/
def fnExactMistakesOfSpec : ChangeSpec := { name := "fnExactMistakesOf", fn := fun _ => fun
  | [d1, d2] => { results := [.lit (.bool true)], args := [d1, d2] }
  | _ => none }
def fnExactMistakesOfRow : OpenClaim := { program := "ytklhdaekadpldaa", sum := "8893f32ae8d1424cf0cb9d48f060b5cd7941fca8b11957db6eb10221e4920a14", func := "loop.example/g01135/laws.FnExactMistakesOf", spec := "fnExactMistakesOf", plainKeys := false, apart := false }
def FnExactMistakesOfSaid : Prop := fnExactMistakesOfRow.holds Try.pinned (OpenSpec.ofChange fnExactMistakesOfSpec)

/-- ITS FALSE NEIGHBOUR: 'it returns false'. Refute it at one input. -/
def fnExactMistakesOfWrong : ChangeSpec := { name := "fnExactMistakesOf", fn := fun _ => fun
  | [d1, d2] => { results := [.lit (.bool false)], args := [d1, d2] }
  | _ => none }
def FnExactMistakesOfWrongFalsely : Prop := fnExactMistakesOfRow.holds Try.pinned (OpenSpec.ofChange fnExactMistakesOfWrong)

/-- 'laws.FnExactMistakeNumber': WHATEVER THE INPUT: true; the input reads as it did. -/
def fnExactMistakeNumberSpec : ChangeSpec := { name := "fnExactMistakeNumber", fn := fun _ => fun
  | [d] => { results := [.lit (.bool true)], args := [d] }
  | _ => none }
def fnExactMistakeNumberRow : OpenClaim := { program := "ytklhdaekadpldaa", sum := "8893f32ae8d1424cf0cb9d48f060b5cd7941fca8b11957db6eb10221e4920a14", func := "loop.example/g01135/laws.FnExactMistakeNumber", spec := "fnExactMistakeNumber", recurses := true, plainKeys := false, apart := false }
def FnExactMistakeNumberSaid : Prop := fnExactMistakeNumberRow.holds Try.pinned (OpenSpec.ofChange fnExactMistakeNumberSpec)

/-- ITS FALSE NEIGHBOUR: 'it returns false'. Refute it at one input. -/
def fnExactMistakeNumberWrong : ChangeSpec := { name := "fnExactMistakeNumber", fn := fun _ => fun
  | [d] => { results := [.lit (.bool false)], args := [d] }
  | _ => none }
def FnExactMistakeNumberWrongFalsely : Prop := fnExactMistakeNumberRow.holds Try.pinned (OpenSpec.ofChange fnExactMistakeNumberWrong)

/-- 'laws.FnExactVersionOf': WHATEVER THE INPUT: true; the input reads as it did. -/
def fnExactVersionOfSpec : ChangeSpec := { name := "fnExactVersionOf", fn := fun _ => fun
  | [d1, d2, d3] => { results := [.lit (.bool true)], args := [d1, d2, d3] }
  | _ => none }
def fnExactVersionOfRow : OpenClaim := { program := "ytklhdaekadpldaa", sum := "8893f32ae8d1424cf0cb9d48f060b5cd7941fca8b11957db6eb10221e4920a14", func := "loop.example/g01135/laws.FnExactVersionOf", spec := "fnExactVersionOf", plainKeys := false, apart := false }
def FnExactVersionOfSaid : Prop := fnExactVersionOfRow.holds Try.pinned (OpenSpec.ofChange fnExactVersionOfSpec)

/-- ITS FALSE NEIGHBOUR: 'it returns false'. Refute it at one input. -/
def fnExactVersionOfWrong : ChangeSpec := { name := "fnExactVersionOf", fn := fun _ => fun
  | [d1, d2, d3] => { results := [.lit (.bool false)], args := [d1, d2, d3] }
  | _ => none }
def FnExactVersionOfWrongFalsely : Prop := fnExactVersionOfRow.holds Try.pinned (OpenSpec.ofChange fnExactVersionOfWrong)

/-- 'laws.FnExactQuestionNumber': WHATEVER THE INPUT: true; the input reads as it did. -/
def fnExactQuestionNumberSpec : ChangeSpec := { name := "fnExactQuestionNumber", fn := fun _ => fun
  | [d] => { results := [.lit (.bool true)], args := [d] }
  | _ => none }
def fnExactQuestionNumberRow : OpenClaim := { program := "ytklhdaekadpldaa", sum := "8893f32ae8d1424cf0cb9d48f060b5cd7941fca8b11957db6eb10221e4920a14", func := "loop.example/g01135/laws.FnExactQuestionNumber", spec := "fnExactQuestionNumber", recurses := true, plainKeys := false, apart := false }
def FnExactQuestionNumberSaid : Prop := fnExactQuestionNumberRow.holds Try.pinned (OpenSpec.ofChange fnExactQuestionNumberSpec)

/-- ITS FALSE NEIGHBOUR: 'it returns false'. Refute it at one input. -/
def fnExactQuestionNumberWrong : ChangeSpec := { name := "fnExactQuestionNumber", fn := fun _ => fun
  | [d] => { results := [.lit (.bool false)], args := [d] }
  | _ => none }
def FnExactQuestionNumberWrongFalsely : Prop := fnExactQuestionNumberRow.holds Try.pinned (OpenSpec.ofChange fnExactQuestionNumberWrong)

/- THE SECOND FORM. 'bulk': how many values and letters a reading holds, each counted each time it is reached (what is shared counts as often as it is met; a slice's spare places count too). A statement '..UptoSaid' is the law's where the arguments, and the package variables that the reading takes, are together of bulk at most 1048576: NARROWER than '..Said'. Prove '..Said' where nothing that the law and all that it calls make is longer than what came in: it says more and counts as full. Else prove '..UptoSaid'. A law counts once. -/
mutual
def uptoBulk {H : Type} : DataW H → Nat
  | .lit (.string bytes) => bytes.length + 1
  | .lit _ => 1
  | .nil => 1
  | .ptr d => uptoBulk d + 1
  | .slice elems spare => uptoBulkAll elems + uptoBulkAll spare + 1
  | .agg parts => uptoBulkAll parts + 1
  | .iface _ d => uptoBulk d + 1
  | .map entries => uptoBulkEntries entries + 1
  | .held _ => 1
def uptoBulkAll {H : Type} : List (DataW H) → Nat
  | [] => 0
  | d :: r => uptoBulk d + uptoBulkAll r
def uptoBulkEntries {H : Type} : List (Lit × DataW H) → Nat
  | [] => 0
  | x :: r => uptoBulkEntry x + uptoBulkEntries r
def uptoBulkEntry {H : Type} : Lit × DataW H → Nat
  | (.string bytes, d) => bytes.length + uptoBulk d + 1
  | (_, d) => uptoBulk d + 1
 end
def uptoSmall : (H : Type) → List (DataW H) → Bool := fun _ ds => decide (uptoBulkAll ds ≤ 1048576)
def OpenSpec.upto (s : _root_.Go.ChangeSpec) : _root_.Go.OpenSpec := { _root_.Go.OpenSpec.ofChange s with cond := some uptoSmall }

/-- 'laws.FnExactIsThreshold', WHERE WHAT IT READS IS OF BULK AT MOST 1048576: true; the input reads as it did. -/
def fnExactIsThresholdUptoRow : OpenClaim := { program := "ytklhdaekadpldaa", sum := "8893f32ae8d1424cf0cb9d48f060b5cd7941fca8b11957db6eb10221e4920a14", func := "loop.example/g01135/laws.FnExactIsThreshold", spec := "fnExactIsThreshold", unfollowed := true, recurses := true, plainKeys := false, apart := false, narrowed := true }
def FnExactIsThresholdUptoSaid : Prop := fnExactIsThresholdUptoRow.holds Try.pinned (OpenSpec.upto fnExactIsThresholdSpec)

/-- 'laws.FnExactSwingCounts', WHERE WHAT IT READS IS OF BULK AT MOST 1048576: true; the input reads as it did. -/
def fnExactSwingCountsUptoRow : OpenClaim := { program := "ytklhdaekadpldaa", sum := "8893f32ae8d1424cf0cb9d48f060b5cd7941fca8b11957db6eb10221e4920a14", func := "loop.example/g01135/laws.FnExactSwingCounts", spec := "fnExactSwingCounts", plainKeys := false, apart := false, narrowed := true }
def FnExactSwingCountsUptoSaid : Prop := fnExactSwingCountsUptoRow.holds Try.pinned (OpenSpec.upto fnExactSwingCountsSpec)

/-- 'laws.FnVoters', WHERE WHAT IT READS IS OF BULK AT MOST 1048576: true; the input reads as it did. -/
def fnVotersUptoRow : OpenClaim := { program := "ytklhdaekadpldaa", sum := "8893f32ae8d1424cf0cb9d48f060b5cd7941fca8b11957db6eb10221e4920a14", func := "loop.example/g01135/laws.FnVoters", spec := "fnVoters", plainKeys := false, apart := false, narrowed := true }
def FnVotersUptoSaid : Prop := fnVotersUptoRow.holds Try.pinned (OpenSpec.upto fnVotersSpec)

/-- 'laws.FnExactOrderCounts', WHERE WHAT IT READS IS OF BULK AT MOST 1048576: true; the input reads as it did. -/
def fnExactOrderCountsUptoRow : OpenClaim := { program := "ytklhdaekadpldaa", sum := "8893f32ae8d1424cf0cb9d48f060b5cd7941fca8b11957db6eb10221e4920a14", func := "loop.example/g01135/laws.FnExactOrderCounts", spec := "fnExactOrderCounts", plainKeys := false, apart := false, narrowed := true }
def FnExactOrderCountsUptoSaid : Prop := fnExactOrderCountsUptoRow.holds Try.pinned (OpenSpec.upto fnExactOrderCountsSpec)

/-- 'laws.FnExactQuotaSwings', WHERE WHAT IT READS IS OF BULK AT MOST 1048576: true; the input reads as it did. -/
def fnExactQuotaSwingsUptoRow : OpenClaim := { program := "ytklhdaekadpldaa", sum := "8893f32ae8d1424cf0cb9d48f060b5cd7941fca8b11957db6eb10221e4920a14", func := "loop.example/g01135/laws.FnExactQuotaSwings", spec := "fnExactQuotaSwings", plainKeys := false, apart := false, narrowed := true }
def FnExactQuotaSwingsUptoSaid : Prop := fnExactQuotaSwingsUptoRow.holds Try.pinned (OpenSpec.upto fnExactQuotaSwingsSpec)

/-- 'laws.FnExactFitsSample', WHERE WHAT IT READS IS OF BULK AT MOST 1048576: true; the input reads as it did. -/
def fnExactFitsSampleUptoRow : OpenClaim := { program := "ytklhdaekadpldaa", sum := "8893f32ae8d1424cf0cb9d48f060b5cd7941fca8b11957db6eb10221e4920a14", func := "loop.example/g01135/laws.FnExactFitsSample", spec := "fnExactFitsSample", plainKeys := false, apart := false, narrowed := true }
def FnExactFitsSampleUptoSaid : Prop := fnExactFitsSampleUptoRow.holds Try.pinned (OpenSpec.upto fnExactFitsSampleSpec)

/-- 'laws.FnExactDummiesOf', WHERE WHAT IT READS IS OF BULK AT MOST 1048576: true; the input reads as it did. -/
def fnExactDummiesOfUptoRow : OpenClaim := { program := "ytklhdaekadpldaa", sum := "8893f32ae8d1424cf0cb9d48f060b5cd7941fca8b11957db6eb10221e4920a14", func := "loop.example/g01135/laws.FnExactDummiesOf", spec := "fnExactDummiesOf", plainKeys := false, apart := false, narrowed := true }
def FnExactDummiesOfUptoSaid : Prop := fnExactDummiesOfUptoRow.holds Try.pinned (OpenSpec.upto fnExactDummiesOfSpec)

/-- 'laws.FnExactLeastPlane', WHERE WHAT IT READS IS OF BULK AT MOST 1048576: true; the input reads as it did. -/
def fnExactLeastPlaneUptoRow : OpenClaim := { program := "ytklhdaekadpldaa", sum := "8893f32ae8d1424cf0cb9d48f060b5cd7941fca8b11957db6eb10221e4920a14", func := "loop.example/g01135/laws.FnExactLeastPlane", spec := "fnExactLeastPlane", unfollowed := true, recurses := true, plainKeys := false, apart := false, narrowed := true }
def FnExactLeastPlaneUptoSaid : Prop := fnExactLeastPlaneUptoRow.holds Try.pinned (OpenSpec.upto fnExactLeastPlaneSpec)

/-- 'laws.FnExactMistakesOf', WHERE WHAT IT READS IS OF BULK AT MOST 1048576: true; the input reads as it did. -/
def fnExactMistakesOfUptoRow : OpenClaim := { program := "ytklhdaekadpldaa", sum := "8893f32ae8d1424cf0cb9d48f060b5cd7941fca8b11957db6eb10221e4920a14", func := "loop.example/g01135/laws.FnExactMistakesOf", spec := "fnExactMistakesOf", plainKeys := false, apart := false, narrowed := true }
def FnExactMistakesOfUptoSaid : Prop := fnExactMistakesOfUptoRow.holds Try.pinned (OpenSpec.upto fnExactMistakesOfSpec)

/-- 'laws.FnExactMistakeNumber', WHERE WHAT IT READS IS OF BULK AT MOST 1048576: true; the input reads as it did. -/
def fnExactMistakeNumberUptoRow : OpenClaim := { program := "ytklhdaekadpldaa", sum := "8893f32ae8d1424cf0cb9d48f060b5cd7941fca8b11957db6eb10221e4920a14", func := "loop.example/g01135/laws.FnExactMistakeNumber", spec := "fnExactMistakeNumber", recurses := true, plainKeys := false, apart := false, narrowed := true }
def FnExactMistakeNumberUptoSaid : Prop := fnExactMistakeNumberUptoRow.holds Try.pinned (OpenSpec.upto fnExactMistakeNumberSpec)

/-- 'laws.FnExactVersionOf', WHERE WHAT IT READS IS OF BULK AT MOST 1048576: true; the input reads as it did. -/
def fnExactVersionOfUptoRow : OpenClaim := { program := "ytklhdaekadpldaa", sum := "8893f32ae8d1424cf0cb9d48f060b5cd7941fca8b11957db6eb10221e4920a14", func := "loop.example/g01135/laws.FnExactVersionOf", spec := "fnExactVersionOf", plainKeys := false, apart := false, narrowed := true }
def FnExactVersionOfUptoSaid : Prop := fnExactVersionOfUptoRow.holds Try.pinned (OpenSpec.upto fnExactVersionOfSpec)

/-- 'laws.FnExactQuestionNumber', WHERE WHAT IT READS IS OF BULK AT MOST 1048576: true; the input reads as it did. -/
def fnExactQuestionNumberUptoRow : OpenClaim := { program := "ytklhdaekadpldaa", sum := "8893f32ae8d1424cf0cb9d48f060b5cd7941fca8b11957db6eb10221e4920a14", func := "loop.example/g01135/laws.FnExactQuestionNumber", spec := "fnExactQuestionNumber", recurses := true, plainKeys := false, apart := false, narrowed := true }
def FnExactQuestionNumberUptoSaid : Prop := fnExactQuestionNumberUptoRow.holds Try.pinned (OpenSpec.upto fnExactQuestionNumberSpec)

end Rows
end Go.Proofs.Ytklhdaekadpldaa
