/-
  No cell of these rows narrows 'for every input' (looked for: loops, veiled, ifaces, maps, wideKeys, modest, calm, conditions, laid).
  DERIVED. THE GIVEN ROWS OF THIS SEAT. 11 by the template 'for every input the law returns true; each argument reads behind the call as it read before'; 0 by the template 'total and deterministic' (their statements: YtabaggfhhhlhoaaTotals.lean).
  GIVEN WITH THE SEED: the statements are not yours to turn. If you find one false, say at which input.
  Laid BY PROGRAM, IN A SANDBOX (cutbox-rows.mjs): the forced cells as the released guide's own fill.sh prints them over the translation 2b855fcff25df49e… (all of the seat's roots in one cut). By AI agents, Wed Nov 11 2026. No macro, syntax, notation, axiom, sorry.
-/
import Derived.Test.YtabaggfhhhlhoaaChecked
import GoSem.Claim
import GoSem.ClaimJoined
import GoSem.ClaimMapViews
import Derived.JoinedTies
import Derived.KernelRfl
namespace Go.Proofs.Ytabaggfhhhlhoaa
/- THE CELL 'sum', in the pinned program and in every row, IS THE sha256 OF THE DUMP (.gsa) THAT YtabaggfhhhlhoaaProg.lean LOADS. Nothing in Lean hashes anything: it is a label: what it is worth is what the hold of that sum in a sandbox is worth. -/
noncomputable def Try.pinned : Pinned := { name := "ytabaggfhhhlhoaa", sum := "2b855fcff25df49eeb102f302157c2a8ad6a6aa8e829426b73f65af5c73799a2", checked := Try.checked }
namespace Rows
def none {H : Type} : Left H := { results := [], args := [] }

/-- 'laws.FnExactMistakeBound': WHATEVER THE INPUT: true; the input reads as it did. -/
def fnExactMistakeBoundSpec : ChangeSpec := { name := "fnExactMistakeBound", fn := fun _ => fun
  | [d1, d2] => { results := [.lit (.bool true)], args := [d1, d2] }
  | _ => none }
def fnExactMistakeBoundRow : OpenClaim := { program := "ytabaggfhhhlhoaa", sum := "2b855fcff25df49eeb102f302157c2a8ad6a6aa8e829426b73f65af5c73799a2", func := "loop.example/g01135/laws.FnExactMistakeBound", spec := "fnExactMistakeBound", plainKeys := false, apart := false }
def FnExactMistakeBoundSaid : Prop := fnExactMistakeBoundRow.holds Try.pinned (OpenSpec.ofChange fnExactMistakeBoundSpec)

/-- ITS FALSE NEIGHBOUR: 'it returns false'. Refute it at one input. -/
def fnExactMistakeBoundWrong : ChangeSpec := { name := "fnExactMistakeBound", fn := fun _ => fun
  | [d1, d2] => { results := [.lit (.bool false)], args := [d1, d2] }
  | _ => none }
def FnExactMistakeBoundWrongFalsely : Prop := fnExactMistakeBoundRow.holds Try.pinned (OpenSpec.ofChange fnExactMistakeBoundWrong)

/-- 'laws.FnExactFirstQuestion': WHATEVER THE INPUT: true; the input reads as it did. -/
def fnExactFirstQuestionSpec : ChangeSpec := { name := "fnExactFirstQuestion", fn := fun _ => fun
  | [d] => { results := [.lit (.bool true)], args := [d] }
  | _ => none }
def fnExactFirstQuestionRow : OpenClaim := { program := "ytabaggfhhhlhoaa", sum := "2b855fcff25df49eeb102f302157c2a8ad6a6aa8e829426b73f65af5c73799a2", func := "loop.example/g01135/laws.FnExactFirstQuestion", spec := "fnExactFirstQuestion", recurses := true, plainKeys := false, apart := false }
def FnExactFirstQuestionSaid : Prop := fnExactFirstQuestionRow.holds Try.pinned (OpenSpec.ofChange fnExactFirstQuestionSpec)

/-- ITS FALSE NEIGHBOUR: 'it returns false'. Refute it at one input. -/
def fnExactFirstQuestionWrong : ChangeSpec := { name := "fnExactFirstQuestion", fn := fun _ => fun
  | [d] => { results := [.lit (.bool false)], args := [d] }
  | _ => none }
def FnExactFirstQuestionWrongFalsely : Prop := fnExactFirstQuestionRow.holds Try.pinned (OpenSpec.ofChange fnExactFirstQuestionWrong)

/-- 'laws.FnBits': WHATEVER THE INPUT: true; the input reads as it did. -/
def fnBitsSpec : ChangeSpec := { name := "fnBits", fn := fun _ => fun
  | [d] => { results := [.lit (.bool true)], args := [d] }
  | _ => none }
def fnBitsRow : OpenClaim := { program := "ytabaggfhhhlhoaa", sum := "2b855fcff25df49eeb102f302157c2a8ad6a6aa8e829426b73f65af5c73799a2", func := "loop.example/g01135/laws.FnBits", spec := "fnBits", plainKeys := false, apart := false }
def FnBitsSaid : Prop := fnBitsRow.holds Try.pinned (OpenSpec.ofChange fnBitsSpec)

/-- ITS FALSE NEIGHBOUR: 'it returns false'. Refute it at one input. -/
def fnBitsWrong : ChangeSpec := { name := "fnBits", fn := fun _ => fun
  | [d] => { results := [.lit (.bool false)], args := [d] }
  | _ => none }
def FnBitsWrongFalsely : Prop := fnBitsRow.holds Try.pinned (OpenSpec.ofChange fnBitsWrong)

/-- 'laws.FnExactTeachingNumber': WHATEVER THE INPUT: true; the input reads as it did. -/
def fnExactTeachingNumberSpec : ChangeSpec := { name := "fnExactTeachingNumber", fn := fun _ => fun
  | [d] => { results := [.lit (.bool true)], args := [d] }
  | _ => none }
def fnExactTeachingNumberRow : OpenClaim := { program := "ytabaggfhhhlhoaa", sum := "2b855fcff25df49eeb102f302157c2a8ad6a6aa8e829426b73f65af5c73799a2", func := "loop.example/g01135/laws.FnExactTeachingNumber", spec := "fnExactTeachingNumber", unfollowed := true, recurses := true, plainKeys := false, apart := false }
def FnExactTeachingNumberSaid : Prop := fnExactTeachingNumberRow.holds Try.pinned (OpenSpec.ofChange fnExactTeachingNumberSpec)

/-- ITS FALSE NEIGHBOUR: 'it returns false'. Refute it at one input. -/
def fnExactTeachingNumberWrong : ChangeSpec := { name := "fnExactTeachingNumber", fn := fun _ => fun
  | [d] => { results := [.lit (.bool false)], args := [d] }
  | _ => none }
def FnExactTeachingNumberWrongFalsely : Prop := fnExactTeachingNumberRow.holds Try.pinned (OpenSpec.ofChange fnExactTeachingNumberWrong)

/-- 'laws.FnExactTeachingSet': WHATEVER THE INPUT: true; the input reads as it did. -/
def fnExactTeachingSetSpec : ChangeSpec := { name := "fnExactTeachingSet", fn := fun _ => fun
  | [d1, d2] => { results := [.lit (.bool true)], args := [d1, d2] }
  | _ => none }
def fnExactTeachingSetRow : OpenClaim := { program := "ytabaggfhhhlhoaa", sum := "2b855fcff25df49eeb102f302157c2a8ad6a6aa8e829426b73f65af5c73799a2", func := "loop.example/g01135/laws.FnExactTeachingSet", spec := "fnExactTeachingSet", unfollowed := true, recurses := true, plainKeys := false, apart := false }
def FnExactTeachingSetSaid : Prop := fnExactTeachingSetRow.holds Try.pinned (OpenSpec.ofChange fnExactTeachingSetSpec)

/-- ITS FALSE NEIGHBOUR: 'it returns false'. Refute it at one input. -/
def fnExactTeachingSetWrong : ChangeSpec := { name := "fnExactTeachingSet", fn := fun _ => fun
  | [d1, d2] => { results := [.lit (.bool false)], args := [d1, d2] }
  | _ => none }
def FnExactTeachingSetWrongFalsely : Prop := fnExactTeachingSetRow.holds Try.pinned (OpenSpec.ofChange fnExactTeachingSetWrong)

/-- 'laws.FnExactVoteOf': WHATEVER THE INPUT: true; the input reads as it did. -/
def fnExactVoteOfSpec : ChangeSpec := { name := "fnExactVoteOf", fn := fun _ => fun
  | [d1, d2] => { results := [.lit (.bool true)], args := [d1, d2] }
  | _ => none }
def fnExactVoteOfRow : OpenClaim := { program := "ytabaggfhhhlhoaa", sum := "2b855fcff25df49eeb102f302157c2a8ad6a6aa8e829426b73f65af5c73799a2", func := "loop.example/g01135/laws.FnExactVoteOf", spec := "fnExactVoteOf", unfollowed := true, recurses := true, plainKeys := false, apart := false }
def FnExactVoteOfSaid : Prop := fnExactVoteOfRow.holds Try.pinned (OpenSpec.ofChange fnExactVoteOfSpec)

/-- ITS FALSE NEIGHBOUR: 'it returns false'. Refute it at one input. -/
def fnExactVoteOfWrong : ChangeSpec := { name := "fnExactVoteOf", fn := fun _ => fun
  | [d1, d2] => { results := [.lit (.bool false)], args := [d1, d2] }
  | _ => none }
def FnExactVoteOfWrongFalsely : Prop := fnExactVoteOfRow.holds Try.pinned (OpenSpec.ofChange fnExactVoteOfWrong)

/-- 'laws.FnChow': WHATEVER THE INPUT: true; the input reads as it did. -/
def fnChowSpec : ChangeSpec := { name := "fnChow", fn := fun _ => fun
  | [d] => { results := [.lit (.bool true)], args := [d] }
  | _ => none }
def fnChowRow : OpenClaim := { program := "ytabaggfhhhlhoaa", sum := "2b855fcff25df49eeb102f302157c2a8ad6a6aa8e829426b73f65af5c73799a2", func := "loop.example/g01135/laws.FnChow", spec := "fnChow", unfollowed := true, recurses := true, plainKeys := false, apart := false }
def FnChowSaid : Prop := fnChowRow.holds Try.pinned (OpenSpec.ofChange fnChowSpec)

/-- ITS FALSE NEIGHBOUR: 'it returns false'. Refute it at one input. -/
def fnChowWrong : ChangeSpec := { name := "fnChow", fn := fun _ => fun
  | [d] => { results := [.lit (.bool false)], args := [d] }
  | _ => none }
def FnChowWrongFalsely : Prop := fnChowRow.holds Try.pinned (OpenSpec.ofChange fnChowWrong)

/-- 'laws.FnTeaching': WHATEVER THE INPUT: true; the input reads as it did. -/
def fnTeachingSpec : ChangeSpec := { name := "fnTeaching", fn := fun _ => fun
  | [d] => { results := [.lit (.bool true)], args := [d] }
  | _ => none }
def fnTeachingRow : OpenClaim := { program := "ytabaggfhhhlhoaa", sum := "2b855fcff25df49eeb102f302157c2a8ad6a6aa8e829426b73f65af5c73799a2", func := "loop.example/g01135/laws.FnTeaching", spec := "fnTeaching", unfollowed := true, recurses := true, plainKeys := false, apart := false }
def FnTeachingSaid : Prop := fnTeachingRow.holds Try.pinned (OpenSpec.ofChange fnTeachingSpec)

/-- ITS FALSE NEIGHBOUR: 'it returns false'. Refute it at one input. -/
def fnTeachingWrong : ChangeSpec := { name := "fnTeaching", fn := fun _ => fun
  | [d] => { results := [.lit (.bool false)], args := [d] }
  | _ => none }
def FnTeachingWrongFalsely : Prop := fnTeachingRow.holds Try.pinned (OpenSpec.ofChange fnTeachingWrong)

/-- 'laws.FnExactIsWeighted': WHATEVER THE INPUT: true; the input reads as it did. -/
def fnExactIsWeightedSpec : ChangeSpec := { name := "fnExactIsWeighted", fn := fun _ => fun
  | [d1, d2] => { results := [.lit (.bool true)], args := [d1, d2] }
  | _ => none }
def fnExactIsWeightedRow : OpenClaim := { program := "ytabaggfhhhlhoaa", sum := "2b855fcff25df49eeb102f302157c2a8ad6a6aa8e829426b73f65af5c73799a2", func := "loop.example/g01135/laws.FnExactIsWeighted", spec := "fnExactIsWeighted", unfollowed := true, recurses := true, plainKeys := false, apart := false }
def FnExactIsWeightedSaid : Prop := fnExactIsWeightedRow.holds Try.pinned (OpenSpec.ofChange fnExactIsWeightedSpec)

/-- ITS FALSE NEIGHBOUR: 'it returns false'. Refute it at one input. -/
def fnExactIsWeightedWrong : ChangeSpec := { name := "fnExactIsWeighted", fn := fun _ => fun
  | [d1, d2] => { results := [.lit (.bool false)], args := [d1, d2] }
  | _ => none }
def FnExactIsWeightedWrongFalsely : Prop := fnExactIsWeightedRow.holds Try.pinned (OpenSpec.ofChange fnExactIsWeightedWrong)

/-- 'laws.FnExactPivotalVoter': WHATEVER THE INPUT: true; the input reads as it did. -/
def fnExactPivotalVoterSpec : ChangeSpec := { name := "fnExactPivotalVoter", fn := fun _ => fun
  | [d1, d2] => { results := [.lit (.bool true)], args := [d1, d2] }
  | _ => none }
def fnExactPivotalVoterRow : OpenClaim := { program := "ytabaggfhhhlhoaa", sum := "2b855fcff25df49eeb102f302157c2a8ad6a6aa8e829426b73f65af5c73799a2", func := "loop.example/g01135/laws.FnExactPivotalVoter", spec := "fnExactPivotalVoter", recurses := true, plainKeys := false, apart := false }
def FnExactPivotalVoterSaid : Prop := fnExactPivotalVoterRow.holds Try.pinned (OpenSpec.ofChange fnExactPivotalVoterSpec)

/-- ITS FALSE NEIGHBOUR: 'it returns false'. Refute it at one input. -/
def fnExactPivotalVoterWrong : ChangeSpec := { name := "fnExactPivotalVoter", fn := fun _ => fun
  | [d1, d2] => { results := [.lit (.bool false)], args := [d1, d2] }
  | _ => none }
def FnExactPivotalVoterWrongFalsely : Prop := fnExactPivotalVoterRow.holds Try.pinned (OpenSpec.ofChange fnExactPivotalVoterWrong)

/-- 'laws.FnExactPermuteBits': WHATEVER THE INPUT: true; the input reads as it did. -/
def fnExactPermuteBitsSpec : ChangeSpec := { name := "fnExactPermuteBits", fn := fun _ => fun
  | [d1, d2, d3] => { results := [.lit (.bool true)], args := [d1, d2, d3] }
  | _ => none }
def fnExactPermuteBitsRow : OpenClaim := { program := "ytabaggfhhhlhoaa", sum := "2b855fcff25df49eeb102f302157c2a8ad6a6aa8e829426b73f65af5c73799a2", func := "loop.example/g01135/laws.FnExactPermuteBits", spec := "fnExactPermuteBits", unfollowed := true, recurses := true, plainKeys := false, apart := false }
def FnExactPermuteBitsSaid : Prop := fnExactPermuteBitsRow.holds Try.pinned (OpenSpec.ofChange fnExactPermuteBitsSpec)

/-- ITS FALSE NEIGHBOUR: 'it returns false'. Refute it at one input. -/
def fnExactPermuteBitsWrong : ChangeSpec := { name := "fnExactPermuteBits", fn := fun _ => fun
  | [d1, d2, d3] => { results := [.lit (.bool false)], args := [d1, d2, d3] }
  | _ => none }
def FnExactPermuteBitsWrongFalsely : Prop := fnExactPermuteBitsRow.holds Try.pinned (OpenSpec.ofChange fnExactPermuteBitsWrong)

/- THE SECOND FORM. 'bulk': how many values and letters a reading holds, each counted each time it is reached (what is shared counts as often as it is met; a slice's spare places count too). A statement '..UptoSaid' is the law's where the arguments, and the package variables that the reading takes, are together of bulk at most 1048576: NARROWER than '..Said'. Prove '..Said' where nothing that the law and all that it calls make is longer than what came in: it says more and counts as full. Else prove '..UptoSaid'. A law counts once. -/
mutual
def uptoBulk {H : Type} : DataW H → Nat
  | .lit (.string bytes) => bytes.length + 1
  | .lit _ => 1
  | .nil => 1
  | .ptr d => uptoBulk d + 1
  | .slice elems spare => uptoBulkAll elems + uptoBulkAll spare + 1
  | .agg parts => uptoBulkAll parts + 1
  | .iface _ d => uptoBulk d + 1
  | .map entries => uptoBulkEntries entries + 1
  | .held _ => 1
def uptoBulkAll {H : Type} : List (DataW H) → Nat
  | [] => 0
  | d :: r => uptoBulk d + uptoBulkAll r
def uptoBulkEntries {H : Type} : List (Lit × DataW H) → Nat
  | [] => 0
  | x :: r => uptoBulkEntry x + uptoBulkEntries r
def uptoBulkEntry {H : Type} : Lit × DataW H → Nat
  | (.string bytes, d) => bytes.length + uptoBulk d + 1
  | (_, d) => uptoBulk d + 1
 end
def uptoSmall : (H : Type) → List (DataW H) → Bool := fun _ ds => decide (uptoBulkAll ds ≤ 1048576)
def OpenSpec.upto (s : _root_.Go.ChangeSpec) : _root_.Go.OpenSpec := { _root_.Go.OpenSpec.ofChange s with cond := some uptoSmall }

/-- 'laws.FnExactMistakeBound', WHERE WHAT IT READS IS OF BULK AT MOST 1048576: true; the input reads as it did. -/
def fnExactMistakeBoundUptoRow : OpenClaim := { program := "ytabaggfhhhlhoaa", sum := "2b855fcff25df49eeb102f302157c2a8ad6a6aa8e829426b73f65af5c73799a2", func := "loop.example/g01135/laws.FnExactMistakeBound", spec := "fnExactMistakeBound", plainKeys := false, apart := false, narrowed := true }
def FnExactMistakeBoundUptoSaid : Prop := fnExactMistakeBoundUptoRow.holds Try.pinned (OpenSpec.upto fnExactMistakeBoundSpec)

/-- 'laws.FnExactFirstQuestion', WHERE WHAT IT READS IS OF BULK AT MOST 1048576: true; the input reads as it did. -/
def fnExactFirstQuestionUptoRow : OpenClaim := { program := "ytabaggfhhhlhoaa", sum := "2b855fcff25df49eeb102f302157c2a8ad6a6aa8e829426b73f65af5c73799a2", func := "loop.example/g01135/laws.FnExactFirstQuestion", spec := "fnExactFirstQuestion", recurses := true, plainKeys := false, apart := false, narrowed := true }
def FnExactFirstQuestionUptoSaid : Prop := fnExactFirstQuestionUptoRow.holds Try.pinned (OpenSpec.upto fnExactFirstQuestionSpec)

/-- 'laws.FnBits', WHERE WHAT IT READS IS OF BULK AT MOST 1048576: true; the input reads as it did. -/
def fnBitsUptoRow : OpenClaim := { program := "ytabaggfhhhlhoaa", sum := "2b855fcff25df49eeb102f302157c2a8ad6a6aa8e829426b73f65af5c73799a2", func := "loop.example/g01135/laws.FnBits", spec := "fnBits", plainKeys := false, apart := false, narrowed := true }
def FnBitsUptoSaid : Prop := fnBitsUptoRow.holds Try.pinned (OpenSpec.upto fnBitsSpec)

/-- 'laws.FnExactTeachingNumber', WHERE WHAT IT READS IS OF BULK AT MOST 1048576: true; the input reads as it did. -/
def fnExactTeachingNumberUptoRow : OpenClaim := { program := "ytabaggfhhhlhoaa", sum := "2b855fcff25df49eeb102f302157c2a8ad6a6aa8e829426b73f65af5c73799a2", func := "loop.example/g01135/laws.FnExactTeachingNumber", spec := "fnExactTeachingNumber", unfollowed := true, recurses := true, plainKeys := false, apart := false, narrowed := true }
def FnExactTeachingNumberUptoSaid : Prop := fnExactTeachingNumberUptoRow.holds Try.pinned (OpenSpec.upto fnExactTeachingNumberSpec)

/-- 'laws.FnExactTeachingSet', WHERE WHAT IT READS IS OF BULK AT MOST 1048576: true; the input reads as it did. -/
def fnExactTeachingSetUptoRow : OpenClaim := { program := "ytabaggfhhhlhoaa", sum := "2b855fcff25df49eeb102f302157c2a8ad6a6aa8e829426b73f65af5c73799a2", func := "loop.example/g01135/laws.FnExactTeachingSet", spec := "fnExactTeachingSet", unfollowed := true, recurses := true, plainKeys := false, apart := false, narrowed := true }
def FnExactTeachingSetUptoSaid : Prop := fnExactTeachingSetUptoRow.holds Try.pinned (OpenSpec.upto fnExactTeachingSetSpec)

/-- 'laws.FnExactVoteOf', WHERE WHAT IT READS IS OF BULK AT MOST 1048576: true; the input reads as it did. -/
def fnExactVoteOfUptoRow : OpenClaim := { program := "ytabaggfhhhlhoaa", sum := "2b855fcff25df49eeb102f302157c2a8ad6a6aa8e829426b73f65af5c73799a2", func := "loop.example/g01135/laws.FnExactVoteOf", spec := "fnExactVoteOf", unfollowed := true, recurses := true, plainKeys := false, apart := false, narrowed := true }
def FnExactVoteOfUptoSaid : Prop := fnExactVoteOfUptoRow.holds Try.pinned (OpenSpec.upto fnExactVoteOfSpec)

/-- 'laws.FnChow', WHERE WHAT IT READS IS OF BULK AT MOST 1048576: true; the input reads as it did. -/
def fnChowUptoRow : OpenClaim := { program := "ytabaggfhhhlhoaa", sum := "2b855fcff25df49eeb102f302157c2a8ad6a6aa8e829426b73f65af5c73799a2", func := "loop.example/g01135/laws.FnChow", spec := "fnChow", unfollowed := true, recurses := true, plainKeys := false, apart := false, narrowed := true }
def FnChowUptoSaid : Prop := fnChowUptoRow.holds Try.pinned (OpenSpec.upto fnChowSpec)

/-- 'laws.FnTeaching', WHERE WHAT IT READS IS OF BULK AT MOST 1048576: true; the input reads as it did. -/
def fnTeachingUptoRow : OpenClaim := { program := "ytabaggfhhhlhoaa", sum := "2b855fcff25df49eeb102f302157c2a8ad6a6aa8e829426b73f65af5c73799a2", func := "loop.example/g01135/laws.FnTeaching", spec := "fnTeaching", unfollowed := true, recurses := true, plainKeys := false, apart := false, narrowed := true }
def FnTeachingUptoSaid : Prop := fnTeachingUptoRow.holds Try.pinned (OpenSpec.upto fnTeachingSpec)

/-- 'laws.FnExactIsWeighted', WHERE WHAT IT READS IS OF BULK AT MOST 1048576: true; the input reads as it did. -/
def fnExactIsWeightedUptoRow : OpenClaim := { program := "ytabaggfhhhlhoaa", sum := "2b855fcff25df49eeb102f302157c2a8ad6a6aa8e829426b73f65af5c73799a2", func := "loop.example/g01135/laws.FnExactIsWeighted", spec := "fnExactIsWeighted", unfollowed := true, recurses := true, plainKeys := false, apart := false, narrowed := true }
def FnExactIsWeightedUptoSaid : Prop := fnExactIsWeightedUptoRow.holds Try.pinned (OpenSpec.upto fnExactIsWeightedSpec)

/-- 'laws.FnExactPivotalVoter', WHERE WHAT IT READS IS OF BULK AT MOST 1048576: true; the input reads as it did. -/
def fnExactPivotalVoterUptoRow : OpenClaim := { program := "ytabaggfhhhlhoaa", sum := "2b855fcff25df49eeb102f302157c2a8ad6a6aa8e829426b73f65af5c73799a2", func := "loop.example/g01135/laws.FnExactPivotalVoter", spec := "fnExactPivotalVoter", recurses := true, plainKeys := false, apart := false, narrowed := true }
def FnExactPivotalVoterUptoSaid : Prop := fnExactPivotalVoterUptoRow.holds Try.pinned (OpenSpec.upto fnExactPivotalVoterSpec)

/-- 'laws.FnExactPermuteBits', WHERE WHAT IT READS IS OF BULK AT MOST 1048576: true; the input reads as it did. -/
def fnExactPermuteBitsUptoRow : OpenClaim := { program := "ytabaggfhhhlhoaa", sum := "2b855fcff25df49eeb102f302157c2a8ad6a6aa8e829426b73f65af5c73799a2", func := "loop.example/g01135/laws.FnExactPermuteBits", spec := "fnExactPermuteBits", unfollowed := true, recurses := true, plainKeys := false, apart := false, narrowed := true }
def FnExactPermuteBitsUptoSaid : Prop := fnExactPermuteBitsUptoRow.holds Try.pinned (OpenSpec.upto fnExactPermuteBitsSpec)

end Rows
end Go.Proofs.Ytabaggfhhhlhoaa
