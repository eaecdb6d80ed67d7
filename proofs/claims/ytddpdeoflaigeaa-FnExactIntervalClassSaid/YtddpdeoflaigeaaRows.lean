/-
  No cell of these rows narrows 'for every input' (looked for: loops, veiled, ifaces, maps, wideKeys, modest, calm, conditions, laid).
  DERIVED. THE GIVEN ROWS OF THIS SEAT. 11 by the template 'for every input the law returns true; each argument reads behind the call as it read before'; 0 by the template 'total and deterministic' (their statements: YtddpdeoflaigeaaTotals.lean).
  GIVEN WITH THE SEED: the statements are not yours to turn. If you find one false, say at which input.
  Laid BY PROGRAM, IN A SANDBOX (cutbox-rows.mjs): the forced cells as the released guide's own fill.sh prints them over the translation 3972fa98cb52b6ab… (all of the seat's roots in one cut). By AI agents, Wed Nov 11 2026. No macro, syntax, notation, axiom, sorry.
-/
import Derived.Test.YtddpdeoflaigeaaChecked
import GoSem.Claim
import GoSem.ClaimJoined
import GoSem.ClaimMapViews
import Derived.JoinedTies
import Derived.KernelRfl
namespace Go.Proofs.Ytddpdeoflaigeaa
/- THE CELL 'sum', in the pinned program and in every row, IS THE sha256 OF THE DUMP (.gsa) THAT YtddpdeoflaigeaaProg.lean LOADS. Nothing in Lean hashes anything: it is a label: what it is worth is what the hold of that sum in a sandbox is worth. -/
noncomputable def Try.pinned : Pinned := { name := "ytddpdeoflaigeaa", sum := "3972fa98cb52b6ab771a9d5b2c9ee67244e34f6430efa853aa0235883c172bed", checked := Try.checked }
namespace Rows
def none {H : Type} : Left H := { results := [], args := [] }

/-- 'laws.FnExactIntervalClass': WHATEVER THE INPUT: true; the input reads as it did. -/
def fnExactIntervalClassSpec : ChangeSpec := { name := "fnExactIntervalClass", fn := fun _ => fun
  | [d] => { results := [.lit (.bool true)], args := [d] }
  | _ => none }
def fnExactIntervalClassRow : OpenClaim := { program := "ytddpdeoflaigeaa", sum := "3972fa98cb52b6ab771a9d5b2c9ee67244e34f6430efa853aa0235883c172bed", func := "loop.example/g01135/laws.FnExactIntervalClass", spec := "fnExactIntervalClass", unfollowed := true, recurses := true, plainKeys := false, apart := false }
def FnExactIntervalClassSaid : Prop := fnExactIntervalClassRow.holds Try.pinned (OpenSpec.ofChange fnExactIntervalClassSpec)

/-- ITS FALSE NEIGHBOUR: 'it returns false'. Refute it at one input. -/
def fnExactIntervalClassWrong : ChangeSpec := { name := "fnExactIntervalClass", fn := fun _ => fun
  | [d] => { results := [.lit (.bool false)], args := [d] }
  | _ => none }
def FnExactIntervalClassWrongFalsely : Prop := fnExactIntervalClassRow.holds Try.pinned (OpenSpec.ofChange fnExactIntervalClassWrong)

/-- 'laws.FnExactMistakesOf': WHATEVER THE INPUT: true; the input reads as it did. -/
def fnExactMistakesOfSpec : ChangeSpec := { name := "fnExactMistakesOf", fn := fun _ => fun
  | [d1, d2] => { results := [.lit (.bool true)], args := [d1, d2] }
  | _ => none }
def fnExactMistakesOfRow : OpenClaim := { program := "ytddpdeoflaigeaa", sum := "3972fa98cb52b6ab771a9d5b2c9ee67244e34f6430efa853aa0235883c172bed", func := "loop.example/g01135/laws.FnExactMistakesOf", spec := "fnExactMistakesOf", plainKeys := false, apart := false }
def FnExactMistakesOfSaid : Prop := fnExactMistakesOfRow.holds Try.pinned (OpenSpec.ofChange fnExactMistakesOfSpec)

/-- ITS FALSE NEIGHBOUR: 'it returns false'. Refute it at one input. -/
def fnExactMistakesOfWrong : ChangeSpec := { name := "fnExactMistakesOf", fn := fun _ => fun
  | [d1, d2] => { results := [.lit (.bool false)], args := [d1, d2] }
  | _ => none }
def FnExactMistakesOfWrongFalsely : Prop := fnExactMistakesOfRow.holds Try.pinned (OpenSpec.ofChange fnExactMistakesOfWrong)

/-- 'laws.FnExactMistakeNumber': WHATEVER THE INPUT: true; the input reads as it did. -/
def fnExactMistakeNumberSpec : ChangeSpec := { name := "fnExactMistakeNumber", fn := fun _ => fun
  | [d] => { results := [.lit (.bool true)], args := [d] }
  | _ => none }
def fnExactMistakeNumberRow : OpenClaim := { program := "ytddpdeoflaigeaa", sum := "3972fa98cb52b6ab771a9d5b2c9ee67244e34f6430efa853aa0235883c172bed", func := "loop.example/g01135/laws.FnExactMistakeNumber", spec := "fnExactMistakeNumber", recurses := true, plainKeys := false, apart := false }
def FnExactMistakeNumberSaid : Prop := fnExactMistakeNumberRow.holds Try.pinned (OpenSpec.ofChange fnExactMistakeNumberSpec)

/-- ITS FALSE NEIGHBOUR: 'it returns false'. Refute it at one input. -/
def fnExactMistakeNumberWrong : ChangeSpec := { name := "fnExactMistakeNumber", fn := fun _ => fun
  | [d] => { results := [.lit (.bool false)], args := [d] }
  | _ => none }
def FnExactMistakeNumberWrongFalsely : Prop := fnExactMistakeNumberRow.holds Try.pinned (OpenSpec.ofChange fnExactMistakeNumberWrong)

/-- 'laws.FnExactVersionOf': WHATEVER THE INPUT: true; the input reads as it did. -/
def fnExactVersionOfSpec : ChangeSpec := { name := "fnExactVersionOf", fn := fun _ => fun
  | [d1, d2, d3] => { results := [.lit (.bool true)], args := [d1, d2, d3] }
  | _ => none }
def fnExactVersionOfRow : OpenClaim := { program := "ytddpdeoflaigeaa", sum := "3972fa98cb52b6ab771a9d5b2c9ee67244e34f6430efa853aa0235883c172bed", func := "loop.example/g01135/laws.FnExactVersionOf", spec := "fnExactVersionOf", plainKeys := false, apart := false }
def FnExactVersionOfSaid : Prop := fnExactVersionOfRow.holds Try.pinned (OpenSpec.ofChange fnExactVersionOfSpec)

/-- ITS FALSE NEIGHBOUR: 'it returns false'. Refute it at one input. -/
def fnExactVersionOfWrong : ChangeSpec := { name := "fnExactVersionOf", fn := fun _ => fun
  | [d1, d2, d3] => { results := [.lit (.bool false)], args := [d1, d2, d3] }
  | _ => none }
def FnExactVersionOfWrongFalsely : Prop := fnExactVersionOfRow.holds Try.pinned (OpenSpec.ofChange fnExactVersionOfWrong)

/-- 'laws.FnExactQuestionNumber': WHATEVER THE INPUT: true; the input reads as it did. -/
def fnExactQuestionNumberSpec : ChangeSpec := { name := "fnExactQuestionNumber", fn := fun _ => fun
  | [d] => { results := [.lit (.bool true)], args := [d] }
  | _ => none }
def fnExactQuestionNumberRow : OpenClaim := { program := "ytddpdeoflaigeaa", sum := "3972fa98cb52b6ab771a9d5b2c9ee67244e34f6430efa853aa0235883c172bed", func := "loop.example/g01135/laws.FnExactQuestionNumber", spec := "fnExactQuestionNumber", recurses := true, plainKeys := false, apart := false }
def FnExactQuestionNumberSaid : Prop := fnExactQuestionNumberRow.holds Try.pinned (OpenSpec.ofChange fnExactQuestionNumberSpec)

/-- ITS FALSE NEIGHBOUR: 'it returns false'. Refute it at one input. -/
def fnExactQuestionNumberWrong : ChangeSpec := { name := "fnExactQuestionNumber", fn := fun _ => fun
  | [d] => { results := [.lit (.bool false)], args := [d] }
  | _ => none }
def FnExactQuestionNumberWrongFalsely : Prop := fnExactQuestionNumberRow.holds Try.pinned (OpenSpec.ofChange fnExactQuestionNumberWrong)

/-- 'laws.FnExactFirstQuestion': WHATEVER THE INPUT: true; the input reads as it did. -/
def fnExactFirstQuestionSpec : ChangeSpec := { name := "fnExactFirstQuestion", fn := fun _ => fun
  | [d] => { results := [.lit (.bool true)], args := [d] }
  | _ => none }
def fnExactFirstQuestionRow : OpenClaim := { program := "ytddpdeoflaigeaa", sum := "3972fa98cb52b6ab771a9d5b2c9ee67244e34f6430efa853aa0235883c172bed", func := "loop.example/g01135/laws.FnExactFirstQuestion", spec := "fnExactFirstQuestion", recurses := true, plainKeys := false, apart := false }
def FnExactFirstQuestionSaid : Prop := fnExactFirstQuestionRow.holds Try.pinned (OpenSpec.ofChange fnExactFirstQuestionSpec)

/-- ITS FALSE NEIGHBOUR: 'it returns false'. Refute it at one input. -/
def fnExactFirstQuestionWrong : ChangeSpec := { name := "fnExactFirstQuestion", fn := fun _ => fun
  | [d] => { results := [.lit (.bool false)], args := [d] }
  | _ => none }
def FnExactFirstQuestionWrongFalsely : Prop := fnExactFirstQuestionRow.holds Try.pinned (OpenSpec.ofChange fnExactFirstQuestionWrong)

/-- 'laws.FnExactTeachingNumber': WHATEVER THE INPUT: true; the input reads as it did. -/
def fnExactTeachingNumberSpec : ChangeSpec := { name := "fnExactTeachingNumber", fn := fun _ => fun
  | [d] => { results := [.lit (.bool true)], args := [d] }
  | _ => none }
def fnExactTeachingNumberRow : OpenClaim := { program := "ytddpdeoflaigeaa", sum := "3972fa98cb52b6ab771a9d5b2c9ee67244e34f6430efa853aa0235883c172bed", func := "loop.example/g01135/laws.FnExactTeachingNumber", spec := "fnExactTeachingNumber", unfollowed := true, recurses := true, plainKeys := false, apart := false }
def FnExactTeachingNumberSaid : Prop := fnExactTeachingNumberRow.holds Try.pinned (OpenSpec.ofChange fnExactTeachingNumberSpec)

/-- ITS FALSE NEIGHBOUR: 'it returns false'. Refute it at one input. -/
def fnExactTeachingNumberWrong : ChangeSpec := { name := "fnExactTeachingNumber", fn := fun _ => fun
  | [d] => { results := [.lit (.bool false)], args := [d] }
  | _ => none }
def FnExactTeachingNumberWrongFalsely : Prop := fnExactTeachingNumberRow.holds Try.pinned (OpenSpec.ofChange fnExactTeachingNumberWrong)

/-- 'laws.FnExactTeachingSet': WHATEVER THE INPUT: true; the input reads as it did. -/
def fnExactTeachingSetSpec : ChangeSpec := { name := "fnExactTeachingSet", fn := fun _ => fun
  | [d1, d2] => { results := [.lit (.bool true)], args := [d1, d2] }
  | _ => none }
def fnExactTeachingSetRow : OpenClaim := { program := "ytddpdeoflaigeaa", sum := "3972fa98cb52b6ab771a9d5b2c9ee67244e34f6430efa853aa0235883c172bed", func := "loop.example/g01135/laws.FnExactTeachingSet", spec := "fnExactTeachingSet", unfollowed := true, recurses := true, plainKeys := false, apart := false }
def FnExactTeachingSetSaid : Prop := fnExactTeachingSetRow.holds Try.pinned (OpenSpec.ofChange fnExactTeachingSetSpec)

/-- ITS FALSE NEIGHBOUR: 'it returns false'. Refute it at one input. -/
def fnExactTeachingSetWrong : ChangeSpec := { name := "fnExactTeachingSet", fn := fun _ => fun
  | [d1, d2] => { results := [.lit (.bool false)], args := [d1, d2] }
  | _ => none }
def FnExactTeachingSetWrongFalsely : Prop := fnExactTeachingSetRow.holds Try.pinned (OpenSpec.ofChange fnExactTeachingSetWrong)

/-- 'laws.FnTeaching': WHATEVER THE INPUT: true; the input reads as it did. -/
def fnTeachingSpec : ChangeSpec := { name := "fnTeaching", fn := fun _ => fun
  | [d] => { results := [.lit (.bool true)], args := [d] }
  | _ => none }
def fnTeachingRow : OpenClaim := { program := "ytddpdeoflaigeaa", sum := "3972fa98cb52b6ab771a9d5b2c9ee67244e34f6430efa853aa0235883c172bed", func := "loop.example/g01135/laws.FnTeaching", spec := "fnTeaching", unfollowed := true, recurses := true, plainKeys := false, apart := false }
def FnTeachingSaid : Prop := fnTeachingRow.holds Try.pinned (OpenSpec.ofChange fnTeachingSpec)

/-- ITS FALSE NEIGHBOUR: 'it returns false'. Refute it at one input. -/
def fnTeachingWrong : ChangeSpec := { name := "fnTeaching", fn := fun _ => fun
  | [d] => { results := [.lit (.bool false)], args := [d] }
  | _ => none }
def FnTeachingWrongFalsely : Prop := fnTeachingRow.holds Try.pinned (OpenSpec.ofChange fnTeachingWrong)

/-- 'laws.FnExactPlaneClass': WHATEVER THE INPUT: true; the input reads as it did. -/
def fnExactPlaneClassSpec : ChangeSpec := { name := "fnExactPlaneClass", fn := fun _ => fun
  | [d] => { results := [.lit (.bool true)], args := [d] }
  | _ => none }
def fnExactPlaneClassRow : OpenClaim := { program := "ytddpdeoflaigeaa", sum := "3972fa98cb52b6ab771a9d5b2c9ee67244e34f6430efa853aa0235883c172bed", func := "loop.example/g01135/laws.FnExactPlaneClass", spec := "fnExactPlaneClass", unfollowed := true, recurses := true, plainKeys := false, apart := false }
def FnExactPlaneClassSaid : Prop := fnExactPlaneClassRow.holds Try.pinned (OpenSpec.ofChange fnExactPlaneClassSpec)

/-- ITS FALSE NEIGHBOUR: 'it returns false'. Refute it at one input. -/
def fnExactPlaneClassWrong : ChangeSpec := { name := "fnExactPlaneClass", fn := fun _ => fun
  | [d] => { results := [.lit (.bool false)], args := [d] }
  | _ => none }
def FnExactPlaneClassWrongFalsely : Prop := fnExactPlaneClassRow.holds Try.pinned (OpenSpec.ofChange fnExactPlaneClassWrong)

/-- 'laws.FnExactShattersSet': WHATEVER THE INPUT: true; the input reads as it did. -/
def fnExactShattersSetSpec : ChangeSpec := { name := "fnExactShattersSet", fn := fun _ => fun
  | [d1, d2] => { results := [.lit (.bool true)], args := [d1, d2] }
  | _ => none }
def fnExactShattersSetRow : OpenClaim := { program := "ytddpdeoflaigeaa", sum := "3972fa98cb52b6ab771a9d5b2c9ee67244e34f6430efa853aa0235883c172bed", func := "loop.example/g01135/laws.FnExactShattersSet", spec := "fnExactShattersSet", unfollowed := true, recurses := true, plainKeys := false, apart := false }
def FnExactShattersSetSaid : Prop := fnExactShattersSetRow.holds Try.pinned (OpenSpec.ofChange fnExactShattersSetSpec)

/-- ITS FALSE NEIGHBOUR: 'it returns false'. Refute it at one input. -/
def fnExactShattersSetWrong : ChangeSpec := { name := "fnExactShattersSet", fn := fun _ => fun
  | [d1, d2] => { results := [.lit (.bool false)], args := [d1, d2] }
  | _ => none }
def FnExactShattersSetWrongFalsely : Prop := fnExactShattersSetRow.holds Try.pinned (OpenSpec.ofChange fnExactShattersSetWrong)

/- THE SECOND FORM. 'bulk': how many values and letters a reading holds, each counted each time it is reached (what is shared counts as often as it is met; a slice's spare places count too). A statement '..UptoSaid' is the law's where the arguments, and the package variables that the reading takes, are together of bulk at most 1048576: NARROWER than '..Said'. Prove '..Said' where nothing that the law and all that it calls make is longer than what came in: it says more and counts as full. Else prove '..UptoSaid'. A law counts once. -/
mutual
def uptoBulk {H : Type} : DataW H → Nat
  | .lit (.string bytes) => bytes.length + 1
  | .lit _ => 1
  | .nil => 1
  | .ptr d => uptoBulk d + 1
  | .slice elems spare => uptoBulkAll elems + uptoBulkAll spare + 1
  | .agg parts => uptoBulkAll parts + 1
  | .iface _ d => uptoBulk d + 1
  | .map entries => uptoBulkEntries entries + 1
  | .held _ => 1
def uptoBulkAll {H : Type} : List (DataW H) → Nat
  | [] => 0
  | d :: r => uptoBulk d + uptoBulkAll r
def uptoBulkEntries {H : Type} : List (Lit × DataW H) → Nat
  | [] => 0
  | x :: r => uptoBulkEntry x + uptoBulkEntries r
def uptoBulkEntry {H : Type} : Lit × DataW H → Nat
  | (.string bytes, d) => bytes.length + uptoBulk d + 1
  | (_, d) => uptoBulk d + 1
 end
def uptoSmall : (H : Type) → List (DataW H) → Bool := fun _ ds => decide (uptoBulkAll ds ≤ 1048576)
def OpenSpec.upto (s : _root_.Go.ChangeSpec) : _root_.Go.OpenSpec := { _root_.Go.OpenSpec.ofChange s with cond := some uptoSmall }

/-- 'laws.FnExactIntervalClass', WHERE WHAT IT READS IS OF BULK AT MOST 1048576: true; the input reads as it did. -/
def fnExactIntervalClassUptoRow : OpenClaim := { program := "ytddpdeoflaigeaa", sum := "3972fa98cb52b6ab771a9d5b2c9ee67244e34f6430efa853aa0235883c172bed", func := "loop.example/g01135/laws.FnExactIntervalClass", spec := "fnExactIntervalClass", unfollowed := true, recurses := true, plainKeys := false, apart := false, narrowed := true }
def FnExactIntervalClassUptoSaid : Prop := fnExactIntervalClassUptoRow.holds Try.pinned (OpenSpec.upto fnExactIntervalClassSpec)

/-- 'laws.FnExactMistakesOf', WHERE WHAT IT READS IS OF BULK AT MOST 1048576: true; the input reads as it did. -/
def fnExactMistakesOfUptoRow : OpenClaim := { program := "ytddpdeoflaigeaa", sum := "3972fa98cb52b6ab771a9d5b2c9ee67244e34f6430efa853aa0235883c172bed", func := "loop.example/g01135/laws.FnExactMistakesOf", spec := "fnExactMistakesOf", plainKeys := false, apart := false, narrowed := true }
def FnExactMistakesOfUptoSaid : Prop := fnExactMistakesOfUptoRow.holds Try.pinned (OpenSpec.upto fnExactMistakesOfSpec)

/-- 'laws.FnExactMistakeNumber', WHERE WHAT IT READS IS OF BULK AT MOST 1048576: true; the input reads as it did. -/
def fnExactMistakeNumberUptoRow : OpenClaim := { program := "ytddpdeoflaigeaa", sum := "3972fa98cb52b6ab771a9d5b2c9ee67244e34f6430efa853aa0235883c172bed", func := "loop.example/g01135/laws.FnExactMistakeNumber", spec := "fnExactMistakeNumber", recurses := true, plainKeys := false, apart := false, narrowed := true }
def FnExactMistakeNumberUptoSaid : Prop := fnExactMistakeNumberUptoRow.holds Try.pinned (OpenSpec.upto fnExactMistakeNumberSpec)

/-- 'laws.FnExactVersionOf', WHERE WHAT IT READS IS OF BULK AT MOST 1048576: true; the input reads as it did. -/
def fnExactVersionOfUptoRow : OpenClaim := { program := "ytddpdeoflaigeaa", sum := "3972fa98cb52b6ab771a9d5b2c9ee67244e34f6430efa853aa0235883c172bed", func := "loop.example/g01135/laws.FnExactVersionOf", spec := "fnExactVersionOf", plainKeys := false, apart := false, narrowed := true }
def FnExactVersionOfUptoSaid : Prop := fnExactVersionOfUptoRow.holds Try.pinned (OpenSpec.upto fnExactVersionOfSpec)

/-- 'laws.FnExactQuestionNumber', WHERE WHAT IT READS IS OF BULK AT MOST 1048576: true; the input reads as it did. -/
def fnExactQuestionNumberUptoRow : OpenClaim := { program := "ytddpdeoflaigeaa", sum := "3972fa98cb52b6ab771a9d5b2c9ee67244e34f6430efa853aa0235883c172bed", func := "loop.example/g01135/laws.FnExactQuestionNumber", spec := "fnExactQuestionNumber", recurses := true, plainKeys := false, apart := false, narrowed := true }
def FnExactQuestionNumberUptoSaid : Prop := fnExactQuestionNumberUptoRow.holds Try.pinned (OpenSpec.upto fnExactQuestionNumberSpec)

/-- 'laws.FnExactFirstQuestion', WHERE WHAT IT READS IS OF BULK AT MOST 1048576: true; the input reads as it did. -/
def fnExactFirstQuestionUptoRow : OpenClaim := { program := "ytddpdeoflaigeaa", sum := "3972fa98cb52b6ab771a9d5b2c9ee67244e34f6430efa853aa0235883c172bed", func := "loop.example/g01135/laws.FnExactFirstQuestion", spec := "fnExactFirstQuestion", recurses := true, plainKeys := false, apart := false, narrowed := true }
def FnExactFirstQuestionUptoSaid : Prop := fnExactFirstQuestionUptoRow.holds Try.pinned (OpenSpec.upto fnExactFirstQuestionSpec)

/-- 'laws.FnExactTeachingNumber', WHERE WHAT IT READS IS OF BULK AT MOST 1048576: true; the input reads as it did. -/
def fnExactTeachingNumberUptoRow : OpenClaim := { program := "ytddpdeoflaigeaa", sum := "3972fa98cb52b6ab771a9d5b2c9ee67244e34f6430efa853aa0235883c172bed", func := "loop.example/g01135/laws.FnExactTeachingNumber", spec := "fnExactTeachingNumber", unfollowed := true, recurses := true, plainKeys := false, apart := false, narrowed := true }
def FnExactTeachingNumberUptoSaid : Prop := fnExactTeachingNumberUptoRow.holds Try.pinned (OpenSpec.upto fnExactTeachingNumberSpec)

/-- 'laws.FnExactTeachingSet', WHERE WHAT IT READS IS OF BULK AT MOST 1048576: true; the input reads as it did. -/
def fnExactTeachingSetUptoRow : OpenClaim := { program := "ytddpdeoflaigeaa", sum := "3972fa98cb52b6ab771a9d5b2c9ee67244e34f6430efa853aa0235883c172bed", func := "loop.example/g01135/laws.FnExactTeachingSet", spec := "fnExactTeachingSet", unfollowed := true, recurses := true, plainKeys := false, apart := false, narrowed := true }
def FnExactTeachingSetUptoSaid : Prop := fnExactTeachingSetUptoRow.holds Try.pinned (OpenSpec.upto fnExactTeachingSetSpec)

/-- 'laws.FnTeaching', WHERE WHAT IT READS IS OF BULK AT MOST 1048576: true; the input reads as it did. -/
def fnTeachingUptoRow : OpenClaim := { program := "ytddpdeoflaigeaa", sum := "3972fa98cb52b6ab771a9d5b2c9ee67244e34f6430efa853aa0235883c172bed", func := "loop.example/g01135/laws.FnTeaching", spec := "fnTeaching", unfollowed := true, recurses := true, plainKeys := false, apart := false, narrowed := true }
def FnTeachingUptoSaid : Prop := fnTeachingUptoRow.holds Try.pinned (OpenSpec.upto fnTeachingSpec)

/-- 'laws.FnExactPlaneClass', WHERE WHAT IT READS IS OF BULK AT MOST 1048576: true; the input reads as it did. -/
def fnExactPlaneClassUptoRow : OpenClaim := { program := "ytddpdeoflaigeaa", sum := "3972fa98cb52b6ab771a9d5b2c9ee67244e34f6430efa853aa0235883c172bed", func := "loop.example/g01135/laws.FnExactPlaneClass", spec := "fnExactPlaneClass", unfollowed := true, recurses := true, plainKeys := false, apart := false, narrowed := true }
def FnExactPlaneClassUptoSaid : Prop := fnExactPlaneClassUptoRow.holds Try.pinned (OpenSpec.upto fnExactPlaneClassSpec)

/-- 'laws.FnExactShattersSet', WHERE WHAT IT READS IS OF BULK AT MOST 1048576: true; the input reads as it did. -/
def fnExactShattersSetUptoRow : OpenClaim := { program := "ytddpdeoflaigeaa", sum := "3972fa98cb52b6ab771a9d5b2c9ee67244e34f6430efa853aa0235883c172bed", func := "loop.example/g01135/laws.FnExactShattersSet", spec := "fnExactShattersSet", unfollowed := true, recurses := true, plainKeys := false, apart := false, narrowed := true }
def FnExactShattersSetUptoSaid : Prop := fnExactShattersSetUptoRow.holds Try.pinned (OpenSpec.upto fnExactShattersSetSpec)

end Rows
end Go.Proofs.Ytddpdeoflaigeaa
