/-
  No cell of these rows narrows 'for every input' (looked for: loops, veiled, ifaces, maps, wideKeys, modest, calm, conditions, laid).
  DERIVED. THE GIVEN ROWS OF THIS SEAT. 4 by the template 'for every input the law returns true; each argument reads behind the call as it read before'; 0 by the template 'total and deterministic' (their statements: YtoecohjjbgenbaaTotals.lean).
  GIVEN WITH THE SEED: the statements are not yours to turn. If you find one false, say at which input.
  Laid BY PROGRAM, IN A SANDBOX (cutbox-rows.mjs): the forced cells as the released guide's own fill.sh prints them over the translation b99fabe8c2dae556… (all of the seat's roots in one cut). By AI agents, Wed Nov 11 2026. No macro, syntax, notation, axiom, sorry.
-/
import Derived.Test.YtoecohjjbgenbaaChecked
import GoSem.Claim
import GoSem.ClaimJoined
import GoSem.ClaimMapViews
import Derived.JoinedTies
import Derived.KernelRfl
namespace Go.Proofs.Ytoecohjjbgenbaa
/- THE CELL 'sum', in the pinned program and in every row, IS THE sha256 OF THE DUMP (.gsa) THAT YtoecohjjbgenbaaProg.lean LOADS. Nothing in Lean hashes anything: it is a label: what it is worth is what the hold of that sum in a sandbox is worth. -/
noncomputable def Try.pinned : Pinned := { name := "ytoecohjjbgenbaa", sum := "b99fabe8c2dae556554e8a25f8838dd45bd281982850ce4871bd9e4f3c6b0da6", checked := Try.checked }
namespace Rows
def none {H : Type} : Left H := { results := [], args := [] }

/-- 'laws.FnVoters': WHATEVER THE INPUT: true; the input reads as it did. -/
def fnVotersSpec : ChangeSpec := { name := "fnVoters", fn := fun _ => fun
  | [d] => { results := [.lit (.bool true)], args := [d] }
  | _ => none }
def fnVotersRow : OpenClaim := { program := "ytoecohjjbgenbaa", sum := "b99fabe8c2dae556554e8a25f8838dd45bd281982850ce4871bd9e4f3c6b0da6", func := "loop.example/g01135/laws.FnVoters", spec := "fnVoters", apart := false }
def FnVotersSaid : Prop := fnVotersRow.holds Try.pinned (OpenSpec.ofChange fnVotersSpec)

/-- ITS FALSE NEIGHBOUR: 'it returns false'. Refute it at one input. -/
def fnVotersWrong : ChangeSpec := { name := "fnVoters", fn := fun _ => fun
  | [d] => { results := [.lit (.bool false)], args := [d] }
  | _ => none }
def FnVotersWrongFalsely : Prop := fnVotersRow.holds Try.pinned (OpenSpec.ofChange fnVotersWrong)

/-- 'laws.FnExactPivotalVoter': WHATEVER THE INPUT: true; the input reads as it did. -/
def fnExactPivotalVoterSpec : ChangeSpec := { name := "fnExactPivotalVoter", fn := fun _ => fun
  | [d1, d2] => { results := [.lit (.bool true)], args := [d1, d2] }
  | _ => none }
def fnExactPivotalVoterRow : OpenClaim := { program := "ytoecohjjbgenbaa", sum := "b99fabe8c2dae556554e8a25f8838dd45bd281982850ce4871bd9e4f3c6b0da6", func := "loop.example/g01135/laws.FnExactPivotalVoter", spec := "fnExactPivotalVoter", recurses := true, apart := false }
def FnExactPivotalVoterSaid : Prop := fnExactPivotalVoterRow.holds Try.pinned (OpenSpec.ofChange fnExactPivotalVoterSpec)

/-- ITS FALSE NEIGHBOUR: 'it returns false'. Refute it at one input. -/
def fnExactPivotalVoterWrong : ChangeSpec := { name := "fnExactPivotalVoter", fn := fun _ => fun
  | [d1, d2] => { results := [.lit (.bool false)], args := [d1, d2] }
  | _ => none }
def FnExactPivotalVoterWrongFalsely : Prop := fnExactPivotalVoterRow.holds Try.pinned (OpenSpec.ofChange fnExactPivotalVoterWrong)

/-- 'laws.FnExactPermuteBits': WHATEVER THE INPUT: true; the input reads as it did. -/
def fnExactPermuteBitsSpec : ChangeSpec := { name := "fnExactPermuteBits", fn := fun _ => fun
  | [d1, d2, d3] => { results := [.lit (.bool true)], args := [d1, d2, d3] }
  | _ => none }
def fnExactPermuteBitsRow : OpenClaim := { program := "ytoecohjjbgenbaa", sum := "b99fabe8c2dae556554e8a25f8838dd45bd281982850ce4871bd9e4f3c6b0da6", func := "loop.example/g01135/laws.FnExactPermuteBits", spec := "fnExactPermuteBits", unfollowed := true, recurses := true, apart := false }
def FnExactPermuteBitsSaid : Prop := fnExactPermuteBitsRow.holds Try.pinned (OpenSpec.ofChange fnExactPermuteBitsSpec)

/-- ITS FALSE NEIGHBOUR: 'it returns false'. Refute it at one input. -/
def fnExactPermuteBitsWrong : ChangeSpec := { name := "fnExactPermuteBits", fn := fun _ => fun
  | [d1, d2, d3] => { results := [.lit (.bool false)], args := [d1, d2, d3] }
  | _ => none }
def FnExactPermuteBitsWrongFalsely : Prop := fnExactPermuteBitsRow.holds Try.pinned (OpenSpec.ofChange fnExactPermuteBitsWrong)

/-- 'laws.FnPower': WHATEVER THE INPUT: true; the input reads as it did. -/
def fnPowerSpec : ChangeSpec := { name := "fnPower", fn := fun _ => fun
  | [d] => { results := [.lit (.bool true)], args := [d] }
  | _ => none }
def fnPowerRow : OpenClaim := { program := "ytoecohjjbgenbaa", sum := "b99fabe8c2dae556554e8a25f8838dd45bd281982850ce4871bd9e4f3c6b0da6", func := "loop.example/g01135/laws.FnPower", spec := "fnPower", recurses := true, apart := false }
def FnPowerSaid : Prop := fnPowerRow.holds Try.pinned (OpenSpec.ofChange fnPowerSpec)

/-- ITS FALSE NEIGHBOUR: 'it returns false'. Refute it at one input. -/
def fnPowerWrong : ChangeSpec := { name := "fnPower", fn := fun _ => fun
  | [d] => { results := [.lit (.bool false)], args := [d] }
  | _ => none }
def FnPowerWrongFalsely : Prop := fnPowerRow.holds Try.pinned (OpenSpec.ofChange fnPowerWrong)

/- THE SECOND FORM. 'bulk': how many values and letters a reading holds, each counted each time it is reached (what is shared counts as often as it is met; a slice's spare places count too). A statement '..UptoSaid' is the law's where the arguments, and the package variables that the reading takes, are together of bulk at most 1048576: NARROWER than '..Said'. Prove '..Said' where nothing that the law and all that it calls make is longer than what came in: it says more and counts as full. Else prove '..UptoSaid'. A law counts once. -/
mutual
def uptoBulk {H : Type} : DataW H → Nat
  | .lit (.string bytes) => bytes.length + 1
  | .lit _ => 1
  | .nil => 1
  | .ptr d => uptoBulk d + 1
  | .slice elems spare => uptoBulkAll elems + uptoBulkAll spare + 1
  | .agg parts => uptoBulkAll parts + 1
  | .iface _ d => uptoBulk d + 1
  | .map entries => uptoBulkEntries entries + 1
  | .held _ => 1
def uptoBulkAll {H : Type} : List (DataW H) → Nat
  | [] => 0
  | d :: r => uptoBulk d + uptoBulkAll r
def uptoBulkEntries {H : Type} : List (Lit × DataW H) → Nat
  | [] => 0
  | x :: r => uptoBulkEntry x + uptoBulkEntries r
def uptoBulkEntry {H : Type} : Lit × DataW H → Nat
  | (.string bytes, d) => bytes.length + uptoBulk d + 1
  | (_, d) => uptoBulk d + 1
 end
def uptoSmall : (H : Type) → List (DataW H) → Bool := fun _ ds => decide (uptoBulkAll ds ≤ 1048576)
def OpenSpec.upto (s : _root_.Go.ChangeSpec) : _root_.Go.OpenSpec := { _root_.Go.OpenSpec.ofChange s with cond := some uptoSmall }

/-- 'laws.FnVoters', WHERE WHAT IT READS IS OF BULK AT MOST 1048576: true; the input reads as it did. -/
def fnVotersUptoRow : OpenClaim := { program := "ytoecohjjbgenbaa", sum := "b99fabe8c2dae556554e8a25f8838dd45bd281982850ce4871bd9e4f3c6b0da6", func := "loop.example/g01135/laws.FnVoters", spec := "fnVoters", apart := false, narrowed := true }
def FnVotersUptoSaid : Prop := fnVotersUptoRow.holds Try.pinned (OpenSpec.upto fnVotersSpec)

/-- 'laws.FnExactPivotalVoter', WHERE WHAT IT READS IS OF BULK AT MOST 1048576: true; the input reads as it did. -/
def fnExactPivotalVoterUptoRow : OpenClaim := { program := "ytoecohjjbgenbaa", sum := "b99fabe8c2dae556554e8a25f8838dd45bd281982850ce4871bd9e4f3c6b0da6", func := "loop.example/g01135/laws.FnExactPivotalVoter", spec := "fnExactPivotalVoter", recurses := true, apart := false, narrowed := true }
def FnExactPivotalVoterUptoSaid : Prop := fnExactPivotalVoterUptoRow.holds Try.pinned (OpenSpec.upto fnExactPivotalVoterSpec)

/-- 'laws.FnExactPermuteBits', WHERE WHAT IT READS IS OF BULK AT MOST 1048576: true; the input reads as it did. -/
def fnExactPermuteBitsUptoRow : OpenClaim := { program := "ytoecohjjbgenbaa", sum := "b99fabe8c2dae556554e8a25f8838dd45bd281982850ce4871bd9e4f3c6b0da6", func := "loop.example/g01135/laws.FnExactPermuteBits", spec := "fnExactPermuteBits", unfollowed := true, recurses := true, apart := false, narrowed := true }
def FnExactPermuteBitsUptoSaid : Prop := fnExactPermuteBitsUptoRow.holds Try.pinned (OpenSpec.upto fnExactPermuteBitsSpec)

/-- 'laws.FnPower', WHERE WHAT IT READS IS OF BULK AT MOST 1048576: true; the input reads as it did. -/
def fnPowerUptoRow : OpenClaim := { program := "ytoecohjjbgenbaa", sum := "b99fabe8c2dae556554e8a25f8838dd45bd281982850ce4871bd9e4f3c6b0da6", func := "loop.example/g01135/laws.FnPower", spec := "fnPower", recurses := true, apart := false, narrowed := true }
def FnPowerUptoSaid : Prop := fnPowerUptoRow.holds Try.pinned (OpenSpec.upto fnPowerSpec)

end Rows
end Go.Proofs.Ytoecohjjbgenbaa
