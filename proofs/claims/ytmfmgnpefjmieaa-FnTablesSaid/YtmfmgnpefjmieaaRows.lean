/-
  No cell of these rows narrows 'for every input' (looked for: loops, veiled, ifaces, maps, wideKeys, modest, calm, conditions, laid).
  DERIVED. THE GIVEN ROWS OF THIS SEAT. 4 by the template 'for every input the law returns true; each argument reads behind the call as it read before'; 0 by the template 'total and deterministic' (their statements: YtmfmgnpefjmieaaTotals.lean).
  GIVEN WITH THE SEED: the statements are not yours to turn. If you find one false, say at which input.
  Laid BY PROGRAM, IN A SANDBOX (cutbox-rows.mjs): the forced cells as the released guide's own fill.sh prints them over the translation 9c95868f51c263c4… (all of the seat's roots in one cut). By AI agents, Wed Nov 11 2026. No macro, syntax, notation, axiom, sorry.
-/
import Derived.Test.YtmfmgnpefjmieaaChecked
import GoSem.Claim
import GoSem.ClaimJoined
import GoSem.ClaimMapViews
import Derived.JoinedTies
import Derived.KernelRfl
namespace Go.Proofs.Ytmfmgnpefjmieaa
/- THE CELL 'sum', in the pinned program and in every row, IS THE sha256 OF THE DUMP (.gsa) THAT YtmfmgnpefjmieaaProg.lean LOADS. Nothing in Lean hashes anything: it is a label: what it is worth is what the hold of that sum in a sandbox is worth. -/
noncomputable def Try.pinned : Pinned := { name := "ytmfmgnpefjmieaa", sum := "9c95868f51c263c47f302d680617370fb8d84a0e3c43dcf1982022daab8f0a38", checked := Try.checked }
namespace Rows
def none {H : Type} : Left H := { results := [], args := [] }

/-- 'laws.FnThresholdTables': WHATEVER THE INPUT: true; the input reads as it did. -/
def fnThresholdTablesSpec : ChangeSpec := { name := "fnThresholdTables", fn := fun _ => fun
  | [d] => { results := [.lit (.bool true)], args := [d] }
  | _ => none }
def fnThresholdTablesRow : OpenClaim := { program := "ytmfmgnpefjmieaa", sum := "9c95868f51c263c47f302d680617370fb8d84a0e3c43dcf1982022daab8f0a38", func := "loop.example/g01135/laws.FnThresholdTables", spec := "fnThresholdTables", unfollowed := true, recurses := true, apart := false }
def FnThresholdTablesSaid : Prop := fnThresholdTablesRow.holds Try.pinned (OpenSpec.ofChange fnThresholdTablesSpec)

/-- ITS FALSE NEIGHBOUR: 'it returns false'. Refute it at one input. -/
def fnThresholdTablesWrong : ChangeSpec := { name := "fnThresholdTables", fn := fun _ => fun
  | [d] => { results := [.lit (.bool false)], args := [d] }
  | _ => none }
def FnThresholdTablesWrongFalsely : Prop := fnThresholdTablesRow.holds Try.pinned (OpenSpec.ofChange fnThresholdTablesWrong)

/-- 'laws.FnChow': WHATEVER THE INPUT: true; the input reads as it did. -/
def fnChowSpec : ChangeSpec := { name := "fnChow", fn := fun _ => fun
  | [d] => { results := [.lit (.bool true)], args := [d] }
  | _ => none }
def fnChowRow : OpenClaim := { program := "ytmfmgnpefjmieaa", sum := "9c95868f51c263c47f302d680617370fb8d84a0e3c43dcf1982022daab8f0a38", func := "loop.example/g01135/laws.FnChow", spec := "fnChow", unfollowed := true, recurses := true, apart := false }
def FnChowSaid : Prop := fnChowRow.holds Try.pinned (OpenSpec.ofChange fnChowSpec)

/-- ITS FALSE NEIGHBOUR: 'it returns false'. Refute it at one input. -/
def fnChowWrong : ChangeSpec := { name := "fnChow", fn := fun _ => fun
  | [d] => { results := [.lit (.bool false)], args := [d] }
  | _ => none }
def FnChowWrongFalsely : Prop := fnChowRow.holds Try.pinned (OpenSpec.ofChange fnChowWrong)

/-- 'laws.FnTables': WHATEVER THE INPUT: true; the input reads as it did. -/
def fnTablesSpec : ChangeSpec := { name := "fnTables", fn := fun _ => fun
  | [d] => { results := [.lit (.bool true)], args := [d] }
  | _ => none }
def fnTablesRow : OpenClaim := { program := "ytmfmgnpefjmieaa", sum := "9c95868f51c263c47f302d680617370fb8d84a0e3c43dcf1982022daab8f0a38", func := "loop.example/g01135/laws.FnTables", spec := "fnTables", unfollowed := true, recurses := true, apart := false }
def FnTablesSaid : Prop := fnTablesRow.holds Try.pinned (OpenSpec.ofChange fnTablesSpec)

/-- ITS FALSE NEIGHBOUR: 'it returns false'. Refute it at one input. -/
def fnTablesWrong : ChangeSpec := { name := "fnTables", fn := fun _ => fun
  | [d] => { results := [.lit (.bool false)], args := [d] }
  | _ => none }
def FnTablesWrongFalsely : Prop := fnTablesRow.holds Try.pinned (OpenSpec.ofChange fnTablesWrong)

/-- 'laws.FnPower': WHATEVER THE INPUT: true; the input reads as it did. -/
def fnPowerSpec : ChangeSpec := { name := "fnPower", fn := fun _ => fun
  | [d] => { results := [.lit (.bool true)], args := [d] }
  | _ => none }
def fnPowerRow : OpenClaim := { program := "ytmfmgnpefjmieaa", sum := "9c95868f51c263c47f302d680617370fb8d84a0e3c43dcf1982022daab8f0a38", func := "loop.example/g01135/laws.FnPower", spec := "fnPower", recurses := true, apart := false }
def FnPowerSaid : Prop := fnPowerRow.holds Try.pinned (OpenSpec.ofChange fnPowerSpec)

/-- ITS FALSE NEIGHBOUR: 'it returns false'. Refute it at one input. -/
def fnPowerWrong : ChangeSpec := { name := "fnPower", fn := fun _ => fun
  | [d] => { results := [.lit (.bool false)], args := [d] }
  | _ => none }
def FnPowerWrongFalsely : Prop := fnPowerRow.holds Try.pinned (OpenSpec.ofChange fnPowerWrong)

/- THE SECOND FORM. 'bulk': how many values and letters a reading holds, each counted each time it is reached (what is shared counts as often as it is met; a slice's spare places count too). A statement '..UptoSaid' is the law's where the arguments, and the package variables that the reading takes, are together of bulk at most 1048576: NARROWER than '..Said'. Prove '..Said' where nothing that the law and all that it calls make is longer than what came in: it says more and counts as full. Else prove '..UptoSaid'. A law counts once. -/
mutual
def uptoBulk {H : Type} : DataW H → Nat
  | .lit (.string bytes) => bytes.length + 1
  | .lit _ => 1
  | .nil => 1
  | .ptr d => uptoBulk d + 1
  | .slice elems spare => uptoBulkAll elems + uptoBulkAll spare + 1
  | .agg parts => uptoBulkAll parts + 1
  | .iface _ d => uptoBulk d + 1
  | .map entries => uptoBulkEntries entries + 1
  | .held _ => 1
def uptoBulkAll {H : Type} : List (DataW H) → Nat
  | [] => 0
  | d :: r => uptoBulk d + uptoBulkAll r
def uptoBulkEntries {H : Type} : List (Lit × DataW H) → Nat
  | [] => 0
  | x :: r => uptoBulkEntry x + uptoBulkEntries r
def uptoBulkEntry {H : Type} : Lit × DataW H → Nat
  | (.string bytes, d) => bytes.length + uptoBulk d + 1
  | (_, d) => uptoBulk d + 1
 end
def uptoSmall : (H : Type) → List (DataW H) → Bool := fun _ ds => decide (uptoBulkAll ds ≤ 1048576)
def OpenSpec.upto (s : _root_.Go.ChangeSpec) : _root_.Go.OpenSpec := { _root_.Go.OpenSpec.ofChange s with cond := some uptoSmall }

/-- 'laws.FnThresholdTables', WHERE WHAT IT READS IS OF BULK AT MOST 1048576: true; the input reads as it did. -/
def fnThresholdTablesUptoRow : OpenClaim := { program := "ytmfmgnpefjmieaa", sum := "9c95868f51c263c47f302d680617370fb8d84a0e3c43dcf1982022daab8f0a38", func := "loop.example/g01135/laws.FnThresholdTables", spec := "fnThresholdTables", unfollowed := true, recurses := true, apart := false, narrowed := true }
def FnThresholdTablesUptoSaid : Prop := fnThresholdTablesUptoRow.holds Try.pinned (OpenSpec.upto fnThresholdTablesSpec)

/-- 'laws.FnChow', WHERE WHAT IT READS IS OF BULK AT MOST 1048576: true; the input reads as it did. -/
def fnChowUptoRow : OpenClaim := { program := "ytmfmgnpefjmieaa", sum := "9c95868f51c263c47f302d680617370fb8d84a0e3c43dcf1982022daab8f0a38", func := "loop.example/g01135/laws.FnChow", spec := "fnChow", unfollowed := true, recurses := true, apart := false, narrowed := true }
def FnChowUptoSaid : Prop := fnChowUptoRow.holds Try.pinned (OpenSpec.upto fnChowSpec)

/-- 'laws.FnTables', WHERE WHAT IT READS IS OF BULK AT MOST 1048576: true; the input reads as it did. -/
def fnTablesUptoRow : OpenClaim := { program := "ytmfmgnpefjmieaa", sum := "9c95868f51c263c47f302d680617370fb8d84a0e3c43dcf1982022daab8f0a38", func := "loop.example/g01135/laws.FnTables", spec := "fnTables", unfollowed := true, recurses := true, apart := false, narrowed := true }
def FnTablesUptoSaid : Prop := fnTablesUptoRow.holds Try.pinned (OpenSpec.upto fnTablesSpec)

/-- 'laws.FnPower', WHERE WHAT IT READS IS OF BULK AT MOST 1048576: true; the input reads as it did. -/
def fnPowerUptoRow : OpenClaim := { program := "ytmfmgnpefjmieaa", sum := "9c95868f51c263c47f302d680617370fb8d84a0e3c43dcf1982022daab8f0a38", func := "loop.example/g01135/laws.FnPower", spec := "fnPower", recurses := true, apart := false, narrowed := true }
def FnPowerUptoSaid : Prop := fnPowerUptoRow.holds Try.pinned (OpenSpec.upto fnPowerSpec)

end Rows
end Go.Proofs.Ytmfmgnpefjmieaa
