/-
  No cell of these rows narrows 'for every input' (looked for: loops, veiled, ifaces, maps, wideKeys, modest, calm, conditions, laid).
  DERIVED. THE GIVEN ROWS OF THIS SEAT. 3 by the template 'for every input the law returns true; each argument reads behind the call as it read before'; 0 by the template 'total and deterministic' (their statements: YtihnmdnmjieffaaTotals.lean).
  GIVEN WITH THE SEED: the statements are not yours to turn. If you find one false, say at which input.
  Laid BY PROGRAM, IN A SANDBOX (cutbox-rows.mjs): the forced cells as the released guide's own fill.sh prints them over the translation 3f5071b7cc57858b… (all of the seat's roots in one cut). By AI agents, Wed Nov 11 2026. No macro, syntax, notation, axiom, sorry.
-/
import Derived.Test.YtihnmdnmjieffaaChecked
import GoSem.Claim
import GoSem.ClaimJoined
import GoSem.ClaimMapViews
import Derived.JoinedTies
import Derived.KernelRfl
namespace Go.Proofs.Ytihnmdnmjieffaa
/- THE CELL 'sum', in the pinned program and in every row, IS THE sha256 OF THE DUMP (.gsa) THAT YtihnmdnmjieffaaProg.lean LOADS. Nothing in Lean hashes anything: it is a label: what it is worth is what the hold of that sum in a sandbox is worth. -/
noncomputable def Try.pinned : Pinned := { name := "ytihnmdnmjieffaa", sum := "3f5071b7cc57858b3b98521a92aee6ff9ebc05887a34303c6b5d4d9c8d27dc70", checked := Try.checked }
namespace Rows
def none {H : Type} : Left H := { results := [], args := [] }

/-- 'laws.FnExactPermuteBits': WHATEVER THE INPUT: true; the input reads as it did. -/
def fnExactPermuteBitsSpec : ChangeSpec := { name := "fnExactPermuteBits", fn := fun _ => fun
  | [d1, d2, d3] => { results := [.lit (.bool true)], args := [d1, d2, d3] }
  | _ => none }
def fnExactPermuteBitsRow : OpenClaim := { program := "ytihnmdnmjieffaa", sum := "3f5071b7cc57858b3b98521a92aee6ff9ebc05887a34303c6b5d4d9c8d27dc70", func := "loop.example/g01135/laws.FnExactPermuteBits", spec := "fnExactPermuteBits", unfollowed := true, recurses := true, apart := false }
def FnExactPermuteBitsSaid : Prop := fnExactPermuteBitsRow.holds Try.pinned (OpenSpec.ofChange fnExactPermuteBitsSpec)

/-- ITS FALSE NEIGHBOUR: 'it returns false'. Refute it at one input. -/
def fnExactPermuteBitsWrong : ChangeSpec := { name := "fnExactPermuteBits", fn := fun _ => fun
  | [d1, d2, d3] => { results := [.lit (.bool false)], args := [d1, d2, d3] }
  | _ => none }
def FnExactPermuteBitsWrongFalsely : Prop := fnExactPermuteBitsRow.holds Try.pinned (OpenSpec.ofChange fnExactPermuteBitsWrong)

/-- 'laws.FnExactShattersSet': WHATEVER THE INPUT: true; the input reads as it did. -/
def fnExactShattersSetSpec : ChangeSpec := { name := "fnExactShattersSet", fn := fun _ => fun
  | [d1, d2] => { results := [.lit (.bool true)], args := [d1, d2] }
  | _ => none }
def fnExactShattersSetRow : OpenClaim := { program := "ytihnmdnmjieffaa", sum := "3f5071b7cc57858b3b98521a92aee6ff9ebc05887a34303c6b5d4d9c8d27dc70", func := "loop.example/g01135/laws.FnExactShattersSet", spec := "fnExactShattersSet", unfollowed := true, recurses := true, apart := false }
def FnExactShattersSetSaid : Prop := fnExactShattersSetRow.holds Try.pinned (OpenSpec.ofChange fnExactShattersSetSpec)

/-- ITS FALSE NEIGHBOUR: 'it returns false'. Refute it at one input. -/
def fnExactShattersSetWrong : ChangeSpec := { name := "fnExactShattersSet", fn := fun _ => fun
  | [d1, d2] => { results := [.lit (.bool false)], args := [d1, d2] }
  | _ => none }
def FnExactShattersSetWrongFalsely : Prop := fnExactShattersSetRow.holds Try.pinned (OpenSpec.ofChange fnExactShattersSetWrong)

/-- 'laws.FnSmallPlanes': WHATEVER THE INPUT: true; the input reads as it did. -/
def fnSmallPlanesSpec : ChangeSpec := { name := "fnSmallPlanes", fn := fun _ => fun
  | [d] => { results := [.lit (.bool true)], args := [d] }
  | _ => none }
def fnSmallPlanesRow : OpenClaim := { program := "ytihnmdnmjieffaa", sum := "3f5071b7cc57858b3b98521a92aee6ff9ebc05887a34303c6b5d4d9c8d27dc70", func := "loop.example/g01135/laws.FnSmallPlanes", spec := "fnSmallPlanes", unfollowed := true, recurses := true, apart := false }
def FnSmallPlanesSaid : Prop := fnSmallPlanesRow.holds Try.pinned (OpenSpec.ofChange fnSmallPlanesSpec)

/-- ITS FALSE NEIGHBOUR: 'it returns false'. Refute it at one input. -/
def fnSmallPlanesWrong : ChangeSpec := { name := "fnSmallPlanes", fn := fun _ => fun
  | [d] => { results := [.lit (.bool false)], args := [d] }
  | _ => none }
def FnSmallPlanesWrongFalsely : Prop := fnSmallPlanesRow.holds Try.pinned (OpenSpec.ofChange fnSmallPlanesWrong)

/- THE SECOND FORM. 'bulk': how many values and letters a reading holds, each counted each time it is reached (what is shared counts as often as it is met; a slice's spare places count too). A statement '..UptoSaid' is the law's where the arguments, and the package variables that the reading takes, are together of bulk at most 1048576: NARROWER than '..Said'. Prove '..Said' where nothing that the law and all that it calls make is longer than what came in: it says more and counts as full. Else prove '..UptoSaid'. A law counts once. -/
mutual
def uptoBulk {H : Type} : DataW H → Nat
  | .lit (.string bytes) => bytes.length + 1
  | .lit _ => 1
  | .nil => 1
  | .ptr d => uptoBulk d + 1
  | .slice elems spare => uptoBulkAll elems + uptoBulkAll spare + 1
  | .agg parts => uptoBulkAll parts + 1
  | .iface _ d => uptoBulk d + 1
  | .map entries => uptoBulkEntries entries + 1
  | .held _ => 1
def uptoBulkAll {H : Type} : List (DataW H) → Nat
  | [] => 0
  | d :: r => uptoBulk d + uptoBulkAll r
def uptoBulkEntries {H : Type} : List (Lit × DataW H) → Nat
  | [] => 0
  | x :: r => uptoBulkEntry x + uptoBulkEntries r
def uptoBulkEntry {H : Type} : Lit × DataW H → Nat
  | (.string bytes, d) => bytes.length + uptoBulk d + 1
  | (_, d) => uptoBulk d + 1
 end
def uptoSmall : (H : Type) → List (DataW H) → Bool := fun _ ds => decide (uptoBulkAll ds ≤ 1048576)
def OpenSpec.upto (s : _root_.Go.ChangeSpec) : _root_.Go.OpenSpec := { _root_.Go.OpenSpec.ofChange s with cond := some uptoSmall }

/-- 'laws.FnExactPermuteBits', WHERE WHAT IT READS IS OF BULK AT MOST 1048576: true; the input reads as it did. -/
def fnExactPermuteBitsUptoRow : OpenClaim := { program := "ytihnmdnmjieffaa", sum := "3f5071b7cc57858b3b98521a92aee6ff9ebc05887a34303c6b5d4d9c8d27dc70", func := "loop.example/g01135/laws.FnExactPermuteBits", spec := "fnExactPermuteBits", unfollowed := true, recurses := true, apart := false, narrowed := true }
def FnExactPermuteBitsUptoSaid : Prop := fnExactPermuteBitsUptoRow.holds Try.pinned (OpenSpec.upto fnExactPermuteBitsSpec)

/-- 'laws.FnExactShattersSet', WHERE WHAT IT READS IS OF BULK AT MOST 1048576: true; the input reads as it did. -/
def fnExactShattersSetUptoRow : OpenClaim := { program := "ytihnmdnmjieffaa", sum := "3f5071b7cc57858b3b98521a92aee6ff9ebc05887a34303c6b5d4d9c8d27dc70", func := "loop.example/g01135/laws.FnExactShattersSet", spec := "fnExactShattersSet", unfollowed := true, recurses := true, apart := false, narrowed := true }
def FnExactShattersSetUptoSaid : Prop := fnExactShattersSetUptoRow.holds Try.pinned (OpenSpec.upto fnExactShattersSetSpec)

/-- 'laws.FnSmallPlanes', WHERE WHAT IT READS IS OF BULK AT MOST 1048576: true; the input reads as it did. -/
def fnSmallPlanesUptoRow : OpenClaim := { program := "ytihnmdnmjieffaa", sum := "3f5071b7cc57858b3b98521a92aee6ff9ebc05887a34303c6b5d4d9c8d27dc70", func := "loop.example/g01135/laws.FnSmallPlanes", spec := "fnSmallPlanes", unfollowed := true, recurses := true, apart := false, narrowed := true }
def FnSmallPlanesUptoSaid : Prop := fnSmallPlanesUptoRow.holds Try.pinned (OpenSpec.upto fnSmallPlanesSpec)

end Rows
end Go.Proofs.Ytihnmdnmjieffaa
