/-
  No cell of these rows narrows 'for every input' (looked for: loops, veiled, ifaces, maps, wideKeys, modest, calm, conditions, laid).
  DERIVED. THE GIVEN ROWS OF THIS SEAT. 12 by the template 'for every input the law returns true; each argument reads behind the call as it read before'; 0 by the template 'total and deterministic' (their statements: YtocmmbnndieknaaTotals.lean).
  GIVEN WITH THE SEED: the statements are not yours to turn. If you find one false, say at which input.
  Laid BY PROGRAM, IN A SANDBOX (cutbox-rows.mjs): the forced cells as the released guide's own fill.sh prints them over the translation 149a96d9468fe538… (all of the seat's roots in one cut). By AI agents, Wed Nov 11 2026. No macro, syntax, notation, axiom, sorry.
-/
import Derived.Test.YtocmmbnndieknaaChecked
import GoSem.Claim
import GoSem.ClaimJoined
import GoSem.ClaimMapViews
import Derived.JoinedTies
import Derived.KernelRfl
namespace Go.Proofs.Ytocmmbnndieknaa
/- THE CELL 'sum', in the pinned program and in every row, IS THE sha256 OF THE DUMP (.gsa) THAT YtocmmbnndieknaaProg.lean LOADS. Nothing in Lean hashes anything: it is a label: what it is worth is what the hold of that sum in a sandbox is worth. -/
noncomputable def Try.pinned : Pinned := { name := "ytocmmbnndieknaa", sum := "149a96d9468fe538c99e8006a2de1cf000ddbb5c0a234447a2d55903ebd89488", checked := Try.checked }
namespace Rows
def none {H : Type} : Left H := { results := [], args := [] }

/-- 'laws.FnExactSauerBound': WHATEVER THE INPUT: true; the input reads as it did. -/
def fnExactSauerBoundSpec : ChangeSpec := { name := "fnExactSauerBound", fn := fun _ => fun
  | [d1, d2] => { results := [.lit (.bool true)], args := [d1, d2] }
  | _ => none }
def fnExactSauerBoundRow : OpenClaim := { program := "ytocmmbnndieknaa", sum := "149a96d9468fe538c99e8006a2de1cf000ddbb5c0a234447a2d55903ebd89488", func := "loop.example/g01135/laws.FnExactSauerBound", spec := "fnExactSauerBound", apart := false }
def FnExactSauerBoundSaid : Prop := fnExactSauerBoundRow.holds Try.pinned (OpenSpec.ofChange fnExactSauerBoundSpec)

/-- ITS FALSE NEIGHBOUR: 'it returns false'. Refute it at one input. -/
def fnExactSauerBoundWrong : ChangeSpec := { name := "fnExactSauerBound", fn := fun _ => fun
  | [d1, d2] => { results := [.lit (.bool false)], args := [d1, d2] }
  | _ => none }
def FnExactSauerBoundWrongFalsely : Prop := fnExactSauerBoundRow.holds Try.pinned (OpenSpec.ofChange fnExactSauerBoundWrong)

/-- 'laws.FnExactIsVote': WHATEVER THE INPUT: true; the input reads as it did. -/
def fnExactIsVoteSpec : ChangeSpec := { name := "fnExactIsVote", fn := fun _ => fun
  | [d] => { results := [.lit (.bool true)], args := [d] }
  | _ => none }
def fnExactIsVoteRow : OpenClaim := { program := "ytocmmbnndieknaa", sum := "149a96d9468fe538c99e8006a2de1cf000ddbb5c0a234447a2d55903ebd89488", func := "loop.example/g01135/laws.FnExactIsVote", spec := "fnExactIsVote", apart := false }
def FnExactIsVoteSaid : Prop := fnExactIsVoteRow.holds Try.pinned (OpenSpec.ofChange fnExactIsVoteSpec)

/-- ITS FALSE NEIGHBOUR: 'it returns false'. Refute it at one input. -/
def fnExactIsVoteWrong : ChangeSpec := { name := "fnExactIsVote", fn := fun _ => fun
  | [d] => { results := [.lit (.bool false)], args := [d] }
  | _ => none }
def FnExactIsVoteWrongFalsely : Prop := fnExactIsVoteRow.holds Try.pinned (OpenSpec.ofChange fnExactIsVoteWrong)

/-- 'laws.FnExactIsGame': WHATEVER THE INPUT: true; the input reads as it did. -/
def fnExactIsGameSpec : ChangeSpec := { name := "fnExactIsGame", fn := fun _ => fun
  | [d1, d2] => { results := [.lit (.bool true)], args := [d1, d2] }
  | _ => none }
def fnExactIsGameRow : OpenClaim := { program := "ytocmmbnndieknaa", sum := "149a96d9468fe538c99e8006a2de1cf000ddbb5c0a234447a2d55903ebd89488", func := "loop.example/g01135/laws.FnExactIsGame", spec := "fnExactIsGame", apart := false }
def FnExactIsGameSaid : Prop := fnExactIsGameRow.holds Try.pinned (OpenSpec.ofChange fnExactIsGameSpec)

/-- ITS FALSE NEIGHBOUR: 'it returns false'. Refute it at one input. -/
def fnExactIsGameWrong : ChangeSpec := { name := "fnExactIsGame", fn := fun _ => fun
  | [d1, d2] => { results := [.lit (.bool false)], args := [d1, d2] }
  | _ => none }
def FnExactIsGameWrongFalsely : Prop := fnExactIsGameRow.holds Try.pinned (OpenSpec.ofChange fnExactIsGameWrong)

/-- 'laws.FnExactFlipBits': WHATEVER THE INPUT: true; the input reads as it did. -/
def fnExactFlipBitsSpec : ChangeSpec := { name := "fnExactFlipBits", fn := fun _ => fun
  | [d1, d2, d3] => { results := [.lit (.bool true)], args := [d1, d2, d3] }
  | _ => none }
def fnExactFlipBitsRow : OpenClaim := { program := "ytocmmbnndieknaa", sum := "149a96d9468fe538c99e8006a2de1cf000ddbb5c0a234447a2d55903ebd89488", func := "loop.example/g01135/laws.FnExactFlipBits", spec := "fnExactFlipBits", unfollowed := true, recurses := true, apart := false }
def FnExactFlipBitsSaid : Prop := fnExactFlipBitsRow.holds Try.pinned (OpenSpec.ofChange fnExactFlipBitsSpec)

/-- ITS FALSE NEIGHBOUR: 'it returns false'. Refute it at one input. -/
def fnExactFlipBitsWrong : ChangeSpec := { name := "fnExactFlipBits", fn := fun _ => fun
  | [d1, d2, d3] => { results := [.lit (.bool false)], args := [d1, d2, d3] }
  | _ => none }
def FnExactFlipBitsWrongFalsely : Prop := fnExactFlipBitsRow.holds Try.pinned (OpenSpec.ofChange fnExactFlipBitsWrong)

/-- 'laws.FnExactInfluencesOf': WHATEVER THE INPUT: true; the input reads as it did. -/
def fnExactInfluencesOfSpec : ChangeSpec := { name := "fnExactInfluencesOf", fn := fun _ => fun
  | [d1, d2] => { results := [.lit (.bool true)], args := [d1, d2] }
  | _ => none }
def fnExactInfluencesOfRow : OpenClaim := { program := "ytocmmbnndieknaa", sum := "149a96d9468fe538c99e8006a2de1cf000ddbb5c0a234447a2d55903ebd89488", func := "loop.example/g01135/laws.FnExactInfluencesOf", spec := "fnExactInfluencesOf", apart := false }
def FnExactInfluencesOfSaid : Prop := fnExactInfluencesOfRow.holds Try.pinned (OpenSpec.ofChange fnExactInfluencesOfSpec)

/-- ITS FALSE NEIGHBOUR: 'it returns false'. Refute it at one input. -/
def fnExactInfluencesOfWrong : ChangeSpec := { name := "fnExactInfluencesOf", fn := fun _ => fun
  | [d1, d2] => { results := [.lit (.bool false)], args := [d1, d2] }
  | _ => none }
def FnExactInfluencesOfWrongFalsely : Prop := fnExactInfluencesOfRow.holds Try.pinned (OpenSpec.ofChange fnExactInfluencesOfWrong)

/-- 'laws.FnExactFindTrade': WHATEVER THE INPUT: true; the input reads as it did. -/
def fnExactFindTradeSpec : ChangeSpec := { name := "fnExactFindTrade", fn := fun _ => fun
  | [d1, d2] => { results := [.lit (.bool true)], args := [d1, d2] }
  | _ => none }
def fnExactFindTradeRow : OpenClaim := { program := "ytocmmbnndieknaa", sum := "149a96d9468fe538c99e8006a2de1cf000ddbb5c0a234447a2d55903ebd89488", func := "loop.example/g01135/laws.FnExactFindTrade", spec := "fnExactFindTrade", apart := false }
def FnExactFindTradeSaid : Prop := fnExactFindTradeRow.holds Try.pinned (OpenSpec.ofChange fnExactFindTradeSpec)

/-- ITS FALSE NEIGHBOUR: 'it returns false'. Refute it at one input. -/
def fnExactFindTradeWrong : ChangeSpec := { name := "fnExactFindTrade", fn := fun _ => fun
  | [d1, d2] => { results := [.lit (.bool false)], args := [d1, d2] }
  | _ => none }
def FnExactFindTradeWrongFalsely : Prop := fnExactFindTradeRow.holds Try.pinned (OpenSpec.ofChange fnExactFindTradeWrong)

/-- 'laws.FnExactIntervalClass': WHATEVER THE INPUT: true; the input reads as it did. -/
def fnExactIntervalClassSpec : ChangeSpec := { name := "fnExactIntervalClass", fn := fun _ => fun
  | [d] => { results := [.lit (.bool true)], args := [d] }
  | _ => none }
def fnExactIntervalClassRow : OpenClaim := { program := "ytocmmbnndieknaa", sum := "149a96d9468fe538c99e8006a2de1cf000ddbb5c0a234447a2d55903ebd89488", func := "loop.example/g01135/laws.FnExactIntervalClass", spec := "fnExactIntervalClass", unfollowed := true, recurses := true, apart := false }
def FnExactIntervalClassSaid : Prop := fnExactIntervalClassRow.holds Try.pinned (OpenSpec.ofChange fnExactIntervalClassSpec)

/-- ITS FALSE NEIGHBOUR: 'it returns false'. Refute it at one input. -/
def fnExactIntervalClassWrong : ChangeSpec := { name := "fnExactIntervalClass", fn := fun _ => fun
  | [d] => { results := [.lit (.bool false)], args := [d] }
  | _ => none }
def FnExactIntervalClassWrongFalsely : Prop := fnExactIntervalClassRow.holds Try.pinned (OpenSpec.ofChange fnExactIntervalClassWrong)

/-- 'laws.FnExactBitSigns': WHATEVER THE INPUT: true; the input reads as it did. -/
def fnExactBitSignsSpec : ChangeSpec := { name := "fnExactBitSigns", fn := fun _ => fun
  | [d1, d2] => { results := [.lit (.bool true)], args := [d1, d2] }
  | _ => none }
def fnExactBitSignsRow : OpenClaim := { program := "ytocmmbnndieknaa", sum := "149a96d9468fe538c99e8006a2de1cf000ddbb5c0a234447a2d55903ebd89488", func := "loop.example/g01135/laws.FnExactBitSigns", spec := "fnExactBitSigns", apart := false }
def FnExactBitSignsSaid : Prop := fnExactBitSignsRow.holds Try.pinned (OpenSpec.ofChange fnExactBitSignsSpec)

/-- ITS FALSE NEIGHBOUR: 'it returns false'. Refute it at one input. -/
def fnExactBitSignsWrong : ChangeSpec := { name := "fnExactBitSigns", fn := fun _ => fun
  | [d1, d2] => { results := [.lit (.bool false)], args := [d1, d2] }
  | _ => none }
def FnExactBitSignsWrongFalsely : Prop := fnExactBitSignsRow.holds Try.pinned (OpenSpec.ofChange fnExactBitSignsWrong)

/-- 'laws.FnExactIsStrong': WHATEVER THE INPUT: true; the input reads as it did. -/
def fnExactIsStrongSpec : ChangeSpec := { name := "fnExactIsStrong", fn := fun _ => fun
  | [d] => { results := [.lit (.bool true)], args := [d] }
  | _ => none }
def fnExactIsStrongRow : OpenClaim := { program := "ytocmmbnndieknaa", sum := "149a96d9468fe538c99e8006a2de1cf000ddbb5c0a234447a2d55903ebd89488", func := "loop.example/g01135/laws.FnExactIsStrong", spec := "fnExactIsStrong", apart := false }
def FnExactIsStrongSaid : Prop := fnExactIsStrongRow.holds Try.pinned (OpenSpec.ofChange fnExactIsStrongSpec)

/-- ITS FALSE NEIGHBOUR: 'it returns false'. Refute it at one input. -/
def fnExactIsStrongWrong : ChangeSpec := { name := "fnExactIsStrong", fn := fun _ => fun
  | [d] => { results := [.lit (.bool false)], args := [d] }
  | _ => none }
def FnExactIsStrongWrongFalsely : Prop := fnExactIsStrongRow.holds Try.pinned (OpenSpec.ofChange fnExactIsStrongWrong)

/-- 'laws.FnExactSameWins': WHATEVER THE INPUT: true; the input reads as it did. -/
def fnExactSameWinsSpec : ChangeSpec := { name := "fnExactSameWins", fn := fun _ => fun
  | [d1, d2] => { results := [.lit (.bool true)], args := [d1, d2] }
  | _ => none }
def fnExactSameWinsRow : OpenClaim := { program := "ytocmmbnndieknaa", sum := "149a96d9468fe538c99e8006a2de1cf000ddbb5c0a234447a2d55903ebd89488", func := "loop.example/g01135/laws.FnExactSameWins", spec := "fnExactSameWins", apart := false }
def FnExactSameWinsSaid : Prop := fnExactSameWinsRow.holds Try.pinned (OpenSpec.ofChange fnExactSameWinsSpec)

/-- ITS FALSE NEIGHBOUR: 'it returns false'. Refute it at one input. -/
def fnExactSameWinsWrong : ChangeSpec := { name := "fnExactSameWins", fn := fun _ => fun
  | [d1, d2] => { results := [.lit (.bool false)], args := [d1, d2] }
  | _ => none }
def FnExactSameWinsWrongFalsely : Prop := fnExactSameWinsRow.holds Try.pinned (OpenSpec.ofChange fnExactSameWinsWrong)

/-- 'laws.FnExactIsProper': WHATEVER THE INPUT: true; the input reads as it did. -/
def fnExactIsProperSpec : ChangeSpec := { name := "fnExactIsProper", fn := fun _ => fun
  | [d] => { results := [.lit (.bool true)], args := [d] }
  | _ => none }
def fnExactIsProperRow : OpenClaim := { program := "ytocmmbnndieknaa", sum := "149a96d9468fe538c99e8006a2de1cf000ddbb5c0a234447a2d55903ebd89488", func := "loop.example/g01135/laws.FnExactIsProper", spec := "fnExactIsProper", apart := false }
def FnExactIsProperSaid : Prop := fnExactIsProperRow.holds Try.pinned (OpenSpec.ofChange fnExactIsProperSpec)

/-- ITS FALSE NEIGHBOUR: 'it returns false'. Refute it at one input. -/
def fnExactIsProperWrong : ChangeSpec := { name := "fnExactIsProper", fn := fun _ => fun
  | [d] => { results := [.lit (.bool false)], args := [d] }
  | _ => none }
def FnExactIsProperWrongFalsely : Prop := fnExactIsProperRow.holds Try.pinned (OpenSpec.ofChange fnExactIsProperWrong)

/-- 'laws.FnExactSplitVoter': WHATEVER THE INPUT: true; the input reads as it did. -/
def fnExactSplitVoterSpec : ChangeSpec := { name := "fnExactSplitVoter", fn := fun _ => fun
  | [d1, d2, d3] => { results := [.lit (.bool true)], args := [d1, d2, d3] }
  | _ => none }
def fnExactSplitVoterRow : OpenClaim := { program := "ytocmmbnndieknaa", sum := "149a96d9468fe538c99e8006a2de1cf000ddbb5c0a234447a2d55903ebd89488", func := "loop.example/g01135/laws.FnExactSplitVoter", spec := "fnExactSplitVoter", apart := false }
def FnExactSplitVoterSaid : Prop := fnExactSplitVoterRow.holds Try.pinned (OpenSpec.ofChange fnExactSplitVoterSpec)

/-- ITS FALSE NEIGHBOUR: 'it returns false'. Refute it at one input. -/
def fnExactSplitVoterWrong : ChangeSpec := { name := "fnExactSplitVoter", fn := fun _ => fun
  | [d1, d2, d3] => { results := [.lit (.bool false)], args := [d1, d2, d3] }
  | _ => none }
def FnExactSplitVoterWrongFalsely : Prop := fnExactSplitVoterRow.holds Try.pinned (OpenSpec.ofChange fnExactSplitVoterWrong)

/- THE SECOND FORM. 'bulk': how many values and letters a reading holds, each counted each time it is reached (what is shared counts as often as it is met; a slice's spare places count too). A statement '..UptoSaid' is the law's where the arguments, and the package variables that the reading takes, are together of bulk at most 1048576: NARROWER than '..Said'. Prove '..Said' where nothing that the law and all that it calls make is longer than what came in: it says more and counts as full. Else prove '..UptoSaid'. A law counts once. -/
mutual
def uptoBulk {H : Type} : DataW H → Nat
  | .lit (.string bytes) => bytes.length + 1
  | .lit _ => 1
  | .nil => 1
  | .ptr d => uptoBulk d + 1
  | .slice elems spare => uptoBulkAll elems + uptoBulkAll spare + 1
  | .agg parts => uptoBulkAll parts + 1
  | .iface _ d => uptoBulk d + 1
  | .map entries => uptoBulkEntries entries + 1
  | .held _ => 1
def uptoBulkAll {H : Type} : List (DataW H) → Nat
  | [] => 0
  | d :: r => uptoBulk d + uptoBulkAll r
def uptoBulkEntries {H : Type} : List (Lit × DataW H) → Nat
  | [] => 0
  | x :: r => uptoBulkEntry x + uptoBulkEntries r
def uptoBulkEntry {H : Type} : Lit × DataW H → Nat
  | (.string bytes, d) => bytes.length + uptoBulk d + 1
  | (_, d) => uptoBulk d + 1
 end
def uptoSmall : (H : Type) → List (DataW H) → Bool := fun _ ds => decide (uptoBulkAll ds ≤ 1048576)
def OpenSpec.upto (s : _root_.Go.ChangeSpec) : _root_.Go.OpenSpec := { _root_.Go.OpenSpec.ofChange s with cond := some uptoSmall }

/-- 'laws.FnExactSauerBound', WHERE WHAT IT READS IS OF BULK AT MOST 1048576: true; the input reads as it did. -/
def fnExactSauerBoundUptoRow : OpenClaim := { program := "ytocmmbnndieknaa", sum := "149a96d9468fe538c99e8006a2de1cf000ddbb5c0a234447a2d55903ebd89488", func := "loop.example/g01135/laws.FnExactSauerBound", spec := "fnExactSauerBound", apart := false, narrowed := true }
def FnExactSauerBoundUptoSaid : Prop := fnExactSauerBoundUptoRow.holds Try.pinned (OpenSpec.upto fnExactSauerBoundSpec)

/-- 'laws.FnExactIsVote', WHERE WHAT IT READS IS OF BULK AT MOST 1048576: true; the input reads as it did. -/
def fnExactIsVoteUptoRow : OpenClaim := { program := "ytocmmbnndieknaa", sum := "149a96d9468fe538c99e8006a2de1cf000ddbb5c0a234447a2d55903ebd89488", func := "loop.example/g01135/laws.FnExactIsVote", spec := "fnExactIsVote", apart := false, narrowed := true }
def FnExactIsVoteUptoSaid : Prop := fnExactIsVoteUptoRow.holds Try.pinned (OpenSpec.upto fnExactIsVoteSpec)

/-- 'laws.FnExactIsGame', WHERE WHAT IT READS IS OF BULK AT MOST 1048576: true; the input reads as it did. -/
def fnExactIsGameUptoRow : OpenClaim := { program := "ytocmmbnndieknaa", sum := "149a96d9468fe538c99e8006a2de1cf000ddbb5c0a234447a2d55903ebd89488", func := "loop.example/g01135/laws.FnExactIsGame", spec := "fnExactIsGame", apart := false, narrowed := true }
def FnExactIsGameUptoSaid : Prop := fnExactIsGameUptoRow.holds Try.pinned (OpenSpec.upto fnExactIsGameSpec)

/-- 'laws.FnExactFlipBits', WHERE WHAT IT READS IS OF BULK AT MOST 1048576: true; the input reads as it did. -/
def fnExactFlipBitsUptoRow : OpenClaim := { program := "ytocmmbnndieknaa", sum := "149a96d9468fe538c99e8006a2de1cf000ddbb5c0a234447a2d55903ebd89488", func := "loop.example/g01135/laws.FnExactFlipBits", spec := "fnExactFlipBits", unfollowed := true, recurses := true, apart := false, narrowed := true }
def FnExactFlipBitsUptoSaid : Prop := fnExactFlipBitsUptoRow.holds Try.pinned (OpenSpec.upto fnExactFlipBitsSpec)

/-- 'laws.FnExactInfluencesOf', WHERE WHAT IT READS IS OF BULK AT MOST 1048576: true; the input reads as it did. -/
def fnExactInfluencesOfUptoRow : OpenClaim := { program := "ytocmmbnndieknaa", sum := "149a96d9468fe538c99e8006a2de1cf000ddbb5c0a234447a2d55903ebd89488", func := "loop.example/g01135/laws.FnExactInfluencesOf", spec := "fnExactInfluencesOf", apart := false, narrowed := true }
def FnExactInfluencesOfUptoSaid : Prop := fnExactInfluencesOfUptoRow.holds Try.pinned (OpenSpec.upto fnExactInfluencesOfSpec)

/-- 'laws.FnExactFindTrade', WHERE WHAT IT READS IS OF BULK AT MOST 1048576: true; the input reads as it did. -/
def fnExactFindTradeUptoRow : OpenClaim := { program := "ytocmmbnndieknaa", sum := "149a96d9468fe538c99e8006a2de1cf000ddbb5c0a234447a2d55903ebd89488", func := "loop.example/g01135/laws.FnExactFindTrade", spec := "fnExactFindTrade", apart := false, narrowed := true }
def FnExactFindTradeUptoSaid : Prop := fnExactFindTradeUptoRow.holds Try.pinned (OpenSpec.upto fnExactFindTradeSpec)

/-- 'laws.FnExactIntervalClass', WHERE WHAT IT READS IS OF BULK AT MOST 1048576: true; the input reads as it did. -/
def fnExactIntervalClassUptoRow : OpenClaim := { program := "ytocmmbnndieknaa", sum := "149a96d9468fe538c99e8006a2de1cf000ddbb5c0a234447a2d55903ebd89488", func := "loop.example/g01135/laws.FnExactIntervalClass", spec := "fnExactIntervalClass", unfollowed := true, recurses := true, apart := false, narrowed := true }
def FnExactIntervalClassUptoSaid : Prop := fnExactIntervalClassUptoRow.holds Try.pinned (OpenSpec.upto fnExactIntervalClassSpec)

/-- 'laws.FnExactBitSigns', WHERE WHAT IT READS IS OF BULK AT MOST 1048576: true; the input reads as it did. -/
def fnExactBitSignsUptoRow : OpenClaim := { program := "ytocmmbnndieknaa", sum := "149a96d9468fe538c99e8006a2de1cf000ddbb5c0a234447a2d55903ebd89488", func := "loop.example/g01135/laws.FnExactBitSigns", spec := "fnExactBitSigns", apart := false, narrowed := true }
def FnExactBitSignsUptoSaid : Prop := fnExactBitSignsUptoRow.holds Try.pinned (OpenSpec.upto fnExactBitSignsSpec)

/-- 'laws.FnExactIsStrong', WHERE WHAT IT READS IS OF BULK AT MOST 1048576: true; the input reads as it did. -/
def fnExactIsStrongUptoRow : OpenClaim := { program := "ytocmmbnndieknaa", sum := "149a96d9468fe538c99e8006a2de1cf000ddbb5c0a234447a2d55903ebd89488", func := "loop.example/g01135/laws.FnExactIsStrong", spec := "fnExactIsStrong", apart := false, narrowed := true }
def FnExactIsStrongUptoSaid : Prop := fnExactIsStrongUptoRow.holds Try.pinned (OpenSpec.upto fnExactIsStrongSpec)

/-- 'laws.FnExactSameWins', WHERE WHAT IT READS IS OF BULK AT MOST 1048576: true; the input reads as it did. -/
def fnExactSameWinsUptoRow : OpenClaim := { program := "ytocmmbnndieknaa", sum := "149a96d9468fe538c99e8006a2de1cf000ddbb5c0a234447a2d55903ebd89488", func := "loop.example/g01135/laws.FnExactSameWins", spec := "fnExactSameWins", apart := false, narrowed := true }
def FnExactSameWinsUptoSaid : Prop := fnExactSameWinsUptoRow.holds Try.pinned (OpenSpec.upto fnExactSameWinsSpec)

/-- 'laws.FnExactIsProper', WHERE WHAT IT READS IS OF BULK AT MOST 1048576: true; the input reads as it did. -/
def fnExactIsProperUptoRow : OpenClaim := { program := "ytocmmbnndieknaa", sum := "149a96d9468fe538c99e8006a2de1cf000ddbb5c0a234447a2d55903ebd89488", func := "loop.example/g01135/laws.FnExactIsProper", spec := "fnExactIsProper", apart := false, narrowed := true }
def FnExactIsProperUptoSaid : Prop := fnExactIsProperUptoRow.holds Try.pinned (OpenSpec.upto fnExactIsProperSpec)

/-- 'laws.FnExactSplitVoter', WHERE WHAT IT READS IS OF BULK AT MOST 1048576: true; the input reads as it did. -/
def fnExactSplitVoterUptoRow : OpenClaim := { program := "ytocmmbnndieknaa", sum := "149a96d9468fe538c99e8006a2de1cf000ddbb5c0a234447a2d55903ebd89488", func := "loop.example/g01135/laws.FnExactSplitVoter", spec := "fnExactSplitVoter", apart := false, narrowed := true }
def FnExactSplitVoterUptoSaid : Prop := fnExactSplitVoterUptoRow.holds Try.pinned (OpenSpec.upto fnExactSplitVoterSpec)

end Rows
end Go.Proofs.Ytocmmbnndieknaa
