/-
  DERIVED. GIVEN WITH THE SEED: THE CARDS: each row of YtlbleemoiabmdaaDoorRows.lean that lists a variable, with what it lists TIED to the program's text (the seventh form; the later family's looks); each row that meets fmt, with fmt's text TOLD by the authors' own Lean function (tested against real Go, not proved from fmt's source: count such statements apart). THE CARD IS WHAT COUNTS. Prove the row's statement (the work); the ties are given (YtlbleemoiabmdaaDoorTie.lean); close each card by the builder's one call (the guide's Derived/Test/ToyasCard.lean, 'card_holds'). Laid BY PROGRAM, IN A SANDBOX (cutbox-door.mjs). By AI agents, Wed Nov 11 2026. No macro, syntax, notation, axiom, sorry.
-/
import Derived.Test.YtlbleemoiabmdaaDoorRows
import GoSem.ClaimSeven
namespace Go.Proofs.YtlbleemoiabmdaaDoor
namespace Rows

/-- THE TIED CARD OF 'laws.FnExactCountWins'. -/
def fnExactCountWinsCard : Claim7 := { stood := { row := fnExactCountWinsRow, standIns := [], harness := (true, "5e430ac102e504b12e8dcd697560d89733da7cb221e568357df548dd39f89259"), looks := false }, kinds := [], alts := [], laidByText := true, laidKinds := [.data, .data], laidTests := true, laidLooks := .later }
def FnExactCountWinsCardSaid : Prop := Claim7.holds Tryd.pinned (.plain (OpenSpec.ofChange fnExactCountWinsSpec)) fnExactCountWinsCard

/-- THE TIED CARD OF 'laws.FnExactGreatestLosses'. -/
def fnExactGreatestLossesCard : Claim7 := { stood := { row := fnExactGreatestLossesRow, standIns := [], harness := (true, "5e430ac102e504b12e8dcd697560d89733da7cb221e568357df548dd39f89259"), looks := false }, kinds := [], alts := [], laidByText := true, laidKinds := [.data, .data], laidTests := true, laidLooks := .later }
def FnExactGreatestLossesCardSaid : Prop := Claim7.holds Tryd.pinned (.plain (OpenSpec.ofChange fnExactGreatestLossesSpec)) fnExactGreatestLossesCard

/-- THE TIED CARD OF 'laws.FnExactLeastWins'. -/
def fnExactLeastWinsCard : Claim7 := { stood := { row := fnExactLeastWinsRow, standIns := [], harness := (true, "5e430ac102e504b12e8dcd697560d89733da7cb221e568357df548dd39f89259"), looks := false }, kinds := [], alts := [], laidByText := true, laidKinds := [.data, .data], laidTests := true, laidLooks := .later }
def FnExactLeastWinsCardSaid : Prop := Claim7.holds Tryd.pinned (.plain (OpenSpec.ofChange fnExactLeastWinsSpec)) fnExactLeastWinsCard

/-- THE SECOND FORM's CARD OF 'laws.FnExactCountWins'. -/
def fnExactCountWinsUptoCard : Claim7 := { stood := { row := fnExactCountWinsUptoRow, standIns := [], harness := (true, "5e430ac102e504b12e8dcd697560d89733da7cb221e568357df548dd39f89259"), looks := false }, kinds := [], alts := [], laidByText := true, laidKinds := [.data, .data], laidTests := true, laidLooks := .later }
def FnExactCountWinsUptoCardSaid : Prop := Claim7.holds Tryd.pinned (.plain (OpenSpec.upto fnExactCountWinsSpec)) fnExactCountWinsUptoCard

/-- THE SECOND FORM's CARD OF 'laws.FnExactGreatestLosses'. -/
def fnExactGreatestLossesUptoCard : Claim7 := { stood := { row := fnExactGreatestLossesUptoRow, standIns := [], harness := (true, "5e430ac102e504b12e8dcd697560d89733da7cb221e568357df548dd39f89259"), looks := false }, kinds := [], alts := [], laidByText := true, laidKinds := [.data, .data], laidTests := true, laidLooks := .later }
def FnExactGreatestLossesUptoCardSaid : Prop := Claim7.holds Tryd.pinned (.plain (OpenSpec.upto fnExactGreatestLossesSpec)) fnExactGreatestLossesUptoCard

/-- THE SECOND FORM's CARD OF 'laws.FnExactLeastWins'. -/
def fnExactLeastWinsUptoCard : Claim7 := { stood := { row := fnExactLeastWinsUptoRow, standIns := [], harness := (true, "5e430ac102e504b12e8dcd697560d89733da7cb221e568357df548dd39f89259"), looks := false }, kinds := [], alts := [], laidByText := true, laidKinds := [.data, .data], laidTests := true, laidLooks := .later }
def FnExactLeastWinsUptoCardSaid : Prop := Claim7.holds Tryd.pinned (.plain (OpenSpec.upto fnExactLeastWinsSpec)) fnExactLeastWinsUptoCard
end Rows
end Go.Proofs.YtlbleemoiabmdaaDoor
