/-
  DERIVED. GIVEN WITH THE SEED: THE CARDS: each row of YtfmmmfddpfddoaaDoorRows.lean that lists a variable, with what it lists TIED to the program's text (the seventh form; the later family's looks); each row that meets fmt, with fmt's text TOLD by the authors' own Lean function (tested against real Go, not proved from fmt's source: count such statements apart). THE CARD IS WHAT COUNTS. Prove the row's statement (the work); the ties are given (YtfmmmfddpfddoaaDoorTie.lean); close each card by the builder's one call (the guide's Derived/Test/ToyasCard.lean, 'card_holds'). Laid BY PROGRAM, IN A SANDBOX (cutbox-door.mjs). By AI agents, Wed Nov 11 2026. No macro, syntax, notation, axiom, sorry.
-/
import Derived.Test.YtfmmmfddpfddoaaDoorRows
import GoSem.ClaimSeven
namespace Go.Proofs.YtfmmmfddpfddoaaDoor
namespace Rows

/-- THE TIED CARD OF 'laws.FnExactUnary'. -/
def fnExactUnaryCard : Claim7 := { stood := { row := fnExactUnaryRow, standIns := [], harness := (true, "5f7df8e13bffcc68e33d86ac6e6728fd21895f96a082ab89b450cea7a396811a"), looks := false }, kinds := [], alts := [], laidByText := true, laidKinds := [.data], laidTests := true, laidLooks := .later }
def FnExactUnaryCardSaid : Prop := Claim7.holds Tryd.pinned (.plain (OpenSpec.ofChange fnExactUnarySpec)) fnExactUnaryCard

/-- THE TIED CARD OF 'laws.FnExactCountPoints'. -/
def fnExactCountPointsCard : Claim7 := { stood := { row := fnExactCountPointsRow, standIns := [], harness := (true, "5f7df8e13bffcc68e33d86ac6e6728fd21895f96a082ab89b450cea7a396811a"), looks := false }, kinds := [], alts := [], laidByText := true, laidKinds := [.data, .pinned], laidTests := true, laidLooks := .later }
def FnExactCountPointsCardSaid : Prop := Claim7.holds Tryd.pinned (.plain (OpenSpec.ofChange fnExactCountPointsSpec)) fnExactCountPointsCard

/-- THE SECOND FORM's CARD OF 'laws.FnExactUnary'. -/
def fnExactUnaryUptoCard : Claim7 := { stood := { row := fnExactUnaryUptoRow, standIns := [], harness := (true, "5f7df8e13bffcc68e33d86ac6e6728fd21895f96a082ab89b450cea7a396811a"), looks := false }, kinds := [], alts := [], laidByText := true, laidKinds := [.data], laidTests := true, laidLooks := .later }
def FnExactUnaryUptoCardSaid : Prop := Claim7.holds Tryd.pinned (.plain (OpenSpec.upto fnExactUnarySpec)) fnExactUnaryUptoCard

/-- THE SECOND FORM's CARD OF 'laws.FnExactCountPoints'. -/
def fnExactCountPointsUptoCard : Claim7 := { stood := { row := fnExactCountPointsUptoRow, standIns := [], harness := (true, "5f7df8e13bffcc68e33d86ac6e6728fd21895f96a082ab89b450cea7a396811a"), looks := false }, kinds := [], alts := [], laidByText := true, laidKinds := [.data, .pinned], laidTests := true, laidLooks := .later }
def FnExactCountPointsUptoCardSaid : Prop := Claim7.holds Tryd.pinned (.plain (OpenSpec.upto fnExactCountPointsSpec)) fnExactCountPointsUptoCard
end Rows
end Go.Proofs.YtfmmmfddpfddoaaDoor
