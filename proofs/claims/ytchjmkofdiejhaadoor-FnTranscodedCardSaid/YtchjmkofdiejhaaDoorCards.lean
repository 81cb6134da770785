/-
  DERIVED. GIVEN WITH THE SEED: THE CARDS: each row of YtchjmkofdiejhaaDoorRows.lean that lists a variable, with what it lists TIED to the program's text (the seventh form; the later family's looks); each row that meets fmt, with fmt's text TOLD by the authors' own Lean function (tested against real Go, not proved from fmt's source: count such statements apart). THE CARD IS WHAT COUNTS. Prove the row's statement (the work); the ties are given (YtchjmkofdiejhaaDoorTie.lean); close each card by the builder's one call (the guide's Derived/Test/ToyasCard.lean, 'card_holds'). Laid BY PROGRAM, IN A SANDBOX (cutbox-door.mjs). By AI agents, Wed Nov 11 2026. No macro, syntax, notation, axiom, sorry.
-/
import Derived.Test.YtchjmkofdiejhaaDoorRows
import GoSem.ClaimSeven
namespace Go.Proofs.YtchjmkofdiejhaaDoor
namespace Rows

/-- THE TIED CARD OF 'laws.FnPoints'. -/
def fnPointsCard : Claim7 := { stood := { row := fnPointsRow, standIns := [], harness := (true, "bcf9d6d6c94ea6849e8935fd012ce35af18e1088070c28043a73aa83baf9c4df"), looks := false }, kinds := [], alts := [], laidByText := true, laidKinds := [.data, .pinned], laidTests := true, laidLooks := .later }
def FnPointsCardSaid : Prop := Claim7.holds Tryd.pinned (.plain (OpenSpec.ofChange fnPointsSpec)) fnPointsCard

/-- THE TIED CARD OF 'laws.FnTranscoded'. -/
def fnTranscodedCard : Claim7 := { stood := { row := fnTranscodedRow, standIns := [], harness := (true, "bcf9d6d6c94ea6849e8935fd012ce35af18e1088070c28043a73aa83baf9c4df"), looks := false }, kinds := [], alts := [], laidByText := true, laidKinds := [.data, .pinned], laidTests := true, laidLooks := .later }
def FnTranscodedCardSaid : Prop := Claim7.holds Tryd.pinned (.plain (OpenSpec.ofChange fnTranscodedSpec)) fnTranscodedCard

/-- THE SECOND FORM's CARD OF 'laws.FnPoints'. -/
def fnPointsUptoCard : Claim7 := { stood := { row := fnPointsUptoRow, standIns := [], harness := (true, "bcf9d6d6c94ea6849e8935fd012ce35af18e1088070c28043a73aa83baf9c4df"), looks := false }, kinds := [], alts := [], laidByText := true, laidKinds := [.data, .pinned], laidTests := true, laidLooks := .later }
def FnPointsUptoCardSaid : Prop := Claim7.holds Tryd.pinned (.plain (OpenSpec.upto fnPointsSpec)) fnPointsUptoCard

/-- THE SECOND FORM's CARD OF 'laws.FnTranscoded'. -/
def fnTranscodedUptoCard : Claim7 := { stood := { row := fnTranscodedUptoRow, standIns := [], harness := (true, "bcf9d6d6c94ea6849e8935fd012ce35af18e1088070c28043a73aa83baf9c4df"), looks := false }, kinds := [], alts := [], laidByText := true, laidKinds := [.data, .pinned], laidTests := true, laidLooks := .later }
def FnTranscodedUptoCardSaid : Prop := Claim7.holds Tryd.pinned (.plain (OpenSpec.upto fnTranscodedSpec)) fnTranscodedUptoCard
end Rows
end Go.Proofs.YtchjmkofdiejhaaDoor
