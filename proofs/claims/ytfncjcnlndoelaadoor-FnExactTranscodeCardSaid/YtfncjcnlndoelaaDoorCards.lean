/-
  DERIVED. GIVEN WITH THE SEED: THE CARDS: each row of YtfncjcnlndoelaaDoorRows.lean that lists a variable, with what it lists TIED to the program's text (the seventh form; the later family's looks); each row that meets fmt, with fmt's text TOLD by the authors' own Lean function (tested against real Go, not proved from fmt's source: count such statements apart). THE CARD IS WHAT COUNTS. Prove the row's statement (the work); the ties are given (YtfncjcnlndoelaaDoorTie.lean); close each card by the builder's one call (the guide's Derived/Test/ToyasCard.lean, 'card_holds'). Laid BY PROGRAM, IN A SANDBOX (cutbox-door.mjs). By AI agents, Wed Nov 11 2026. No macro, syntax, notation, axiom, sorry.
-/
import Derived.Test.YtfncjcnlndoelaaDoorRows
import GoSem.ClaimSeven
namespace Go.Proofs.YtfncjcnlndoelaaDoor
namespace Rows

/-- THE TIED CARD OF 'laws.FnExactDecodePoints'. -/
def fnExactDecodePointsCard : Claim7 := { stood := { row := fnExactDecodePointsRow, standIns := [], harness := (true, "a72a584a156b8e30c7a60ef3a0cb41a7f775f87dcf3f082a8aebeaeb5bdd450c"), looks := false }, kinds := [], alts := [], laidByText := true, laidKinds := [.data, .pinned], laidTests := true, laidLooks := .later }
def FnExactDecodePointsCardSaid : Prop := Claim7.holds Tryd.pinned (.plain (OpenSpec.ofChange fnExactDecodePointsSpec)) fnExactDecodePointsCard

/-- THE TIED CARD OF 'laws.FnExactCompactPoints'. -/
def fnExactCompactPointsCard : Claim7 := { stood := { row := fnExactCompactPointsRow, standIns := [], harness := (true, "a72a584a156b8e30c7a60ef3a0cb41a7f775f87dcf3f082a8aebeaeb5bdd450c"), looks := false }, kinds := [], alts := [], laidByText := true, laidKinds := [.data, .pinned], laidTests := true, laidLooks := .later }
def FnExactCompactPointsCardSaid : Prop := Claim7.holds Tryd.pinned (.plain (OpenSpec.ofChange fnExactCompactPointsSpec)) fnExactCompactPointsCard

/-- THE TIED CARD OF 'laws.FnExactTranscode'. -/
def fnExactTranscodeCard : Claim7 := { stood := { row := fnExactTranscodeRow, standIns := [], harness := (true, "a72a584a156b8e30c7a60ef3a0cb41a7f775f87dcf3f082a8aebeaeb5bdd450c"), looks := false }, kinds := [], alts := [], laidByText := true, laidKinds := [.data, .pinned], laidTests := true, laidLooks := .later }
def FnExactTranscodeCardSaid : Prop := Claim7.holds Tryd.pinned (.plain (OpenSpec.ofChange fnExactTranscodeSpec)) fnExactTranscodeCard

/-- THE TIED CARD OF 'laws.FnPoints'. -/
def fnPointsCard : Claim7 := { stood := { row := fnPointsRow, standIns := [], harness := (true, "a72a584a156b8e30c7a60ef3a0cb41a7f775f87dcf3f082a8aebeaeb5bdd450c"), looks := false }, kinds := [], alts := [], laidByText := true, laidKinds := [.data, .pinned], laidTests := true, laidLooks := .later }
def FnPointsCardSaid : Prop := Claim7.holds Tryd.pinned (.plain (OpenSpec.ofChange fnPointsSpec)) fnPointsCard

/-- THE TIED CARD OF 'laws.FnTranscoded'. -/
def fnTranscodedCard : Claim7 := { stood := { row := fnTranscodedRow, standIns := [], harness := (true, "a72a584a156b8e30c7a60ef3a0cb41a7f775f87dcf3f082a8aebeaeb5bdd450c"), looks := false }, kinds := [], alts := [], laidByText := true, laidKinds := [.data, .pinned], laidTests := true, laidLooks := .later }
def FnTranscodedCardSaid : Prop := Claim7.holds Tryd.pinned (.plain (OpenSpec.ofChange fnTranscodedSpec)) fnTranscodedCard

/-- THE SECOND FORM's CARD OF 'laws.FnExactDecodePoints'. -/
def fnExactDecodePointsUptoCard : Claim7 := { stood := { row := fnExactDecodePointsUptoRow, standIns := [], harness := (true, "a72a584a156b8e30c7a60ef3a0cb41a7f775f87dcf3f082a8aebeaeb5bdd450c"), looks := false }, kinds := [], alts := [], laidByText := true, laidKinds := [.data, .pinned], laidTests := true, laidLooks := .later }
def FnExactDecodePointsUptoCardSaid : Prop := Claim7.holds Tryd.pinned (.plain (OpenSpec.upto fnExactDecodePointsSpec)) fnExactDecodePointsUptoCard

/-- THE SECOND FORM's CARD OF 'laws.FnExactCompactPoints'. -/
def fnExactCompactPointsUptoCard : Claim7 := { stood := { row := fnExactCompactPointsUptoRow, standIns := [], harness := (true, "a72a584a156b8e30c7a60ef3a0cb41a7f775f87dcf3f082a8aebeaeb5bdd450c"), looks := false }, kinds := [], alts := [], laidByText := true, laidKinds := [.data, .pinned], laidTests := true, laidLooks := .later }
def FnExactCompactPointsUptoCardSaid : Prop := Claim7.holds Tryd.pinned (.plain (OpenSpec.upto fnExactCompactPointsSpec)) fnExactCompactPointsUptoCard

/-- THE SECOND FORM's CARD OF 'laws.FnExactTranscode'. -/
def fnExactTranscodeUptoCard : Claim7 := { stood := { row := fnExactTranscodeUptoRow, standIns := [], harness := (true, "a72a584a156b8e30c7a60ef3a0cb41a7f775f87dcf3f082a8aebeaeb5bdd450c"), looks := false }, kinds := [], alts := [], laidByText := true, laidKinds := [.data, .pinned], laidTests := true, laidLooks := .later }
def FnExactTranscodeUptoCardSaid : Prop := Claim7.holds Tryd.pinned (.plain (OpenSpec.upto fnExactTranscodeSpec)) fnExactTranscodeUptoCard

/-- THE SECOND FORM's CARD OF 'laws.FnPoints'. -/
def fnPointsUptoCard : Claim7 := { stood := { row := fnPointsUptoRow, standIns := [], harness := (true, "a72a584a156b8e30c7a60ef3a0cb41a7f775f87dcf3f082a8aebeaeb5bdd450c"), looks := false }, kinds := [], alts := [], laidByText := true, laidKinds := [.data, .pinned], laidTests := true, laidLooks := .later }
def FnPointsUptoCardSaid : Prop := Claim7.holds Tryd.pinned (.plain (OpenSpec.upto fnPointsSpec)) fnPointsUptoCard

/-- THE SECOND FORM's CARD OF 'laws.FnTranscoded'. -/
def fnTranscodedUptoCard : Claim7 := { stood := { row := fnTranscodedUptoRow, standIns := [], harness := (true, "a72a584a156b8e30c7a60ef3a0cb41a7f775f87dcf3f082a8aebeaeb5bdd450c"), looks := false }, kinds := [], alts := [], laidByText := true, laidKinds := [.data, .pinned], laidTests := true, laidLooks := .later }
def FnTranscodedUptoCardSaid : Prop := Claim7.holds Tryd.pinned (.plain (OpenSpec.upto fnTranscodedSpec)) fnTranscodedUptoCard
end Rows
end Go.Proofs.YtfncjcnlndoelaaDoor
