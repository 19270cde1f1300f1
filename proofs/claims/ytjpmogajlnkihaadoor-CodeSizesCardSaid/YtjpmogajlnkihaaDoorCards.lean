/-
  DERIVED. GIVEN WITH THE SEED: THE CARDS: each row of YtjpmogajlnkihaaDoorRows.lean that lists a variable, with what it lists TIED to the program's text (the seventh form; the later family's looks); each row that meets fmt, with fmt's text TOLD by the authors' own Lean function (tested against real Go, not proved from fmt's source: count such statements apart). THE CARD IS WHAT COUNTS. Prove the row's statement (the work); the ties are given (YtjpmogajlnkihaaDoorTie.lean); close each card by the builder's one call (the guide's Derived/Test/ToyasCard.lean, 'card_holds'). Laid BY PROGRAM, IN A SANDBOX (cutbox-door.mjs). By AI agents, Wed Nov 11 2026. No macro, syntax, notation, axiom, sorry.
-/
import Derived.Test.YtjpmogajlnkihaaDoorRows
import GoSem.ClaimSeven
namespace Go.Proofs.YtjpmogajlnkihaaDoor
namespace Rows

/-- THE TIED CARD OF 'smartcardlaw27.CodeChecks'. -/
def codeChecksCard : Claim7 := { stood := { row := codeChecksRow, standIns := [], harness := (true, "629e3751b8e91555602717be8c5b7d40ec47b9bfa0604d315af28a70bb347663"), looks := false }, kinds := [], alts := [], laidByText := true, laidKinds := [.data, .data, .data, .data, .listed, .data, .pinned], laidTests := true, laidLooks := .later }
def CodeChecksCardSaid : Prop := Claim7.holds Tryd.pinned (.plain (OpenSpec.ofChange codeChecksSpec)) codeChecksCard

/-- THE TIED CARD OF 'smartcardlaw27.CodeEncodes'. -/
def codeEncodesCard : Claim7 := { stood := { row := codeEncodesRow, standIns := [], harness := (true, "629e3751b8e91555602717be8c5b7d40ec47b9bfa0604d315af28a70bb347663"), looks := false }, kinds := [], alts := [], laidByText := true, laidKinds := [.data, .data, .data, .data, .listed, .data, .pinned], laidTests := true, laidLooks := .later }
def CodeEncodesCardSaid : Prop := Claim7.holds Tryd.pinned (.plain (OpenSpec.ofChange codeEncodesSpec)) codeEncodesCard

/-- THE TIED CARD OF 'smartcardlaw27.CodeTexts'. -/
def codeTextsCard : Claim7 := { stood := { row := codeTextsRow, standIns := [], harness := (true, "629e3751b8e91555602717be8c5b7d40ec47b9bfa0604d315af28a70bb347663"), looks := false }, kinds := [], alts := [], laidByText := true, laidKinds := [.data, .data, .data, .data, .listed, .data, .pinned], laidTests := true, laidLooks := .later }
def CodeTextsCardSaid : Prop := Claim7.holds Tryd.pinned (.plain (OpenSpec.ofChange codeTextsSpec)) codeTextsCard

/-- THE TIED CARD OF 'smartcardlaw27.CodeParses'. -/
def codeParsesCard : Claim7 := { stood := { row := codeParsesRow, standIns := [], harness := (true, "629e3751b8e91555602717be8c5b7d40ec47b9bfa0604d315af28a70bb347663"), looks := false }, kinds := [], alts := [], laidByText := true, laidKinds := [.data, .data, .data, .data, .listed, .data, .pinned], laidTests := true, laidLooks := .later }
def CodeParsesCardSaid : Prop := Claim7.holds Tryd.pinned (.plain (OpenSpec.ofChange codeParsesSpec)) codeParsesCard

/-- THE TIED CARD OF 'smartcardlaw27.CodeSizes'. -/
def codeSizesCard : Claim7 := { stood := { row := codeSizesRow, standIns := [], harness := (true, "629e3751b8e91555602717be8c5b7d40ec47b9bfa0604d315af28a70bb347663"), looks := false }, kinds := [], alts := [], laidByText := true, laidKinds := [.data, .data, .data, .data, .listed, .data, .pinned], laidTests := true, laidLooks := .later }
def CodeSizesCardSaid : Prop := Claim7.holds Tryd.pinned (.plain (OpenSpec.ofChange codeSizesSpec)) codeSizesCard

/-- THE TIED CARD OF 'smartcardlaw27.CodeNatives'. -/
def codeNativesCard : Claim7 := { stood := { row := codeNativesRow, standIns := [], harness := (true, "629e3751b8e91555602717be8c5b7d40ec47b9bfa0604d315af28a70bb347663"), looks := false }, kinds := [], alts := [], laidByText := true, laidKinds := [.data, .data, .data, .data, .listed, .data, .pinned], laidTests := true, laidLooks := .later }
def CodeNativesCardSaid : Prop := Claim7.holds Tryd.pinned (.plain (OpenSpec.ofChange codeNativesSpec)) codeNativesCard

/-- THE TIED CARD OF 'smartcardlaw27.CodeDecodes'. -/
def codeDecodesCard : Claim7 := { stood := { row := codeDecodesRow, standIns := [], harness := (true, "629e3751b8e91555602717be8c5b7d40ec47b9bfa0604d315af28a70bb347663"), looks := false }, kinds := [], alts := [], laidByText := true, laidKinds := [.data, .data, .data, .data, .listed, .data, .pinned], laidTests := true, laidLooks := .later }
def CodeDecodesCardSaid : Prop := Claim7.holds Tryd.pinned (.plain (OpenSpec.ofChange codeDecodesSpec)) codeDecodesCard

/-- THE TIED CARD OF 'smartcardlaw27.CodeRoundTrip'. -/
def codeRoundTripCard : Claim7 := { stood := { row := codeRoundTripRow, standIns := [], harness := (true, "629e3751b8e91555602717be8c5b7d40ec47b9bfa0604d315af28a70bb347663"), looks := false }, kinds := [], alts := [], laidByText := true, laidKinds := [.data, .data, .data, .data, .listed, .data, .pinned], laidTests := true, laidLooks := .later }
def CodeRoundTripCardSaid : Prop := Claim7.holds Tryd.pinned (.plain (OpenSpec.ofChange codeRoundTripSpec)) codeRoundTripCard

/-- THE TIED CARD OF 'smartcardlaw27.CodeFollows'. -/
def codeFollowsCard : Claim7 := { stood := { row := codeFollowsRow, standIns := [], harness := (true, "629e3751b8e91555602717be8c5b7d40ec47b9bfa0604d315af28a70bb347663"), looks := false }, kinds := [], alts := [], laidByText := true, laidKinds := [.data, .data, .data, .data, .listed, .data, .pinned], laidTests := true, laidLooks := .later }
def CodeFollowsCardSaid : Prop := Claim7.holds Tryd.pinned (.plain (OpenSpec.ofChange codeFollowsSpec)) codeFollowsCard

/-- THE SECOND FORM's CARD OF 'smartcardlaw27.CodeChecks'. -/
def codeChecksUptoCard : Claim7 := { stood := { row := codeChecksUptoRow, standIns := [], harness := (true, "629e3751b8e91555602717be8c5b7d40ec47b9bfa0604d315af28a70bb347663"), looks := false }, kinds := [], alts := [], laidByText := true, laidKinds := [.data, .data, .data, .data, .listed, .data, .pinned], laidTests := true, laidLooks := .later }
def CodeChecksUptoCardSaid : Prop := Claim7.holds Tryd.pinned (.plain (OpenSpec.upto codeChecksSpec)) codeChecksUptoCard

/-- THE SECOND FORM's CARD OF 'smartcardlaw27.CodeEncodes'. -/
def codeEncodesUptoCard : Claim7 := { stood := { row := codeEncodesUptoRow, standIns := [], harness := (true, "629e3751b8e91555602717be8c5b7d40ec47b9bfa0604d315af28a70bb347663"), looks := false }, kinds := [], alts := [], laidByText := true, laidKinds := [.data, .data, .data, .data, .listed, .data, .pinned], laidTests := true, laidLooks := .later }
def CodeEncodesUptoCardSaid : Prop := Claim7.holds Tryd.pinned (.plain (OpenSpec.upto codeEncodesSpec)) codeEncodesUptoCard

/-- THE SECOND FORM's CARD OF 'smartcardlaw27.CodeTexts'. -/
def codeTextsUptoCard : Claim7 := { stood := { row := codeTextsUptoRow, standIns := [], harness := (true, "629e3751b8e91555602717be8c5b7d40ec47b9bfa0604d315af28a70bb347663"), looks := false }, kinds := [], alts := [], laidByText := true, laidKinds := [.data, .data, .data, .data, .listed, .data, .pinned], laidTests := true, laidLooks := .later }
def CodeTextsUptoCardSaid : Prop := Claim7.holds Tryd.pinned (.plain (OpenSpec.upto codeTextsSpec)) codeTextsUptoCard

/-- THE SECOND FORM's CARD OF 'smartcardlaw27.CodeParses'. -/
def codeParsesUptoCard : Claim7 := { stood := { row := codeParsesUptoRow, standIns := [], harness := (true, "629e3751b8e91555602717be8c5b7d40ec47b9bfa0604d315af28a70bb347663"), looks := false }, kinds := [], alts := [], laidByText := true, laidKinds := [.data, .data, .data, .data, .listed, .data, .pinned], laidTests := true, laidLooks := .later }
def CodeParsesUptoCardSaid : Prop := Claim7.holds Tryd.pinned (.plain (OpenSpec.upto codeParsesSpec)) codeParsesUptoCard

/-- THE SECOND FORM's CARD OF 'smartcardlaw27.CodeSizes'. -/
def codeSizesUptoCard : Claim7 := { stood := { row := codeSizesUptoRow, standIns := [], harness := (true, "629e3751b8e91555602717be8c5b7d40ec47b9bfa0604d315af28a70bb347663"), looks := false }, kinds := [], alts := [], laidByText := true, laidKinds := [.data, .data, .data, .data, .listed, .data, .pinned], laidTests := true, laidLooks := .later }
def CodeSizesUptoCardSaid : Prop := Claim7.holds Tryd.pinned (.plain (OpenSpec.upto codeSizesSpec)) codeSizesUptoCard

/-- THE SECOND FORM's CARD OF 'smartcardlaw27.CodeNatives'. -/
def codeNativesUptoCard : Claim7 := { stood := { row := codeNativesUptoRow, standIns := [], harness := (true, "629e3751b8e91555602717be8c5b7d40ec47b9bfa0604d315af28a70bb347663"), looks := false }, kinds := [], alts := [], laidByText := true, laidKinds := [.data, .data, .data, .data, .listed, .data, .pinned], laidTests := true, laidLooks := .later }
def CodeNativesUptoCardSaid : Prop := Claim7.holds Tryd.pinned (.plain (OpenSpec.upto codeNativesSpec)) codeNativesUptoCard

/-- THE SECOND FORM's CARD OF 'smartcardlaw27.CodeDecodes'. -/
def codeDecodesUptoCard : Claim7 := { stood := { row := codeDecodesUptoRow, standIns := [], harness := (true, "629e3751b8e91555602717be8c5b7d40ec47b9bfa0604d315af28a70bb347663"), looks := false }, kinds := [], alts := [], laidByText := true, laidKinds := [.data, .data, .data, .data, .listed, .data, .pinned], laidTests := true, laidLooks := .later }
def CodeDecodesUptoCardSaid : Prop := Claim7.holds Tryd.pinned (.plain (OpenSpec.upto codeDecodesSpec)) codeDecodesUptoCard

/-- THE SECOND FORM's CARD OF 'smartcardlaw27.CodeRoundTrip'. -/
def codeRoundTripUptoCard : Claim7 := { stood := { row := codeRoundTripUptoRow, standIns := [], harness := (true, "629e3751b8e91555602717be8c5b7d40ec47b9bfa0604d315af28a70bb347663"), looks := false }, kinds := [], alts := [], laidByText := true, laidKinds := [.data, .data, .data, .data, .listed, .data, .pinned], laidTests := true, laidLooks := .later }
def CodeRoundTripUptoCardSaid : Prop := Claim7.holds Tryd.pinned (.plain (OpenSpec.upto codeRoundTripSpec)) codeRoundTripUptoCard

/-- THE SECOND FORM's CARD OF 'smartcardlaw27.CodeFollows'. -/
def codeFollowsUptoCard : Claim7 := { stood := { row := codeFollowsUptoRow, standIns := [], harness := (true, "629e3751b8e91555602717be8c5b7d40ec47b9bfa0604d315af28a70bb347663"), looks := false }, kinds := [], alts := [], laidByText := true, laidKinds := [.data, .data, .data, .data, .listed, .data, .pinned], laidTests := true, laidLooks := .later }
def CodeFollowsUptoCardSaid : Prop := Claim7.holds Tryd.pinned (.plain (OpenSpec.upto codeFollowsSpec)) codeFollowsUptoCard
end Rows
end Go.Proofs.YtjpmogajlnkihaaDoor
