/-
  DERIVED. GIVEN WITH THE SEED: THE CARDS: each row of YtopmcoohdhlnaaaDoorRows.lean that lists a variable, with what it lists TIED to the program's text (the seventh form; the later family's looks); each row that meets fmt, with fmt's text TOLD by the authors' own Lean function (tested against real Go, not proved from fmt's source: count such statements apart). THE CARD IS WHAT COUNTS. Prove the row's statement (the work); the ties are given (YtopmcoohdhlnaaaDoorTie.lean); close each card by the builder's one call (the guide's Derived/Test/ToyasCard.lean, 'card_holds'). Laid BY PROGRAM, IN A SANDBOX (cutbox-door.mjs). By AI agents, Wed Nov 11 2026. No macro, syntax, notation, axiom, sorry.
-/
import Derived.Test.YtopmcoohdhlnaaaDoorRows
import GoSem.ClaimSeven
namespace Go.Proofs.YtopmcoohdhlnaaaDoor
namespace Rows

/-- THE TIED CARD OF 'pritchellaw09.MarkRestores'. -/
def markRestoresCard : Claim7 := { stood := { row := markRestoresRow, standIns := [], harness := (true, "1a95931eb35ca78573b4c08ebdc572120d531396d5f31508a20bc429f5e1f954"), looks := false }, kinds := [], alts := [], laidByText := true, laidKinds := [.data, .pinned], laidTests := true, laidLooks := .later }
def MarkRestoresCardSaid : Prop := Claim7.holds Tryd.pinned (.plain (OpenSpec.ofChange markRestoresSpec)) markRestoresCard

/-- THE TIED CARD OF 'pritchellaw09.MarkCommon'. -/
def markCommonCard : Claim7 := { stood := { row := markCommonRow, standIns := [], harness := (true, "1a95931eb35ca78573b4c08ebdc572120d531396d5f31508a20bc429f5e1f954"), looks := false }, kinds := [], alts := [], laidByText := true, laidKinds := [.data, .pinned], laidTests := true, laidLooks := .later }
def MarkCommonCardSaid : Prop := Claim7.holds Tryd.pinned (.plain (OpenSpec.ofChange markCommonSpec)) markCommonCard

/-- THE TIED CARD OF 'pritchellaw09.MarkLevenshtein'. -/
def markLevenshteinCard : Claim7 := { stood := { row := markLevenshteinRow, standIns := [], harness := (true, "1a95931eb35ca78573b4c08ebdc572120d531396d5f31508a20bc429f5e1f954"), looks := false }, kinds := [], alts := [], laidByText := true, laidKinds := [.data, .pinned], laidTests := true, laidLooks := .later }
def MarkLevenshteinCardSaid : Prop := Claim7.holds Tryd.pinned (.plain (OpenSpec.ofChange markLevenshteinSpec)) markLevenshteinCard

/-- THE TIED CARD OF 'pritchellaw09.MarkMirrored'. -/
def markMirroredCard : Claim7 := { stood := { row := markMirroredRow, standIns := [], harness := (true, "1a95931eb35ca78573b4c08ebdc572120d531396d5f31508a20bc429f5e1f954"), looks := false }, kinds := [], alts := [], laidByText := true, laidKinds := [.data, .pinned], laidTests := true, laidLooks := .later }
def MarkMirroredCardSaid : Prop := Claim7.holds Tryd.pinned (.plain (OpenSpec.ofChange markMirroredSpec)) markMirroredCard

/-- THE TIED CARD OF 'pritchellaw09.MarkCommons'. -/
def markCommonsCard : Claim7 := { stood := { row := markCommonsRow, standIns := [], harness := (true, "1a95931eb35ca78573b4c08ebdc572120d531396d5f31508a20bc429f5e1f954"), looks := false }, kinds := [], alts := [], laidByText := true, laidKinds := [.data, .pinned], laidTests := true, laidLooks := .later }
def MarkCommonsCardSaid : Prop := Claim7.holds Tryd.pinned (.plain (OpenSpec.ofChange markCommonsSpec)) markCommonsCard

/-- THE TIED CARD OF 'pritchellaw09.MarkBetween'. -/
def markBetweenCard : Claim7 := { stood := { row := markBetweenRow, standIns := [], harness := (true, "1a95931eb35ca78573b4c08ebdc572120d531396d5f31508a20bc429f5e1f954"), looks := false }, kinds := [], alts := [], laidByText := true, laidKinds := [.data, .pinned], laidTests := true, laidLooks := .later }
def MarkBetweenCardSaid : Prop := Claim7.holds Tryd.pinned (.plain (OpenSpec.ofChange markBetweenSpec)) markBetweenCard

/-- THE TIED CARD OF 'pritchellaw09.MarkRuns'. -/
def markRunsCard : Claim7 := { stood := { row := markRunsRow, standIns := [], harness := (true, "1a95931eb35ca78573b4c08ebdc572120d531396d5f31508a20bc429f5e1f954"), looks := false }, kinds := [], alts := [], laidByText := true, laidKinds := [.data, .pinned], laidTests := true, laidLooks := .later }
def MarkRunsCardSaid : Prop := Claim7.holds Tryd.pinned (.plain (OpenSpec.ofChange markRunsSpec)) markRunsCard

/-- THE TIED CARD OF 'pritchellaw09.MarkDigits'. -/
def markDigitsCard : Claim7 := { stood := { row := markDigitsRow, standIns := [], harness := (true, "1a95931eb35ca78573b4c08ebdc572120d531396d5f31508a20bc429f5e1f954"), looks := false }, kinds := [], alts := [], laidByText := true, laidKinds := [.data, .pinned], laidTests := true, laidLooks := .later }
def MarkDigitsCardSaid : Prop := Claim7.holds Tryd.pinned (.plain (OpenSpec.ofChange markDigitsSpec)) markDigitsCard

/-- THE TIED CARD OF 'pritchellaw09.MarkSums'. -/
def markSumsCard : Claim7 := { stood := { row := markSumsRow, standIns := [], harness := (true, "1a95931eb35ca78573b4c08ebdc572120d531396d5f31508a20bc429f5e1f954"), looks := false }, kinds := [], alts := [], laidByText := true, laidKinds := [.data, .pinned], laidTests := true, laidLooks := .later }
def MarkSumsCardSaid : Prop := Claim7.holds Tryd.pinned (.plain (OpenSpec.ofChange markSumsSpec)) markSumsCard

/-- THE TIED CARD OF 'pritchellaw09.MarkApart'. -/
def markApartCard : Claim7 := { stood := { row := markApartRow, standIns := [], harness := (true, "1a95931eb35ca78573b4c08ebdc572120d531396d5f31508a20bc429f5e1f954"), looks := false }, kinds := [], alts := [], laidByText := true, laidKinds := [.data, .pinned], laidTests := true, laidLooks := .later }
def MarkApartCardSaid : Prop := Claim7.holds Tryd.pinned (.plain (OpenSpec.ofChange markApartSpec)) markApartCard

/-- THE SECOND FORM's CARD OF 'pritchellaw09.MarkRestores'. -/
def markRestoresUptoCard : Claim7 := { stood := { row := markRestoresUptoRow, standIns := [], harness := (true, "1a95931eb35ca78573b4c08ebdc572120d531396d5f31508a20bc429f5e1f954"), looks := false }, kinds := [], alts := [], laidByText := true, laidKinds := [.data, .pinned], laidTests := true, laidLooks := .later }
def MarkRestoresUptoCardSaid : Prop := Claim7.holds Tryd.pinned (.plain (OpenSpec.upto markRestoresSpec)) markRestoresUptoCard

/-- THE SECOND FORM's CARD OF 'pritchellaw09.MarkCommon'. -/
def markCommonUptoCard : Claim7 := { stood := { row := markCommonUptoRow, standIns := [], harness := (true, "1a95931eb35ca78573b4c08ebdc572120d531396d5f31508a20bc429f5e1f954"), looks := false }, kinds := [], alts := [], laidByText := true, laidKinds := [.data, .pinned], laidTests := true, laidLooks := .later }
def MarkCommonUptoCardSaid : Prop := Claim7.holds Tryd.pinned (.plain (OpenSpec.upto markCommonSpec)) markCommonUptoCard

/-- THE SECOND FORM's CARD OF 'pritchellaw09.MarkLevenshtein'. -/
def markLevenshteinUptoCard : Claim7 := { stood := { row := markLevenshteinUptoRow, standIns := [], harness := (true, "1a95931eb35ca78573b4c08ebdc572120d531396d5f31508a20bc429f5e1f954"), looks := false }, kinds := [], alts := [], laidByText := true, laidKinds := [.data, .pinned], laidTests := true, laidLooks := .later }
def MarkLevenshteinUptoCardSaid : Prop := Claim7.holds Tryd.pinned (.plain (OpenSpec.upto markLevenshteinSpec)) markLevenshteinUptoCard

/-- THE SECOND FORM's CARD OF 'pritchellaw09.MarkMirrored'. -/
def markMirroredUptoCard : Claim7 := { stood := { row := markMirroredUptoRow, standIns := [], harness := (true, "1a95931eb35ca78573b4c08ebdc572120d531396d5f31508a20bc429f5e1f954"), looks := false }, kinds := [], alts := [], laidByText := true, laidKinds := [.data, .pinned], laidTests := true, laidLooks := .later }
def MarkMirroredUptoCardSaid : Prop := Claim7.holds Tryd.pinned (.plain (OpenSpec.upto markMirroredSpec)) markMirroredUptoCard

/-- THE SECOND FORM's CARD OF 'pritchellaw09.MarkCommons'. -/
def markCommonsUptoCard : Claim7 := { stood := { row := markCommonsUptoRow, standIns := [], harness := (true, "1a95931eb35ca78573b4c08ebdc572120d531396d5f31508a20bc429f5e1f954"), looks := false }, kinds := [], alts := [], laidByText := true, laidKinds := [.data, .pinned], laidTests := true, laidLooks := .later }
def MarkCommonsUptoCardSaid : Prop := Claim7.holds Tryd.pinned (.plain (OpenSpec.upto markCommonsSpec)) markCommonsUptoCard

/-- THE SECOND FORM's CARD OF 'pritchellaw09.MarkBetween'. -/
def markBetweenUptoCard : Claim7 := { stood := { row := markBetweenUptoRow, standIns := [], harness := (true, "1a95931eb35ca78573b4c08ebdc572120d531396d5f31508a20bc429f5e1f954"), looks := false }, kinds := [], alts := [], laidByText := true, laidKinds := [.data, .pinned], laidTests := true, laidLooks := .later }
def MarkBetweenUptoCardSaid : Prop := Claim7.holds Tryd.pinned (.plain (OpenSpec.upto markBetweenSpec)) markBetweenUptoCard

/-- THE SECOND FORM's CARD OF 'pritchellaw09.MarkRuns'. -/
def markRunsUptoCard : Claim7 := { stood := { row := markRunsUptoRow, standIns := [], harness := (true, "1a95931eb35ca78573b4c08ebdc572120d531396d5f31508a20bc429f5e1f954"), looks := false }, kinds := [], alts := [], laidByText := true, laidKinds := [.data, .pinned], laidTests := true, laidLooks := .later }
def MarkRunsUptoCardSaid : Prop := Claim7.holds Tryd.pinned (.plain (OpenSpec.upto markRunsSpec)) markRunsUptoCard

/-- THE SECOND FORM's CARD OF 'pritchellaw09.MarkDigits'. -/
def markDigitsUptoCard : Claim7 := { stood := { row := markDigitsUptoRow, standIns := [], harness := (true, "1a95931eb35ca78573b4c08ebdc572120d531396d5f31508a20bc429f5e1f954"), looks := false }, kinds := [], alts := [], laidByText := true, laidKinds := [.data, .pinned], laidTests := true, laidLooks := .later }
def MarkDigitsUptoCardSaid : Prop := Claim7.holds Tryd.pinned (.plain (OpenSpec.upto markDigitsSpec)) markDigitsUptoCard

/-- THE SECOND FORM's CARD OF 'pritchellaw09.MarkSums'. -/
def markSumsUptoCard : Claim7 := { stood := { row := markSumsUptoRow, standIns := [], harness := (true, "1a95931eb35ca78573b4c08ebdc572120d531396d5f31508a20bc429f5e1f954"), looks := false }, kinds := [], alts := [], laidByText := true, laidKinds := [.data, .pinned], laidTests := true, laidLooks := .later }
def MarkSumsUptoCardSaid : Prop := Claim7.holds Tryd.pinned (.plain (OpenSpec.upto markSumsSpec)) markSumsUptoCard

/-- THE SECOND FORM's CARD OF 'pritchellaw09.MarkApart'. -/
def markApartUptoCard : Claim7 := { stood := { row := markApartUptoRow, standIns := [], harness := (true, "1a95931eb35ca78573b4c08ebdc572120d531396d5f31508a20bc429f5e1f954"), looks := false }, kinds := [], alts := [], laidByText := true, laidKinds := [.data, .pinned], laidTests := true, laidLooks := .later }
def MarkApartUptoCardSaid : Prop := Claim7.holds Tryd.pinned (.plain (OpenSpec.upto markApartSpec)) markApartUptoCard
end Rows
end Go.Proofs.YtopmcoohdhlnaaaDoor
