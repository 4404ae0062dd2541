/-
  DERIVED. GIVEN WITH THE SEED: THE CARDS: each row of YtopmcoohdhlnaaaGreatDoorRows.lean that lists a variable, with what it lists TIED to the program's text (the seventh form; the later family's looks); each row that meets fmt, with fmt's text TOLD by the authors' own Lean function (tested against real Go, not proved from fmt's source: count such statements apart). THE CARD IS WHAT COUNTS. Prove the row's statement (the work); the ties are given (YtopmcoohdhlnaaaGreatDoorTie.lean); close each card by the builder's one call (the guide's Derived/Test/ToyasCard.lean, 'card_holds'). Laid BY PROGRAM, IN A SANDBOX (cutbox-door.mjs). By AI agents, Wed Nov 11 2026. No macro, syntax, notation, axiom, sorry.
-/
import Derived.Test.YtopmcoohdhlnaaaGreatDoorRows
import GoSem.ClaimSeven
namespace Go.Proofs.YtopmcoohdhlnaaaGreatDoor
namespace Rows

/-- THE TIED CARD OF 'pritchellaw09.MarkSizes'. -/
def markSizesCard : Claim7 := { stood := { row := markSizesRow, standIns := [], harness := (true, "17ba259907dfbf1562d5b23274a1dc5ede0ffb2d0f6d27c4ba4e765da8cb7d04"), looks := false }, kinds := [], alts := [], laidByText := true, laidKinds := [.data, .pinned], laidTests := true, laidLooks := .later }
def MarkSizesCardSaid : Prop := Claim7.holds Tryz.pinned (.plain (OpenSpec.ofChange markSizesSpec)) markSizesCard

/-- THE TIED CARD OF 'pritchellaw09.MarkAll'. -/
def markAllCard : Claim7 := { stood := { row := markAllRow, standIns := [], harness := (true, "17ba259907dfbf1562d5b23274a1dc5ede0ffb2d0f6d27c4ba4e765da8cb7d04"), looks := false }, kinds := [], alts := [], laidByText := true, laidKinds := [.data, .pinned], laidTests := true, laidLooks := .later }
def MarkAllCardSaid : Prop := Claim7.holds Tryz.pinned (.plain (OpenSpec.ofChange markAllSpec)) markAllCard

/-- THE SECOND FORM's CARD OF 'pritchellaw09.MarkSizes'. -/
def markSizesUptoCard : Claim7 := { stood := { row := markSizesUptoRow, standIns := [], harness := (true, "17ba259907dfbf1562d5b23274a1dc5ede0ffb2d0f6d27c4ba4e765da8cb7d04"), looks := false }, kinds := [], alts := [], laidByText := true, laidKinds := [.data, .pinned], laidTests := true, laidLooks := .later }
def MarkSizesUptoCardSaid : Prop := Claim7.holds Tryz.pinned (.plain (OpenSpec.upto markSizesSpec)) markSizesUptoCard

/-- THE SECOND FORM's CARD OF 'pritchellaw09.MarkAll'. -/
def markAllUptoCard : Claim7 := { stood := { row := markAllUptoRow, standIns := [], harness := (true, "17ba259907dfbf1562d5b23274a1dc5ede0ffb2d0f6d27c4ba4e765da8cb7d04"), looks := false }, kinds := [], alts := [], laidByText := true, laidKinds := [.data, .pinned], laidTests := true, laidLooks := .later }
def MarkAllUptoCardSaid : Prop := Claim7.holds Tryz.pinned (.plain (OpenSpec.upto markAllSpec)) markAllUptoCard
end Rows
end Go.Proofs.YtopmcoohdhlnaaaGreatDoor
