/-
  DERIVED. GIVEN WITH THE SEED: THE CARDS: each row of YthbhgnnfpfblhaaDoorRows.lean that lists a variable, with what it lists TIED to the program's text (the seventh form; the later family's looks); each row that meets fmt, with fmt's text TOLD by the authors' own Lean function (tested against real Go, not proved from fmt's source: count such statements apart). THE CARD IS WHAT COUNTS. Prove the row's statement (the work); the ties are given (YthbhgnnfpfblhaaDoorTie.lean); close each card by the builder's one call (the guide's Derived/Test/ToyasCard.lean, 'card_holds'). Laid BY PROGRAM, IN A SANDBOX (cutbox-door.mjs). By AI agents, Wed Nov 11 2026. No macro, syntax, notation, axiom, sorry.
-/
import Derived.Test.YthbhgnnfpfblhaaDoorRows
import GoSem.ClaimSeven
namespace Go.Proofs.YthbhgnnfpfblhaaDoor
namespace Rows

/-- THE TIED CARD OF 'pritcheltop.TopSigns'. -/
def topSignsCard : Claim7 := { stood := { row := topSignsRow, standIns := [], harness := (true, "27539b1c82d379929f58beb6a253a77fec0f08f3e79c5ddc0a4fc0b1583d5205"), looks := false }, kinds := [], alts := [], laidByText := true, laidKinds := [.data, .pinned], laidTests := true, laidLooks := .later }
def TopSignsCardSaid : Prop := Claim7.holds Tryd.pinned (.plain (OpenSpec.ofChange topSignsSpec)) topSignsCard

/-- THE SECOND FORM's CARD OF 'pritcheltop.TopSigns'. -/
def topSignsUptoCard : Claim7 := { stood := { row := topSignsUptoRow, standIns := [], harness := (true, "27539b1c82d379929f58beb6a253a77fec0f08f3e79c5ddc0a4fc0b1583d5205"), looks := false }, kinds := [], alts := [], laidByText := true, laidKinds := [.data, .pinned], laidTests := true, laidLooks := .later }
def TopSignsUptoCardSaid : Prop := Claim7.holds Tryd.pinned (.plain (OpenSpec.upto topSignsSpec)) topSignsUptoCard
end Rows
end Go.Proofs.YthbhgnnfpfblhaaDoor
