/- Small words that this session's printed texts and contracts share: a cell behind draws, the two tables of unicode/utf8 behind calls that keep old memory. -/
import Derived.Below
import Derived.Shelf.Unicode.DecodeSlow
import Derived.Test.YthbhgnnfpfblhaaDoorProg
import Derived.WalkKit
namespace Go.Proofs.YthbhgnnfpfblhaaDoor
open Go.RowKit
/-- The tables stand in blocks that are older than a call: they read behind it as ahead of it. -/
theorem tabs_below {g3 g4 : Nat} {w w1 : World} (h : Lib.Utf8Tabs g3 g4 w) (hb : Below w.heap.size w w1) : Lib.Utf8Tabs g3 g4 w1 := by
  have lt : ∀ {b c : Nat} {v : Value}, w.cell? ⟨b, c, none⟩ = some v → b < w.heap.size := fun hc => World.block_lt_of_cell? _ _ hc
  refine ⟨fun c hc => ?_, fun i hi => ⟨?_, ?_⟩⟩
  · exact (hb.cell (p := ⟨g3, c, none⟩) (lt (h.1 c hc))).trans (h.1 c hc)
  · exact (hb.cell (p := ⟨g4, 2 * i, none⟩) (lt (h.2 i hi).1)).trans (h.2 i hi).1
  · exact (hb.cell (p := ⟨g4, 2 * i + 1, none⟩) (lt (h.2 i hi).2)).trans (h.2 i hi).2
end Go.Proofs.YthbhgnnfpfblhaaDoor
