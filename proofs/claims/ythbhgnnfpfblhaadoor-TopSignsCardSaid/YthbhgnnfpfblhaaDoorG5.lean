/- slices.Sort and slices.Compact at []string, at a row that the call itself owns: what the row holds behind them. -/
import Derived.Ground.Names2Prog
import Derived.Ground.NamesProg
import Derived.Ground.SlgnProg
import Derived.Lib.Hide
import Derived.Shelf.Bits.Mul64
import Derived.Shelf.Slices.Clone
import Derived.Shelf.Slices.In.SortNone
import Derived.Shelf.SlicesE.Clone
import Derived.Shelf.Small.Strs
import Derived.Shelf.Small.Utf8
import Derived.Shelf.Strings.AsciiSet
import Derived.Shelf.Strings.Builder1
import Derived.Shelf.Strings.Builder2
import Derived.Shelf.Strings.OnBuilder
import Derived.Shelf.Strings.Runes
import Derived.Shelf.Strings.Search1
import Derived.Shelf.Strings.SlTrimAscii
import Derived.Shelf.Unicode.Decode
import Derived.Shelf.Unicode.DecodeAny
import Derived.Shelf.Unicode.DecodeLast
import Derived.Shelf.Unicode.DecodeSlow
import Derived.Sort.OwnSorted
import Derived.Test.YthbhgnnfpfblhaaDoorProg
import Derived.Test.YthbhgnnfpfblhaaDoorWMore
namespace Go.Proofs.YthbhgnnfpfblhaaDoor.G
open Go Go.RowKit Go.Lib Go.Sort Go.Proofs Go.Proofs.YthbhgnnfpfblhaaDoorW.PrintWords Go.Proofs.YthbhgnnfpfblhaaDoorW.PrintLast Go.Proofs.YthbhgnnfpfblhaaDoorW.PrintMore
set_option linter.unusedVariables false

/-- The words' bytes, and words of bytes. -/
def bytesL (l : List ByteArray) : List (List UInt8) := l.map (·.data.toList)
def wordsL (l : List (List UInt8)) : List ByteArray := l.map fun x => ⟨x.toArray⟩
def sortB (l : List (List UInt8)) : List (List UInt8) := l.mergeSort fun x y => decide (x ≤ y)
end Go.Proofs.YthbhgnnfpfblhaaDoor.G
