/- Plain laws: the program's table of longest strings in common and the reference's come to the same: a function of two places. -/
import Derived.ArgAppend
import Derived.Below
import Derived.BigQuiet
import Derived.ChangeSlices
import Derived.Deep.AppendLies
import Derived.Deep.CutBlock
import Derived.Deep.DeepCutAuto
import Derived.Deep.Draws
import Derived.Deep.LoopGhost
import Derived.Deep.OwnRows
import Derived.Deep.QuietTactic
import Derived.Deep.RegionHeld3
import Derived.KernelRfl
import Derived.Laws.BitsLemmas
import Derived.Laws.BytesArg
import Derived.Laws.IdiomCopy
import Derived.Laws.MakeOwn
import Derived.Laws.OwnMore
import Derived.Laws.RangeAny
import Derived.Laws.Rows
import Derived.Laws.Slices
import Derived.Laws.StructEq
import Derived.Lib.AppendStr
import Derived.Lib.ConvBytes
import Derived.Lib.Hide
import Derived.Lib.OthersKept
import Derived.Lib.SliceRun
import Derived.Lib.TrimUEq
import Derived.Maps.AppendAt
import Derived.OrdersHeld
import Derived.Outline
import Derived.OwnWalk
import Derived.RowKit
import Derived.RowKit3
import Derived.Shelf.Slices.CompactS
import Derived.Shelf.Slices.In.SortNone
import Derived.Shelf.Small.Utf8
import Derived.Shelf.Sort.Plain
import Derived.Shelf.Strings.Builder1
import Derived.Shelf.Strings.Builder2
import Derived.Shelf.Strings.OnBuilder
import Derived.Shelf.Unicode.DecodeAny
import Derived.Shelf.Unicode.DecodeLast
import Derived.Shelf.Unicode.DecodeSlow
import Derived.SizedLaws
import Derived.Sort.OwnSorted
import Derived.Tactics
import Derived.Test.YtopmcoohdhlnaaaDoorProg
import Derived.WalkKit
import Derived.WalkSmall
import Derived.WalkSpells
import Derived.WideLaws
import Derived.Test.YtopmcoohdhlnaaaDoorG4
import Derived.Test.YtopmcoohdhlnaaaDoorM1
import Derived.Test.YtopmcoohdhlnaaaDoorM2
import Derived.Test.YtopmcoohdhlnaaaDoorPa0
import Derived.Test.YtopmcoohdhlnaaaDoorPa17
import Derived.Test.YtopmcoohdhlnaaaDoorPa4
import Derived.Test.YtopmcoohdhlnaaaDoorPa5
import Derived.Test.YtopmcoohdhlnaaaDoorPb0
import Derived.Test.YtopmcoohdhlnaaaDoorPb5
import Derived.Test.YtopmcoohdhlnaaaDoorWLast
import Derived.Test.YtopmcoohdhlnaaaDoorWMore
import Derived.Test.YtopmcoohdhlnaaaDoorWWords
namespace Go.Proofs.YtopmcoohdhlnaaaDoor.M
open Go Go.RowKit Go.Lib Go.Proofs Go.Proofs.YtopmcoohdhlnaaaDoorW.PrintWords Go.Proofs.YtopmcoohdhlnaaaDoorW.PrintLast Go.Proofs.YtopmcoohdhlnaaaDoorW.PrintMore
open G Pa Pb
set_option linter.unusedVariables false
set_option linter.unusedSimpArgs false
def betB (y x : ByteArray) : Bool := if x.size < y.size then true else if y.size = x.size then Op.bytesLess y.toList x.toList else false
def bet (x y : ByteArray) : ByteArray := if betB y x = true then y else x
/-- The first of the longest strings in common, from two places on. -/
def dp (s t : ByteArray) (i j : Nat) : ByteArray :=
  if h : i < s.size ∧ j < t.size then
    let x := bet (dp s t (i + 1) j) (dp s t i (j + 1))
    if s[i]'h.1 = t[j]'h.2 then bet x (s.extract i (i + 1) ++ dp s t (i + 1) (j + 1)) else x
  else ByteArray.empty
termination_by (s.size - i) + (t.size - j)
def rowD (s t : ByteArray) (i : Nat) : List ByteArray := (List.range (t.size + 1)).map (dp s t i)
theorem rowD_len (s t : ByteArray) (i : Nat) : (rowD s t i).length = t.size + 1 := by simp [rowD]
theorem rowD_get (s t : ByteArray) (i j : Nat) (h : j ≤ t.size) : (rowD s t i).getD j ByteArray.empty = dp s t i j := by
  simp [rowD, List.getD_eq_getElem?_getD, List.getElem?_map, List.getElem?_range (show j < t.size + 1 by omega)]
/-- A table under way: the rows behind i stand; of row i what lies behind j; place j holds v. -/
structure Mid (s t : ByteArray) (T : List (List ByteArray)) (i j : Nat) (v : ByteArray) : Prop where
  len : T.length = s.size + 1
  hi : i ≤ s.size
  hj : j ≤ t.size
  behind : ∀ i', i < i' → i' ≤ s.size → T.getD i' [] = rowD s t i'
  rowlen : (T.getD i []).length = t.size + 1
  right : ∀ j', j < j' → j' ≤ t.size → (T.getD i []).getD j' ByteArray.empty = dp s t i j'
  left : ∀ j', j' < j → (T.getD i []).getD j' ByteArray.empty = ByteArray.empty
  at_ : (T.getD i []).getD j ByteArray.empty = v
theorem Mid.next {s t : ByteArray} {T : List (List ByteArray)} {i j : Nat} (h : Mid s t T i (j + 1) (dp s t i (j + 1))) : Mid s t T i j ByteArray.empty := by
  refine ⟨h.len, h.hi, by have := h.hj; omega, h.behind, h.rowlen, ?_, fun j' h1 => h.left j' (by omega), h.left j (by omega)⟩
  intro j' h1 h2
  by_cases e : j' = j + 1
  · rw [e]; exact h.at_
  · exact h.right j' (by omega) h2
theorem Mid.full {s t : ByteArray} {T : List (List ByteArray)} {i : Nat} (h : Mid s t T i 0 (dp s t i 0)) : T.getD i [] = rowD s t i := by
  apply List.ext_getElem
  · rw [h.rowlen, rowD_len]
  · intro j h1 h2
    rw [rowD_len] at h2
    have e1 := rowD_get s t i j (by omega)
    have e2 : (T.getD i []).getD j ByteArray.empty = dp s t i j := by
      by_cases e : j = 0
      · rw [e]; exact h.at_
      · exact h.right j (by omega) (by omega)
    rw [List.getD_eq_getElem?_getD, List.getElem?_eq_getElem h1, Option.getD_some] at e2
    rw [List.getD_eq_getElem?_getD, List.getElem?_eq_getElem (by rw [rowD_len]; omega), Option.getD_some] at e1
    rw [e1, e2]
theorem rdOf_nat (l : List ByteArray) (i : Nat) : rdOf ByteArray.empty l (i : Int) = l.getD i ByteArray.empty := by unfold rdOf; rw [Int.toNat_natCast]
structure Done (s t : ByteArray) (T : List (List ByteArray)) (i : Nat) : Prop where
  len : T.length = s.size + 1
  rows : ∀ i', i ≤ i' → i' ≤ s.size → T.getD i' [] = rowD s t i'
theorem Mid.done {s t : ByteArray} {T : List (List ByteArray)} {i : Nat} (h : Mid s t T i 0 (dp s t i 0)) : Done s t T i := by
  refine ⟨h.len, fun i' h1 h2 => ?_⟩
  by_cases e : i' = i
  · rw [e]; exact h.full
  · exact h.behind i' (by omega) h2
/-- The reference's table: rows from i on stand, those ahead are empty. -/
structure DoneR (s t : ByteArray) (T : List (List ByteArray)) (i : Nat) : Prop where
  done : Done s t T i
  ahead : ∀ i', i' < i → T.getD i' [] = List.replicate (t.size + 1) ByteArray.empty
end Go.Proofs.YtopmcoohdhlnaaaDoor.M
