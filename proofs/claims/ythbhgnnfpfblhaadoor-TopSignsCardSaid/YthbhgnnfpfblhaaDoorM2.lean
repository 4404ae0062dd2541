/- Plain laws: words in byte order, each once: the program's way (sorted, then without equal neighbours) and the reference's (put in one by one) give the same list for the same words. -/
import Derived.ChangeSlices
import Derived.Laws.StructEq
import Derived.Lib.SliceRun
import Derived.Shelf.Slices.CompactS
import Derived.Shelf.Slices.In.SortNone
import Derived.SizedLaws
import Derived.Sort.OwnSorted
import Derived.Test.YthbhgnnfpfblhaaDoorG1
import Derived.Test.YthbhgnnfpfblhaaDoorG4
namespace Go.Proofs.YthbhgnnfpfblhaaDoor.G
end Go.Proofs.YthbhgnnfpfblhaaDoor.G
namespace Go.Proofs.YthbhgnnfpfblhaaDoor.M
open Go Go.RowKit Go.Lib Go.Proofs Go.Proofs.YthbhgnnfpfblhaaDoorW.PrintWords Go.Proofs.YthbhgnnfpfblhaaDoorW.PrintLast
open G
set_option linter.unusedVariables false
set_option linter.unusedSimpArgs false
end Go.Proofs.YthbhgnnfpfblhaaDoor.M
/- Plain laws: what the program's and the reference's functions on words come to, for words of bounded length. -/
namespace Go.Proofs.YthbhgnnfpfblhaaDoor.M
open Go Go.RowKit Go.Lib Go.Proofs Go.Proofs.YthbhgnnfpfblhaaDoorW.PrintWords Go.Proofs.YthbhgnnfpfblhaaDoorW.PrintLast
open G
set_option linter.unusedVariables false
set_option linter.unusedSimpArgs false
theorem catB_two (a b : ByteArray) : catB [a, b] = a ++ b := by
  apply ByteArray.ext
  apply Array.toList_inj.1
  simp [catB]
/-! ### the reference's sum -/
/-! ### words that are none -/
/-- What is wrong with a word: its length, or a letter. -/
def wrong (m : Nat) (x : ByteArray) : Int := if m < x.size then 3 else if badWord ⟨#[48, 49]⟩ x = true then 2 else 0
theorem inSet01 (c : Nat) : inSet ⟨#[48, 49]⟩ c = (decide (c = 48) || decide (c = 49)) := by
  unfold inSet
  rw [show (⟨#[48, 49]⟩ : ByteArray).size = 1 + 1 from rfl, inTake_succ _ 1 c (by decide), inTake_succ _ 0 c (by decide), inTake_zero]
  show ((false || (48 == c)) || (49 == c)) = _
  by_cases h1 : c = 48 <;> by_cases h2 : c = 49 <;> simp [h1, h2] <;> omega
theorem badF (x : ByteArray) : badWord ⟨#[48, 49]⟩ x = x.data.toList.any fun b => !(decide (b.toNat = 48) || decide (b.toNat = 49)) := by
  unfold badWord
  congr 1
  funext b
  rw [inSet01]
end Go.Proofs.YthbhgnnfpfblhaaDoor.M
/- Plain laws: the word of a code of which a word is a shorter or a longer one, by the program and by the reference; the document's examples. -/
namespace Go.Proofs.YthbhgnnfpfblhaaDoor.M
open Go Go.RowKit Go.Lib Go.Proofs Go.Proofs.YthbhgnnfpfblhaaDoorW.PrintWords Go.Proofs.YthbhgnnfpfblhaaDoorW.PrintLast
open G
set_option linter.unusedVariables false
set_option linter.unusedSimpArgs false
/-- The numbers of a code of letters are bad. -/
def badNums (n a : Int) : Prop := n < 1 ∨ n > 20 ∨ a < 0 ∨ a > n
instance (n a : Int) : Decidable (badNums n a) := by unfold badNums; exact inferInstance
theorem wrong_size {m : Nat} {x : ByteArray} (h : wrong m x = 0) : x.size ≤ m := by
  unfold wrong at h
  split at h
  · cases h
  · omega
/-! ### the reference's -/
/-! ### the document's examples -/
theorem le_mono {α : Type} {f : Nat → Option α} (h : ∀ k, LeO (f k) (f (k + 1))) {k m : Nat} {r : α} (hk : k ≤ m) (hr : f k = some r) : f m = some r := by
  induction m with
  | zero => obtain rfl : k = 0 := by omega
            exact hr
  | succ m ih =>
    by_cases e : k = m + 1
    · rw [← e]; exact hr
    · exact h m r (ih (by omega))
end Go.Proofs.YthbhgnnfpfblhaaDoor.M
/- Plain laws: a string cut to a length; a list compared with itself. -/
namespace Go.Proofs.YthbhgnnfpfblhaaDoor.M
open Go Go.RowKit Go.Lib Go.Proofs Go.Proofs.YthbhgnnfpfblhaaDoorW.PrintWords Go.Proofs.YthbhgnnfpfblhaaDoorW.PrintLast Go.Proofs.YthbhgnnfpfblhaaDoorW.PrintMore
open G
set_option linter.unusedVariables false
set_option linter.unusedSimpArgs false
end Go.Proofs.YthbhgnnfpfblhaaDoor.M
