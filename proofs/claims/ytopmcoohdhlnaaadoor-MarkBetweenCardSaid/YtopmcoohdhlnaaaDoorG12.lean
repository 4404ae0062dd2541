/- The reference's put: a list of words in byte order with one more, unless it is there. The steps of the region that draws its order were printed by a program of this session. -/
import Derived.Lib.SliceRun
import Derived.Test.YtopmcoohdhlnaaaDoorG6
import Derived.Test.YtopmcoohdhlnaaaDoorG8
namespace Go.Proofs.YtopmcoohdhlnaaaDoor.G
open Go.RowKit Go.Lib Go.Proofs.YtopmcoohdhlnaaaDoorW.PrintWords Go.Proofs.YtopmcoohdhlnaaaDoorW.PrintLast Go.Proofs.YtopmcoohdhlnaaaDoorW.PrintMore
attribute [local go_sem] max2_int min2_int max_two min_two max_three min_three max_four min_four
set_option linter.unusedVariables false
set_option linter.unusedSimpArgs false
/-- A list with one more word, ahead of the first that is not less, unless that is the word. -/
def putL : List ByteArray → ByteArray → List ByteArray
  | [], s => [s]
  | x :: r, s => if Op.bytesLess x.toList s.toList = true then x :: putL r s else if x.toList = s.toList then x :: r else s :: x :: r
theorem putL_length (l : List ByteArray) (s : ByteArray) : (putL l s).length ≤ l.length + 1 := by
  induction l with
  | nil => simp [putL]
  | cons x r ih =>
    simp only [putL]
    split
    · simp only [List.length_cons]; omega
    · split <;> simp
end Go.Proofs.YtopmcoohdhlnaaaDoor.G
/- The reference's Shorter and Longer: all words that come of a word by one letter less, or by one letter more, in byte order, each once. The steps of the regions that draw their order were printed by a program of this session. -/
namespace Go.Proofs.YtopmcoohdhlnaaaDoor.G
open Go.RowKit Go.Lib Go.Proofs.YtopmcoohdhlnaaaDoorW.PrintWords Go.Proofs.YtopmcoohdhlnaaaDoorW.PrintLast Go.Proofs.YtopmcoohdhlnaaaDoorW.PrintMore
attribute [local go_sem] max2_int min2_int max_two min_two max_three min_three max_four min_four
set_option linter.unusedVariables false
set_option linter.unusedSimpArgs false
/-- Words put into a list, one after the other. -/
def putAll (l : List ByteArray) : List ByteArray := l.foldl putL []
theorem putAll_length (l : List ByteArray) : (putAll l).length ≤ l.length := by
  have : ∀ (l acc : List ByteArray), (l.foldl putL acc).length ≤ acc.length + l.length := by
    intro l
    induction l with
    | nil => intro acc; simp
    | cons x r ih => intro acc; have h1 := ih (putL acc x); have h2 := putL_length acc x; simp only [List.foldl_cons, List.length_cons]; omega
  simpa [putAll] using this l []
/-- A word without its letter k. -/
def delAt (x : ByteArray) (k : Nat) : ByteArray := x.extract 0 k ++ x.extract (k + 1) x.size
def delAll (x : ByteArray) (n : Nat) : List ByteArray := (List.range n).map (delAt x)
theorem delAll_succ (x : ByteArray) (n : Nat) : delAll x (n + 1) = delAll x n ++ [delAt x n] := by simp [delAll, List.range_succ]
theorem delAll_length (x : ByteArray) (n : Nat) : (delAll x n).length = n := by simp [delAll]
/-- A word with letter c of 0123 put in behind its first k. -/
def putAt (x : ByteArray) (k c : Nat) : ByteArray := x.extract 0 k ++ (⟨#[48, 49, 50, 51]⟩ : ByteArray).extract c (c + 1) ++ x.extract k x.size
def putsTo (x : ByteArray) (k q : Nat) : List ByteArray := (List.range q).map (putAt x k)
def putsAll (x : ByteArray) (q n : Nat) : List ByteArray := (List.range n).flatMap fun k => putsTo x k q
theorem putsAll_succ (x : ByteArray) (q n : Nat) : putsAll x q (n + 1) = putsAll x q n ++ putsTo x n q := by simp [putsAll, List.range_succ]
theorem putsAll_length (x : ByteArray) (q n : Nat) : (putsAll x q n).length = n * q := by
  induction n with
  | zero => simp [putsAll]
  | succ n ih => rw [putsAll_succ, List.length_append, ih]; simp [putsTo, Nat.add_mul]
/-! ### pritchelref09_Shorter: function 37 -/
/-! ### pritchelref09_Longer: function 36 -/
end Go.Proofs.YtopmcoohdhlnaaaDoor.G
