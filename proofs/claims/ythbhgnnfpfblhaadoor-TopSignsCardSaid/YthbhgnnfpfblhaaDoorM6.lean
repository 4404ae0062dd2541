/- Plain laws: Varshamov and Tenengolts' code: one letter taken out of two words, or put into them, alike by n + 1, at the same outcome: it is one word (Levenshtein); the words that a law derives from numbers. -/
import Derived.Test.YthbhgnnfpfblhaaDoorM2
namespace Go.Proofs.YthbhgnnfpfblhaaDoor.G
end Go.Proofs.YthbhgnnfpfblhaaDoor.G
namespace Go.Proofs.YthbhgnnfpfblhaaDoor.M
open Go Go.RowKit Go.Lib Go.Proofs Go.Proofs.YthbhgnnfpfblhaaDoorW.PrintWords Go.Proofs.YthbhgnnfpfblhaaDoorW.PrintLast Go.Proofs.YthbhgnnfpfblhaaDoorW.PrintMore
open G
set_option linter.unusedVariables false
set_option linter.unusedSimpArgs false
def bin (l : List UInt8) : Prop := ∀ b ∈ l, b = 48 ∨ b = 49
def lst (x : ByteArray) : List UInt8 := x.data.toList
theorem lst_inj {x y : ByteArray} (h : lst x = lst y) : x = y := ByteArray.ext (Array.toList_inj.1 h)
theorem lst_append (x y : ByteArray) : lst (x ++ y) = lst x ++ lst y := by simp [lst]
theorem lst_length (x : ByteArray) : (lst x).length = x.size := by simp [lst]
theorem lst_extract (x : ByteArray) (i j : Nat) : lst (x.extract i j) = ((lst x).take j).drop i := by
  unfold lst
  rw [ByteArray.data_extract, Array.toList_extract, List.extract_eq_take_drop, List.take_drop]
  by_cases h : i ≤ j
  · rw [show i + (j - i) = j from by omega]
  · rw [show j - i = 0 from by omega, Nat.add_zero]
    rw [List.drop_eq_nil_of_le (by rw [List.length_take]; omega), List.drop_eq_nil_of_le (by rw [List.length_take]; omega)]
theorem wrong_bin {m : Nat} {x : ByteArray} (hs : x.size ≤ m) (hb : bin (lst x)) : wrong m x = 0 := by
  unfold wrong
  rw [if_neg (by omega), badF, if_neg]
  rw [List.any_eq_true]
  rintro ⟨b, hm, hx⟩
  rcases hb b hm with rfl | rfl <;> simp at hx
/-! ### words out of numbers -/
end Go.Proofs.YthbhgnnfpfblhaaDoor.M
