/- Plain laws of what the printed sum, steps and membership of a code compute: the Varshamov-Tenengolts sum of a word, the steps of a word of digits, whether a word is one of a code. -/
import Derived.Laws.StructEq
import Derived.Test.YthbhgnnfpfblhaaDoorProg
import Derived.Test.YthbhgnnfpfblhaaDoorWMore
namespace Go.Proofs.YthbhgnnfpfblhaaDoor.Pa
end Go.Proofs.YthbhgnnfpfblhaaDoor.Pa
namespace Go.Proofs.YthbhgnnfpfblhaaDoor.M
open Go.RowKit Go.Proofs.YthbhgnnfpfblhaaDoorW.PrintWords Go.Proofs.YthbhgnnfpfblhaaDoorW.PrintLast
open Pa
set_option linter.unusedVariables false

theorem bt_nat (x : ByteArray) (i : Nat) (h : i < x.size) : bt x (i : Int) = ((x[i]'h).toNat : Int) := by
  unfold bt
  simp [h]
theorem bytes_drop (x : ByteArray) (i : Nat) (h : i < x.size) : x.data.toList.drop i = (x[i]'h) :: x.data.toList.drop (i + 1) := by
  rw [List.drop_eq_getElem_cons (by simpa using h)]
  rfl
theorem w64 {x : Int} (h0 : -1000000000000 ≤ x) (h1 : x ≤ 1000000000000) : wrap64 x = x := by unfold wrap64; omega

theorem w64n (a : Nat) (h : a ≤ 1000000000000) : wrap64 (a : Int) = (a : Int) := w64 (by omega) (by omega)
theorem w64add (a b : Nat) (h : a + b ≤ 1000000000000) : wrap64 ((a : Int) + (b : Int)) = ((a + b : Nat) : Int) := by
  rw [← Int.natCast_add]
  exact w64n _ h
theorem w64succ (a : Nat) (h : a + 1 ≤ 1000000000000) : wrap64 ((a : Int) + 1) = ((a + 1 : Nat) : Int) := w64add a 1 h
theorem tmod_nat (u n : Nat) : Int.tmod (u : Int) ((n : Nat) : Int) = ((u % n : Nat) : Int) := by
  rw [Int.tmod_eq_emod_of_nonneg (by omega)]
  rfl
/-! ### digits -/
end Go.Proofs.YthbhgnnfpfblhaaDoor.M
