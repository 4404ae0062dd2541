/- The program's shorter: all words that come of a word by taking away one letter, each once, in byte order. The loop's walk was printed by a program of this session. -/
import Derived.Shelf.Slices.CompactS
import Derived.Test.YthbhgnnfpfblhaaDoorG4
import Derived.Test.YthbhgnnfpfblhaaDoorG5
import Derived.Test.YthbhgnnfpfblhaaDoorPa0
namespace Go.Proofs.YthbhgnnfpfblhaaDoor.G
open Go.RowKit Go.Lib Go.Sort Go.Proofs.YthbhgnnfpfblhaaDoorW.PrintWords Go.Proofs.YthbhgnnfpfblhaaDoorW.PrintLast Go.Proofs.YthbhgnnfpfblhaaDoorW.PrintMore
attribute [local go_sem] max2_int min2_int max_two min_two max_three min_three max_four min_four
set_option linter.unusedVariables false
set_option linter.unusedSimpArgs false
theorem info9 : (Tryd.prog.info? 9).map (fun i => (i.zero, i.size, i.bytes)) = some (some (.string ⟨#[]⟩), 1, 16) := by kernel_rfl
/-- Words in byte order, each once. -/
def setL (l : List ByteArray) : List ByteArray := wordsL (Lib.compact (sortB (bytesL l)))
/-! ### mark_shorter: function 42 -/
def mark_shorter.l0 : Nat → ByteArray → List ByteArray → Int → Int → Option (List ByteArray)
  | 0, _, _, _, _ => none
  | k + 1, x0, x3, x6, x7 => if x7 < x6 then (if 0 ≤ x7 then (if x7 ≤ (x0.size : Int) then (if 0 ≤ (wrap64 (x7 + 1)) then (if (wrap64 (x7 + 1)) ≤ (x0.size : Int) then ((G.mark_joined.f (([x0.extract 0 (x7 : Int).toNat, x0.extract ((wrap64 (x7 + 1)) : Int).toNat x0.size] : List ByteArray))).bind fun t224 => (if x3.length < 8796093022208 then (mark_shorter.l0 k x0 (x3 ++ [t224]) x6 (wrap64 (x7 + 1))) else (none))) else (none)) else (none)) else (none)) else (none)) else (if x3.length ≤ 1000000 then (some (setL x3)) else (none))
def mark_shorter.f (k : Nat) (a0 : ByteArray) : Option (List ByteArray) := mark_shorter.l0 k a0 ([] : List ByteArray) (a0.size : Int) 0
theorem mark_shorter.mono_l : ∀ k, (∀ y0 y1 y2 y3, LeO (mark_shorter.l0 k y0 y1 y2 y3) (mark_shorter.l0 (k + 1) y0 y1 y2 y3))
  | 0 => fun _ _ _ _ r h => by simp [mark_shorter.l0] at h
  | k + 1 => by
    have ih0 := mark_shorter.mono_l k
    · intro y0 y1 y2 y3
      unfold mark_shorter.l0
      repeat' first
      | (with_reducible exact ih0 _ _ _ _)
      | (with_reducible exact LeO.refl _)
      | (with_reducible exact LeO.none _)
      | (with_reducible refine LeO.ite ?_ ?_)
      | (with_reducible refine LeO.bind ?_ (fun _ => ?_))
      | exact ih0 _ _ _ _
      | exact LeO.none _
      | refine LeO.ite ?_ ?_
      | refine LeO.bind ?_ (fun _ => ?_)
theorem mark_shorter.mono : ∀ a0 k, LeO (mark_shorter.f k a0) (mark_shorter.f (k + 1) a0) := by
  intro a0 k
  have ih0 := mark_shorter.mono_l k
  unfold mark_shorter.f
  repeat' first
      | (with_reducible exact ih0 _ _ _ _)
      | (with_reducible exact LeO.refl _)
      | (with_reducible exact LeO.none _)
      | (with_reducible refine LeO.ite ?_ ?_)
      | (with_reducible refine LeO.bind ?_ (fun _ => ?_))
      | exact ih0 _ _ _ _
      | exact LeO.none _
      | refine LeO.ite ?_ ?_
      | refine LeO.bind ?_ (fun _ => ?_)
end Go.Proofs.YthbhgnnfpfblhaaDoor.G
