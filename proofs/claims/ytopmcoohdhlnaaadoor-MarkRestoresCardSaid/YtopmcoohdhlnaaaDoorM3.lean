/- Plain laws: what the program's and the reference's functions on words come to, for words of bounded length. -/
import Derived.ArgAppend
import Derived.Below
import Derived.BigQuiet
import Derived.Deep.AppendLies
import Derived.Deep.CutBlock
import Derived.Deep.DeepCutAuto
import Derived.Deep.Draws
import Derived.Deep.LoopGhost
import Derived.Deep.OwnRows
import Derived.Deep.QuietTactic
import Derived.Deep.RegionHeld3
import Derived.KernelRfl
import Derived.Laws.BitsLemmas
import Derived.Laws.BytesArg
import Derived.Laws.IdiomCopy
import Derived.Laws.MakeOwn
import Derived.Laws.OwnMore
import Derived.Laws.RangeAny
import Derived.Laws.Rows
import Derived.Laws.Slices
import Derived.Laws.StructEq
import Derived.Lib.AppendStr
import Derived.Lib.ConvBytes
import Derived.Lib.Hide
import Derived.Lib.OthersKept
import Derived.Lib.SliceRun
import Derived.Lib.TrimUEq
import Derived.Maps.AppendAt
import Derived.OrdersHeld
import Derived.Outline
import Derived.OwnWalk
import Derived.RowKit
import Derived.RowKit3
import Derived.Shelf.Slices.CompactS
import Derived.Shelf.Slices.In.SortNone
import Derived.Shelf.Small.Utf8
import Derived.Shelf.Sort.Plain
import Derived.Shelf.Strings.Builder1
import Derived.Shelf.Strings.Builder2
import Derived.Shelf.Strings.OnBuilder
import Derived.Shelf.Unicode.DecodeAny
import Derived.Shelf.Unicode.DecodeLast
import Derived.Shelf.Unicode.DecodeSlow
import Derived.Sort.OwnSorted
import Derived.Tactics
import Derived.Test.YtopmcoohdhlnaaaDoorProg
import Derived.WalkKit
import Derived.WalkSmall
import Derived.WalkSpells
import Derived.WideLaws
import Derived.Test.YtopmcoohdhlnaaaDoorG1
import Derived.Test.YtopmcoohdhlnaaaDoorG13
import Derived.Test.YtopmcoohdhlnaaaDoorG3
import Derived.Test.YtopmcoohdhlnaaaDoorG4
import Derived.Test.YtopmcoohdhlnaaaDoorG6
import Derived.Test.YtopmcoohdhlnaaaDoorG7
import Derived.Test.YtopmcoohdhlnaaaDoorM1
import Derived.Test.YtopmcoohdhlnaaaDoorM2
import Derived.Test.YtopmcoohdhlnaaaDoorPa1
import Derived.Test.YtopmcoohdhlnaaaDoorPa2
import Derived.Test.YtopmcoohdhlnaaaDoorWLast
import Derived.Test.YtopmcoohdhlnaaaDoorWMore
import Derived.Test.YtopmcoohdhlnaaaDoorWWords
namespace Go.Proofs.YtopmcoohdhlnaaaDoor.M
open Go Go.RowKit Go.Lib Go.Proofs Go.Proofs.YtopmcoohdhlnaaaDoorW.PrintWords Go.Proofs.YtopmcoohdhlnaaaDoorW.PrintLast
open G
set_option linter.unusedVariables false
set_option linter.unusedSimpArgs false
theorem catB_two (a b : ByteArray) : catB [a, b] = a ++ b := by
  apply ByteArray.ext
  apply Array.toList_inj.1
  simp [catB]
theorem catB_three (a b c : ByteArray) : catB [a, b, c] = a ++ b ++ c := by
  apply ByteArray.ext
  apply Array.toList_inj.1
  simp [catB]
theorem del_size (x : ByteArray) (i : Nat) (h : i < x.size) : (delAt x i).size = x.size - 1 := by
  unfold delAt
  rw [ByteArray.size_append, ByteArray.size_extract, ByteArray.size_extract]
  omega
theorem shorter_loop (x : ByteArray) (hx : x.size ≤ 1000) (d : Nat) : ∀ (k i : Nat), x.size - i = d → i ≤ x.size → d < k →
    mark_shorter.l0 k x (delAll x i) (x.size : Int) (i : Int) = some (setL (delAll x x.size)) := by
  induction d with
  | zero =>
    intro k i hd hi hk
    obtain ⟨k, rfl⟩ : ∃ m, k = m + 1 := ⟨k - 1, by omega⟩
    have : i = x.size := by omega
    subst this
    simp only [mark_shorter.l0]
    rw [if_neg (by omega)]
    simp [delAll_length]
    omega
  | succ d ih =>
    intro k i hd hi hk
    obtain ⟨k, rfl⟩ : ∃ m, k = m + 1 := ⟨k - 1, by omega⟩
    have hlt : i < x.size := by omega
    have ew := w64succ i (by omega)
    have e1 : ((i : Int)).toNat = i := by omega
    have e2 : (((i + 1 : Nat) : Int)).toNat = i + 1 := by omega
    have c1 : (i : Int) < (x.size : Int) := by omega
    have c2 : (0 : Int) ≤ (i : Int) := by omega
    have c3 : (i : Int) ≤ (x.size : Int) := by omega
    have c4 : (0 : Int) ≤ ((i + 1 : Nat) : Int) := by omega
    have c5 : ((i + 1 : Nat) : Int) ≤ (x.size : Int) := by omega
    have hj : mark_joined.f [x.extract 0 i, x.extract (i + 1) x.size] = some (delAt x i) := by
      unfold mark_joined.f
      rw [catB_two, if_pos]
      · rfl
      · have h2 := del_size x i hlt
        unfold delAt at h2
        rw [h2]
        exact ⟨by omega, by simp⟩
    have h := ih k (i + 1) (by omega) (by omega) (by omega)
    simp only [mark_shorter.l0]
    rw [if_pos c1, if_pos c2, if_pos c3, ew, if_pos c4, if_pos c5, e1, e2, hj, Option.bind_some, delAll_length, if_pos (by omega), ← delAll_succ, h]
theorem shorter_ev (x : ByteArray) (hx : x.size ≤ 1000) (k : Nat) (hk : x.size < k) : mark_shorter.f k x = some (putAll (delAll x x.size)) := by
  have h := shorter_loop x hx x.size k 0 (by omega) (by omega) hk
  rw [set_put (l2 := delAll x x.size) (fun _ => Iff.rfl)] at h
  exact h
theorem ins_put0 (x : ByteArray) (k : Nat) : insAt x k 48 = putAt x k 0 := by
  unfold insAt putAt
  rw [catB_three]
  rfl
theorem ins_put1 (x : ByteArray) (k : Nat) : insAt x k 49 = putAt x k 1 := by
  unfold insAt putAt
  rw [catB_three]
  rfl
theorem longer_ev (x : ByteArray) (hx : x.size ≤ 1000) : mark_longer.f x ⟨#[48, 49]⟩ = some (putAll (putsAll x 2 (x.size + 1))) := by
  unfold mark_longer.f
  rw [if_pos ⟨rfl, hx⟩, set_put]
  intro y
  unfold insAll putsAll
  simp only [List.mem_flatMap]
  constructor
  · rintro ⟨k, hk, hm⟩
    refine ⟨k, hk, ?_⟩
    rw [ins_put0, ins_put1] at hm
    simpa [putsTo, List.range_succ] using hm
  · rintro ⟨k, hk, hm⟩
    refine ⟨k, hk, ?_⟩
    rw [ins_put0, ins_put1]
    simpa [putsTo, List.range_succ] using hm
theorem put_size (x : ByteArray) (i c : Nat) (h : i ≤ x.size) (hc : c < 4) : (putAt x i c).size = x.size + 1 := by
  unfold putAt
  rw [ByteArray.size_append, ByteArray.size_append, ByteArray.size_extract, ByteArray.size_extract, ByteArray.size_extract]
  show min i x.size - 0 + (min (c + 1) 4 - c) + (min x.size x.size - i) = _
  omega
theorem mem_del_size {x y : ByteArray} (h : y ∈ putAll (delAll x x.size)) : y.size = x.size - 1 ∧ 0 < x.size := by
  rw [mem_putAll] at h
  unfold delAll at h
  rw [List.mem_map] at h
  obtain ⟨i, hi, rfl⟩ := h
  rw [List.mem_range] at hi
  exact ⟨del_size x i hi, by omega⟩
theorem mem_put_size {x y : ByteArray} {q : Nat} (hq : q ≤ 4) (h : y ∈ putAll (putsAll x q (x.size + 1))) : y.size = x.size + 1 := by
  rw [mem_putAll] at h
  unfold putsAll putsTo at h
  simp only [List.mem_flatMap, List.mem_map, List.mem_range] at h
  obtain ⟨i, hi, c, hc, rfl⟩ := h
  exact put_size x i c (by omega) (by omega)
/-! ### the reference's sum -/
theorem rsum_loop (x : ByteArray) (hx : x.size ≤ 100000) (d : Nat) : ∀ (k i acc : Nat), x.size - i = d → i ≤ x.size → d < k → acc + (x.size - i) * (i + 1 + (x.size - i)) ≤ 100000000000 →
    Pa.pritchelref09_Sum.l0 k x (acc : Int) (i : Int) = some ((acc + vtF (i + 1) (x.data.toList.drop i) : Nat) : Int) := by
  induction d with
  | zero =>
    intro k i acc hd hi hk hb
    obtain ⟨k, rfl⟩ : ∃ m, k = m + 1 := ⟨k - 1, by omega⟩
    have : x.data.toList.drop i = [] := List.drop_eq_nil_of_le (by simp; show x.size ≤ i; omega)
    rw [this]
    simp only [Pa.pritchelref09_Sum.l0]
    rw [if_neg (by omega)]
    simp [vtF]
  | succ d ih =>
    intro k i acc hd hi hk hb
    obtain ⟨k, rfl⟩ : ∃ m, k = m + 1 := ⟨k - 1, by omega⟩
    have hlt : i < x.size := by omega
    have hmul : (x.size - (i + 1)) * (i + 1 + 1 + (x.size - (i + 1))) + (i + 1 + (x.size - i)) = (x.size - i) * (i + 1 + (x.size - i)) := by
      have e1 : x.size - i = (x.size - (i + 1)) + 1 := by omega
      rw [e1, Nat.add_mul, Nat.one_mul]
      have e2 : i + 1 + 1 + (x.size - (i + 1)) = i + 1 + (x.size - (i + 1) + 1) := by omega
      rw [e2]
    simp only [Pa.pritchelref09_Sum.l0]
    rw [if_pos (by omega), if_pos (by omega), bt_nat x i hlt, bytes_drop x i hlt]
    have ew := w64succ i (by omega)
    rw [ew]
    by_cases hb1 : (x[i]'hlt) = 49
    · rw [if_pos ((toNat_49 _).2 hb1)]
      have ew2 := w64add acc (i + 1) (by omega)
      rw [ew2, ih k (i + 1) (acc + (i + 1)) (by omega) (by omega) (by omega) (by omega)]
      simp only [vtF, hb1, if_true]
      congr 2
      omega
    · rw [if_neg (fun h => hb1 ((toNat_49 _).1 h))]
      rw [ih k (i + 1) acc (by omega) (by omega) (by omega) (by omega)]
      simp only [vtF, if_neg hb1]
      congr 2
      omega
theorem rsum_ev (x : ByteArray) (hx : x.size ≤ 100000) (k : Nat) (hk : x.size < k) : Pa.pritchelref09_Sum.f k x = some (vt x : Int) := by
  have hb : 0 + (x.size - 0) * (0 + 1 + (x.size - 0)) ≤ 100000000000 := by
    have : (x.size - 0) * (0 + 1 + (x.size - 0)) ≤ 100000 * 100001 := Nat.mul_le_mul (by omega) (by omega)
    omega
  have h := rsum_loop x hx x.size k 0 0 (by omega) (by omega) hk hb
  unfold Pa.pritchelref09_Sum.f
  simpa [vt] using h
/-! ### words that are none -/
/-- What is wrong with a word: its length, or a letter. -/
def wrong (m : Nat) (x : ByteArray) : Int := if m < x.size then 3 else if badWord ⟨#[48, 49]⟩ x = true then 2 else 0
theorem check_one (m : Nat) (hm : m ≤ 1000) (x : ByteArray) : mark_check.f (m : Int) ⟨#[48, 49]⟩ [x] = some (wrong m x) := by
  unfold mark_check.f wrong
  rw [if_pos ⟨by decide, by decide, by omega, by simp⟩]
  simp
theorem inSet01 (c : Nat) : inSet ⟨#[48, 49]⟩ c = (decide (c = 48) || decide (c = 49)) := by
  unfold inSet
  rw [show (⟨#[48, 49]⟩ : ByteArray).size = 1 + 1 from rfl, inTake_succ _ 1 c (by decide), inTake_succ _ 0 c (by decide), inTake_zero]
  show ((false || (48 == c)) || (49 == c)) = _
  by_cases h1 : c = 48 <;> by_cases h2 : c = 49 <;> simp [h1, h2] <;> omega
theorem badF (x : ByteArray) : badWord ⟨#[48, 49]⟩ x = x.data.toList.any fun b => !(decide (b.toNat = 48) || decide (b.toNat = 49)) := by
  unfold badWord
  congr 1
  funext b
  rw [inSet01]
theorem word_loop (x : ByteArray) (hx : x.size ≤ 100000) (d : Nat) : ∀ (k i : Nat), x.size - i = d → i ≤ x.size → d < k →
    Pa.pritchelref09_Word.l0 k x 2 (i : Int) = some (if (x.data.toList.drop i).any (fun b => !(decide (b.toNat = 48) || decide (b.toNat = 49))) = true then 2 else 0) := by
  induction d with
  | zero =>
    intro k i hd hi hk
    obtain ⟨k, rfl⟩ : ∃ m, k = m + 1 := ⟨k - 1, by omega⟩
    have : x.data.toList.drop i = [] := List.drop_eq_nil_of_le (by simp; show x.size ≤ i; omega)
    rw [this]
    simp only [Pa.pritchelref09_Word.l0]
    rw [if_neg (by omega)]
    simp
  | succ d ih =>
    intro k i hd hi hk
    obtain ⟨k, rfl⟩ : ∃ m, k = m + 1 := ⟨k - 1, by omega⟩
    have hlt : i < x.size := by omega
    have ew := w64succ i (by omega)
    have h := ih k (i + 1) (by omega) (by omega) (by omega)
    have c1 : (i : Int) < (x.size : Int) := by omega
    have c2 : (0 : Int) ≤ (i : Int) := by omega
    simp only [Pa.pritchelref09_Word.l0]
    rw [if_pos c1, if_pos c2, bt_nat x i hlt, bytes_drop x i hlt, ew, h, List.any_cons]
    obtain ⟨b, hb⟩ : ∃ b, (x[i]'hlt) = b := ⟨_, rfl⟩
    rw [hb]
    have hb2 : b.toNat < 256 := UInt8.toNat_lt b
    clear h ih hd hi hk
    by_cases h1 : b.toNat = 48
    · rw [if_neg (by omega), if_neg (by omega)]; simp [h1]
    · by_cases h2 : b.toNat = 49
      · rw [if_neg (by omega), if_neg (by omega)]; simp [h2]
      · by_cases h3 : (b.toNat : Int) < 48
        · rw [if_pos h3]; simp [h1, h2]
        · rw [if_neg h3, if_pos (by omega)]; simp [h1, h2]
theorem word_ev (m : Nat) (x : ByteArray) (hm : m ≤ 1000) (k : Nat) (hk : 1000 < k) : Pa.pritchelref09_Word.f k x 2 (m : Int) = some (wrong m x) := by
  unfold Pa.pritchelref09_Word.f wrong
  by_cases h : m < x.size
  · rw [if_pos (by omega), if_pos h]
  · rw [if_neg (by omega), if_neg h, badF]
    have := word_loop x (by omega) x.size k 0 (by omega) (by omega) (by omega)
    simpa using this
end Go.Proofs.YtopmcoohdhlnaaaDoor.M
