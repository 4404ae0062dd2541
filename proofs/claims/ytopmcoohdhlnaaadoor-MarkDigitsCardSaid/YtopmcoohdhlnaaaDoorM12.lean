/- Plain laws: words of digits: their steps, by the program and by the reference; all words of digits; the words of a code of digits. -/
import Derived.ArgAppend
import Derived.Below
import Derived.BigQuiet
import Derived.ChangeSlices
import Derived.Deep.AppendLies
import Derived.Deep.CutBlock
import Derived.Deep.DeepCutAuto
import Derived.Deep.Draws
import Derived.Deep.LoopGhost
import Derived.Deep.OwnRows
import Derived.Deep.QuietTactic
import Derived.Deep.RegionHeld3
import Derived.KernelRfl
import Derived.Laws.BitsLemmas
import Derived.Laws.BytesArg
import Derived.Laws.IdiomCopy
import Derived.Laws.MakeOwn
import Derived.Laws.OwnMore
import Derived.Laws.RangeAny
import Derived.Laws.Rows
import Derived.Laws.Slices
import Derived.Laws.StructEq
import Derived.Lib.AppendStr
import Derived.Lib.ConvBytes
import Derived.Lib.Hide
import Derived.Lib.OthersKept
import Derived.Lib.SliceRun
import Derived.Lib.TrimUEq
import Derived.Maps.AppendAt
import Derived.OrdersHeld
import Derived.Outline
import Derived.OwnWalk
import Derived.RowKit
import Derived.RowKit3
import Derived.Shelf.Slices.CompactS
import Derived.Shelf.Slices.In.SortNone
import Derived.Shelf.Small.Utf8
import Derived.Shelf.Sort.Plain
import Derived.Shelf.Strings.Builder1
import Derived.Shelf.Strings.Builder2
import Derived.Shelf.Strings.OnBuilder
import Derived.Shelf.Unicode.DecodeAny
import Derived.Shelf.Unicode.DecodeLast
import Derived.Shelf.Unicode.DecodeSlow
import Derived.SizedLaws
import Derived.Sort.OwnSorted
import Derived.Tactics
import Derived.Test.YtopmcoohdhlnaaaDoorProg
import Derived.WalkKit
import Derived.WalkSmall
import Derived.WalkSpells
import Derived.WideLaws
import Derived.Test.YtopmcoohdhlnaaaDoorG1
import Derived.Test.YtopmcoohdhlnaaaDoorG11
import Derived.Test.YtopmcoohdhlnaaaDoorG8
import Derived.Test.YtopmcoohdhlnaaaDoorG9
import Derived.Test.YtopmcoohdhlnaaaDoorM1
import Derived.Test.YtopmcoohdhlnaaaDoorM2
import Derived.Test.YtopmcoohdhlnaaaDoorM6
import Derived.Test.YtopmcoohdhlnaaaDoorM7
import Derived.Test.YtopmcoohdhlnaaaDoorPa1
import Derived.Test.YtopmcoohdhlnaaaDoorPa10
import Derived.Test.YtopmcoohdhlnaaaDoorPa11
import Derived.Test.YtopmcoohdhlnaaaDoorPa17
import Derived.Test.YtopmcoohdhlnaaaDoorPa18
import Derived.Test.YtopmcoohdhlnaaaDoorPa6
import Derived.Test.YtopmcoohdhlnaaaDoorPa8
import Derived.Test.YtopmcoohdhlnaaaDoorPa9
import Derived.Test.YtopmcoohdhlnaaaDoorPb17
import Derived.Test.YtopmcoohdhlnaaaDoorWKept
import Derived.Test.YtopmcoohdhlnaaaDoorWLast
import Derived.Test.YtopmcoohdhlnaaaDoorWMore
import Derived.Test.YtopmcoohdhlnaaaDoorWWords
namespace Go.Proofs.YtopmcoohdhlnaaaDoor.M
open Go Go.RowKit Go.Lib Go.Proofs Go.Proofs.YtopmcoohdhlnaaaDoorW.PrintWords Go.Proofs.YtopmcoohdhlnaaaDoorW.PrintLast Go.Proofs.YtopmcoohdhlnaaaDoorW.PrintMore
open G
set_option linter.unusedVariables false
set_option linter.unusedSimpArgs false
/-! ### words of digits that are none -/
/-- What is wrong with a word of digits below 4: its length, or a letter. -/
def wrongD (m : Nat) (x : ByteArray) : Int := if m < x.size then 3 else if badWord ⟨#[48, 49, 50, 51]⟩ x = true then 2 else 0
theorem check_dig (m : Nat) (hm : m ≤ 1000) (x : ByteArray) : mark_check.f (m : Int) ⟨#[48, 49, 50, 51]⟩ [x] = some (wrongD m x) := by
  unfold mark_check.f wrongD
  rw [if_pos ⟨by decide, by decide, by omega, by simp⟩]
  simp
theorem inSetD (c : Nat) : inSet ⟨#[48, 49, 50, 51]⟩ c = decide (48 ≤ c ∧ c < 52) := by
  unfold inSet
  rw [show (⟨#[48, 49, 50, 51]⟩ : ByteArray).size = 3 + 1 from rfl, inTake_succ _ 3 c (by decide), inTake_succ _ 2 c (by decide), inTake_succ _ 1 c (by decide), inTake_succ _ 0 c (by decide), inTake_zero]
  show ((((false || (48 == c)) || (49 == c)) || (50 == c)) || (51 == c)) = _
  rw [Bool.eq_iff_iff]
  simp only [Bool.or_eq_true, beq_iff_eq, decide_eq_true_eq, Bool.false_eq_true, false_or]
  omega
theorem badD (x : ByteArray) : badWord ⟨#[48, 49, 50, 51]⟩ x = x.data.toList.any fun b => !(decide (48 ≤ b.toNat ∧ b.toNat < 52)) := by
  unfold badWord
  congr 1
  funext b
  rw [inSetD]
theorem wordD_loop (x : ByteArray) (hx : x.size ≤ 100000) (d : Nat) : ∀ (k i : Nat), x.size - i = d → i ≤ x.size → d < k →
    Pa.pritchelref09_Word.l0 k x 4 (i : Int) = some (if (x.data.toList.drop i).any (fun b => !(decide (48 ≤ b.toNat ∧ b.toNat < 52))) = true then 2 else 0) := by
  induction d with
  | zero =>
    intro k i hd hi hk
    obtain ⟨k, rfl⟩ : ∃ m, k = m + 1 := ⟨k - 1, by omega⟩
    have : x.data.toList.drop i = [] := List.drop_eq_nil_of_le (by simp; show x.size ≤ i; omega)
    rw [this]
    simp only [Pa.pritchelref09_Word.l0]
    rw [if_neg (by omega)]
    simp
  | succ d ih =>
    intro k i hd hi hk
    obtain ⟨k, rfl⟩ : ∃ m, k = m + 1 := ⟨k - 1, by omega⟩
    have hlt : i < x.size := by omega
    have ew := w64succ i (by omega)
    have h := ih k (i + 1) (by omega) (by omega) (by omega)
    have c1 : (i : Int) < (x.size : Int) := by omega
    have c2 : (0 : Int) ≤ (i : Int) := by omega
    simp only [Pa.pritchelref09_Word.l0]
    rw [if_pos c1, if_pos c2, bt_nat x i hlt, bytes_drop x i hlt, ew, h, List.any_cons]
    obtain ⟨b, hb⟩ : ∃ b, (x[i]'hlt) = b := ⟨_, rfl⟩
    rw [hb]
    have hb2 : b.toNat < 256 := UInt8.toNat_lt b
    clear h ih hd hi hk
    by_cases h3 : (b.toNat : Int) < 48
    · rw [if_pos h3]
      have : ¬ (48 ≤ b.toNat ∧ b.toNat < 52) := by omega
      simp [this]
    · rw [if_neg h3]
      by_cases h4 : b.toNat < 52
      · rw [if_neg (by omega)]
        have : (48 ≤ b.toNat ∧ b.toNat < 52) := by omega
        simp [this]
      · rw [if_pos (by omega)]
        have : ¬ (48 ≤ b.toNat ∧ b.toNat < 52) := by omega
        simp [this]
theorem wordD_ev (m : Nat) (x : ByteArray) (hm : m ≤ 1000) (k : Nat) (hk : 1000 < k) : Pa.pritchelref09_Word.f k x 4 (m : Int) = some (wrongD m x) := by
  unfold Pa.pritchelref09_Word.f wrongD
  by_cases h : m < x.size
  · rw [if_pos (by omega), if_pos h]
  · rw [if_neg (by omega), if_neg h, badD]
    have := wordD_loop x (by omega) x.size k 0 (by omega) (by omega) (by omega)
    simpa using this
/-! ### the reference's steps -/
theorem rsteps_loop (x : ByteArray) (hx : x.size ≤ 100000) (d : Nat) : ∀ (k i : Nat) (acc : ByteArray), x.size - (i + 1) = d → i < x.size → d < k → acc.size = i →
    Pa.pritchelref09_Steps.l0 k x acc ((i + 1 : Nat) : Int) = some ⟨(lst acc ++ stepsF (x.data.toList.drop i)).toArray⟩ := by
  induction d with
  | zero =>
    intro k i acc hd hi hk hl
    obtain ⟨k, rfl⟩ : ∃ m, k = m + 1 := ⟨k - 1, by omega⟩
    rw [bytes_drop x i hi]
    have : x.data.toList.drop (i + 1) = [] := List.drop_eq_nil_of_le (by simp; show x.size ≤ i + 1; omega)
    rw [this]
    simp only [Pa.pritchelref09_Steps.l0]
    rw [if_neg (by omega)]
    simp [stepsF, lst]
  | succ d ih =>
    intro k i acc hd hi hk hl
    obtain ⟨k, rfl⟩ : ∃ m, k = m + 1 := ⟨k - 1, by omega⟩
    have hi1 : i + 1 < x.size := by omega
    have ew : wrap64 (((i + 1 : Nat) : Int) - 1) = (i : Int) := by rw [w64 (by omega) (by omega)]; omega
    have ew2 : wrap64 (((i + 1 : Nat) : Int) + 1) = ((i + 1 + 1 : Nat) : Int) := by rw [w64 (by omega) (by omega)]; omega
    simp only [Pa.pritchelref09_Steps.l0]
    rw [if_pos (by omega), if_pos (by omega), ew, if_pos (by omega), if_pos (by omega), bt_nat x (i + 1) hi1, bt_nat x i hi, ew2]
    rw [bytes_drop x i hi, bytes_drop x (i + 1) hi1]
    have sz : ∀ b : UInt8, (acc ++ (⟨#[b]⟩ : ByteArray)).size = i + 1 := fun b => by rw [ByteArray.size_append, hl]; rfl
    by_cases hc : (x[i]'hi).toNat ≤ (x[i + 1]'hi1).toNat
    · rw [if_pos (by omega), if_pos (by omega)]
      have := ih k (i + 1) (acc ++ ⟨#[49]⟩) (by omega) hi1 (by omega) (sz 49)
      rw [this, bytes_drop x (i + 1) hi1, lst_append]
      simp [stepsF, hc, lst]
    · rw [if_neg (by omega), if_pos (by omega)]
      have := ih k (i + 1) (acc ++ ⟨#[48]⟩) (by omega) hi1 (by omega) (sz 48)
      rw [this, bytes_drop x (i + 1) hi1, lst_append]
      simp [stepsF, hc, lst]
theorem rsteps_ev (x : ByteArray) (hx : x.size ≤ 100000) (k : Nat) (hk : x.size < k) : Pa.pritchelref09_Steps.f k x = some ⟨(stepsF x.data.toList).toArray⟩ := by
  unfold Pa.pritchelref09_Steps.f
  by_cases h0 : x.size = 0
  · obtain ⟨k, rfl⟩ : ∃ m, k = m + 1 := ⟨k - 1, by omega⟩
    have : x.data.toList = [] := List.eq_nil_of_length_eq_zero (by simpa using h0)
    rw [this]
    simp only [Pa.pritchelref09_Steps.l0]
    rw [if_neg (by omega)]
    rfl
  · have := rsteps_loop x hx (x.size - 1) k 0 ⟨#[]⟩ (by omega) (by omega) (by omega) rfl
    simpa [lst] using this
theorem steps_size (x : ByteArray) : (⟨(stepsF x.data.toList).toArray⟩ : ByteArray).size = x.size - 1 := by
  show (stepsF x.data.toList).toArray.size = _
  rw [List.size_toArray, stepsF_length, Array.length_toList]; rfl
/-! ### the reference's test of a word -/
theorem incode_loop (x : ByteArray) (hx : x.size ≤ 100000) (q a b : Nat) (hn : 0 < x.size) (hq : 0 < q) (d : Nat) : ∀ (k i acc : Nat), x.size - i = d → i ≤ x.size → d + x.size + 1 < k → acc + 255 * (x.size - i) ≤ 1000000000 →
    Pa.pritchelref09_InCode.l0 k (x.size : Int) q a b x (acc : Int) (i : Int) = some (decide ((acc + dsum (x.data.toList.drop i)) % q = b) && decide (vtF 1 (stepsF x.data.toList) % x.size = a)) := by
  induction d with
  | zero =>
    intro k i acc hd hi hk hb
    obtain ⟨k, rfl⟩ : ∃ m, k = m + 1 := ⟨k - 1, by omega⟩
    have : x.data.toList.drop i = [] := List.drop_eq_nil_of_le (by simp; show x.size ≤ i; omega)
    rw [this]
    simp only [Pa.pritchelref09_InCode.l0]
    rw [if_neg (by omega), if_pos trivial, if_neg (by omega), tmod_nat]
    have e0 : acc + dsum [] = acc := by simp [dsum]
    rw [e0]
    by_cases hb1 : acc % q = b
    · rw [if_pos (by omega), decide_eq_true hb1, Bool.true_and, rsteps_ev x hx k (by omega)]
      simp only [Option.bind_some]
      rw [rsum_ev _ (by rw [steps_size]; omega) k (by rw [steps_size]; omega)]
      simp only [Option.bind_some]
      rw [if_neg (by omega), tmod_nat, beq_nat]
      rfl
    · rw [if_neg (by omega), decide_eq_false hb1, Bool.false_and]
  | succ d ih =>
    intro k i acc hd hi hk hb
    obtain ⟨k, rfl⟩ : ∃ m, k = m + 1 := ⟨k - 1, by omega⟩
    have hlt : i < x.size := by omega
    rw [bytes_drop x i hlt]
    have hbt := bt_nat x i hlt
    obtain ⟨c, hc⟩ : ∃ c, (x[i]'hlt) = c := ⟨_, rfl⟩
    rw [hc] at hbt ⊢
    have hdv : dval c ≤ 255 := by unfold dval; omega
    have hcons : dsum (c :: x.data.toList.drop (i + 1)) = dval c + dsum (x.data.toList.drop (i + 1)) := by simp only [dsum, List.map_cons, List.sum_cons]
    rw [hcons]
    have hdi := dval_int c
    obtain ⟨v, hv⟩ : ∃ v, dval c = v := ⟨_, rfl⟩
    rw [hv] at hdv hdi ⊢
    have h1 : x.size - (i + 1) = d := by omega
    have h2 : i + 1 ≤ x.size := by omega
    have h3 : d + x.size + 1 < k := by omega
    have h4 : acc + v + 255 * (x.size - (i + 1)) ≤ 1000000000 := by omega
    have h := ih k (i + 1) (acc + v) h1 h2 h3 h4
    have c1 : (i : Int) < (x.size : Int) := by omega
    have c2 : (0 : Int) ≤ (i : Int) := by omega
    have b1 : i + 1 ≤ 1000000000000 := by omega
    have b2 : acc + v ≤ 1000000000000 := by omega
    have ew := w64succ i b1
    have ew2 := w64add acc v b2
    clear hb ih h1 h2 h3 h4
    simp only [Pa.pritchelref09_InCode.l0]
    rw [if_pos c1, if_pos c2, hbt, hdi, ew, ew2, h, Nat.add_assoc]
theorem incode_ev (n q a b : Nat) (x : ByteArray) (hs : x.size = n) (hn0 : 0 < n) (hq : 0 < q) (hn : n ≤ 1000) (k : Nat) (hk : 3000 < k) : Pa.pritchelref09_InCode.f k n q a b x = some (inD n q a b x) := by
  subst hs
  have h := incode_loop x (by omega) q a b hn0 hq x.size k 0 0 (by omega) (by omega) (by omega) (by omega)
  unfold Pa.pritchelref09_InCode.f inD
  rw [decide_eq_true rfl, Bool.true_and]
  rw [show ((0 : Nat) : Int) = 0 from rfl] at h
  rw [h, List.drop_zero, Nat.zero_add]
/-! ### all words of digits, by the reference -/
/-- The digits below a number. -/
def digs (q : Nat) : ByteArray := (⟨#[48, 49, 50, 51]⟩ : ByteArray).extract 0 q
theorem digs_all : ∀ q : Fin 5, lst (digs q.val) = ([48, 49, 50, 51] : List UInt8).take q.val := by decide +kernel
theorem digs_lst (q : Nat) (hq : q ≤ 4) : lst (digs q) = ([48, 49, 50, 51] : List UInt8).take q := digs_all ⟨q, by omega⟩
theorem digs_size (q : Nat) (hq : q ≤ 4) : (digs q).size = q := by
  rw [← lst_length, digs_lst q hq, List.length_take]
  show min q 4 = q
  omega
theorem digs_drop_all : ∀ q : Fin 5, ∀ c : Fin 4, c.val < q.val → (([48, 49, 50, 51] : List UInt8).take q.val).drop c.val = UInt8.ofNat (48 + c.val) :: (([48, 49, 50, 51] : List UInt8).take q.val).drop (c.val + 1) := by decide +kernel
theorem ext_drop (q : Nat) (hq : q ≤ 4) (w : ByteArray) (c : Nat) (hc : c < q) : (extW (digs q) w).drop c = (w ++ (⟨#[48, 49, 50, 51]⟩ : ByteArray).extract c (c + 1)) :: (extW (digs q) w).drop (c + 1) := by
  unfold extW
  rw [← List.map_drop, ← List.map_drop]
  have h := digs_drop_all ⟨q, by omega⟩ ⟨c, by omega⟩ hc
  have e := digs_lst q hq
  unfold lst at e
  rw [e, h, List.map_cons, catB_two, digit c (by omega)]
theorem all_l2 (n q : Nat) (hq : q ≤ 4) (L : List ByteArray) (hL : L.length ≤ 1000000) (j : Int) (i : Nat) (hi : i < L.length) (w : ByteArray) (hw : L.getD i ByteArray.empty = w) (hz : w.size ≤ 1000) :
    ∀ (d c : Nat), c + d = q → ∀ (k : Nat) (T : List ByteArray), T.length + d ≤ 10000000 →
    Pa.pritchelref09_All.l2 (k + (d + 1)) (n : Int) (q : Int) L j T (i : Int) (c : Int) = Pa.pritchelref09_All.l1 k (n : Int) (q : Int) L j (T ++ (extW (digs q) w).drop c) ((i + 1 : Nat) : Int) := by
  intro d
  induction d with
  | zero =>
    intro c hc k T hT
    have w1 := w64succ i (by omega)
    have : (extW (digs q) w).drop c = [] := List.drop_eq_nil_of_le (by rw [extW_length, digs_size q hq]; omega)
    rw [Pa.pritchelref09_All.l2, if_neg (by omega), w1, this, List.append_nil]
  | succ d ih =>
    intro c hc k T hT
    have w1 := w64succ c (by omega)
    have r : rdOf ByteArray.empty L (i : Int) = w := by rw [rdOf_nat]; exact hw
    have h := ih (c + 1) (by omega) k (T ++ [w ++ (⟨#[48, 49, 50, 51]⟩ : ByteArray).extract c (c + 1)]) (by rw [List.length_append, List.length_singleton]; omega)
    have hs : ((⟨#[48, 49, 50, 51]⟩ : ByteArray).extract c (c + 1)).size ≤ 1 := by rw [ByteArray.size_extract]; omega
    rw [show k + (d + 1 + 1) = (k + (d + 1)) + 1 from by omega, Pa.pritchelref09_All.l2]
    simp only [r, w1, Int.toNat_natCast]
    rw [if_pos (by omega), if_pos (by omega), if_pos (by omega), if_pos (by omega), if_pos (by omega), if_pos (by omega), if_pos (by omega), if_pos (by omega), h]
    rw [ext_drop q hq w c (by omega), List.append_assoc, List.singleton_append]
theorem all_l1 (n q : Nat) (hq : q ≤ 4) (L : List ByteArray) (hL : L.length ≤ 1000000) (hz : ∀ w ∈ L, w.size ≤ 1000) (j : Nat) (hj : j ≤ 1000) (d : Nat) : ∀ i, L.length - i = d → i ≤ L.length → ∃ c, ∀ k,
    Pa.pritchelref09_All.l1 (k + c) (n : Int) (q : Int) L (j : Int) (stepW (digs q) (L.take i)) (i : Int) = Pa.pritchelref09_All.l0 k (n : Int) (q : Int) (stepW (digs q) L) ((j + 1 : Nat) : Int) := by
  induction d with
  | zero =>
    intro i hd hi
    obtain rfl : i = L.length := by omega
    refine ⟨1, fun k => ?_⟩
    have w1 := w64succ j (by omega)
    rw [Pa.pritchelref09_All.l1, if_neg (by omega), List.take_length, w1]
  | succ d ih =>
    intro i hd hi
    have hlt : i < L.length := by omega
    obtain ⟨c, hc⟩ := ih (i + 1) (by omega) (by omega)
    obtain ⟨w, hw⟩ : ∃ w, L.getD i ByteArray.empty = w := ⟨_, rfl⟩
    have hg : L[i]'hlt = w := by rw [← hw, List.getD_eq_getElem?_getD, List.getElem?_eq_getElem hlt]; rfl
    have hwz : w.size ≤ 1000 := hz w (hg ▸ List.getElem_mem hlt)
    refine ⟨c + (q + 1) + 1, fun k => ?_⟩
    have hlen : (stepW (digs q) (L.take i)).length ≤ 4000000 := by
      rw [stepW_length, digs_size q hq, List.length_take]
      have := Nat.mul_le_mul (show min i L.length ≤ 1000000 by omega) hq
      omega
    have h := all_l2 n q hq L hL (j : Int) i hlt w hw hwz q 0 (by omega) (k + c) (stepW (digs q) (L.take i)) (by omega)
    rw [List.drop_zero] at h
    have hk := hc k
    rw [stepW_take_succ _ _ _ hlt, hg] at hk
    rw [show k + (c + (q + 1) + 1) = (k + c + (q + 1)) + 1 from by omega, Pa.pritchelref09_All.l1, if_pos (by omega)]
    rw [show ((0 : Nat) : Int) = 0 from rfl] at h
    rw [h, hk]
theorem allW_len6 (q : Nat) (hq : q ≤ 4) (j : Nat) (hj : j ≤ 6) : (allW (digs q) j).length ≤ 4096 := by
  rw [allW_length, digs_size q hq]
  refine Nat.le_trans (Nat.pow_le_pow_left hq j) ?_
  exact Nat.pow_le_pow_right (n := 4) (by omega) hj
theorem all_l0 (n q : Nat) (hn : n ≤ 6) (hq : q ≤ 4) (d : Nat) : ∀ j, n - j = d → j ≤ n → ∃ c, ∀ k,
    Pa.pritchelref09_All.l0 (k + c) (n : Int) (q : Int) (allW (digs q) j) (j : Int) = some (allW (digs q) n) := by
  induction d with
  | zero =>
    intro j hd hj
    obtain rfl : j = n := by omega
    refine ⟨1, fun k => ?_⟩
    rw [Pa.pritchelref09_All.l0, if_neg (by omega)]
  | succ d ih =>
    intro j hd hj
    obtain ⟨c, hc⟩ := ih (j + 1) (by omega) (by omega)
    obtain ⟨c1, h1⟩ := all_l1 n q hq (allW (digs q) j) (by have := allW_len6 q hq j (by omega); omega) (fun w hw => by rw [allW_size _ _ _ hw]; omega) j (by omega) (allW (digs q) j).length 0 (by omega) (by omega)
    refine ⟨c + c1 + 1, fun k => ?_⟩
    have h := h1 (k + c)
    rw [List.take_zero, show ((0 : Nat) : Int) = 0 from rfl] at h
    have hk := hc k
    rw [show k + (c + c1 + 1) = (k + c + c1) + 1 from by omega, Pa.pritchelref09_All.l0, if_pos (by omega)]
    rw [show stepW (digs q) [] = [] from rfl] at h
    rw [h]
    exact hk
theorem all_ev (n q : Nat) (hn : n ≤ 6) (hq : q ≤ 4) : ∃ c, ∀ k, c ≤ k → Pa.pritchelref09_All.f k (n : Int) (q : Int) = some (allW (digs q) n) := by
  obtain ⟨c, hc⟩ := all_l0 n q hn hq n 0 (by omega) (by omega)
  refine ⟨c, fun k hk => ?_⟩
  have := hc (k - c)
  rw [Nat.sub_add_cancel hk] at this
  exact this
/-! ### the words of a code of digits -/
def wordsD (n q a b : Nat) : List ByteArray := (allW (digs q) n).filter (inD n q a b)
theorem rdigits_loop (n q a b : Nat) (hn0 : 0 < n) (hq : 0 < q) (hn : n ≤ 1000) (L : List ByteArray) (hL : L.length ≤ 1000000) (hz : ∀ w ∈ L, w.size = n) (d : Nat) : ∀ (k i : Nat), L.length - i = d → i ≤ L.length → d + 3001 < k →
    Pa.pritchelref09_Digits.l0 k (n : Int) (q : Int) (a : Int) (b : Int) L ((L.take i).filter (inD n q a b)) (i : Int) = some (L.filter (inD n q a b)) := by
  induction d with
  | zero =>
    intro k i hd hi hk
    obtain ⟨k, rfl⟩ : ∃ m, k = m + 1 := ⟨k - 1, by omega⟩
    obtain rfl : i = L.length := by omega
    simp only [Pa.pritchelref09_Digits.l0]
    rw [if_neg (by omega), List.take_length]
  | succ d ih =>
    intro k i hd hi hk
    obtain ⟨k, rfl⟩ : ∃ m, k = m + 1 := ⟨k - 1, by omega⟩
    have hlt : i < L.length := by omega
    have hw := hz _ (List.getElem_mem hlt)
    have r : rdOf ByteArray.empty L (i : Int) = L[i]'hlt := rd_nat L i hlt
    have h := ih k (i + 1) (by omega) (by omega) (by omega)
    have ew := w64succ i (by omega)
    have hlen : ((L.take i).filter (inD n q a b)).length < 8796093022208 := by
      have := List.length_filter_le (inD n q a b) (L.take i)
      rw [List.length_take] at this
      omega
    rw [List.take_succ_eq_append_getElem hlt, List.filter_append, List.filter_cons, List.filter_nil] at h
    simp only [Pa.pritchelref09_Digits.l0]
    rw [if_pos (by omega), if_pos (by omega), r, incode_ev n q a b _ hw hn0 hq hn k (by omega), Option.bind_some]
    by_cases hp : inD n q a b (L[i]'hlt) = true
    · rw [if_pos hp] at h ⊢
      rw [if_pos hlen, ew, h]
    · rw [if_neg hp] at h ⊢
      rw [List.append_nil] at h
      rw [ew, h]
theorem wordsD_len (n q a b : Nat) (hn : n ≤ 6) (hq : q ≤ 4) : (wordsD n q a b).length ≤ 4096 := Nat.le_trans (List.length_filter_le _ _) (allW_len6 q hq n hn)
theorem rdigits_ev (n q a b : Nat) (hn0 : 0 < n) (hn : n ≤ 6) (hq0 : 0 < q) (hq : q ≤ 4) : ∃ c, ∀ k, c ≤ k → Pa.pritchelref09_Digits.f k (n : Int) (q : Int) (a : Int) (b : Int) = some (wordsD n q a b) := by
  obtain ⟨c, hc⟩ := all_ev n q hn hq
  have hl := allW_len6 q hq n hn
  refine ⟨c + 10000, fun k hk => ?_⟩
  unfold Pa.pritchelref09_Digits.f
  rw [hc k (by omega), Option.bind_some]
  have h := rdigits_loop n q a b hn0 hq0 (by omega) (allW (digs q) n) (by omega) (fun w hw => allW_size _ _ _ hw) _ k 0 rfl (by omega) (by omega)
  exact h
/-- The numbers of a code of digits. -/
def fitsD (n q a b : Int) : Prop := n ≥ 2 ∧ n ≤ 6 ∧ q ≥ 2 ∧ q ≤ 4 ∧ a ≥ 0 ∧ a < n ∧ b ≥ 0 ∧ b < q
instance (n q a b : Int) : Decidable (fitsD n q a b) := by unfold fitsD; exact inferInstance
theorem fitsD_iff (n q a b : Int) : fitsD n q a b ↔ (n ≥ 2 ∧ n ≤ 6 ∧ q ≥ 2 ∧ q ≤ 4 ∧ a ≥ 0 ∧ a < n ∧ b ≥ 0 ∧ b < q) := Iff.rfl
theorem fits_ev (n q a b : Int) : Pa.pritchellaw09_Code_fits.f n q a b 6 = some (decide (fitsD n q a b)) := by
  unfold Pa.pritchellaw09_Code_fits.f
  repeat' split
  all_goals (congr 1; rw [Bool.eq_iff_iff]; simp only [decide_eq_true_eq, Bool.false_eq_true, fitsD_iff, false_iff]; omega)
theorem digitCode_ev (n q a b : Int) : Pa.mark_digitCode.f n q a b 6 = some (1, n, q, a, b, decide (fitsD n q a b)) := by
  unfold Pa.mark_digitCode.f
  repeat' split
  all_goals (rw [show ∀ x y : Bool, x = y → some ((1 : Int), n, q, a, b, x) = some (1, n, q, a, b, y) from fun _ _ h => by rw [h]]; rw [Bool.eq_iff_iff]; simp only [decide_eq_true_eq, Bool.false_eq_true, fitsD_iff, false_iff]; omega)
theorem alphabet_ev (n q a b : Nat) (hq : q ≤ 4) : Pa.mark_code_alphabet.f 1 (n : Int) (q : Int) (a : Int) (b : Int) = some (digs q) := by
  unfold Pa.mark_code_alphabet.f digs
  simp
  omega
theorem digs_ok : ∀ q : Fin 5, okSet (digs q.val) = true := by decide +kernel
theorem Digits_ev (n q a b : Int) : Pb.mark_Digits.f n q a b = some (if fitsD n q a b then (wordsD n.toNat q.toNat a.toNat b.toNat, 0) else ([], 1)) := by
  unfold Pb.mark_Digits.f
  rw [digitCode_ev, Option.bind_some]
  dsimp only
  by_cases h : fitsD n q a b
  · rw [decide_eq_true h, if_pos rfl, if_pos h]
    obtain ⟨h1, h2, h3, h4, h5, h6, h7, h8⟩ := h
    obtain ⟨n, rfl⟩ := Int.eq_ofNat_of_zero_le (show 0 ≤ n by omega)
    obtain ⟨q, rfl⟩ := Int.eq_ofNat_of_zero_le (show 0 ≤ q by omega)
    obtain ⟨a, rfl⟩ := Int.eq_ofNat_of_zero_le (show 0 ≤ a by omega)
    obtain ⟨b, rfl⟩ := Int.eq_ofNat_of_zero_le (show 0 ≤ b by omega)
    unfold G.mark_code_words.f
    rw [if_pos ⟨by unfold okCode; exact ⟨by omega, by omega, by omega, Or.inr ⟨rfl, by omega, by omega, by omega⟩⟩, by omega⟩]
    rw [alphabet_ev n q a b (by omega), Option.bind_some, if_pos ⟨digs_ok ⟨q, by omega⟩, by rw [digs_size q (by omega)]; omega, by rw [digs_size q (by omega)]; omega⟩, Option.bind_some]
    have : inB 1 (n : Int) (q : Int) (a : Int) (b : Int) = inD n q a b := by
      funext x
      unfold inB
      rw [if_neg (by decide)]
      simp
    rw [this]
    simp only [Int.toNat_natCast]
    rfl
  · rw [decide_eq_false h, if_neg (by decide), if_neg h]
end Go.Proofs.YtopmcoohdhlnaaaDoor.M
