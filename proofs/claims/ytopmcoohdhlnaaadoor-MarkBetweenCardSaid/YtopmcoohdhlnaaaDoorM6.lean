/- Plain laws: Varshamov and Tenengolts' code: one letter taken out of two words, or put into them, alike by n + 1, at the same outcome: it is one word (Levenshtein); the words that a law derives from numbers. -/
import Derived.Test.YtopmcoohdhlnaaaDoorM2
import Derived.Test.YtopmcoohdhlnaaaDoorPa12
namespace Go.Proofs.YtopmcoohdhlnaaaDoor.M
open Go Go.RowKit Go.Lib Go.Proofs Go.Proofs.YtopmcoohdhlnaaaDoorW.PrintWords Go.Proofs.YtopmcoohdhlnaaaDoorW.PrintLast Go.Proofs.YtopmcoohdhlnaaaDoorW.PrintMore
open G
set_option linter.unusedVariables false
set_option linter.unusedSimpArgs false
def bin (l : List UInt8) : Prop := ∀ b ∈ l, b = 48 ∨ b = 49
def lst (x : ByteArray) : List UInt8 := x.data.toList
theorem lst_inj {x y : ByteArray} (h : lst x = lst y) : x = y := ByteArray.ext (Array.toList_inj.1 h)
theorem lst_append (x y : ByteArray) : lst (x ++ y) = lst x ++ lst y := by simp [lst]
theorem lst_length (x : ByteArray) : (lst x).length = x.size := by simp [lst]
theorem lst_extract (x : ByteArray) (i j : Nat) : lst (x.extract i j) = ((lst x).take j).drop i := by
  unfold lst
  rw [ByteArray.data_extract, Array.toList_extract, List.extract_eq_take_drop, List.take_drop]
  by_cases h : i ≤ j
  · rw [show i + (j - i) = j from by omega]
  · rw [show j - i = 0 from by omega, Nat.add_zero]
    rw [List.drop_eq_nil_of_le (by rw [List.length_take]; omega), List.drop_eq_nil_of_le (by rw [List.length_take]; omega)]
theorem wrong_bin {m : Nat} {x : ByteArray} (hs : x.size ≤ m) (hb : bin (lst x)) : wrong m x = 0 := by
  unfold wrong
  rw [if_neg (by omega), badF, if_neg]
  rw [List.any_eq_true]
  rintro ⟨b, hm, hx⟩
  rcases hb b hm with rfl | rfl <;> simp at hx
theorem letter_bin (k : Nat) (h : k < 2) : UInt8.ofNat (48 + k) = 48 ∨ UInt8.ofNat (48 + k) = 49 := by
  rcases (show k = 0 ∨ k = 1 by omega) with rfl | rfl
  · exact Or.inl (by decide)
  · exact Or.inr (by decide)
/-! ### words out of numbers -/
theorem digit (c : Nat) (hc : c < 4) : (⟨#[48, 49, 50, 51]⟩ : ByteArray).extract c (c + 1) = ⟨#[UInt8.ofNat (48 + c)]⟩ := by
  rcases (show c = 0 ∨ c = 1 ∨ c = 2 ∨ c = 3 by omega) with rfl | rfl | rfl | rfl <;> decide +kernel
def lettersBelow (q : Nat) (l : List UInt8) : Prop := ∀ b ∈ l, ∃ c, c < q ∧ b = UInt8.ofNat (48 + c)
theorem u8_range {x : Int} (h : (Lit.int .u8 x).wf = true) : 0 ≤ x ∧ x ≤ 255 := by
  have m1 : IntKind.u8.min = 0 := by decide
  have m2 : IntKind.u8.max = 255 := by decide
  simp [Lit.wf] at h
  omega
theorem law_word_loop (l : List Int) (hl : ∀ x ∈ l, (Lit.int .u8 x).wf = true) (q m : Nat) (hq : 1 ≤ q ∧ q ≤ 4) (hm : m ≤ 1000) (d : Nat) : ∀ (k i : Nat) (acc : ByteArray), min l.length m - i = d → i ≤ min l.length m → d < k → acc.size = i → lettersBelow q (lst acc) →
    ∃ s, Pa.pritchellaw09_word.l0 k l (q : Int) (m : Int) acc (i : Int) = some s ∧ s.size = min l.length m ∧ lettersBelow q (lst s) := by
  induction d with
  | zero =>
    intro k i acc hd hi hk ha hb
    obtain ⟨k, rfl⟩ : ∃ m, k = m + 1 := ⟨k - 1, by omega⟩
    refine ⟨acc, ?_, by omega, hb⟩
    simp only [Pa.pritchellaw09_word.l0]
    by_cases h1 : (i : Int) < (l.length : Int)
    · rw [if_pos h1, if_neg (by omega)]
    · rw [if_neg h1]
  | succ d ih =>
    intro k i acc hd hi hk ha hb
    obtain ⟨k, rfl⟩ : ∃ m, k = m + 1 := ⟨k - 1, by omega⟩
    have hlt : i < l.length := by omega
    have hx := hl (l[i]) (List.getElem_mem hlt)
    have hrd : rd l (i : Int) = l[i] := by unfold rd; simp [hlt]
    have hx0 : 0 ≤ l[i] ∧ l[i] ≤ 255 := u8_range hx
    obtain ⟨x, hxe⟩ := Int.eq_ofNat_of_zero_le hx0.1
    have hx255 : x ≤ 1000000000000 := by omega
    have hc : x % q < q := Nat.mod_lt _ (by omega)
    obtain ⟨c, hce⟩ : ∃ c, x % q = c := ⟨_, rfl⟩
    rw [hce] at hc
    have b1 : c + 1 ≤ 1000000000000 := by omega
    have b2 : i + 1 ≤ 1000000000000 := by omega
    have b3 : c < 4 := by omega
    have b4 : min l.length m - (i + 1) = d := by omega
    have b5 : i + 1 ≤ min l.length m := by omega
    have b6 : d < k := by omega
    have c1 : (i : Int) < (l.length : Int) := by omega
    have c2 : (i : Int) < (m : Int) := by omega
    have c3 : (0 : Int) ≤ (i : Int) := by omega
    have c4 : ¬ ((q : Int) = 0) := by omega
    have c5 : (0 : Int) ≤ (c : Int) := by omega
    have c6 : (c : Int) ≤ ((c + 1 : Nat) : Int) := by omega
    have c7 : ((c + 1 : Nat) : Int) ≤ 4 := by omega
    have e1 : ((c : Int)).toNat = c := by omega
    have e2 : (((c + 1 : Nat) : Int)).toNat = c + 1 := by omega
    have c8 : i + 1 ≤ 9223372036854775807 := by omega
    have hdig := digit c b3
    have hsz : (acc ++ (⟨#[UInt8.ofNat (48 + c)]⟩ : ByteArray)).size = i + 1 := by rw [ByteArray.size_append, ha]; rfl
    have hsz1 : (⟨#[UInt8.ofNat (48 + c)]⟩ : ByteArray).size = 1 := rfl
    obtain ⟨s, hs, hs1, hs2⟩ := ih k (i + 1) (acc ++ ⟨#[UInt8.ofNat (48 + c)]⟩) b4 b5 b6 hsz (by
      intro b hm
      rw [lst_append, List.mem_append] at hm
      rcases hm with hm | hm
      · exact hb b hm
      · have : b = UInt8.ofNat (48 + c) := by simpa [lst] using hm
        exact ⟨c, hc, this⟩)
    refine ⟨s, ?_, hs1, hs2⟩
    have ec : Int.tmod (wrap64 (rd l (i : Int))) (q : Int) = ((c : Nat) : Int) := by
      rw [hrd, hxe, w64n x hx255, tmod_nat, hce]
    have ew := w64succ c b1
    have ew2 := w64succ i b2
    simp only [Pa.pritchellaw09_word.l0]
    rw [if_pos c1, if_pos c2, if_pos c3, if_neg c4, ec, if_pos c5, ew, if_pos c6, if_pos c7, e1, e2, hdig, if_pos (by rw [ha, hsz1]; exact c8), ew2, hs]
theorem law_word (l : List Int) (hl : ∀ x ∈ l, (Lit.int .u8 x).wf = true) (q m : Nat) (hq : 1 ≤ q ∧ q ≤ 4) (hm : m ≤ 1000) (k : Nat) (hk : 1000 < k) : ∃ s, Pa.pritchellaw09_word.f k l (q : Int) (m : Int) = some s ∧ s.size = min l.length m ∧ lettersBelow q (lst s) := by
  unfold Pa.pritchellaw09_word.f
  exact law_word_loop l hl q m hq hm (min l.length m) k 0 ⟨#[]⟩ (by omega) (by omega) (by omega) rfl (fun b h => by simp [lst] at h)
theorem below_bin {l : List UInt8} (h : lettersBelow 2 l) : bin l := fun b hb => by
  obtain ⟨c, hc, rfl⟩ := h b hb
  exact letter_bin c hc
end Go.Proofs.YtopmcoohdhlnaaaDoor.M
