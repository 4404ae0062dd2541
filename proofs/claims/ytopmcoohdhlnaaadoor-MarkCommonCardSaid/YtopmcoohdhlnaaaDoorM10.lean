/- Plain laws: the table's string is a subsequence of both words, and none of their common subsequences is better; the reference's test of a subsequence. -/
import Derived.ArgAppend
import Derived.Below
import Derived.BigQuiet
import Derived.ChangeSlices
import Derived.Deep.AppendLies
import Derived.Deep.CutBlock
import Derived.Deep.DeepCutAuto
import Derived.Deep.Draws
import Derived.Deep.LoopGhost
import Derived.Deep.OwnRows
import Derived.Deep.QuietTactic
import Derived.Deep.RegionHeld3
import Derived.KernelRfl
import Derived.Laws.BitsLemmas
import Derived.Laws.BytesArg
import Derived.Laws.IdiomCopy
import Derived.Laws.MakeOwn
import Derived.Laws.OwnMore
import Derived.Laws.RangeAny
import Derived.Laws.Rows
import Derived.Laws.Slices
import Derived.Laws.StructEq
import Derived.Lib.AppendStr
import Derived.Lib.ConvBytes
import Derived.Lib.Hide
import Derived.Lib.OthersKept
import Derived.Lib.SliceRun
import Derived.Lib.TrimUEq
import Derived.Maps.AppendAt
import Derived.OrdersHeld
import Derived.Outline
import Derived.OwnWalk
import Derived.RowKit
import Derived.RowKit3
import Derived.Shelf.Slices.CompactS
import Derived.Shelf.Slices.In.SortNone
import Derived.Shelf.Small.Utf8
import Derived.Shelf.Sort.Plain
import Derived.Shelf.Strings.Builder1
import Derived.Shelf.Strings.Builder2
import Derived.Shelf.Strings.OnBuilder
import Derived.Shelf.Unicode.DecodeAny
import Derived.Shelf.Unicode.DecodeLast
import Derived.Shelf.Unicode.DecodeSlow
import Derived.SizedLaws
import Derived.Sort.OwnSorted
import Derived.Tactics
import Derived.Test.YtopmcoohdhlnaaaDoorProg
import Derived.WalkKit
import Derived.WalkSmall
import Derived.WalkSpells
import Derived.WideLaws
import Derived.Test.YtopmcoohdhlnaaaDoorM1
import Derived.Test.YtopmcoohdhlnaaaDoorM6
import Derived.Test.YtopmcoohdhlnaaaDoorM7
import Derived.Test.YtopmcoohdhlnaaaDoorPa3
import Derived.Test.YtopmcoohdhlnaaaDoorWLast
import Derived.Test.YtopmcoohdhlnaaaDoorWMore
import Derived.Test.YtopmcoohdhlnaaaDoorWWords
namespace Go.Proofs.YtopmcoohdhlnaaaDoor.M
open Go Go.RowKit Go.Lib Go.Proofs Go.Proofs.YtopmcoohdhlnaaaDoorW.PrintWords Go.Proofs.YtopmcoohdhlnaaaDoorW.PrintLast Go.Proofs.YtopmcoohdhlnaaaDoorW.PrintMore
open G
set_option linter.unusedVariables false
set_option linter.unusedSimpArgs false
/-- y is no better than x: shorter, or as long and not less. -/
def nb (y x : ByteArray) : Prop := y.size < x.size ∨ (y.size = x.size ∧ lst x ≤ lst y)
theorem betB_lst (y x : ByteArray) : betB y x = true ↔ x.size < y.size ∨ (y.size = x.size ∧ lst y < lst x) := by
  unfold betB
  rw [bytesLess_eq, toList_data, toList_data]
  by_cases h1 : x.size < y.size
  · simp [h1]
  · by_cases h2 : y.size = x.size
    · simp [h1, h2, lst]
    · simp [h1, h2]
theorem nb_iff (y x : ByteArray) : nb y x ↔ betB y x = false := by
  rw [← Bool.not_eq_true, betB_lst]
  unfold nb
  constructor
  · rintro (h | ⟨h1, h2⟩)
    · rintro (h3 | ⟨h3, h4⟩) <;> omega
    · rintro (h3 | ⟨h3, h4⟩)
      · omega
      · exact absurd h4 (List.not_lt.2 h2)
  · intro h
    by_cases h1 : y.size < x.size
    · exact Or.inl h1
    · refine Or.inr ⟨?_, ?_⟩
      · by_cases h2 : x.size < y.size
        · exact absurd (Or.inl h2) h
        · omega
      · exact List.not_lt.1 fun h3 => h (Or.inr ⟨by
          by_cases h2 : x.size < y.size
          · exact absurd (Or.inl h2) h
          · omega, h3⟩)
theorem nb_refl (x : ByteArray) : nb x x := Or.inr ⟨rfl, List.le_refl _⟩
theorem nb_trans {a b c : ByteArray} (h1 : nb a b) (h2 : nb b c) : nb a c := by
  rcases h1 with h1 | ⟨h1, h3⟩ <;> rcases h2 with h2 | ⟨h2, h4⟩
  · exact Or.inl (by omega)
  · exact Or.inl (by omega)
  · exact Or.inl (by omega)
  · exact Or.inr ⟨by omega, List.le_trans h4 h3⟩
theorem nb_left (x y : ByteArray) : nb x (bet x y) := by
  unfold bet
  by_cases h : betB y x = true
  · rw [if_pos h]
    rcases (betB_lst y x).1 h with h | ⟨h1, h2⟩
    · exact Or.inl h
    · exact Or.inr ⟨h1.symm, List.le_of_lt h2⟩
  · rw [if_neg h]; exact nb_refl x
theorem nb_right (x y : ByteArray) : nb y (bet x y) := by
  unfold bet
  by_cases h : betB y x = true
  · rw [if_pos h]; exact nb_refl y
  · rw [if_neg h]; exact (nb_iff y x).2 (by simpa using h)
theorem bet_or (x y : ByteArray) : bet x y = x ∨ bet x y = y := by
  unfold bet
  split
  · exact Or.inr rfl
  · exact Or.inl rfl
theorem lst_drop_cons (s : ByteArray) (i : Nat) (h : i < s.size) : (lst s).drop i = (s[i]'h) :: (lst s).drop (i + 1) := bytes_drop s i h
theorem lst_one (s : ByteArray) (i : Nat) (h : i < s.size) : lst (s.extract i (i + 1)) = [s[i]'h] := by
  have hl : i < (lst s).length := by rw [lst_length]; exact h
  rw [lst_extract, List.take_succ_eq_append_getElem hl, List.drop_append_of_le_length (by rw [List.length_take]; omega), List.drop_eq_nil_of_le (by rw [List.length_take]; omega)]
  rfl
theorem dp_sub (s t : ByteArray) : ∀ d i j, (s.size - i) + (t.size - j) = d → (lst (dp s t i j)).Sublist ((lst s).drop i) ∧ (lst (dp s t i j)).Sublist ((lst t).drop j) := by
  intro d
  induction d using Nat.strongRecOn with
  | ind d ih =>
    intro i j hd
    by_cases h : i < s.size ∧ j < t.size
    · obtain ⟨hi, hj⟩ := h
      have h1 := ih _ (by omega) (i + 1) j rfl
      have h2 := ih _ (by omega) i (j + 1) rfl
      have h3 := ih _ (by omega) (i + 1) (j + 1) rfl
      rw [lst_drop_cons s i hi] at h2 ⊢
      rw [lst_drop_cons t j hj] at h1 ⊢
      have hx : ∀ x, x = dp s t (i + 1) j ∨ x = dp s t i (j + 1) → (lst x).Sublist ((s[i]'hi) :: (lst s).drop (i + 1)) ∧ (lst x).Sublist ((t[j]'hj) :: (lst t).drop (j + 1)) := by
        rintro x (rfl | rfl)
        · exact ⟨List.Sublist.cons _ h1.1, h1.2⟩
        · exact ⟨h2.1, List.Sublist.cons _ h2.2⟩
      have hb := hx _ (bet_or (dp s t (i + 1) j) (dp s t i (j + 1)))
      rw [dp_step s t i j hi hj]
      by_cases he : s[i]'hi = t[j]'hj
      · rw [if_pos he]
        rcases bet_or (bet (dp s t (i + 1) j) (dp s t i (j + 1))) (s.extract i (i + 1) ++ dp s t (i + 1) (j + 1)) with e | e
        · rw [e]; exact hb
        · rw [e, lst_append, lst_one s i hi]
          refine ⟨List.Sublist.cons_cons _ h3.1, ?_⟩
          rw [he]
          exact List.Sublist.cons_cons _ h3.2
      · rw [if_neg he]; exact hb
    · rw [dp_end s t i j h]
      exact ⟨List.nil_sublist _, List.nil_sublist _⟩
theorem cons_le {c : UInt8} {a b : List UInt8} (h : a ≤ b) : c :: a ≤ c :: b := by
  refine List.not_lt.1 fun h2 => ?_
  rcases List.cons_lt_cons_iff.1 h2 with h3 | ⟨_, h3⟩
  · exact absurd h3 (UInt8.lt_irrefl c)
  · exact absurd h3 (List.not_lt.2 h)
theorem dp_best (s t : ByteArray) : ∀ d i j, (s.size - i) + (t.size - j) = d → ∀ u : ByteArray, (lst u).Sublist ((lst s).drop i) → (lst u).Sublist ((lst t).drop j) → nb u (dp s t i j) := by
  intro d
  induction d using Nat.strongRecOn with
  | ind d ih =>
    intro i j hd u hu1 hu2
    by_cases h : i < s.size ∧ j < t.size
    · obtain ⟨hi, hj⟩ := h
      have hx : nb u (dp s t (i + 1) j) ∨ nb u (dp s t i (j + 1)) → nb u (dp s t i j) := by
        intro h
        have hb : nb u (bet (dp s t (i + 1) j) (dp s t i (j + 1))) := h.elim (fun h => nb_trans h (nb_left _ _)) (fun h => nb_trans h (nb_right _ _))
        rw [dp_step s t i j hi hj]
        split
        · exact nb_trans hb (nb_left _ _)
        · exact hb
      rw [lst_drop_cons s i hi] at hu1
      rw [lst_drop_cons t j hj] at hu2
      rcases List.sublist_cons_iff.1 hu1 with a1 | ⟨r1, e1, a1⟩
      · exact hx (Or.inl (ih _ (by omega) (i + 1) j rfl u a1 (by rw [lst_drop_cons t j hj]; exact hu2)))
      · rcases List.sublist_cons_iff.1 hu2 with a2 | ⟨r2, e2, a2⟩
        · exact hx (Or.inr (ih _ (by omega) i (j + 1) rfl u (by rw [lst_drop_cons s i hi]; exact hu1) a2))
        · rw [e1] at e2
          injection e2 with e3 e4
          have hr : nb ⟨r1.toArray⟩ (dp s t (i + 1) (j + 1)) := ih _ (by omega) (i + 1) (j + 1) rfl ⟨r1.toArray⟩ a1 (by show r1.Sublist _; rw [e4]; exact a2)
          have hl : lst (s.extract i (i + 1) ++ dp s t (i + 1) (j + 1)) = (s[i]'hi) :: lst (dp s t (i + 1) (j + 1)) := by rw [lst_append, lst_one s i hi]; rfl
          have hz : (s.extract i (i + 1) ++ dp s t (i + 1) (j + 1)).size = (dp s t (i + 1) (j + 1)).size + 1 := by rw [← lst_length, hl, List.length_cons, lst_length]
          have hus : u.size = r1.length + 1 := by rw [← lst_length, e1, List.length_cons]
          have hk : nb u (s.extract i (i + 1) ++ dp s t (i + 1) (j + 1)) := by
            rcases hr with hr | ⟨hr, hr2⟩
            · refine Or.inl ?_
              rw [hz, hus]
              have : (⟨r1.toArray⟩ : ByteArray).size = r1.length := rfl
              omega
            · refine Or.inr ⟨?_, ?_⟩
              · rw [hz, hus]
                have : (⟨r1.toArray⟩ : ByteArray).size = r1.length := rfl
                omega
              · rw [hl, e1]
                exact cons_le hr2
          rw [dp_step s t i j hi hj, if_pos e3]
          exact nb_trans hk (nb_right _ _)
    · have hn : lst u = [] := by
        by_cases h1 : i < s.size
        · have : t.size ≤ j := by omega
          rw [List.drop_eq_nil_of_le (by rw [lst_length]; exact this)] at hu2
          exact List.sublist_nil.1 hu2
        · rw [List.drop_eq_nil_of_le (by rw [lst_length]; omega)] at hu1
          exact List.sublist_nil.1 hu1
      have : u = ByteArray.empty := lst_inj (by rw [hn]; rfl)
      rw [dp_end s t i j h, this]
      exact nb_refl _
/-! ### the reference's test -/
theorem part_loop (x t : ByteArray) (hx : x.size ≤ 1000) (ht : t.size ≤ 1000) (d : Nat) : ∀ (k i j : Nat), t.size - j = d → j ≤ t.size → i ≤ x.size → 2 * d + 1 < k →
    Pa.pritchelref09_Part.l0 k x t (i : Int) (j : Int) = some (decide (((lst x).drop i).Sublist ((lst t).drop j))) := by
  induction d with
  | zero =>
    intro k i j hd hj hi hk
    obtain ⟨k, rfl⟩ : ∃ m, k = m + 1 + 1 := ⟨k - 2, by omega⟩
    rw [Pa.pritchelref09_Part.l0, if_neg (by omega), Pa.pritchelref09_Part.j1, if_neg (by simp)]
    have e : (lst t).drop j = [] := List.drop_eq_nil_of_le (by rw [lst_length]; omega)
    rw [e, beq_nat]
    congr 1
    apply decide_eq_decide.2
    rw [List.sublist_nil, List.drop_eq_nil_iff, lst_length]
    omega
  | succ d ih =>
    intro k i j hd hj hi hk
    obtain ⟨k, rfl⟩ : ∃ m, k = m + 1 + 1 := ⟨k - 2, by omega⟩
    have hjl : j < t.size := by omega
    rw [Pa.pritchelref09_Part.l0, if_pos (by omega), Pa.pritchelref09_Part.j1]
    by_cases h : i < x.size
    · have w1 := w64succ i (by omega)
      have w2 := w64succ j (by omega)
      rw [if_pos (by simp; omega), if_pos (by omega), if_pos (by omega), if_pos (by omega), if_pos (by omega), bt_nat t j hjl, bt_nat x i h, w1, w2, ih k (i + 1) (j + 1) (by omega) (by omega) (by omega) (by omega), ih k i (j + 1) (by omega) (by omega) (by omega) (by omega), lst_drop_cons x i h, lst_drop_cons t j hjl]
      by_cases e : t[j]'hjl = x[i]'h
      · rw [if_pos (by rw [e]), e]
        congr 1
        exact decide_eq_decide.2 List.cons_sublist_cons.symm
      · rw [if_neg (fun h2 => e (UInt8.toNat_inj.1 (by omega)))]
        congr 1
        apply decide_eq_decide.2
        rw [List.sublist_cons_iff]
        constructor
        · exact Or.inl
        · rintro (h3 | ⟨r, h3, _⟩)
          · exact h3
          · injection h3 with h3 _
            exact absurd h3.symm e
    · rw [if_neg (by simp; omega), beq_nat]
      have e : (lst x).drop i = [] := List.drop_eq_nil_of_le (by rw [lst_length]; omega)
      rw [e, decide_eq_true (show i = x.size by omega), decide_eq_true (List.nil_sublist _)]
theorem part_ev (x t : ByteArray) (hx : x.size ≤ 1000) (ht : t.size ≤ 1000) (k : Nat) (hk : 2001 < k) : Pa.pritchelref09_Part.f k x t = some (decide ((lst x).Sublist (lst t))) := by
  have h := part_loop x t hx ht t.size k 0 0 (by omega) (by omega) (by omega) (by omega)
  unfold Pa.pritchelref09_Part.f
  simpa using h
end Go.Proofs.YtopmcoohdhlnaaaDoor.M
