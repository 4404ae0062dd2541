/- Plain laws: the table's string is a subsequence of both words, and none of their common subsequences is better; the reference's test of a subsequence. -/
import Derived.Test.YtopmcoohdhlnaaaDoorM6
import Derived.Test.YtopmcoohdhlnaaaDoorM7
namespace Go.Proofs.YtopmcoohdhlnaaaDoor.M
open Go Go.RowKit Go.Lib Go.Proofs Go.Proofs.YtopmcoohdhlnaaaDoorW.PrintWords Go.Proofs.YtopmcoohdhlnaaaDoorW.PrintLast Go.Proofs.YtopmcoohdhlnaaaDoorW.PrintMore
open G
set_option linter.unusedVariables false
set_option linter.unusedSimpArgs false
theorem bet_or (x y : ByteArray) : bet x y = x ∨ bet x y = y := by
  unfold bet
  split
  · exact Or.inr rfl
  · exact Or.inl rfl
theorem lst_drop_cons (s : ByteArray) (i : Nat) (h : i < s.size) : (lst s).drop i = (s[i]'h) :: (lst s).drop (i + 1) := bytes_drop s i h
theorem lst_one (s : ByteArray) (i : Nat) (h : i < s.size) : lst (s.extract i (i + 1)) = [s[i]'h] := by
  have hl : i < (lst s).length := by rw [lst_length]; exact h
  rw [lst_extract, List.take_succ_eq_append_getElem hl, List.drop_append_of_le_length (by rw [List.length_take]; omega), List.drop_eq_nil_of_le (by rw [List.length_take]; omega)]
  rfl
theorem dp_sub (s t : ByteArray) : ∀ d i j, (s.size - i) + (t.size - j) = d → (lst (dp s t i j)).Sublist ((lst s).drop i) ∧ (lst (dp s t i j)).Sublist ((lst t).drop j) := by
  intro d
  induction d using Nat.strongRecOn with
  | ind d ih =>
    intro i j hd
    by_cases h : i < s.size ∧ j < t.size
    · obtain ⟨hi, hj⟩ := h
      have h1 := ih _ (by omega) (i + 1) j rfl
      have h2 := ih _ (by omega) i (j + 1) rfl
      have h3 := ih _ (by omega) (i + 1) (j + 1) rfl
      rw [lst_drop_cons s i hi] at h2 ⊢
      rw [lst_drop_cons t j hj] at h1 ⊢
      have hx : ∀ x, x = dp s t (i + 1) j ∨ x = dp s t i (j + 1) → (lst x).Sublist ((s[i]'hi) :: (lst s).drop (i + 1)) ∧ (lst x).Sublist ((t[j]'hj) :: (lst t).drop (j + 1)) := by
        rintro x (rfl | rfl)
        · exact ⟨List.Sublist.cons _ h1.1, h1.2⟩
        · exact ⟨h2.1, List.Sublist.cons _ h2.2⟩
      have hb := hx _ (bet_or (dp s t (i + 1) j) (dp s t i (j + 1)))
      rw [dp_step s t i j hi hj]
      by_cases he : s[i]'hi = t[j]'hj
      · rw [if_pos he]
        rcases bet_or (bet (dp s t (i + 1) j) (dp s t i (j + 1))) (s.extract i (i + 1) ++ dp s t (i + 1) (j + 1)) with e | e
        · rw [e]; exact hb
        · rw [e, lst_append, lst_one s i hi]
          refine ⟨List.Sublist.cons_cons _ h3.1, ?_⟩
          rw [he]
          exact List.Sublist.cons_cons _ h3.2
      · rw [if_neg he]; exact hb
    · rw [dp_end s t i j h]
      exact ⟨List.nil_sublist _, List.nil_sublist _⟩
/-! ### the reference's test -/
end Go.Proofs.YtopmcoohdhlnaaaDoor.M
