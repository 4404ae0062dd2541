/- Plain laws: the table's string is a subsequence of both words, and none of their common subsequences is better; the reference's test of a subsequence. -/
import Derived.Test.YthbhgnnfpfblhaaDoorM6
import Derived.Test.YthbhgnnfpfblhaaDoorM7
namespace Go.Proofs.YthbhgnnfpfblhaaDoor.G
end Go.Proofs.YthbhgnnfpfblhaaDoor.G
namespace Go.Proofs.YthbhgnnfpfblhaaDoor.M
open Go Go.RowKit Go.Lib Go.Proofs Go.Proofs.YthbhgnnfpfblhaaDoorW.PrintWords Go.Proofs.YthbhgnnfpfblhaaDoorW.PrintLast Go.Proofs.YthbhgnnfpfblhaaDoorW.PrintMore
open G
set_option linter.unusedVariables false
set_option linter.unusedSimpArgs false
/-- y is no better than x: shorter, or as long and not less. -/
def nb (y x : ByteArray) : Prop := y.size < x.size ∨ (y.size = x.size ∧ lst x ≤ lst y)
theorem betB_lst (y x : ByteArray) : betB y x = true ↔ x.size < y.size ∨ (y.size = x.size ∧ lst y < lst x) := by
  unfold betB
  rw [bytesLess_eq, toList_data, toList_data]
  by_cases h1 : x.size < y.size
  · simp [h1]
  · by_cases h2 : y.size = x.size
    · simp [h1, h2, lst]
    · simp [h1, h2]
theorem nb_iff (y x : ByteArray) : nb y x ↔ betB y x = false := by
  rw [← Bool.not_eq_true, betB_lst]
  unfold nb
  constructor
  · rintro (h | ⟨h1, h2⟩)
    · rintro (h3 | ⟨h3, h4⟩) <;> omega
    · rintro (h3 | ⟨h3, h4⟩)
      · omega
      · exact absurd h4 (List.not_lt.2 h2)
  · intro h
    by_cases h1 : y.size < x.size
    · exact Or.inl h1
    · refine Or.inr ⟨?_, ?_⟩
      · by_cases h2 : x.size < y.size
        · exact absurd (Or.inl h2) h
        · omega
      · exact List.not_lt.1 fun h3 => h (Or.inr ⟨by
          by_cases h2 : x.size < y.size
          · exact absurd (Or.inl h2) h
          · omega, h3⟩)
theorem nb_refl (x : ByteArray) : nb x x := Or.inr ⟨rfl, List.le_refl _⟩
theorem nb_trans {a b c : ByteArray} (h1 : nb a b) (h2 : nb b c) : nb a c := by
  rcases h1 with h1 | ⟨h1, h3⟩ <;> rcases h2 with h2 | ⟨h2, h4⟩
  · exact Or.inl (by omega)
  · exact Or.inl (by omega)
  · exact Or.inl (by omega)
  · exact Or.inr ⟨by omega, List.le_trans h4 h3⟩
theorem nb_left (x y : ByteArray) : nb x (bet x y) := by
  unfold bet
  by_cases h : betB y x = true
  · rw [if_pos h]
    rcases (betB_lst y x).1 h with h | ⟨h1, h2⟩
    · exact Or.inl h
    · exact Or.inr ⟨h1.symm, List.le_of_lt h2⟩
  · rw [if_neg h]; exact nb_refl x
theorem nb_right (x y : ByteArray) : nb y (bet x y) := by
  unfold bet
  by_cases h : betB y x = true
  · rw [if_pos h]; exact nb_refl y
  · rw [if_neg h]; exact (nb_iff y x).2 (by simpa using h)
theorem bet_or (x y : ByteArray) : bet x y = x ∨ bet x y = y := by
  unfold bet
  split
  · exact Or.inr rfl
  · exact Or.inl rfl
theorem lst_drop_cons (s : ByteArray) (i : Nat) (h : i < s.size) : (lst s).drop i = (s[i]'h) :: (lst s).drop (i + 1) := bytes_drop s i h
theorem lst_one (s : ByteArray) (i : Nat) (h : i < s.size) : lst (s.extract i (i + 1)) = [s[i]'h] := by
  have hl : i < (lst s).length := by rw [lst_length]; exact h
  rw [lst_extract, List.take_succ_eq_append_getElem hl, List.drop_append_of_le_length (by rw [List.length_take]; omega), List.drop_eq_nil_of_le (by rw [List.length_take]; omega)]
  rfl
theorem dp_sub (s t : ByteArray) : ∀ d i j, (s.size - i) + (t.size - j) = d → (lst (dp s t i j)).Sublist ((lst s).drop i) ∧ (lst (dp s t i j)).Sublist ((lst t).drop j) := by
  intro d
  induction d using Nat.strongRecOn with
  | ind d ih =>
    intro i j hd
    by_cases h : i < s.size ∧ j < t.size
    · obtain ⟨hi, hj⟩ := h
      have h1 := ih _ (by omega) (i + 1) j rfl
      have h2 := ih _ (by omega) i (j + 1) rfl
      have h3 := ih _ (by omega) (i + 1) (j + 1) rfl
      rw [lst_drop_cons s i hi] at h2 ⊢
      rw [lst_drop_cons t j hj] at h1 ⊢
      have hx : ∀ x, x = dp s t (i + 1) j ∨ x = dp s t i (j + 1) → (lst x).Sublist ((s[i]'hi) :: (lst s).drop (i + 1)) ∧ (lst x).Sublist ((t[j]'hj) :: (lst t).drop (j + 1)) := by
        rintro x (rfl | rfl)
        · exact ⟨List.Sublist.cons _ h1.1, h1.2⟩
        · exact ⟨h2.1, List.Sublist.cons _ h2.2⟩
      have hb := hx _ (bet_or (dp s t (i + 1) j) (dp s t i (j + 1)))
      rw [dp_step s t i j hi hj]
      by_cases he : s[i]'hi = t[j]'hj
      · rw [if_pos he]
        rcases bet_or (bet (dp s t (i + 1) j) (dp s t i (j + 1))) (s.extract i (i + 1) ++ dp s t (i + 1) (j + 1)) with e | e
        · rw [e]; exact hb
        · rw [e, lst_append, lst_one s i hi]
          refine ⟨List.Sublist.cons_cons _ h3.1, ?_⟩
          rw [he]
          exact List.Sublist.cons_cons _ h3.2
      · rw [if_neg he]; exact hb
    · rw [dp_end s t i j h]
      exact ⟨List.nil_sublist _, List.nil_sublist _⟩
theorem cons_le {c : UInt8} {a b : List UInt8} (h : a ≤ b) : c :: a ≤ c :: b := by
  refine List.not_lt.1 fun h2 => ?_
  rcases List.cons_lt_cons_iff.1 h2 with h3 | ⟨_, h3⟩
  · exact absurd h3 (UInt8.lt_irrefl c)
  · exact absurd h3 (List.not_lt.2 h)
theorem dp_best (s t : ByteArray) : ∀ d i j, (s.size - i) + (t.size - j) = d → ∀ u : ByteArray, (lst u).Sublist ((lst s).drop i) → (lst u).Sublist ((lst t).drop j) → nb u (dp s t i j) := by
  intro d
  induction d using Nat.strongRecOn with
  | ind d ih =>
    intro i j hd u hu1 hu2
    by_cases h : i < s.size ∧ j < t.size
    · obtain ⟨hi, hj⟩ := h
      have hx : nb u (dp s t (i + 1) j) ∨ nb u (dp s t i (j + 1)) → nb u (dp s t i j) := by
        intro h
        have hb : nb u (bet (dp s t (i + 1) j) (dp s t i (j + 1))) := h.elim (fun h => nb_trans h (nb_left _ _)) (fun h => nb_trans h (nb_right _ _))
        rw [dp_step s t i j hi hj]
        split
        · exact nb_trans hb (nb_left _ _)
        · exact hb
      rw [lst_drop_cons s i hi] at hu1
      rw [lst_drop_cons t j hj] at hu2
      rcases List.sublist_cons_iff.1 hu1 with a1 | ⟨r1, e1, a1⟩
      · exact hx (Or.inl (ih _ (by omega) (i + 1) j rfl u a1 (by rw [lst_drop_cons t j hj]; exact hu2)))
      · rcases List.sublist_cons_iff.1 hu2 with a2 | ⟨r2, e2, a2⟩
        · exact hx (Or.inr (ih _ (by omega) i (j + 1) rfl u (by rw [lst_drop_cons s i hi]; exact hu1) a2))
        · rw [e1] at e2
          injection e2 with e3 e4
          have hr : nb ⟨r1.toArray⟩ (dp s t (i + 1) (j + 1)) := ih _ (by omega) (i + 1) (j + 1) rfl ⟨r1.toArray⟩ a1 (by show r1.Sublist _; rw [e4]; exact a2)
          have hl : lst (s.extract i (i + 1) ++ dp s t (i + 1) (j + 1)) = (s[i]'hi) :: lst (dp s t (i + 1) (j + 1)) := by rw [lst_append, lst_one s i hi]; rfl
          have hz : (s.extract i (i + 1) ++ dp s t (i + 1) (j + 1)).size = (dp s t (i + 1) (j + 1)).size + 1 := by rw [← lst_length, hl, List.length_cons, lst_length]
          have hus : u.size = r1.length + 1 := by rw [← lst_length, e1, List.length_cons]
          have hk : nb u (s.extract i (i + 1) ++ dp s t (i + 1) (j + 1)) := by
            rcases hr with hr | ⟨hr, hr2⟩
            · refine Or.inl ?_
              rw [hz, hus]
              have : (⟨r1.toArray⟩ : ByteArray).size = r1.length := rfl
              omega
            · refine Or.inr ⟨?_, ?_⟩
              · rw [hz, hus]
                have : (⟨r1.toArray⟩ : ByteArray).size = r1.length := rfl
                omega
              · rw [hl, e1]
                exact cons_le hr2
          rw [dp_step s t i j hi hj, if_pos e3]
          exact nb_trans hk (nb_right _ _)
    · have hn : lst u = [] := by
        by_cases h1 : i < s.size
        · have : t.size ≤ j := by omega
          rw [List.drop_eq_nil_of_le (by rw [lst_length]; exact this)] at hu2
          exact List.sublist_nil.1 hu2
        · rw [List.drop_eq_nil_of_le (by rw [lst_length]; omega)] at hu1
          exact List.sublist_nil.1 hu1
      have : u = ByteArray.empty := lst_inj (by rw [hn]; rfl)
      rw [dp_end s t i j h, this]
      exact nb_refl _
/-! ### the reference's test -/
end Go.Proofs.YthbhgnnfpfblhaaDoor.M
