/- Plain laws: how long the longest strings are that two words have in common; their distance: 0 for one word alone, the triangle inequality. -/
import Derived.Test.YthbhgnnfpfblhaaDoorM10
namespace Go.Proofs.YthbhgnnfpfblhaaDoor.G
end Go.Proofs.YthbhgnnfpfblhaaDoor.G
namespace Go.Proofs.YthbhgnnfpfblhaaDoor.Pb
end Go.Proofs.YthbhgnnfpfblhaaDoor.Pb
namespace Go.Proofs.YthbhgnnfpfblhaaDoor.M
open Go Go.RowKit Go.Lib Go.Proofs Go.Proofs.YthbhgnnfpfblhaaDoorW.PrintWords Go.Proofs.YthbhgnnfpfblhaaDoorW.PrintLast Go.Proofs.YthbhgnnfpfblhaaDoorW.PrintMore
open G Pb
set_option linter.unusedVariables false
set_option linter.unusedSimpArgs false
/-- How long the longest strings are that two words have in common. -/
def lcs (s t : ByteArray) : Nat := (dp s t 0 0).size
theorem lcs_ge (s t : ByteArray) (c : List UInt8) (h1 : c.Sublist (lst s)) (h2 : c.Sublist (lst t)) : c.length ≤ lcs s t := by
  have h := dp_best s t _ 0 0 rfl ⟨c.toArray⟩ (by rw [List.drop_zero]; exact h1) (by rw [List.drop_zero]; exact h2)
  have e : (⟨c.toArray⟩ : ByteArray).size = c.length := by show c.toArray.size = _; simp
  unfold lcs
  unfold nb at h
  rw [e] at h
  omega
theorem lcs_sub (s t : ByteArray) : (lst (dp s t 0 0)).Sublist (lst s) ∧ (lst (dp s t 0 0)).Sublist (lst t) := by
  have h := dp_sub s t _ 0 0 rfl
  rw [List.drop_zero, List.drop_zero] at h
  exact h
theorem lcs_le (s t : ByteArray) : lcs s t ≤ s.size ∧ lcs s t ≤ t.size := by
  obtain ⟨h1, h2⟩ := lcs_sub s t
  have l1 := h1.length_le
  have l2 := h2.length_le
  rw [lst_length, lst_length] at l1 l2
  exact ⟨l1, l2⟩
/-- The distance. -/
def dist (s t : ByteArray) : Int := (s.size : Int) + (t.size : Int) - 2 * (lcs s t : Int)
theorem dist_zero (s t : ByteArray) : (dist s t == 0) = (s.toList == t.toList) := by
  have hl := lcs_le s t
  rw [Bool.eq_iff_iff, beq_iff_eq, beq_iff_eq, toList_data, toList_data]
  unfold dist
  constructor
  · intro h
    obtain ⟨h1, h2⟩ := lcs_sub s t
    have e1 := h1.eq_of_length (by rw [lst_length, lst_length]; unfold lcs at *; omega)
    have e2 := h2.eq_of_length (by rw [lst_length, lst_length]; unfold lcs at *; omega)
    exact e1.symm.trans e2
  · intro h
    have e : lst s = lst t := h
    have hge := lcs_ge s t (lst s) (List.Sublist.refl _) (by rw [e]; exact List.Sublist.refl _)
    have e3 : s = t := lst_inj e
    subst e3
    rw [lst_length] at hge
    omega
end Go.Proofs.YthbhgnnfpfblhaaDoor.M
