/- Distance is the sum of both lengths minus twice that of Common, 0 for one word alone, the same both ways, and satisfies the triangle inequality: for all words. -/
import Derived.Test.YtopmcoohdhlnaaaDoorE1
import Derived.Test.YtopmcoohdhlnaaaDoorM10
import Derived.Test.YtopmcoohdhlnaaaDoorM8
namespace Go.Proofs.YtopmcoohdhlnaaaDoor.Pure
open Go Go.RowKit Go.Lib Go.Proofs Go.Proofs.YtopmcoohdhlnaaaDoorW.PrintWords Go.Proofs.YtopmcoohdhlnaaaDoorW.PrintLast Go.Proofs.YtopmcoohdhlnaaaDoorW.PrintMore
open G M Pb E
set_option linter.unusedVariables false
set_option linter.unusedSimpArgs false
/-- Two parts of one list have a part in common, long enough. -/
theorem meet_sub {α : Type} : ∀ (y u v : List α), u.Sublist y → v.Sublist y → ∃ c, List.Sublist c u ∧ List.Sublist c v ∧ u.length + v.length ≤ c.length + y.length := by
  intro y
  induction y with
  | nil =>
    intro u v hu hv
    have e1 := List.sublist_nil.1 hu
    have e2 := List.sublist_nil.1 hv
    subst e1 e2
    exact ⟨[], List.Sublist.refl _, List.Sublist.refl _, by simp⟩
  | cons a y ih =>
    intro u v hu hv
    rw [List.sublist_cons_iff] at hu hv
    rcases hu with hu | ⟨u, rfl, hu⟩
    · rcases hv with hv | ⟨v, rfl, hv⟩
      · obtain ⟨c, h1, h2, h3⟩ := ih u v hu hv
        exact ⟨c, h1, h2, by simp only [List.length_cons]; omega⟩
      · obtain ⟨c, h1, h2, h3⟩ := ih u v hu hv
        exact ⟨c, h1, h2.trans (List.sublist_cons_self a v), by simp only [List.length_cons]; omega⟩
    · rcases hv with hv | ⟨v, rfl, hv⟩
      · obtain ⟨c, h1, h2, h3⟩ := ih u v hu hv
        exact ⟨c, h1.trans (List.sublist_cons_self a u), h2, by simp only [List.length_cons]; omega⟩
      · obtain ⟨c, h1, h2, h3⟩ := ih u v hu hv
        exact ⟨a :: c, h1.cons_cons a, h2.cons_cons a, by simp only [List.length_cons]; omega⟩
/-- How long the longest strings are that two words have in common. -/
def lcs (s t : ByteArray) : Nat := (dp s t 0 0).size
theorem lcs_ge (s t : ByteArray) (c : List UInt8) (h1 : c.Sublist (lst s)) (h2 : c.Sublist (lst t)) : c.length ≤ lcs s t := by
  have h := dp_best s t _ 0 0 rfl ⟨c.toArray⟩ (by rw [List.drop_zero]; exact h1) (by rw [List.drop_zero]; exact h2)
  have e : (⟨c.toArray⟩ : ByteArray).size = c.length := by show c.toArray.size = _; simp
  unfold lcs
  unfold nb at h
  rw [e] at h
  omega
theorem lcs_sub (s t : ByteArray) : (lst (dp s t 0 0)).Sublist (lst s) ∧ (lst (dp s t 0 0)).Sublist (lst t) := by
  have h := dp_sub s t _ 0 0 rfl
  rw [List.drop_zero, List.drop_zero] at h
  exact h
theorem lcs_le (s t : ByteArray) : lcs s t ≤ s.size ∧ lcs s t ≤ t.size := by
  obtain ⟨h1, h2⟩ := lcs_sub s t
  have l1 := h1.length_le
  have l2 := h2.length_le
  rw [lst_length, lst_length] at l1 l2
  exact ⟨l1, l2⟩
theorem lcs_sym (s t : ByteArray) : lcs s t = lcs t s := by
  obtain ⟨h1, h2⟩ := lcs_sub s t
  obtain ⟨h3, h4⟩ := lcs_sub t s
  have a := lcs_ge t s _ h2 h1
  have b := lcs_ge s t _ h4 h3
  rw [lst_length] at a b
  unfold lcs at a b ⊢
  omega
theorem lcs_tri (x y z : ByteArray) : lcs x y + lcs y z ≤ lcs x z + y.size := by
  obtain ⟨h1, h2⟩ := lcs_sub x y
  obtain ⟨h3, h4⟩ := lcs_sub y z
  obtain ⟨c, c1, c2, c3⟩ := meet_sub (lst y) _ _ h2 h3
  have h := lcs_ge x z c (c1.trans h1) (c2.trans h4)
  rw [lst_length, lst_length, lst_length] at c3
  unfold lcs at h ⊢
  omega
/-- The distance. -/
def dist (s t : ByteArray) : Int := (s.size : Int) + (t.size : Int) - 2 * (lcs s t : Int)
theorem dist_zero (s t : ByteArray) : (dist s t == 0) = (s.toList == t.toList) := by
  have hl := lcs_le s t
  rw [Bool.eq_iff_iff, beq_iff_eq, beq_iff_eq, toList_data, toList_data]
  unfold dist
  constructor
  · intro h
    obtain ⟨h1, h2⟩ := lcs_sub s t
    have e1 := h1.eq_of_length (by rw [lst_length, lst_length]; unfold lcs at *; omega)
    have e2 := h2.eq_of_length (by rw [lst_length, lst_length]; unfold lcs at *; omega)
    exact e1.symm.trans e2
  · intro h
    have e : lst s = lst t := h
    have hge := lcs_ge s t (lst s) (List.Sublist.refl _) (by rw [e]; exact List.Sublist.refl _)
    have e3 : s = t := lst_inj e
    subst e3
    rw [lst_length] at hge
    omega
theorem dist_sym (s t : ByteArray) : dist s t = dist t s := by
  have := lcs_sym s t
  unfold dist
  omega
theorem dist_tri (x y z : ByteArray) : dist x z ≤ dist x y + dist y z := by
  have := lcs_tri x y z
  unfold dist
  omega
theorem pick_ind {p : ByteArray → Prop} {s0 s1 s2 : ByteArray} (h0 : p s0) (h1 : p s1) (h2 : p s2) (i : Nat) : p (pick3 s0 s1 s2 i) := by
  unfold pick3
  split
  · exact h0
  · split
    · exact h1
    · exact h2
theorem many (Q : Nat → Nat → Nat → Prop) (h : ∀ i j, ∃ c, ∀ k, c ≤ k → Q i j k) : ∃ K, ∀ k, K ≤ k → ∀ i j, i < 3 → j < 3 → Q i j k := by
  have h2 : ∀ i, ∃ c, ∀ k, c ≤ k → ∀ j, j < 3 → Q i j k := fun i => by
    obtain ⟨c0, h0⟩ := h i 0
    obtain ⟨c1, h1⟩ := h i 1
    obtain ⟨c2, h2⟩ := h i 2
    refine ⟨c0 + c1 + c2, fun k hk j hj => ?_⟩
    rcases (show j = 0 ∨ j = 1 ∨ j = 2 by omega) with rfl | rfl | rfl
    · exact h0 k (by omega)
    · exact h1 k (by omega)
    · exact h2 k (by omega)
  obtain ⟨c0, h3⟩ := h2 0
  obtain ⟨c1, h4⟩ := h2 1
  obtain ⟨c2, h5⟩ := h2 2
  refine ⟨c0 + c1 + c2, fun k hk i j hi hj => ?_⟩
  rcases (show i = 0 ∨ i = 1 ∨ i = 2 by omega) with rfl | rfl | rfl
  · exact h3 k (by omega) j hj
  · exact h4 k (by omega) j hj
  · exact h5 k (by omega) j hj
theorem pair_ev (s t : ByteArray) (hs : s.size ≤ 20) (ht : t.size ≤ 20) (bs : bin (lst s)) (bt : bin (lst t)) : ∃ c, ∀ k, c ≤ k → Pb.mark_Distance.f k s t = some (dist s t, 0) ∧ Pb.mark_Common.f k s t = some (dp s t 0 0, 0) := by
  have w2 : wrong2 20 s t = 0 := by
    unfold wrong2
    rw [if_pos (wrong_bin hs bs)]
    exact wrong_bin ht bt
  obtain ⟨c1, h1⟩ := Distance_ev s t
  obtain ⟨c2, h2⟩ := Common_ev s t
  refine ⟨c1 + c2, fun k hk => ⟨?_, ?_⟩⟩
  · rw [h1 k (by omega), if_pos w2]
    rfl
  · rw [h2 k (by omega), if_pos w2]
theorem MarkBetween : pritchellaw09_MarkBetween.Pure := by
  intro l0 l1 l2 w0 w1 w2
  obtain ⟨s0, e0, z0, b0⟩ := law_word l0 w0 2 20 (by omega) (by omega) 1001 (by omega)
  obtain ⟨s1, e1, z1, b1⟩ := law_word l1 w1 2 20 (by omega) (by omega) 1001 (by omega)
  obtain ⟨s2, e2, z2, b2⟩ := law_word l2 w2 2 20 (by omega) (by omega) 1001 (by omega)
  have hsz : ∀ i, (pick3 s0 s1 s2 i).size ≤ 20 := pick_ind (p := fun s => s.size ≤ 20) (by omega) (by omega) (by omega)
  have hbn : ∀ i, bin (lst (pick3 s0 s1 s2 i)) := pick_ind (p := fun s => bin (lst s)) (below_bin b0) (below_bin b1) (below_bin b2)
  obtain ⟨K, hK⟩ := many (fun i j k => Pb.mark_Distance.f k (pick3 s0 s1 s2 i) (pick3 s0 s1 s2 j) = some (dist (pick3 s0 s1 s2 i) (pick3 s0 s1 s2 j), 0) ∧ Pb.mark_Common.f k (pick3 s0 s1 s2 i) (pick3 s0 s1 s2 j) = some (dp (pick3 s0 s1 s2 i) (pick3 s0 s1 s2 j) 0 0, 0))
    (fun i j => pair_ev _ _ (hsz i) (hsz j) (hbn i) (hbn j))
  have hk := hK (K + 1001) (by omega)
  refine ⟨K + 1001, s0, s1, s2, fun i j => dist (pick3 s0 s1 s2 i) (pick3 s0 s1 s2 j), fun i j => dp (pick3 s0 s1 s2 i) (pick3 s0 s1 s2 j) 0 0, ?_, ?_, ?_, fun i j hi hj => (hk i j hi hj).1, fun i j hi hj => (hk i j hi hj).2, fun i j hi hj => ?_, fun i j hi hj => dist_zero _ _, ?_, dist_sym _ _, lives_ev _ (by omega)⟩
  · exact le_mono (Pa.pritchellaw09_word.mono l0 2 20) (show 1001 ≤ K + 1001 by omega) e0
  · exact le_mono (Pa.pritchellaw09_word.mono l1 2 20) (show 1001 ≤ K + 1001 by omega) e1
  · exact le_mono (Pa.pritchellaw09_word.mono l2 2 20) (show 1001 ≤ K + 1001 by omega) e2
  · have hl := lcs_le (pick3 s0 s1 s2 i) (pick3 s0 s1 s2 j)
    have z1 := hsz i
    have z2 := hsz j
    show dist _ _ = wrap64 (wrap64 _ - wrap64 (2 * ((lcs (pick3 s0 s1 s2 i) (pick3 s0 s1 s2 j) : Nat) : Int)))
    unfold dist
    obtain ⟨x, hx⟩ : ∃ x, lcs (pick3 s0 s1 s2 i) (pick3 s0 s1 s2 j) = x := ⟨_, rfl⟩
    obtain ⟨a, ha⟩ : ∃ a, (pick3 s0 s1 s2 i).size = a := ⟨_, rfl⟩
    obtain ⟨b, hb⟩ : ∃ b, (pick3 s0 s1 s2 j).size = b := ⟨_, rfl⟩
    rw [hx] at hl ⊢
    rw [ha] at hl z1 ⊢
    rw [hb] at hl z2 ⊢
    clear hx ha hb hk hK
    rw [w64 (x := (a : Int) + (b : Int)) (by omega) (by omega), w64 (x := 2 * (x : Int)) (by omega) (by omega), w64 (by omega) (by omega)]
  · have h := dist_tri s0 s1 s2
    have l1 := lcs_le s0 s1
    have l2 := lcs_le s1 s2
    show dist s0 s2 ≤ wrap64 (dist s0 s1 + dist s1 s2)
    have b : wrap64 (dist s0 s1 + dist s1 s2) = dist s0 s1 + dist s1 s2 := by
      have z0 : s0.size ≤ 20 := by omega
      have z1 : s1.size ≤ 20 := by omega
      have z2 : s2.size ≤ 20 := by omega
      refine w64 ?_ ?_ <;> unfold dist <;> omega
    rw [b]
    exact h
end Go.Proofs.YtopmcoohdhlnaaaDoor.Pure
