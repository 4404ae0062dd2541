/- Plain laws: two words of a code have no shorter and no longer word in common, and a distance of 4 at least; a code has a word. -/
import Derived.Test.YtopmcoohdhlnaaaDoorM10
import Derived.Test.YtopmcoohdhlnaaaDoorM11
import Derived.Test.YtopmcoohdhlnaaaDoorPa13
import Derived.Test.YtopmcoohdhlnaaaDoorPb10
namespace Go.Proofs.YtopmcoohdhlnaaaDoor.M
open Go Go.RowKit Go.Lib Go.Proofs Go.Proofs.YtopmcoohdhlnaaaDoorW.PrintWords Go.Proofs.YtopmcoohdhlnaaaDoorW.PrintLast Go.Proofs.YtopmcoohdhlnaaaDoorW.PrintMore
open G
set_option linter.unusedVariables false
set_option linter.unusedSimpArgs false
/-! ### a code has a word -/
theorem vtF_zeros : ∀ (m i : Nat), vtF i (List.replicate m 48) = 0
  | 0, i => rfl
  | m + 1, i => by
    have h := vtF_zeros m (i + 1)
    simp [List.replicate_succ, vtF, h]
theorem zeros_bin (m : Nat) : bin (List.replicate m 48) := fun b hb => Or.inl (List.eq_of_mem_replicate hb)
theorem code_has (n a : Nat) (ha : a ≤ n) : ∃ x, x ∈ wordsN n a := by
  by_cases h : a = 0
  · refine ⟨⟨(List.replicate n (48 : UInt8)).toArray⟩, (mem_wordsN n a _).2 ⟨?_, ?_, ?_⟩⟩
    · show (List.replicate n (48 : UInt8)).toArray.size = n
      simp
    · show bin (List.replicate n 48)
      exact zeros_bin n
    · show vtF 1 (List.replicate n 48) % (n + 1) = a
      rw [vtF_zeros, h]
      simp
  · refine ⟨⟨(List.replicate (a - 1) (48 : UInt8) ++ (49 : UInt8) :: List.replicate (n - a) (48 : UInt8)).toArray⟩, (mem_wordsN n a _).2 ⟨?_, ?_, ?_⟩⟩
    · show (List.replicate (a - 1) (48 : UInt8) ++ 49 :: List.replicate (n - a) 48).toArray.size = n
      simp
      omega
    · show bin (List.replicate (a - 1) 48 ++ 49 :: List.replicate (n - a) 48)
      intro b hb
      rw [List.mem_append, List.mem_cons] at hb
      rcases hb with hb | hb | hb
      · exact zeros_bin _ b hb
      · exact Or.inr hb
      · exact zeros_bin _ b hb
    · show vtF 1 (List.replicate (a - 1) 48 ++ 49 :: List.replicate (n - a) 48) % (n + 1) = a
      rw [vtF_append, vtF_zeros, List.length_replicate]
      have : vtF (1 + (a - 1)) (49 :: List.replicate (n - a) 48) = a := by
        have h := vtF_zeros (n - a) (1 + (a - 1) + 1)
        simp only [vtF, h]
        simp
        omega
      rw [this, Nat.zero_add]
      exact Nat.mod_eq_of_lt (by omega)
/-! ### no shorter word, no longer word in common -/
theorem apart_del (n a : Nat) (s t : ByteArray) (hs : s ∈ wordsN n a) (ht : t ∈ wordsN n a) (i j : Nat) (hi : i < s.size) (hj : j < t.size) (h : delAt s i = delAt t j) : s = t := by
  obtain ⟨s1, s2, s3⟩ := (mem_wordsN n a s).1 hs
  obtain ⟨t1, t2, t3⟩ := (mem_wordsN n a t).1 ht
  have e1 := restored s s2 i hi
  have e2 := restored t t2 j hj
  rw [h] at e1
  rw [s1, s3] at e1
  rw [t1, t3, e1] at e2
  exact congrArg Prod.fst e2
theorem del_put (s : ByteArray) (i c : Nat) (hi : i ≤ s.size) (hc : c < 2) : s = delAt (putAt s i c) i := by
  refine lst_inj ?_
  rw [lst_del, lst_put s i c hc]
  have hl : ((lst s).take i).length = i := by rw [List.length_take, lst_length]; omega
  rw [List.take_append_of_le_length (by omega), List.take_of_length_le (by omega), show i + 1 = ((lst s).take i ++ [UInt8.ofNat (48 + c)]).length from by rw [List.length_append, hl]; rfl]
  rw [show (lst s).take i ++ UInt8.ofNat (48 + c) :: (lst s).drop i = ((lst s).take i ++ [UInt8.ofNat (48 + c)]) ++ (lst s).drop i from by simp, List.drop_left, List.take_append_drop]
theorem put_bin (s : ByteArray) (hb : bin (lst s)) (i c : Nat) (hc : c < 2) : bin (lst (putAt s i c)) := by
  rw [lst_put s i c hc]
  intro b hm
  rw [List.mem_append, List.mem_cons] at hm
  rcases hm with hm | hm | hm
  · exact hb b (List.mem_of_mem_take hm)
  · rw [hm]; exact letter_bin c hc
  · exact hb b (List.mem_of_mem_drop hm)
theorem apart_put (n a : Nat) (s t : ByteArray) (hs : s ∈ wordsN n a) (ht : t ∈ wordsN n a) (i j c d : Nat) (hi : i ≤ s.size) (hj : j ≤ t.size) (hc : c < 2) (hd : d < 2) (h : putAt s i c = putAt t j d) : s = t := by
  obtain ⟨s1, s2, s3⟩ := (mem_wordsN n a s).1 hs
  obtain ⟨t1, t2, t3⟩ := (mem_wordsN n a t).1 ht
  have e1 := removed s (putAt s i c) (put_bin s s2 i c hc) i (by rw [put_size s i c hi (by omega)]; omega) (del_put s i c hi hc)
  have e2 := removed t (putAt t j d) (put_bin t t2 j d hd) j (by rw [put_size t j d hj (by omega)]; omega) (del_put t j d hj hd)
  rw [h] at e1
  rw [s1, s3] at e1
  rw [t1, t3, e1] at e2
  exact congrArg Prod.fst e2
/-! ### the distance -/
theorem sub_del {α : Type} {c s : List α} (h : c.Sublist s) : c.length + 1 = s.length → ∃ i, i < s.length ∧ c = s.take i ++ s.drop (i + 1) := by
  induction h with
  | slnil => intro h; simp at h
  | cons a h _ =>
    intro hl
    have : _ := h.eq_of_length (by simpa using hl)
    subst this
    exact ⟨0, by simp, by simp⟩
  | cons_cons a h ih =>
    intro hl
    obtain ⟨i, hi, e⟩ := ih (by simpa using hl)
    refine ⟨i + 1, by simpa using hi, ?_⟩
    rw [List.take_succ_cons, List.drop_succ_cons, List.cons_append, ← e]
theorem apart_dist (n a : Nat) (s t : ByteArray) (hs : s ∈ wordsN n a) (ht : t ∈ wordsN n a) (hne : s ≠ t) : (dp s t 0 0).size + 2 ≤ n := by
  obtain ⟨s1, s2, s3⟩ := (mem_wordsN n a s).1 hs
  obtain ⟨t1, t2, t3⟩ := (mem_wordsN n a t).1 ht
  obtain ⟨hc1, hc2⟩ := dp_sub s t _ 0 0 rfl
  rw [List.drop_zero] at hc1 hc2
  have l1 := hc1.length_le
  rw [lst_length, lst_length, s1] at l1
  rcases Nat.lt_trichotomy ((dp s t 0 0).size + 1) n with h | h | h
  · omega
  · exfalso
    obtain ⟨i, hi, ei⟩ := sub_del hc1 (by rw [lst_length, lst_length]; omega)
    obtain ⟨j, hj, ej⟩ := sub_del hc2 (by rw [lst_length, lst_length]; omega)
    rw [lst_length] at hi hj
    refine hne (apart_del n a s t hs ht i j hi hj (lst_inj ?_))
    rw [lst_del, lst_del, ← ei, ← ej]
  · exfalso
    have e1 := hc1.eq_of_length (by rw [lst_length, lst_length]; omega)
    have e2 := hc2.eq_of_length (by rw [lst_length, lst_length]; omega)
    exact hne (lst_inj (e1.symm.trans e2))
/-! ### two lists that do not meet -/
theorem meet_l1 (p q : List ByteArray) (hp : p.length ≤ 1000000) (hq : q.length ≤ 1000000) (hd : ∀ x ∈ p, ∀ y ∈ q, x ≠ y) (i : Nat) (hi : i < p.length) (d : Nat) : ∀ (k j : Nat), q.length - j = d → j ≤ q.length →
    Pa.pritchellaw09_meet.l1 (k + (d + 1)) p q (i : Int) (j : Int) = Pa.pritchellaw09_meet.l0 k p q ((i + 1 : Nat) : Int) := by
  induction d with
  | zero =>
    intro k j hd hj
    have w1 := w64succ i (by omega)
    rw [Pa.pritchellaw09_meet.l1, if_neg (by omega), w1]
  | succ d ih =>
    intro k j hd2 hj
    have hlt : j < q.length := by omega
    have w1 := w64succ j (by omega)
    have h := ih k (j + 1) (by omega) (by omega)
    have r1 : rdOf ByteArray.empty p (i : Int) = p[i]'hi := rd_nat p i hi
    have r2 : rdOf ByteArray.empty q (j : Int) = q[j]'hlt := rd_nat q j hlt
    have hne : ¬ (p[i]'hi).toList = (q[j]'hlt).toList := by
      intro e
      rw [toList_data, toList_data] at e
      exact hd _ (List.getElem_mem hi) _ (List.getElem_mem hlt) (lst_inj e)
    rw [show k + (d + 1 + 1) = (k + (d + 1)) + 1 from by omega, Pa.pritchellaw09_meet.l1]
    rw [if_pos (by omega), if_pos (by omega), if_pos (by omega), if_pos (by omega), r1, r2, if_neg hne, w1, h]
theorem meet_l0 (p q : List ByteArray) (hp : p.length ≤ 1000000) (hq : q.length ≤ 1000000) (hd : ∀ x ∈ p, ∀ y ∈ q, x ≠ y) (d : Nat) : ∀ i, p.length - i = d → i ≤ p.length → ∃ c, ∀ k,
    Pa.pritchellaw09_meet.l0 (k + c) p q (i : Int) = some false := by
  induction d with
  | zero =>
    intro i hi hl
    refine ⟨1, fun k => ?_⟩
    rw [Pa.pritchellaw09_meet.l0, if_neg (by omega)]
  | succ d ih =>
    intro i hi hl
    obtain ⟨c, hc⟩ := ih (i + 1) (by omega) (by omega)
    refine ⟨c + (q.length + 1) + 1, fun k => ?_⟩
    have h := meet_l1 p q hp hq hd i (by omega) q.length (k + c) 0 (by omega) (by omega)
    rw [show k + (c + (q.length + 1) + 1) = (k + c + (q.length + 1)) + 1 from by omega, Pa.pritchellaw09_meet.l0, if_pos (by omega)]
    exact h.trans (hc k)
theorem meet_ev (p q : List ByteArray) (hp : p.length ≤ 1000000) (hq : q.length ≤ 1000000) (hd : ∀ x ∈ p, ∀ y ∈ q, x ≠ y) : ∃ c, ∀ k, c ≤ k → Pa.pritchellaw09_meet.f k p q = some false := by
  obtain ⟨c, hc⟩ := meet_l0 p q hp hq hd p.length 0 (by omega) (by omega)
  refine ⟨c, fun k hk => ?_⟩
  have := hc (k - c)
  rw [Nat.sub_add_cancel hk] at this
  exact this
theorem Shorter_good (s : ByteArray) (h0 : wrong 20 s = 0) (hne : 0 < s.size) (k : Nat) (hk : 1000 < k) : Pb.mark_Shorter.f k s = some (G.putAll (delAll s s.size), 0) := by
  have hz := wrong_size h0
  have hc : mark_check.f 20 ⟨#[48, 49]⟩ [s] = some (wrong 20 s) := check_one 20 (by omega) s
  unfold Pb.mark_Shorter.f
  rw [hc, Option.bind_some, if_pos h0, if_neg, shorter_ev s (by omega) k (by omega)]
  · rfl
  · intro e
    rw [toList_data] at e
    have : s.data.toList.length = 0 := by rw [e]; rfl
    rw [Array.length_toList] at this
    have : s.size = 0 := this
    omega
theorem Longer_good (s : ByteArray) (h0 : wrong 20 s = 0) : Pb.mark_Longer.f s = some (G.putAll (putsAll s 2 (s.size + 1)), 0) := by
  have hz := wrong_size h0
  have hc : mark_check.f 20 ⟨#[48, 49]⟩ [s] = some (wrong 20 s) := check_one 20 (by omega) s
  unfold Pb.mark_Longer.f
  rw [hc, Option.bind_some, if_pos h0, longer_ev s (by omega)]
  rfl
end Go.Proofs.YtopmcoohdhlnaaaDoor.M
