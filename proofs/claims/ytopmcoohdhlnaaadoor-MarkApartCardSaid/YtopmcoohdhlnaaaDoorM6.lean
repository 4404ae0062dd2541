/- Plain laws: Varshamov and Tenengolts' code: one letter taken out of two words, or put into them, alike by n + 1, at the same outcome: it is one word (Levenshtein); the words that a law derives from numbers. -/
import Derived.Test.YtopmcoohdhlnaaaDoorM2
namespace Go.Proofs.YtopmcoohdhlnaaaDoor.M
open Go Go.RowKit Go.Lib Go.Proofs Go.Proofs.YtopmcoohdhlnaaaDoorW.PrintWords Go.Proofs.YtopmcoohdhlnaaaDoorW.PrintLast Go.Proofs.YtopmcoohdhlnaaaDoorW.PrintMore
open G
set_option linter.unusedVariables false
set_option linter.unusedSimpArgs false
def ones (l : List UInt8) : Nat := l.countP (· = 49)
theorem vtF_succ : ∀ (l : List UInt8) (i : Nat), vtF (i + 1) l = vtF i l + ones l
  | [], i => rfl
  | b :: r, i => by
    have h := vtF_succ r (i + 1)
    unfold ones at h ⊢
    simp only [vtF, List.countP_cons, decide_eq_true_eq]
    rw [h]
    split <;> omega
theorem vtF_append : ∀ (l m : List UInt8) (i : Nat), vtF i (l ++ m) = vtF i l + vtF (i + l.length) m
  | [], m, i => by simp [vtF]
  | b :: r, m, i => by
    have h := vtF_append r m (i + 1)
    simp only [List.cons_append, vtF, List.length_cons]
    rw [h, show i + 1 + r.length = i + (r.length + 1) from by omega]
    omega
def bin (l : List UInt8) : Prop := ∀ b ∈ l, b = 48 ∨ b = 49
theorem ones_le (l : List UInt8) : ones l ≤ l.length := List.countP_le_length
theorem zeros_all : ∀ (l : List UInt8), bin l → ones l = 0 → l = List.replicate l.length 48
  | [], _, _ => rfl
  | b :: r, hb, h => by
    unfold ones at h
    rw [List.countP_cons] at h
    rw [List.length_cons, List.replicate_succ, ← zeros_all r (fun c hc => hb c (by simp [hc])) (by unfold ones; omega)]
    rcases hb b (by simp) with e | e
    · rw [e]
    · simp [e] at h
theorem ones_all : ∀ (l : List UInt8), ones l = l.length → l = List.replicate l.length 49
  | [], _ => rfl
  | b :: r, h => by
    have hr := ones_le r
    unfold ones at h hr
    rw [List.countP_cons, List.length_cons] at h
    by_cases e : b = 49
    · have h2 : (if decide (b = 49) = true then 1 else 0) = 1 := by simp [e]
      rw [h2] at h
      have h' : ones r = r.length := by unfold ones; omega
      rw [List.length_cons, List.replicate_succ, ← ones_all r h', e]
    · simp [e] at h
      omega
theorem snoc_replicate (n : Nat) (c : UInt8) : c :: List.replicate n c = List.replicate n c ++ [c] := by
  rw [← List.replicate_succ, List.replicate_succ']
/-- THE WINDOW: a letter ahead of a stretch or another behind it: with sums alike by n + 1 it is the same word. -/
theorem vt_window (p q r : List UInt8) (a b : UInt8) (ha : a = 48 ∨ a = 49) (hb : b = 48 ∨ b = 49) (hq : bin q) (N : Nat) (hN : p.length + q.length + r.length + 1 ≤ N)
    (h : vtF 1 (p ++ (a :: (q ++ r))) % (N + 1) = vtF 1 (p ++ (q ++ (b :: r))) % (N + 1)) : a :: q = q ++ [b] := by
  rw [vtF_append, vtF_append, vtF, vtF_append, vtF_append, vtF, show 1 + p.length + 1 + q.length = 1 + p.length + q.length + 1 from by omega, vtF_succ q (1 + p.length)] at h
  have ho := ones_le q
  obtain ⟨V, hV⟩ : ∃ V, vtF 1 p + vtF (1 + p.length) q + vtF (1 + p.length + q.length + 1) r = V := ⟨_, rfl⟩
  have e1 : vtF 1 p + ((if a = 49 then 1 + p.length else 0) + (vtF (1 + p.length) q + ones q + vtF (1 + p.length + q.length + 1) r)) = V + ((if a = 49 then 1 + p.length else 0) + ones q) := by omega
  have e2 : vtF 1 p + (vtF (1 + p.length) q + ((if b = 49 then 1 + p.length + q.length else 0) + vtF (1 + p.length + q.length + 1) r)) = V + (if b = 49 then 1 + p.length + q.length else 0) := by omega
  rw [e1, e2] at h
  have hA : (if a = 49 then 1 + p.length else 0) + ones q < N + 1 := by split <;> omega
  have hB : (if b = 49 then 1 + p.length + q.length else 0) < N + 1 := by split <;> omega
  have key : (if a = 49 then 1 + p.length else 0) + ones q = (if b = 49 then 1 + p.length + q.length else 0) := by
    generalize (if a = 49 then 1 + p.length else 0) + ones q = A at *
    generalize (if b = 49 then 1 + p.length + q.length else 0) = B at *
    have h1 := Nat.div_add_mod (V + A) (N + 1)
    have h2 := Nat.div_add_mod (V + B) (N + 1)
    rw [h] at h1
    rcases Nat.lt_trichotomy ((V + A) / (N + 1)) ((V + B) / (N + 1)) with hl | hl | hl
    · have := Nat.mul_le_mul_left (N + 1) hl
      rw [Nat.succ_eq_add_one, Nat.mul_add, Nat.mul_one] at this
      omega
    · rw [hl] at h1; omega
    · have := Nat.mul_le_mul_left (N + 1) hl
      rw [Nat.succ_eq_add_one, Nat.mul_add, Nat.mul_one] at this
      omega
  have d : ¬ (48 : UInt8) = 49 := by decide
  clear h e1 e2 hA hB
  rcases ha with rfl | rfl
  · rcases hb with rfl | rfl
    · simp only [d, if_false] at key
      rw [zeros_all q hq (by omega)]
      exact snoc_replicate _ _
    · simp only [d, if_false, if_true] at key
      omega
  · rcases hb with rfl | rfl
    · simp only [d, if_false, if_true] at key
      omega
    · simp only [if_true] at key
      rw [ones_all q (by omega)]
      exact snoc_replicate _ _
theorem bin_sub {l m : List UInt8} (h : bin l) (hs : ∀ b ∈ m, b ∈ l) : bin m := fun b hb => h b (hs b hb)
/-- One letter put into a word at two places: alike by n + 1, it is one word. -/
theorem ins_unique (t : List UInt8) (i k : Nat) (a b : UInt8) (hi : i ≤ t.length) (hk : k ≤ t.length) (ht : bin t) (ha : a = 48 ∨ a = 49) (hb : b = 48 ∨ b = 49) (N : Nat) (hN : t.length + 1 ≤ N)
    (h : vtF 1 (t.take i ++ a :: t.drop i) % (N + 1) = vtF 1 (t.take k ++ b :: t.drop k) % (N + 1)) : t.take i ++ a :: t.drop i = t.take k ++ b :: t.drop k := by
  have main : ∀ (i k : Nat) (a b : UInt8), i ≤ k → k ≤ t.length → (a = 48 ∨ a = 49) → (b = 48 ∨ b = 49) → vtF 1 (t.take i ++ a :: t.drop i) % (N + 1) = vtF 1 (t.take k ++ b :: t.drop k) % (N + 1) → t.take i ++ a :: t.drop i = t.take k ++ b :: t.drop k := by
    intro i k a b hik hk ha hb h
    have e1 : t.drop i = (t.drop i).take (k - i) ++ t.drop k := by
      conv => lhs; rw [← List.take_append_drop (k - i) (t.drop i), List.drop_drop]
      rw [show i + (k - i) = k from by omega]
    have e2 : t.take k = t.take i ++ (t.drop i).take (k - i) := by
      conv => lhs; rw [show k = i + (k - i) from by omega, List.take_add]
    have hl : ((t.drop i).take (k - i)).length = k - i := by rw [List.length_take, List.length_drop]; omega
    rw [e1, e2, List.append_assoc] at h
    have hw := vt_window (t.take i) ((t.drop i).take (k - i)) (t.drop k) a b ha hb (bin_sub ht fun c hc => List.mem_of_mem_drop (List.mem_of_mem_take hc)) N (by rw [hl, List.length_take, List.length_drop]; omega) h
    rw [e1, e2, List.append_assoc, ← List.cons_append, hw, List.append_assoc]
    rfl
  rcases Nat.le_total i k with hik | hik
  · exact main i k a b hik hk ha hb h
  · exact (main k i b a hik hi hb ha h.symm).symm
/-- One letter taken out of a word at two places: alike by n + 1, it is one word. -/
theorem del_unique (u : List UInt8) (i k : Nat) (hi : i < u.length) (hk : k < u.length) (hu : bin u) (N : Nat) (hN : u.length ≤ N + 1)
    (h : vtF 1 (u.take i ++ u.drop (i + 1)) % (N + 1) = vtF 1 (u.take k ++ u.drop (k + 1)) % (N + 1)) : u.take i ++ u.drop (i + 1) = u.take k ++ u.drop (k + 1) := by
  have main : ∀ (i k : Nat), i < k → k < u.length → vtF 1 (u.take i ++ u.drop (i + 1)) % (N + 1) = vtF 1 (u.take k ++ u.drop (k + 1)) % (N + 1) → u.take i ++ u.drop (i + 1) = u.take k ++ u.drop (k + 1) := by
    intro i k hik hk h
    have hi : i < u.length := by omega
    have e1 : u.drop (i + 1) = (u.drop (i + 1)).take (k - (i + 1)) ++ u[k] :: u.drop (k + 1) := by
      conv => lhs; rw [← List.take_append_drop (k - (i + 1)) (u.drop (i + 1)), List.drop_drop]
      rw [show i + 1 + (k - (i + 1)) = k from by omega, List.drop_eq_getElem_cons hk]
    have e2 : u.take k = u.take i ++ u[i] :: (u.drop (i + 1)).take (k - (i + 1)) := by
      conv => lhs; rw [show k = i + (k - i) from by omega, List.take_add, List.drop_eq_getElem_cons hi, show k - i = (k - (i + 1)) + 1 from by omega, List.take_succ_cons]
    have hl : ((u.drop (i + 1)).take (k - (i + 1))).length = k - (i + 1) := by rw [List.length_take, List.length_drop]; omega
    rw [e1, e2, List.append_assoc, List.cons_append] at h
    have hw := vt_window (u.take i) ((u.drop (i + 1)).take (k - (i + 1))) (u.drop (k + 1)) u[i] u[k] (hu _ (List.getElem_mem hi)) (hu _ (List.getElem_mem hk)) (bin_sub hu fun c hc => List.mem_of_mem_drop (List.mem_of_mem_take hc)) N (by rw [hl, List.length_take, List.length_drop]; omega) h.symm
    rw [e1, e2, List.append_assoc, hw, List.append_assoc]
    rfl
  rcases Nat.lt_trichotomy i k with hik | hik | hik
  · exact main i k hik hk h
  · rw [hik]
  · exact (main k i hik hi h.symm).symm
def lst (x : ByteArray) : List UInt8 := x.data.toList
theorem lst_inj {x y : ByteArray} (h : lst x = lst y) : x = y := ByteArray.ext (Array.toList_inj.1 h)
theorem lst_append (x y : ByteArray) : lst (x ++ y) = lst x ++ lst y := by simp [lst]
theorem lst_length (x : ByteArray) : (lst x).length = x.size := by simp [lst]
theorem lst_extract (x : ByteArray) (i j : Nat) : lst (x.extract i j) = ((lst x).take j).drop i := by
  unfold lst
  rw [ByteArray.data_extract, Array.toList_extract, List.extract_eq_take_drop, List.take_drop]
  by_cases h : i ≤ j
  · rw [show i + (j - i) = j from by omega]
  · rw [show j - i = 0 from by omega, Nat.add_zero]
    rw [List.drop_eq_nil_of_le (by rw [List.length_take]; omega), List.drop_eq_nil_of_le (by rw [List.length_take]; omega)]
theorem lst_del (x : ByteArray) (i : Nat) : lst (delAt x i) = (lst x).take i ++ (lst x).drop (i + 1) := by
  unfold delAt
  rw [lst_append, lst_extract, lst_extract, List.drop_zero, ← lst_length, List.take_length]
theorem lst_put (x : ByteArray) (i c : Nat) (hc : c < 2) : lst (putAt x i c) = (lst x).take i ++ UInt8.ofNat (48 + c) :: (lst x).drop i := by
  unfold putAt
  rw [lst_append, lst_append, lst_extract x 0 i, lst_extract x i x.size, List.drop_zero, ← lst_length, List.take_length, List.append_assoc]
  congr 1
  have : lst ((⟨#[48, 49, 50, 51]⟩ : ByteArray).extract c (c + 1)) = [UInt8.ofNat (48 + c)] := by
    rcases (show c = 0 ∨ c = 1 by omega) with rfl | rfl <;> decide +kernel
  rw [this]
  rfl
theorem wrong_bin {m : Nat} {x : ByteArray} (hs : x.size ≤ m) (hb : bin (lst x)) : wrong m x = 0 := by
  unfold wrong
  rw [if_neg (by omega), badF, if_neg]
  rw [List.any_eq_true]
  rintro ⟨b, hm, hx⟩
  rcases hb b hm with rfl | rfl <;> simp at hx
theorem mem_putsAll {x y : ByteArray} {n : Nat} : y ∈ putsAll x 2 n ↔ ∃ i c, i < n ∧ c < 2 ∧ y = putAt x i c := by
  unfold putsAll putsTo
  simp only [List.mem_flatMap, List.mem_map, List.mem_range]
  constructor
  · rintro ⟨i, hi, c, hc, rfl⟩; exact ⟨i, c, hi, hc, rfl⟩
  · rintro ⟨i, c, hi, hc, rfl⟩; exact ⟨i, hi, c, hc, rfl⟩
theorem mem_delAll {x y : ByteArray} {n : Nat} : y ∈ delAll x n ↔ ∃ i, i < n ∧ y = delAt x i := by
  unfold delAll
  simp only [List.mem_map, List.mem_range]
  constructor
  · rintro ⟨i, hi, rfl⟩; exact ⟨i, hi, rfl⟩
  · rintro ⟨i, hi, rfl⟩; exact ⟨i, hi, rfl⟩
theorem letter (c : UInt8) (h : c = 48 ∨ c = 49) : ∃ k, k < 2 ∧ c = UInt8.ofNat (48 + k) := by
  rcases h with rfl | rfl
  · exact ⟨0, by omega, by decide⟩
  · exact ⟨1, by omega, by decide⟩
theorem letter_bin (k : Nat) (h : k < 2) : UInt8.ofNat (48 + k) = 48 ∨ UInt8.ofNat (48 + k) = 49 := by
  rcases (show k = 0 ∨ k = 1 by omega) with rfl | rfl
  · exact Or.inl (by decide)
  · exact Or.inr (by decide)
theorem firstIn_eq {n a : Nat} {l : List ByteArray} {s : ByteArray} (hm : s ∈ l) (hs : inL n a s = true) (hu : ∀ y ∈ l, inL n a y = true → y = s) : firstIn n a l = (s, 0) := by
  unfold firstIn
  cases hf : l.find? (inL n a) with
  | none =>
    rw [List.find?_eq_none] at hf
    exact absurd hs (by simpa using hf s hm)
  | some y =>
    rw [hu y (List.mem_of_find?_eq_some hf) (List.find?_some hf)]
/-- Levenshtein: the word with one letter removed. -/
theorem restored (s : ByteArray) (hb : bin (lst s)) (i : Nat) (hi : i < s.size) : firstIn s.size (vt s % (s.size + 1)) (G.putAll (putsAll (delAt s i) 2 ((delAt s i).size + 1))) = (s, 0) := by
  have hd := del_size s i hi
  have hdb : bin (lst (delAt s i)) := by
    rw [lst_del]
    intro b hm
    rw [List.mem_append] at hm
    rcases hm with hm | hm
    · exact hb b (List.mem_of_mem_take hm)
    · exact hb b (List.mem_of_mem_drop hm)
  have hi' : i < (lst s).length := by rw [lst_length]; exact hi
  have hself : ∃ c, c < 2 ∧ s = putAt (delAt s i) i c := by
    obtain ⟨c, hc, e⟩ := letter ((lst s)[i]) (hb _ (List.getElem_mem hi'))
    refine ⟨c, hc, lst_inj ?_⟩
    rw [lst_put _ _ _ hc, ← e, lst_del]
    have hl : ((lst s).take i).length = i := by rw [List.length_take]; omega
    rw [List.take_append_of_le_length (by omega), List.take_of_length_le (by omega), List.drop_append_of_le_length (by omega), List.drop_eq_nil_of_le (by omega), List.nil_append, ← List.drop_eq_getElem_cons hi', List.take_append_drop]
  obtain ⟨c, hc, hs⟩ := hself
  refine firstIn_eq ?_ ?_ ?_
  · rw [mem_putAll, mem_putsAll]
    exact ⟨i, c, by omega, hc, hs⟩
  · simp [inL]
  · intro y hy hin
    rw [mem_putAll, mem_putsAll] at hy
    obtain ⟨k, c2, hk, hc2, rfl⟩ := hy
    unfold inL at hin
    simp only [Bool.and_eq_true, decide_eq_true_eq] at hin
    have hlen : (lst (delAt s i)).length = s.size - 1 := by rw [lst_length, hd]
    refine lst_inj ?_
    have e1 := lst_put (delAt s i) i c hc
    rw [← hs] at e1
    have e2 := lst_put (delAt s i) k c2 hc2
    have hv : vtF 1 (lst s) % (s.size + 1) = vtF 1 (lst (putAt (delAt s i) k c2)) % (s.size + 1) := hin.2.symm
    rw [e1, e2] at hv
    rw [e2, e1]
    exact (ins_unique (lst (delAt s i)) i k _ _ (by omega) (by omega) hdb (letter_bin c hc) (letter_bin c2 hc2) s.size (by omega) hv).symm
/-- Levenshtein: the word with one letter put in. -/
theorem removed (s u : ByteArray) (hub : bin (lst u)) (k : Nat) (hk : k < u.size) (hs : s = delAt u k) : firstIn s.size (vt s % (s.size + 1)) (G.putAll (delAll u u.size)) = (s, 0) := by
  have hd : s.size = u.size - 1 := by rw [hs]; exact del_size u k hk
  refine firstIn_eq ?_ ?_ ?_
  · rw [mem_putAll, mem_delAll]
    exact ⟨k, hk, hs⟩
  · simp [inL]
  · intro y hy hin
    rw [mem_putAll, mem_delAll] at hy
    obtain ⟨m, hm, rfl⟩ := hy
    unfold inL at hin
    simp only [Bool.and_eq_true, decide_eq_true_eq] at hin
    have hv : vtF 1 (lst (delAt u m)) % (s.size + 1) = vtF 1 (lst s) % (s.size + 1) := hin.2
    refine lst_inj ?_
    rw [hs, lst_del, lst_del]
    rw [lst_del, hs, lst_del, ← hs] at hv
    exact del_unique (lst u) m k (by rw [lst_length]; exact hm) (by rw [lst_length]; exact hk) hub s.size (by rw [lst_length]; omega) hv
/-! ### words out of numbers -/
theorem u8_range {x : Int} (h : (Lit.int .u8 x).wf = true) : 0 ≤ x ∧ x ≤ 255 := by
  have m1 : IntKind.u8.min = 0 := by decide
  have m2 : IntKind.u8.max = 255 := by decide
  simp [Lit.wf] at h
  omega
end Go.Proofs.YtopmcoohdhlnaaaDoor.M
