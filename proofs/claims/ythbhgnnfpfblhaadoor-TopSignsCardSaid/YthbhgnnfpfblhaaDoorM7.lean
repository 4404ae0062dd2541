/- Plain laws: the program's table of longest strings in common and the reference's come to the same: a function of two places. -/
import Derived.Test.YthbhgnnfpfblhaaDoorM1
import Derived.Test.YthbhgnnfpfblhaaDoorM2
import Derived.Test.YthbhgnnfpfblhaaDoorPb5
namespace Go.Proofs.YthbhgnnfpfblhaaDoor.G
end Go.Proofs.YthbhgnnfpfblhaaDoor.G
namespace Go.Proofs.YthbhgnnfpfblhaaDoor.Pa
end Go.Proofs.YthbhgnnfpfblhaaDoor.Pa
namespace Go.Proofs.YthbhgnnfpfblhaaDoor.Pb
end Go.Proofs.YthbhgnnfpfblhaaDoor.Pb
namespace Go.Proofs.YthbhgnnfpfblhaaDoor.M
open Go Go.RowKit Go.Lib Go.Proofs Go.Proofs.YthbhgnnfpfblhaaDoorW.PrintWords Go.Proofs.YthbhgnnfpfblhaaDoorW.PrintLast Go.Proofs.YthbhgnnfpfblhaaDoorW.PrintMore
open G Pa Pb
set_option linter.unusedVariables false
set_option linter.unusedSimpArgs false
def betB (y x : ByteArray) : Bool := if x.size < y.size then true else if y.size = x.size then Op.bytesLess y.toList x.toList else false
def bet (x y : ByteArray) : ByteArray := if betB y x = true then y else x
theorem better_ev (x y : ByteArray) : mark_better.f x y = some (bet x y) := by
  unfold mark_better.f bet betB
  by_cases h1 : x.size < y.size
  · rw [if_pos (by omega), if_pos h1]; rfl
  · rw [if_neg (by omega), if_neg h1]
    by_cases h2 : y.size = x.size
    · rw [if_pos (by omega), if_pos h2]
      split <;> rfl
    · rw [if_neg (by omega), if_neg h2]; rfl
theorem bet_empty (x : ByteArray) : bet ByteArray.empty x = x := by
  by_cases h : 0 < x.size
  · unfold bet betB
    rw [if_pos (show ByteArray.empty.size < x.size from h)]; rfl
  · have : x = ByteArray.empty := by
      apply ByteArray.ext
      apply Array.eq_empty_of_size_eq_zero
      show x.size = 0
      omega
    subst this
    unfold bet
    split <;> rfl
/-- The first of the longest strings in common, from two places on. -/
def dp (s t : ByteArray) (i j : Nat) : ByteArray :=
  if h : i < s.size ∧ j < t.size then
    let x := bet (dp s t (i + 1) j) (dp s t i (j + 1))
    if s[i]'h.1 = t[j]'h.2 then bet x (s.extract i (i + 1) ++ dp s t (i + 1) (j + 1)) else x
  else ByteArray.empty
termination_by (s.size - i) + (t.size - j)
theorem dp_end (s t : ByteArray) (i j : Nat) (h : ¬ (i < s.size ∧ j < t.size)) : dp s t i j = ByteArray.empty := by
  rw [dp, dif_neg h]
theorem dp_step (s t : ByteArray) (i j : Nat) (hi : i < s.size) (hj : j < t.size) : dp s t i j = if s[i]'hi = t[j]'hj then bet (bet (dp s t (i + 1) j) (dp s t i (j + 1))) (s.extract i (i + 1) ++ dp s t (i + 1) (j + 1)) else bet (dp s t (i + 1) j) (dp s t i (j + 1)) := by
  rw [dp, dif_pos ⟨hi, hj⟩]
theorem dp_size (s t : ByteArray) : ∀ d i j, (s.size - i) + (t.size - j) = d → (dp s t i j).size ≤ s.size - i := by
  intro d
  induction d using Nat.strongRecOn with
  | ind d ih =>
    intro i j hd
    by_cases h : i < s.size ∧ j < t.size
    · have h1 := ih _ (by omega) (i + 1) j rfl
      have h2 := ih _ (by omega) i (j + 1) rfl
      have h3 := ih _ (by omega) (i + 1) (j + 1) rfl
      have hb : ∀ x y : ByteArray, x.size ≤ s.size - i → y.size ≤ s.size - i → (bet x y).size ≤ s.size - i := by
        intro x y hx hy
        unfold bet
        split <;> assumption
      have h4 : (s.extract i (i + 1) ++ dp s t (i + 1) (j + 1)).size ≤ s.size - i := by
        rw [ByteArray.size_append, ByteArray.size_extract]; omega
      rw [dp_step s t i j h.1 h.2]
      split
      · exact hb _ _ (hb _ _ (by omega) h2) h4
      · exact hb _ _ (by omega) h2
    · rw [dp_end s t i j h]
      exact Nat.zero_le _
def rowD (s t : ByteArray) (i : Nat) : List ByteArray := (List.range (t.size + 1)).map (dp s t i)
theorem rowD_len (s t : ByteArray) (i : Nat) : (rowD s t i).length = t.size + 1 := by simp [rowD]
theorem rowD_get (s t : ByteArray) (i j : Nat) (h : j ≤ t.size) : (rowD s t i).getD j ByteArray.empty = dp s t i j := by
  simp [rowD, List.getD_eq_getElem?_getD, List.getElem?_map, List.getElem?_range (show j < t.size + 1 by omega)]
def updT (T : List (List ByteArray)) (i j : Nat) (v : ByteArray) : List (List ByteArray) := T.set i ((T.getD i []).set j v)
/-- A table under way: the rows behind i stand; of row i what lies behind j; place j holds v. -/
structure Mid (s t : ByteArray) (T : List (List ByteArray)) (i j : Nat) (v : ByteArray) : Prop where
  len : T.length = s.size + 1
  hi : i ≤ s.size
  hj : j ≤ t.size
  behind : ∀ i', i < i' → i' ≤ s.size → T.getD i' [] = rowD s t i'
  rowlen : (T.getD i []).length = t.size + 1
  right : ∀ j', j < j' → j' ≤ t.size → (T.getD i []).getD j' ByteArray.empty = dp s t i j'
  left : ∀ j', j' < j → (T.getD i []).getD j' ByteArray.empty = ByteArray.empty
  at_ : (T.getD i []).getD j ByteArray.empty = v
theorem set_getD_ne {α : Type} (l : List α) (i k : Nat) (v d : α) (h : k ≠ i) : (l.set i v).getD k d = l.getD k d := by
  simp only [List.getD_eq_getElem?_getD]
  rw [List.getElem?_set_ne (Ne.symm h)]
theorem set_getD_eq {α : Type} (l : List α) (i : Nat) (v d : α) (h : i < l.length) : (l.set i v).getD i d = v := by
  simp [List.getD_eq_getElem?_getD, h]
theorem Mid.upd {s t : ByteArray} {T : List (List ByteArray)} {i j : Nat} {v : ByteArray} (h : Mid s t T i j v) (v' : ByteArray) : Mid s t (updT T i j v') i j v' := by
  have hT : i < T.length := by rw [h.len]; have := h.hi; omega
  have hr : (updT T i j v').getD i [] = (T.getD i []).set j v' := set_getD_eq _ _ _ _ hT
  have hj : j < (T.getD i []).length := by rw [h.rowlen]; have := h.hj; omega
  refine ⟨?_, h.hi, h.hj, ?_, ?_, ?_, ?_, ?_⟩
  · unfold updT; rw [List.length_set]; exact h.len
  · intro i' h1 h2
    unfold updT
    rw [set_getD_ne _ _ _ _ _ (by omega)]
    exact h.behind i' h1 h2
  · rw [hr, List.length_set]; exact h.rowlen
  · intro j' h1 h2
    rw [hr, set_getD_ne _ _ _ _ _ (by omega)]
    exact h.right j' h1 h2
  · intro j' h1
    rw [hr, set_getD_ne _ _ _ _ _ (by omega)]
    exact h.left j' h1
  · rw [hr, set_getD_eq _ _ _ _ hj]
theorem Mid.next {s t : ByteArray} {T : List (List ByteArray)} {i j : Nat} (h : Mid s t T i (j + 1) (dp s t i (j + 1))) : Mid s t T i j ByteArray.empty := by
  refine ⟨h.len, h.hi, by have := h.hj; omega, h.behind, h.rowlen, ?_, fun j' h1 => h.left j' (by omega), h.left j (by omega)⟩
  intro j' h1 h2
  by_cases e : j' = j + 1
  · rw [e]; exact h.at_
  · exact h.right j' (by omega) h2
theorem Mid.full {s t : ByteArray} {T : List (List ByteArray)} {i : Nat} (h : Mid s t T i 0 (dp s t i 0)) : T.getD i [] = rowD s t i := by
  apply List.ext_getElem
  · rw [h.rowlen, rowD_len]
  · intro j h1 h2
    rw [rowD_len] at h2
    have e1 := rowD_get s t i j (by omega)
    have e2 : (T.getD i []).getD j ByteArray.empty = dp s t i j := by
      by_cases e : j = 0
      · rw [e]; exact h.at_
      · exact h.right j (by omega) (by omega)
    rw [List.getD_eq_getElem?_getD, List.getElem?_eq_getElem h1, Option.getD_some] at e2
    rw [List.getD_eq_getElem?_getD, List.getElem?_eq_getElem (by rw [rowD_len]; omega), Option.getD_some] at e1
    rw [e1, e2]
theorem rdL2_nat (T : List (List ByteArray)) (i : Nat) : rd_L2 T (i : Int) = T.getD i [] := by unfold rd_L2; rw [Int.toNat_natCast]
theorem rdOf_nat (l : List ByteArray) (i : Nat) : rdOf ByteArray.empty l (i : Int) = l.getD i ByteArray.empty := by unfold rdOf; rw [Int.toNat_natCast]
theorem byte_eq (a b : UInt8) : ((a.toNat : Int) = (b.toNat : Int)) ↔ a = b := by
  constructor
  · intro h; apply UInt8.toNat_inj.1; omega
  · rintro rfl; rfl

theorem p_step (s t : ByteArray) (hs : s.size ≤ 1000) (ht : t.size ≤ 1000) (T : List (List ByteArray)) (i j : Nat) (hi : i < s.size) (hj : j < t.size) (h : Mid s t T i j ByteArray.empty) :
    ∃ T', Mid s t T' i j (dp s t i j) ∧ ∀ k, mark_common.l1 (k + 1 + 1 + 1 + 1 + 1) s t T (i : Int) (j : Int) = mark_common.l1 k s t T' (i : Int) (wrap64 ((j : Int) - 1)) := by
  have hl := h.len
  have A1 : (T.getD (i + 1) []).getD j ByteArray.empty = dp s t (i + 1) j := by rw [h.behind (i + 1) (by omega) (by omega), rowD_get _ _ _ _ (by omega)]
  have B1 : (T.getD i []).getD (j + 1) ByteArray.empty = dp s t i (j + 1) := h.right (j + 1) (by omega) (by omega)
  have m1 := h.upd (bet ByteArray.empty (dp s t (i + 1) j))
  rw [bet_empty] at m1
  have m2 := m1.upd (bet (dp s t (i + 1) j) (dp s t i (j + 1)))
  obtain ⟨T1, hT1⟩ : ∃ T1, updT T i j (dp s t (i + 1) j) = T1 := ⟨_, rfl⟩
  rw [hT1] at m1 m2
  obtain ⟨T2, hT2⟩ : ∃ T2, updT T1 i j (bet (dp s t (i + 1) j) (dp s t i (j + 1))) = T2 := ⟨_, rfl⟩
  rw [hT2] at m2
  have C1 : (T2.getD (i + 1) []).getD (j + 1) ByteArray.empty = dp s t (i + 1) (j + 1) := by rw [m2.behind (i + 1) (by omega) (by omega), rowD_get _ _ _ _ (by omega)]
  have R1 : (T2.getD (i + 1) []).length = t.size + 1 := by rw [m2.behind (i + 1) (by omega) (by omega), rowD_len]
  have R0 : (T.getD (i + 1) []).length = t.size + 1 := by rw [h.behind (i + 1) (by omega) (by omega), rowD_len]
  have hdp := dp_size s t _ (i + 1) (j + 1) rfl
  have hjn : mark_joined.f [s.extract i (i + 1), dp s t (i + 1) (j + 1)] = some (s.extract i (i + 1) ++ dp s t (i + 1) (j + 1)) := by
    unfold mark_joined.f
    rw [catB_two, if_pos ⟨by rw [ByteArray.size_append, ByteArray.size_extract]; omega, by simp⟩]
  have a1 : (0 : Int) ≤ ((i + 1 : Nat) : Int) := by omega
  have a2 : ((i + 1 : Nat) : Int) < (T.length : Int) := by omega
  have a3 : (0 : Int) ≤ (j : Int) := by omega
  have a4 : (j : Int) < ((T.getD (i + 1) []).length : Int) := by omega
  have a5 : (0 : Int) ≤ (i : Int) := by omega
  have a6 : (i : Int) < (T.length : Int) := by omega
  have a7 : (0 : Int) ≤ ((j + 1 : Nat) : Int) := by omega
  have a8 : ((j + 1 : Nat) : Int) < ((T.getD i []).length : Int) := by rw [h.rowlen]; omega
  have a9 : (j : Int) < ((T.getD i []).length : Int) := by rw [h.rowlen]; omega
  have b1 : (i : Int) < (T1.length : Int) := by rw [m1.len]; omega
  have b2 : (j : Int) < ((T1.getD i []).length : Int) := by rw [m1.rowlen]; omega
  have b3 : (i : Int) < (T2.length : Int) := by rw [m2.len]; omega
  have b4 : (j : Int) < ((T2.getD i []).length : Int) := by rw [m2.rowlen]; omega
  have b5 : ((i + 1 : Nat) : Int) < (T2.length : Int) := by rw [m2.len]; omega
  have b6 : ((j + 1 : Nat) : Int) < ((T2.getD (i + 1) []).length : Int) := by rw [R1]; omega
  have c1 : (i : Int) < (s.size : Int) := by omega
  have c2 : (j : Int) < (t.size : Int) := by omega
  have c3 : (i : Int) ≤ ((i + 1 : Nat) : Int) := by omega
  have c4 : ((i + 1 : Nat) : Int) ≤ (s.size : Int) := by omega
  have c5 : (j : Int) ≥ 0 := by omega
  have bi := bt_nat s i hi
  have bj := bt_nat t j hj
  have w1 := w64succ i (by omega)
  have w2 := w64succ j (by omega)
  have w3 : wrap64 (0 + 1) = 1 := by decide +kernel
  have w4 : wrap64 (1 + 1) = 2 := by decide +kernel
  have head : ∀ k, mark_common.l1 (k + 1 + 1 + 1 + 1 + 1) s t T (i : Int) (j : Int) = mark_common.l2 (k + 1) s t T2 (i : Int) (j : Int) [dp s t (i + 1) j, dp s t i (j + 1)] 2 2 := by
    intro k
    rw [mark_common.l1, if_pos c5, decide_eq_true c1, mark_common.j2, if_pos rfl, w1, w2]
    simp only [rdL2_nat, rdOf_nat, A1, B1]
    rw [if_pos a1, if_pos a2, if_pos a3, if_pos a4, if_pos a5, if_pos a6, if_pos a7, if_pos a8, Option.bind_some]
    rw [show (([dp s t (i + 1) j, dp s t i (j + 1)] : List ByteArray).length : Int) = 2 from rfl]
    rw [mark_common.l2, if_pos (by decide), if_pos (by decide), if_pos (show (0 : Int) < (([dp s t (i + 1) j, dp s t i (j + 1)] : List ByteArray).length : Int) by simp), if_pos a5, if_pos a6, if_pos a3]
    simp only [rdL2_nat, rdOf_nat, h.at_]
    rw [if_pos a9, show rdOf ByteArray.empty [dp s t (i + 1) j, dp s t i (j + 1)] 0 = dp s t (i + 1) j from rfl, better_ev, bet_empty, Option.bind_some, w3, Int.toNat_natCast, Int.toNat_natCast]
    rw [show T.set i ((T.getD i []).set j (dp s t (i + 1) j)) = T1 from hT1]
    rw [mark_common.l2, if_pos (by decide), if_pos (by decide), if_pos (show (1 : Int) < (([dp s t (i + 1) j, dp s t i (j + 1)] : List ByteArray).length : Int) by simp), if_pos a5, if_pos b1, if_pos a3]
    simp only [rdL2_nat, rdOf_nat, m1.at_]
    rw [if_pos b2, show rdOf ByteArray.empty [dp s t (i + 1) j, dp s t i (j + 1)] 1 = dp s t i (j + 1) from rfl, better_ev, Option.bind_some, w4, Int.toNat_natCast, Int.toNat_natCast]
    rw [show T1.set i ((T1.getD i []).set j (bet (dp s t (i + 1) j) (dp s t i (j + 1)))) = T2 from hT2]
  by_cases heq : s[i]'hi = t[j]'hj
  · have m3 := m2.upd (bet (bet (dp s t (i + 1) j) (dp s t i (j + 1))) (s.extract i (i + 1) ++ dp s t (i + 1) (j + 1)))
    refine ⟨_, by rw [dp_step s t i j hi hj, if_pos heq]; exact m3, fun k => ?_⟩
    rw [head k, mark_common.l2, if_neg (by decide), if_pos a5, if_pos c1, if_pos a3, if_pos c2, bi, bj, if_pos ((byte_eq _ _).2 heq), if_pos b3]
    simp only [rdL2_nat, rdOf_nat, w1, w2, C1, m2.at_, Int.toNat_natCast]
    rw [if_pos b4, if_pos c3, if_pos c4, if_pos a1, if_pos b5, if_pos a7, if_pos b6, hjn, Option.bind_some, better_ev, Option.bind_some]
    rfl
  · refine ⟨T2, ?_, fun k => ?_⟩
    · rw [dp_step s t i j hi hj, if_neg heq]; exact m2
    · rw [head k, mark_common.l2, if_neg (by decide), if_pos a5, if_pos c1, if_pos a3, if_pos c2, bi, bj, if_neg (fun e => heq ((byte_eq _ _).1 e))]

/-- A row, from place j on down. -/
theorem p_row (s t : ByteArray) (hs : s.size ≤ 1000) (ht : t.size ≤ 1000) (i : Nat) (hi : i < s.size) : ∀ (j : Nat) (T : List (List ByteArray)), j < t.size → Mid s t T i j ByteArray.empty →
    ∃ T', Mid s t T' i 0 (dp s t i 0) ∧ ∀ k, mark_common.l1 (k + 5 * (j + 1)) s t T (i : Int) (j : Int) = mark_common.l1 k s t T' (i : Int) (-1) := by
  intro j
  induction j with
  | zero =>
    intro T hj h
    obtain ⟨T', h1, h2⟩ := p_step s t hs ht T i 0 hi hj h
    refine ⟨T', h1, fun k => ?_⟩
    have := h2 k
    rw [show k + 5 * (0 + 1) = k + 1 + 1 + 1 + 1 + 1 from by omega]
    refine this.trans ?_
    congr 1
    decide +kernel
  | succ j ih =>
    intro T hj h
    obtain ⟨T1, h1, h2⟩ := p_step s t hs ht T i (j + 1) hi hj h
    obtain ⟨T2, h3, h4⟩ := ih T1 (by omega) h1.next
    refine ⟨T2, h3, fun k => ?_⟩
    have e : wrap64 (((j + 1 : Nat) : Int) - 1) = (j : Int) := by unfold wrap64; omega
    have a := h2 (k + 5 * (j + 1))
    rw [e, h4 k] at a
    rw [show k + 5 * (j + 1 + 1) = k + 5 * (j + 1) + 1 + 1 + 1 + 1 + 1 from by omega]
    exact a
structure Done (s t : ByteArray) (T : List (List ByteArray)) (i : Nat) : Prop where
  len : T.length = s.size + 1
  rows : ∀ i', i ≤ i' → i' ≤ s.size → T.getD i' [] = rowD s t i'
theorem rep_get (n j : Nat) : (List.replicate n ByteArray.empty).getD j ByteArray.empty = ByteArray.empty := by
  rw [List.getD_eq_getElem?_getD, List.getElem?_replicate]
  split <;> rfl
theorem Done.mid {s t : ByteArray} {T : List (List ByteArray)} {i : Nat} (h : Done s t T (i + 1)) (hi : i ≤ s.size) : Mid s t (T.set i (List.replicate (t.size + 1) ByteArray.empty)) i t.size (dp s t i t.size) := by
  have hT : i < T.length := by rw [h.len]; omega
  have hr := set_getD_eq T i (List.replicate (t.size + 1) ByteArray.empty) [] hT
  refine ⟨by rw [List.length_set]; exact h.len, hi, Nat.le_refl _, ?_, ?_, ?_, ?_, ?_⟩
  · intro i' h1 h2
    rw [set_getD_ne _ _ _ _ _ (by omega)]
    exact h.rows i' (by omega) h2
  · rw [hr, List.length_replicate]
  · intro j' h1 h2; omega
  · intro j' h1; rw [hr, rep_get]
  · rw [hr, rep_get, dp_end s t i t.size (by omega)]
theorem Mid.done {s t : ByteArray} {T : List (List ByteArray)} {i : Nat} (h : Mid s t T i 0 (dp s t i 0)) : Done s t T i := by
  refine ⟨h.len, fun i' h1 h2 => ?_⟩
  by_cases e : i' = i
  · rw [e]; exact h.full
  · exact h.behind i' (by omega) h2
theorem last_row {s t : ByteArray} {T : List (List ByteArray)} (h : Done s t T (s.size + 1)) : Done s t (T.set s.size (List.replicate (t.size + 1) ByteArray.empty)) s.size := by
  have hT : s.size < T.length := by rw [h.len]; omega
  have hr := set_getD_eq T s.size (List.replicate (t.size + 1) ByteArray.empty) [] hT
  refine ⟨by rw [List.length_set]; exact h.len, fun i' h1 h2 => ?_⟩
  obtain rfl : i' = s.size := by omega
  rw [hr]
  apply List.ext_getElem
  · rw [List.length_replicate, rowD_len]
  · intro j h1 h2
    simp [rowD, dp_end]
theorem p_line (s t : ByteArray) (hs : s.size ≤ 1000) (ht : t.size ≤ 1000) (i : Nat) (hi : i ≤ s.size) (T : List (List ByteArray)) (h : Done s t T (i + 1)) :
    ∃ T' c, Done s t T' i ∧ ∀ k, mark_common.l0 (k + c) s t T (i : Int) = mark_common.l0 k s t T' (wrap64 ((i : Int) - 1)) := by
  have w1 := w64succ t.size (by omega)
  have a1 : (i : Int) ≥ 0 := by omega
  have a2 : (0 : Int) ≤ ((t.size + 1 : Nat) : Int) := by omega
  have a3 : (((t.size + 1 : Nat) : Int)).toNat ≤ 17592186044416 := by omega
  have a4 : (0 : Int) ≤ (i : Int) := by omega
  have a5 : (i : Int) < (T.length : Int) := by rw [h.len]; omega
  have e1 : (((t.size + 1 : Nat) : Int)).toNat = t.size + 1 := by omega
  have head : ∀ k, mark_common.l0 (k + 1) s t T (i : Int) = mark_common.l1 k s t (T.set i (List.replicate (t.size + 1) ByteArray.empty)) (i : Int) (wrap64 ((t.size : Int) - 1)) := by
    intro k
    rw [mark_common.l0, if_pos a1, w1, if_pos a2, if_pos a3, if_pos a4, if_pos a5, e1, Int.toNat_natCast]
    rfl
  have hneg : ∀ k T', mark_common.l1 (k + 1 + 1) s t T' (i : Int) (-1) = mark_common.l0 k s t T' (wrap64 ((i : Int) - 1)) := by
    intro k T'
    rw [mark_common.l1, if_neg (by decide), mark_common.j2, if_neg (by decide)]
  by_cases hm : t.size = 0
  · have e2 : wrap64 ((t.size : Int) - 1) = -1 := by rw [hm]; decide +kernel
    refine ⟨T.set i (List.replicate (t.size + 1) ByteArray.empty), 3, ?_, fun k => by rw [show k + 3 = k + 1 + 1 + 1 from rfl, head, e2, hneg]⟩
    · by_cases hn : i = s.size
      · subst hn; exact last_row h
      · have hmid := h.mid hi
        rw [hm] at hmid
        rw [hm]
        exact hmid.done
  · have e2 : wrap64 ((t.size : Int) - 1) = ((t.size - 1 : Nat) : Int) := by unfold wrap64; omega
    by_cases hn : i = s.size
    · subst hn
      refine ⟨_, 3, last_row h, fun k => ?_⟩
      rw [show k + 3 = k + 1 + 1 + 1 from rfl, head, e2, mark_common.l1, if_pos (by omega), decide_eq_false (by omega), mark_common.j2, if_neg (by decide)]
    · have hmid := h.mid hi
      have hmid2 : Mid s t (T.set i (List.replicate (t.size + 1) ByteArray.empty)) i (t.size - 1) ByteArray.empty := by
        have : t.size = (t.size - 1) + 1 := by omega
        rw [this] at hmid
        have hx := hmid.next
        rw [← this] at hx
        exact hx
      obtain ⟨T2, h1, h2⟩ := p_row s t hs ht i (by omega) (t.size - 1) _ (by omega) hmid2
      refine ⟨T2, 2 + 5 * (t.size - 1 + 1) + 1, h1.done, fun k => ?_⟩
      rw [show k + (2 + 5 * (t.size - 1 + 1) + 1) = (k + 1 + 1 + 5 * (t.size - 1 + 1)) + 1 from by omega, head, e2, h2 (k + 1 + 1), hneg]
theorem p_end (s t : ByteArray) (T : List (List ByteArray)) (h : Done s t T 0) (k : Nat) : mark_common.l0 (k + 1) s t T (-1) = some (dp s t 0 0) := by
  have h0 := h.rows 0 (Nat.le_refl _) (Nat.zero_le _)
  have a1 : (0 : Int) < (T.length : Int) := by rw [h.len]; omega
  have r0 : rd_L2 T 0 = rowD s t 0 := by
    have := rdL2_nat T 0
    rw [h0] at this
    exact this
  have a2 : (0 : Int) < ((rowD s t 0).length : Int) := by rw [rowD_len]; omega
  have r1 : rdOf ByteArray.empty (rowD s t 0) 0 = dp s t 0 0 := by
    have := rdOf_nat (rowD s t 0) 0
    rw [rowD_get s t 0 0 (Nat.zero_le _)] at this
    exact this
  rw [mark_common.l0, if_neg (by decide), if_pos a1, r0, if_pos a2, r1]
theorem p_all (s t : ByteArray) (hs : s.size ≤ 1000) (ht : t.size ≤ 1000) : ∀ (i : Nat), i ≤ s.size → ∀ T, Done s t T (i + 1) → ∃ c, ∀ k, mark_common.l0 (k + c) s t T (i : Int) = some (dp s t 0 0) := by
  intro i
  induction i with
  | zero =>
    intro hi T h
    obtain ⟨T', c, h1, h2⟩ := p_line s t hs ht 0 hi T h
    refine ⟨1 + c, fun k => ?_⟩
    have a := h2 (k + 1)
    rw [show wrap64 (((0 : Nat) : Int) - 1) = -1 from by decide +kernel, p_end s t T' h1 k] at a
    rw [show k + (1 + c) = k + 1 + c from by omega]
    exact a
  | succ i ih =>
    intro hi T h
    obtain ⟨T', c, h1, h2⟩ := p_line s t hs ht (i + 1) hi T h
    obtain ⟨c2, h3⟩ := ih (by omega) T' h1
    refine ⟨c2 + c, fun k => ?_⟩
    have a := h2 (k + c2)
    rw [show wrap64 (((i + 1 : Nat) : Int) - 1) = (i : Int) from by unfold wrap64; omega, h3 k] at a
    rw [show k + (c2 + c) = k + c2 + c from by omega]
    exact a
theorem common_ev (s t : ByteArray) (hs : s.size ≤ 1000) (ht : t.size ≤ 1000) : ∃ c, ∀ k, mark_common.f (k + c) s t = some (dp s t 0 0) := by
  have hd : Done s t (List.replicate (s.size + 1) []) (s.size + 1) := ⟨by simp, fun i' h1 h2 => by omega⟩
  obtain ⟨c, h⟩ := p_all s t hs ht s.size (Nat.le_refl _) _ hd
  have w1 := w64succ s.size (by omega)
  have e1 : (((s.size + 1 : Nat) : Int)).toNat = s.size + 1 := by omega
  refine ⟨c, fun k => ?_⟩
  unfold mark_common.f
  rw [w1, if_pos (by omega), e1, if_pos (by omega)]
  exact h k
/-- The reference's table: rows from i on stand, those ahead are empty. -/
structure DoneR (s t : ByteArray) (T : List (List ByteArray)) (i : Nat) : Prop where
  done : Done s t T i
  ahead : ∀ i', i' < i → T.getD i' [] = List.replicate (t.size + 1) ByteArray.empty
theorem DoneR.mid {s t : ByteArray} {T : List (List ByteArray)} {i : Nat} (h : DoneR s t T (i + 1)) (hi : i ≤ s.size) : Mid s t T i t.size (dp s t i t.size) := by
  have hr := h.ahead i (by omega)
  refine ⟨h.done.len, hi, Nat.le_refl _, ?_, ?_, ?_, ?_, ?_⟩
  · intro i' h1 h2
    exact h.done.rows i' (by omega) h2
  · rw [hr, List.length_replicate]
  · intro j' h1 h2; omega
  · intro j' h1; rw [hr, rep_get]
  · rw [hr, rep_get, dp_end s t i t.size (by omega)]
end Go.Proofs.YthbhgnnfpfblhaaDoor.M
