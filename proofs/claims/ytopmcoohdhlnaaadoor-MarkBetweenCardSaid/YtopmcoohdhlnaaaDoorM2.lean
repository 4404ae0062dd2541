/- Plain laws: words in byte order, each once: the program's way (sorted, then without equal neighbours) and the reference's (put in one by one) give the same list for the same words. -/
import Derived.Test.YtopmcoohdhlnaaaDoorPb7
namespace Go.Proofs.YtopmcoohdhlnaaaDoor.M
open Go Go.RowKit Go.Lib Go.Proofs Go.Proofs.YtopmcoohdhlnaaaDoorW.PrintWords Go.Proofs.YtopmcoohdhlnaaaDoorW.PrintLast
open G
set_option linter.unusedVariables false
set_option linter.unusedSimpArgs false
def SL (l : List (List UInt8)) : Prop := l.Pairwise (· < ·)
theorem sl_unique : ∀ (l1 l2 : List (List UInt8)), SL l1 → SL l2 → (∀ x, x ∈ l1 ↔ x ∈ l2) → l1 = l2
  | [], [], _, _, _ => rfl
  | [], y :: r, _, _, h => absurd ((h y).2 (by simp)) (by simp)
  | x :: r, [], _, _, h => absurd ((h x).1 (by simp)) (by simp)
  | x :: r, y :: s, h1, h2, h => by
    have a1 := List.pairwise_cons.1 h1
    have a2 := List.pairwise_cons.1 h2
    have exy : x = y := by
      have m1 := (h x).1 (by simp)
      have m2 := (h y).2 (by simp)
      rcases List.mem_cons.1 m1 with e | e
      · exact e
      · rcases List.mem_cons.1 m2 with e2 | e2
        · exact e2.symm
        · exact absurd (List.lt_trans (a2.1 x e) (a1.1 y e2)) (List.lt_irrefl _)
    subst exy
    congr 1
    refine sl_unique r s a1.2 a2.2 fun z => ?_
    have hz := h z
    simp only [List.mem_cons] at hz
    constructor
    · intro hm
      rcases hz.1 (Or.inr hm) with e | e
      · subst e; exact absurd (a1.1 z hm) (List.lt_irrefl _)
      · exact e
    · intro hm
      rcases hz.2 (Or.inr hm) with e | e
      · subst e; exact absurd (a2.1 z hm) (List.lt_irrefl _)
      · exact e
theorem compactUpTo_spec (zs : List (List UInt8)) (hs : zs.Pairwise (· ≤ ·)) : ∀ m, m ≤ zs.length → SL (compactUpTo zs.toArray m) ∧ (∀ x, x ∈ compactUpTo zs.toArray m ↔ x ∈ zs.take m) ∧ (∀ (hm : m - 1 < zs.length), ∀ x ∈ compactUpTo zs.toArray m, x ≤ zs[m - 1])
  | 0, _ => by
    refine ⟨?_, ?_, ?_⟩
    · simp [SL, compactUpTo]
    · simp [compactUpTo]
    · simp [compactUpTo]
  | m + 1, h => by
    obtain ⟨i1, i2, i3⟩ := compactUpTo_spec zs hs m (by omega)
    have hm : m < zs.length := by omega
    have eget : zs.toArray[m]! = zs[m] := by simp [getElem!_pos, hm]
    have etake : zs.take (m + 1) = zs.take m ++ [zs[m]] := List.take_succ_eq_append_getElem hm
    have hprev : ∀ x ∈ compactUpTo zs.toArray m, x ≤ zs[m] := by
      intro x hx
      have hx' := (i2 x).1 hx
      obtain ⟨j, hj, rfl⟩ := List.getElem_of_mem hx'
      rw [List.length_take] at hj
      rw [List.getElem_take]
      exact List.pairwise_iff_getElem.1 hs j m (by omega) hm (by omega)
    rw [compactUpTo_succ, eget]
    by_cases hk : keeps zs.toArray m = true
    · rw [if_pos hk]
      refine ⟨?_, ?_, ?_⟩
      · unfold SL
        rw [List.pairwise_append]
        refine ⟨i1, by simp, ?_⟩
        intro x hx y hy
        rw [List.mem_singleton] at hy
        subst hy
        refine Std.lt_of_le_of_ne (hprev x hx) ?_
        rintro rfl
        have h0 : 0 < m := by
          rcases Nat.eq_zero_or_pos m with e | e
          · subst e
            simp [compactUpTo] at hx
          · exact e
        have hle := i3 (by omega) _ hx
        have hge : zs[m - 1] ≤ zs[m] := List.pairwise_iff_getElem.1 hs (m - 1) m (by omega) hm (by omega)
        have := List.le_antisymm hle hge
        unfold keeps at hk
        have e1 : zs.toArray[m - 1]! = zs[m - 1] := by
          have : m - 1 < zs.length := by omega
          simp [getElem!_pos, this]
        rw [eget, e1] at hk
        simp only [decide_eq_true_eq] at hk
        rcases hk with hk | hk
        · omega
        · exact hk this
      · intro x
        rw [etake, List.mem_append, List.mem_append, i2 x]
      · intro _ x hx
        simp only [Nat.add_sub_cancel]
        rw [List.mem_append, List.mem_singleton] at hx
        rcases hx with hx | rfl
        · exact hprev x hx
        · exact List.le_refl _
    · rw [if_neg hk, List.append_nil]
      unfold keeps at hk
      simp only [decide_eq_true_eq, not_or, ne_eq, Decidable.not_not] at hk
      obtain ⟨k0, k1⟩ := hk
      have hm1 : m - 1 < zs.length := by omega
      have e1 : zs.toArray[m - 1]! = zs[m - 1] := by simp [getElem!_pos, hm1]
      rw [eget, e1] at k1
      refine ⟨i1, ?_, ?_⟩
      · intro x
        rw [etake, List.mem_append, i2 x, List.mem_singleton]
        constructor
        · exact Or.inl
        · rintro (hx | rfl)
          · exact hx
          · rw [k1, List.mem_iff_getElem]
            exact ⟨m - 1, by rw [List.length_take]; omega, by rw [List.getElem_take]⟩
      · intro _ x hx
        simp only [Nat.add_sub_cancel]
        exact hprev x hx
theorem compact_spec (zs : List (List UInt8)) (hs : zs.Pairwise (· ≤ ·)) : SL (Lib.compact zs) ∧ ∀ x, x ∈ Lib.compact zs ↔ x ∈ zs := by
  obtain ⟨h1, h2, _⟩ := compactUpTo_spec zs hs zs.length (Nat.le_refl _)
  rw [List.take_length] at h2
  exact ⟨h1, h2⟩
theorem sortB_pairwise (l : List (List UInt8)) : (sortB l).Pairwise (· ≤ ·) := by
  have := List.pairwise_mergeSort (le := fun x y : List UInt8 => decide (x ≤ y)) (fun a b c h1 h2 => by simp only [decide_eq_true_eq] at *; exact List.le_trans h1 h2) (fun a b => by simp only [Bool.or_eq_true, decide_eq_true_eq]; exact List.le_total a b) l
  exact this.imp fun h => by simpa using h
theorem bytes_words (l : List (List UInt8)) : bytesL (wordsL l) = l := by
  unfold bytesL wordsL
  rw [List.map_map]
  conv => rhs; rw [← List.map_id l]
  congr 1
theorem bytesL_inj {l1 l2 : List ByteArray} (h : bytesL l1 = bytesL l2) : l1 = l2 := by
  unfold bytesL at h
  refine List.map_inj_right ?_ |>.1 h
  intro a b hab
  exact ByteArray.ext (Array.toList_inj.1 hab)
theorem setL_spec (l : List ByteArray) : SL (bytesL (setL l)) ∧ ∀ x, x ∈ bytesL (setL l) ↔ x ∈ bytesL l := by
  unfold setL
  rw [bytes_words]
  obtain ⟨h1, h2⟩ := compact_spec _ (sortB_pairwise (bytesL l))
  refine ⟨h1, fun x => ?_⟩
  rw [h2 x]
  exact (List.mergeSort_perm _ _).mem_iff
theorem bytesL_cons (x : ByteArray) (r : List ByteArray) : bytesL (x :: r) = x.data.toList :: bytesL r := rfl
theorem putL_spec (s : ByteArray) : ∀ (l : List ByteArray), SL (bytesL l) → SL (bytesL (putL l s)) ∧ ∀ y, y ∈ bytesL (putL l s) ↔ y = s.data.toList ∨ y ∈ bytesL l
  | [], _ => by
    refine ⟨by simp [putL, bytesL, SL], fun y => by simp [putL, bytesL]⟩
  | x :: r, h => by
    rw [bytesL_cons] at h
    obtain ⟨h1, h2⟩ := List.pairwise_cons.1 h
    obtain ⟨i1, i2⟩ := putL_spec s r h2
    simp only [putL, bytesLess_eq, decide_eq_true_eq, toList_data]
    split
    · rename_i hlt
      refine ⟨?_, fun y => ?_⟩
      · rw [bytesL_cons]
        refine List.pairwise_cons.2 ⟨fun y hy => ?_, i1⟩
        rcases (i2 y).1 hy with e | e
        · subst e; exact hlt
        · exact h1 y e
      · rw [bytesL_cons, bytesL_cons, List.mem_cons, List.mem_cons, i2 y]
        constructor
        · rintro (a | a | a)
          · exact Or.inr (Or.inl a)
          · exact Or.inl a
          · exact Or.inr (Or.inr a)
        · rintro (a | a | a)
          · exact Or.inr (Or.inl a)
          · exact Or.inl a
          · exact Or.inr (Or.inr a)
    · rename_i hnlt
      split
      · rename_i he
        refine ⟨h, fun y => ?_⟩
        rw [bytesL_cons, List.mem_cons, he]
        constructor
        · exact Or.inr
        · rintro (a | a)
          · exact Or.inl a
          · exact a
      · rename_i hne
        refine ⟨?_, fun y => ?_⟩
        · have hsx : s.data.toList < x.data.toList := Std.lt_of_le_of_ne hnlt (fun e => hne e.symm)
          rw [bytesL_cons, bytesL_cons]
          refine List.pairwise_cons.2 ⟨fun y hy => ?_, h⟩
          rcases List.mem_cons.1 hy with e | e
          · subst e; exact hsx
          · exact List.lt_trans hsx (h1 y e)
        · rw [bytesL_cons, List.mem_cons]
theorem putAll_fold : ∀ (l acc : List ByteArray), SL (bytesL acc) → SL (bytesL (l.foldl putL acc)) ∧ ∀ y, y ∈ bytesL (l.foldl putL acc) ↔ y ∈ bytesL l ∨ y ∈ bytesL acc
  | [], acc, h => ⟨h, fun y => by simp [bytesL]⟩
  | x :: r, acc, h => by
    obtain ⟨a1, a2⟩ := putL_spec x acc h
    obtain ⟨b1, b2⟩ := putAll_fold r (putL acc x) a1
    refine ⟨b1, fun y => ?_⟩
    rw [List.foldl_cons, b2 y, a2 y, bytesL_cons, List.mem_cons]
    constructor
    · rintro (a | a | a)
      · exact Or.inl (Or.inr a)
      · exact Or.inl (Or.inl a)
      · exact Or.inr a
    · rintro ((a | a) | a)
      · exact Or.inr (Or.inl a)
      · exact Or.inl a
      · exact Or.inr (Or.inr a)
theorem putAll_spec (l : List ByteArray) : SL (bytesL (G.putAll l)) ∧ ∀ y, y ∈ bytesL (G.putAll l) ↔ y ∈ bytesL l := by
  obtain ⟨h1, h2⟩ := putAll_fold l [] (by simp [bytesL, SL])
  exact ⟨h1, fun y => by rw [G.putAll, h2 y]; simp [bytesL]⟩
/-- Both ways give the same list, where the same words come in. -/
theorem set_put {l1 l2 : List ByteArray} (h : ∀ x, x ∈ l1 ↔ x ∈ l2) : setL l1 = G.putAll l2 := by
  obtain ⟨a1, a2⟩ := setL_spec l1
  obtain ⟨b1, b2⟩ := putAll_spec l2
  refine bytesL_inj (sl_unique _ _ a1 b1 fun y => ?_)
  rw [a2 y, b2 y]
  unfold bytesL
  simp only [List.mem_map]
  constructor
  · rintro ⟨x, hx, e⟩; exact ⟨x, (h x).1 hx, e⟩
  · rintro ⟨x, hx, e⟩; exact ⟨x, (h x).2 hx, e⟩
end Go.Proofs.YtopmcoohdhlnaaaDoor.M
/- Plain laws: what the program's and the reference's functions on words come to, for words of bounded length. -/
namespace Go.Proofs.YtopmcoohdhlnaaaDoor.M
open Go Go.RowKit Go.Lib Go.Proofs Go.Proofs.YtopmcoohdhlnaaaDoorW.PrintWords Go.Proofs.YtopmcoohdhlnaaaDoorW.PrintLast
open G
set_option linter.unusedVariables false
set_option linter.unusedSimpArgs false
theorem catB_two (a b : ByteArray) : catB [a, b] = a ++ b := by
  apply ByteArray.ext
  apply Array.toList_inj.1
  simp [catB]
theorem catB_three (a b c : ByteArray) : catB [a, b, c] = a ++ b ++ c := by
  apply ByteArray.ext
  apply Array.toList_inj.1
  simp [catB]
theorem del_size (x : ByteArray) (i : Nat) (h : i < x.size) : (delAt x i).size = x.size - 1 := by
  unfold delAt
  rw [ByteArray.size_append, ByteArray.size_extract, ByteArray.size_extract]
  omega
theorem shorter_loop (x : ByteArray) (hx : x.size ≤ 1000) (d : Nat) : ∀ (k i : Nat), x.size - i = d → i ≤ x.size → d < k →
    mark_shorter.l0 k x (delAll x i) (x.size : Int) (i : Int) = some (setL (delAll x x.size)) := by
  induction d with
  | zero =>
    intro k i hd hi hk
    obtain ⟨k, rfl⟩ : ∃ m, k = m + 1 := ⟨k - 1, by omega⟩
    have : i = x.size := by omega
    subst this
    simp only [mark_shorter.l0]
    rw [if_neg (by omega)]
    simp [delAll_length]
    omega
  | succ d ih =>
    intro k i hd hi hk
    obtain ⟨k, rfl⟩ : ∃ m, k = m + 1 := ⟨k - 1, by omega⟩
    have hlt : i < x.size := by omega
    have ew := w64succ i (by omega)
    have e1 : ((i : Int)).toNat = i := by omega
    have e2 : (((i + 1 : Nat) : Int)).toNat = i + 1 := by omega
    have c1 : (i : Int) < (x.size : Int) := by omega
    have c2 : (0 : Int) ≤ (i : Int) := by omega
    have c3 : (i : Int) ≤ (x.size : Int) := by omega
    have c4 : (0 : Int) ≤ ((i + 1 : Nat) : Int) := by omega
    have c5 : ((i + 1 : Nat) : Int) ≤ (x.size : Int) := by omega
    have hj : mark_joined.f [x.extract 0 i, x.extract (i + 1) x.size] = some (delAt x i) := by
      unfold mark_joined.f
      rw [catB_two, if_pos]
      · rfl
      · have h2 := del_size x i hlt
        unfold delAt at h2
        rw [h2]
        exact ⟨by omega, by simp⟩
    have h := ih k (i + 1) (by omega) (by omega) (by omega)
    simp only [mark_shorter.l0]
    rw [if_pos c1, if_pos c2, if_pos c3, ew, if_pos c4, if_pos c5, e1, e2, hj, Option.bind_some, delAll_length, if_pos (by omega), ← delAll_succ, h]
theorem shorter_ev (x : ByteArray) (hx : x.size ≤ 1000) (k : Nat) (hk : x.size < k) : mark_shorter.f k x = some (putAll (delAll x x.size)) := by
  have h := shorter_loop x hx x.size k 0 (by omega) (by omega) hk
  rw [set_put (l2 := delAll x x.size) (fun _ => Iff.rfl)] at h
  exact h
theorem ins_put0 (x : ByteArray) (k : Nat) : insAt x k 48 = putAt x k 0 := by
  unfold insAt putAt
  rw [catB_three]
  rfl
theorem ins_put1 (x : ByteArray) (k : Nat) : insAt x k 49 = putAt x k 1 := by
  unfold insAt putAt
  rw [catB_three]
  rfl
theorem longer_ev (x : ByteArray) (hx : x.size ≤ 1000) : mark_longer.f x ⟨#[48, 49]⟩ = some (putAll (putsAll x 2 (x.size + 1))) := by
  unfold mark_longer.f
  rw [if_pos ⟨rfl, hx⟩, set_put]
  intro y
  unfold insAll putsAll
  simp only [List.mem_flatMap]
  constructor
  · rintro ⟨k, hk, hm⟩
    refine ⟨k, hk, ?_⟩
    rw [ins_put0, ins_put1] at hm
    simpa [putsTo, List.range_succ] using hm
  · rintro ⟨k, hk, hm⟩
    refine ⟨k, hk, ?_⟩
    rw [ins_put0, ins_put1]
    simpa [putsTo, List.range_succ] using hm
/-! ### the reference's sum -/
/-! ### words that are none -/
/-- What is wrong with a word: its length, or a letter. -/
def wrong (m : Nat) (x : ByteArray) : Int := if m < x.size then 3 else if badWord ⟨#[48, 49]⟩ x = true then 2 else 0
theorem check_one (m : Nat) (hm : m ≤ 1000) (x : ByteArray) : mark_check.f (m : Int) ⟨#[48, 49]⟩ [x] = some (wrong m x) := by
  unfold mark_check.f wrong
  rw [if_pos ⟨by decide, by decide, by omega, by simp⟩]
  simp
theorem inSet01 (c : Nat) : inSet ⟨#[48, 49]⟩ c = (decide (c = 48) || decide (c = 49)) := by
  unfold inSet
  rw [show (⟨#[48, 49]⟩ : ByteArray).size = 1 + 1 from rfl, inTake_succ _ 1 c (by decide), inTake_succ _ 0 c (by decide), inTake_zero]
  show ((false || (48 == c)) || (49 == c)) = _
  by_cases h1 : c = 48 <;> by_cases h2 : c = 49 <;> simp [h1, h2] <;> omega
theorem badF (x : ByteArray) : badWord ⟨#[48, 49]⟩ x = x.data.toList.any fun b => !(decide (b.toNat = 48) || decide (b.toNat = 49)) := by
  unfold badWord
  congr 1
  funext b
  rw [inSet01]
end Go.Proofs.YtopmcoohdhlnaaaDoor.M
/- Plain laws: the word of a code of which a word is a shorter or a longer one, by the program and by the reference; the document's examples. -/
namespace Go.Proofs.YtopmcoohdhlnaaaDoor.M
open Go Go.RowKit Go.Lib Go.Proofs Go.Proofs.YtopmcoohdhlnaaaDoorW.PrintWords Go.Proofs.YtopmcoohdhlnaaaDoorW.PrintLast
open G
set_option linter.unusedVariables false
set_option linter.unusedSimpArgs false
/-- The numbers of a code of letters are bad. -/
def badNums (n a : Int) : Prop := n < 1 ∨ n > 20 ∨ a < 0 ∨ a > n
instance (n a : Int) : Decidable (badNums n a) := by unfold badNums; exact inferInstance
def firstIn (n a : Nat) (l : List ByteArray) : ByteArray × Int := match l.find? (inL n a) with | some x => (x, 0) | none => (⟨#[]⟩, 5)
theorem only_ev (n a : Nat) (l : List ByteArray) (hn : n ≤ 1000) (hl : l.length ≤ 1000000000) : mark_code_only.f 0 n 2 a 0 l = some (firstIn n a l) := by
  unfold mark_code_only.f firstIn
  rw [if_pos]
  · have : inB 0 (n : Int) 2 (a : Int) 0 = inL n a := by
      funext x
      unfold inB
      rw [if_pos rfl]
      simp
    rw [this]
    generalize List.find? _ _ = o
    cases o <;> rfl
  · refine ⟨hl, ?_⟩
    unfold okCode
    exact ⟨by omega, by omega, by omega, Or.inl rfl⟩
/-- What Restore (over 20 letters, all longer words) and Remove (over 21, all shorter ones) return. -/
def specP (m : Nat) (l : List ByteArray) (n a : Int) (x : ByteArray) : ByteArray × Int :=
  if wrong m x ≠ 0 then (⟨#[]⟩, wrong m x) else if badNums n a then (⟨#[]⟩, 1) else firstIn n.toNat a.toNat l
theorem spec_wrong {m : Nat} {l : List ByteArray} {n a : Int} {x : ByteArray} (h : ¬ wrong m x = 0) : specP m l n a x = (⟨#[]⟩, wrong m x) := by
  unfold specP
  rw [if_pos h]
theorem spec_bad {m : Nat} {l : List ByteArray} {n a : Int} {x : ByteArray} (h : wrong m x = 0) (hb : badNums n a) : specP m l n a x = (⟨#[]⟩, 1) := by
  unfold specP
  rw [if_neg (by simp [h]), if_pos hb]
theorem spec_good {m : Nat} {l : List ByteArray} {n a : Int} {x : ByteArray} (h : wrong m x = 0) (hb : ¬ badNums n a) : specP m l n a x = firstIn n.toNat a.toNat l := by
  unfold specP
  rw [if_neg (by simp [h]), if_neg hb]
theorem wrong_size {m : Nat} {x : ByteArray} (h : wrong m x = 0) : x.size ≤ m := by
  unfold wrong at h
  split at h
  · cases h
  · omega
theorem restore_ev (n a : Int) (x : ByteArray) (k : Nat) (hk : 1 < k) : Pb.mark_Restore.f k n a x = some (specP 20 (putAll (putsAll x 2 (x.size + 1))) n a x) := by
  obtain ⟨k, rfl⟩ : ∃ m, k = m + 1 := ⟨k - 1, by omega⟩
  unfold Pb.mark_Restore.f
  have hc : mark_check.f 20 ⟨#[48, 49]⟩ [x] = some (wrong 20 x) := check_one 20 (by omega) x
  rw [hc, Option.bind_some]
  by_cases hw : wrong 20 x = 0
  · have hs := wrong_size hw
    rw [if_pos hw]
    by_cases h1 : n < 1
    · rw [if_pos h1, spec_bad hw (Or.inl h1)]; simp [Pb.mark_Restore.j0]
    · rw [if_neg h1]
      by_cases h2 : n > 20
      · rw [if_pos h2, spec_bad hw (Or.inr (Or.inl h2))]; simp [Pb.mark_Restore.j0]
      · rw [if_neg h2]
        by_cases h3 : a < 0
        · rw [if_pos h3, spec_bad hw (Or.inr (Or.inr (Or.inl h3)))]; simp [Pb.mark_Restore.j0]
        · rw [if_neg h3]
          by_cases h4 : a > n
          · rw [spec_bad hw (Or.inr (Or.inr (Or.inr h4)))]; simp [Pb.mark_Restore.j0, h4]
          · rw [spec_good hw (by unfold badNums; omega)]
            obtain ⟨n, rfl⟩ := Int.eq_ofNat_of_zero_le (show 0 ≤ n by omega)
            obtain ⟨a, rfl⟩ := Int.eq_ofNat_of_zero_le (show 0 ≤ a by omega)
            simp only [Pb.mark_Restore.j0]
            rw [if_neg (by simpa using h4), longer_ev x (by omega), Option.bind_some, only_ev n a _ (by omega) ?_]
            · rfl
            · have h := putAll_length (putsAll x 2 (x.size + 1))
              rw [putsAll_length] at h
              omega
  · rw [if_neg hw, spec_wrong hw]
theorem remove_ev (n a : Int) (x : ByteArray) (k : Nat) (hk : 100 < k) : Pb.mark_Remove.f k n a x = some (specP 21 (putAll (delAll x x.size)) n a x) := by
  obtain ⟨k, rfl⟩ : ∃ m, k = m + 1 := ⟨k - 1, by omega⟩
  unfold Pb.mark_Remove.f
  have hc : mark_check.f 21 ⟨#[48, 49]⟩ [x] = some (wrong 21 x) := check_one 21 (by omega) x
  rw [hc, Option.bind_some]
  by_cases hw : wrong 21 x = 0
  · have hs := wrong_size hw
    rw [if_pos hw]
    by_cases h1 : n < 1
    · rw [if_pos h1, spec_bad hw (Or.inl h1)]; simp [Pb.mark_Remove.j0]
    · rw [if_neg h1]
      by_cases h2 : n > 20
      · rw [if_pos h2, spec_bad hw (Or.inr (Or.inl h2))]; simp [Pb.mark_Remove.j0]
      · rw [if_neg h2]
        by_cases h3 : a < 0
        · rw [if_pos h3, spec_bad hw (Or.inr (Or.inr (Or.inl h3)))]; simp [Pb.mark_Remove.j0]
        · rw [if_neg h3]
          by_cases h4 : a > n
          · rw [spec_bad hw (Or.inr (Or.inr (Or.inr h4)))]; simp [Pb.mark_Remove.j0, h4]
          · rw [spec_good hw (by unfold badNums; omega)]
            obtain ⟨n, rfl⟩ := Int.eq_ofNat_of_zero_le (show 0 ≤ n by omega)
            obtain ⟨a, rfl⟩ := Int.eq_ofNat_of_zero_le (show 0 ≤ a by omega)
            simp only [Pb.mark_Remove.j0]
            rw [if_neg (by simpa using h4), shorter_ev x (by omega) k (by omega), Option.bind_some, only_ev n a _ (by omega) ?_]
            · rfl
            · have h := putAll_length (delAll x x.size)
              rw [delAll_length] at h
              omega
  · rw [if_neg hw, spec_wrong hw]
/-! ### the reference's -/
/-! ### the document's examples -/
theorem le_mono {α : Type} {f : Nat → Option α} (h : ∀ k, LeO (f k) (f (k + 1))) {k m : Nat} {r : α} (hk : k ≤ m) (hr : f k = some r) : f m = some r := by
  induction m with
  | zero => obtain rfl : k = 0 := by omega
            exact hr
  | succ m ih =>
    by_cases e : k = m + 1
    · rw [← e]; exact hr
    · exact h m r (ih (by omega))
theorem lives_1000 : Pb.pritchellaw09_lives.f 1000 = some true := by
  unfold Pb.pritchellaw09_lives.f
  rw [restore_ev _ _ _ 1000 (by omega), remove_ev _ _ _ 1000 (by omega)]
  decide +kernel
theorem lives_ev (k : Nat) (hk : 1000 ≤ k) : Pb.pritchellaw09_lives.f k = some true := le_mono Pb.pritchellaw09_lives.mono hk lives_1000
end Go.Proofs.YtopmcoohdhlnaaaDoor.M
/- Plain laws: a string cut to a length; a list compared with itself. -/
namespace Go.Proofs.YtopmcoohdhlnaaaDoor.M
open Go Go.RowKit Go.Lib Go.Proofs Go.Proofs.YtopmcoohdhlnaaaDoorW.PrintWords Go.Proofs.YtopmcoohdhlnaaaDoorW.PrintLast Go.Proofs.YtopmcoohdhlnaaaDoorW.PrintMore
open G
set_option linter.unusedVariables false
set_option linter.unusedSimpArgs false
end Go.Proofs.YtopmcoohdhlnaaaDoor.M
