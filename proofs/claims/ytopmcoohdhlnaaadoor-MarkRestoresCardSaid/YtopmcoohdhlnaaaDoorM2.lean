/- Plain laws: words in byte order, each once: the program's way (sorted, then without equal neighbours) and the reference's (put in one by one) give the same list for the same words. -/
import Derived.ArgAppend
import Derived.Below
import Derived.BigQuiet
import Derived.Deep.AppendLies
import Derived.Deep.CutBlock
import Derived.Deep.DeepCutAuto
import Derived.Deep.Draws
import Derived.Deep.LoopGhost
import Derived.Deep.OwnRows
import Derived.Deep.QuietTactic
import Derived.Deep.RegionHeld3
import Derived.KernelRfl
import Derived.Laws.BitsLemmas
import Derived.Laws.BytesArg
import Derived.Laws.IdiomCopy
import Derived.Laws.MakeOwn
import Derived.Laws.OwnMore
import Derived.Laws.Rows
import Derived.Laws.Slices
import Derived.Laws.StructEq
import Derived.Lib.AppendStr
import Derived.Lib.ConvBytes
import Derived.Lib.Hide
import Derived.Lib.SliceRun
import Derived.Maps.AppendAt
import Derived.OrdersHeld
import Derived.Outline
import Derived.OwnWalk
import Derived.RowKit
import Derived.RowKit3
import Derived.Shelf.Slices.CompactS
import Derived.Shelf.Slices.In.SortNone
import Derived.Shelf.Small.Utf8
import Derived.Shelf.Sort.Plain
import Derived.Shelf.Strings.Builder1
import Derived.Shelf.Strings.Builder2
import Derived.Shelf.Strings.OnBuilder
import Derived.Shelf.Unicode.DecodeAny
import Derived.Shelf.Unicode.DecodeLast
import Derived.Shelf.Unicode.DecodeSlow
import Derived.Sort.OwnSorted
import Derived.Tactics
import Derived.Test.YtopmcoohdhlnaaaDoorProg
import Derived.WalkKit
import Derived.WideLaws
import Derived.Test.YtopmcoohdhlnaaaDoorG12
import Derived.Test.YtopmcoohdhlnaaaDoorG13
import Derived.Test.YtopmcoohdhlnaaaDoorG5
import Derived.Test.YtopmcoohdhlnaaaDoorG6
import Derived.Test.YtopmcoohdhlnaaaDoorWLast
import Derived.Test.YtopmcoohdhlnaaaDoorWMore
import Derived.Test.YtopmcoohdhlnaaaDoorWShare
import Derived.Test.YtopmcoohdhlnaaaDoorWWords
namespace Go.Proofs.YtopmcoohdhlnaaaDoor.M
open Go Go.RowKit Go.Lib Go.Proofs Go.Proofs.YtopmcoohdhlnaaaDoorW.PrintWords Go.Proofs.YtopmcoohdhlnaaaDoorW.PrintLast
open G
set_option linter.unusedVariables false
set_option linter.unusedSimpArgs false
def SL (l : List (List UInt8)) : Prop := l.Pairwise (· < ·)
theorem sl_unique : ∀ (l1 l2 : List (List UInt8)), SL l1 → SL l2 → (∀ x, x ∈ l1 ↔ x ∈ l2) → l1 = l2
  | [], [], _, _, _ => rfl
  | [], y :: r, _, _, h => absurd ((h y).2 (by simp)) (by simp)
  | x :: r, [], _, _, h => absurd ((h x).1 (by simp)) (by simp)
  | x :: r, y :: s, h1, h2, h => by
    have a1 := List.pairwise_cons.1 h1
    have a2 := List.pairwise_cons.1 h2
    have exy : x = y := by
      have m1 := (h x).1 (by simp)
      have m2 := (h y).2 (by simp)
      rcases List.mem_cons.1 m1 with e | e
      · exact e
      · rcases List.mem_cons.1 m2 with e2 | e2
        · exact e2.symm
        · exact absurd (List.lt_trans (a2.1 x e) (a1.1 y e2)) (List.lt_irrefl _)
    subst exy
    congr 1
    refine sl_unique r s a1.2 a2.2 fun z => ?_
    have hz := h z
    simp only [List.mem_cons] at hz
    constructor
    · intro hm
      rcases hz.1 (Or.inr hm) with e | e
      · subst e; exact absurd (a1.1 z hm) (List.lt_irrefl _)
      · exact e
    · intro hm
      rcases hz.2 (Or.inr hm) with e | e
      · subst e; exact absurd (a2.1 z hm) (List.lt_irrefl _)
      · exact e
theorem compactUpTo_spec (zs : List (List UInt8)) (hs : zs.Pairwise (· ≤ ·)) : ∀ m, m ≤ zs.length → SL (compactUpTo zs.toArray m) ∧ (∀ x, x ∈ compactUpTo zs.toArray m ↔ x ∈ zs.take m) ∧ (∀ (hm : m - 1 < zs.length), ∀ x ∈ compactUpTo zs.toArray m, x ≤ zs[m - 1])
  | 0, _ => by
    refine ⟨?_, ?_, ?_⟩
    · simp [SL, compactUpTo]
    · simp [compactUpTo]
    · simp [compactUpTo]
  | m + 1, h => by
    obtain ⟨i1, i2, i3⟩ := compactUpTo_spec zs hs m (by omega)
    have hm : m < zs.length := by omega
    have eget : zs.toArray[m]! = zs[m] := by simp [getElem!_pos, hm]
    have etake : zs.take (m + 1) = zs.take m ++ [zs[m]] := List.take_succ_eq_append_getElem hm
    have hprev : ∀ x ∈ compactUpTo zs.toArray m, x ≤ zs[m] := by
      intro x hx
      have hx' := (i2 x).1 hx
      obtain ⟨j, hj, rfl⟩ := List.getElem_of_mem hx'
      rw [List.length_take] at hj
      rw [List.getElem_take]
      exact List.pairwise_iff_getElem.1 hs j m (by omega) hm (by omega)
    rw [compactUpTo_succ, eget]
    by_cases hk : keeps zs.toArray m = true
    · rw [if_pos hk]
      refine ⟨?_, ?_, ?_⟩
      · unfold SL
        rw [List.pairwise_append]
        refine ⟨i1, by simp, ?_⟩
        intro x hx y hy
        rw [List.mem_singleton] at hy
        subst hy
        refine Std.lt_of_le_of_ne (hprev x hx) ?_
        rintro rfl
        have h0 : 0 < m := by
          rcases Nat.eq_zero_or_pos m with e | e
          · subst e
            simp [compactUpTo] at hx
          · exact e
        have hle := i3 (by omega) _ hx
        have hge : zs[m - 1] ≤ zs[m] := List.pairwise_iff_getElem.1 hs (m - 1) m (by omega) hm (by omega)
        have := List.le_antisymm hle hge
        unfold keeps at hk
        have e1 : zs.toArray[m - 1]! = zs[m - 1] := by
          have : m - 1 < zs.length := by omega
          simp [getElem!_pos, this]
        rw [eget, e1] at hk
        simp only [decide_eq_true_eq] at hk
        rcases hk with hk | hk
        · omega
        · exact hk this
      · intro x
        rw [etake, List.mem_append, List.mem_append, i2 x]
      · intro _ x hx
        simp only [Nat.add_sub_cancel]
        rw [List.mem_append, List.mem_singleton] at hx
        rcases hx with hx | rfl
        · exact hprev x hx
        · exact List.le_refl _
    · rw [if_neg hk, List.append_nil]
      unfold keeps at hk
      simp only [decide_eq_true_eq, not_or, ne_eq, Decidable.not_not] at hk
      obtain ⟨k0, k1⟩ := hk
      have hm1 : m - 1 < zs.length := by omega
      have e1 : zs.toArray[m - 1]! = zs[m - 1] := by simp [getElem!_pos, hm1]
      rw [eget, e1] at k1
      refine ⟨i1, ?_, ?_⟩
      · intro x
        rw [etake, List.mem_append, i2 x, List.mem_singleton]
        constructor
        · exact Or.inl
        · rintro (hx | rfl)
          · exact hx
          · rw [k1, List.mem_iff_getElem]
            exact ⟨m - 1, by rw [List.length_take]; omega, by rw [List.getElem_take]⟩
      · intro _ x hx
        simp only [Nat.add_sub_cancel]
        exact hprev x hx
theorem compact_spec (zs : List (List UInt8)) (hs : zs.Pairwise (· ≤ ·)) : SL (Lib.compact zs) ∧ ∀ x, x ∈ Lib.compact zs ↔ x ∈ zs := by
  obtain ⟨h1, h2, _⟩ := compactUpTo_spec zs hs zs.length (Nat.le_refl _)
  rw [List.take_length] at h2
  exact ⟨h1, h2⟩
theorem sortB_pairwise (l : List (List UInt8)) : (sortB l).Pairwise (· ≤ ·) := by
  have := List.pairwise_mergeSort (le := fun x y : List UInt8 => decide (x ≤ y)) (fun a b c h1 h2 => by simp only [decide_eq_true_eq] at *; exact List.le_trans h1 h2) (fun a b => by simp only [Bool.or_eq_true, decide_eq_true_eq]; exact List.le_total a b) l
  exact this.imp fun h => by simpa using h
theorem bytes_words (l : List (List UInt8)) : bytesL (wordsL l) = l := by
  unfold bytesL wordsL
  rw [List.map_map]
  conv => rhs; rw [← List.map_id l]
  congr 1
theorem bytesL_inj {l1 l2 : List ByteArray} (h : bytesL l1 = bytesL l2) : l1 = l2 := by
  unfold bytesL at h
  refine List.map_inj_right ?_ |>.1 h
  intro a b hab
  exact ByteArray.ext (Array.toList_inj.1 hab)
theorem setL_spec (l : List ByteArray) : SL (bytesL (setL l)) ∧ ∀ x, x ∈ bytesL (setL l) ↔ x ∈ bytesL l := by
  unfold setL
  rw [bytes_words]
  obtain ⟨h1, h2⟩ := compact_spec _ (sortB_pairwise (bytesL l))
  refine ⟨h1, fun x => ?_⟩
  rw [h2 x]
  exact (List.mergeSort_perm _ _).mem_iff
theorem bytesL_cons (x : ByteArray) (r : List ByteArray) : bytesL (x :: r) = x.data.toList :: bytesL r := rfl
theorem putL_spec (s : ByteArray) : ∀ (l : List ByteArray), SL (bytesL l) → SL (bytesL (putL l s)) ∧ ∀ y, y ∈ bytesL (putL l s) ↔ y = s.data.toList ∨ y ∈ bytesL l
  | [], _ => by
    refine ⟨by simp [putL, bytesL, SL], fun y => by simp [putL, bytesL]⟩
  | x :: r, h => by
    rw [bytesL_cons] at h
    obtain ⟨h1, h2⟩ := List.pairwise_cons.1 h
    obtain ⟨i1, i2⟩ := putL_spec s r h2
    simp only [putL, bytesLess_eq, decide_eq_true_eq, toList_data]
    split
    · rename_i hlt
      refine ⟨?_, fun y => ?_⟩
      · rw [bytesL_cons]
        refine List.pairwise_cons.2 ⟨fun y hy => ?_, i1⟩
        rcases (i2 y).1 hy with e | e
        · subst e; exact hlt
        · exact h1 y e
      · rw [bytesL_cons, bytesL_cons, List.mem_cons, List.mem_cons, i2 y]
        constructor
        · rintro (a | a | a)
          · exact Or.inr (Or.inl a)
          · exact Or.inl a
          · exact Or.inr (Or.inr a)
        · rintro (a | a | a)
          · exact Or.inr (Or.inl a)
          · exact Or.inl a
          · exact Or.inr (Or.inr a)
    · rename_i hnlt
      split
      · rename_i he
        refine ⟨h, fun y => ?_⟩
        rw [bytesL_cons, List.mem_cons, he]
        constructor
        · exact Or.inr
        · rintro (a | a)
          · exact Or.inl a
          · exact a
      · rename_i hne
        refine ⟨?_, fun y => ?_⟩
        · have hsx : s.data.toList < x.data.toList := Std.lt_of_le_of_ne hnlt (fun e => hne e.symm)
          rw [bytesL_cons, bytesL_cons]
          refine List.pairwise_cons.2 ⟨fun y hy => ?_, h⟩
          rcases List.mem_cons.1 hy with e | e
          · subst e; exact hsx
          · exact List.lt_trans hsx (h1 y e)
        · rw [bytesL_cons, List.mem_cons]
theorem putAll_fold : ∀ (l acc : List ByteArray), SL (bytesL acc) → SL (bytesL (l.foldl putL acc)) ∧ ∀ y, y ∈ bytesL (l.foldl putL acc) ↔ y ∈ bytesL l ∨ y ∈ bytesL acc
  | [], acc, h => ⟨h, fun y => by simp [bytesL]⟩
  | x :: r, acc, h => by
    obtain ⟨a1, a2⟩ := putL_spec x acc h
    obtain ⟨b1, b2⟩ := putAll_fold r (putL acc x) a1
    refine ⟨b1, fun y => ?_⟩
    rw [List.foldl_cons, b2 y, a2 y, bytesL_cons, List.mem_cons]
    constructor
    · rintro (a | a | a)
      · exact Or.inl (Or.inr a)
      · exact Or.inl (Or.inl a)
      · exact Or.inr a
    · rintro ((a | a) | a)
      · exact Or.inr (Or.inl a)
      · exact Or.inl a
      · exact Or.inr (Or.inr a)
theorem putAll_spec (l : List ByteArray) : SL (bytesL (G.putAll l)) ∧ ∀ y, y ∈ bytesL (G.putAll l) ↔ y ∈ bytesL l := by
  obtain ⟨h1, h2⟩ := putAll_fold l [] (by simp [bytesL, SL])
  exact ⟨h1, fun y => by rw [G.putAll, h2 y]; simp [bytesL]⟩
/-- Both ways give the same list, where the same words come in. -/
theorem set_put {l1 l2 : List ByteArray} (h : ∀ x, x ∈ l1 ↔ x ∈ l2) : setL l1 = G.putAll l2 := by
  obtain ⟨a1, a2⟩ := setL_spec l1
  obtain ⟨b1, b2⟩ := putAll_spec l2
  refine bytesL_inj (sl_unique _ _ a1 b1 fun y => ?_)
  rw [a2 y, b2 y]
  unfold bytesL
  simp only [List.mem_map]
  constructor
  · rintro ⟨x, hx, e⟩; exact ⟨x, (h x).1 hx, e⟩
  · rintro ⟨x, hx, e⟩; exact ⟨x, (h x).2 hx, e⟩
theorem mem_putAll (l : List ByteArray) (x : ByteArray) : x ∈ G.putAll l ↔ x ∈ l := by
  obtain ⟨b1, b2⟩ := putAll_spec l
  have h := b2 x.data.toList
  unfold bytesL at h
  simp only [List.mem_map] at h
  constructor
  · intro hx
    obtain ⟨y, hy, e⟩ := h.1 ⟨x, hx, rfl⟩
    rwa [show x = y from ByteArray.ext (Array.toList_inj.1 e.symm)]
  · intro hx
    obtain ⟨y, hy, e⟩ := h.2 ⟨x, hx, rfl⟩
    rwa [show x = y from ByteArray.ext (Array.toList_inj.1 e.symm)]
end Go.Proofs.YtopmcoohdhlnaaaDoor.M
