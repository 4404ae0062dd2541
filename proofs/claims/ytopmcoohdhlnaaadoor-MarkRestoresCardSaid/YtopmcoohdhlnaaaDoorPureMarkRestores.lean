/- Restore and Remove return what the reference finds, or the errors that the document names: for all numbers and strings. -/
import Derived.ArgAppend
import Derived.Below
import Derived.BigQuiet
import Derived.Deep.AppendLies
import Derived.Deep.CutBlock
import Derived.Deep.DeepCutAuto
import Derived.Deep.Draws
import Derived.Deep.LoopGhost
import Derived.Deep.OwnRows
import Derived.Deep.QuietTactic
import Derived.Deep.RegionHeld3
import Derived.KernelRfl
import Derived.Laws.BitsLemmas
import Derived.Laws.BytesArg
import Derived.Laws.IdiomCopy
import Derived.Laws.MakeOwn
import Derived.Laws.OwnMore
import Derived.Laws.RangeAny
import Derived.Laws.Rows
import Derived.Laws.Slices
import Derived.Laws.StructEq
import Derived.Lib.AppendStr
import Derived.Lib.ConvBytes
import Derived.Lib.Hide
import Derived.Lib.OthersKept
import Derived.Lib.SliceRun
import Derived.Lib.TrimUEq
import Derived.Maps.AppendAt
import Derived.OrdersHeld
import Derived.Outline
import Derived.OwnWalk
import Derived.RowKit
import Derived.RowKit3
import Derived.Shelf.Slices.CompactS
import Derived.Shelf.Slices.In.SortNone
import Derived.Shelf.Small.Utf8
import Derived.Shelf.Sort.Plain
import Derived.Shelf.Strings.Builder1
import Derived.Shelf.Strings.Builder2
import Derived.Shelf.Strings.OnBuilder
import Derived.Shelf.Unicode.DecodeAny
import Derived.Shelf.Unicode.DecodeLast
import Derived.Shelf.Unicode.DecodeSlow
import Derived.Sort.OwnSorted
import Derived.Tactics
import Derived.Test.YtopmcoohdhlnaaaDoorProg
import Derived.WalkKit
import Derived.WalkSmall
import Derived.WalkSpells
import Derived.WideLaws
import Derived.Test.YtopmcoohdhlnaaaDoorG13
import Derived.Test.YtopmcoohdhlnaaaDoorM3
import Derived.Test.YtopmcoohdhlnaaaDoorM4
import Derived.Test.YtopmcoohdhlnaaaDoorPa11
import Derived.Test.YtopmcoohdhlnaaaDoorPb8
import Derived.Test.YtopmcoohdhlnaaaDoorWLast
import Derived.Test.YtopmcoohdhlnaaaDoorWMore
import Derived.Test.YtopmcoohdhlnaaaDoorWWords
namespace Go.Proofs.YtopmcoohdhlnaaaDoor.Pure
open Go Go.RowKit Go.Lib Go.Proofs Go.Proofs.YtopmcoohdhlnaaaDoorW.PrintWords Go.Proofs.YtopmcoohdhlnaaaDoorW.PrintLast Go.Proofs.YtopmcoohdhlnaaaDoorW.PrintMore
open G M Pb
set_option linter.unusedVariables false
set_option linter.unusedSimpArgs false
theorem cut_ev (x : ByteArray) (m : Nat) : ∃ s : ByteArray, Pa.pritchellaw09_cut.f x (m : Int) = some s ∧ s.size ≤ m := by
  unfold Pa.pritchellaw09_cut.f
  have h0 : 0 ≤ mn (x.size : Int) (m : Int) := by unfold mn; split <;> omega
  have h1 : mn (x.size : Int) (m : Int) ≤ (x.size : Int) := by unfold mn; split <;> omega
  have h2 : mn (x.size : Int) (m : Int) ≤ (m : Int) := by unfold mn; split <;> omega
  rw [if_pos h0, if_pos h1]
  refine ⟨_, rfl, ?_⟩
  rw [ByteArray.size_extract]
  omega
theorem first_cases (n a : Nat) (l : List ByteArray) : (∃ x, firstIn n a l = (x, 0)) ∨ firstIn n a l = (⟨#[]⟩, 5) := by
  unfold firstIn
  split
  · exact Or.inl ⟨_, rfl⟩
  · exact Or.inr rfl
theorem tb0 (x : ByteArray) : toBool2 (x, 0) = (x, true) := rfl
theorem tb5 (x : ByteArray) : toBool2 (x, 5) = (x, false) := rfl
theorem round0 (n a : Int) (s p q : ByteArray) (e f : Int) (k : Nat) (hk : 2000000 < k) (hs : s.size ≤ 100) (h : (p, e) = specP 20 (G.putAll (putsAll s 2 (s.size + 1))) n a s) :
    ∃ k', k ≤ k' + 10 ∧ pritchellaw09_MarkRestores.l0 k n a s p e q f 0 = pritchellaw09_MarkRestores.l0 k' n a s p e q f 1 := by
  obtain ⟨k, rfl⟩ : ∃ m, k = m + 1 + 1 + 1 + 1 + 1 := ⟨k - 5, by omega⟩
  have hw := word_ev 20 s (by omega) (k + 1 + 1 + 1 + 1) (by omega)
  have e20 : wrap64 (20 + 0) = ((20 : Nat) : Int) := by decide +kernel
  have e01 : wrap64 (0 + 1) = 1 := by decide +kernel
  by_cases hw0 : wrong 20 s = 0
  · by_cases hb : badNums n a
    · rw [spec_bad hw0 hb] at h
      cases h
      refine ⟨k, by omega, ?_⟩
      rw [hw0] at hw
      rw [pritchellaw09_MarkRestores.l0, if_pos (by decide), e20, hw, Option.bind_some, if_neg (by decide), pritchellaw09_MarkRestores.j1, if_pos rfl]
      have hj2 : pritchellaw09_MarkRestores.j2 (k + 1 + 1 + 1) n a s ⟨#[]⟩ 1 q f 0 ⟨#[]⟩ 1 ⟨#[]⟩ false 0 true = pritchellaw09_MarkRestores.l0 k n a s ⟨#[]⟩ 1 q f 1 := by
        rw [pritchellaw09_MarkRestores.j2, if_pos rfl, pritchellaw09_MarkRestores.j3, if_neg (by decide), pritchellaw09_MarkRestores.j4, if_neg (by decide), if_pos rfl, if_pos rfl, e01]
      by_cases h1 : n < 1
      · rw [if_pos h1, hj2]
      · rw [if_neg h1]
        by_cases h2 : n > 20
        · rw [if_pos h2, hj2]
        · rw [if_neg h2]
          by_cases h3 : a < 0
          · rw [if_pos h3, hj2]
          · rw [if_neg h3, decide_eq_true (by unfold badNums at hb; omega), hj2]
    · rw [spec_good hw0 hb] at h
      refine ⟨k, by omega, ?_⟩
      rw [hw0] at hw
      unfold badNums at hb
      rw [pritchellaw09_MarkRestores.l0, if_pos (by decide), e20, hw, Option.bind_some, if_neg (by decide), pritchellaw09_MarkRestores.j1, if_pos rfl, if_neg (by omega), if_neg (by omega), if_neg (by omega), decide_eq_false (by omega)]
      obtain ⟨n, rfl⟩ := Int.eq_ofNat_of_zero_le (show 0 ≤ n by omega)
      obtain ⟨a, rfl⟩ := Int.eq_ofNat_of_zero_le (show 0 ≤ a by omega)
      rw [Int.toNat_natCast, Int.toNat_natCast] at h
      rw [pritchellaw09_MarkRestores.j2, if_neg (by decide), if_pos rfl, rrestore_ev n a (by omega) s (by omega) (k + 1 + 1) (by omega), Option.bind_some, ← h, pritchellaw09_MarkRestores.j3, if_pos rfl, pritchellaw09_MarkRestores.j4]
      rcases first_cases n a (G.putAll (putsAll s 2 (s.size + 1))) with ⟨x, hx⟩ | hx
      · rw [hx] at h
        cases h
        rw [tb0]
        dsimp only
        rw [if_neg (by decide), if_pos rfl, if_pos rfl, e01]
      · rw [hx] at h
        cases h
        rw [tb5]
        dsimp only
        rw [if_pos (by decide), if_pos rfl, if_pos rfl, e01]
  · rw [spec_wrong hw0] at h
    cases h
    refine ⟨k + 1, by omega, ?_⟩
    rw [pritchellaw09_MarkRestores.l0, if_pos (by decide), e20, hw, Option.bind_some, if_neg (by decide), pritchellaw09_MarkRestores.j1, if_neg hw0, pritchellaw09_MarkRestores.j3, if_neg hw0, pritchellaw09_MarkRestores.j4, if_neg (by decide), if_pos rfl, if_pos rfl, e01]
theorem round1 (n a : Int) (s p q : ByteArray) (e f : Int) (k : Nat) (hk : 2000000 < k) (hs : s.size ≤ 100) (h : (q, f) = specP 21 (G.putAll (delAll s s.size)) n a s) :
    ∃ k', k ≤ k' + 10 ∧ pritchellaw09_MarkRestores.l0 k n a s p e q f 1 = pritchellaw09_MarkRestores.l0 k' n a s p e q f 2 := by
  obtain ⟨k, rfl⟩ : ∃ m, k = m + 1 + 1 + 1 + 1 + 1 := ⟨k - 5, by omega⟩
  have hw := word_ev 21 s (by omega) (k + 1 + 1 + 1 + 1) (by omega)
  have e20 : wrap64 (20 + 1) = ((21 : Nat) : Int) := by decide +kernel
  have e01 : wrap64 (1 + 1) = 2 := by decide +kernel
  by_cases hw0 : wrong 21 s = 0
  · by_cases hb : badNums n a
    · rw [spec_bad hw0 hb] at h
      cases h
      refine ⟨k, by omega, ?_⟩
      rw [hw0] at hw
      rw [pritchellaw09_MarkRestores.l0, if_pos (by decide), e20, hw, Option.bind_some, if_pos rfl, pritchellaw09_MarkRestores.j1, if_pos rfl]
      have hj2 : pritchellaw09_MarkRestores.j2 (k + 1 + 1 + 1) n a s p e ⟨#[]⟩ 1 1 ⟨#[]⟩ 1 ⟨#[]⟩ false 0 true = pritchellaw09_MarkRestores.l0 k n a s p e ⟨#[]⟩ 1 2 := by
        rw [pritchellaw09_MarkRestores.j2, if_pos rfl, pritchellaw09_MarkRestores.j3, if_neg (by decide), pritchellaw09_MarkRestores.j4, if_neg (by decide), if_pos rfl, if_pos rfl, e01]
      by_cases h1 : n < 1
      · rw [if_pos h1, hj2]
      · rw [if_neg h1]
        by_cases h2 : n > 20
        · rw [if_pos h2, hj2]
        · rw [if_neg h2]
          by_cases h3 : a < 0
          · rw [if_pos h3, hj2]
          · rw [if_neg h3, decide_eq_true (by unfold badNums at hb; omega), hj2]
    · rw [spec_good hw0 hb] at h
      refine ⟨k, by omega, ?_⟩
      rw [hw0] at hw
      unfold badNums at hb
      rw [pritchellaw09_MarkRestores.l0, if_pos (by decide), e20, hw, Option.bind_some, if_pos rfl, pritchellaw09_MarkRestores.j1, if_pos rfl, if_neg (by omega), if_neg (by omega), if_neg (by omega), decide_eq_false (by omega)]
      obtain ⟨n, rfl⟩ := Int.eq_ofNat_of_zero_le (show 0 ≤ n by omega)
      obtain ⟨a, rfl⟩ := Int.eq_ofNat_of_zero_le (show 0 ≤ a by omega)
      rw [Int.toNat_natCast, Int.toNat_natCast] at h
      rw [pritchellaw09_MarkRestores.j2, if_neg (by decide), if_neg (by decide), rremove_ev n a (by omega) s (by omega) (k + 1 + 1) (by omega), Option.bind_some, ← h, pritchellaw09_MarkRestores.j3, if_pos rfl, pritchellaw09_MarkRestores.j4]
      rcases first_cases n a (G.putAll (delAll s s.size)) with ⟨x, hx⟩ | hx
      · rw [hx] at h
        cases h
        rw [tb0]
        dsimp only
        rw [if_neg (by decide), if_pos rfl, if_pos rfl, e01]
      · rw [hx] at h
        cases h
        rw [tb5]
        dsimp only
        rw [if_pos (by decide), if_pos rfl, if_pos rfl, e01]
  · rw [spec_wrong hw0] at h
    cases h
    refine ⟨k + 1, by omega, ?_⟩
    rw [pritchellaw09_MarkRestores.l0, if_pos (by decide), e20, hw, Option.bind_some, if_pos rfl, pritchellaw09_MarkRestores.j1, if_neg hw0, pritchellaw09_MarkRestores.j3, if_neg hw0, pritchellaw09_MarkRestores.j4, if_neg (by decide), if_pos rfl, if_pos rfl, e01]
theorem MarkRestores : pritchellaw09_MarkRestores.Pure := by
  intro n a x _ _ _
  refine ⟨3000000, ?_⟩
  unfold pritchellaw09_MarkRestores.f
  obtain ⟨s, hs, hsz⟩ := cut_ev x 22
  rw [show (22 : Int) = ((22 : Nat) : Int) from rfl, hs, Option.bind_some, restore_ev n a s _ (by omega), Option.bind_some, remove_ev n a s _ (by omega), Option.bind_some]
  obtain ⟨⟨p, e⟩, hp⟩ : ∃ z, specP 20 (G.putAll (putsAll s 2 (s.size + 1))) n a s = z := ⟨_, rfl⟩
  obtain ⟨⟨q, f⟩, hq⟩ : ∃ z, specP 21 (G.putAll (delAll s s.size)) n a s = z := ⟨_, rfl⟩
  rw [hp, hq]
  obtain ⟨k1, hk1, h1⟩ := round0 n a s p q e f 3000000 (by omega) (by omega) hp.symm
  obtain ⟨k2, hk2, h2⟩ := round1 n a s p q e f k1 (by omega) (by omega) hq.symm
  refine h1.trans (h2.trans ?_)
  obtain ⟨k2, rfl⟩ : ∃ m, k2 = m + 1 := ⟨k2 - 1, by omega⟩
  rw [pritchellaw09_MarkRestores.l0, if_neg (by decide), lives_ev k2 (by omega), Option.bind_some]
end Go.Proofs.YtopmcoohdhlnaaaDoor.Pure
