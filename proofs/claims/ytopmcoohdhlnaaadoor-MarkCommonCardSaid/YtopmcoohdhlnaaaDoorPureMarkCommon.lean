/- Common is a subsequence of both words, and no string that one of the words becomes by removing letters, and that is a subsequence of the other, is longer, or as long and less: for all words and all choices of letters. -/
import Derived.ArgAppend
import Derived.Below
import Derived.BigQuiet
import Derived.ChangeSlices
import Derived.Deep.AppendLies
import Derived.Deep.CutBlock
import Derived.Deep.DeepCutAuto
import Derived.Deep.Draws
import Derived.Deep.LoopGhost
import Derived.Deep.OwnRows
import Derived.Deep.QuietTactic
import Derived.Deep.RegionHeld3
import Derived.KernelRfl
import Derived.Laws.BitsLemmas
import Derived.Laws.BytesArg
import Derived.Laws.Cover1
import Derived.Laws.IdiomCopy
import Derived.Laws.MakeOwn
import Derived.Laws.OwnMore
import Derived.Laws.RangeAny
import Derived.Laws.Rows
import Derived.Laws.Slices
import Derived.Laws.StructEq
import Derived.Lib.AppendStr
import Derived.Lib.ConvBytes
import Derived.Lib.Hide
import Derived.Lib.OthersKept
import Derived.Lib.SliceRun
import Derived.Lib.TrimUEq
import Derived.Maps.AppendAt
import Derived.OrdersHeld
import Derived.Outline
import Derived.OwnWalk
import Derived.RowKit
import Derived.RowKit3
import Derived.Shelf.Slices.CompactS
import Derived.Shelf.Slices.In.SortNone
import Derived.Shelf.Small.Utf8
import Derived.Shelf.Sort.Plain
import Derived.Shelf.Strings.Builder1
import Derived.Shelf.Strings.Builder2
import Derived.Shelf.Strings.OnBuilder
import Derived.Shelf.Unicode.DecodeAny
import Derived.Shelf.Unicode.DecodeLast
import Derived.Shelf.Unicode.DecodeSlow
import Derived.SizedLaws
import Derived.Sort.OwnSorted
import Derived.Tactics
import Derived.Test.YtopmcoohdhlnaaaDoorProg
import Derived.WalkKit
import Derived.WalkSmall
import Derived.WalkSpells
import Derived.WideLaws
import Derived.Test.YtopmcoohdhlnaaaDoorM1
import Derived.Test.YtopmcoohdhlnaaaDoorM10
import Derived.Test.YtopmcoohdhlnaaaDoorM2
import Derived.Test.YtopmcoohdhlnaaaDoorM6
import Derived.Test.YtopmcoohdhlnaaaDoorM7
import Derived.Test.YtopmcoohdhlnaaaDoorM8
import Derived.Test.YtopmcoohdhlnaaaDoorPa12
import Derived.Test.YtopmcoohdhlnaaaDoorPb9
import Derived.Test.YtopmcoohdhlnaaaDoorWLast
import Derived.Test.YtopmcoohdhlnaaaDoorWMore
import Derived.Test.YtopmcoohdhlnaaaDoorWShare
import Derived.Test.YtopmcoohdhlnaaaDoorWWords
namespace Go.Proofs.YtopmcoohdhlnaaaDoor.Pure
open Go Go.RowKit Go.Lib Go.Proofs Go.Proofs.YtopmcoohdhlnaaaDoorW.PrintWords Go.Proofs.YtopmcoohdhlnaaaDoorW.PrintLast Go.Proofs.YtopmcoohdhlnaaaDoorW.PrintMore
open G M Pb
set_option linter.unusedVariables false
set_option linter.unusedSimpArgs false
theorem sub_snoc {x s : ByteArray} {i : Nat} (hi : i < s.size) (h : (lst x).Sublist ((lst s).take i)) : (lst (x ++ s.extract i (i + 1))).Sublist ((lst s).take (i + 1)) := by
  have hl : i < (lst s).length := by rw [lst_length]; exact hi
  rw [lst_append, lst_one s i hi, List.take_succ_eq_append_getElem hl]
  exact List.Sublist.append h (List.Sublist.refl _)
theorem sub_keep {x s : ByteArray} {i : Nat} (hi : i < s.size) (h : (lst x).Sublist ((lst s).take i)) : (lst x).Sublist ((lst s).take (i + 1)) := by
  have hl : i < (lst s).length := by rw [lst_length]; exact hi
  rw [List.take_succ_eq_append_getElem hl]
  exact h.trans (List.sublist_append_left _ _)
theorem common_loop (z : List Int) (s t : ByteArray) (hs : s.size ≤ 20) (ht : t.size ≤ 20) (d : Nat) : ∀ (k i : Nat) (x : ByteArray), s.size - i = d → i ≤ s.size → d + 3000 < k → (lst x).Sublist ((lst s).take i) →
    pritchellaw09_MarkCommon.l0 k z s t (dp s t 0 0) x (i : Int) = some true := by
  induction d with
  | zero =>
    intro k i x hd hi hk hx
    obtain ⟨k, rfl⟩ : ∃ m, k = m + 1 := ⟨k - 1, by omega⟩
    obtain rfl : i = s.size := by omega
    rw [← lst_length, List.take_length] at hx
    have hxz : x.size ≤ 20 := by
      have := hx.length_le
      rw [lst_length, lst_length] at this
      omega
    rw [pritchellaw09_MarkCommon.l0, if_neg (by omega), part_ev x t (by omega) (by omega) k (by omega), Option.bind_some]
    by_cases h : (lst x).Sublist (lst t)
    · rw [if_pos (decide_eq_true h)]
      have hb := dp_best s t _ 0 0 rfl x hx h
      rcases hb with hb | ⟨hb, hc⟩
      · rw [if_pos (by omega)]
      · rw [if_neg (by omega), if_pos (by omega), bytesLess_eq, toList_data, toList_data]
        have hn : decide (x.data.toList < (dp s t 0 0).data.toList) = false := decide_eq_false (List.not_lt.2 hc)
        rw [hn]
        rfl
    · rw [if_neg (by simpa using h)]
  | succ d ih =>
    intro k i x hd hi hk hx
    obtain ⟨k, rfl⟩ : ∃ m, k = m + 1 := ⟨k - 1, by omega⟩
    have hlt : i < s.size := by omega
    have w1 := w64succ i (by omega)
    have hxz : x.size ≤ 20 := by
      have := hx.length_le
      rw [lst_length, List.length_take] at this
      omega
    have hz : (s.extract i (i + 1)).size ≤ 1 := by rw [ByteArray.size_extract]; omega
    have i1 := ih k (i + 1) (x ++ s.extract i (i + 1)) (by omega) (by omega) (by omega) (sub_snoc hlt hx)
    have i2 := ih k (i + 1) x (by omega) (by omega) (by omega) (sub_keep hlt hx)
    have a1 : (0 : Int) ≤ (i : Int) := by omega
    have a2 : (i : Int) ≤ ((i + 1 : Nat) : Int) := by omega
    have a3 : ((i + 1 : Nat) : Int) ≤ (s.size : Int) := by omega
    have a4 : x.size + (s.extract i (i + 1)).size ≤ 9223372036854775807 := by omega
    rw [pritchellaw09_MarkCommon.l0, if_pos (by omega), w1]
    simp only [Int.toNat_natCast]
    by_cases h1 : (i : Int) ≥ (z.length : Int)
    · rw [if_pos h1, if_pos a1, if_pos a2, if_pos a3, if_pos a4]; exact i1
    · rw [if_neg h1, if_pos a1, if_pos (by omega)]
      by_cases h2 : Int.tmod (rd z (i : Int)) 3 > 0
      · rw [if_pos h2, if_pos a2, if_pos a3, if_pos a4]; exact i1
      · rw [if_neg h2]; exact i2
theorem MarkCommon : pritchellaw09_MarkCommon.Pure := by
  intro l0 l1 l2 _ _ h0 _ _ h1 _ _ _
  obtain ⟨s, hs, hsz, hsb⟩ := law_word l0 h0 2 20 (by omega) (by omega) 3000001 (by omega)
  obtain ⟨t, ht, htz, htb⟩ := law_word l1 h1 2 20 (by omega) (by omega) 3000001 (by omega)
  obtain ⟨c, hc⟩ := Common_ev s t
  have hw : wrong2 20 s t = 0 := by unfold wrong2; rw [wrong_bin (by omega) (below_bin hsb), if_pos rfl, wrong_bin (by omega) (below_bin htb)]
  obtain ⟨K, hK⟩ : ∃ K, K = c + 3000001 := ⟨_, rfl⟩
  refine ⟨K + 1, ?_⟩
  replace hs : Pa.pritchellaw09_word.f (K + 1) l0 2 20 = some s := le_mono (Pa.pritchellaw09_word.mono l0 2 20) (by omega) hs
  replace ht : Pa.pritchellaw09_word.f (K + 1) l1 2 20 = some t := le_mono (Pa.pritchellaw09_word.mono l1 2 20) (by omega) ht
  unfold pritchellaw09_MarkCommon.f
  have hd := dp_size s t _ 0 0 rfl
  have hb := dp_sub s t _ 0 0 rfl
  rw [List.drop_zero, List.drop_zero] at hb
  rw [hs, Option.bind_some, ht, Option.bind_some, hc _ (by omega), Option.bind_some, if_pos hw]
  simp only [if_true]
  rw [part_ev _ s (by omega) (by omega) _ (by omega), Option.bind_some, if_pos (decide_eq_true hb.1), part_ev _ t (by omega) (by omega) _ (by omega), Option.bind_some, if_pos (decide_eq_true hb.2), lives_ev _ (by omega), Option.bind_some, pritchellaw09_MarkCommon.j0, if_neg (by simp)]
  exact common_loop l2 s t (by omega) (by omega) _ K 0 ⟨#[]⟩ rfl (by omega) (by omega) (List.nil_sublist _)
end Go.Proofs.YtopmcoohdhlnaaaDoor.Pure
