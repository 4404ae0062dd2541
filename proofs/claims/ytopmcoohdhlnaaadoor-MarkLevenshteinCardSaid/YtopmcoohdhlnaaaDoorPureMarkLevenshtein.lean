/- Restore of a word of a code with one letter removed, and Remove of one with one letter put in, is the word: for all words, places and letters (Levenshtein). -/
import Derived.ArgAppend
import Derived.Below
import Derived.BigQuiet
import Derived.ChangeSlices
import Derived.Deep.AppendLies
import Derived.Deep.CutBlock
import Derived.Deep.DeepCutAuto
import Derived.Deep.Draws
import Derived.Deep.LoopGhost
import Derived.Deep.OwnRows
import Derived.Deep.QuietTactic
import Derived.Deep.RegionHeld3
import Derived.KernelRfl
import Derived.Laws.BitsLemmas
import Derived.Laws.BytesArg
import Derived.Laws.IdiomCopy
import Derived.Laws.MakeOwn
import Derived.Laws.OwnMore
import Derived.Laws.RangeAny
import Derived.Laws.Rows
import Derived.Laws.Slices
import Derived.Laws.StructEq
import Derived.Lib.AppendStr
import Derived.Lib.ConvBytes
import Derived.Lib.Hide
import Derived.Lib.OthersKept
import Derived.Lib.SliceRun
import Derived.Lib.TrimUEq
import Derived.Maps.AppendAt
import Derived.OrdersHeld
import Derived.Outline
import Derived.OwnWalk
import Derived.RowKit
import Derived.RowKit3
import Derived.Shelf.Slices.CompactS
import Derived.Shelf.Slices.In.SortNone
import Derived.Shelf.Small.Utf8
import Derived.Shelf.Sort.Plain
import Derived.Shelf.Strings.Builder1
import Derived.Shelf.Strings.Builder2
import Derived.Shelf.Strings.OnBuilder
import Derived.Shelf.Unicode.DecodeAny
import Derived.Shelf.Unicode.DecodeLast
import Derived.Shelf.Unicode.DecodeSlow
import Derived.SizedLaws
import Derived.Sort.OwnSorted
import Derived.Tactics
import Derived.Test.YtopmcoohdhlnaaaDoorProg
import Derived.WalkKit
import Derived.WalkSmall
import Derived.WalkSpells
import Derived.WideLaws
import Derived.Test.YtopmcoohdhlnaaaDoorG1
import Derived.Test.YtopmcoohdhlnaaaDoorG12
import Derived.Test.YtopmcoohdhlnaaaDoorM1
import Derived.Test.YtopmcoohdhlnaaaDoorM2
import Derived.Test.YtopmcoohdhlnaaaDoorM6
import Derived.Test.YtopmcoohdhlnaaaDoorPa12
import Derived.Test.YtopmcoohdhlnaaaDoorPb1
import Derived.Test.YtopmcoohdhlnaaaDoorPb10
import Derived.Test.YtopmcoohdhlnaaaDoorPc1
import Derived.Test.YtopmcoohdhlnaaaDoorWLast
import Derived.Test.YtopmcoohdhlnaaaDoorWMore
import Derived.Test.YtopmcoohdhlnaaaDoorWWords
namespace Go.Proofs.YtopmcoohdhlnaaaDoor.Pure
open Go Go.RowKit Go.Lib Go.Proofs Go.Proofs.YtopmcoohdhlnaaaDoorW.PrintWords Go.Proofs.YtopmcoohdhlnaaaDoorW.PrintLast Go.Proofs.YtopmcoohdhlnaaaDoorW.PrintMore
open G M Pc
set_option linter.unusedVariables false
set_option linter.unusedSimpArgs false
theorem lev_restore (s : ByteArray) (hsz : s.size ≤ 20) (hb : bin (lst s)) (i : Nat) (hi : i < s.size) (k : Nat) (hk : 1 < k) : Pb.mark_Restore.f k (s.size : Int) ((vt s % (s.size + 1) : Nat) : Int) (s.extract 0 i ++ s.extract (i + 1) s.size) = some (s, 0) := by
  have hd := del_size s i hi
  have hdb : bin (lst (delAt s i)) := by
    rw [lst_del]
    intro b hm
    rw [List.mem_append] at hm
    rcases hm with hm | hm
    · exact hb b (List.mem_of_mem_take hm)
    · exact hb b (List.mem_of_mem_drop hm)
  have hlt : vt s % (s.size + 1) < s.size + 1 := Nat.mod_lt _ (by omega)
  show Pb.mark_Restore.f k (s.size : Int) ((vt s % (s.size + 1) : Nat) : Int) (delAt s i) = some (s, 0)
  rw [restore_ev _ _ _ k hk, spec_good (wrong_bin (by omega) hdb) (by unfold badNums; omega), Int.toNat_natCast, Int.toNat_natCast, restored s hb i hi]
theorem lev_remove (s t : ByteArray) (hn : 1 ≤ s.size) (hsz : s.size ≤ 20) (hb : bin (lst s)) (ht : t.size = 1) (htb : bin (lst t)) (i : Nat) (hi : i ≤ s.size) (k : Nat) (hk : 100 < k) : Pb.mark_Remove.f k (s.size : Int) ((vt s % (s.size + 1) : Nat) : Int) ((s.extract 0 i ++ t) ++ s.extract i s.size) = some (s, 0) := by
  obtain ⟨u, hu⟩ : ∃ u, (s.extract 0 i ++ t) ++ s.extract i s.size = u := ⟨_, rfl⟩
  have hlu : lst u = (lst s).take i ++ lst t ++ (lst s).drop i := by
    rw [← hu, lst_append, lst_append, lst_extract, lst_extract, List.drop_zero, ← lst_length, List.take_length]
  have hl1 : ((lst s).take i).length = i := by rw [List.length_take, lst_length]; omega
  have hl2 : (lst t).length = 1 := by rw [lst_length]; exact ht
  have hus : u.size = s.size + 1 := by
    rw [← lst_length, hlu, List.length_append, List.length_append, hl1, hl2, List.length_drop, lst_length]; omega
  have hub : bin (lst u) := by
    rw [hlu]
    intro b hm
    rw [List.mem_append, List.mem_append] at hm
    rcases hm with (hm | hm) | hm
    · exact hb b (List.mem_of_mem_take hm)
    · exact htb b hm
    · exact hb b (List.mem_of_mem_drop hm)
  have hs : s = delAt u i := by
    refine lst_inj ?_
    rw [lst_del, hlu, List.append_assoc, List.take_append_of_le_length (by omega), List.take_of_length_le (by omega), ← List.append_assoc, List.drop_append_of_le_length (by rw [List.length_append]; omega), List.drop_eq_nil_of_le (by rw [List.length_append]; omega), List.nil_append, List.take_append_drop]
  have hlt : vt s % (s.size + 1) < s.size + 1 := Nat.mod_lt _ (by omega)
  rw [hu, remove_ev _ _ _ k hk, spec_good (wrong_bin (by omega) hub) (by unfold badNums; omega), Int.toNat_natCast, Int.toNat_natCast, removed s u hub i (by omega) hs]
theorem MarkLevenshtein : pritchellaw09_MarkLevenshtein.Pure := by
  intro l a1 a2 _ _ hl h1 h2
  refine ⟨3000001, ?_⟩
  unfold pritchellaw09_MarkLevenshtein.f
  obtain ⟨s, hs, hsz, hsb⟩ := law_word l hl 2 20 (by omega) (by omega) 3000001 (by omega)
  obtain ⟨t, ht, htz, htb⟩ := law_word [a2] (by simpa using h2) 2 1 (by omega) (by omega) 3000001 (by omega)
  replace hs : Pa.pritchellaw09_word.f 3000001 l 2 20 = some s := hs
  replace ht : Pa.pritchellaw09_word.f 3000001 [a2] 2 1 = some t := ht
  rw [hs, Option.bind_some]
  by_cases he : s.toList = []
  · rw [if_pos he, lives_ev 3000001 (by omega), Option.bind_some]
  · rw [if_neg he, rsum_ev s (by omega) 3000001 (by omega), Option.bind_some]
    have hn : 1 ≤ s.size := by
      rw [toList_data] at he
      have : s.data.toList.length ≠ 0 := fun h => he (List.eq_nil_of_length_eq_zero h)
      have h2 := lst_length s
      unfold lst at h2
      omega
    have ha1 : 0 ≤ a1 ∧ a1 ≤ 255 := u8_range h1
    obtain ⟨p, rfl⟩ := Int.eq_ofNat_of_zero_le ha1.1
    have hi : p % s.size < s.size := Nat.mod_lt _ (by omega)
    have hk : p % (s.size + 1) < s.size + 1 := Nat.mod_lt _ (by omega)
    obtain ⟨i, hie⟩ : ∃ i, p % s.size = i := ⟨_, rfl⟩
    obtain ⟨m, hme⟩ : ∃ m, p % (s.size + 1) = m := ⟨_, rfl⟩
    rw [hie] at hi
    rw [hme] at hk
    have hs20 : s.size ≤ 20 := by omega
    have htz1 : t.size = 1 := by simpa using htz
    have b1 : s.size + 1 ≤ 1000000000000 := by omega
    have b2 : p ≤ 1000000000000 := by omega
    have b3 : i + 1 ≤ 1000000000000 := by omega
    have b4 : m ≤ s.size := by omega
    have b5 : s.size ≤ 100000 := by omega
    have b6 : s.size < 3000001 := by omega
    have z1 : (s.extract 0 i).size + (s.extract (i + 1) s.size).size ≤ 9223372036854775807 := by rw [ByteArray.size_extract, ByteArray.size_extract]; omega
    have z2 : (s.extract 0 m).size + t.size ≤ 9223372036854775807 := by rw [ByteArray.size_extract]; omega
    have z3 : (s.extract 0 m ++ t).size + (s.extract m s.size).size ≤ 9223372036854775807 := by rw [ByteArray.size_append, ByteArray.size_extract, ByteArray.size_extract]; omega
    have d1 : ¬ ((s.size + 1 : Nat) : Int) = 0 := by omega
    have d2 : ¬ (s.size : Int) = 0 := by omega
    have d3 : (0 : Int) ≤ (i : Int) := by omega
    have d4 : (i : Int) ≤ (s.size : Int) := by omega
    have d5 : (0 : Int) ≤ ((i + 1 : Nat) : Int) := by omega
    have d6 : ((i + 1 : Nat) : Int) ≤ (s.size : Int) := by omega
    have d7 : (0 : Int) ≤ (m : Int) := by omega
    have d8 : (m : Int) ≤ (s.size : Int) := by omega
    have k1 : 1 < 3000001 := by omega
    have k2 : 100 < 3000001 := by omega
    have k3 : 1000 ≤ 3000001 := by omega
    have hR := lev_restore s hs20 (below_bin hsb) i hi 3000001 k1
    have hM := lev_remove s t hn hs20 (below_bin hsb) htz1 (below_bin htb) m b4 3000001 k2
    have hS : Pb.mark_Sum.f 3000001 s = some ((vt s : Int), 0) := by
      unfold Pb.mark_Sum.f
      have hc : mark_check.f 20 ⟨#[48, 49]⟩ [s] = some (wrong 20 s) := check_one 20 (by decide) s
      rw [hc, Option.bind_some, wrong_bin hs20 (below_bin hsb), if_pos rfl, sum_ev s b5 3000001 b6, Option.bind_some]
    have hL := lives_ev 3000001 k3
    have e1 := w64succ s.size b1
    have e2 := w64n p b2
    have e3 := w64succ i b3
    simp only [e1, e2, tmod_nat, hie, hme, e3, Int.toNat_natCast]
    rw [if_neg d1, if_neg d2, if_pos d3, if_pos d4, if_pos d5, if_pos d6, if_pos z1, hR, Option.bind_some, if_pos d7, if_pos d8, ht, Option.bind_some, if_pos z2, if_pos z3, hM, Option.bind_some, hS, Option.bind_some]
    simp only [if_true, tmod_nat, hL, Option.bind_some]
end Go.Proofs.YtopmcoohdhlnaaaDoor.Pure
