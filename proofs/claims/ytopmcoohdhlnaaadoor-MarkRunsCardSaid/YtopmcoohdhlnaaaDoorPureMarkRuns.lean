/- A word has as many shorter words as it has runs of equal letters, and a word of n letters has n + 2 longer words: for all words. -/
import Derived.ArgAppend
import Derived.Below
import Derived.BigQuiet
import Derived.ChangeSlices
import Derived.Deep.AppendLies
import Derived.Deep.CutBlock
import Derived.Deep.DeepCutAuto
import Derived.Deep.Draws
import Derived.Deep.LoopGhost
import Derived.Deep.OwnRows
import Derived.Deep.QuietTactic
import Derived.Deep.RegionHeld3
import Derived.KernelRfl
import Derived.Laws.BitsLemmas
import Derived.Laws.BytesArg
import Derived.Laws.IdiomCopy
import Derived.Laws.MakeOwn
import Derived.Laws.OwnMore
import Derived.Laws.RangeAny
import Derived.Laws.Rows
import Derived.Laws.Slices
import Derived.Laws.StructEq
import Derived.Lib.AppendStr
import Derived.Lib.ConvBytes
import Derived.Lib.Hide
import Derived.Lib.OthersKept
import Derived.Lib.SliceRun
import Derived.Lib.TrimUEq
import Derived.Maps.AppendAt
import Derived.OrdersHeld
import Derived.Outline
import Derived.OwnWalk
import Derived.RowKit
import Derived.RowKit3
import Derived.Shelf.Slices.CompactS
import Derived.Shelf.Slices.In.SortNone
import Derived.Shelf.Small.Utf8
import Derived.Shelf.Sort.Plain
import Derived.Shelf.Strings.Builder1
import Derived.Shelf.Strings.Builder2
import Derived.Shelf.Strings.OnBuilder
import Derived.Shelf.Unicode.DecodeAny
import Derived.Shelf.Unicode.DecodeLast
import Derived.Shelf.Unicode.DecodeSlow
import Derived.SizedLaws
import Derived.Sort.OwnSorted
import Derived.Tactics
import Derived.Test.YtopmcoohdhlnaaaDoorProg
import Derived.WalkKit
import Derived.WalkSmall
import Derived.WalkSpells
import Derived.WideLaws
import Derived.Test.YtopmcoohdhlnaaaDoorG1
import Derived.Test.YtopmcoohdhlnaaaDoorM1
import Derived.Test.YtopmcoohdhlnaaaDoorM2
import Derived.Test.YtopmcoohdhlnaaaDoorM6
import Derived.Test.YtopmcoohdhlnaaaDoorM9
import Derived.Test.YtopmcoohdhlnaaaDoorPa12
import Derived.Test.YtopmcoohdhlnaaaDoorPb10
import Derived.Test.YtopmcoohdhlnaaaDoorPb15
import Derived.Test.YtopmcoohdhlnaaaDoorWLast
import Derived.Test.YtopmcoohdhlnaaaDoorWMore
import Derived.Test.YtopmcoohdhlnaaaDoorWWords
namespace Go.Proofs.YtopmcoohdhlnaaaDoor.Pure
open Go Go.RowKit Go.Lib Go.Proofs Go.Proofs.YtopmcoohdhlnaaaDoorW.PrintWords Go.Proofs.YtopmcoohdhlnaaaDoorW.PrintLast Go.Proofs.YtopmcoohdhlnaaaDoorW.PrintMore
open G M Pb
set_option linter.unusedVariables false
set_option linter.unusedSimpArgs false
theorem runs_end (s : ByteArray) (hsz : s.size ≤ 20) (hb : bin (lst s)) (k : Nat) (hk : 2000000 < k) (i : Nat) (hi : s.size ≤ i) : pritchellaw09_MarkRuns.l0 (k + 1) s (runsTo (lst s) s.size : Int) (i : Int) = some true := by
  have hc : mark_check.f 20 ⟨#[48, 49]⟩ [s] = some (wrong 20 s) := check_one 20 (by decide) s
  rw [pritchellaw09_MarkRuns.l0, if_neg (by omega)]
  unfold mark_Shorter.f mark_Longer.f
  rw [hc, Option.bind_some, wrong_bin hsz hb, if_pos rfl, Option.bind_some, if_pos rfl, longer_ev s (by omega), Option.bind_some, shorter_ev s (by omega) k (by omega), Option.bind_some]
  have hL := lives_ev k (by omega)
  have w2 : wrap64 ((s.size : Int) + 2) = ((s.size + 2 : Nat) : Int) := w64add s.size 2 (by omega)
  have c1 := shorter_count s
  have c2 := longer_count s hb
  by_cases he : s.toList = []
  · have h0 : s.size = 0 := by
      rw [toList_data] at he
      have h2 := lst_length s
      unfold lst at h2
      rw [he] at h2
      simpa using h2.symm
    have c3 : runsTo (lst s) s.size = 0 := by rw [h0]; rfl
    rw [if_pos he, Option.bind_some, Option.bind_some, c3, he, w2, hL]
    simp [c2]
  · rw [if_neg he, Option.bind_some, Option.bind_some, w2, hL]
    simp [c1, c2, he]
theorem runs_loop (s : ByteArray) (hsz : s.size ≤ 20) (hb : bin (lst s)) (d : Nat) : ∀ (k i : Nat), s.size - i = d → i ≤ s.size → d + 2000001 < k → pritchellaw09_MarkRuns.l0 k s (runsTo (lst s) i : Int) (i : Int) = some true := by
  induction d with
  | zero =>
    intro k i hd hi hk
    obtain ⟨k, rfl⟩ : ∃ m, k = m + 1 := ⟨k - 1, by omega⟩
    obtain rfl : i = s.size := by omega
    exact runs_end s hsz hb k (by omega) _ (Nat.le_refl _)
  | succ d ih =>
    intro k i hd hi hk
    obtain ⟨k, rfl⟩ : ∃ m, k = m + 1 := ⟨k - 1, by omega⟩
    have h := ih k (i + 1) (by omega) (by omega) (by omega)
    have hr := runsTo_le (lst s) i
    have hlt : i < s.size := by omega
    have w1 := w64succ i (by omega)
    have w2 := w64succ (runsTo (lst s) i) (by omega)
    rw [runsTo_succ] at h
    rw [pritchellaw09_MarkRuns.l0, if_pos (by omega), w1, w2]
    cases i with
    | zero =>
      rw [if_pos (show ((0 : Nat) : Int) = 0 from rfl)]
      rw [if_pos (show rstart (lst s) 0 = true from rfl)] at h
      exact h
    | succ i =>
      have w3 := w64pred i (by omega)
      rw [w3, if_neg (by omega), if_pos (by omega), if_pos (by omega), if_pos (by omega), bt_nat s (i + 1) hlt, bt_nat s i (by omega)]
      have hg : ∀ j (hj : j < s.size), (lst s)[j]? = some (s[j]'hj) := by
        intro j hj
        have hjl : j < (lst s).length := by rw [lst_length]; exact hj
        rw [List.getElem?_eq_getElem hjl]
        rfl
      have hst : rstart (lst s) (i + 1) = decide (¬ (s[i + 1]'hlt) = (s[i]'(by omega))) := by
        unfold rstart
        rw [Nat.add_sub_cancel, hg _ hlt, hg i (by omega), decide_eq_false (by omega), Bool.false_or]
        simp
      rw [hst] at h
      by_cases e : (s[i + 1]'hlt) = (s[i]'(by omega))
      · rw [if_pos (by rw [e])]
        rw [decide_eq_false (by rw [e]; exact fun h => h rfl), if_neg (by simp)] at h
        exact h
      · have e2 : ¬ (((s[i + 1]'hlt).toNat : Int) = ((s[i]'(by omega)).toNat : Int)) := fun h2 => e (UInt8.toNat_inj.1 (by omega))
        rw [if_neg e2]
        rw [decide_eq_true e, if_pos rfl] at h
        exact h
theorem MarkRuns : pritchellaw09_MarkRuns.Pure := by
  intro l _ _ hl
  refine ⟨3000001, ?_⟩
  unfold pritchellaw09_MarkRuns.f
  obtain ⟨s, hs, hsz, hsb⟩ := law_word l hl 2 20 (by omega) (by omega) 3000001 (by omega)
  replace hs : Pa.pritchellaw09_word.f 3000001 l 2 20 = some s := hs
  rw [hs, Option.bind_some]
  exact runs_loop s (by omega) (below_bin hsb) s.size 3000001 0 (by omega) (by omega) (by omega)
end Go.Proofs.YtopmcoohdhlnaaaDoor.Pure
