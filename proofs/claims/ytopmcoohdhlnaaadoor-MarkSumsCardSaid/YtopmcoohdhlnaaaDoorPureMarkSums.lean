/- Sum, Shorter and Longer return what the reference does, or the errors that the document names: for all strings. -/
import Derived.ArgAppend
import Derived.Below
import Derived.BigQuiet
import Derived.ChangeSlices
import Derived.Deep.AppendLies
import Derived.Deep.CutBlock
import Derived.Deep.DeepCutAuto
import Derived.Deep.Draws
import Derived.Deep.LoopGhost
import Derived.Deep.OwnRows
import Derived.Deep.QuietTactic
import Derived.Deep.RegionHeld3
import Derived.KernelRfl
import Derived.Laws.BitsLemmas
import Derived.Laws.BytesArg
import Derived.Laws.IdiomCopy
import Derived.Laws.MakeOwn
import Derived.Laws.OwnMore
import Derived.Laws.RangeAny
import Derived.Laws.Rows
import Derived.Laws.Slices
import Derived.Laws.StructEq
import Derived.Lib.AppendStr
import Derived.Lib.ConvBytes
import Derived.Lib.Hide
import Derived.Lib.OthersKept
import Derived.Lib.SliceRun
import Derived.Lib.TrimUEq
import Derived.Maps.AppendAt
import Derived.OrdersHeld
import Derived.Outline
import Derived.OwnWalk
import Derived.RowKit
import Derived.RowKit3
import Derived.Shelf.Slices.CompactS
import Derived.Shelf.Slices.In.SortNone
import Derived.Shelf.Small.Utf8
import Derived.Shelf.Sort.Plain
import Derived.Shelf.Strings.Builder1
import Derived.Shelf.Strings.Builder2
import Derived.Shelf.Strings.OnBuilder
import Derived.Shelf.Unicode.DecodeAny
import Derived.Shelf.Unicode.DecodeLast
import Derived.Shelf.Unicode.DecodeSlow
import Derived.SizedLaws
import Derived.Sort.OwnSorted
import Derived.Tactics
import Derived.Test.YtopmcoohdhlnaaaDoorProg
import Derived.WalkKit
import Derived.WalkSmall
import Derived.WalkSpells
import Derived.WideLaws
import Derived.Test.YtopmcoohdhlnaaaDoorG1
import Derived.Test.YtopmcoohdhlnaaaDoorM1
import Derived.Test.YtopmcoohdhlnaaaDoorM2
import Derived.Test.YtopmcoohdhlnaaaDoorPa1
import Derived.Test.YtopmcoohdhlnaaaDoorPb10
import Derived.Test.YtopmcoohdhlnaaaDoorPb16
import Derived.Test.YtopmcoohdhlnaaaDoorWLast
import Derived.Test.YtopmcoohdhlnaaaDoorWMore
import Derived.Test.YtopmcoohdhlnaaaDoorWWords
namespace Go.Proofs.YtopmcoohdhlnaaaDoor.Pure
open Go Go.RowKit Go.Lib Go.Proofs Go.Proofs.YtopmcoohdhlnaaaDoorW.PrintWords Go.Proofs.YtopmcoohdhlnaaaDoorW.PrintLast Go.Proofs.YtopmcoohdhlnaaaDoorW.PrintMore
open G M Pb
set_option linter.unusedVariables false
set_option linter.unusedSimpArgs false
theorem MarkSums : pritchellaw09_MarkSums.Pure := by
  intro x _
  refine ⟨3000001, ?_⟩
  unfold pritchellaw09_MarkSums.f mark_Sum.f mark_Shorter.f mark_Longer.f
  obtain ⟨s, hs, hsz⟩ := cut_to x 21
  have hc : mark_check.f 20 ⟨#[48, 49]⟩ [s] = some (wrong 20 s) := check_one 20 (by omega) s
  have hw : Pa.pritchelref09_Word.f 3000001 s 2 20 = some (wrong 20 s) := word_ev 20 s (by omega) _ (by omega)
  rw [show (21 : Int) = ((21 : Nat) : Int) from rfl, hs]
  simp only [Option.bind_some, hc, hw]
  by_cases h0 : wrong 20 s = 0
  · simp only [h0, if_true]
    simp only [sum_ev s (by omega) 3000001 (by omega), rsum_ev s (by omega) 3000001 (by omega), longer_ev s (by omega), shorter_ev s (by omega) 3000001 (by omega), rlonger2 s (by omega), Option.bind_some, same_ev _ (len_puts s 2 (by omega) (by omega)) 3000001 (by omega), lives_ev 3000001 (by omega), if_true]
    by_cases he : s.toList = []
    · simp only [he, if_true, Option.bind_some]
      rw [show (3000001 : Nat) = 3000000 + 1 from rfl]
      simp only [pritchellaw09_MarkSums.j0, he]
      rfl
    · simp only [he, if_false, Option.bind_some]
      rw [show (3000001 : Nat) = 3000000 + 1 from rfl]
      simp only [pritchellaw09_MarkSums.j0, he, if_false, rshorter_ev s (by omega), Option.bind_some, same_ev _ (len_dels s (by omega)) 3000000 (by omega)]
      rfl
  · simp only [h0, if_false, Option.bind_some, if_true, lives_ev 3000001 (by omega)]
    rw [if_pos (by decide +kernel)]
end Go.Proofs.YtopmcoohdhlnaaaDoor.Pure
