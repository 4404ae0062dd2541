/- Steps and Digits return what the reference does, or the errors that the document names: for all numbers and strings. -/
import Derived.ArgAppend
import Derived.Below
import Derived.BigQuiet
import Derived.ChangeSlices
import Derived.Deep.AppendLies
import Derived.Deep.CutBlock
import Derived.Deep.DeepCutAuto
import Derived.Deep.Draws
import Derived.Deep.LoopGhost
import Derived.Deep.OwnRows
import Derived.Deep.QuietTactic
import Derived.Deep.RegionHeld3
import Derived.KernelRfl
import Derived.Laws.BitsLemmas
import Derived.Laws.BytesArg
import Derived.Laws.IdiomCopy
import Derived.Laws.MakeOwn
import Derived.Laws.OwnMore
import Derived.Laws.RangeAny
import Derived.Laws.Rows
import Derived.Laws.Slices
import Derived.Laws.StructEq
import Derived.Lib.AppendStr
import Derived.Lib.ConvBytes
import Derived.Lib.Hide
import Derived.Lib.OthersKept
import Derived.Lib.SliceRun
import Derived.Lib.TrimUEq
import Derived.Maps.AppendAt
import Derived.OrdersHeld
import Derived.Outline
import Derived.OwnWalk
import Derived.RowKit
import Derived.RowKit3
import Derived.Shelf.Slices.CompactS
import Derived.Shelf.Slices.In.SortNone
import Derived.Shelf.Small.Utf8
import Derived.Shelf.Sort.Plain
import Derived.Shelf.Strings.Builder1
import Derived.Shelf.Strings.Builder2
import Derived.Shelf.Strings.OnBuilder
import Derived.Shelf.Unicode.DecodeAny
import Derived.Shelf.Unicode.DecodeLast
import Derived.Shelf.Unicode.DecodeSlow
import Derived.SizedLaws
import Derived.Sort.OwnSorted
import Derived.Tactics
import Derived.Test.YtopmcoohdhlnaaaDoorProg
import Derived.WalkKit
import Derived.WalkSmall
import Derived.WalkSpells
import Derived.WideLaws
import Derived.Test.YtopmcoohdhlnaaaDoorG1
import Derived.Test.YtopmcoohdhlnaaaDoorM1
import Derived.Test.YtopmcoohdhlnaaaDoorM12
import Derived.Test.YtopmcoohdhlnaaaDoorM2
import Derived.Test.YtopmcoohdhlnaaaDoorPa1
import Derived.Test.YtopmcoohdhlnaaaDoorPb17
import Derived.Test.YtopmcoohdhlnaaaDoorPb18
import Derived.Test.YtopmcoohdhlnaaaDoorWLast
import Derived.Test.YtopmcoohdhlnaaaDoorWMore
import Derived.Test.YtopmcoohdhlnaaaDoorWWords
namespace Go.Proofs.YtopmcoohdhlnaaaDoor.Pure
open Go Go.RowKit Go.Lib Go.Proofs Go.Proofs.YtopmcoohdhlnaaaDoorW.PrintWords Go.Proofs.YtopmcoohdhlnaaaDoorW.PrintLast Go.Proofs.YtopmcoohdhlnaaaDoorW.PrintMore
open G M Pb
set_option linter.unusedVariables false
set_option linter.unusedSimpArgs false
theorem digits_j0 (n q a b : Int) : ∃ c, ∀ k, c ≤ k → pritchellaw09_MarkDigits.j0 k (if fitsD n q a b then (wordsD n.toNat q.toNat a.toNat b.toNat, (0 : Int)) else ([], 1)).1 (if fitsD n q a b then (wordsD n.toNat q.toNat a.toNat b.toNat, (0 : Int)) else ([], 1)).2 n q a b = some true := by
  by_cases h : fitsD n q a b
  · have hf := fits_ev n q a b
    rw [decide_eq_true h] at hf
    rw [if_pos h]
    obtain ⟨h1, h2, h3, h4, h5, h6, h7, h8⟩ := h
    obtain ⟨n, rfl⟩ := Int.eq_ofNat_of_zero_le (show 0 ≤ n by omega)
    obtain ⟨q, rfl⟩ := Int.eq_ofNat_of_zero_le (show 0 ≤ q by omega)
    obtain ⟨a, rfl⟩ := Int.eq_ofNat_of_zero_le (show 0 ≤ a by omega)
    obtain ⟨b, rfl⟩ := Int.eq_ofNat_of_zero_le (show 0 ≤ b by omega)
    obtain ⟨c, hc⟩ := rdigits_ev n q a b (by omega) (by omega) (by omega) (by omega)
    refine ⟨c + 1000010, fun k hk => ?_⟩
    obtain ⟨k, rfl⟩ : ∃ m, k = m + 1 := ⟨k - 1, by omega⟩
    have hl := wordsD_len n q a b (by omega) (by omega)
    simp only [Int.toNat_natCast]
    rw [pritchellaw09_MarkDigits.j0, hf, Option.bind_some, if_pos rfl, hc k (by omega), Option.bind_some, same_ev _ (by omega) k (by omega), Option.bind_some, if_pos rfl, if_pos rfl, lives_ev k (by omega)]
    rfl
  · have hf := fits_ev n q a b
    rw [decide_eq_false h] at hf
    rw [if_neg h]
    refine ⟨1010, fun k hk => ?_⟩
    obtain ⟨k, rfl⟩ : ∃ m, k = m + 1 := ⟨k - 1, by omega⟩
    rw [pritchellaw09_MarkDigits.j0, hf, Option.bind_some, if_neg (by decide), if_pos (by rfl), if_pos (by rfl), lives_ev k (by omega)]
    rfl
theorem MarkDigits : pritchellaw09_MarkDigits.Pure := by
  intro n q a b x _
  obtain ⟨c, hc⟩ := digits_j0 n q a b
  refine ⟨c + 3000001, ?_⟩
  have hj := hc (c + 3000001) (by omega)
  obtain ⟨s, hs, hsz⟩ := cut_to x 21
  have hck : mark_check.f 20 ⟨#[48, 49, 50, 51]⟩ [s] = some (wrongD 20 s) := check_dig 20 (by omega) s
  have hw : Pa.pritchelref09_Word.f (c + 3000001) s 4 20 = some (wrongD 20 s) := wordD_ev 20 s (by omega) _ (by omega)
  unfold pritchellaw09_MarkDigits.f mark_Steps.f
  rw [show (21 : Int) = ((21 : Nat) : Int) from rfl, hs, Option.bind_some, hck, Option.bind_some]
  by_cases h0 : wrongD 20 s = 0
  · rw [if_pos h0, steps_ev s (by omega) _ (by omega), Option.bind_some, Option.bind_some, Digits_ev, Option.bind_some, hw, Option.bind_some, if_pos h0, rsteps_ev s (by omega) _ (by omega), Option.bind_some, if_pos rfl, if_pos rfl]
    exact hj
  · rw [if_neg h0, Option.bind_some, Digits_ev, Option.bind_some, hw, Option.bind_some, if_neg h0, if_pos (by show (⟨#[]⟩ : ByteArray).toList = []; decide +kernel), if_pos rfl]
    exact hj
end Go.Proofs.YtopmcoohdhlnaaaDoor.Pure
