/- Common is the first of the longest strings that two words have in common, and Distance is by it; or both return the error that the document names: for all strings. -/
import Derived.ArgAppend
import Derived.Below
import Derived.BigQuiet
import Derived.ChangeSlices
import Derived.Deep.AppendLies
import Derived.Deep.CutBlock
import Derived.Deep.DeepCutAuto
import Derived.Deep.Draws
import Derived.Deep.LoopGhost
import Derived.Deep.OwnRows
import Derived.Deep.QuietTactic
import Derived.Deep.RegionHeld3
import Derived.KernelRfl
import Derived.Laws.BitsLemmas
import Derived.Laws.BytesArg
import Derived.Laws.IdiomCopy
import Derived.Laws.MakeOwn
import Derived.Laws.OwnMore
import Derived.Laws.RangeAny
import Derived.Laws.Rows
import Derived.Laws.Slices
import Derived.Laws.StructEq
import Derived.Lib.AppendStr
import Derived.Lib.ConvBytes
import Derived.Lib.Hide
import Derived.Lib.OthersKept
import Derived.Lib.SliceRun
import Derived.Lib.TrimUEq
import Derived.Maps.AppendAt
import Derived.OrdersHeld
import Derived.Outline
import Derived.OwnWalk
import Derived.RowKit
import Derived.RowKit3
import Derived.Shelf.Slices.CompactS
import Derived.Shelf.Slices.In.SortNone
import Derived.Shelf.Small.Utf8
import Derived.Shelf.Sort.Plain
import Derived.Shelf.Strings.Builder1
import Derived.Shelf.Strings.Builder2
import Derived.Shelf.Strings.OnBuilder
import Derived.Shelf.Unicode.DecodeAny
import Derived.Shelf.Unicode.DecodeLast
import Derived.Shelf.Unicode.DecodeSlow
import Derived.SizedLaws
import Derived.Sort.OwnSorted
import Derived.Tactics
import Derived.Test.YtopmcoohdhlnaaaDoorProg
import Derived.WalkKit
import Derived.WalkSmall
import Derived.WalkSpells
import Derived.WideLaws
import Derived.Test.YtopmcoohdhlnaaaDoorM1
import Derived.Test.YtopmcoohdhlnaaaDoorM2
import Derived.Test.YtopmcoohdhlnaaaDoorM7
import Derived.Test.YtopmcoohdhlnaaaDoorM8
import Derived.Test.YtopmcoohdhlnaaaDoorPa1
import Derived.Test.YtopmcoohdhlnaaaDoorPa11
import Derived.Test.YtopmcoohdhlnaaaDoorPa5
import Derived.Test.YtopmcoohdhlnaaaDoorPb13
import Derived.Test.YtopmcoohdhlnaaaDoorWLast
import Derived.Test.YtopmcoohdhlnaaaDoorWMore
import Derived.Test.YtopmcoohdhlnaaaDoorWWords
namespace Go.Proofs.YtopmcoohdhlnaaaDoor.Pure
open Go Go.RowKit Go.Lib Go.Proofs Go.Proofs.YtopmcoohdhlnaaaDoorW.PrintWords Go.Proofs.YtopmcoohdhlnaaaDoorW.PrintLast Go.Proofs.YtopmcoohdhlnaaaDoorW.PrintMore
open G M Pb
set_option linter.unusedVariables false
set_option linter.unusedSimpArgs false
theorem MarkCommons_j1 (s t : ByteArray) (k : Nat) (hk : 3000000 ≤ k) (hR : wrong2 20 s t = 0 → Pa.pritchelref09_Common.f k s t = some (dp s t 0 0)) :
    pritchellaw09_MarkCommons.j1 (k + 1) s t (if wrong2 20 s t = 0 then (dp s t 0 0, (0 : Int)) else (⟨#[]⟩, wrong2 20 s t)).1 (if wrong2 20 s t = 0 then (dp s t 0 0, (0 : Int)) else (⟨#[]⟩, wrong2 20 s t)).2 (if wrong2 20 s t = 0 then (((s.size : Int) + (t.size : Int) - 2 * ((dp s t 0 0).size : Int)), (0 : Int)) else (0, wrong2 20 s t)).1 (if wrong2 20 s t = 0 then (((s.size : Int) + (t.size : Int) - 2 * ((dp s t 0 0).size : Int)), (0 : Int)) else (0, wrong2 20 s t)).2 (wrong2 20 s t) = some true := by
  rw [pritchellaw09_MarkCommons.j1]
  by_cases h : wrong2 20 s t = 0
  · have hz := wrong2_size h
    have hd := dp_size s t _ 0 0 rfl
    simp only [if_pos h, hR h, Option.bind_some]
    rw [if_pos trivial, if_pos trivial]
    obtain ⟨x, hx⟩ : ∃ x, (dp s t 0 0).size = x := ⟨_, rfl⟩
    rw [hx] at hd ⊢
    have e1 : wrap64 ((s.size : Int) + (t.size : Int)) = (s.size : Int) + (t.size : Int) := w64 (by omega) (by omega)
    have e2 : wrap64 (2 * (x : Int)) = 2 * (x : Int) := w64 (by omega) (by omega)
    have e3 : wrap64 ((s.size : Int) + (t.size : Int) - 2 * (x : Int)) = (s.size : Int) + (t.size : Int) - 2 * (x : Int) := w64 (by omega) (by omega)
    rw [e1, e2, e3, if_pos rfl, if_pos trivial, lives_ev k (by omega), Option.bind_some]
  · simp only [if_neg h]
    rw [if_pos (by decide +kernel), if_pos trivial, if_pos trivial, if_pos trivial, lives_ev k (by omega), Option.bind_some]
theorem MarkCommons : pritchellaw09_MarkCommons.Pure := by
  intro x y _ _
  obtain ⟨s, hs, hsz⟩ := cut_to x 21
  obtain ⟨t, ht, htz⟩ := cut_to y 21
  replace hs : Pa.pritchellaw09_cut.f x 21 = some s := hs
  replace ht : Pa.pritchellaw09_cut.f y 21 = some t := ht
  obtain ⟨c1, h1⟩ := Common_ev s t
  obtain ⟨c2, h2⟩ := Distance_ev s t
  obtain ⟨c3, h3⟩ := rcommon_ev s t (by omega) (by omega)
  obtain ⟨K, hK⟩ : ∃ K, K = c1 + c2 + c3 + 3000000 := ⟨_, rfl⟩
  refine ⟨K + 1 + 1, ?_⟩
  unfold pritchellaw09_MarkCommons.f
  have hw1 : Pa.pritchelref09_Word.f (K + 1 + 1) s 2 20 = some (wrong 20 s) := word_ev 20 s (by omega) _ (by omega)
  have hw2 : Pa.pritchelref09_Word.f (K + 1 + 1) t 2 20 = some (wrong 20 t) := word_ev 20 t (by omega) _ (by omega)
  have hR : Pa.pritchelref09_Common.f K s t = some (dp s t 0 0) := by
    have e := h3 (K - c3)
    rwa [show K - c3 + c3 = K from by omega] at e
  have hj := MarkCommons_j1 s t K (by omega) (fun _ => hR)
  rw [hs, Option.bind_some, ht, Option.bind_some, h1 _ (by omega), Option.bind_some, h2 _ (by omega), Option.bind_some, hw1, Option.bind_some, hw2, Option.bind_some]
  rw [pritchellaw09_MarkCommons.j0, pritchellaw09_MarkCommons.j0]
  have e : wrong2 20 s t = if wrong 20 s = 0 then wrong 20 t else if (wrong 20 t == 3) = true then wrong 20 t else wrong 20 s := by
    unfold wrong2
    by_cases h : wrong 20 t = 3 <;> simp [h]
  by_cases ha : wrong 20 s = 0
  · rw [if_pos ha] at e
    rw [if_pos ha, if_pos rfl, ← e]
    exact hj
  · rw [if_neg ha] at e
    rw [if_neg ha]
    by_cases hb : (wrong 20 t == 3) = true
    · rw [if_pos hb] at e
      rw [if_pos hb, ← e]; exact hj
    · rw [if_neg hb] at e
      rw [if_neg hb, ← e]; exact hj
end Go.Proofs.YtopmcoohdhlnaaaDoor.Pure
