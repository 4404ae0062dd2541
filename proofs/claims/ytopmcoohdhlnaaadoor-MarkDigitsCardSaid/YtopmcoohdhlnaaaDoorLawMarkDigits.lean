/- THE STATEMENT MarkDigits: its row, whole, and its tied card: for every input, out of the plain law and the walk. No condition of its own. -/
import Derived.ArgAppend
import Derived.Below
import Derived.BigQuiet
import Derived.ChangeOld
import Derived.ChangeSlices
import Derived.Deep.AppendLies
import Derived.Deep.CutBlock
import Derived.Deep.DeepCutAuto
import Derived.Deep.Draws
import Derived.Deep.LoopGhost
import Derived.Deep.OwnRows
import Derived.Deep.QuietTactic
import Derived.Deep.RegionHeld3
import Derived.Handed
import Derived.KernelRfl
import Derived.LaidHandle
import Derived.LaidMore
import Derived.Laws.BitsLemmas
import Derived.Laws.BytesArg
import Derived.Laws.IdiomCopy
import Derived.Laws.MakeOwn
import Derived.Laws.OwnMore
import Derived.Laws.RangeAny
import Derived.Laws.Rows
import Derived.Laws.Slices
import Derived.Laws.StructEq
import Derived.Lib.AppendStr
import Derived.Lib.ConvBytes
import Derived.Lib.Hide
import Derived.Lib.LaidIn
import Derived.Lib.LaidU8
import Derived.Lib.OthersKept
import Derived.Lib.SliceRun
import Derived.Lib.SmallJoins
import Derived.Lib.TrimUEq
import Derived.Maps.AppendAt
import Derived.OpenShut
import Derived.OrdersHeld
import Derived.Outline
import Derived.OwnWalk
import Derived.ProofKit
import Derived.RowKit
import Derived.RowKit3
import Derived.SevenTiedAt
import Derived.Shelf.Slices.CompactS
import Derived.Shelf.Slices.In.SortNone
import Derived.Shelf.Small.Utf8
import Derived.Shelf.Sort.Plain
import Derived.Shelf.Strings.Builder1
import Derived.Shelf.Strings.Builder2
import Derived.Shelf.Strings.OnBuilder
import Derived.Shelf.Unicode.DecodeAny
import Derived.Shelf.Unicode.DecodeLast
import Derived.Shelf.Unicode.DecodeSlow
import Derived.ShutString
import Derived.SizedLaws
import Derived.Sort.OwnSorted
import Derived.Stop.Joined
import Derived.Tactics
import Derived.Test.YtopmcoohdhlnaaaDoorCards
import Derived.Test.YtopmcoohdhlnaaaDoorProg
import Derived.Test.YtopmcoohdhlnaaaDoorRows
import Derived.Test.YtopmcoohdhlnaaaDoorTie
import Derived.WalkKit
import Derived.WalkSmall
import Derived.WalkSpells
import Derived.WideLaws
import Derived.Test.YtopmcoohdhlnaaaDoorPb18
import Derived.Test.YtopmcoohdhlnaaaDoorPureMarkDigits
import Derived.Test.YtopmcoohdhlnaaaDoorS0
import Derived.Test.YtopmcoohdhlnaaaDoorWApart
import Derived.Test.YtopmcoohdhlnaaaDoorWLast
import Derived.Test.YtopmcoohdhlnaaaDoorWMore
import Derived.Test.YtopmcoohdhlnaaaDoorWShare
import Derived.Test.YtopmcoohdhlnaaaDoorWWords
namespace Go.Proofs.YtopmcoohdhlnaaaDoor.markDigits
open Go.ChangeShapes Go.WideShapes Go.ChangeAt Go.RowKit Go.Lib
open Go.ChangeMaps (open_string shut_string)
set_option linter.unusedVariables false
set_option maxRecDepth 100000 in
theorem lifted (os : Os) (started : os.Started) (H : Type) (enc : TypeId × Value → H) :
    ReturnsInHanded {} Tryd.checked os 10 .any (fun w args => (Rows.markDigitsSpec.pre enc Tryd.prog Tryd.f10 [] false w args ∧ laidMetH Tryd.prog laidL w) ∧ sizedMet enc Tryd.prog Tryd.f10 (OpenSpec.ofChange Rows.markDigitsSpec) false w args) (Rows.markDigitsSpec.post enc Tryd.prog Tryd.f10 false true false false) := by
  refine returnsInHanded_of_change_and (C := Tryd.checked) (X := fun w _ => laidMetH Tryd.prog laidL w) (fun _ _ _ hh h => h.of_heap hh) own started (by kernel_rfl) Tryd.func10
    (ChangeSpec.witness_shaped (enc := enc) (C := Tryd.checked) (os := os) (X := fun w _ => laidMetH Tryd.prog laidL w) false (laidWorld os) #[.agg #[.int .i64 0, .int .i64 0, .int .i64 0, .int .i64 0], .string ByteArray.empty] 8 rfl (laid_shaped os _) (by kernel_rfl) (by kernel_rfl) (by kernel_rfl) (laid_met os _)) ?_
  intro W base args ds gs before hval0 hW _ hsz0 hL _
  have hsz : (DataW.weightsEach Tryd.prog (Tryd.f10.params.toList ++ Rows.markDigitsSpec.plain.varTypes Tryd.prog) (ds ++ gs)).all (· ≤ reachBytes) = true := hsz0
  have hval : ∀ (j : Nat) t v, Tryd.f10.params[j]? = some t → args[j]? = some v → Value.okWide Tryd.prog W .any base t v := hval0
  have hW' := hW
  have htab := tabs_of_laid hL
  obtain ⟨p, q, hA0, hV, rfl, hfz, hnd⟩ := hW
  have hA : DataW.TrodAll enc Tryd.prog W 0 (fun _ => true) true Tryd.f10.params.toList args.toList ds p := hA0
  rw [Tryd.params10] at hA hval hsz
  obtain ⟨v0, vs0, d0, ds0, p0, q0, hargs, rfl, rfl, h0, r0⟩ := trodAll_cons hA
  obtain ⟨v1, vs1, d1, ds1, p1, q1, rfl, rfl, rfl, h1, r1⟩ := trodAll_cons r0
  obtain ⟨rfl, rfl, rfl⟩ := trodAll_nil r1
  obtain rfl : args = #[v0, v1] := by cases args; simp_all
  obtain ⟨rfl, rfl⟩ := trodVars_none hV
  obtain ⟨c0, c1, c2, c3, y0, y1, y2, y3, m, rfl, rfl, rfl, hy0, hy1, hy2, hy3⟩ := Joins.open_agg4 Tryd.underlying52 (by kernel_rfl) (by kernel_rfl) (hval 0 52 v0 rfl rfl) h0
  obtain ⟨a0_0, e0, rfl, g0⟩ := DataW.trod_int Tryd.underlying3 hy0
  obtain ⟨a0_1, e1, rfl, g1⟩ := DataW.trod_int Tryd.underlying3 hy1
  obtain ⟨a0_2, e2, rfl, g2⟩ := DataW.trod_int Tryd.underlying3 hy2
  obtain ⟨a0_3, e3, rfl, g3⟩ := DataW.trod_int Tryd.underlying3 hy3
  simp at e0 e1 e2 e3
  subst e0 e1 e2 e3
  obtain ⟨a1, rfl, rfl, rfl, y1⟩ := open_string Tryd.underlying9 (hval 1 9 v1 rfl rfl) h1
  have w1 : a1.size ≤ 140737488351232 := by
    have z := sized_string hsz (j := 1) (t := 9) rfl rfl
    rw [Array.length_toList] at z
    exact z
  clear hA0 hval0 hsz0 hsz
  refine (Pb.pritchellaw09_MarkDigits.walk Pure.MarkDigits a0_0 a0_1 a0_2 a0_3 a1 W w1 htab).mono fun e W' ⟨he, bel⟩ => ?_
  subst he
  exact ⟨_, rfl, _, _, _, [], _, [], hW', trodAll_mk1 (shut_bool Tryd.underlying4 _), (trodAll_cons_mk (Joins.shut_agg4 (y0 := (.lit (.int .i64 a0_0), [])) (y1 := (.lit (.int .i64 a0_1), [])) (y2 := (.lit (.int .i64 a0_2), [])) (y3 := (.lit (.int .i64 a0_3), [])) Tryd.underlying52 (by kernel_rfl) (by kernel_rfl) (Joins.field_of_Trod (shut_int Tryd.underlying3 g0) rfl) (Joins.field_of_Trod (shut_int Tryd.underlying3 g1) rfl) (Joins.field_of_Trod (shut_int Tryd.underlying3 g2) rfl) (Joins.field_of_Trod (shut_int Tryd.underlying3 g3) rfl)) (trodAll_cons_mk (shut_string Tryd.underlying9 y1) trodAll_mk0)), rfl, bel.frame _, fun h => by cases h⟩
theorem over : Rows.markDigitsRow.holds Tryd.pinned (OpenSpec.ofChange Rows.markDigitsSpec) :=
  OpenClaim.holds_of_wide 10 Tryd.f10 rfl rfl rfl rfl rfl rfl rfl ⟨rfl, rfl, rfl, rfl, rfl⟩ rfl rfl rfl rfl rfl (by kernel_rfl) Tryd.func10 (by kernel_rfl)
    (of_decide_eq_true (by kernel_rfl)) (by unfold Func.isWrapper; first | (rw [if_pos (by decide +kernel)]; kernel_rfl) | (rw [if_neg (by decide +kernel)]; exact ⟨rfl, rfl⟩))
    (fun os started H enc _ => lifted os started H enc)
theorem proved : Rows.MarkDigitsSaid := over
set_option maxRecDepth 100000 in
theorem card_holds : Rows.MarkDigitsCardSaid :=
  Claim7.holds_tied_plain_at .later [] [.data, .pinned] true (true, "1a95931eb35ca78573b4c08ebdc572120d531396d5f31508a20bc429f5e1f954") false
    proved (fun _ h => by cases h) (by kernel_rfl) (fun _ h => by cases h) markDigits_row_tie rfl ⟨rfl, rfl⟩ (by kernel_rfl) rfl
    (fun f fn hf hfn => by
      obtain rfl : f = 10 := Option.some.inj ((show Tryd.prog.funcNamed "pritchel/pritchellaw09.MarkDigits" = some 10 by kernel_rfl).symm.trans hf) |>.symm
      obtain rfl : fn = Tryd.f10 := (Option.some.inj (Tryd.func10.symm.trans hfn)).symm
      exact ⟨by kernel_rfl, fun j t ht => by
        rw [Tryd.params10] at ht
        have h3 : t = 9 ∨ t = 52 := by
          rcases j with _ | j
          · obtain rfl : t = 52 := by simpa using ht.symm
            simp
          rcases j with _ | j
          · obtain rfl : t = 9 := by simpa using ht.symm
            simp
          simp at ht
        rcases h3 with rfl | rfl
        · exact (show Tryd.prog.wantsStandIn 9 = false by kernel_rfl)
        · exact (show Tryd.prog.wantsStandIn 52 = false by kernel_rfl)⟩)
    (by kernel_rfl)
#print axioms card_holds
end Go.Proofs.YtopmcoohdhlnaaaDoor.markDigits
namespace Go.Proofs.YtopmcoohdhlnaaaDoor
/-- The tied card, under a short name, for the claim. -/
theorem markDigits_card : Rows.MarkDigitsCardSaid := markDigits.card_holds
end Go.Proofs.YtopmcoohdhlnaaaDoor
