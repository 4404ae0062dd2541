/- THE STATEMENT MarkApart: its row, whole, and its tied card: for every input, out of the plain law and the walk. No condition of its own. -/
import Derived.ChangeOld
import Derived.SevenTiedAt
import Derived.ShutString
import Derived.Test.YtopmcoohdhlnaaaDoorCards
import Derived.Test.YtopmcoohdhlnaaaDoorTie
import Derived.Test.YtopmcoohdhlnaaaDoorA2
import Derived.Test.YtopmcoohdhlnaaaDoorPureMarkApart
import Derived.Test.YtopmcoohdhlnaaaDoorS0
namespace Go.Proofs.YtopmcoohdhlnaaaDoor.markApart
open Go.ChangeShapes Go.WideShapes Go.ChangeAt Go.RowKit Go.Lib
open Go.ChangeMaps (open_string shut_string)
open Go.Proofs.YtopmcoohdhlnaaaDoorW
set_option linter.unusedVariables false
set_option maxRecDepth 100000 in
theorem lifted (os : Os) (started : os.Started) (H : Type) (enc : TypeId × Value → H) :
    ReturnsInHanded {} Tryd.checked os 12 .any (fun w args => (Rows.markApartSpec.pre enc Tryd.prog Tryd.f12 [] false w args ∧ laidMetH Tryd.prog laidL w) ∧ sizedMet enc Tryd.prog Tryd.f12 (OpenSpec.ofChange Rows.markApartSpec) false w args) (Rows.markApartSpec.post enc Tryd.prog Tryd.f12 false true false false) := by
  refine returnsInHanded_of_change_and (C := Tryd.checked) (X := fun w _ => laidMetH Tryd.prog laidL w) (fun _ _ _ hh h => h.of_heap hh) own started (by kernel_rfl) Tryd.func12
    (ChangeSpec.witness_shaped (enc := enc) (C := Tryd.checked) (os := os) (X := fun w _ => laidMetH Tryd.prog laidL w) false (laidWorld os) #[.agg #[.int .u8 0, .int .u8 0], .int .u16 0, .int .u16 0] 8 rfl (laid_shaped os _) (by kernel_rfl) (by kernel_rfl) (by kernel_rfl) (laid_met os _)) ?_
  intro W base args ds gs before hval0 hW _ hsz0 hL _
  have hsz : (DataW.weightsEach Tryd.prog (Tryd.f12.params.toList ++ Rows.markApartSpec.plain.varTypes Tryd.prog) (ds ++ gs)).all (· ≤ reachBytes) = true := hsz0
  have hval : ∀ (j : Nat) t v, Tryd.f12.params[j]? = some t → args[j]? = some v → Value.okWide Tryd.prog W .any base t v := hval0
  have hW' := hW
  have htab := tabs_of_laid hL
  obtain ⟨p, q, hA0, hV, rfl, hfz, hnd⟩ := hW
  have hA : DataW.TrodAll enc Tryd.prog W 0 (fun _ => true) true Tryd.f12.params.toList args.toList ds p := hA0
  rw [Tryd.params12] at hA hval hsz
  obtain ⟨v0, vs0, d0, ds0, p0, q0, hargs, rfl, rfl, h0, r0⟩ := trodAll_cons hA
  obtain ⟨v1, vs1, d1, ds1, p1, q1, rfl, rfl, rfl, h1, r1⟩ := trodAll_cons r0
  obtain ⟨v2, vs2, d2, ds2, p2, q2, rfl, rfl, rfl, h2, r2⟩ := trodAll_cons r1
  obtain ⟨rfl, rfl, rfl⟩ := trodAll_nil r2
  obtain rfl : args = #[v0, v1, v2] := by cases args; simp_all
  obtain ⟨rfl, rfl⟩ := trodVars_none hV
  obtain ⟨c0, c1, y0, y1, m, rfl, rfl, rfl, hy0, hy1⟩ := Arr2.open_arr2 Tryd.underlying63 (by kernel_rfl) (by kernel_rfl) (hval 0 63 v0 rfl rfl) h0
  obtain ⟨a0_0, e0, rfl, g0⟩ := DataW.trod_int Tryd.underlying5 hy0
  obtain ⟨a0_1, e1, rfl, g1⟩ := DataW.trod_int Tryd.underlying5 hy1
  simp at e0 e1
  subst e0 e1
  obtain ⟨a1, rfl, rfl, rfl, w1⟩ := open_int Tryd.underlying64 (hval 1 64 v1 rfl rfl) h1
  obtain ⟨a2, rfl, rfl, rfl, w2⟩ := open_int Tryd.underlying64 (hval 2 64 v2 rfl rfl) h2
  clear hA0 hval0 hsz0 hsz
  refine (Pd.pritchellaw09_MarkApart.walk Pure.MarkApart a0_0 a0_1 a1 a2 W g0 g1 w1 w2 htab).mono fun e W' ⟨he, bel⟩ => ?_
  subst he
  exact ⟨_, rfl, _, _, _, [], _, [], hW', trodAll_mk1 (shut_bool Tryd.underlying4 _), (trodAll_cons_mk (Arr2.shut_arr2 Tryd.underlying63 Tryd.underlying5 (by kernel_rfl) (by kernel_rfl) g0 g1) (trodAll_cons_mk (shut_int Tryd.underlying64 w1) (trodAll_cons_mk (shut_int Tryd.underlying64 w2) trodAll_mk0))), rfl, bel.frame _, fun h => by cases h⟩
theorem over : Rows.markApartRow.holds Tryd.pinned (OpenSpec.ofChange Rows.markApartSpec) :=
  OpenClaim.holds_of_wide 12 Tryd.f12 rfl rfl rfl rfl rfl rfl rfl ⟨rfl, rfl, rfl, rfl, rfl⟩ rfl rfl rfl rfl rfl (by kernel_rfl) Tryd.func12 (by kernel_rfl)
    (of_decide_eq_true (by kernel_rfl)) (by unfold Func.isWrapper; first | (rw [if_pos (by decide +kernel)]; kernel_rfl) | (rw [if_neg (by decide +kernel)]; exact ⟨rfl, rfl⟩))
    (fun os started H enc _ => lifted os started H enc)
theorem proved : Rows.MarkApartSaid := over
set_option maxRecDepth 100000 in
theorem card_holds : Rows.MarkApartCardSaid :=
  Claim7.holds_tied_plain_at .later [] [.data, .pinned] true (true, "1a95931eb35ca78573b4c08ebdc572120d531396d5f31508a20bc429f5e1f954") false
    proved (fun _ h => by cases h) (by kernel_rfl) (fun _ h => by cases h) markApart_row_tie rfl ⟨rfl, rfl⟩ (by kernel_rfl) rfl
    (fun f fn hf hfn => by
      obtain rfl : f = 12 := Option.some.inj ((show Tryd.prog.funcNamed "pritchel/pritchellaw09.MarkApart" = some 12 by kernel_rfl).symm.trans hf) |>.symm
      obtain rfl : fn = Tryd.f12 := (Option.some.inj (Tryd.func12.symm.trans hfn)).symm
      exact ⟨by kernel_rfl, fun j t ht => by
        rw [Tryd.params12] at ht
        have h3 : t = 63 ∨ t = 64 := by
          rcases j with _ | j
          · obtain rfl : t = 63 := by simpa using ht.symm
            simp
          rcases j with _ | j
          · obtain rfl : t = 64 := by simpa using ht.symm
            simp
          rcases j with _ | j
          · obtain rfl : t = 64 := by simpa using ht.symm
            simp
          simp at ht
        rcases h3 with rfl | rfl
        · exact (show Tryd.prog.wantsStandIn 63 = false by kernel_rfl)
        · exact (show Tryd.prog.wantsStandIn 64 = false by kernel_rfl)⟩)
    (by kernel_rfl)
#print axioms card_holds
end Go.Proofs.YtopmcoohdhlnaaaDoor.markApart
namespace Go.Proofs.YtopmcoohdhlnaaaDoor
/-- The tied card, under a short name, for the claim. -/
theorem markApart_card : Rows.MarkApartCardSaid := markApart.card_holds
end Go.Proofs.YtopmcoohdhlnaaaDoor
