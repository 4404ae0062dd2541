/- THE STATEMENT MarkAll: its row, whole, and its tied card: for every input, out of the plain law and the walk. No condition of its own. -/
import Derived.ChangeOld
import Derived.SevenTiedAt
import Derived.ShutString
import Derived.Test.YtopmcoohdhlnaaaGreatDoorCards
import Derived.Test.YtopmcoohdhlnaaaGreatDoorTie
import Derived.Test.YtopmcoohdhlnaaaGreatDoorXB0
import Derived.Test.YtopmcoohdhlnaaaGreatDoorPureMarkAll
namespace Go.Proofs.YtopmcoohdhlnaaaGreatDoor.markAll
open Go.ChangeShapes Go.WideShapes Go.ChangeAt Go.RowKit Go.Lib
open Go.ChangeMaps (open_string shut_string)
set_option linter.unusedVariables false
set_option maxRecDepth 100000 in
theorem lifted (os : Os) (started : os.Started) (H : Type) (enc : TypeId × Value → H) :
  ReturnsInHanded {} Tryz.checked os 4 .any (fun w args => (Rows.markAllSpec.pre enc Tryz.prog Tryz.f4 [] false w args ∧ laidMetH Tryz.prog laidL w) ∧ sizedMet enc Tryz.prog Tryz.f4 (OpenSpec.ofChange Rows.markAllSpec) false w args) (Rows.markAllSpec.post enc Tryz.prog Tryz.f4 false true false false) := by
 refine returnsInHanded_of_change_and (C := Tryz.checked) (X := fun w _ => laidMetH Tryz.prog laidL w) (fun _ _ _ hh h => h.of_heap hh) own started (by kernel_rfl) Tryz.func4
  (ChangeSpec.witness_shaped (enc := enc) (C := Tryz.checked) (os := os) (X := fun w _ => laidMetH Tryz.prog laidL w) false (laidWorld os) #[.int .u8 0] 8 rfl (laid_shaped os _) (by kernel_rfl) (by kernel_rfl) (by kernel_rfl) (laid_met os _)) ?_
 intro W base args ds gs before hval0 hW _ hsz0 hL _; have hsz : (DataW.weightsEach Tryz.prog (Tryz.f4.params.toList ++ Rows.markAllSpec.plain.varTypes Tryz.prog) (ds ++ gs)).all (· ≤ reachBytes) = true := hsz0; have hval : ∀ (j : Nat) t v, Tryz.f4.params[j]? = some t → args[j]? = some v → Value.okWide Tryz.prog W .any base t v := hval0; have hW' := hW; have htab := tabs_of_laid hL; obtain ⟨p, q, hA0, hV, rfl, hfz, hnd⟩ := hW; have hA : DataW.TrodAll enc Tryz.prog W 0 (fun _ => true) true Tryz.f4.params.toList args.toList ds p := hA0; rw [Tryz.params4] at hA hval hsz; obtain ⟨v0, vs0, d0, ds0, p0, q0, hargs, rfl, rfl, h0, r0⟩ := trodAll_cons hA; obtain ⟨rfl, rfl, rfl⟩ := trodAll_nil r0; (obtain rfl : args = #[v0] := by cases args; simp_all); obtain ⟨rfl, rfl⟩ := trodVars_none hV; obtain ⟨a0, rfl, rfl, rfl, w0⟩ := open_int Tryz.underlying5 (hval 0 5 v0 rfl rfl) h0; clear hA0 hval0 hsz0 hsz; refine (Qx.pritchellaw09_MarkAll.walk Pure.MarkAll a0 W w0 htab).mono fun e W' ⟨he, bel⟩ => ?_; subst he; exact ⟨_, rfl, _, _, _, [], _, [], hW', trodAll_mk1 (shut_bool Tryz.underlying4 _), (trodAll_cons_mk (shut_int Tryz.underlying5 w0) trodAll_mk0), rfl, bel.frame _, fun h => by cases h⟩
theorem over : Rows.markAllRow.holds Tryz.pinned (OpenSpec.ofChange Rows.markAllSpec) :=
 OpenClaim.holds_of_wide 4 Tryz.f4 rfl rfl rfl rfl rfl rfl rfl ⟨rfl, rfl, rfl, rfl, rfl⟩ rfl rfl rfl rfl rfl (by kernel_rfl) Tryz.func4 (by kernel_rfl)
  (of_decide_eq_true (by kernel_rfl)) (by unfold Func.isWrapper; first | (rw [if_pos (by decide +kernel)]; kernel_rfl) | (rw [if_neg (by decide +kernel)]; exact ⟨rfl, rfl⟩))
  (fun os started H enc _ => lifted os started H enc)
theorem proved : Rows.MarkAllSaid := over
set_option maxRecDepth 100000 in
theorem card_holds : Rows.MarkAllCardSaid :=
 Claim7.holds_tied_plain_at .later [] [.data, .pinned] true (true, "17ba259907dfbf1562d5b23274a1dc5ede0ffb2d0f6d27c4ba4e765da8cb7d04") false
  proved (fun _ h => by cases h) (by kernel_rfl) (fun _ h => by cases h) markAll_row_tie rfl ⟨rfl, rfl⟩ (by kernel_rfl) rfl
  (fun f fn hf hfn => by
   obtain rfl : f = 4 := Option.some.inj ((show Tryz.prog.funcNamed "pritchel/pritchellaw09.MarkAll" = some 4 by kernel_rfl).symm.trans hf) |>.symm; obtain rfl : fn = Tryz.f4 := (Option.some.inj (Tryz.func4.symm.trans hfn)).symm
   exact ⟨by kernel_rfl, fun j t ht => by
    rw [Tryz.params4] at ht
    have h3 : t = 5 := by
     rcases j with _ | j
     ·(obtain rfl : t = 5 := by simpa using ht.symm); simp
     simp at ht
    subst h3
    ·exact (show Tryz.prog.wantsStandIn 5 = false by kernel_rfl)⟩)
  (by kernel_rfl)
#print axioms card_holds
end Go.Proofs.YtopmcoohdhlnaaaGreatDoor.markAll
namespace Go.Proofs.YtopmcoohdhlnaaaGreatDoor
/-- The tied card, under a short name, for the claim. -/
theorem markAll_card : Rows.MarkAllCardSaid := markAll.card_holds
end Go.Proofs.YtopmcoohdhlnaaaGreatDoor
