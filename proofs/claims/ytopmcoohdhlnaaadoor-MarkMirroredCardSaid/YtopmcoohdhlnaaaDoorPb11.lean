/- Printed by a program of this session (print2.py). -/
import Derived.ArgAppend
import Derived.Below
import Derived.BigQuiet
import Derived.ChangeSlices
import Derived.Deep.AppendLies
import Derived.Deep.CutBlock
import Derived.Deep.DeepCutAuto
import Derived.Deep.Draws
import Derived.Deep.LoopGhost
import Derived.Deep.OwnRows
import Derived.Deep.QuietTactic
import Derived.Deep.RegionHeld3
import Derived.KernelRfl
import Derived.Laws.BitsLemmas
import Derived.Laws.BytesArg
import Derived.Laws.IdiomCopy
import Derived.Laws.MakeOwn
import Derived.Laws.OwnMore
import Derived.Laws.RangeAny
import Derived.Laws.Rows
import Derived.Laws.Slices
import Derived.Laws.StructEq
import Derived.Lib.AppendStr
import Derived.Lib.ConvBytes
import Derived.Lib.Hide
import Derived.Lib.OthersKept
import Derived.Lib.SliceRun
import Derived.Lib.TrimUEq
import Derived.Maps.AppendAt
import Derived.OrdersHeld
import Derived.Outline
import Derived.OwnWalk
import Derived.RowKit
import Derived.RowKit3
import Derived.Shelf.Slices.CompactS
import Derived.Shelf.Slices.In.SortNone
import Derived.Shelf.Small.Utf8
import Derived.Shelf.Sort.Plain
import Derived.Shelf.Strings.Builder1
import Derived.Shelf.Strings.Builder2
import Derived.Shelf.Strings.OnBuilder
import Derived.Shelf.Unicode.DecodeAny
import Derived.Shelf.Unicode.DecodeLast
import Derived.Shelf.Unicode.DecodeSlow
import Derived.SizedLaws
import Derived.Sort.OwnSorted
import Derived.Tactics
import Derived.Test.YtopmcoohdhlnaaaDoorProg
import Derived.WalkKit
import Derived.WalkSmall
import Derived.WalkSpells
import Derived.WideLaws
import Derived.Test.YtopmcoohdhlnaaaDoorG0
import Derived.Test.YtopmcoohdhlnaaaDoorG6
import Derived.Test.YtopmcoohdhlnaaaDoorM1
import Derived.Test.YtopmcoohdhlnaaaDoorPa0
import Derived.Test.YtopmcoohdhlnaaaDoorPa12
import Derived.Test.YtopmcoohdhlnaaaDoorPb0
import Derived.Test.YtopmcoohdhlnaaaDoorPb10
import Derived.Test.YtopmcoohdhlnaaaDoorPb6
import Derived.Test.YtopmcoohdhlnaaaDoorPb7
import Derived.Test.YtopmcoohdhlnaaaDoorWApart
import Derived.Test.YtopmcoohdhlnaaaDoorWGuard
import Derived.Test.YtopmcoohdhlnaaaDoorWKept
import Derived.Test.YtopmcoohdhlnaaaDoorWLast
import Derived.Test.YtopmcoohdhlnaaaDoorWMore
import Derived.Test.YtopmcoohdhlnaaaDoorWN
import Derived.Test.YtopmcoohdhlnaaaDoorWShare
import Derived.Test.YtopmcoohdhlnaaaDoorWWords
namespace Go.Proofs.YtopmcoohdhlnaaaDoor.Pb
open Go.RowKit Go.Proofs.YtopmcoohdhlnaaaDoorW.PrintWords Go.Proofs.YtopmcoohdhlnaaaDoorW.PrintLast Go.Proofs.YtopmcoohdhlnaaaDoorW.PrintMore
attribute [local go_sem] max2_int min2_int max_two min_two max_three min_three max_four min_four   -- for this text's walks alone
set_option linter.unusedVariables false
set_option linter.unusedSimpArgs false

/-! ### pritchellaw09_MarkMirrored: function 6 -/
mutual
def pritchellaw09_MarkMirrored.j0 : Nat → List Int → List ByteArray → List ByteArray → Bool → Option (Bool)
 | 0, _, _, _, _ => none
 | k + 1, x2, x9, x11, x70 => if x70 = true then (some false) else (pritchellaw09_MarkMirrored.l0 k x2 x9 x11 (([] : List ByteArray)) 0)
def pritchellaw09_MarkMirrored.l0 : Nat → List Int → List ByteArray → List ByteArray → List ByteArray → Int → Option (Bool)
 | 0, _, _, _, _, _ => none
 | k + 1, x2, x9, x11, x13, x14 => if x14 < (x9.length : Int) then (if 0 ≤ x14 then (pritchellaw09_MarkMirrored.l1 k x2 x9 x11 x13 x14 (⟨#[]⟩ : ByteArray) (wrap64 (((rdOf ByteArray.empty x9 x14).size : Int) - 1))) else (none)) else (pritchellaw09_MarkMirrored.l2 k x2 x11 x13 0)
def pritchellaw09_MarkMirrored.l1 : Nat → List Int → List ByteArray → List ByteArray → List ByteArray → Int → ByteArray → Int → Option (Bool)
 | 0, _, _, _, _, _, _, _ => none
 | k + 1, x2, x9, x11, x13, x14, x15, x16 => if x16 ≥ 0 then (if 0 ≤ x14 then (if x14 < (x9.length : Int) then (if 0 ≤ x16 then (if x16 ≤ (wrap64 (x16 + 1)) then (if (wrap64 (x16 + 1)) ≤ ((rdOf ByteArray.empty x9 x14).size : Int) then (if x15.size + ((rdOf ByteArray.empty x9 x14).extract (x16 : Int).toNat ((wrap64 (x16 + 1)) : Int).toNat).size ≤ 9223372036854775807 then (pritchellaw09_MarkMirrored.l1 k x2 x9 x11 x13 x14 (x15 ++ ((rdOf ByteArray.empty x9 x14).extract (x16 : Int).toNat ((wrap64 (x16 + 1)) : Int).toNat)) (wrap64 (x16 - 1))) else (none)) else (none)) else (none)) else (none)) else (none)) else (none)) else (if x13.length < 8796093022208 then (pritchellaw09_MarkMirrored.l0 k x2 x9 x11 (x13 ++ [x15]) (wrap64 (x14 + 1))) else (none))
def pritchellaw09_MarkMirrored.l2 : Nat → List Int → List ByteArray → List ByteArray → Int → Option (Bool)
 | 0, _, _, _, _ => none
 | k + 1, x2, x11, x13, x17 => if x17 < (x13.length : Int) then (pritchellaw09_MarkMirrored.l3 k x2 x11 x13 x17 false 0) else ((Pa.pritchellaw09_word.f k x2 2 20).bind fun t248 => (pritchellaw09_MarkMirrored.l4 k t248 (⟨#[]⟩ : ByteArray) 0))
def pritchellaw09_MarkMirrored.l3 : Nat → List Int → List ByteArray → List ByteArray → Int → Bool → Int → Option (Bool)
 | 0, _, _, _, _, _, _ => none
 | k + 1, x2, x11, x13, x17, x18, x19 => if x19 < (x11.length : Int) then (if x18 = true then (pritchellaw09_MarkMirrored.l3 k x2 x11 x13 x17 true (wrap64 (x19 + 1))) else (if 0 ≤ x19 then (if 0 ≤ x17 then (if x17 < (x13.length : Int) then (pritchellaw09_MarkMirrored.l3 k x2 x11 x13 x17 ((rdOf ByteArray.empty x11 x19).toList == (rdOf ByteArray.empty x13 x17).toList) (wrap64 (x19 + 1))) else (none)) else (none)) else (none))) else (if x18 = true then (pritchellaw09_MarkMirrored.l2 k x2 x11 x13 (wrap64 (x17 + 1))) else (some false))
def pritchellaw09_MarkMirrored.l4 : Nat → ByteArray → ByteArray → Int → Option (Bool)
 | 0, _, _, _ => none
 | k + 1, x20, x21, x22 => if x22 < (x20.size : Int) then (if 0 ≤ x22 then (if 0 ≤ (((bt x20 x22) - 48) % 256) then (if (((bt x20 x22) - 48) % 256) ≤ (((((bt x20 x22) - 48) % 256) + 1) % 256) then (if (((((bt x20 x22) - 48) % 256) + 1) % 256) ≤ 2 then (if x21.size + ((⟨#[49, 48]⟩ : ByteArray).extract ((((bt x20 x22) - 48) % 256) : Int).toNat ((((((bt x20 x22) - 48) % 256) + 1) % 256) : Int).toNat).size ≤ 9223372036854775807 then (pritchellaw09_MarkMirrored.l4 k x20 (x21 ++ ((⟨#[49, 48]⟩ : ByteArray).extract ((((bt x20 x22) - 48) % 256) : Int).toNat ((((((bt x20 x22) - 48) % 256) + 1) % 256) : Int).toNat)) (wrap64 (x22 + 1))) else (none)) else (none)) else (none)) else (none)) else (none)) else ((mark_Sum.f k x20).bind fun bt249 => ((mark_Sum.f k x21).bind fun bt251 => (if bt249.2 = 0 then (if bt251.2 = 0 then (some ((wrap64 (bt249.1 + bt251.1)) == (wrap64 (Int.tdiv (wrap64 ((x20.size : Int) * (wrap64 ((x20.size : Int) + 1)))) 2)))) else (some false)) else (some false))))
end
def pritchellaw09_MarkMirrored.f (k : Nat) (a0 : Int) (a1 : Int) (l2 : List Int) : Option (Bool) := if (wrap64 ((wrap64 ((Int.tmod (wrap64 (a0)) 12) + 1)) + 1)) = 0 then (none) else ((mark_Words.f (wrap64 ((Int.tmod (wrap64 (a0)) 12) + 1)) (Int.tmod (wrap64 (a1)) (wrap64 ((wrap64 ((Int.tmod (wrap64 (a0)) 12) + 1)) + 1)))).bind fun bt229 => ((mark_Words.f (wrap64 ((Int.tmod (wrap64 (a0)) 12) + 1)) (Int.tmod (wrap64 ((wrap64 ((wrap64 ((Int.tmod (wrap64 (a0)) 12) + 1)) + 1)) - (Int.tmod (wrap64 (a1)) (wrap64 ((wrap64 ((Int.tmod (wrap64 (a0)) 12) + 1)) + 1))))) (wrap64 ((wrap64 ((Int.tmod (wrap64 (a0)) 12) + 1)) + 1)))).bind fun bt233 => (if bt229.2 = 0 then (if bt233.2 = 0 then (if (bt229.1.length : Int) = (bt233.1.length : Int) then ((pritchellaw09_lives.f k).bind fun t237 => (pritchellaw09_MarkMirrored.j0 k l2 bt229.1 bt233.1 (!t237))) else (pritchellaw09_MarkMirrored.j0 k l2 bt229.1 bt233.1 true)) else (pritchellaw09_MarkMirrored.j0 k l2 bt229.1 bt233.1 true)) else (pritchellaw09_MarkMirrored.j0 k l2 bt229.1 bt233.1 true))))
set_option maxHeartbeats 8000000 in
set_option maxRecDepth 100000 in
theorem pritchellaw09_MarkMirrored.calls (k : Nat) (a0 : Int) (a1 : Int) (A2 : Option Addr) (c2 : Nat) (l2 : List Int) (r : Bool) (w : World) (hr2 : Kd.C (Kd.int .u8) w A2 l2.length l2) (hc2 : l2.length ≤ c2) (hT : Lib.Utf8Tabs 0 1 w) (h : pritchellaw09_MarkMirrored.f k a0 a1 l2 = some r) :
  Calls Tryd.prog 6 #[.int .u8 a0, .int .u8 a1, .slice A2 l2.length c2] w fun e w' => e = .returned (.bool r) ∧ Below w.heap.size w w' := by
 have HR2 := Aside0.mk hr2
 have HC2 := Aside0.mk hc2
 clear hr2 hc2
 have HB := Aside0.mk (Below.refl w.heap.size w)
 have HT := Aside0.mk hT
 clear hT
 have H : (if (wrap64 ((wrap64 ((Int.tmod (wrap64 (a0)) 12) + 1)) + 1)) = 0 then (none) else ((mark_Words.f (wrap64 ((Int.tmod (wrap64 (a0)) 12) + 1)) (Int.tmod (wrap64 (a1)) (wrap64 ((wrap64 ((Int.tmod (wrap64 (a0)) 12) + 1)) + 1)))).bind fun bt229 => ((mark_Words.f (wrap64 ((Int.tmod (wrap64 (a0)) 12) + 1)) (Int.tmod (wrap64 ((wrap64 ((wrap64 ((Int.tmod (wrap64 (a0)) 12) + 1)) + 1)) - (Int.tmod (wrap64 (a1)) (wrap64 ((wrap64 ((Int.tmod (wrap64 (a0)) 12) + 1)) + 1))))) (wrap64 ((wrap64 ((Int.tmod (wrap64 (a0)) 12) + 1)) + 1)))).bind fun bt233 => (if bt229.2 = 0 then (if bt233.2 = 0 then (if (bt229.1.length : Int) = (bt233.1.length : Int) then ((pritchellaw09_lives.f k).bind fun t237 => (pritchellaw09_MarkMirrored.j0 k l2 bt229.1 bt233.1 (!t237))) else (pritchellaw09_MarkMirrored.j0 k l2 bt229.1 bt233.1 true)) else (pritchellaw09_MarkMirrored.j0 k l2 bt229.1 bt233.1 true)) else (pritchellaw09_MarkMirrored.j0 k l2 bt229.1 bt233.1 true))))) = some r := h
 clear h
 by_cases c4 : (wrap64 ((wrap64 ((Int.tmod (wrap64 (a0)) 12) + 1)) + 1)) = 0
 ·rw [if_pos c4] at H
  exact absurd H (by simp)
 ·rw [if_neg c4] at H
  have c4b0 : ((wrap64 ((wrap64 ((Int.tmod (wrap64 (a0)) 12) + 1)) + 1)) == 0) = false := beq_eq_false_iff_ne.mpr c4
  have c4b1 : ((wrap64 ((wrap64 ((Int.tmod (wrap64 (a0)) 12) + 1)) + 1)) != 0) = true := bne_iff_ne.mpr c4
  replace H := Option.bind_eq_some_iff.mp H
  obtain ⟨⟨t229, t230⟩, A50, H⟩ := H
  replace H : ((mark_Words.f (wrap64 ((Int.tmod (wrap64 (a0)) 12) + 1)) (Int.tmod (wrap64 ((wrap64 ((wrap64 ((Int.tmod (wrap64 (a0)) 12) + 1)) + 1)) - (Int.tmod (wrap64 (a1)) (wrap64 ((wrap64 ((Int.tmod (wrap64 (a0)) 12) + 1)) + 1))))) (wrap64 ((wrap64 ((Int.tmod (wrap64 (a0)) 12) + 1)) + 1)))).bind fun bt233 => (if t230 = 0 then (if bt233.2 = 0 then (if (t229.length : Int) = (bt233.1.length : Int) then ((pritchellaw09_lives.f k).bind fun t237 => (pritchellaw09_MarkMirrored.j0 k l2 t229 bt233.1 (!t237))) else (pritchellaw09_MarkMirrored.j0 k l2 t229 bt233.1 true)) else (pritchellaw09_MarkMirrored.j0 k l2 t229 bt233.1 true)) else (pritchellaw09_MarkMirrored.j0 k l2 t229 bt233.1 true))) = some r := H
  have A5 := Aside0.mk A50
  clear A50
  replace H := Option.bind_eq_some_iff.mp H
  obtain ⟨⟨t233, t234⟩, A60, H⟩ := H
  replace H : (if t230 = 0 then (if t234 = 0 then (if (t229.length : Int) = (t233.length : Int) then ((pritchellaw09_lives.f k).bind fun t237 => (pritchellaw09_MarkMirrored.j0 k l2 t229 t233 (!t237))) else (pritchellaw09_MarkMirrored.j0 k l2 t229 t233 true)) else (pritchellaw09_MarkMirrored.j0 k l2 t229 t233 true)) else (pritchellaw09_MarkMirrored.j0 k l2 t229 t233 true)) = some r := H
  have A6 := Aside0.mk A60
  clear A60
  have HC7 := Aside0.mk H
  clear H
  go_enter Tryd.func6, Tryd.ntmps6
  go_upto_region 5 with (first | (go_at_call 25; (with_reducible refine (mark_Words.calls (wrap64 ((Int.tmod (wrap64 (a0)) 12) + 1)) (Int.tmod (wrap64 (a1)) (wrap64 ((wrap64 ((Int.tmod (wrap64 (a0)) 12) + 1)) + 1))) t229 t230 _ A5.out).mono ?_); rintro e w8 ⟨v231, rfl, ho0, hb⟩; have n0_ := Aside0.mk (Kd.R_lower ho0 (below_size (by repeat (first | (with_reducible first | exact HB.out | apply below_alloc | apply pw_below_drewN | apply below_drew1) | exact HB.out)))); have n1_ := Aside0.mk (below_step (by repeat (first | (with_reducible first | exact HB.out | apply below_alloc | apply pw_below_drewN | apply below_drew1) | exact HB.out)) hb); clear HB; have HO232 := n0_; have HB := n1_; clear n0_ n1_; (try clear hb); (try clear hb2); (try clear hk); (try clear hi); (try clear ho0)) | (go_at_call 25; (with_reducible refine (mark_Words.calls (wrap64 ((Int.tmod (wrap64 (a0)) 12) + 1)) (Int.tmod (wrap64 ((wrap64 ((wrap64 ((Int.tmod (wrap64 (a0)) 12) + 1)) + 1)) - (Int.tmod (wrap64 (a1)) (wrap64 ((wrap64 ((Int.tmod (wrap64 (a0)) 12) + 1)) + 1))))) (wrap64 ((wrap64 ((Int.tmod (wrap64 (a0)) 12) + 1)) + 1))) t233 t234 _ A6.out).mono ?_); rintro e w9 ⟨v235, rfl, ho0, hb⟩; have n0_ := Aside0.mk (Kd.R_elder' (by (with_reducible repeat (first | apply Kd.R_alloc | apply Kd.R_drewN | apply Kd.R_drew)); exact HO232.out) (Kd.R_base ho0) hb); have n1_ := Aside0.mk (Kd.R_lower (Kd.R_new' ho0 (Kd.R_lt (by (with_reducible repeat (first | apply Kd.R_alloc | apply Kd.R_drewN | apply Kd.R_drew)); exact HO232.out))) (below_size (by repeat (first | (with_reducible first | exact HB.out | apply below_alloc | apply pw_below_drewN | apply below_drew1) | exact HB.out)))); have n2_ := Aside0.mk (below_step (by repeat (first | (with_reducible first | exact HB.out | apply below_alloc | apply pw_below_drewN | apply below_drew1) | exact HB.out)) hb); clear HO232; clear HB; have HO232 := n0_; have HO236 := n1_; have HB := n2_; clear n0_ n1_ n2_; (try clear hb); (try clear hb2); (try clear hk); (try clear hi); (try clear ho0)))
  repeat (go_quiet (first | (go_at_call 25; (with_reducible refine (mark_Words.calls (wrap64 ((Int.tmod (wrap64 (a0)) 12) + 1)) (Int.tmod (wrap64 (a1)) (wrap64 ((wrap64 ((Int.tmod (wrap64 (a0)) 12) + 1)) + 1))) t229 t230 _ A5.out).mono ?_); rintro e w8 ⟨v231, rfl, ho0, hb⟩; have n0_ := Aside0.mk (Kd.R_lower ho0 (below_size (by repeat (first | (with_reducible first | exact HB.out | apply below_alloc | apply pw_below_drewN | apply below_drew1) | exact HB.out)))); have n1_ := Aside0.mk (below_step (by repeat (first | (with_reducible first | exact HB.out | apply below_alloc | apply pw_below_drewN | apply below_drew1) | exact HB.out)) hb); clear HB; have HO232 := n0_; have HB := n1_; clear n0_ n1_; (try clear hb); (try clear hb2); (try clear hk); (try clear hi); (try clear ho0)) | (go_at_call 25; (with_reducible refine (mark_Words.calls (wrap64 ((Int.tmod (wrap64 (a0)) 12) + 1)) (Int.tmod (wrap64 ((wrap64 ((wrap64 ((Int.tmod (wrap64 (a0)) 12) + 1)) + 1)) - (Int.tmod (wrap64 (a1)) (wrap64 ((wrap64 ((Int.tmod (wrap64 (a0)) 12) + 1)) + 1))))) (wrap64 ((wrap64 ((Int.tmod (wrap64 (a0)) 12) + 1)) + 1))) t233 t234 _ A6.out).mono ?_); rintro e w9 ⟨v235, rfl, ho0, hb⟩; have n0_ := Aside0.mk (Kd.R_elder' (by (with_reducible repeat (first | apply Kd.R_alloc | apply Kd.R_drewN | apply Kd.R_drew)); exact HO232.out) (Kd.R_base ho0) hb); have n1_ := Aside0.mk (Kd.R_lower (Kd.R_new' ho0 (Kd.R_lt (by (with_reducible repeat (first | apply Kd.R_alloc | apply Kd.R_drewN | apply Kd.R_drew)); exact HO232.out))) (below_size (by repeat (first | (with_reducible first | exact HB.out | apply below_alloc | apply pw_below_drewN | apply below_drew1) | exact HB.out)))); have n2_ := Aside0.mk (below_step (by repeat (first | (with_reducible first | exact HB.out | apply below_alloc | apply pw_below_drewN | apply below_drew1) | exact HB.out)) hb); clear HO232; clear HB; have HO232 := n0_; have HO236 := n1_; have HB := n2_; clear n0_ n1_ n2_; (try clear hb); (try clear hb2); (try clear hk); (try clear hi); (try clear ho0))); go_upto_region 5 with (first | (go_at_call 25; (with_reducible refine (mark_Words.calls (wrap64 ((Int.tmod (wrap64 (a0)) 12) + 1)) (Int.tmod (wrap64 (a1)) (wrap64 ((wrap64 ((Int.tmod (wrap64 (a0)) 12) + 1)) + 1))) t229 t230 _ A5.out).mono ?_); rintro e w8 ⟨v231, rfl, ho0, hb⟩; have n0_ := Aside0.mk (Kd.R_lower ho0 (below_size (by repeat (first | (with_reducible first | exact HB.out | apply below_alloc | apply pw_below_drewN | apply below_drew1) | exact HB.out)))); have n1_ := Aside0.mk (below_step (by repeat (first | (with_reducible first | exact HB.out | apply below_alloc | apply pw_below_drewN | apply below_drew1) | exact HB.out)) hb); clear HB; have HO232 := n0_; have HB := n1_; clear n0_ n1_; (try clear hb); (try clear hb2); (try clear hk); (try clear hi); (try clear ho0)) | (go_at_call 25; (with_reducible refine (mark_Words.calls (wrap64 ((Int.tmod (wrap64 (a0)) 12) + 1)) (Int.tmod (wrap64 ((wrap64 ((wrap64 ((Int.tmod (wrap64 (a0)) 12) + 1)) + 1)) - (Int.tmod (wrap64 (a1)) (wrap64 ((wrap64 ((Int.tmod (wrap64 (a0)) 12) + 1)) + 1))))) (wrap64 ((wrap64 ((Int.tmod (wrap64 (a0)) 12) + 1)) + 1))) t233 t234 _ A6.out).mono ?_); rintro e w9 ⟨v235, rfl, ho0, hb⟩; have n0_ := Aside0.mk (Kd.R_elder' (by (with_reducible repeat (first | apply Kd.R_alloc | apply Kd.R_drewN | apply Kd.R_drew)); exact HO232.out) (Kd.R_base ho0) hb); have n1_ := Aside0.mk (Kd.R_lower (Kd.R_new' ho0 (Kd.R_lt (by (with_reducible repeat (first | apply Kd.R_alloc | apply Kd.R_drewN | apply Kd.R_drew)); exact HO232.out))) (below_size (by repeat (first | (with_reducible first | exact HB.out | apply below_alloc | apply pw_below_drewN | apply below_drew1) | exact HB.out)))); have n2_ := Aside0.mk (below_step (by repeat (first | (with_reducible first | exact HB.out | apply below_alloc | apply pw_below_drewN | apply below_drew1) | exact HB.out)) hb); clear HO232; clear HB; have HO232 := n0_; have HO236 := n1_; have HB := n2_; clear n0_ n1_ n2_; (try clear hb); (try clear hb2); (try clear hk); (try clear hi); (try clear ho0))))
  (try simp only [Act.put, List.setIfInBounds_toArray, List.set_cons_zero, List.set_cons_succ])
  go_cut [70] (fun v70 wc => ∃ (kq : Nat) (x70_6 : Bool), v70 = .bool x70_6 ∧ Aside0 (pritchellaw09_MarkMirrored.j0 kq l2 t229 t233 x70_6 = some r) ∧ Aside0 (kq ≤ k) ∧ Aside0 (Kd.R Kd.string 9 wc w.heap.size (fun k_ => some k_ ≠ (v235 : Value).ownBlock) v231 t229) ∧ Aside0 (Kd.R Kd.string 9 wc w.heap.size (fun k_ => some k_ ≠ (v231 : Value).ownBlock) v235 t233) ∧ Aside0 (Below w.heap.size w wc))
  case first =>
   have H := HC7.out
   clear HC7
   by_cases c10 : t230 = 0
   ·rw [if_pos c10] at H
    have c10b0 : (t230 == 0) = true := beq_iff_eq.mpr c10
    have c10b1 : (t230 != 0) = false := bne_eq_false_iff_eq.mpr c10
    clear c10
    (first | rw [c10b0] | (simp only [i64_w, i32_w]; rw [c10b0]) | skip)
    by_cases c11 : t234 = 0
    ·rw [if_pos c11] at H
     have c11b0 : (t234 == 0) = true := beq_iff_eq.mpr c11
     have c11b1 : (t234 != 0) = false := bne_eq_false_iff_eq.mpr c11
     clear c11
     by_cases c12 : (t229.length : Int) = (t233.length : Int)
     ·rw [if_pos c12] at H
      have c12b0 : ((t229.length : Int) == (t233.length : Int)) = true := beq_iff_eq.mpr c12
      have c12b1 : ((t229.length : Int) != (t233.length : Int)) = false := bne_eq_false_iff_eq.mpr c12
      have c12b2 : (t229.length == t233.length) = true := by first | simpa using c12 | (simp at c12 ⊢; omega)
      clear c12
      replace H := Option.bind_eq_some_iff.mp H
      obtain ⟨t237, A130, H⟩ := H
      replace H : (pritchellaw09_MarkMirrored.j0 k l2 t229 t233 (!t237)) = some r := H
      have A13 := Aside0.mk A130
      clear A130
      have H' := Aside0.mk H
      clear H
      obtain ⟨Ao14, co14, eo14⟩ := Kd.R_slice HO232.out
      subst eo14
      obtain ⟨Ao15, co15, eo15⟩ := Kd.R_slice HO236.out
      subst eo15
      go_wp2_with (first | (go_at_call 19; (with_reducible refine (pritchellaw09_lives.calls k  t237 _ ?side1 A13.out).mono ?_); (case side1 => exact tabs_below HT.out (by repeat (first | (with_reducible first | exact HB.out | apply below_alloc | apply pw_below_drewN | apply below_drew1) | exact HB.out))); rintro e w16 ⟨rfl, hb⟩; have n0_ := Aside0.mk (Kd.R_below (by (with_reducible repeat (first | apply Kd.R_alloc | apply Kd.R_drewN | apply Kd.R_drew)); exact HO232.out) hb); have n1_ := Aside0.mk (Kd.R_below (by (with_reducible repeat (first | apply Kd.R_alloc | apply Kd.R_drewN | apply Kd.R_drew)); exact HO236.out) hb); have n2_ := Aside0.mk (below_step (by repeat (first | (with_reducible first | exact HB.out | apply below_alloc | apply pw_below_drewN | apply below_drew1) | exact HB.out)) hb); clear HO232; clear HO236; clear HB; have HO232 := n0_; have HO236 := n1_; have HB := n2_; clear n0_ n1_ n2_; (try clear hb); (try clear hb2); (try clear hk); (try clear hi)))
      repeat (go_quiet (first | (go_at_call 19; (with_reducible refine (pritchellaw09_lives.calls k  t237 _ ?side1 A13.out).mono ?_); (case side1 => exact tabs_below HT.out (by repeat (first | (with_reducible first | exact HB.out | apply below_alloc | apply pw_below_drewN | apply below_drew1) | exact HB.out))); rintro e w16 ⟨rfl, hb⟩; have n0_ := Aside0.mk (Kd.R_below (by (with_reducible repeat (first | apply Kd.R_alloc | apply Kd.R_drewN | apply Kd.R_drew)); exact HO232.out) hb); have n1_ := Aside0.mk (Kd.R_below (by (with_reducible repeat (first | apply Kd.R_alloc | apply Kd.R_drewN | apply Kd.R_drew)); exact HO236.out) hb); have n2_ := Aside0.mk (below_step (by repeat (first | (with_reducible first | exact HB.out | apply below_alloc | apply pw_below_drewN | apply below_drew1) | exact HB.out)) hb); clear HO232; clear HO236; clear HB; have HO232 := n0_; have HO236 := n1_; have HB := n2_; clear n0_ n1_ n2_; (try clear hb); (try clear hb2); (try clear hk); (try clear hi))); try go_wp2_with (first | (go_at_call 19; (with_reducible refine (pritchellaw09_lives.calls k  t237 _ ?side1 A13.out).mono ?_); (case side1 => exact tabs_below HT.out (by repeat (first | (with_reducible first | exact HB.out | apply below_alloc | apply pw_below_drewN | apply below_drew1) | exact HB.out))); rintro e w16 ⟨rfl, hb⟩; have n0_ := Aside0.mk (Kd.R_below (by (with_reducible repeat (first | apply Kd.R_alloc | apply Kd.R_drewN | apply Kd.R_drew)); exact HO232.out) hb); have n1_ := Aside0.mk (Kd.R_below (by (with_reducible repeat (first | apply Kd.R_alloc | apply Kd.R_drewN | apply Kd.R_drew)); exact HO236.out) hb); have n2_ := Aside0.mk (below_step (by repeat (first | (with_reducible first | exact HB.out | apply below_alloc | apply pw_below_drewN | apply below_drew1) | exact HB.out)) hb); clear HO232; clear HO236; clear HB; have HO232 := n0_; have HO236 := n1_; have HB := n2_; clear n0_ n1_ n2_; (try clear hb); (try clear hb2); (try clear hk); (try clear hi))))
      go_meet
      case rel => exact ⟨_, (!t237), (by first | rfl | (simp; done) | (simp [*]; done)), H', ⟨by first | omega | exact Nat.le_refl _⟩, ⟨by (with_reducible repeat (first | apply Kd.R_alloc | apply Kd.R_drewN | apply Kd.R_drew)); exact Kd.R_mono HO232.out (fun _ hk => hk.2)⟩, ⟨by (with_reducible repeat (first | apply Kd.R_alloc | apply Kd.R_drewN | apply Kd.R_drew)); exact Kd.R_mono HO236.out (fun _ hk => hk.2)⟩, ⟨by repeat (first | (with_reducible first | exact HB.out | apply below_alloc | apply pw_below_drewN | apply below_drew1) | exact HB.out)⟩⟩
     ·rw [if_neg c12] at H
      have c12b0 : ((t229.length : Int) == (t233.length : Int)) = false := beq_eq_false_iff_ne.mpr c12
      have c12b1 : ((t229.length : Int) != (t233.length : Int)) = true := bne_iff_ne.mpr c12
      have c12b2 : (t229.length == t233.length) = false := by first | simpa using c12 | (simp at c12 ⊢; omega)
      have H' := Aside0.mk H
      clear H
      obtain ⟨Ao17, co17, eo17⟩ := Kd.R_slice HO232.out
      subst eo17
      obtain ⟨Ao18, co18, eo18⟩ := Kd.R_slice HO236.out
      subst eo18
      go_wp2
      repeat (go_quiet (fail); try go_wp2)
      go_meet
      case rel => exact ⟨_, (true), (by first | rfl | (simp; done) | (simp [*]; done)), H', ⟨by first | omega | exact Nat.le_refl _⟩, ⟨by (with_reducible repeat (first | apply Kd.R_alloc | apply Kd.R_drewN | apply Kd.R_drew)); exact Kd.R_mono HO232.out (fun _ hk => hk.2)⟩, ⟨by (with_reducible repeat (first | apply Kd.R_alloc | apply Kd.R_drewN | apply Kd.R_drew)); exact Kd.R_mono HO236.out (fun _ hk => hk.2)⟩, ⟨by repeat (first | (with_reducible first | exact HB.out | apply below_alloc | apply pw_below_drewN | apply below_drew1) | exact HB.out)⟩⟩
    ·rw [if_neg c11] at H
     have c11b0 : (t234 == 0) = false := beq_eq_false_iff_ne.mpr c11
     have c11b1 : (t234 != 0) = true := bne_iff_ne.mpr c11
     have H' := Aside0.mk H
     clear H
     go_wp2
     repeat (go_quiet (fail); try go_wp2)
     go_meet
     case rel => exact ⟨_, (true), (by first | rfl | (simp; done) | (simp [*]; done)), H', ⟨by first | omega | exact Nat.le_refl _⟩, ⟨by (with_reducible repeat (first | apply Kd.R_alloc | apply Kd.R_drewN | apply Kd.R_drew)); exact Kd.R_mono HO232.out (fun _ hk => hk.2)⟩, ⟨by (with_reducible repeat (first | apply Kd.R_alloc | apply Kd.R_drewN | apply Kd.R_drew)); exact Kd.R_mono HO236.out (fun _ hk => hk.2)⟩, ⟨by repeat (first | (with_reducible first | exact HB.out | apply below_alloc | apply pw_below_drewN | apply below_drew1) | exact HB.out)⟩⟩
   ·rw [if_neg c10] at H
    have c10b0 : (t230 == 0) = false := beq_eq_false_iff_ne.mpr c10
    have c10b1 : (t230 != 0) = true := bne_iff_ne.mpr c10
    (first | rw [c10b0] | (simp only [i64_w, i32_w]; rw [c10b0]) | skip)
    have H' := Aside0.mk H
    clear H
    go_wp2
    repeat (go_quiet (fail); try go_wp2)
    go_meet
    case rel => exact ⟨_, (true), (by first | rfl | (simp; done) | (simp [*]; done)), H', ⟨by first | omega | exact Nat.le_refl _⟩, ⟨by (with_reducible repeat (first | apply Kd.R_alloc | apply Kd.R_drewN | apply Kd.R_drew)); exact Kd.R_mono HO232.out (fun _ hk => hk.2)⟩, ⟨by (with_reducible repeat (first | apply Kd.R_alloc | apply Kd.R_drewN | apply Kd.R_drew)); exact Kd.R_mono HO236.out (fun _ hk => hk.2)⟩, ⟨by repeat (first | (with_reducible first | exact HB.out | apply below_alloc | apply pw_below_drewN | apply below_drew1) | exact HB.out)⟩⟩
  case rest =>
   clear HC7
   try clear c1
   try clear c2
   try clear p2
   try clear c4
   try clear c4b0
   try clear c4b1
   try clear c6
   try clear p6
   try clear c10
   try clear c10b0
   try clear c10b1
   try clear c11
   try clear c11b0
   try clear c11b1
   try clear c12
   try clear c12b0
   try clear c12b1
   try clear c12b2
   obtain ⟨kq, x70_6, rfl, HA, HJ6, HO_9, HO_11, HB⟩ := hcut
   cases kq with
   | zero => exact absurd HA.out (by simp [pritchellaw09_MarkMirrored.j0])
   | succ kj6 =>
    have H := HA.out
    clear HA
    simp only [pritchellaw09_MarkMirrored.j0] at H
    by_cases c19 : x70_6 = true
    ·subst c19
     have H1 : (some false) = some r := by rw [if_pos rfl] at H; exact H
     clear H
     have H := H1
     clear H1
     obtain rfl := Option.some.inj H
     go_wp2
     repeat (go_quiet (fail); try go_wp2)
     go_ret
     exact ⟨by first | rfl | (simp [errW_none, errW_some] <;> rfl) | (simp [*, errW_none, errW_some] <;> rfl), by repeat (first | (with_reducible first | exact HB.out | apply below_alloc | apply pw_below_drewN | apply below_drew1) | exact HB.out)⟩
    ·replace c19 := Bool.eq_false_iff.mpr c19
     subst c19
     have H1 : (pritchellaw09_MarkMirrored.l0 kj6 l2 t229 t233 (([] : List ByteArray)) 0) = some r := by rw [if_neg (show ¬ (false = true) by decide)] at H; exact H
     clear H
     have H := H1
     clear H1
     obtain ⟨y238, hy238⟩ : ∃ y_ : List ByteArray, y_ = (([] : List ByteArray)) := ⟨_, rfl⟩
     replace H : (pritchellaw09_MarkMirrored.l0 kj6 l2 t229 t233 y238 0) = some r := by first | (rw [hy238]; with_reducible exact H) | (have H2_ := (Option.bind_some _ _).symm.trans H; rw [hy238]; with_reducible exact H2_) | (have H2_ := (Option.bind_some _ _).symm.trans H; with_reducible exact H2_) | with_reducible exact H | (rw [hy238]; exact H) | exact H
     have Ny238 := Aside0.mk hy238
     clear hy238
     have H' := Aside0.mk H
     clear H
     go_wp2_with (first | ((with_reducible refine gate_dst (N := 71) rfl ?_); (try (refine gate_guard (by rfl) ?_; dsimp only)); refine Kd.R_lit Kd.string _ 9 ?hg (N := 71) ?hd (xs := ([] : List ByteArray)) (inner := []) (ok := fun _ => True) (okp := fun _ => True) ?hr ?hp (fun _ hk => hk) trivial (Below.refl _ _) (Nat.le_refl _) (by simp) ?_; (case hd => rfl); (case hg => rfl); (case hr => first | (go_simp; done) | (go_simp; rfl)); (case hp => exact (Reps.none _ _)); intro v239 w20 ho21 hb hg_ hnew_; clear hg_ hnew_; (first | rw [← Ny238.out] at ho21 | (simp only [Int.reduceToNat] at ho21; rw [← Ny238.out] at ho21)); have n0_ := Aside0.mk (Kd.R_elder' (by (with_reducible repeat (first | apply Kd.R_alloc | apply Kd.R_drewN | apply Kd.R_drew)); exact HO_9.out) (Kd.R_base ho21) hb); have n1_ := Aside0.mk (Kd.R_elder' (by (with_reducible repeat (first | apply Kd.R_alloc | apply Kd.R_drewN | apply Kd.R_drew)); exact HO_11.out) (Kd.R_base ho21) hb); have n2_ := Aside0.mk (Kd.R_lower (Kd.R_new' (Kd.R_new' ho21 (Kd.R_lt (by (with_reducible repeat (first | apply Kd.R_alloc | apply Kd.R_drewN | apply Kd.R_drew)); exact HO_9.out))) (Kd.R_lt (by (with_reducible repeat (first | apply Kd.R_alloc | apply Kd.R_drewN | apply Kd.R_drew)); exact HO_11.out))) (below_size (by repeat (first | (with_reducible first | exact HB.out | apply below_alloc | apply pw_below_drewN | apply below_drew1) | exact HB.out)))); have n3_ := Aside0.mk (below_step (by repeat (first | (with_reducible first | exact HB.out | apply below_alloc | apply pw_below_drewN | apply below_drew1) | exact HB.out)) hb); clear HO_9; clear HO_11; clear HB; have HO_9 := n0_; have HO_11 := n1_; have HO240 := n2_; have HB := n3_; clear n0_ n1_ n2_ n3_; clear hb ho21))
     repeat (go_quiet (first | ((with_reducible refine gate_dst (N := 71) rfl ?_); (try (refine gate_guard (by rfl) ?_; dsimp only)); refine Kd.R_lit Kd.string _ 9 ?hg (N := 71) ?hd (xs := ([] : List ByteArray)) (inner := []) (ok := fun _ => True) (okp := fun _ => True) ?hr ?hp (fun _ hk => hk) trivial (Below.refl _ _) (Nat.le_refl _) (by simp) ?_; (case hd => rfl); (case hg => rfl); (case hr => first | (go_simp; done) | (go_simp; rfl)); (case hp => exact (Reps.none _ _)); intro v239 w20 ho21 hb hg_ hnew_; clear hg_ hnew_; (first | rw [← Ny238.out] at ho21 | (simp only [Int.reduceToNat] at ho21; rw [← Ny238.out] at ho21)); have n0_ := Aside0.mk (Kd.R_elder' (by (with_reducible repeat (first | apply Kd.R_alloc | apply Kd.R_drewN | apply Kd.R_drew)); exact HO_9.out) (Kd.R_base ho21) hb); have n1_ := Aside0.mk (Kd.R_elder' (by (with_reducible repeat (first | apply Kd.R_alloc | apply Kd.R_drewN | apply Kd.R_drew)); exact HO_11.out) (Kd.R_base ho21) hb); have n2_ := Aside0.mk (Kd.R_lower (Kd.R_new' (Kd.R_new' ho21 (Kd.R_lt (by (with_reducible repeat (first | apply Kd.R_alloc | apply Kd.R_drewN | apply Kd.R_drew)); exact HO_9.out))) (Kd.R_lt (by (with_reducible repeat (first | apply Kd.R_alloc | apply Kd.R_drewN | apply Kd.R_drew)); exact HO_11.out))) (below_size (by repeat (first | (with_reducible first | exact HB.out | apply below_alloc | apply pw_below_drewN | apply below_drew1) | exact HB.out)))); have n3_ := Aside0.mk (below_step (by repeat (first | (with_reducible first | exact HB.out | apply below_alloc | apply pw_below_drewN | apply below_drew1) | exact HB.out)) hb); clear HO_9; clear HO_11; clear HB; have HO_9 := n0_; have HO_11 := n1_; have HO240 := n2_; have HB := n3_; clear n0_ n1_ n2_ n3_; clear hb ho21)); try go_wp2_with (first | ((with_reducible refine gate_dst (N := 71) rfl ?_); (try (refine gate_guard (by rfl) ?_; dsimp only)); refine Kd.R_lit Kd.string _ 9 ?hg (N := 71) ?hd (xs := ([] : List ByteArray)) (inner := []) (ok := fun _ => True) (okp := fun _ => True) ?hr ?hp (fun _ hk => hk) trivial (Below.refl _ _) (Nat.le_refl _) (by simp) ?_; (case hd => rfl); (case hg => rfl); (case hr => first | (go_simp; done) | (go_simp; rfl)); (case hp => exact (Reps.none _ _)); intro v239 w20 ho21 hb hg_ hnew_; clear hg_ hnew_; (first | rw [← Ny238.out] at ho21 | (simp only [Int.reduceToNat] at ho21; rw [← Ny238.out] at ho21)); have n0_ := Aside0.mk (Kd.R_elder' (by (with_reducible repeat (first | apply Kd.R_alloc | apply Kd.R_drewN | apply Kd.R_drew)); exact HO_9.out) (Kd.R_base ho21) hb); have n1_ := Aside0.mk (Kd.R_elder' (by (with_reducible repeat (first | apply Kd.R_alloc | apply Kd.R_drewN | apply Kd.R_drew)); exact HO_11.out) (Kd.R_base ho21) hb); have n2_ := Aside0.mk (Kd.R_lower (Kd.R_new' (Kd.R_new' ho21 (Kd.R_lt (by (with_reducible repeat (first | apply Kd.R_alloc | apply Kd.R_drewN | apply Kd.R_drew)); exact HO_9.out))) (Kd.R_lt (by (with_reducible repeat (first | apply Kd.R_alloc | apply Kd.R_drewN | apply Kd.R_drew)); exact HO_11.out))) (below_size (by repeat (first | (with_reducible first | exact HB.out | apply below_alloc | apply pw_below_drewN | apply below_drew1) | exact HB.out)))); have n3_ := Aside0.mk (below_step (by repeat (first | (with_reducible first | exact HB.out | apply below_alloc | apply pw_below_drewN | apply below_drew1) | exact HB.out)) hb); clear HO_9; clear HO_11; clear HB; have HO_9 := n0_; have HO_11 := n1_; have HO240 := n2_; have HB := n3_; clear n0_ n1_ n2_ n3_; clear hb ho21)))
     go_loopg [13, 14] kj6 (fun kq v13 v14 w' => ∃ (x13_2 : List ByteArray) (x14_2 : Int), v14 = .int .i64 x14_2 ∧ Aside0 (pritchellaw09_MarkMirrored.l0 kq l2 t229 t233 x13_2 x14_2 = some r) ∧ Aside0 (kq ≤ kj6) ∧ Aside0 (Kd.R Kd.string 9 w' w.heap.size (fun k_ => some k_ ≠ (v235 : Value).ownBlock ∧ some k_ ≠ (v13 : Value).ownBlock) v231 t229) ∧ Aside0 (Kd.R Kd.string 9 w' w.heap.size (fun k_ => some k_ ≠ (v231 : Value).ownBlock ∧ some k_ ≠ (v13 : Value).ownBlock) v235 t233) ∧ Aside0 (Kd.R Kd.string 9 w' w.heap.size (fun k_ => some k_ ≠ (v231 : Value).ownBlock ∧ some k_ ≠ (v235 : Value).ownBlock) v13 x13_2) ∧ Aside0 (Below w.heap.size w w'))
     case atStart => exact ⟨(y238), (0), (by first | rfl | (simp; done) | (simp [*]; done)), H', ⟨Nat.le_refl _⟩, ⟨by (with_reducible repeat (first | apply Kd.R_alloc | apply Kd.R_drewN | apply Kd.R_drew)); exact HO_9.out⟩, ⟨by (with_reducible repeat (first | apply Kd.R_alloc | apply Kd.R_drewN | apply Kd.R_drew)); exact HO_11.out⟩, ⟨by (with_reducible repeat (first | apply Kd.R_alloc | apply Kd.R_drewN | apply Kd.R_drew)); exact Kd.R_mono HO240.out (fun _ hk => ⟨hk.1.2, hk.2⟩)⟩, ⟨by repeat (first | (with_reducible first | exact HB.out | apply below_alloc | apply pw_below_drewN | apply below_drew1) | exact HB.out)⟩⟩
     case round =>
      clear H'
      try clear c1
      try clear c2
      try clear p2
      try clear c4
      try clear c4b0
      try clear c4b1
      try clear c6
      try clear p6
      try clear c10
      try clear c10b0
      try clear c10b1
      try clear c11
      try clear c11b0
      try clear c11b1
      try clear c12
      try clear c12b0
      try clear c12b1
      try clear c12b2
      try clear c19
      try clear p2
      try clear p6
      obtain ⟨x13_2, x14_2, rfl, HA, HK2, HO_9, HO_11, HO_13, HB⟩ := hrel
      cases gk with
      | zero => exact absurd HA.out (by simp [pritchellaw09_MarkMirrored.l0])
      | succ k2 =>
       have H := HA.out
       clear HA
       simp only [pritchellaw09_MarkMirrored.l0] at H
       by_cases c22 : x14_2 < (t229.length : Int)
       ·rw [if_pos c22] at H
        have c22b0 : decide (x14_2 < (t229.length : Int)) = true := decide_eq_true c22
        clear c22
        by_cases c23 : 0 ≤ x14_2
        ·rw [if_pos c23] at H
         have c23b0 : decide (0 ≤ x14_2) = true := decide_eq_true c23
         clear c23
         have H' := Aside0.mk H
         clear H
         obtain ⟨Ao24, co24, eo24⟩ := Kd.R_slice HO_9.out
         subst eo24
         have p241 : 0 ≤ (x14_2 : Int) := of_decide_eq_true (by first | (with_reducible assumption) | assumption)
         have q241 : x14_2 < (t229.length : Int) := of_decide_eq_true (by first | (with_reducible assumption) | assumption)
         obtain ⟨ad241, e241, hx241_0⟩ := Kd.at_string (Kd.R_reads' HO_9.out).2.2 x14_2 p241 q241
         cases e241
         replace p241 := eq_true p241
         replace q241 := eq_true q241
         go_wp2
         repeat (go_quiet (fail); try go_wp2)
         go_loopg [15, 16] k2 (fun kq v15 v16 w' => ∃ (x15_3 : ByteArray) (x16_3 : Int), v15 = .string x15_3 ∧ v16 = .int .i64 x16_3 ∧ Aside0 (pritchellaw09_MarkMirrored.l1 kq l2 t229 t233 x13_2 x14_2 x15_3 x16_3 = some r) ∧ Aside0 (kq ≤ k2) ∧ Aside0 (Kd.R Kd.string 9 w' w.heap.size (fun k_ => some k_ ≠ (v235 : Value).ownBlock ∧ some k_ ≠ (u13 : Value).ownBlock) (.slice (some ad241) t229.length co24) t229) ∧ Aside0 (Kd.R Kd.string 9 w' w.heap.size (fun k_ => some k_ ≠ ((.slice (some ad241) t229.length co24) : Value).ownBlock ∧ some k_ ≠ (u13 : Value).ownBlock) v235 t233) ∧ Aside0 (Kd.R Kd.string 9 w' w.heap.size (fun k_ => some k_ ≠ ((.slice (some ad241) t229.length co24) : Value).ownBlock ∧ some k_ ≠ (v235 : Value).ownBlock) u13 x13_2) ∧ Aside0 (Below w.heap.size w w'))
         case atStart => exact ⟨((⟨#[]⟩ : ByteArray)), (wrap64 (((rdOf ByteArray.empty t229 x14_2).size : Int) - 1)), (by first | rfl | (simp; done) | (simp [*]; done)), (by first | rfl | (simp; done) | (simp [*]; done)), H', ⟨Nat.le_refl _⟩, ⟨by (with_reducible repeat (first | apply Kd.R_alloc | apply Kd.R_drewN | apply Kd.R_drew)); exact HO_9.out⟩, ⟨by (with_reducible repeat (first | apply Kd.R_alloc | apply Kd.R_drewN | apply Kd.R_drew)); exact HO_11.out⟩, ⟨by (with_reducible repeat (first | apply Kd.R_alloc | apply Kd.R_drewN | apply Kd.R_drew)); exact HO_13.out⟩, ⟨by repeat (first | (with_reducible first | exact HB.out | apply below_alloc | apply pw_below_drewN | apply below_drew1) | exact HB.out)⟩⟩
         case round =>
          clear H'
          try clear c1
          try clear c2
          try clear p2
          try clear q2
          try clear hx2
          try clear c4
          try clear c4b0
          try clear c4b1
          try clear c6
          try clear p6
          try clear c10
          try clear c10b0
          try clear c10b1
          try clear c11
          try clear c11b0
          try clear c11b1
          try clear c12
          try clear c12b0
          try clear c12b1
          try clear c12b2
          try clear c19
          try clear c22
          try clear c22b0
          try clear c23
          try clear c23b0
          try clear p24
          try clear q24
          try clear hx24
          try clear hx241_0
          try clear p2
          try clear p241
          try clear p6
          try clear q241
          obtain ⟨x15_3, x16_3, rfl, rfl, HA, HK3, HO_9, HO_11, HO_13, HB⟩ := hrel
          cases gk with
          | zero => exact absurd HA.out (by simp [pritchellaw09_MarkMirrored.l1])
          | succ k3 =>
           have H := HA.out
           clear HA
           simp only [pritchellaw09_MarkMirrored.l1] at H
           by_cases c25 : x16_3 ≥ 0
           ·rw [if_pos c25] at H
            have c25b0 : decide (0 ≤ x16_3) = true := decide_eq_true c25
            clear c25
            by_cases c26 : 0 ≤ x14_2
            ·rw [if_pos c26] at H
             have c26b0 : decide (0 ≤ x14_2) = true := decide_eq_true c26
             clear c26
             by_cases c27 : x14_2 < (t229.length : Int)
             ·rw [if_pos c27] at H
              have c27b0 : decide (x14_2 < (t229.length : Int)) = true := decide_eq_true c27
              clear c27
              by_cases c28 : 0 ≤ x16_3
              ·rw [if_pos c28] at H
               have c28b0 := eq_true c28
               have c28b1 : decide (0 ≤ x16_3) = true := decide_eq_true c28
               clear c28
               by_cases c29 : x16_3 ≤ (wrap64 (x16_3 + 1))
               ·rw [if_pos c29] at H
                have c29b0 := eq_true c29
                have c29b1 : decide (x16_3 ≤ (wrap64 (x16_3 + 1))) = true := decide_eq_true c29
                by_cases c30 : (wrap64 (x16_3 + 1)) ≤ ((rdOf ByteArray.empty t229 x14_2).size : Int)
                ·rw [if_pos c30] at H
                 have c30b0 := eq_true c30
                 have c30b1 : decide ((wrap64 (x16_3 + 1)) ≤ ((rdOf ByteArray.empty t229 x14_2).size : Int)) = true := decide_eq_true c30
                 by_cases c31 : x15_3.size + ((rdOf ByteArray.empty t229 x14_2).extract (x16_3 : Int).toNat ((wrap64 (x16_3 + 1)) : Int).toNat).size ≤ 9223372036854775807
                 ·rw [if_pos c31] at H
                  have c31b0 := eq_true c31
                  have c31b1 : decide (x15_3.size + ((rdOf ByteArray.empty t229 x14_2).extract (x16_3 : Int).toNat ((wrap64 (x16_3 + 1)) : Int).toNat).size ≤ 9223372036854775807) = true := decide_eq_true c31
                  try have c31b2 : (9223372036854775807 < x15_3.size + ((rdOf ByteArray.empty t229 x14_2).extract (x16_3 : Int).toNat ((wrap64 (x16_3 + 1)) : Int).toNat).size) = False := eq_false (Nat.not_lt.2 c31)
                  have H' := Aside0.mk H
                  clear H
                  have p242 : 0 ≤ (x14_2 : Int) := of_decide_eq_true (by first | (with_reducible assumption) | assumption)
                  have q242 : x14_2 < (t229.length : Int) := of_decide_eq_true (by first | (with_reducible assumption) | assumption)
                  obtain ⟨ad242, e242, hx242_0⟩ := Kd.at_string (Kd.R_reads' HO_9.out).2.2 x14_2 p242 q242
                  obtain rfl : ad241 = ad242 := (by injection e242)
                  replace p242 := eq_true p242
                  replace q242 := eq_true q242
                  go_wp2
                  repeat (go_quiet (fail); try go_wp2)
                  go_roundg k3
                  case measure => have := HJ6.out; have := HK2.out; have := HK3.out; omega
                  case rel => exact ⟨(x15_3 ++ ((rdOf ByteArray.empty t229 x14_2).extract (x16_3 : Int).toNat ((wrap64 (x16_3 + 1)) : Int).toNat)), (wrap64 (x16_3 - 1)), (by first | rfl | (simp; done) | (simp [*]; done)), (by first | rfl | (simp; done) | (simp [*]; done)), H', ⟨by have := HJ6.out; have := HK2.out; have := HK3.out; omega⟩, ⟨by (with_reducible repeat (first | apply Kd.R_alloc | apply Kd.R_drewN | apply Kd.R_drew)); exact HO_9.out⟩, ⟨by (with_reducible repeat (first | apply Kd.R_alloc | apply Kd.R_drewN | apply Kd.R_drew)); exact HO_11.out⟩, ⟨by (with_reducible repeat (first | apply Kd.R_alloc | apply Kd.R_drewN | apply Kd.R_drew)); exact HO_13.out⟩, ⟨by repeat (first | (with_reducible first | exact HB.out | apply below_alloc | apply pw_below_drewN | apply below_drew1) | exact HB.out)⟩⟩
                 ·rw [if_neg c31] at H
                  exact absurd H (by simp)
                ·rw [if_neg c30] at H
                 exact absurd H (by simp)
               ·rw [if_neg c29] at H
                exact absurd H (by simp)
              ·rw [if_neg c28] at H
               exact absurd H (by simp)
             ·rw [if_neg c27] at H
              exact absurd H (by simp)
            ·rw [if_neg c26] at H
             exact absurd H (by simp)
           ·rw [if_neg c25] at H
            have c25b0 : decide (0 ≤ x16_3) = false := decide_eq_false c25
            clear c25
            by_cases c32 : x13_2.length < 8796093022208
            ·rw [if_pos c32] at H
             have LMc32 := Aside0.mk c32
             clear c32
             obtain ⟨y243, hy243⟩ : ∃ y_ : List ByteArray, y_ = (x13_2 ++ [x15_3]) := ⟨_, rfl⟩
             replace H : (pritchellaw09_MarkMirrored.l0 k3 l2 t229 t233 y243 (wrap64 (x14_2 + 1))) = some r := by first | (rw [hy243]; with_reducible exact H) | (have H2_ := (Option.bind_some _ _).symm.trans H; rw [hy243]; with_reducible exact H2_) | (have H2_ := (Option.bind_some _ _).symm.trans H; with_reducible exact H2_) | with_reducible exact H | (rw [hy243]; exact H) | exact H
             have Ny243 := Aside0.mk hy243
             clear hy243
             have H' := Aside0.mk H
             clear H
             go_wp2_with (first | ((with_reducible refine gate_builtin (b := .append) (xs := #[.tmp 98, .tmp 100]) rfl ?_); (try (refine gate_guard (by rfl) ?_; dsimp only)); at_builtin; refine Kd.R_append Kd.string (w0 := w) w.heap.size rfl (.tmp 98) (.tmp 100) 40 9 (.string ⟨#[]⟩) 16 rfl Tryd.underlying40 info9 rfl (by decide) (by omega) u13 x13_2 x15_3 [.string x15_3] (fun k_ => some k_ ≠ (.slice (some ad241) t229.length co24 : Value).ownBlock ∧ some k_ ≠ (v235 : Value).ownBlock) (fun _ => False) rfl rfl ?aP (fun _ hk => hk.elim) ?aF ?aO ?aB ?aS ?aL ?_; (case aP => exact rfl); (case aB => exact (by repeat (first | (with_reducible first | exact HB.out | apply below_alloc | apply pw_below_drewN | apply below_drew1) | exact HB.out))); (case aF => exact (fun k_ hk => ⟨Kd.fresh' (Kd.R_lt (by (with_reducible repeat (first | apply Kd.R_alloc | apply Kd.R_drewN | apply Kd.R_drew)); exact HO_9.out)) k_ hk, Kd.fresh' (Kd.R_lt (by (with_reducible repeat (first | apply Kd.R_alloc | apply Kd.R_drewN | apply Kd.R_drew)); exact HO_11.out)) k_ hk⟩)); (case aO => exact (by (with_reducible repeat (first | apply Kd.R_alloc | apply Kd.R_drewN | apply Kd.R_drew)); exact HO_13.out)); (case aS => exact (below_size (by repeat (first | (with_reducible first | exact HB.out | apply below_alloc | apply pw_below_drewN | apply below_drew1) | exact HB.out)))); (case aL => have := LMc32.out; omega); intro v244 w33 ho hb hg hat; rw [← Ny243.out] at ho; have n0_ := Aside0.mk (Kd.R_after (ok := (fun k_ => some k_ ≠ (v235 : Value).ownBlock)) (by (with_reducible repeat (first | apply Kd.R_alloc | apply Kd.R_drewN | apply Kd.R_drew)); exact HO_9.out) hg hat); have n1_ := Aside0.mk (Kd.R_after (ok := (fun k_ => some k_ ≠ (.slice (some ad241) t229.length co24 : Value).ownBlock)) (by (with_reducible repeat (first | apply Kd.R_alloc | apply Kd.R_drewN | apply Kd.R_drew)); exact HO_11.out) hg hat); have n2_ := Aside0.mk (hb); have n3_ := Aside0.mk (ho); clear HO_9; clear HO_11; clear HB; clear HO_13; have HO_9 := n0_; have HO_11 := n1_; have HB := n2_; have HO245 := n3_; clear n0_ n1_ n2_ n3_; clear ho hb hg hat))
             repeat (go_quiet (first | ((with_reducible refine gate_builtin (b := .append) (xs := #[.tmp 98, .tmp 100]) rfl ?_); (try (refine gate_guard (by rfl) ?_; dsimp only)); at_builtin; refine Kd.R_append Kd.string (w0 := w) w.heap.size rfl (.tmp 98) (.tmp 100) 40 9 (.string ⟨#[]⟩) 16 rfl Tryd.underlying40 info9 rfl (by decide) (by omega) u13 x13_2 x15_3 [.string x15_3] (fun k_ => some k_ ≠ (.slice (some ad241) t229.length co24 : Value).ownBlock ∧ some k_ ≠ (v235 : Value).ownBlock) (fun _ => False) rfl rfl ?aP (fun _ hk => hk.elim) ?aF ?aO ?aB ?aS ?aL ?_; (case aP => exact rfl); (case aB => exact (by repeat (first | (with_reducible first | exact HB.out | apply below_alloc | apply pw_below_drewN | apply below_drew1) | exact HB.out))); (case aF => exact (fun k_ hk => ⟨Kd.fresh' (Kd.R_lt (by (with_reducible repeat (first | apply Kd.R_alloc | apply Kd.R_drewN | apply Kd.R_drew)); exact HO_9.out)) k_ hk, Kd.fresh' (Kd.R_lt (by (with_reducible repeat (first | apply Kd.R_alloc | apply Kd.R_drewN | apply Kd.R_drew)); exact HO_11.out)) k_ hk⟩)); (case aO => exact (by (with_reducible repeat (first | apply Kd.R_alloc | apply Kd.R_drewN | apply Kd.R_drew)); exact HO_13.out)); (case aS => exact (below_size (by repeat (first | (with_reducible first | exact HB.out | apply below_alloc | apply pw_below_drewN | apply below_drew1) | exact HB.out)))); (case aL => have := LMc32.out; omega); intro v244 w33 ho hb hg hat; rw [← Ny243.out] at ho; have n0_ := Aside0.mk (Kd.R_after (ok := (fun k_ => some k_ ≠ (v235 : Value).ownBlock)) (by (with_reducible repeat (first | apply Kd.R_alloc | apply Kd.R_drewN | apply Kd.R_drew)); exact HO_9.out) hg hat); have n1_ := Aside0.mk (Kd.R_after (ok := (fun k_ => some k_ ≠ (.slice (some ad241) t229.length co24 : Value).ownBlock)) (by (with_reducible repeat (first | apply Kd.R_alloc | apply Kd.R_drewN | apply Kd.R_drew)); exact HO_11.out) hg hat); have n2_ := Aside0.mk (hb); have n3_ := Aside0.mk (ho); clear HO_9; clear HO_11; clear HB; clear HO_13; have HO_9 := n0_; have HO_11 := n1_; have HB := n2_; have HO245 := n3_; clear n0_ n1_ n2_ n3_; clear ho hb hg hat)); try go_wp2_with (first | ((with_reducible refine gate_builtin (b := .append) (xs := #[.tmp 98, .tmp 100]) rfl ?_); (try (refine gate_guard (by rfl) ?_; dsimp only)); at_builtin; refine Kd.R_append Kd.string (w0 := w) w.heap.size rfl (.tmp 98) (.tmp 100) 40 9 (.string ⟨#[]⟩) 16 rfl Tryd.underlying40 info9 rfl (by decide) (by omega) u13 x13_2 x15_3 [.string x15_3] (fun k_ => some k_ ≠ (.slice (some ad241) t229.length co24 : Value).ownBlock ∧ some k_ ≠ (v235 : Value).ownBlock) (fun _ => False) rfl rfl ?aP (fun _ hk => hk.elim) ?aF ?aO ?aB ?aS ?aL ?_; (case aP => exact rfl); (case aB => exact (by repeat (first | (with_reducible first | exact HB.out | apply below_alloc | apply pw_below_drewN | apply below_drew1) | exact HB.out))); (case aF => exact (fun k_ hk => ⟨Kd.fresh' (Kd.R_lt (by (with_reducible repeat (first | apply Kd.R_alloc | apply Kd.R_drewN | apply Kd.R_drew)); exact HO_9.out)) k_ hk, Kd.fresh' (Kd.R_lt (by (with_reducible repeat (first | apply Kd.R_alloc | apply Kd.R_drewN | apply Kd.R_drew)); exact HO_11.out)) k_ hk⟩)); (case aO => exact (by (with_reducible repeat (first | apply Kd.R_alloc | apply Kd.R_drewN | apply Kd.R_drew)); exact HO_13.out)); (case aS => exact (below_size (by repeat (first | (with_reducible first | exact HB.out | apply below_alloc | apply pw_below_drewN | apply below_drew1) | exact HB.out)))); (case aL => have := LMc32.out; omega); intro v244 w33 ho hb hg hat; rw [← Ny243.out] at ho; have n0_ := Aside0.mk (Kd.R_after (ok := (fun k_ => some k_ ≠ (v235 : Value).ownBlock)) (by (with_reducible repeat (first | apply Kd.R_alloc | apply Kd.R_drewN | apply Kd.R_drew)); exact HO_9.out) hg hat); have n1_ := Aside0.mk (Kd.R_after (ok := (fun k_ => some k_ ≠ (.slice (some ad241) t229.length co24 : Value).ownBlock)) (by (with_reducible repeat (first | apply Kd.R_alloc | apply Kd.R_drewN | apply Kd.R_drew)); exact HO_11.out) hg hat); have n2_ := Aside0.mk (hb); have n3_ := Aside0.mk (ho); clear HO_9; clear HO_11; clear HB; clear HO_13; have HO_9 := n0_; have HO_11 := n1_; have HB := n2_; have HO245 := n3_; clear n0_ n1_ n2_ n3_; clear ho hb hg hat)))
             go_roundg k3
             case measure => have := HJ6.out; have := HK2.out; have := HK3.out; omega
             case rel => exact ⟨(y243), (wrap64 (x14_2 + 1)), (by first | rfl | (simp; done) | (simp [*]; done)), H', ⟨by have := HJ6.out; have := HK2.out; have := HK3.out; omega⟩, ⟨by (with_reducible repeat (first | apply Kd.R_alloc | apply Kd.R_drewN | apply Kd.R_drew)); exact HO_9.out⟩, ⟨by (with_reducible repeat (first | apply Kd.R_alloc | apply Kd.R_drewN | apply Kd.R_drew)); exact HO_11.out⟩, ⟨by (with_reducible repeat (first | apply Kd.R_alloc | apply Kd.R_drewN | apply Kd.R_drew)); exact HO245.out⟩, ⟨by repeat (first | (with_reducible first | exact HB.out | apply below_alloc | apply pw_below_drewN | apply below_drew1) | exact HB.out)⟩⟩
            ·rw [if_neg c32] at H
             exact absurd H (by simp)
        ·rw [if_neg c23] at H
         exact absurd H (by simp)
       ·rw [if_neg c22] at H
        have c22b0 : decide (x14_2 < (t229.length : Int)) = false := decide_eq_false c22
        clear c22
        have H' := Aside0.mk H
        clear H
        obtain ⟨Ao34, co34, eo34⟩ := Kd.R_slice HO_9.out
        subst eo34
        go_wp2
        repeat (go_quiet (fail); try go_wp2)
        go_loopg [17] k2 (fun kq v17 w' => ∃ (x17_3 : Int), v17 = .int .i64 x17_3 ∧ Aside0 (pritchellaw09_MarkMirrored.l2 kq l2 t233 x13_2 x17_3 = some r) ∧ Aside0 (kq ≤ k2) ∧ Aside0 (Kd.R Kd.string 9 w' w.heap.size (fun k_ => some k_ ≠ (u13 : Value).ownBlock) v235 t233) ∧ Aside0 (Kd.R Kd.string 9 w' w.heap.size (fun k_ => some k_ ≠ (v235 : Value).ownBlock) u13 x13_2) ∧ Aside0 (Below w.heap.size w w'))
        case atStart => exact ⟨(0), (by first | rfl | (simp; done) | (simp [*]; done)), H', ⟨Nat.le_refl _⟩, ⟨by (with_reducible repeat (first | apply Kd.R_alloc | apply Kd.R_drewN | apply Kd.R_drew)); exact Kd.R_mono HO_11.out (fun _ hk => hk.2)⟩, ⟨by (with_reducible repeat (first | apply Kd.R_alloc | apply Kd.R_drewN | apply Kd.R_drew)); exact Kd.R_mono HO_13.out (fun _ hk => hk.2)⟩, ⟨by repeat (first | (with_reducible first | exact HB.out | apply below_alloc | apply pw_below_drewN | apply below_drew1) | exact HB.out)⟩⟩
        case round =>
         clear H'
         try clear c1
         try clear c2
         try clear p2
         try clear q2
         try clear hx2
         try clear c3
         try clear c4
         try clear c4b0
         try clear c4b1
         try clear c6
         try clear p6
         try clear c10
         try clear c10b0
         try clear c10b1
         try clear c11
         try clear c11b0
         try clear c11b1
         try clear c12
         try clear c12b0
         try clear c12b1
         try clear c12b2
         try clear c19
         try clear c22
         try clear c22b0
         try clear c23
         try clear c23b0
         try clear p24
         try clear q24
         try clear hx24
         try clear c25
         try clear c25b0
         try clear c26
         try clear c26b0
         try clear c27
         try clear c27b0
         try clear c28
         try clear c28b0
         try clear c28b1
         try clear c29
         try clear c29b0
         try clear c29b1
         try clear c30
         try clear c30b0
         try clear c30b1
         try clear c31
         try clear c31b0
         try clear c31b1
         try clear c31b2
         try clear c32
         try clear hx241_0
         try clear hx242_0
         try clear p2
         try clear p24
         try clear p241
         try clear p242
         try clear p6
         try clear q2
         try clear q24
         try clear q241
         try clear q242
         obtain ⟨x17_3, rfl, HA, HK3, HO_11, HO_13, HB⟩ := hrel
         cases gk with
         | zero => exact absurd HA.out (by simp [pritchellaw09_MarkMirrored.l2])
         | succ k3 =>
          have H := HA.out
          clear HA
          simp only [pritchellaw09_MarkMirrored.l2] at H
          by_cases c35 : x17_3 < (x13_2.length : Int)
          ·rw [if_pos c35] at H
           have c35b0 : decide (x17_3 < (x13_2.length : Int)) = true := decide_eq_true c35
           clear c35
           have H' := Aside0.mk H
           clear H
           obtain ⟨Ao36, co36, eo36⟩ := Kd.R_slice HO_13.out
           subst eo36
           go_wp2
           repeat (go_quiet (fail); try go_wp2)
           go_loopg [18, 19] k3 (fun kq v18 v19 w' => ∃ (x18_4 : Bool) (x19_4 : Int), v18 = .bool x18_4 ∧ v19 = .int .i64 x19_4 ∧ Aside0 (pritchellaw09_MarkMirrored.l3 kq l2 t233 x13_2 x17_3 x18_4 x19_4 = some r) ∧ Aside0 (kq ≤ k3) ∧ Aside0 (Kd.R Kd.string 9 w' w.heap.size (fun k_ => some k_ ≠ ((.slice Ao36 x13_2.length co36) : Value).ownBlock) v235 t233) ∧ Aside0 (Kd.R Kd.string 9 w' w.heap.size (fun k_ => some k_ ≠ (v235 : Value).ownBlock) (.slice Ao36 x13_2.length co36) x13_2) ∧ Aside0 (Below w.heap.size w w'))
           case atStart => exact ⟨(false), (0), (by first | rfl | (simp; done) | (simp [*]; done)), (by first | rfl | (simp; done) | (simp [*]; done)), H', ⟨Nat.le_refl _⟩, ⟨by (with_reducible repeat (first | apply Kd.R_alloc | apply Kd.R_drewN | apply Kd.R_drew)); exact HO_11.out⟩, ⟨by (with_reducible repeat (first | apply Kd.R_alloc | apply Kd.R_drewN | apply Kd.R_drew)); exact HO_13.out⟩, ⟨by repeat (first | (with_reducible first | exact HB.out | apply below_alloc | apply pw_below_drewN | apply below_drew1) | exact HB.out)⟩⟩
           case round =>
            clear H'
            try clear c1
            try clear c2
            try clear p2
            try clear q2
            try clear hx2
            try clear c3
            try clear c4
            try clear c4b0
            try clear c4b1
            try clear c6
            try clear p6
            try clear c10
            try clear c10b0
            try clear c10b1
            try clear c11
            try clear c11b0
            try clear c11b1
            try clear c12
            try clear c12b0
            try clear c12b1
            try clear c12b2
            try clear c19
            try clear c22
            try clear c22b0
            try clear c23
            try clear c23b0
            try clear p24
            try clear q24
            try clear hx24
            try clear c25
            try clear c25b0
            try clear c26
            try clear c26b0
            try clear c27
            try clear c27b0
            try clear c28
            try clear c28b0
            try clear c28b1
            try clear c29
            try clear c29b0
            try clear c29b1
            try clear c30
            try clear c30b0
            try clear c30b1
            try clear c31
            try clear c31b0
            try clear c31b1
            try clear c31b2
            try clear c32
            try clear c35
            try clear c35b0
            try clear hx241_0
            try clear hx242_0
            try clear p2
            try clear p24
            try clear p241
            try clear p242
            try clear p6
            try clear q2
            try clear q24
            try clear q241
            try clear q242
            obtain ⟨x18_4, x19_4, rfl, rfl, HA, HK4, HO_11, HO_13, HB⟩ := hrel
            cases gk with
            | zero => exact absurd HA.out (by simp [pritchellaw09_MarkMirrored.l3])
            | succ k4 =>
             have H := HA.out
             clear HA
             simp only [pritchellaw09_MarkMirrored.l3] at H
             by_cases c37 : x19_4 < (t233.length : Int)
             ·rw [if_pos c37] at H
              have c37b0 : decide (x19_4 < (t233.length : Int)) = true := decide_eq_true c37
              clear c37
              by_cases c38 : x18_4 = true
              ·subst c38
               have H1 : (pritchellaw09_MarkMirrored.l3 k4 l2 t233 x13_2 x17_3 true (wrap64 (x19_4 + 1))) = some r := by rw [if_pos rfl] at H; exact H
               clear H
               have H := H1
               clear H1
               have H' := Aside0.mk H
               clear H
               obtain ⟨Ao39, co39, eo39⟩ := Kd.R_slice HO_11.out
               subst eo39
               go_wp2
               repeat (go_quiet (fail); try go_wp2)
               go_roundg k4
               case measure => have := HJ6.out; have := HK2.out; have := HK3.out; have := HK4.out; omega
               case rel => exact ⟨(true), (wrap64 (x19_4 + 1)), (by first | rfl | (simp; done) | (simp [*]; done)), (by first | rfl | (simp; done) | (simp [*]; done)), H', ⟨by have := HJ6.out; have := HK2.out; have := HK3.out; have := HK4.out; omega⟩, ⟨by (with_reducible repeat (first | apply Kd.R_alloc | apply Kd.R_drewN | apply Kd.R_drew)); exact HO_11.out⟩, ⟨by (with_reducible repeat (first | apply Kd.R_alloc | apply Kd.R_drewN | apply Kd.R_drew)); exact HO_13.out⟩, ⟨by repeat (first | (with_reducible first | exact HB.out | apply below_alloc | apply pw_below_drewN | apply below_drew1) | exact HB.out)⟩⟩
              ·replace c38 := Bool.eq_false_iff.mpr c38
               subst c38
               have H1 : (if 0 ≤ x19_4 then (if 0 ≤ x17_3 then (if x17_3 < (x13_2.length : Int) then (pritchellaw09_MarkMirrored.l3 k4 l2 t233 x13_2 x17_3 ((rdOf ByteArray.empty t233 x19_4).toList == (rdOf ByteArray.empty x13_2 x17_3).toList) (wrap64 (x19_4 + 1))) else (none)) else (none)) else (none)) = some r := by rw [if_neg (show ¬ (false = true) by decide)] at H; exact H
               clear H
               have H := H1
               clear H1
               by_cases c40 : 0 ≤ x19_4
               ·rw [if_pos c40] at H
                have c40b0 : decide (0 ≤ x19_4) = true := decide_eq_true c40
                clear c40
                by_cases c41 : 0 ≤ x17_3
                ·rw [if_pos c41] at H
                 have c41b0 : decide (0 ≤ x17_3) = true := decide_eq_true c41
                 clear c41
                 by_cases c42 : x17_3 < (x13_2.length : Int)
                 ·rw [if_pos c42] at H
                  have c42b0 : decide (x17_3 < (x13_2.length : Int)) = true := decide_eq_true c42
                  clear c42
                  have H' := Aside0.mk H
                  clear H
                  obtain ⟨Ao43, co43, eo43⟩ := Kd.R_slice HO_11.out
                  subst eo43
                  have p246 : 0 ≤ (x19_4 : Int) := of_decide_eq_true (by first | (with_reducible assumption) | assumption)
                  have q246 : x19_4 < (t233.length : Int) := of_decide_eq_true (by first | (with_reducible assumption) | assumption)
                  obtain ⟨ad246, e246, hx246_0⟩ := Kd.at_string (Kd.R_reads' HO_11.out).2.2 x19_4 p246 q246
                  cases e246
                  replace p246 := eq_true p246
                  replace q246 := eq_true q246
                  have p247 : 0 ≤ (x17_3 : Int) := of_decide_eq_true (by first | (with_reducible assumption) | assumption)
                  have q247 : x17_3 < (x13_2.length : Int) := of_decide_eq_true (by first | (with_reducible assumption) | assumption)
                  obtain ⟨ad247, e247, hx247_0⟩ := Kd.at_string (Kd.R_reads' HO_13.out).2.2 x17_3 p247 q247
                  cases e247
                  replace p247 := eq_true p247
                  replace q247 := eq_true q247
                  go_wp2
                  repeat (go_quiet (fail); try go_wp2)
                  go_roundg k4
                  case measure => have := HJ6.out; have := HK2.out; have := HK3.out; have := HK4.out; omega
                  case rel => exact ⟨(((rdOf ByteArray.empty t233 x19_4).toList == (rdOf ByteArray.empty x13_2 x17_3).toList)), (wrap64 (x19_4 + 1)), (by first | rfl | (simp; done) | (simp [*]; done)), (by first | rfl | (simp; done) | (simp [*]; done)), H', ⟨by have := HJ6.out; have := HK2.out; have := HK3.out; have := HK4.out; omega⟩, ⟨by (with_reducible repeat (first | apply Kd.R_alloc | apply Kd.R_drewN | apply Kd.R_drew)); exact HO_11.out⟩, ⟨by (with_reducible repeat (first | apply Kd.R_alloc | apply Kd.R_drewN | apply Kd.R_drew)); exact HO_13.out⟩, ⟨by repeat (first | (with_reducible first | exact HB.out | apply below_alloc | apply pw_below_drewN | apply below_drew1) | exact HB.out)⟩⟩
                 ·rw [if_neg c42] at H
                  exact absurd H (by simp)
                ·rw [if_neg c41] at H
                 exact absurd H (by simp)
               ·rw [if_neg c40] at H
                exact absurd H (by simp)
             ·rw [if_neg c37] at H
              have c37b0 : decide (x19_4 < (t233.length : Int)) = false := decide_eq_false c37
              clear c37
              by_cases c44 : x18_4 = true
              ·subst c44
               have H1 : (pritchellaw09_MarkMirrored.l2 k4 l2 t233 x13_2 (wrap64 (x17_3 + 1))) = some r := by rw [if_pos rfl] at H; exact H
               clear H
               have H := H1
               clear H1
               have H' := Aside0.mk H
               clear H
               obtain ⟨Ao45, co45, eo45⟩ := Kd.R_slice HO_11.out
               subst eo45
               go_wp2
               repeat (go_quiet (fail); try go_wp2)
               go_roundg k4
               case measure => have := HJ6.out; have := HK2.out; have := HK3.out; have := HK4.out; omega
               case rel => exact ⟨(wrap64 (x17_3 + 1)), (by first | rfl | (simp; done) | (simp [*]; done)), H', ⟨by have := HJ6.out; have := HK2.out; have := HK3.out; have := HK4.out; omega⟩, ⟨by (with_reducible repeat (first | apply Kd.R_alloc | apply Kd.R_drewN | apply Kd.R_drew)); exact HO_11.out⟩, ⟨by (with_reducible repeat (first | apply Kd.R_alloc | apply Kd.R_drewN | apply Kd.R_drew)); exact HO_13.out⟩, ⟨by repeat (first | (with_reducible first | exact HB.out | apply below_alloc | apply pw_below_drewN | apply below_drew1) | exact HB.out)⟩⟩
              ·replace c44 := Bool.eq_false_iff.mpr c44
               subst c44
               have H1 : (some false) = some r := by rw [if_neg (show ¬ (false = true) by decide)] at H; exact H
               clear H
               have H := H1
               clear H1
               obtain rfl := Option.some.inj H
               obtain ⟨Ao46, co46, eo46⟩ := Kd.R_slice HO_11.out
               subst eo46
               go_wp2
               repeat (go_quiet (fail); try go_wp2)
               go_ret
               exact ⟨by first | rfl | (simp [errW_none, errW_some] <;> rfl) | (simp [*, errW_none, errW_some] <;> rfl), by repeat (first | (with_reducible first | exact HB.out | apply below_alloc | apply pw_below_drewN | apply below_drew1) | exact HB.out)⟩
          ·rw [if_neg c35] at H
           have c35b0 : decide (x17_3 < (x13_2.length : Int)) = false := decide_eq_false c35
           clear c35
           replace H := Option.bind_eq_some_iff.mp H
           obtain ⟨t248, A470, H⟩ := H
           replace H : (pritchellaw09_MarkMirrored.l4 k3 t248 (⟨#[]⟩ : ByteArray) 0) = some r := H
           have A47 := Aside0.mk A470
           clear A470
           have H' := Aside0.mk H
           clear H
           obtain ⟨Ao48, co48, eo48⟩ := Kd.R_slice HO_13.out
           subst eo48
           go_wp2_with (first | (go_at_call 20; (with_reducible refine (Pa.pritchellaw09_word.calls k3 _ _ l2 2 20 t248 _ ?side1 ?side2 A47.out).mono ?_); (case side1 => repeat (first | exact (Kd.C_below HR2.out HB.out) | (with_reducible refine Kd.C_alloc ?_ _) | (with_reducible refine Kd.C_drewN ?_ _) | (with_reducible refine Kd.C_drew ?_))); (case side2 => exact HC2.out); rintro e w' ⟨rfl, ⟨nd, rfl⟩⟩; (try first | exact ⟨rfl, _, World.drewN_drewN _ _ _⟩ | exact ⟨rfl, _, Eq.trans (World.drewN_drewN _ _ _) (congrArg (World.drewN _) (Nat.add_assoc _ _ _))⟩)))
           repeat (go_quiet (first | (go_at_call 20; (with_reducible refine (Pa.pritchellaw09_word.calls k3 _ _ l2 2 20 t248 _ ?side1 ?side2 A47.out).mono ?_); (case side1 => repeat (first | exact (Kd.C_below HR2.out HB.out) | (with_reducible refine Kd.C_alloc ?_ _) | (with_reducible refine Kd.C_drewN ?_ _) | (with_reducible refine Kd.C_drew ?_))); (case side2 => exact HC2.out); rintro e w' ⟨rfl, ⟨nd, rfl⟩⟩; (try first | exact ⟨rfl, _, World.drewN_drewN _ _ _⟩ | exact ⟨rfl, _, Eq.trans (World.drewN_drewN _ _ _) (congrArg (World.drewN _) (Nat.add_assoc _ _ _))⟩))); try go_wp2_with (first | (go_at_call 20; (with_reducible refine (Pa.pritchellaw09_word.calls k3 _ _ l2 2 20 t248 _ ?side1 ?side2 A47.out).mono ?_); (case side1 => repeat (first | exact (Kd.C_below HR2.out HB.out) | (with_reducible refine Kd.C_alloc ?_ _) | (with_reducible refine Kd.C_drewN ?_ _) | (with_reducible refine Kd.C_drew ?_))); (case side2 => exact HC2.out); rintro e w' ⟨rfl, ⟨nd, rfl⟩⟩; (try first | exact ⟨rfl, _, World.drewN_drewN _ _ _⟩ | exact ⟨rfl, _, Eq.trans (World.drewN_drewN _ _ _) (congrArg (World.drewN _) (Nat.add_assoc _ _ _))⟩))))
           go_loopg [21, 22] k3 (fun kq v21 v22 w' => ∃ (x21_4 : ByteArray) (x22_4 : Int), v21 = .string x21_4 ∧ v22 = .int .i64 x22_4 ∧ Aside0 (pritchellaw09_MarkMirrored.l4 kq t248 x21_4 x22_4 = some r) ∧ Aside0 (kq ≤ k3) ∧ Aside0 (Below w.heap.size w w'))
           case atStart => exact ⟨((⟨#[]⟩ : ByteArray)), (0), (by first | rfl | (simp; done) | (simp [*]; done)), (by first | rfl | (simp; done) | (simp [*]; done)), H', ⟨Nat.le_refl _⟩, ⟨by repeat (first | (with_reducible first | exact HB.out | apply below_alloc | apply pw_below_drewN | apply below_drew1) | exact HB.out)⟩⟩
           case round =>
            clear H'
            try clear c1
            try clear c2
            try clear p2
            try clear q2
            try clear hx2
            try clear c3
            try clear c4
            try clear c4b0
            try clear c4b1
            try clear c6
            try clear p6
            try clear c10
            try clear c10b0
            try clear c10b1
            try clear c11
            try clear c11b0
            try clear c11b1
            try clear c12
            try clear c12b0
            try clear c12b1
            try clear c12b2
            try clear c19
            try clear c22
            try clear c22b0
            try clear c23
            try clear c23b0
            try clear p24
            try clear q24
            try clear hx24
            try clear c25
            try clear c25b0
            try clear c26
            try clear c26b0
            try clear c27
            try clear c27b0
            try clear c28
            try clear c28b0
            try clear c28b1
            try clear c29
            try clear c29b0
            try clear c29b1
            try clear c30
            try clear c30b0
            try clear c30b1
            try clear c31
            try clear c31b0
            try clear c31b1
            try clear c31b2
            try clear c32
            try clear c35
            try clear c35b0
            try clear c37
            try clear c37b0
            try clear c38
            try clear c40
            try clear c40b0
            try clear c41
            try clear c41b0
            try clear c42
            try clear c42b0
            try clear c44
            try clear hx241_0
            try clear hx242_0
            try clear hx246_0
            try clear hx247_0
            try clear p2
            try clear p24
            try clear p241
            try clear p242
            try clear p246
            try clear p247
            try clear p6
            try clear q2
            try clear q24
            try clear q241
            try clear q242
            try clear q246
            try clear q247
            obtain ⟨x21_4, x22_4, rfl, rfl, HA, HK4, HB⟩ := hrel
            cases gk with
            | zero => exact absurd HA.out (by simp [pritchellaw09_MarkMirrored.l4])
            | succ k4 =>
             have H := HA.out
             clear HA
             simp only [pritchellaw09_MarkMirrored.l4] at H
             by_cases c49 : x22_4 < (t248.size : Int)
             ·rw [if_pos c49] at H
              have c49b0 : decide (x22_4 < (t248.size : Int)) = true := decide_eq_true c49
              clear c49
              by_cases c50 : 0 ≤ x22_4
              ·rw [if_pos c50] at H
               have c50b0 : decide (0 ≤ x22_4) = true := decide_eq_true c50
               clear c50
               obtain ⟨ji53, hji53⟩ : ∃ j_ : Int, (((bt t248 x22_4) - 48) % 256) = j_ := ⟨_, rfl⟩
               replace H : (if 0 ≤ (ji53) then (if (ji53) ≤ (((ji53) + 1) % 256) then (if (((ji53) + 1) % 256) ≤ 2 then (if x21_4.size + ((⟨#[49, 48]⟩ : ByteArray).extract ((ji53) : Int).toNat ((((ji53) + 1) % 256) : Int).toNat).size ≤ 9223372036854775807 then (pritchellaw09_MarkMirrored.l4 k4 t248 (x21_4 ++ ((⟨#[49, 48]⟩ : ByteArray).extract ((ji53) : Int).toNat ((((ji53) + 1) % 256) : Int).toNat)) (wrap64 (x22_4 + 1))) else (none)) else (none)) else (none)) else (none)) = some r := by first | (rw [hji53] at H; exact H) | (simp only [hji53] at H ⊢; exact H)
               have W1 : IntKind.u8.wrap (bt t248 x22_4 - 48) = ji53 := hji53
               have W2 : IntKind.u8.wrap (ji53 + 1) = (ji53 + 1) % 256 := rfl
               by_cases c54 : 0 ≤ (ji53)
               ·rw [if_pos c54] at H
                have c54b0 := eq_true c54
                have c54b1 : decide (0 ≤ (ji53)) = true := decide_eq_true c54
                clear c54
                by_cases c55 : (ji53) ≤ (((ji53) + 1) % 256)
                ·rw [if_pos c55] at H
                 have c55b0 := eq_true c55
                 have c55b1 : decide ((ji53) ≤ (((ji53) + 1) % 256)) = true := decide_eq_true c55
                 by_cases c56 : (((ji53) + 1) % 256) ≤ 2
                 ·rw [if_pos c56] at H
                  have c56b0 := eq_true c56
                  have c56b1 : decide ((((ji53) + 1) % 256) ≤ 2) = true := decide_eq_true c56
                  by_cases c57 : x21_4.size + ((⟨#[49, 48]⟩ : ByteArray).extract ((ji53) : Int).toNat ((((ji53) + 1) % 256) : Int).toNat).size ≤ 9223372036854775807
                  ·rw [if_pos c57] at H
                   have c57b0 := eq_true c57
                   have c57b1 : decide (x21_4.size + ((⟨#[49, 48]⟩ : ByteArray).extract ((ji53) : Int).toNat ((((ji53) + 1) % 256) : Int).toNat).size ≤ 9223372036854775807) = true := decide_eq_true c57
                   try have c57b2 : (9223372036854775807 < x21_4.size + ((⟨#[49, 48]⟩ : ByteArray).extract ((ji53) : Int).toNat ((((ji53) + 1) % 256) : Int).toNat).size) = False := eq_false (Nat.not_lt.2 c57)
                   have H' := Aside0.mk H
                   clear H
                   have p51 : 0 ≤ (x22_4 : Int) := of_decide_eq_true (by first | (with_reducible assumption) | assumption)
                   have q51 : x22_4 < (t248.size : Int) := of_decide_eq_true (by first | (with_reducible assumption) | assumption)
                   have hx51 := bt_at t248 x22_4
                   replace p51 := eq_true p51
                   replace q51 := eq_true q51
                   have p52 : 0 ≤ (x22_4 : Int) := of_decide_eq_true (by first | (with_reducible assumption) | assumption)
                   have q52 : x22_4 < (t248.size : Int) := of_decide_eq_true (by first | (with_reducible assumption) | assumption)
                   have hx52 := bt_at t248 x22_4
                   replace p52 := eq_true p52
                   replace q52 := eq_true q52
                   go_wp2
                   repeat (go_quiet (fail); try go_wp2)
                   go_roundg k4
                   case measure => have := HJ6.out; have := HK2.out; have := HK3.out; have := HK4.out; omega
                   case rel => exact ⟨(x21_4 ++ ((⟨#[49, 48]⟩ : ByteArray).extract ((ji53) : Int).toNat ((((ji53) + 1) % 256) : Int).toNat)), (wrap64 (x22_4 + 1)), (by first | rfl | (simp; done) | (simp only [← hji53] <;> (first | rfl | simp)) | (simp [*]; done)), (by first | rfl | (simp; done) | (simp [*]; done)), H', ⟨by have := HJ6.out; have := HK2.out; have := HK3.out; have := HK4.out; omega⟩, ⟨by repeat (first | (with_reducible first | exact HB.out | apply below_alloc | apply pw_below_drewN | apply below_drew1) | exact HB.out)⟩⟩
                  ·rw [if_neg c57] at H
                   exact absurd H (by simp)
                 ·rw [if_neg c56] at H
                  exact absurd H (by simp)
                ·rw [if_neg c55] at H
                 exact absurd H (by simp)
               ·rw [if_neg c54] at H
                exact absurd H (by simp)
              ·rw [if_neg c50] at H
               exact absurd H (by simp)
             ·rw [if_neg c49] at H
              have c49b0 : decide (x22_4 < (t248.size : Int)) = false := decide_eq_false c49
              clear c49
              replace H := Option.bind_eq_some_iff.mp H
              obtain ⟨⟨t249, t250⟩, A580, H⟩ := H
              replace H : ((mark_Sum.f k4 x21_4).bind fun bt251 => (if t250 = 0 then (if bt251.2 = 0 then (some ((wrap64 (t249 + bt251.1)) == (wrap64 (Int.tdiv (wrap64 ((t248.size : Int) * (wrap64 ((t248.size : Int) + 1)))) 2)))) else (some false)) else (some false))) = some r := H
              have A58 := Aside0.mk A580
              clear A580
              replace H := Option.bind_eq_some_iff.mp H
              obtain ⟨⟨t251, t252⟩, A590, H⟩ := H
              replace H : (if t250 = 0 then (if t252 = 0 then (some ((wrap64 (t249 + t251)) == (wrap64 (Int.tdiv (wrap64 ((t248.size : Int) * (wrap64 ((t248.size : Int) + 1)))) 2)))) else (some false)) else (some false)) = some r := H
              have A59 := Aside0.mk A590
              clear A590
              by_cases c60 : t250 = 0
              ·rw [if_pos c60] at H
               have c60b0 : (t250 == 0) = true := beq_iff_eq.mpr c60
               have c60b1 : (t250 != 0) = false := bne_eq_false_iff_eq.mpr c60
               clear c60
               by_cases c61 : t252 = 0
               ·rw [if_pos c61] at H
                have c61b0 : (t252 == 0) = true := beq_iff_eq.mpr c61
                have c61b1 : (t252 != 0) = false := bne_eq_false_iff_eq.mpr c61
                clear c61
                obtain rfl := Option.some.inj H
                go_wp2_with (first | (go_at_call 24; (with_reducible refine (mark_Sum.calls k4 t248 t249 t250 _ ?side1 A58.out).mono ?_); (case side1 => exact tabs_below HT.out (by repeat (first | (with_reducible first | exact HB.out | apply below_alloc | apply pw_below_drewN | apply below_drew1) | exact HB.out))); rintro e w62 ⟨rfl, hb⟩; have n0_ := Aside0.mk (below_step (by repeat (first | (with_reducible first | exact HB.out | apply below_alloc | apply pw_below_drewN | apply below_drew1) | exact HB.out)) hb); clear HB; have HB := n0_; clear n0_; (try clear hb); (try clear hb2); (try clear hk); (try clear hi)) | (go_at_call 24; (with_reducible refine (mark_Sum.calls k4 x21_4 t251 t252 _ ?side1 A59.out).mono ?_); (case side1 => exact tabs_below HT.out (by repeat (first | (with_reducible first | exact HB.out | apply below_alloc | apply pw_below_drewN | apply below_drew1) | exact HB.out))); rintro e w63 ⟨rfl, hb⟩; have n0_ := Aside0.mk (below_step (by repeat (first | (with_reducible first | exact HB.out | apply below_alloc | apply pw_below_drewN | apply below_drew1) | exact HB.out)) hb); clear HB; have HB := n0_; clear n0_; (try clear hb); (try clear hb2); (try clear hk); (try clear hi)))
                repeat (go_quiet (first | (go_at_call 24; (with_reducible refine (mark_Sum.calls k4 t248 t249 t250 _ ?side1 A58.out).mono ?_); (case side1 => exact tabs_below HT.out (by repeat (first | (with_reducible first | exact HB.out | apply below_alloc | apply pw_below_drewN | apply below_drew1) | exact HB.out))); rintro e w62 ⟨rfl, hb⟩; have n0_ := Aside0.mk (below_step (by repeat (first | (with_reducible first | exact HB.out | apply below_alloc | apply pw_below_drewN | apply below_drew1) | exact HB.out)) hb); clear HB; have HB := n0_; clear n0_; (try clear hb); (try clear hb2); (try clear hk); (try clear hi)) | (go_at_call 24; (with_reducible refine (mark_Sum.calls k4 x21_4 t251 t252 _ ?side1 A59.out).mono ?_); (case side1 => exact tabs_below HT.out (by repeat (first | (with_reducible first | exact HB.out | apply below_alloc | apply pw_below_drewN | apply below_drew1) | exact HB.out))); rintro e w63 ⟨rfl, hb⟩; have n0_ := Aside0.mk (below_step (by repeat (first | (with_reducible first | exact HB.out | apply below_alloc | apply pw_below_drewN | apply below_drew1) | exact HB.out)) hb); clear HB; have HB := n0_; clear n0_; (try clear hb); (try clear hb2); (try clear hk); (try clear hi))); try go_wp2_with (first | (go_at_call 24; (with_reducible refine (mark_Sum.calls k4 t248 t249 t250 _ ?side1 A58.out).mono ?_); (case side1 => exact tabs_below HT.out (by repeat (first | (with_reducible first | exact HB.out | apply below_alloc | apply pw_below_drewN | apply below_drew1) | exact HB.out))); rintro e w62 ⟨rfl, hb⟩; have n0_ := Aside0.mk (below_step (by repeat (first | (with_reducible first | exact HB.out | apply below_alloc | apply pw_below_drewN | apply below_drew1) | exact HB.out)) hb); clear HB; have HB := n0_; clear n0_; (try clear hb); (try clear hb2); (try clear hk); (try clear hi)) | (go_at_call 24; (with_reducible refine (mark_Sum.calls k4 x21_4 t251 t252 _ ?side1 A59.out).mono ?_); (case side1 => exact tabs_below HT.out (by repeat (first | (with_reducible first | exact HB.out | apply below_alloc | apply pw_below_drewN | apply below_drew1) | exact HB.out))); rintro e w63 ⟨rfl, hb⟩; have n0_ := Aside0.mk (below_step (by repeat (first | (with_reducible first | exact HB.out | apply below_alloc | apply pw_below_drewN | apply below_drew1) | exact HB.out)) hb); clear HB; have HB := n0_; clear n0_; (try clear hb); (try clear hb2); (try clear hk); (try clear hi))))
                go_ret
                exact ⟨by first | rfl | (simp [errW_none, errW_some] <;> rfl) | (simp [*, errW_none, errW_some] <;> rfl), by repeat (first | (with_reducible first | exact HB.out | apply below_alloc | apply pw_below_drewN | apply below_drew1) | exact HB.out)⟩
               ·rw [if_neg c61] at H
                have c61b0 : (t252 == 0) = false := beq_eq_false_iff_ne.mpr c61
                have c61b1 : (t252 != 0) = true := bne_iff_ne.mpr c61
                obtain rfl := Option.some.inj H
                go_wp2_with (first | (go_at_call 24; (with_reducible refine (mark_Sum.calls k4 t248 t249 t250 _ ?side1 A58.out).mono ?_); (case side1 => exact tabs_below HT.out (by repeat (first | (with_reducible first | exact HB.out | apply below_alloc | apply pw_below_drewN | apply below_drew1) | exact HB.out))); rintro e w64 ⟨rfl, hb⟩; have n0_ := Aside0.mk (below_step (by repeat (first | (with_reducible first | exact HB.out | apply below_alloc | apply pw_below_drewN | apply below_drew1) | exact HB.out)) hb); clear HB; have HB := n0_; clear n0_; (try clear hb); (try clear hb2); (try clear hk); (try clear hi)) | (go_at_call 24; (with_reducible refine (mark_Sum.calls k4 x21_4 t251 t252 _ ?side1 A59.out).mono ?_); (case side1 => exact tabs_below HT.out (by repeat (first | (with_reducible first | exact HB.out | apply below_alloc | apply pw_below_drewN | apply below_drew1) | exact HB.out))); rintro e w65 ⟨rfl, hb⟩; have n0_ := Aside0.mk (below_step (by repeat (first | (with_reducible first | exact HB.out | apply below_alloc | apply pw_below_drewN | apply below_drew1) | exact HB.out)) hb); clear HB; have HB := n0_; clear n0_; (try clear hb); (try clear hb2); (try clear hk); (try clear hi)))
                repeat (go_quiet (first | (go_at_call 24; (with_reducible refine (mark_Sum.calls k4 t248 t249 t250 _ ?side1 A58.out).mono ?_); (case side1 => exact tabs_below HT.out (by repeat (first | (with_reducible first | exact HB.out | apply below_alloc | apply pw_below_drewN | apply below_drew1) | exact HB.out))); rintro e w64 ⟨rfl, hb⟩; have n0_ := Aside0.mk (below_step (by repeat (first | (with_reducible first | exact HB.out | apply below_alloc | apply pw_below_drewN | apply below_drew1) | exact HB.out)) hb); clear HB; have HB := n0_; clear n0_; (try clear hb); (try clear hb2); (try clear hk); (try clear hi)) | (go_at_call 24; (with_reducible refine (mark_Sum.calls k4 x21_4 t251 t252 _ ?side1 A59.out).mono ?_); (case side1 => exact tabs_below HT.out (by repeat (first | (with_reducible first | exact HB.out | apply below_alloc | apply pw_below_drewN | apply below_drew1) | exact HB.out))); rintro e w65 ⟨rfl, hb⟩; have n0_ := Aside0.mk (below_step (by repeat (first | (with_reducible first | exact HB.out | apply below_alloc | apply pw_below_drewN | apply below_drew1) | exact HB.out)) hb); clear HB; have HB := n0_; clear n0_; (try clear hb); (try clear hb2); (try clear hk); (try clear hi))); try go_wp2_with (first | (go_at_call 24; (with_reducible refine (mark_Sum.calls k4 t248 t249 t250 _ ?side1 A58.out).mono ?_); (case side1 => exact tabs_below HT.out (by repeat (first | (with_reducible first | exact HB.out | apply below_alloc | apply pw_below_drewN | apply below_drew1) | exact HB.out))); rintro e w64 ⟨rfl, hb⟩; have n0_ := Aside0.mk (below_step (by repeat (first | (with_reducible first | exact HB.out | apply below_alloc | apply pw_below_drewN | apply below_drew1) | exact HB.out)) hb); clear HB; have HB := n0_; clear n0_; (try clear hb); (try clear hb2); (try clear hk); (try clear hi)) | (go_at_call 24; (with_reducible refine (mark_Sum.calls k4 x21_4 t251 t252 _ ?side1 A59.out).mono ?_); (case side1 => exact tabs_below HT.out (by repeat (first | (with_reducible first | exact HB.out | apply below_alloc | apply pw_below_drewN | apply below_drew1) | exact HB.out))); rintro e w65 ⟨rfl, hb⟩; have n0_ := Aside0.mk (below_step (by repeat (first | (with_reducible first | exact HB.out | apply below_alloc | apply pw_below_drewN | apply below_drew1) | exact HB.out)) hb); clear HB; have HB := n0_; clear n0_; (try clear hb); (try clear hb2); (try clear hk); (try clear hi))))
                go_ret
                exact ⟨by first | rfl | (simp [errW_none, errW_some] <;> rfl) | (simp [*, errW_none, errW_some] <;> rfl), by repeat (first | (with_reducible first | exact HB.out | apply below_alloc | apply pw_below_drewN | apply below_drew1) | exact HB.out)⟩
              ·rw [if_neg c60] at H
               have c60b0 : (t250 == 0) = false := beq_eq_false_iff_ne.mpr c60
               have c60b1 : (t250 != 0) = true := bne_iff_ne.mpr c60
               obtain rfl := Option.some.inj H
               go_wp2_with (first | (go_at_call 24; (with_reducible refine (mark_Sum.calls k4 t248 t249 t250 _ ?side1 A58.out).mono ?_); (case side1 => exact tabs_below HT.out (by repeat (first | (with_reducible first | exact HB.out | apply below_alloc | apply pw_below_drewN | apply below_drew1) | exact HB.out))); rintro e w66 ⟨rfl, hb⟩; have n0_ := Aside0.mk (below_step (by repeat (first | (with_reducible first | exact HB.out | apply below_alloc | apply pw_below_drewN | apply below_drew1) | exact HB.out)) hb); clear HB; have HB := n0_; clear n0_; (try clear hb); (try clear hb2); (try clear hk); (try clear hi)) | (go_at_call 24; (with_reducible refine (mark_Sum.calls k4 x21_4 t251 t252 _ ?side1 A59.out).mono ?_); (case side1 => exact tabs_below HT.out (by repeat (first | (with_reducible first | exact HB.out | apply below_alloc | apply pw_below_drewN | apply below_drew1) | exact HB.out))); rintro e w67 ⟨rfl, hb⟩; have n0_ := Aside0.mk (below_step (by repeat (first | (with_reducible first | exact HB.out | apply below_alloc | apply pw_below_drewN | apply below_drew1) | exact HB.out)) hb); clear HB; have HB := n0_; clear n0_; (try clear hb); (try clear hb2); (try clear hk); (try clear hi)))
               repeat (go_quiet (first | (go_at_call 24; (with_reducible refine (mark_Sum.calls k4 t248 t249 t250 _ ?side1 A58.out).mono ?_); (case side1 => exact tabs_below HT.out (by repeat (first | (with_reducible first | exact HB.out | apply below_alloc | apply pw_below_drewN | apply below_drew1) | exact HB.out))); rintro e w66 ⟨rfl, hb⟩; have n0_ := Aside0.mk (below_step (by repeat (first | (with_reducible first | exact HB.out | apply below_alloc | apply pw_below_drewN | apply below_drew1) | exact HB.out)) hb); clear HB; have HB := n0_; clear n0_; (try clear hb); (try clear hb2); (try clear hk); (try clear hi)) | (go_at_call 24; (with_reducible refine (mark_Sum.calls k4 x21_4 t251 t252 _ ?side1 A59.out).mono ?_); (case side1 => exact tabs_below HT.out (by repeat (first | (with_reducible first | exact HB.out | apply below_alloc | apply pw_below_drewN | apply below_drew1) | exact HB.out))); rintro e w67 ⟨rfl, hb⟩; have n0_ := Aside0.mk (below_step (by repeat (first | (with_reducible first | exact HB.out | apply below_alloc | apply pw_below_drewN | apply below_drew1) | exact HB.out)) hb); clear HB; have HB := n0_; clear n0_; (try clear hb); (try clear hb2); (try clear hk); (try clear hi))); try go_wp2_with (first | (go_at_call 24; (with_reducible refine (mark_Sum.calls k4 t248 t249 t250 _ ?side1 A58.out).mono ?_); (case side1 => exact tabs_below HT.out (by repeat (first | (with_reducible first | exact HB.out | apply below_alloc | apply pw_below_drewN | apply below_drew1) | exact HB.out))); rintro e w66 ⟨rfl, hb⟩; have n0_ := Aside0.mk (below_step (by repeat (first | (with_reducible first | exact HB.out | apply below_alloc | apply pw_below_drewN | apply below_drew1) | exact HB.out)) hb); clear HB; have HB := n0_; clear n0_; (try clear hb); (try clear hb2); (try clear hk); (try clear hi)) | (go_at_call 24; (with_reducible refine (mark_Sum.calls k4 x21_4 t251 t252 _ ?side1 A59.out).mono ?_); (case side1 => exact tabs_below HT.out (by repeat (first | (with_reducible first | exact HB.out | apply below_alloc | apply pw_below_drewN | apply below_drew1) | exact HB.out))); rintro e w67 ⟨rfl, hb⟩; have n0_ := Aside0.mk (below_step (by repeat (first | (with_reducible first | exact HB.out | apply below_alloc | apply pw_below_drewN | apply below_drew1) | exact HB.out)) hb); clear HB; have HB := n0_; clear n0_; (try clear hb); (try clear hb2); (try clear hk); (try clear hi))))
               go_ret
               exact ⟨by first | rfl | (simp [errW_none, errW_some] <;> rfl) | (simp [*, errW_none, errW_some] <;> rfl), by repeat (first | (with_reducible first | exact HB.out | apply below_alloc | apply pw_below_drewN | apply below_drew1) | exact HB.out)⟩

/-- THE ONE PURE STATEMENT of pritchellaw09_MarkMirrored: yours. -/
def pritchellaw09_MarkMirrored.Pure : Prop := ∀ (a0 : Int) (a1 : Int) (l2 : List Int), (Lit.int .u8 a0).wf = true → (Lit.int .u8 a1).wf = true → l2.length ≤ maxLen → l2.length * 1 ≤ 140737488351232 → (∀ x ∈ l2, (Lit.int .u8 x).wf = true) → ∃ k, pritchellaw09_MarkMirrored.f k a0 a1 l2 = some true
theorem pritchellaw09_MarkMirrored.walk (P : pritchellaw09_MarkMirrored.Pure) (a0 : Int) (a1 : Int) (a2 : Option Addr) (len2 cap2 : Nat) (z2 : List Int) (w : World) (w0 : (Lit.int .u8 a0).wf = true) (w1 : (Lit.int .u8 a1).wf = true) (w2 : (a2 = none ∧ len2 = 0 ∧ cap2 = 0 ∧ z2 = []) ∨ ∃ x, a2 = some x ∧ len2 ≤ cap2 ∧ cap2 ≤ maxLen ∧ z2.length = cap2 ∧ (∀ i, i < z2.length → w.cell? (x.add i) = some (.int .u8 (z2.getD i 0))) ∧ ∀ n ∈ z2, (Lit.int .u8 n).wf = true) (y2 : len2 * 1 ≤ 140737488351232) (hT : Lib.Utf8Tabs 0 1 w) :
  Calls Tryd.prog 6 #[.int .u8 a0, .int .u8 a1, .slice a2 len2 cap2] w fun e w' => e = .returned (.bool true) ∧ Below w.heap.size w w' := by
 obtain ⟨l2, rfl, hr2, hm2, hw2, hc2⟩ := ReadsInt.ofRowC w2
 obtain ⟨k, h⟩ := P a0 a1 l2 w0 w1 hm2 y2 hw2
 refine (pritchellaw09_MarkMirrored.calls k a0 a1 _ _ l2 true w (Kd.C_of_reads (d := (0 : Int)) (h1 := fun _ => rfl) hr2) hc2 hT h).mono ?_
 rintro e w' ⟨rfl, hd⟩
 exact ⟨rfl, hd⟩

end Go.Proofs.YtopmcoohdhlnaaaDoor.Pb
