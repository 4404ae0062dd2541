/- Printed by a program of this session (print2.py). -/
import Derived.ArgAppend
import Derived.Below
import Derived.BigQuiet
import Derived.ChangeSlices
import Derived.Deep.AppendLies
import Derived.Deep.CutBlock
import Derived.Deep.DeepCutAuto
import Derived.Deep.Draws
import Derived.Deep.LoopGhost
import Derived.Deep.OwnRows
import Derived.Deep.QuietTactic
import Derived.Deep.RegionHeld3
import Derived.KernelRfl
import Derived.Laws.BitsLemmas
import Derived.Laws.BytesArg
import Derived.Laws.Cover1
import Derived.Laws.IdiomCopy
import Derived.Laws.MakeOwn
import Derived.Laws.OwnMore
import Derived.Laws.RangeAny
import Derived.Laws.Rows
import Derived.Laws.Slices
import Derived.Laws.StructEq
import Derived.Lib.AppendStr
import Derived.Lib.ConvBytes
import Derived.Lib.Hide
import Derived.Lib.OthersKept
import Derived.Lib.SliceRun
import Derived.Lib.TrimUEq
import Derived.Maps.AppendAt
import Derived.OrdersHeld
import Derived.Outline
import Derived.OwnWalk
import Derived.RowKit
import Derived.RowKit3
import Derived.Shelf.Slices.CompactS
import Derived.Shelf.Slices.In.SortNone
import Derived.Shelf.Small.Utf8
import Derived.Shelf.Sort.Plain
import Derived.Shelf.Strings.Builder1
import Derived.Shelf.Strings.Builder2
import Derived.Shelf.Strings.OnBuilder
import Derived.Shelf.Unicode.DecodeAny
import Derived.Shelf.Unicode.DecodeLast
import Derived.Shelf.Unicode.DecodeSlow
import Derived.SizedLaws
import Derived.Sort.OwnSorted
import Derived.Tactics
import Derived.Test.YtopmcoohdhlnaaaDoorProg
import Derived.WalkKit
import Derived.WalkSmall
import Derived.WalkSpells
import Derived.WideLaws
import Derived.Test.YtopmcoohdhlnaaaDoorG0
import Derived.Test.YtopmcoohdhlnaaaDoorPa0
import Derived.Test.YtopmcoohdhlnaaaDoorPa12
import Derived.Test.YtopmcoohdhlnaaaDoorPa3
import Derived.Test.YtopmcoohdhlnaaaDoorPb0
import Derived.Test.YtopmcoohdhlnaaaDoorPb6
import Derived.Test.YtopmcoohdhlnaaaDoorPb7
import Derived.Test.YtopmcoohdhlnaaaDoorWApart
import Derived.Test.YtopmcoohdhlnaaaDoorWLast
import Derived.Test.YtopmcoohdhlnaaaDoorWMore
import Derived.Test.YtopmcoohdhlnaaaDoorWShare
import Derived.Test.YtopmcoohdhlnaaaDoorWWords
namespace Go.Proofs.YtopmcoohdhlnaaaDoor.Pb
open Go.RowKit Go.Proofs.YtopmcoohdhlnaaaDoorW.PrintWords Go.Proofs.YtopmcoohdhlnaaaDoorW.PrintLast Go.Proofs.YtopmcoohdhlnaaaDoorW.PrintMore
attribute [local go_sem] max2_int min2_int max_two min_two max_three min_three max_four min_four   -- for this text's walks alone
set_option linter.unusedVariables false
set_option linter.unusedSimpArgs false

/-! ### pritchellaw09_MarkCommon: function 4 -/
mutual
def pritchellaw09_MarkCommon.j0 : Nat → List Int → ByteArray → ByteArray → ByteArray → Bool → Option (Bool)
 | 0, _, _, _, _, _ => none
 | k + 1, x2, x7, x8, x9, x40 => if x40 = true then (some false) else (pritchellaw09_MarkCommon.l0 k x2 x7 x8 x9 (⟨#[]⟩ : ByteArray) 0)
def pritchellaw09_MarkCommon.l0 : Nat → List Int → ByteArray → ByteArray → ByteArray → ByteArray → Int → Option (Bool)
 | 0, _, _, _, _, _, _ => none
 | k + 1, x2, x7, x8, x9, x11, x12 => if x12 < (x7.size : Int) then (if x12 ≥ (x2.length : Int) then (if 0 ≤ x12 then (if x12 ≤ (wrap64 (x12 + 1)) then (if (wrap64 (x12 + 1)) ≤ (x7.size : Int) then (if x11.size + (x7.extract (x12 : Int).toNat ((wrap64 (x12 + 1)) : Int).toNat).size ≤ 9223372036854775807 then (pritchellaw09_MarkCommon.l0 k x2 x7 x8 x9 (x11 ++ (x7.extract (x12 : Int).toNat ((wrap64 (x12 + 1)) : Int).toNat)) (wrap64 (x12 + 1))) else (none)) else (none)) else (none)) else (none)) else (if 0 ≤ x12 then (if x12 < (x2.length : Int) then (if (Int.tmod (rd x2 x12) 3) > 0 then (if x12 ≤ (wrap64 (x12 + 1)) then (if (wrap64 (x12 + 1)) ≤ (x7.size : Int) then (if x11.size + (x7.extract (x12 : Int).toNat ((wrap64 (x12 + 1)) : Int).toNat).size ≤ 9223372036854775807 then (pritchellaw09_MarkCommon.l0 k x2 x7 x8 x9 (x11 ++ (x7.extract (x12 : Int).toNat ((wrap64 (x12 + 1)) : Int).toNat)) (wrap64 (x12 + 1))) else (none)) else (none)) else (none)) else (pritchellaw09_MarkCommon.l0 k x2 x7 x8 x9 x11 (wrap64 (x12 + 1)))) else (none)) else (none))) else ((Pa.pritchelref09_Part.f k x11 x8).bind fun t209 => (if t209 = true then (if (x11.size : Int) < (x9.size : Int) then (some true) else (if (x11.size : Int) = (x9.size : Int) then (some (!(Op.bytesLess x11.toList x9.toList))) else (some false))) else (some true)))
end
def pritchellaw09_MarkCommon.f (k : Nat) (l0 : List Int) (l1 : List Int) (l2 : List Int) : Option (Bool) := (Pa.pritchellaw09_word.f k l0 2 20).bind fun t201 => ((Pa.pritchellaw09_word.f k l1 2 20).bind fun t202 => ((mark_Common.f k t201 t202).bind fun bt203 => (if bt203.2 = 0 then ((Pa.pritchelref09_Part.f k bt203.1 t201).bind fun t205 => (if t205 = true then ((Pa.pritchelref09_Part.f k bt203.1 t202).bind fun t206 => (if t206 = true then ((pritchellaw09_lives.f k).bind fun t207 => (pritchellaw09_MarkCommon.j0 k l2 t201 t202 bt203.1 (!t207))) else (pritchellaw09_MarkCommon.j0 k l2 t201 t202 bt203.1 true))) else (pritchellaw09_MarkCommon.j0 k l2 t201 t202 bt203.1 true))) else (pritchellaw09_MarkCommon.j0 k l2 t201 t202 bt203.1 true))))
set_option maxHeartbeats 8000000 in
set_option maxRecDepth 100000 in
theorem pritchellaw09_MarkCommon.calls (k : Nat) (A0 : Option Addr) (c0 : Nat) (l0 : List Int) (A1 : Option Addr) (c1 : Nat) (l1 : List Int) (A2 : Option Addr) (c2 : Nat) (l2 : List Int) (r : Bool) (w : World) (hr0 : Kd.C (Kd.int .u8) w A0 l0.length l0) (hc0 : l0.length ≤ c0) (hr1 : Kd.C (Kd.int .u8) w A1 l1.length l1) (hc1 : l1.length ≤ c1) (hr2 : Kd.C (Kd.int .u8) w A2 l2.length l2) (hc2 : l2.length ≤ c2) (hT : Lib.Utf8Tabs 0 1 w) (h : pritchellaw09_MarkCommon.f k l0 l1 l2 = some r) :
  Calls Tryd.prog 4 #[.slice A0 l0.length c0, .slice A1 l1.length c1, .slice A2 l2.length c2] w fun e w' => e = .returned (.bool r) ∧ Below w.heap.size w w' := by
 have HR0 := Aside0.mk hr0
 have HC0 := Aside0.mk hc0
 clear hr0 hc0
 have HR1 := Aside0.mk hr1
 have HC1 := Aside0.mk hc1
 clear hr1 hc1
 have HR2 := Aside0.mk hr2
 have HC2 := Aside0.mk hc2
 clear hr2 hc2
 have HB := Aside0.mk (Below.refl w.heap.size w)
 have HT := Aside0.mk hT
 clear hT
 have H : ((Pa.pritchellaw09_word.f k l0 2 20).bind fun t201 => ((Pa.pritchellaw09_word.f k l1 2 20).bind fun t202 => ((mark_Common.f k t201 t202).bind fun bt203 => (if bt203.2 = 0 then ((Pa.pritchelref09_Part.f k bt203.1 t201).bind fun t205 => (if t205 = true then ((Pa.pritchelref09_Part.f k bt203.1 t202).bind fun t206 => (if t206 = true then ((pritchellaw09_lives.f k).bind fun t207 => (pritchellaw09_MarkCommon.j0 k l2 t201 t202 bt203.1 (!t207))) else (pritchellaw09_MarkCommon.j0 k l2 t201 t202 bt203.1 true))) else (pritchellaw09_MarkCommon.j0 k l2 t201 t202 bt203.1 true))) else (pritchellaw09_MarkCommon.j0 k l2 t201 t202 bt203.1 true))))) = some r := h
 clear h
 replace H := Option.bind_eq_some_iff.mp H
 obtain ⟨t201, A40, H⟩ := H
 replace H : ((Pa.pritchellaw09_word.f k l1 2 20).bind fun t202 => ((mark_Common.f k t201 t202).bind fun bt203 => (if bt203.2 = 0 then ((Pa.pritchelref09_Part.f k bt203.1 t201).bind fun t205 => (if t205 = true then ((Pa.pritchelref09_Part.f k bt203.1 t202).bind fun t206 => (if t206 = true then ((pritchellaw09_lives.f k).bind fun t207 => (pritchellaw09_MarkCommon.j0 k l2 t201 t202 bt203.1 (!t207))) else (pritchellaw09_MarkCommon.j0 k l2 t201 t202 bt203.1 true))) else (pritchellaw09_MarkCommon.j0 k l2 t201 t202 bt203.1 true))) else (pritchellaw09_MarkCommon.j0 k l2 t201 t202 bt203.1 true)))) = some r := H
 have A4 := Aside0.mk A40
 clear A40
 replace H := Option.bind_eq_some_iff.mp H
 obtain ⟨t202, A50, H⟩ := H
 replace H : ((mark_Common.f k t201 t202).bind fun bt203 => (if bt203.2 = 0 then ((Pa.pritchelref09_Part.f k bt203.1 t201).bind fun t205 => (if t205 = true then ((Pa.pritchelref09_Part.f k bt203.1 t202).bind fun t206 => (if t206 = true then ((pritchellaw09_lives.f k).bind fun t207 => (pritchellaw09_MarkCommon.j0 k l2 t201 t202 bt203.1 (!t207))) else (pritchellaw09_MarkCommon.j0 k l2 t201 t202 bt203.1 true))) else (pritchellaw09_MarkCommon.j0 k l2 t201 t202 bt203.1 true))) else (pritchellaw09_MarkCommon.j0 k l2 t201 t202 bt203.1 true))) = some r := H
 have A5 := Aside0.mk A50
 clear A50
 replace H := Option.bind_eq_some_iff.mp H
 obtain ⟨⟨t203, t204⟩, A60, H⟩ := H
 replace H : (if t204 = 0 then ((Pa.pritchelref09_Part.f k t203 t201).bind fun t205 => (if t205 = true then ((Pa.pritchelref09_Part.f k t203 t202).bind fun t206 => (if t206 = true then ((pritchellaw09_lives.f k).bind fun t207 => (pritchellaw09_MarkCommon.j0 k l2 t201 t202 t203 (!t207))) else (pritchellaw09_MarkCommon.j0 k l2 t201 t202 t203 true))) else (pritchellaw09_MarkCommon.j0 k l2 t201 t202 t203 true))) else (pritchellaw09_MarkCommon.j0 k l2 t201 t202 t203 true)) = some r := H
 have A6 := Aside0.mk A60
 clear A60
 have HC7 := Aside0.mk H
 clear H
 go_enter Tryd.func4, Tryd.ntmps4
 go_upto_region 3 with (first | ((with_reducible refine gate_callee (f := 20) rfl ?_); refine goesL_ (some 14) rfl rfl Tryd.func20 (by kernel_rfl) rfl #[.slice A0 l0.length c0, .int .i64 2, .int .i64 20] rfl (by (try simp only [List.map_toArray, List.map_cons, List.map_nil]); first | done | rfl | (simp only [List.length_drop, List.length_take]; rfl)) ?_; (with_reducible refine (Pa.pritchellaw09_word.calls k _ _ l0 2 20 t201 _ ?side1 ?side2 A4.out).mono ?_); (case side1 => repeat (first | exact HR0.out | (with_reducible refine Kd.C_alloc ?_ _) | (with_reducible refine Kd.C_drewN ?_ _) | (with_reducible refine Kd.C_drew ?_))); (case side2 => exact HC0.out); rintro e w' ⟨rfl, ⟨nd, rfl⟩⟩; refine ⟨_, rfl, ?_⟩) | ((with_reducible refine gate_callee (f := 20) rfl ?_); refine goesL_ (some 16) rfl rfl Tryd.func20 (by kernel_rfl) rfl #[.slice A1 l1.length c1, .int .i64 2, .int .i64 20] rfl (by (try simp only [List.map_toArray, List.map_cons, List.map_nil]); first | done | rfl | (simp only [List.length_drop, List.length_take]; rfl)) ?_; (with_reducible refine (Pa.pritchellaw09_word.calls k _ _ l1 2 20 t202 _ ?side1 ?side2 A5.out).mono ?_); (case side1 => repeat (first | exact HR1.out | (with_reducible refine Kd.C_alloc ?_ _) | (with_reducible refine Kd.C_drewN ?_ _) | (with_reducible refine Kd.C_drew ?_))); (case side2 => exact HC1.out); rintro e w' ⟨rfl, ⟨nd, rfl⟩⟩; refine ⟨_, rfl, ?_⟩) | ((with_reducible refine gate_callee (f := 21) rfl ?_); refine goesL_ (some 20) rfl rfl Tryd.func21 (by kernel_rfl) rfl #[.string t201, .string t202] rfl (by (try simp only [List.map_toArray, List.map_cons, List.map_nil]); first | done | rfl | (simp only [List.length_drop, List.length_take]; rfl)) ?_; (with_reducible refine (mark_Common.calls k t201 t202 t203 t204 _ ?side1 A6.out).mono ?_); (case side1 => exact tabs_below HT.out (by repeat (first | (with_reducible first | exact HB.out | apply below_alloc | apply pw_below_drewN | apply below_drew1) | exact HB.out))); rintro e w8 ⟨rfl, hb⟩; refine ⟨_, rfl, ?_⟩; have n0_ := Aside0.mk (below_step (by repeat (first | (with_reducible first | exact HB.out | apply below_alloc | apply pw_below_drewN | apply below_drew1) | exact HB.out)) hb); clear HB; have HB := n0_; clear n0_; (try clear hb); (try clear hb2); (try clear hk); (try clear hi)))
 (try simp only [Act.put, List.setIfInBounds_toArray, List.set_cons_zero, List.set_cons_succ])
 go_cut [40] (fun v40 wc => ∃ (kq : Nat) (x40_6 : Bool), v40 = .bool x40_6 ∧ Aside0 (pritchellaw09_MarkCommon.j0 kq l2 t201 t202 t203 x40_6 = some r) ∧ Aside0 (kq ≤ k) ∧ Aside0 (Below w.heap.size w wc))
 case first =>
  have H := HC7.out
  clear HC7
  by_cases c9 : t204 = 0
  ·rw [if_pos c9] at H
   have c9b0 : (t204 == 0) = true := beq_iff_eq.mpr c9
   have c9b1 : (t204 != 0) = false := bne_eq_false_iff_eq.mpr c9
   clear c9
   (first | rw [c9b0] | (simp only [i64_w, i32_w]; rw [c9b0]) | skip)
   replace H := Option.bind_eq_some_iff.mp H
   obtain ⟨t205, A100, H⟩ := H
   replace H : (if t205 = true then ((Pa.pritchelref09_Part.f k t203 t202).bind fun t206 => (if t206 = true then ((pritchellaw09_lives.f k).bind fun t207 => (pritchellaw09_MarkCommon.j0 k l2 t201 t202 t203 (!t207))) else (pritchellaw09_MarkCommon.j0 k l2 t201 t202 t203 true))) else (pritchellaw09_MarkCommon.j0 k l2 t201 t202 t203 true)) = some r := H
   have A10 := Aside0.mk A100
   clear A100
   by_cases c11 : t205 = true
   ·subst c11
    have H1 : ((Pa.pritchelref09_Part.f k t203 t202).bind fun t206 => (if t206 = true then ((pritchellaw09_lives.f k).bind fun t207 => (pritchellaw09_MarkCommon.j0 k l2 t201 t202 t203 (!t207))) else (pritchellaw09_MarkCommon.j0 k l2 t201 t202 t203 true))) = some r := by rw [if_pos rfl] at H; exact H
    clear H
    have H := H1
    clear H1
    replace H := Option.bind_eq_some_iff.mp H
    obtain ⟨t206, A120, H⟩ := H
    replace H : (if t206 = true then ((pritchellaw09_lives.f k).bind fun t207 => (pritchellaw09_MarkCommon.j0 k l2 t201 t202 t203 (!t207))) else (pritchellaw09_MarkCommon.j0 k l2 t201 t202 t203 true)) = some r := H
    have A12 := Aside0.mk A120
    clear A120
    by_cases c13 : t206 = true
    ·subst c13
     have H1 : ((pritchellaw09_lives.f k).bind fun t207 => (pritchellaw09_MarkCommon.j0 k l2 t201 t202 t203 (!t207))) = some r := by rw [if_pos rfl] at H; exact H
     clear H
     have H := H1
     clear H1
     replace H := Option.bind_eq_some_iff.mp H
     obtain ⟨t207, A140, H⟩ := H
     replace H : (pritchellaw09_MarkCommon.j0 k l2 t201 t202 t203 (!t207)) = some r := H
     have A14 := Aside0.mk A140
     clear A140
     have H' := Aside0.mk H
     clear H
     go_wp2_with (first | (go_at_call 22; (with_reducible refine (Pa.pritchelref09_Part.calls k t203 t201 true _ A10.out).mono ?_); rintro e w' ⟨rfl, ⟨nd, rfl⟩⟩) | (go_at_call 22; (with_reducible refine (Pa.pritchelref09_Part.calls k t203 t202 true _ A12.out).mono ?_); rintro e w' ⟨rfl, ⟨nd, rfl⟩⟩) | (go_at_call 19; (with_reducible refine (pritchellaw09_lives.calls k  t207 _ ?side1 A14.out).mono ?_); (case side1 => exact tabs_below HT.out (by repeat (first | (with_reducible first | exact HB.out | apply below_alloc | apply pw_below_drewN | apply below_drew1) | exact HB.out))); rintro e w15 ⟨rfl, hb⟩; have n0_ := Aside0.mk (below_step (by repeat (first | (with_reducible first | exact HB.out | apply below_alloc | apply pw_below_drewN | apply below_drew1) | exact HB.out)) hb); clear HB; have HB := n0_; clear n0_; (try clear hb); (try clear hb2); (try clear hk); (try clear hi)))
     go_meet
     case rel => exact ⟨_, (!t207), (by first | rfl | (simp; done) | (simp [*]; done)), H', ⟨by first | omega | exact Nat.le_refl _⟩, ⟨by repeat (first | (with_reducible first | exact HB.out | apply below_alloc | apply pw_below_drewN | apply below_drew1) | exact HB.out)⟩⟩
    ·replace c13 := Bool.eq_false_iff.mpr c13
     subst c13
     have H1 : (pritchellaw09_MarkCommon.j0 k l2 t201 t202 t203 true) = some r := by rw [if_neg (show ¬ (false = true) by decide)] at H; exact H
     clear H
     have H := H1
     clear H1
     have H' := Aside0.mk H
     clear H
     go_wp2_with (first | (go_at_call 22; (with_reducible refine (Pa.pritchelref09_Part.calls k t203 t201 true _ A10.out).mono ?_); rintro e w' ⟨rfl, ⟨nd, rfl⟩⟩) | (go_at_call 22; (with_reducible refine (Pa.pritchelref09_Part.calls k t203 t202 false _ A12.out).mono ?_); rintro e w' ⟨rfl, ⟨nd, rfl⟩⟩))
     go_meet
     case rel => exact ⟨_, (true), (by first | rfl | (simp; done) | (simp [*]; done)), H', ⟨by first | omega | exact Nat.le_refl _⟩, ⟨by repeat (first | (with_reducible first | exact HB.out | apply below_alloc | apply pw_below_drewN | apply below_drew1) | exact HB.out)⟩⟩
   ·replace c11 := Bool.eq_false_iff.mpr c11
    subst c11
    have H1 : (pritchellaw09_MarkCommon.j0 k l2 t201 t202 t203 true) = some r := by rw [if_neg (show ¬ (false = true) by decide)] at H; exact H
    clear H
    have H := H1
    clear H1
    have H' := Aside0.mk H
    clear H
    go_wp2_with (first | (go_at_call 22; (with_reducible refine (Pa.pritchelref09_Part.calls k t203 t201 false _ A10.out).mono ?_); rintro e w' ⟨rfl, ⟨nd, rfl⟩⟩))
    go_meet
    case rel => exact ⟨_, (true), (by first | rfl | (simp; done) | (simp [*]; done)), H', ⟨by first | omega | exact Nat.le_refl _⟩, ⟨by repeat (first | (with_reducible first | exact HB.out | apply below_alloc | apply pw_below_drewN | apply below_drew1) | exact HB.out)⟩⟩
  ·rw [if_neg c9] at H
   have c9b0 : (t204 == 0) = false := beq_eq_false_iff_ne.mpr c9
   have c9b1 : (t204 != 0) = true := bne_iff_ne.mpr c9
   (first | rw [c9b0] | (simp only [i64_w, i32_w]; rw [c9b0]) | skip)
   have H' := Aside0.mk H
   clear H
   go_wp2
   go_meet
   case rel => exact ⟨_, (true), (by first | rfl | (simp; done) | (simp [*]; done)), H', ⟨by first | omega | exact Nat.le_refl _⟩, ⟨by repeat (first | (with_reducible first | exact HB.out | apply below_alloc | apply pw_below_drewN | apply below_drew1) | exact HB.out)⟩⟩
 case rest =>
  clear HC7
  try clear c1
  try clear c2
  try clear p2
  try clear c4
  try clear c9
  try clear c9b0
  try clear c9b1
  try clear c11
  try clear c13
  obtain ⟨kq, x40_6, rfl, HA, HJ6, HB⟩ := hcut
  cases kq with
  | zero => exact absurd HA.out (by simp [pritchellaw09_MarkCommon.j0])
  | succ kj6 =>
   have H := HA.out
   clear HA
   simp only [pritchellaw09_MarkCommon.j0] at H
   by_cases c16 : x40_6 = true
   ·subst c16
    have H1 : (some false) = some r := by rw [if_pos rfl] at H; exact H
    clear H
    have H := H1
    clear H1
    obtain rfl := Option.some.inj H
    go_wp2
    go_ret
    exact ⟨by first | rfl | (simp [errW_none, errW_some] <;> rfl) | (simp [*, errW_none, errW_some] <;> rfl), by repeat (first | (with_reducible first | exact HB.out | apply below_alloc | apply pw_below_drewN | apply below_drew1) | exact HB.out)⟩
   ·replace c16 := Bool.eq_false_iff.mpr c16
    subst c16
    have H1 : (pritchellaw09_MarkCommon.l0 kj6 l2 t201 t202 t203 (⟨#[]⟩ : ByteArray) 0) = some r := by rw [if_neg (show ¬ (false = true) by decide)] at H; exact H
    clear H
    have H := H1
    clear H1
    have H' := Aside0.mk H
    clear H
    go_wp2
    go_loopg [11, 12] kj6 (fun kq v11 v12 w' => ∃ (x11_2 : ByteArray) (x12_2 : Int), v11 = .string x11_2 ∧ v12 = .int .i64 x12_2 ∧ Aside0 (pritchellaw09_MarkCommon.l0 kq l2 t201 t202 t203 x11_2 x12_2 = some r) ∧ Aside0 (kq ≤ kj6) ∧ Aside0 (Below w.heap.size w w'))
    case atStart => exact ⟨((⟨#[]⟩ : ByteArray)), (0), (by first | rfl | (simp; done) | (simp [*]; done)), (by first | rfl | (simp; done) | (simp [*]; done)), H', ⟨Nat.le_refl _⟩, ⟨by repeat (first | (with_reducible first | exact HB.out | apply below_alloc | apply pw_below_drewN | apply below_drew1) | exact HB.out)⟩⟩
    case round =>
     clear H'
     try clear c1
     try clear c2
     try clear p2
     try clear c4
     try clear c9
     try clear c9b0
     try clear c9b1
     try clear c11
     try clear c13
     try clear c16
     try clear p2
     obtain ⟨x11_2, x12_2, rfl, rfl, HA, HK2, HB⟩ := hrel
     cases gk with
     | zero => exact absurd HA.out (by simp [pritchellaw09_MarkCommon.l0])
     | succ k2 =>
      have H := HA.out
      clear HA
      simp only [pritchellaw09_MarkCommon.l0] at H
      by_cases c17 : x12_2 < (t201.size : Int)
      ·rw [if_pos c17] at H
       have c17b0 : decide (x12_2 < (t201.size : Int)) = true := decide_eq_true c17
       clear c17
       by_cases c18 : x12_2 ≥ (l2.length : Int)
       ·rw [if_pos c18] at H
        have c18b0 : decide ((l2.length : Int) ≤ x12_2) = true := decide_eq_true c18
        clear c18
        by_cases c19 : 0 ≤ x12_2
        ·rw [if_pos c19] at H
         have c19b0 := eq_true c19
         have c19b1 : decide (0 ≤ x12_2) = true := decide_eq_true c19
         clear c19
         by_cases c20 : x12_2 ≤ (wrap64 (x12_2 + 1))
         ·rw [if_pos c20] at H
          have c20b0 := eq_true c20
          have c20b1 : decide (x12_2 ≤ (wrap64 (x12_2 + 1))) = true := decide_eq_true c20
          by_cases c21 : (wrap64 (x12_2 + 1)) ≤ (t201.size : Int)
          ·rw [if_pos c21] at H
           have c21b0 := eq_true c21
           have c21b1 : decide ((wrap64 (x12_2 + 1)) ≤ (t201.size : Int)) = true := decide_eq_true c21
           by_cases c22 : x11_2.size + (t201.extract (x12_2 : Int).toNat ((wrap64 (x12_2 + 1)) : Int).toNat).size ≤ 9223372036854775807
           ·rw [if_pos c22] at H
            have c22b0 := eq_true c22
            have c22b1 : decide (x11_2.size + (t201.extract (x12_2 : Int).toNat ((wrap64 (x12_2 + 1)) : Int).toNat).size ≤ 9223372036854775807) = true := decide_eq_true c22
            try have c22b2 : (9223372036854775807 < x11_2.size + (t201.extract (x12_2 : Int).toNat ((wrap64 (x12_2 + 1)) : Int).toNat).size) = False := eq_false (Nat.not_lt.2 c22)
            have H' := Aside0.mk H
            clear H
            go_wp2
            go_roundg k2
            case measure => have := HJ6.out; have := HK2.out; omega
            case rel => exact ⟨(x11_2 ++ (t201.extract (x12_2 : Int).toNat ((wrap64 (x12_2 + 1)) : Int).toNat)), (wrap64 (x12_2 + 1)), (by first | rfl | (simp; done) | (simp [*]; done)), (by first | rfl | (simp; done) | (simp [*]; done)), H', ⟨by have := HJ6.out; have := HK2.out; omega⟩, ⟨by repeat (first | (with_reducible first | exact HB.out | apply below_alloc | apply pw_below_drewN | apply below_drew1) | exact HB.out)⟩⟩
           ·rw [if_neg c22] at H
            exact absurd H (by simp)
          ·rw [if_neg c21] at H
           exact absurd H (by simp)
         ·rw [if_neg c20] at H
          exact absurd H (by simp)
        ·rw [if_neg c19] at H
         exact absurd H (by simp)
       ·rw [if_neg c18] at H
        have c18b0 : decide ((l2.length : Int) ≤ x12_2) = false := decide_eq_false c18
        clear c18
        by_cases c23 : 0 ≤ x12_2
        ·rw [if_pos c23] at H
         have c23b0 : decide (0 ≤ x12_2) = true := decide_eq_true c23
         clear c23
         by_cases c24 : x12_2 < (l2.length : Int)
         ·rw [if_pos c24] at H
          have c24b0 : decide (x12_2 < (l2.length : Int)) = true := decide_eq_true c24
          clear c24
          by_cases c25 : (Int.tmod (rd l2 x12_2) 3) > 0
          ·rw [if_pos c25] at H
           have c25b0 : decide (0 < (Int.tmod (rd l2 x12_2) 3)) = true := decide_eq_true c25
           clear c25
           have c26b0 := eq_true (of_decide_eq_true (by first | (with_reducible assumption) | assumption) : 0 ≤ x12_2)
           by_cases c27 : x12_2 ≤ (wrap64 (x12_2 + 1))
           ·rw [if_pos c27] at H
            have c27b0 := eq_true c27
            have c27b1 : decide (x12_2 ≤ (wrap64 (x12_2 + 1))) = true := decide_eq_true c27
            by_cases c28 : (wrap64 (x12_2 + 1)) ≤ (t201.size : Int)
            ·rw [if_pos c28] at H
             have c28b0 := eq_true c28
             have c28b1 : decide ((wrap64 (x12_2 + 1)) ≤ (t201.size : Int)) = true := decide_eq_true c28
             by_cases c29 : x11_2.size + (t201.extract (x12_2 : Int).toNat ((wrap64 (x12_2 + 1)) : Int).toNat).size ≤ 9223372036854775807
             ·rw [if_pos c29] at H
              have c29b0 := eq_true c29
              have c29b1 : decide (x11_2.size + (t201.extract (x12_2 : Int).toNat ((wrap64 (x12_2 + 1)) : Int).toNat).size ≤ 9223372036854775807) = true := decide_eq_true c29
              try have c29b2 : (9223372036854775807 < x11_2.size + (t201.extract (x12_2 : Int).toNat ((wrap64 (x12_2 + 1)) : Int).toNat).size) = False := eq_false (Nat.not_lt.2 c29)
              have H' := Aside0.mk H
              clear H
              have p208 : 0 ≤ (x12_2 : Int) := of_decide_eq_true (by first | (with_reducible assumption) | assumption)
              have q208 : x12_2 < (l2.length : Int) := of_decide_eq_true (by first | (with_reducible assumption) | assumption)
              obtain ⟨ad208, e208, hx208_0⟩ := Kd.at_int HR2.out x12_2 p208 q208
              cases e208
              replace hx208_0 := (HB.out.cell (World.block_lt_of_cell? w _ hx208_0)).trans hx208_0
              replace p208 := eq_true p208
              replace q208 := eq_true q208
              go_wp2
              go_roundg k2
              case measure => have := HJ6.out; have := HK2.out; omega
              case rel => exact ⟨(x11_2 ++ (t201.extract (x12_2 : Int).toNat ((wrap64 (x12_2 + 1)) : Int).toNat)), (wrap64 (x12_2 + 1)), (by first | rfl | (simp; done) | (simp [*]; done)), (by first | rfl | (simp; done) | (simp [*]; done)), H', ⟨by have := HJ6.out; have := HK2.out; omega⟩, ⟨by repeat (first | (with_reducible first | exact HB.out | apply below_alloc | apply pw_below_drewN | apply below_drew1) | exact HB.out)⟩⟩
             ·rw [if_neg c29] at H
              exact absurd H (by simp)
            ·rw [if_neg c28] at H
             exact absurd H (by simp)
           ·rw [if_neg c27] at H
            exact absurd H (by simp)
          ·rw [if_neg c25] at H
           have c25b0 : decide (0 < (Int.tmod (rd l2 x12_2) 3)) = false := decide_eq_false c25
           clear c25
           have H' := Aside0.mk H
           clear H
           have p208 : 0 ≤ (x12_2 : Int) := of_decide_eq_true (by first | (with_reducible assumption) | assumption)
           have q208 : x12_2 < (l2.length : Int) := of_decide_eq_true (by first | (with_reducible assumption) | assumption)
           obtain ⟨ad208, e208, hx208_0⟩ := Kd.at_int HR2.out x12_2 p208 q208
           cases e208
           replace hx208_0 := (HB.out.cell (World.block_lt_of_cell? w _ hx208_0)).trans hx208_0
           replace p208 := eq_true p208
           replace q208 := eq_true q208
           go_wp2
           go_roundg k2
           case measure => have := HJ6.out; have := HK2.out; omega
           case rel => exact ⟨(x11_2), (wrap64 (x12_2 + 1)), (by first | rfl | (simp; done) | (simp [*]; done)), (by first | rfl | (simp; done) | (simp [*]; done)), H', ⟨by have := HJ6.out; have := HK2.out; omega⟩, ⟨by repeat (first | (with_reducible first | exact HB.out | apply below_alloc | apply pw_below_drewN | apply below_drew1) | exact HB.out)⟩⟩
         ·rw [if_neg c24] at H
          exact absurd H (by simp)
        ·rw [if_neg c23] at H
         exact absurd H (by simp)
      ·rw [if_neg c17] at H
       have c17b0 : decide (x12_2 < (t201.size : Int)) = false := decide_eq_false c17
       clear c17
       replace H := Option.bind_eq_some_iff.mp H
       obtain ⟨t209, A300, H⟩ := H
       replace H : (if t209 = true then (if (x11_2.size : Int) < (t203.size : Int) then (some true) else (if (x11_2.size : Int) = (t203.size : Int) then (some (!(Op.bytesLess x11_2.toList t203.toList))) else (some false))) else (some true)) = some r := H
       have A30 := Aside0.mk A300
       clear A300
       by_cases c31 : t209 = true
       ·subst c31
        have H1 : (if (x11_2.size : Int) < (t203.size : Int) then (some true) else (if (x11_2.size : Int) = (t203.size : Int) then (some (!(Op.bytesLess x11_2.toList t203.toList))) else (some false))) = some r := by rw [if_pos rfl] at H; exact H
        clear H
        have H := H1
        clear H1
        by_cases c32 : (x11_2.size : Int) < (t203.size : Int)
        ·rw [if_pos c32] at H
         have c32b0 : decide ((x11_2.size : Int) < (t203.size : Int)) = true := decide_eq_true c32
         have c32b1 : decide (x11_2.size < t203.size) = true := decide_eq_true (Int.ofNat_lt.mp c32)
         clear c32
         obtain rfl := Option.some.inj H
         go_wp2_with (first | ((with_reducible refine gate_callee (f := 22) rfl ?_); refine goesL_ (some 68) rfl rfl Tryd.func22 (by kernel_rfl) rfl #[.string x11_2, .string t202] rfl (by (try simp only [List.map_toArray, List.map_cons, List.map_nil]); first | done | rfl | (simp only [List.length_drop, List.length_take]; rfl)) ?_; (with_reducible refine (Pa.pritchelref09_Part.calls k2 x11_2 t202 true _ A30.out).mono ?_); rintro e w' ⟨rfl, ⟨nd, rfl⟩⟩; refine ⟨_, rfl, ?_⟩))
         go_ret
         exact ⟨by first | rfl | (simp [errW_none, errW_some] <;> rfl) | (simp [*, errW_none, errW_some] <;> rfl), by repeat (first | (with_reducible first | exact HB.out | apply below_alloc | apply pw_below_drewN | apply below_drew1) | exact HB.out)⟩
        ·rw [if_neg c32] at H
         have c32b0 : decide ((x11_2.size : Int) < (t203.size : Int)) = false := decide_eq_false c32
         have c32b1 : decide (x11_2.size < t203.size) = false := decide_eq_false (fun h => c32 (Int.ofNat_lt.mpr h))
         clear c32
         by_cases c33 : (x11_2.size : Int) = (t203.size : Int)
         ·rw [if_pos c33] at H
          have c33b0 : ((x11_2.size : Int) == (t203.size : Int)) = true := beq_iff_eq.mpr c33
          have c33b1 : ((x11_2.size : Int) != (t203.size : Int)) = false := bne_eq_false_iff_eq.mpr c33
          have c33b2 : (x11_2.size == t203.size) = true := by first | simpa using c33 | (simp at c33 ⊢; omega)
          clear c33
          obtain rfl := Option.some.inj H
          go_wp2_with (first | ((with_reducible refine gate_callee (f := 22) rfl ?_); refine goesL_ (some 68) rfl rfl Tryd.func22 (by kernel_rfl) rfl #[.string x11_2, .string t202] rfl (by (try simp only [List.map_toArray, List.map_cons, List.map_nil]); first | done | rfl | (simp only [List.length_drop, List.length_take]; rfl)) ?_; (with_reducible refine (Pa.pritchelref09_Part.calls k2 x11_2 t202 true _ A30.out).mono ?_); rintro e w' ⟨rfl, ⟨nd, rfl⟩⟩; refine ⟨_, rfl, ?_⟩))
          go_ret
          exact ⟨by first | rfl | (simp [errW_none, errW_some] <;> rfl) | (simp [*, errW_none, errW_some] <;> rfl), by repeat (first | (with_reducible first | exact HB.out | apply below_alloc | apply pw_below_drewN | apply below_drew1) | exact HB.out)⟩
         ·rw [if_neg c33] at H
          have c33b0 : ((x11_2.size : Int) == (t203.size : Int)) = false := beq_eq_false_iff_ne.mpr c33
          have c33b1 : ((x11_2.size : Int) != (t203.size : Int)) = true := bne_iff_ne.mpr c33
          have c33b2 : (x11_2.size == t203.size) = false := by first | simpa using c33 | (simp at c33 ⊢; omega)
          obtain rfl := Option.some.inj H
          go_wp2_with (first | ((with_reducible refine gate_callee (f := 22) rfl ?_); refine goesL_ (some 68) rfl rfl Tryd.func22 (by kernel_rfl) rfl #[.string x11_2, .string t202] rfl (by (try simp only [List.map_toArray, List.map_cons, List.map_nil]); first | done | rfl | (simp only [List.length_drop, List.length_take]; rfl)) ?_; (with_reducible refine (Pa.pritchelref09_Part.calls k2 x11_2 t202 true _ A30.out).mono ?_); rintro e w' ⟨rfl, ⟨nd, rfl⟩⟩; refine ⟨_, rfl, ?_⟩))
          go_ret
          exact ⟨by first | rfl | (simp [errW_none, errW_some] <;> rfl) | (simp [*, errW_none, errW_some] <;> rfl), by repeat (first | (with_reducible first | exact HB.out | apply below_alloc | apply pw_below_drewN | apply below_drew1) | exact HB.out)⟩
       ·replace c31 := Bool.eq_false_iff.mpr c31
        subst c31
        have H1 : (some true) = some r := by rw [if_neg (show ¬ (false = true) by decide)] at H; exact H
        clear H
        have H := H1
        clear H1
        obtain rfl := Option.some.inj H
        go_wp2_with (first | ((with_reducible refine gate_callee (f := 22) rfl ?_); refine goesL_ (some 68) rfl rfl Tryd.func22 (by kernel_rfl) rfl #[.string x11_2, .string t202] rfl (by (try simp only [List.map_toArray, List.map_cons, List.map_nil]); first | done | rfl | (simp only [List.length_drop, List.length_take]; rfl)) ?_; (with_reducible refine (Pa.pritchelref09_Part.calls k2 x11_2 t202 false _ A30.out).mono ?_); rintro e w' ⟨rfl, ⟨nd, rfl⟩⟩; refine ⟨_, rfl, ?_⟩))
        go_ret
        exact ⟨by first | rfl | (simp [errW_none, errW_some] <;> rfl) | (simp [*, errW_none, errW_some] <;> rfl), by repeat (first | (with_reducible first | exact HB.out | apply below_alloc | apply pw_below_drewN | apply below_drew1) | exact HB.out)⟩

/-- THE ONE PURE STATEMENT of pritchellaw09_MarkCommon: yours. -/
def pritchellaw09_MarkCommon.Pure : Prop := ∀ (l0 : List Int) (l1 : List Int) (l2 : List Int), l0.length ≤ maxLen → l0.length * 1 ≤ 140737488351232 → (∀ x ∈ l0, (Lit.int .u8 x).wf = true) → l1.length ≤ maxLen → l1.length * 1 ≤ 140737488351232 → (∀ x ∈ l1, (Lit.int .u8 x).wf = true) → l2.length ≤ maxLen → l2.length * 1 ≤ 140737488351232 → (∀ x ∈ l2, (Lit.int .u8 x).wf = true) → ∃ k, pritchellaw09_MarkCommon.f k l0 l1 l2 = some true
theorem pritchellaw09_MarkCommon.walk (P : pritchellaw09_MarkCommon.Pure) (a0 : Option Addr) (len0 cap0 : Nat) (z0 : List Int) (a1 : Option Addr) (len1 cap1 : Nat) (z1 : List Int) (a2 : Option Addr) (len2 cap2 : Nat) (z2 : List Int) (w : World) (w0 : (a0 = none ∧ len0 = 0 ∧ cap0 = 0 ∧ z0 = []) ∨ ∃ x, a0 = some x ∧ len0 ≤ cap0 ∧ cap0 ≤ maxLen ∧ z0.length = cap0 ∧ (∀ i, i < z0.length → w.cell? (x.add i) = some (.int .u8 (z0.getD i 0))) ∧ ∀ n ∈ z0, (Lit.int .u8 n).wf = true) (y0 : len0 * 1 ≤ 140737488351232) (w1 : (a1 = none ∧ len1 = 0 ∧ cap1 = 0 ∧ z1 = []) ∨ ∃ x, a1 = some x ∧ len1 ≤ cap1 ∧ cap1 ≤ maxLen ∧ z1.length = cap1 ∧ (∀ i, i < z1.length → w.cell? (x.add i) = some (.int .u8 (z1.getD i 0))) ∧ ∀ n ∈ z1, (Lit.int .u8 n).wf = true) (y1 : len1 * 1 ≤ 140737488351232) (w2 : (a2 = none ∧ len2 = 0 ∧ cap2 = 0 ∧ z2 = []) ∨ ∃ x, a2 = some x ∧ len2 ≤ cap2 ∧ cap2 ≤ maxLen ∧ z2.length = cap2 ∧ (∀ i, i < z2.length → w.cell? (x.add i) = some (.int .u8 (z2.getD i 0))) ∧ ∀ n ∈ z2, (Lit.int .u8 n).wf = true) (y2 : len2 * 1 ≤ 140737488351232) (hT : Lib.Utf8Tabs 0 1 w) :
  Calls Tryd.prog 4 #[.slice a0 len0 cap0, .slice a1 len1 cap1, .slice a2 len2 cap2] w fun e w' => e = .returned (.bool true) ∧ Below w.heap.size w w' := by
 obtain ⟨l0, rfl, hr0, hm0, hw0, hc0⟩ := ReadsInt.ofRowC w0
 obtain ⟨l1, rfl, hr1, hm1, hw1, hc1⟩ := ReadsInt.ofRowC w1
 obtain ⟨l2, rfl, hr2, hm2, hw2, hc2⟩ := ReadsInt.ofRowC w2
 obtain ⟨k, h⟩ := P l0 l1 l2 hm0 y0 hw0 hm1 y1 hw1 hm2 y2 hw2
 refine (pritchellaw09_MarkCommon.calls k _ _ l0 _ _ l1 _ _ l2 true w (Kd.C_of_reads (d := (0 : Int)) (h1 := fun _ => rfl) hr0) hc0 (Kd.C_of_reads (d := (0 : Int)) (h1 := fun _ => rfl) hr1) hc1 (Kd.C_of_reads (d := (0 : Int)) (h1 := fun _ => rfl) hr2) hc2 hT h).mono ?_
 rintro e w' ⟨rfl, hd⟩
 exact ⟨rfl, hd⟩

end Go.Proofs.YtopmcoohdhlnaaaDoor.Pb
