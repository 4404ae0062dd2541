/- Printed by a program of this session (print2.py). -/
import Derived.ArgAppend
import Derived.Below
import Derived.BigQuiet
import Derived.ChangeSlices
import Derived.Deep.AppendLies
import Derived.Deep.CutBlock
import Derived.Deep.DeepCutAuto
import Derived.Deep.Draws
import Derived.Deep.LoopGhost
import Derived.Deep.OwnRows
import Derived.Deep.QuietTactic
import Derived.Deep.RegionHeld3
import Derived.KernelRfl
import Derived.Laws.BitsLemmas
import Derived.Laws.BytesArg
import Derived.Laws.IdiomCopy
import Derived.Laws.MakeOwn
import Derived.Laws.OwnMore
import Derived.Laws.RangeAny
import Derived.Laws.Rows
import Derived.Laws.Slices
import Derived.Laws.StructEq
import Derived.Lib.AppendStr
import Derived.Lib.ConvBytes
import Derived.Lib.Hide
import Derived.Lib.OthersKept
import Derived.Lib.SliceRun
import Derived.Lib.TrimUEq
import Derived.Maps.AppendAt
import Derived.OrdersHeld
import Derived.Outline
import Derived.OwnWalk
import Derived.RowKit
import Derived.RowKit3
import Derived.Shelf.Slices.CompactS
import Derived.Shelf.Slices.In.SortNone
import Derived.Shelf.Small.Utf8
import Derived.Shelf.Sort.Plain
import Derived.Shelf.Strings.Builder1
import Derived.Shelf.Strings.Builder2
import Derived.Shelf.Strings.OnBuilder
import Derived.Shelf.Unicode.DecodeAny
import Derived.Shelf.Unicode.DecodeLast
import Derived.Shelf.Unicode.DecodeSlow
import Derived.SizedLaws
import Derived.Sort.OwnSorted
import Derived.Tactics
import Derived.Test.YtopmcoohdhlnaaaDoorProg
import Derived.WalkKit
import Derived.WalkSmall
import Derived.WalkSpells
import Derived.WideLaws
import Derived.Test.YtopmcoohdhlnaaaDoorG0
import Derived.Test.YtopmcoohdhlnaaaDoorPa0
import Derived.Test.YtopmcoohdhlnaaaDoorPa1
import Derived.Test.YtopmcoohdhlnaaaDoorPa11
import Derived.Test.YtopmcoohdhlnaaaDoorPa5
import Derived.Test.YtopmcoohdhlnaaaDoorPb0
import Derived.Test.YtopmcoohdhlnaaaDoorPb12
import Derived.Test.YtopmcoohdhlnaaaDoorPb6
import Derived.Test.YtopmcoohdhlnaaaDoorPb7
import Derived.Test.YtopmcoohdhlnaaaDoorWApart
import Derived.Test.YtopmcoohdhlnaaaDoorWLast
import Derived.Test.YtopmcoohdhlnaaaDoorWMore
import Derived.Test.YtopmcoohdhlnaaaDoorWShare
import Derived.Test.YtopmcoohdhlnaaaDoorWWords
namespace Go.Proofs.YtopmcoohdhlnaaaDoor.Pb
open Go.RowKit Go.Proofs.YtopmcoohdhlnaaaDoorW.PrintWords Go.Proofs.YtopmcoohdhlnaaaDoorW.PrintLast Go.Proofs.YtopmcoohdhlnaaaDoorW.PrintMore
attribute [local go_sem] max2_int min2_int max_two min_two max_three min_three max_four min_four   -- for this text's walks alone
set_option linter.unusedVariables false
set_option linter.unusedSimpArgs false

/-! ### pritchellaw09_MarkCommons: function 7 -/
mutual
def pritchellaw09_MarkCommons.j0 : Nat → ByteArray → ByteArray → ByteArray → Int → Int → Int → Int → Int → Bool → Option (Bool)
 | 0, _, _, _, _, _, _, _, _, _ => none
 | k + 1, x5, x6, x7, x8, x9, x10, x12, x13, x41 => if x41 = true then (pritchellaw09_MarkCommons.j1 k x5 x6 x7 x8 x9 x10 x12) else (pritchellaw09_MarkCommons.j1 k x5 x6 x7 x8 x9 x10 x13)
def pritchellaw09_MarkCommons.j1 : Nat → ByteArray → ByteArray → ByteArray → Int → Int → Int → Int → Option (Bool)
 | 0, _, _, _, _, _, _, _ => none
 | k + 1, x5, x6, x7, x8, x9, x10, x13 => if x13 = 0 then ((Pa.pritchelref09_Common.f k x5 x6).bind fun t263 => (if x7.toList = t263.toList then (if x8 = 0 then (if x9 = (wrap64 ((wrap64 ((x5.size : Int) + (x6.size : Int))) - (wrap64 (2 * (t263.size : Int))))) then (if x10 = 0 then ((pritchellaw09_lives.f k).bind fun t264 => (some t264)) else (some false)) else (some false)) else (some false)) else (some false))) else (if x7.toList = ([] : List UInt8) then (if x8 = x13 then (if x9 = 0 then (if x10 = x13 then ((pritchellaw09_lives.f k).bind fun t265 => (some t265)) else (some false)) else (some false)) else (some false)) else (some false))
end
def pritchellaw09_MarkCommons.f (k : Nat) (a0 : ByteArray) (a1 : ByteArray) : Option (Bool) := (Pa.pritchellaw09_cut.f a0 21).bind fun t255 => ((Pa.pritchellaw09_cut.f a1 21).bind fun t256 => ((mark_Common.f k t255 t256).bind fun bt257 => ((mark_Distance.f k t255 t256).bind fun bt259 => ((Pa.pritchelref09_Word.f k t255 2 20).bind fun t261 => ((Pa.pritchelref09_Word.f k t256 2 20).bind fun t262 => (if t261 = 0 then (pritchellaw09_MarkCommons.j0 k t255 t256 bt257.1 bt257.2 bt259.1 bt259.2 t262 t261 true) else (pritchellaw09_MarkCommons.j0 k t255 t256 bt257.1 bt257.2 bt259.1 bt259.2 t262 t261 (t262 == 3))))))))
set_option maxHeartbeats 8000000 in
set_option maxRecDepth 100000 in
theorem pritchellaw09_MarkCommons.calls (k : Nat) (a0 : ByteArray) (a1 : ByteArray) (r : Bool) (w : World) (hT : Lib.Utf8Tabs 0 1 w) (h : pritchellaw09_MarkCommons.f k a0 a1 = some r) :
  Calls Tryd.prog 7 #[.string a0, .string a1] w fun e w' => e = .returned (.bool r) ∧ Below w.heap.size w w' := by
 have HB := Aside0.mk (Below.refl w.heap.size w)
 have HT := Aside0.mk hT
 clear hT
 have H : ((Pa.pritchellaw09_cut.f a0 21).bind fun t255 => ((Pa.pritchellaw09_cut.f a1 21).bind fun t256 => ((mark_Common.f k t255 t256).bind fun bt257 => ((mark_Distance.f k t255 t256).bind fun bt259 => ((Pa.pritchelref09_Word.f k t255 2 20).bind fun t261 => ((Pa.pritchelref09_Word.f k t256 2 20).bind fun t262 => (if t261 = 0 then (pritchellaw09_MarkCommons.j0 k t255 t256 bt257.1 bt257.2 bt259.1 bt259.2 t262 t261 true) else (pritchellaw09_MarkCommons.j0 k t255 t256 bt257.1 bt257.2 bt259.1 bt259.2 t262 t261 (t262 == 3))))))))) = some r := h
 clear h
 replace H := Option.bind_eq_some_iff.mp H
 obtain ⟨t255, A30, H⟩ := H
 replace H : ((Pa.pritchellaw09_cut.f a1 21).bind fun t256 => ((mark_Common.f k t255 t256).bind fun bt257 => ((mark_Distance.f k t255 t256).bind fun bt259 => ((Pa.pritchelref09_Word.f k t255 2 20).bind fun t261 => ((Pa.pritchelref09_Word.f k t256 2 20).bind fun t262 => (if t261 = 0 then (pritchellaw09_MarkCommons.j0 k t255 t256 bt257.1 bt257.2 bt259.1 bt259.2 t262 t261 true) else (pritchellaw09_MarkCommons.j0 k t255 t256 bt257.1 bt257.2 bt259.1 bt259.2 t262 t261 (t262 == 3)))))))) = some r := H
 have A3 := Aside0.mk A30
 clear A30
 replace H := Option.bind_eq_some_iff.mp H
 obtain ⟨t256, A40, H⟩ := H
 replace H : ((mark_Common.f k t255 t256).bind fun bt257 => ((mark_Distance.f k t255 t256).bind fun bt259 => ((Pa.pritchelref09_Word.f k t255 2 20).bind fun t261 => ((Pa.pritchelref09_Word.f k t256 2 20).bind fun t262 => (if t261 = 0 then (pritchellaw09_MarkCommons.j0 k t255 t256 bt257.1 bt257.2 bt259.1 bt259.2 t262 t261 true) else (pritchellaw09_MarkCommons.j0 k t255 t256 bt257.1 bt257.2 bt259.1 bt259.2 t262 t261 (t262 == 3))))))) = some r := H
 have A4 := Aside0.mk A40
 clear A40
 replace H := Option.bind_eq_some_iff.mp H
 obtain ⟨⟨t257, t258⟩, A50, H⟩ := H
 replace H : ((mark_Distance.f k t255 t256).bind fun bt259 => ((Pa.pritchelref09_Word.f k t255 2 20).bind fun t261 => ((Pa.pritchelref09_Word.f k t256 2 20).bind fun t262 => (if t261 = 0 then (pritchellaw09_MarkCommons.j0 k t255 t256 t257 t258 bt259.1 bt259.2 t262 t261 true) else (pritchellaw09_MarkCommons.j0 k t255 t256 t257 t258 bt259.1 bt259.2 t262 t261 (t262 == 3)))))) = some r := H
 have A5 := Aside0.mk A50
 clear A50
 replace H := Option.bind_eq_some_iff.mp H
 obtain ⟨⟨t259, t260⟩, A60, H⟩ := H
 replace H : ((Pa.pritchelref09_Word.f k t255 2 20).bind fun t261 => ((Pa.pritchelref09_Word.f k t256 2 20).bind fun t262 => (if t261 = 0 then (pritchellaw09_MarkCommons.j0 k t255 t256 t257 t258 t259 t260 t262 t261 true) else (pritchellaw09_MarkCommons.j0 k t255 t256 t257 t258 t259 t260 t262 t261 (t262 == 3))))) = some r := H
 have A6 := Aside0.mk A60
 clear A60
 replace H := Option.bind_eq_some_iff.mp H
 obtain ⟨t261, A70, H⟩ := H
 replace H : ((Pa.pritchelref09_Word.f k t256 2 20).bind fun t262 => (if t261 = 0 then (pritchellaw09_MarkCommons.j0 k t255 t256 t257 t258 t259 t260 t262 t261 true) else (pritchellaw09_MarkCommons.j0 k t255 t256 t257 t258 t259 t260 t262 t261 (t262 == 3)))) = some r := H
 have A7 := Aside0.mk A70
 clear A70
 replace H := Option.bind_eq_some_iff.mp H
 obtain ⟨t262, A80, H⟩ := H
 replace H : (if t261 = 0 then (pritchellaw09_MarkCommons.j0 k t255 t256 t257 t258 t259 t260 t262 t261 true) else (pritchellaw09_MarkCommons.j0 k t255 t256 t257 t258 t259 t260 t262 t261 (t262 == 3))) = some r := H
 have A8 := Aside0.mk A80
 clear A80
 have HC9 := Aside0.mk H
 clear H
 go_enter Tryd.func7, Tryd.ntmps7
 go_upto_region 6 with (first | ((with_reducible refine gate_callee (f := 13) rfl ?_); refine goesL_ (some 16) rfl rfl Tryd.func13 (by kernel_rfl) rfl #[.string a0, .int .i64 21] rfl (by (try simp only [List.map_toArray, List.map_cons, List.map_nil]); first | done | rfl | (simp only [List.length_drop, List.length_take]; rfl)) ?_; (with_reducible refine (Pa.pritchellaw09_cut.calls a0 21 t255 _ A3.out).mono ?_); rintro e w10 ⟨rfl, hb⟩; refine ⟨_, rfl, ?_⟩; have n0_ := Aside0.mk (below_step (by repeat (first | (with_reducible first | exact HB.out | apply below_alloc | apply pw_below_drewN | apply below_drew1) | exact HB.out)) hb); clear HB; have HB := n0_; clear n0_; (try clear hb); (try clear hb2); (try clear hk); (try clear hi)) | ((with_reducible refine gate_callee (f := 13) rfl ?_); refine goesL_ (some 18) rfl rfl Tryd.func13 (by kernel_rfl) rfl #[.string a1, .int .i64 21] rfl (by (try simp only [List.map_toArray, List.map_cons, List.map_nil]); first | done | rfl | (simp only [List.length_drop, List.length_take]; rfl)) ?_; (with_reducible refine (Pa.pritchellaw09_cut.calls a1 21 t256 _ A4.out).mono ?_); rintro e w11 ⟨rfl, hb⟩; refine ⟨_, rfl, ?_⟩; have n0_ := Aside0.mk (below_step (by repeat (first | (with_reducible first | exact HB.out | apply below_alloc | apply pw_below_drewN | apply below_drew1) | exact HB.out)) hb); clear HB; have HB := n0_; clear n0_; (try clear hb); (try clear hb2); (try clear hk); (try clear hi)) | ((with_reducible refine gate_callee (f := 21) rfl ?_); refine goesL_ (some 22) rfl rfl Tryd.func21 (by kernel_rfl) rfl #[.string t255, .string t256] rfl (by (try simp only [List.map_toArray, List.map_cons, List.map_nil]); first | done | rfl | (simp only [List.length_drop, List.length_take]; rfl)) ?_; (with_reducible refine (mark_Common.calls k t255 t256 t257 t258 _ ?side1 A5.out).mono ?_); (case side1 => exact tabs_below HT.out (by repeat (first | (with_reducible first | exact HB.out | apply below_alloc | apply pw_below_drewN | apply below_drew1) | exact HB.out))); rintro e w12 ⟨rfl, hb⟩; refine ⟨_, rfl, ?_⟩; have n0_ := Aside0.mk (below_step (by repeat (first | (with_reducible first | exact HB.out | apply below_alloc | apply pw_below_drewN | apply below_drew1) | exact HB.out)) hb); clear HB; have HB := n0_; clear n0_; (try clear hb); (try clear hb2); (try clear hk); (try clear hi)) | ((with_reducible refine gate_callee (f := 26) rfl ?_); refine goesL_ (some 28) rfl rfl Tryd.func26 (by kernel_rfl) rfl #[.string t255, .string t256] rfl (by (try simp only [List.map_toArray, List.map_cons, List.map_nil]); first | done | rfl | (simp only [List.length_drop, List.length_take]; rfl)) ?_; (with_reducible refine (mark_Distance.calls k t255 t256 t259 t260 _ ?side1 A6.out).mono ?_); (case side1 => exact tabs_below HT.out (by repeat (first | (with_reducible first | exact HB.out | apply below_alloc | apply pw_below_drewN | apply below_drew1) | exact HB.out))); rintro e w13 ⟨rfl, hb⟩; refine ⟨_, rfl, ?_⟩; have n0_ := Aside0.mk (below_step (by repeat (first | (with_reducible first | exact HB.out | apply below_alloc | apply pw_below_drewN | apply below_drew1) | exact HB.out)) hb); clear HB; have HB := n0_; clear n0_; (try clear hb); (try clear hb2); (try clear hk); (try clear hi)) | ((with_reducible refine gate_callee (f := 16) rfl ?_); refine goesL_ (some 32) rfl rfl Tryd.func16 (by kernel_rfl) rfl #[.string t255, .int .i64 2, .int .i64 20] rfl (by (try simp only [List.map_toArray, List.map_cons, List.map_nil]); first | done | rfl | (simp only [List.length_drop, List.length_take]; rfl)) ?_; (with_reducible refine (Pa.pritchelref09_Word.calls k t255 2 20 t261 _ A7.out).mono ?_); rintro e w' ⟨rfl, ⟨nd, rfl⟩⟩; refine ⟨_, rfl, ?_⟩) | ((with_reducible refine gate_callee (f := 16) rfl ?_); refine goesL_ (some 34) rfl rfl Tryd.func16 (by kernel_rfl) rfl #[.string t256, .int .i64 2, .int .i64 20] rfl (by (try simp only [List.map_toArray, List.map_cons, List.map_nil]); first | done | rfl | (simp only [List.length_drop, List.length_take]; rfl)) ?_; (with_reducible refine (Pa.pritchelref09_Word.calls k t256 2 20 t262 _ A8.out).mono ?_); rintro e w' ⟨rfl, ⟨nd, rfl⟩⟩; refine ⟨_, rfl, ?_⟩))
 (try simp only [Act.put, List.setIfInBounds_toArray, List.set_cons_zero, List.set_cons_succ])
 go_cut [41] (fun v41 wc => ∃ (kq : Nat) (x41_8 : Bool), v41 = .bool x41_8 ∧ Aside0 (pritchellaw09_MarkCommons.j0 kq t255 t256 t257 t258 t259 t260 t262 t261 x41_8 = some r) ∧ Aside0 (kq ≤ k) ∧ Aside0 (Below w.heap.size w wc))
 case first =>
  have H := HC9.out
  clear HC9
  by_cases c14 : t261 = 0
  ·rw [if_pos c14] at H
   have c14b0 : (t261 == 0) = true := beq_iff_eq.mpr c14
   have c14b1 : (t261 != 0) = false := bne_eq_false_iff_eq.mpr c14
   clear c14
   (first | rw [c14b0] | (simp only [i64_w, i32_w]; rw [c14b0]) | skip)
   have H' := Aside0.mk H
   clear H
   go_wp2
   go_meet
   case rel => exact ⟨_, (true), (by first | rfl | (simp; done) | (simp [*]; done)), H', ⟨by first | omega | exact Nat.le_refl _⟩, ⟨by repeat (first | (with_reducible first | exact HB.out | apply below_alloc | apply pw_below_drewN | apply below_drew1) | exact HB.out)⟩⟩
  ·rw [if_neg c14] at H
   have c14b0 : (t261 == 0) = false := beq_eq_false_iff_ne.mpr c14
   have c14b1 : (t261 != 0) = true := bne_iff_ne.mpr c14
   (first | rw [c14b0] | (simp only [i64_w, i32_w]; rw [c14b0]) | skip)
   have H' := Aside0.mk H
   clear H
   go_wp2
   go_meet
   case rel => exact ⟨_, ((t262 == 3)), (by first | rfl | (simp; done) | (simp [*]; done)), H', ⟨by first | omega | exact Nat.le_refl _⟩, ⟨by repeat (first | (with_reducible first | exact HB.out | apply below_alloc | apply pw_below_drewN | apply below_drew1) | exact HB.out)⟩⟩
 case rest =>
  clear HC9
  try clear c1
  try clear c2
  try clear p2
  try clear c7
  try clear c13
  try clear c14
  try clear c14b0
  try clear c14b1
  obtain ⟨kq, x41_8, rfl, HA, HJ8, HB⟩ := hcut
  cases kq with
  | zero => exact absurd HA.out (by simp [pritchellaw09_MarkCommons.j0])
  | succ kj8 =>
   have H := HA.out
   clear HA
   simp only [pritchellaw09_MarkCommons.j0] at H
   have HC15 := Aside0.mk H
   clear H
   go_upto_if 41 with (fail)
   go_cut [13] (fun v13 wc => ∃ (kq : Nat) (x13_14 : Int), v13 = .int .i64 x13_14 ∧ Aside0 (pritchellaw09_MarkCommons.j1 kq t255 t256 t257 t258 t259 t260 x13_14 = some r) ∧ Aside0 (kq ≤ kj8) ∧ Aside0 (Below w.heap.size w wc))
   case first =>
    have H := HC15.out
    clear HC15
    by_cases c16 : x41_8 = true
    ·subst c16
     have H1 : (pritchellaw09_MarkCommons.j1 kj8 t255 t256 t257 t258 t259 t260 t262) = some r := by rw [if_pos rfl] at H; exact H
     clear H
     have H := H1
     clear H1
     have H' := Aside0.mk H
     clear H
     go_wp2
     go_meet
     case rel => exact ⟨_, (t262), (by first | rfl | (simp; done) | (simp [*]; done)), H', ⟨by have := HJ8.out; first | omega | exact Nat.le_refl _⟩, ⟨by repeat (first | (with_reducible first | exact HB.out | apply below_alloc | apply pw_below_drewN | apply below_drew1) | exact HB.out)⟩⟩
    ·replace c16 := Bool.eq_false_iff.mpr c16
     subst c16
     have H1 : (pritchellaw09_MarkCommons.j1 kj8 t255 t256 t257 t258 t259 t260 t261) = some r := by rw [if_neg (show ¬ (false = true) by decide)] at H; exact H
     clear H
     have H := H1
     clear H1
     have H' := Aside0.mk H
     clear H
     go_wp2
     go_meet
     case rel => exact ⟨_, (t261), (by first | rfl | (simp; done) | (simp [*]; done)), H', ⟨by have := HJ8.out; first | omega | exact Nat.le_refl _⟩, ⟨by repeat (first | (with_reducible first | exact HB.out | apply below_alloc | apply pw_below_drewN | apply below_drew1) | exact HB.out)⟩⟩
   case rest =>
    clear HC15
    try clear c1
    try clear c2
    try clear p2
    try clear c7
    try clear c13
    try clear c14
    try clear c14b0
    try clear c14b1
    try clear c16
    try clear p2
    obtain ⟨kq, x13_14, rfl, HA, HJ14, HB⟩ := hcut
    cases kq with
    | zero => exact absurd HA.out (by simp [pritchellaw09_MarkCommons.j1])
    | succ kj14 =>
     have H := HA.out
     clear HA
     simp only [pritchellaw09_MarkCommons.j1] at H
     by_cases c17 : x13_14 = 0
     ·rw [if_pos c17] at H
      have c17b0 : (x13_14 == 0) = true := beq_iff_eq.mpr c17
      have c17b1 : (x13_14 != 0) = false := bne_eq_false_iff_eq.mpr c17
      clear c17
      replace H := Option.bind_eq_some_iff.mp H
      obtain ⟨t263, A180, H⟩ := H
      replace H : (if t257.toList = t263.toList then (if t258 = 0 then (if t259 = (wrap64 ((wrap64 ((t255.size : Int) + (t256.size : Int))) - (wrap64 (2 * (t263.size : Int))))) then (if t260 = 0 then ((pritchellaw09_lives.f kj14).bind fun t264 => (some t264)) else (some false)) else (some false)) else (some false)) else (some false)) = some r := H
      have A18 := Aside0.mk A180
      clear A180
      by_cases c19 : t257.toList = t263.toList
      ·rw [if_pos c19] at H
       have c19b0 : (t257.toList == t263.toList) = true := beq_iff_eq.mpr c19
       have c19b1 : (t257.toList != t263.toList) = false := bne_eq_false_iff_eq.mpr c19
       clear c19
       by_cases c20 : t258 = 0
       ·rw [if_pos c20] at H
        have c20b0 : (t258 == 0) = true := beq_iff_eq.mpr c20
        have c20b1 : (t258 != 0) = false := bne_eq_false_iff_eq.mpr c20
        clear c20
        by_cases c21 : t259 = (wrap64 ((wrap64 ((t255.size : Int) + (t256.size : Int))) - (wrap64 (2 * (t263.size : Int)))))
        ·rw [if_pos c21] at H
         have c21b0 : (t259 == (wrap64 ((wrap64 ((t255.size : Int) + (t256.size : Int))) - (wrap64 (2 * (t263.size : Int)))))) = true := beq_iff_eq.mpr c21
         have c21b1 : (t259 != (wrap64 ((wrap64 ((t255.size : Int) + (t256.size : Int))) - (wrap64 (2 * (t263.size : Int)))))) = false := bne_eq_false_iff_eq.mpr c21
         clear c21
         by_cases c22 : t260 = 0
         ·rw [if_pos c22] at H
          have c22b0 : (t260 == 0) = true := beq_iff_eq.mpr c22
          have c22b1 : (t260 != 0) = false := bne_eq_false_iff_eq.mpr c22
          clear c22
          replace H := Option.bind_eq_some_iff.mp H
          obtain ⟨t264, A230, H⟩ := H
          replace H : (some t264) = some r := H
          have A23 := Aside0.mk A230
          clear A230
          obtain rfl := Option.some.inj H
          go_wp2_with (first | ((with_reducible refine gate_callee (f := 27) rfl ?_); refine goesL_ (some 66) rfl rfl Tryd.func27 (by kernel_rfl) rfl #[.string t255, .string t256] rfl (by (try simp only [List.map_toArray, List.map_cons, List.map_nil]); first | done | rfl | (simp only [List.length_drop, List.length_take]; rfl)) ?_; (with_reducible refine (Pa.pritchelref09_Common.calls kj14 t255 t256 t263 _ A18.out).mono ?_); rintro e w24 ⟨rfl, hb⟩; refine ⟨_, rfl, ?_⟩; have n0_ := Aside0.mk (below_step (by repeat (first | (with_reducible first | exact HB.out | apply below_alloc | apply pw_below_drewN | apply below_drew1) | exact HB.out)) hb); clear HB; have HB := n0_; clear n0_; (try clear hb); (try clear hb2); (try clear hk); (try clear hi)) | (go_at_call 19; (with_reducible refine (pritchellaw09_lives.calls kj14  t264 _ ?side1 A23.out).mono ?_); (case side1 => exact tabs_below HT.out (by repeat (first | (with_reducible first | exact HB.out | apply below_alloc | apply pw_below_drewN | apply below_drew1) | exact HB.out))); rintro e w25 ⟨rfl, hb⟩; have n0_ := Aside0.mk (below_step (by repeat (first | (with_reducible first | exact HB.out | apply below_alloc | apply pw_below_drewN | apply below_drew1) | exact HB.out)) hb); clear HB; have HB := n0_; clear n0_; (try clear hb); (try clear hb2); (try clear hk); (try clear hi)))
          go_ret
          exact ⟨by first | rfl | (simp [errW_none, errW_some] <;> rfl) | (simp [*, errW_none, errW_some] <;> rfl), by repeat (first | (with_reducible first | exact HB.out | apply below_alloc | apply pw_below_drewN | apply below_drew1) | exact HB.out)⟩
         ·rw [if_neg c22] at H
          have c22b0 : (t260 == 0) = false := beq_eq_false_iff_ne.mpr c22
          have c22b1 : (t260 != 0) = true := bne_iff_ne.mpr c22
          obtain rfl := Option.some.inj H
          go_wp2_with (first | ((with_reducible refine gate_callee (f := 27) rfl ?_); refine goesL_ (some 66) rfl rfl Tryd.func27 (by kernel_rfl) rfl #[.string t255, .string t256] rfl (by (try simp only [List.map_toArray, List.map_cons, List.map_nil]); first | done | rfl | (simp only [List.length_drop, List.length_take]; rfl)) ?_; (with_reducible refine (Pa.pritchelref09_Common.calls kj14 t255 t256 t263 _ A18.out).mono ?_); rintro e w26 ⟨rfl, hb⟩; refine ⟨_, rfl, ?_⟩; have n0_ := Aside0.mk (below_step (by repeat (first | (with_reducible first | exact HB.out | apply below_alloc | apply pw_below_drewN | apply below_drew1) | exact HB.out)) hb); clear HB; have HB := n0_; clear n0_; (try clear hb); (try clear hb2); (try clear hk); (try clear hi)))
          go_ret
          exact ⟨by first | rfl | (simp [errW_none, errW_some] <;> rfl) | (simp [*, errW_none, errW_some] <;> rfl), by repeat (first | (with_reducible first | exact HB.out | apply below_alloc | apply pw_below_drewN | apply below_drew1) | exact HB.out)⟩
        ·rw [if_neg c21] at H
         have c21b0 : (t259 == (wrap64 ((wrap64 ((t255.size : Int) + (t256.size : Int))) - (wrap64 (2 * (t263.size : Int)))))) = false := beq_eq_false_iff_ne.mpr c21
         have c21b1 : (t259 != (wrap64 ((wrap64 ((t255.size : Int) + (t256.size : Int))) - (wrap64 (2 * (t263.size : Int)))))) = true := bne_iff_ne.mpr c21
         obtain rfl := Option.some.inj H
         go_wp2_with (first | ((with_reducible refine gate_callee (f := 27) rfl ?_); refine goesL_ (some 66) rfl rfl Tryd.func27 (by kernel_rfl) rfl #[.string t255, .string t256] rfl (by (try simp only [List.map_toArray, List.map_cons, List.map_nil]); first | done | rfl | (simp only [List.length_drop, List.length_take]; rfl)) ?_; (with_reducible refine (Pa.pritchelref09_Common.calls kj14 t255 t256 t263 _ A18.out).mono ?_); rintro e w27 ⟨rfl, hb⟩; refine ⟨_, rfl, ?_⟩; have n0_ := Aside0.mk (below_step (by repeat (first | (with_reducible first | exact HB.out | apply below_alloc | apply pw_below_drewN | apply below_drew1) | exact HB.out)) hb); clear HB; have HB := n0_; clear n0_; (try clear hb); (try clear hb2); (try clear hk); (try clear hi)))
         go_ret
         exact ⟨by first | rfl | (simp [errW_none, errW_some] <;> rfl) | (simp [*, errW_none, errW_some] <;> rfl), by repeat (first | (with_reducible first | exact HB.out | apply below_alloc | apply pw_below_drewN | apply below_drew1) | exact HB.out)⟩
       ·rw [if_neg c20] at H
        have c20b0 : (t258 == 0) = false := beq_eq_false_iff_ne.mpr c20
        have c20b1 : (t258 != 0) = true := bne_iff_ne.mpr c20
        obtain rfl := Option.some.inj H
        go_wp2_with (first | ((with_reducible refine gate_callee (f := 27) rfl ?_); refine goesL_ (some 66) rfl rfl Tryd.func27 (by kernel_rfl) rfl #[.string t255, .string t256] rfl (by (try simp only [List.map_toArray, List.map_cons, List.map_nil]); first | done | rfl | (simp only [List.length_drop, List.length_take]; rfl)) ?_; (with_reducible refine (Pa.pritchelref09_Common.calls kj14 t255 t256 t263 _ A18.out).mono ?_); rintro e w28 ⟨rfl, hb⟩; refine ⟨_, rfl, ?_⟩; have n0_ := Aside0.mk (below_step (by repeat (first | (with_reducible first | exact HB.out | apply below_alloc | apply pw_below_drewN | apply below_drew1) | exact HB.out)) hb); clear HB; have HB := n0_; clear n0_; (try clear hb); (try clear hb2); (try clear hk); (try clear hi)))
        go_ret
        exact ⟨by first | rfl | (simp [errW_none, errW_some] <;> rfl) | (simp [*, errW_none, errW_some] <;> rfl), by repeat (first | (with_reducible first | exact HB.out | apply below_alloc | apply pw_below_drewN | apply below_drew1) | exact HB.out)⟩
      ·rw [if_neg c19] at H
       have c19b0 : (t257.toList == t263.toList) = false := beq_eq_false_iff_ne.mpr c19
       have c19b1 : (t257.toList != t263.toList) = true := bne_iff_ne.mpr c19
       obtain rfl := Option.some.inj H
       go_wp2_with (first | ((with_reducible refine gate_callee (f := 27) rfl ?_); refine goesL_ (some 66) rfl rfl Tryd.func27 (by kernel_rfl) rfl #[.string t255, .string t256] rfl (by (try simp only [List.map_toArray, List.map_cons, List.map_nil]); first | done | rfl | (simp only [List.length_drop, List.length_take]; rfl)) ?_; (with_reducible refine (Pa.pritchelref09_Common.calls kj14 t255 t256 t263 _ A18.out).mono ?_); rintro e w29 ⟨rfl, hb⟩; refine ⟨_, rfl, ?_⟩; have n0_ := Aside0.mk (below_step (by repeat (first | (with_reducible first | exact HB.out | apply below_alloc | apply pw_below_drewN | apply below_drew1) | exact HB.out)) hb); clear HB; have HB := n0_; clear n0_; (try clear hb); (try clear hb2); (try clear hk); (try clear hi)))
       go_ret
       exact ⟨by first | rfl | (simp [errW_none, errW_some] <;> rfl) | (simp [*, errW_none, errW_some] <;> rfl), by repeat (first | (with_reducible first | exact HB.out | apply below_alloc | apply pw_below_drewN | apply below_drew1) | exact HB.out)⟩
     ·rw [if_neg c17] at H
      have c17b0 : (x13_14 == 0) = false := beq_eq_false_iff_ne.mpr c17
      have c17b1 : (x13_14 != 0) = true := bne_iff_ne.mpr c17
      by_cases c30 : t257.toList = ([] : List UInt8)
      ·rw [if_pos c30] at H
       have c30b0 : (t257.toList == ([] : List UInt8)) = true := beq_iff_eq.mpr c30
       have c30b1 : (t257.toList != ([] : List UInt8)) = false := bne_eq_false_iff_eq.mpr c30
       clear c30
       by_cases c31 : t258 = x13_14
       ·rw [if_pos c31] at H
        have c31b0 : (t258 == x13_14) = true := beq_iff_eq.mpr c31
        have c31b1 : (t258 != x13_14) = false := bne_eq_false_iff_eq.mpr c31
        clear c31
        by_cases c32 : t259 = 0
        ·rw [if_pos c32] at H
         have c32b0 : (t259 == 0) = true := beq_iff_eq.mpr c32
         have c32b1 : (t259 != 0) = false := bne_eq_false_iff_eq.mpr c32
         clear c32
         by_cases c33 : t260 = x13_14
         ·rw [if_pos c33] at H
          have c33b0 : (t260 == x13_14) = true := beq_iff_eq.mpr c33
          have c33b1 : (t260 != x13_14) = false := bne_eq_false_iff_eq.mpr c33
          clear c33
          replace H := Option.bind_eq_some_iff.mp H
          obtain ⟨t265, A340, H⟩ := H
          replace H : (some t265) = some r := H
          have A34 := Aside0.mk A340
          clear A340
          obtain rfl := Option.some.inj H
          go_wp2_with (first | (go_at_call 19; (with_reducible refine (pritchellaw09_lives.calls kj14  t265 _ ?side1 A34.out).mono ?_); (case side1 => exact tabs_below HT.out (by repeat (first | (with_reducible first | exact HB.out | apply below_alloc | apply pw_below_drewN | apply below_drew1) | exact HB.out))); rintro e w35 ⟨rfl, hb⟩; have n0_ := Aside0.mk (below_step (by repeat (first | (with_reducible first | exact HB.out | apply below_alloc | apply pw_below_drewN | apply below_drew1) | exact HB.out)) hb); clear HB; have HB := n0_; clear n0_; (try clear hb); (try clear hb2); (try clear hk); (try clear hi)))
          go_ret
          exact ⟨by first | rfl | (simp [errW_none, errW_some] <;> rfl) | (simp [*, errW_none, errW_some] <;> rfl), by repeat (first | (with_reducible first | exact HB.out | apply below_alloc | apply pw_below_drewN | apply below_drew1) | exact HB.out)⟩
         ·rw [if_neg c33] at H
          have c33b0 : (t260 == x13_14) = false := beq_eq_false_iff_ne.mpr c33
          have c33b1 : (t260 != x13_14) = true := bne_iff_ne.mpr c33
          obtain rfl := Option.some.inj H
          go_wp2
          go_ret
          exact ⟨by first | rfl | (simp [errW_none, errW_some] <;> rfl) | (simp [*, errW_none, errW_some] <;> rfl), by repeat (first | (with_reducible first | exact HB.out | apply below_alloc | apply pw_below_drewN | apply below_drew1) | exact HB.out)⟩
        ·rw [if_neg c32] at H
         have c32b0 : (t259 == 0) = false := beq_eq_false_iff_ne.mpr c32
         have c32b1 : (t259 != 0) = true := bne_iff_ne.mpr c32
         obtain rfl := Option.some.inj H
         go_wp2
         go_ret
         exact ⟨by first | rfl | (simp [errW_none, errW_some] <;> rfl) | (simp [*, errW_none, errW_some] <;> rfl), by repeat (first | (with_reducible first | exact HB.out | apply below_alloc | apply pw_below_drewN | apply below_drew1) | exact HB.out)⟩
       ·rw [if_neg c31] at H
        have c31b0 : (t258 == x13_14) = false := beq_eq_false_iff_ne.mpr c31
        have c31b1 : (t258 != x13_14) = true := bne_iff_ne.mpr c31
        obtain rfl := Option.some.inj H
        go_wp2
        go_ret
        exact ⟨by first | rfl | (simp [errW_none, errW_some] <;> rfl) | (simp [*, errW_none, errW_some] <;> rfl), by repeat (first | (with_reducible first | exact HB.out | apply below_alloc | apply pw_below_drewN | apply below_drew1) | exact HB.out)⟩
      ·rw [if_neg c30] at H
       have c30b0 : (t257.toList == ([] : List UInt8)) = false := beq_eq_false_iff_ne.mpr c30
       have c30b1 : (t257.toList != ([] : List UInt8)) = true := bne_iff_ne.mpr c30
       obtain rfl := Option.some.inj H
       go_wp2
       go_ret
       exact ⟨by first | rfl | (simp [errW_none, errW_some] <;> rfl) | (simp [*, errW_none, errW_some] <;> rfl), by repeat (first | (with_reducible first | exact HB.out | apply below_alloc | apply pw_below_drewN | apply below_drew1) | exact HB.out)⟩

/-- THE ONE PURE STATEMENT of pritchellaw09_MarkCommons: yours. -/
def pritchellaw09_MarkCommons.Pure : Prop := ∀ (a0 : ByteArray) (a1 : ByteArray), a0.size ≤ 140737488351232 → a1.size ≤ 140737488351232 → ∃ k, pritchellaw09_MarkCommons.f k a0 a1 = some true
theorem pritchellaw09_MarkCommons.walk (P : pritchellaw09_MarkCommons.Pure) (a0 : ByteArray) (a1 : ByteArray) (w : World) (w0 : a0.size ≤ 140737488351232) (w1 : a1.size ≤ 140737488351232) (hT : Lib.Utf8Tabs 0 1 w) :
  Calls Tryd.prog 7 #[.string a0, .string a1] w fun e w' => e = .returned (.bool true) ∧ Below w.heap.size w w' := by
 obtain ⟨k, h⟩ := P a0 a1 w0 w1
 refine (pritchellaw09_MarkCommons.calls k a0 a1 true w hT h).mono ?_
 rintro e w' ⟨rfl, hd⟩
 exact ⟨rfl, hd⟩

end Go.Proofs.YtopmcoohdhlnaaaDoor.Pb
