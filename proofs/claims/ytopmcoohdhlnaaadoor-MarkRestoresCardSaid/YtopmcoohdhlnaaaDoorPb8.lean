/- Printed by a program of this session (print2.py). -/
import Derived.ArgAppend
import Derived.Below
import Derived.BigQuiet
import Derived.Deep.AppendLies
import Derived.Deep.CutBlock
import Derived.Deep.DeepCutAuto
import Derived.Deep.Draws
import Derived.Deep.LoopGhost
import Derived.Deep.OwnRows
import Derived.Deep.QuietTactic
import Derived.Deep.RegionHeld3
import Derived.KernelRfl
import Derived.Laws.BitsLemmas
import Derived.Laws.BytesArg
import Derived.Laws.IdiomCopy
import Derived.Laws.MakeOwn
import Derived.Laws.OwnMore
import Derived.Laws.RangeAny
import Derived.Laws.Rows
import Derived.Laws.Slices
import Derived.Laws.StructEq
import Derived.Lib.AppendStr
import Derived.Lib.ConvBytes
import Derived.Lib.Hide
import Derived.Lib.OthersKept
import Derived.Lib.SliceRun
import Derived.Lib.TrimUEq
import Derived.Maps.AppendAt
import Derived.OrdersHeld
import Derived.Outline
import Derived.OwnWalk
import Derived.RowKit
import Derived.RowKit3
import Derived.Shelf.Slices.CompactS
import Derived.Shelf.Slices.In.SortNone
import Derived.Shelf.Small.Utf8
import Derived.Shelf.Sort.Plain
import Derived.Shelf.Strings.Builder1
import Derived.Shelf.Strings.Builder2
import Derived.Shelf.Strings.OnBuilder
import Derived.Shelf.Unicode.DecodeAny
import Derived.Shelf.Unicode.DecodeLast
import Derived.Shelf.Unicode.DecodeSlow
import Derived.Sort.OwnSorted
import Derived.Tactics
import Derived.Test.YtopmcoohdhlnaaaDoorProg
import Derived.WalkKit
import Derived.WalkSmall
import Derived.WalkSpells
import Derived.WideLaws
import Derived.Test.YtopmcoohdhlnaaaDoorG0
import Derived.Test.YtopmcoohdhlnaaaDoorPa0
import Derived.Test.YtopmcoohdhlnaaaDoorPa1
import Derived.Test.YtopmcoohdhlnaaaDoorPa11
import Derived.Test.YtopmcoohdhlnaaaDoorPb0
import Derived.Test.YtopmcoohdhlnaaaDoorPb1
import Derived.Test.YtopmcoohdhlnaaaDoorPb2
import Derived.Test.YtopmcoohdhlnaaaDoorPb3
import Derived.Test.YtopmcoohdhlnaaaDoorPb4
import Derived.Test.YtopmcoohdhlnaaaDoorPb7
import Derived.Test.YtopmcoohdhlnaaaDoorWApart
import Derived.Test.YtopmcoohdhlnaaaDoorWLast
import Derived.Test.YtopmcoohdhlnaaaDoorWMore
import Derived.Test.YtopmcoohdhlnaaaDoorWShare
import Derived.Test.YtopmcoohdhlnaaaDoorWWords
namespace Go.Proofs.YtopmcoohdhlnaaaDoor.Pb
open Go.RowKit Go.Proofs.YtopmcoohdhlnaaaDoorW.PrintWords Go.Proofs.YtopmcoohdhlnaaaDoorW.PrintLast Go.Proofs.YtopmcoohdhlnaaaDoorW.PrintMore
attribute [local go_sem] max2_int min2_int max_two min_two max_three min_three max_four min_four   -- for this text's walks alone
set_option linter.unusedVariables false
set_option linter.unusedSimpArgs false

/-! ### pritchellaw09_MarkRestores: function 3 -/
mutual
def pritchellaw09_MarkRestores.l0 : Nat → Int → Int → ByteArray → ByteArray → Int → ByteArray → Int → Int → Option (Bool)
 | 0, _, _, _, _, _, _, _, _ => none
 | k + 1, x0, x1, x7, x8, x9, x10, x11, x12 => if x12 < 2 then ((Pa.pritchelref09_Word.f k x7 2 (wrap64 (20 + x12))).bind fun t196 => (if x12 = 1 then (pritchellaw09_MarkRestores.j1 k x0 x1 x7 x8 x9 x10 x11 x12 x10 x11 (⟨#[]⟩ : ByteArray) false t196) else (pritchellaw09_MarkRestores.j1 k x0 x1 x7 x8 x9 x10 x11 x12 x8 x9 (⟨#[]⟩ : ByteArray) false t196))) else ((pritchellaw09_lives.f k).bind fun t195 => (some t195))
def pritchellaw09_MarkRestores.j1 : Nat → Int → Int → ByteArray → ByteArray → Int → ByteArray → Int → Int → ByteArray → Int → ByteArray → Bool → Int → Option (Bool)
 | 0, _, _, _, _, _, _, _, _, _, _, _, _, _ => none
 | k + 1, x0, x1, x7, x8, x9, x10, x11, x12, x13, x14, x15, x16, x17 => if x17 = 0 then (if x0 < 1 then (pritchellaw09_MarkRestores.j2 k x0 x1 x7 x8 x9 x10 x11 x12 x13 x14 x15 x16 x17 true) else (if x0 > 20 then (pritchellaw09_MarkRestores.j2 k x0 x1 x7 x8 x9 x10 x11 x12 x13 x14 x15 x16 x17 true) else (if x1 < 0 then (pritchellaw09_MarkRestores.j2 k x0 x1 x7 x8 x9 x10 x11 x12 x13 x14 x15 x16 x17 true) else (pritchellaw09_MarkRestores.j2 k x0 x1 x7 x8 x9 x10 x11 x12 x13 x14 x15 x16 x17 (decide (x1 > x0)))))) else (pritchellaw09_MarkRestores.j3 k x0 x1 x7 x8 x9 x10 x11 x12 x13 x14 x15 x16 x17)
def pritchellaw09_MarkRestores.j3 : Nat → Int → Int → ByteArray → ByteArray → Int → ByteArray → Int → Int → ByteArray → Int → ByteArray → Bool → Int → Option (Bool)
 | 0, _, _, _, _, _, _, _, _, _, _, _, _, _ => none
 | k + 1, x0, x1, x7, x8, x9, x10, x11, x12, x13, x14, x15, x16, x17 => if x17 = 0 then (pritchellaw09_MarkRestores.j4 k x0 x1 x7 x8 x9 x10 x11 x12 x13 x14 x15 x17 (!x16)) else (pritchellaw09_MarkRestores.j4 k x0 x1 x7 x8 x9 x10 x11 x12 x13 x14 x15 x17 false)
def pritchellaw09_MarkRestores.j4 : Nat → Int → Int → ByteArray → ByteArray → Int → ByteArray → Int → Int → ByteArray → Int → ByteArray → Int → Bool → Option (Bool)
 | 0, _, _, _, _, _, _, _, _, _, _, _, _, _ => none
 | k + 1, x0, x1, x7, x8, x9, x10, x11, x12, x13, x14, x15, x17, x89 => if x89 = true then (if x13.toList = x15.toList then (if x14 = 5 then (pritchellaw09_MarkRestores.l0 k x0 x1 x7 x8 x9 x10 x11 (wrap64 (x12 + 1))) else (some false)) else (some false)) else (if x13.toList = x15.toList then (if x14 = x17 then (pritchellaw09_MarkRestores.l0 k x0 x1 x7 x8 x9 x10 x11 (wrap64 (x12 + 1))) else (some false)) else (some false))
def pritchellaw09_MarkRestores.j2 : Nat → Int → Int → ByteArray → ByteArray → Int → ByteArray → Int → Int → ByteArray → Int → ByteArray → Bool → Int → Bool → Option (Bool)
 | 0, _, _, _, _, _, _, _, _, _, _, _, _, _, _ => none
 | k + 1, x0, x1, x7, x8, x9, x10, x11, x12, x13, x14, x15, x16, x17, x58 => if x58 = true then (pritchellaw09_MarkRestores.j3 k x0 x1 x7 x8 x9 x10 x11 x12 x13 x14 x15 x16 1) else (if x12 = 0 then ((pritchelref09_Restore.f k x0 x1 x7).bind fun bt197 => (pritchellaw09_MarkRestores.j3 k x0 x1 x7 x8 x9 x10 x11 x12 x13 x14 bt197.1 bt197.2 x17)) else ((pritchelref09_Remove.f k x0 x1 x7).bind fun bt199 => (pritchellaw09_MarkRestores.j3 k x0 x1 x7 x8 x9 x10 x11 x12 x13 x14 bt199.1 bt199.2 x17)))
end
def pritchellaw09_MarkRestores.f (k : Nat) (a0 : Int) (a1 : Int) (a2 : ByteArray) : Option (Bool) := (Pa.pritchellaw09_cut.f a2 22).bind fun t190 => ((mark_Restore.f k a0 a1 t190).bind fun bt191 => ((mark_Remove.f k a0 a1 t190).bind fun bt193 => (pritchellaw09_MarkRestores.l0 k a0 a1 t190 bt191.1 bt191.2 bt193.1 bt193.2 0)))
theorem pritchellaw09_MarkRestores.mono_l : ∀ k, (∀ y0 y1 y2 y3 y4 y5 y6 y7, LeO (pritchellaw09_MarkRestores.l0 k y0 y1 y2 y3 y4 y5 y6 y7) (pritchellaw09_MarkRestores.l0 (k + 1) y0 y1 y2 y3 y4 y5 y6 y7)) ∧ (∀ y0 y1 y2 y3 y4 y5 y6 y7 y8 y9 y10 y11 y12, LeO (pritchellaw09_MarkRestores.j1 k y0 y1 y2 y3 y4 y5 y6 y7 y8 y9 y10 y11 y12) (pritchellaw09_MarkRestores.j1 (k + 1) y0 y1 y2 y3 y4 y5 y6 y7 y8 y9 y10 y11 y12)) ∧ (∀ y0 y1 y2 y3 y4 y5 y6 y7 y8 y9 y10 y11 y12, LeO (pritchellaw09_MarkRestores.j3 k y0 y1 y2 y3 y4 y5 y6 y7 y8 y9 y10 y11 y12) (pritchellaw09_MarkRestores.j3 (k + 1) y0 y1 y2 y3 y4 y5 y6 y7 y8 y9 y10 y11 y12)) ∧ (∀ y0 y1 y2 y3 y4 y5 y6 y7 y8 y9 y10 y11 y12, LeO (pritchellaw09_MarkRestores.j4 k y0 y1 y2 y3 y4 y5 y6 y7 y8 y9 y10 y11 y12) (pritchellaw09_MarkRestores.j4 (k + 1) y0 y1 y2 y3 y4 y5 y6 y7 y8 y9 y10 y11 y12)) ∧ (∀ y0 y1 y2 y3 y4 y5 y6 y7 y8 y9 y10 y11 y12 y13, LeO (pritchellaw09_MarkRestores.j2 k y0 y1 y2 y3 y4 y5 y6 y7 y8 y9 y10 y11 y12 y13) (pritchellaw09_MarkRestores.j2 (k + 1) y0 y1 y2 y3 y4 y5 y6 y7 y8 y9 y10 y11 y12 y13))
 | 0 => ⟨fun _ _ _ _ _ _ _ _ r h => by simp [pritchellaw09_MarkRestores.l0] at h, fun _ _ _ _ _ _ _ _ _ _ _ _ _ r h => by simp [pritchellaw09_MarkRestores.j1] at h, fun _ _ _ _ _ _ _ _ _ _ _ _ _ r h => by simp [pritchellaw09_MarkRestores.j3] at h, fun _ _ _ _ _ _ _ _ _ _ _ _ _ r h => by simp [pritchellaw09_MarkRestores.j4] at h, fun _ _ _ _ _ _ _ _ _ _ _ _ _ _ r h => by simp [pritchellaw09_MarkRestores.j2] at h⟩
 | k + 1 => by
  obtain ⟨ih0, ih1, ih2, ih3, ih4⟩ := pritchellaw09_MarkRestores.mono_l k
  refine ⟨?_, ?_, ?_, ?_, ?_⟩
  ·intro y0 y1 y2 y3 y4 y5 y6 y7
   unfold pritchellaw09_MarkRestores.l0
   repeat' first
   | (with_reducible exact ih0 _ _ _ _ _ _ _ _)
   | (with_reducible exact ih1 _ _ _ _ _ _ _ _ _ _ _ _ _)
   | (with_reducible exact ih2 _ _ _ _ _ _ _ _ _ _ _ _ _)
   | (with_reducible exact ih3 _ _ _ _ _ _ _ _ _ _ _ _ _)
   | (with_reducible exact ih4 _ _ _ _ _ _ _ _ _ _ _ _ _ _)
   | (with_reducible exact Pa.pritchelref09_Word.mono _ _ _ _)
   | (with_reducible exact mark_Remove.mono _ _ _ _)
   | (with_reducible exact mark_Restore.mono _ _ _ _)
   | (with_reducible exact pritchellaw09_lives.mono _)
   | (with_reducible exact pritchelref09_Remove.mono _ _ _ _)
   | (with_reducible exact pritchelref09_Restore.mono _ _ _ _)
   | (with_reducible exact LeO.refl _)
   | (with_reducible exact LeO.none _)
   | (with_reducible refine LeO.ite ?_ ?_)
   | (with_reducible refine LeO.bind ?_ (fun _ => ?_))
   | exact ih0 _ _ _ _ _ _ _ _
   | exact ih1 _ _ _ _ _ _ _ _ _ _ _ _ _
   | exact ih2 _ _ _ _ _ _ _ _ _ _ _ _ _
   | exact ih3 _ _ _ _ _ _ _ _ _ _ _ _ _
   | exact ih4 _ _ _ _ _ _ _ _ _ _ _ _ _ _
   | exact Pa.pritchelref09_Word.mono _ _ _ _
   | exact mark_Remove.mono _ _ _ _
   | exact mark_Restore.mono _ _ _ _
   | exact pritchellaw09_lives.mono _
   | exact pritchelref09_Remove.mono _ _ _ _
   | exact pritchelref09_Restore.mono _ _ _ _
   | exact LeO.none _
   | refine LeO.ite ?_ ?_
   | refine LeO.bind ?_ (fun _ => ?_)
  ·intro y0 y1 y2 y3 y4 y5 y6 y7 y8 y9 y10 y11 y12
   unfold pritchellaw09_MarkRestores.j1
   repeat' first
   | (with_reducible exact ih0 _ _ _ _ _ _ _ _)
   | (with_reducible exact ih1 _ _ _ _ _ _ _ _ _ _ _ _ _)
   | (with_reducible exact ih2 _ _ _ _ _ _ _ _ _ _ _ _ _)
   | (with_reducible exact ih3 _ _ _ _ _ _ _ _ _ _ _ _ _)
   | (with_reducible exact ih4 _ _ _ _ _ _ _ _ _ _ _ _ _ _)
   | (with_reducible exact Pa.pritchelref09_Word.mono _ _ _ _)
   | (with_reducible exact mark_Remove.mono _ _ _ _)
   | (with_reducible exact mark_Restore.mono _ _ _ _)
   | (with_reducible exact pritchellaw09_lives.mono _)
   | (with_reducible exact pritchelref09_Remove.mono _ _ _ _)
   | (with_reducible exact pritchelref09_Restore.mono _ _ _ _)
   | (with_reducible exact LeO.refl _)
   | (with_reducible exact LeO.none _)
   | (with_reducible refine LeO.ite ?_ ?_)
   | (with_reducible refine LeO.bind ?_ (fun _ => ?_))
   | exact ih0 _ _ _ _ _ _ _ _
   | exact ih1 _ _ _ _ _ _ _ _ _ _ _ _ _
   | exact ih2 _ _ _ _ _ _ _ _ _ _ _ _ _
   | exact ih3 _ _ _ _ _ _ _ _ _ _ _ _ _
   | exact ih4 _ _ _ _ _ _ _ _ _ _ _ _ _ _
   | exact Pa.pritchelref09_Word.mono _ _ _ _
   | exact mark_Remove.mono _ _ _ _
   | exact mark_Restore.mono _ _ _ _
   | exact pritchellaw09_lives.mono _
   | exact pritchelref09_Remove.mono _ _ _ _
   | exact pritchelref09_Restore.mono _ _ _ _
   | exact LeO.none _
   | refine LeO.ite ?_ ?_
   | refine LeO.bind ?_ (fun _ => ?_)
  ·intro y0 y1 y2 y3 y4 y5 y6 y7 y8 y9 y10 y11 y12
   unfold pritchellaw09_MarkRestores.j3
   repeat' first
   | (with_reducible exact ih0 _ _ _ _ _ _ _ _)
   | (with_reducible exact ih1 _ _ _ _ _ _ _ _ _ _ _ _ _)
   | (with_reducible exact ih2 _ _ _ _ _ _ _ _ _ _ _ _ _)
   | (with_reducible exact ih3 _ _ _ _ _ _ _ _ _ _ _ _ _)
   | (with_reducible exact ih4 _ _ _ _ _ _ _ _ _ _ _ _ _ _)
   | (with_reducible exact Pa.pritchelref09_Word.mono _ _ _ _)
   | (with_reducible exact mark_Remove.mono _ _ _ _)
   | (with_reducible exact mark_Restore.mono _ _ _ _)
   | (with_reducible exact pritchellaw09_lives.mono _)
   | (with_reducible exact pritchelref09_Remove.mono _ _ _ _)
   | (with_reducible exact pritchelref09_Restore.mono _ _ _ _)
   | (with_reducible exact LeO.refl _)
   | (with_reducible exact LeO.none _)
   | (with_reducible refine LeO.ite ?_ ?_)
   | (with_reducible refine LeO.bind ?_ (fun _ => ?_))
   | exact ih0 _ _ _ _ _ _ _ _
   | exact ih1 _ _ _ _ _ _ _ _ _ _ _ _ _
   | exact ih2 _ _ _ _ _ _ _ _ _ _ _ _ _
   | exact ih3 _ _ _ _ _ _ _ _ _ _ _ _ _
   | exact ih4 _ _ _ _ _ _ _ _ _ _ _ _ _ _
   | exact Pa.pritchelref09_Word.mono _ _ _ _
   | exact mark_Remove.mono _ _ _ _
   | exact mark_Restore.mono _ _ _ _
   | exact pritchellaw09_lives.mono _
   | exact pritchelref09_Remove.mono _ _ _ _
   | exact pritchelref09_Restore.mono _ _ _ _
   | exact LeO.none _
   | refine LeO.ite ?_ ?_
   | refine LeO.bind ?_ (fun _ => ?_)
  ·intro y0 y1 y2 y3 y4 y5 y6 y7 y8 y9 y10 y11 y12
   unfold pritchellaw09_MarkRestores.j4
   repeat' first
   | (with_reducible exact ih0 _ _ _ _ _ _ _ _)
   | (with_reducible exact ih1 _ _ _ _ _ _ _ _ _ _ _ _ _)
   | (with_reducible exact ih2 _ _ _ _ _ _ _ _ _ _ _ _ _)
   | (with_reducible exact ih3 _ _ _ _ _ _ _ _ _ _ _ _ _)
   | (with_reducible exact ih4 _ _ _ _ _ _ _ _ _ _ _ _ _ _)
   | (with_reducible exact Pa.pritchelref09_Word.mono _ _ _ _)
   | (with_reducible exact mark_Remove.mono _ _ _ _)
   | (with_reducible exact mark_Restore.mono _ _ _ _)
   | (with_reducible exact pritchellaw09_lives.mono _)
   | (with_reducible exact pritchelref09_Remove.mono _ _ _ _)
   | (with_reducible exact pritchelref09_Restore.mono _ _ _ _)
   | (with_reducible exact LeO.refl _)
   | (with_reducible exact LeO.none _)
   | (with_reducible refine LeO.ite ?_ ?_)
   | (with_reducible refine LeO.bind ?_ (fun _ => ?_))
   | exact ih0 _ _ _ _ _ _ _ _
   | exact ih1 _ _ _ _ _ _ _ _ _ _ _ _ _
   | exact ih2 _ _ _ _ _ _ _ _ _ _ _ _ _
   | exact ih3 _ _ _ _ _ _ _ _ _ _ _ _ _
   | exact ih4 _ _ _ _ _ _ _ _ _ _ _ _ _ _
   | exact Pa.pritchelref09_Word.mono _ _ _ _
   | exact mark_Remove.mono _ _ _ _
   | exact mark_Restore.mono _ _ _ _
   | exact pritchellaw09_lives.mono _
   | exact pritchelref09_Remove.mono _ _ _ _
   | exact pritchelref09_Restore.mono _ _ _ _
   | exact LeO.none _
   | refine LeO.ite ?_ ?_
   | refine LeO.bind ?_ (fun _ => ?_)
  ·intro y0 y1 y2 y3 y4 y5 y6 y7 y8 y9 y10 y11 y12 y13
   unfold pritchellaw09_MarkRestores.j2
   repeat' first
   | (with_reducible exact ih0 _ _ _ _ _ _ _ _)
   | (with_reducible exact ih1 _ _ _ _ _ _ _ _ _ _ _ _ _)
   | (with_reducible exact ih2 _ _ _ _ _ _ _ _ _ _ _ _ _)
   | (with_reducible exact ih3 _ _ _ _ _ _ _ _ _ _ _ _ _)
   | (with_reducible exact ih4 _ _ _ _ _ _ _ _ _ _ _ _ _ _)
   | (with_reducible exact Pa.pritchelref09_Word.mono _ _ _ _)
   | (with_reducible exact mark_Remove.mono _ _ _ _)
   | (with_reducible exact mark_Restore.mono _ _ _ _)
   | (with_reducible exact pritchellaw09_lives.mono _)
   | (with_reducible exact pritchelref09_Remove.mono _ _ _ _)
   | (with_reducible exact pritchelref09_Restore.mono _ _ _ _)
   | (with_reducible exact LeO.refl _)
   | (with_reducible exact LeO.none _)
   | (with_reducible refine LeO.ite ?_ ?_)
   | (with_reducible refine LeO.bind ?_ (fun _ => ?_))
   | exact ih0 _ _ _ _ _ _ _ _
   | exact ih1 _ _ _ _ _ _ _ _ _ _ _ _ _
   | exact ih2 _ _ _ _ _ _ _ _ _ _ _ _ _
   | exact ih3 _ _ _ _ _ _ _ _ _ _ _ _ _
   | exact ih4 _ _ _ _ _ _ _ _ _ _ _ _ _ _
   | exact Pa.pritchelref09_Word.mono _ _ _ _
   | exact mark_Remove.mono _ _ _ _
   | exact mark_Restore.mono _ _ _ _
   | exact pritchellaw09_lives.mono _
   | exact pritchelref09_Remove.mono _ _ _ _
   | exact pritchelref09_Restore.mono _ _ _ _
   | exact LeO.none _
   | refine LeO.ite ?_ ?_
   | refine LeO.bind ?_ (fun _ => ?_)
theorem pritchellaw09_MarkRestores.mono : ∀ a0 a1 a2 k, LeO (pritchellaw09_MarkRestores.f k a0 a1 a2) (pritchellaw09_MarkRestores.f (k + 1) a0 a1 a2) := by
 intro a0 a1 a2 k
 obtain ⟨ih0, ih1, ih2, ih3, ih4⟩ := pritchellaw09_MarkRestores.mono_l k
 unfold pritchellaw09_MarkRestores.f
 repeat' first
   | (with_reducible exact ih0 _ _ _ _ _ _ _ _)
   | (with_reducible exact ih1 _ _ _ _ _ _ _ _ _ _ _ _ _)
   | (with_reducible exact ih2 _ _ _ _ _ _ _ _ _ _ _ _ _)
   | (with_reducible exact ih3 _ _ _ _ _ _ _ _ _ _ _ _ _)
   | (with_reducible exact ih4 _ _ _ _ _ _ _ _ _ _ _ _ _ _)
   | (with_reducible exact Pa.pritchelref09_Word.mono _ _ _ _)
   | (with_reducible exact mark_Remove.mono _ _ _ _)
   | (with_reducible exact mark_Restore.mono _ _ _ _)
   | (with_reducible exact pritchellaw09_lives.mono _)
   | (with_reducible exact pritchelref09_Remove.mono _ _ _ _)
   | (with_reducible exact pritchelref09_Restore.mono _ _ _ _)
   | (with_reducible exact LeO.refl _)
   | (with_reducible exact LeO.none _)
   | (with_reducible refine LeO.ite ?_ ?_)
   | (with_reducible refine LeO.bind ?_ (fun _ => ?_))
   | exact ih0 _ _ _ _ _ _ _ _
   | exact ih1 _ _ _ _ _ _ _ _ _ _ _ _ _
   | exact ih2 _ _ _ _ _ _ _ _ _ _ _ _ _
   | exact ih3 _ _ _ _ _ _ _ _ _ _ _ _ _
   | exact ih4 _ _ _ _ _ _ _ _ _ _ _ _ _ _
   | exact Pa.pritchelref09_Word.mono _ _ _ _
   | exact mark_Remove.mono _ _ _ _
   | exact mark_Restore.mono _ _ _ _
   | exact pritchellaw09_lives.mono _
   | exact pritchelref09_Remove.mono _ _ _ _
   | exact pritchelref09_Restore.mono _ _ _ _
   | exact LeO.none _
   | refine LeO.ite ?_ ?_
   | refine LeO.bind ?_ (fun _ => ?_)
set_option maxHeartbeats 8000000 in
set_option maxRecDepth 100000 in
theorem pritchellaw09_MarkRestores.calls (k : Nat) (a0 : Int) (a1 : Int) (a2 : ByteArray) (r : Bool) (w : World) (hT : Lib.Utf8Tabs 0 1 w) (h : pritchellaw09_MarkRestores.f k a0 a1 a2 = some r) :
  Calls Tryd.prog 3 #[.int .i64 a0, .int .i64 a1, .string a2] w fun e w' => e = .returned (.bool r) ∧ Below w.heap.size w w' := by
 have HB := Aside0.mk (Below.refl w.heap.size w)
 have HT := Aside0.mk hT
 clear hT
 have H : ((Pa.pritchellaw09_cut.f a2 22).bind fun t190 => ((mark_Restore.f k a0 a1 t190).bind fun bt191 => ((mark_Remove.f k a0 a1 t190).bind fun bt193 => (pritchellaw09_MarkRestores.l0 k a0 a1 t190 bt191.1 bt191.2 bt193.1 bt193.2 0)))) = some r := h
 clear h
 replace H := Option.bind_eq_some_iff.mp H
 obtain ⟨t190, A40, H⟩ := H
 replace H : ((mark_Restore.f k a0 a1 t190).bind fun bt191 => ((mark_Remove.f k a0 a1 t190).bind fun bt193 => (pritchellaw09_MarkRestores.l0 k a0 a1 t190 bt191.1 bt191.2 bt193.1 bt193.2 0))) = some r := H
 have A4 := Aside0.mk A40
 clear A40
 replace H := Option.bind_eq_some_iff.mp H
 obtain ⟨⟨t191, t192⟩, A50, H⟩ := H
 replace H : ((mark_Remove.f k a0 a1 t190).bind fun bt193 => (pritchellaw09_MarkRestores.l0 k a0 a1 t190 t191 t192 bt193.1 bt193.2 0)) = some r := H
 have A5 := Aside0.mk A50
 clear A50
 replace H := Option.bind_eq_some_iff.mp H
 obtain ⟨⟨t193, t194⟩, A60, H⟩ := H
 replace H : (pritchellaw09_MarkRestores.l0 k a0 a1 t190 t191 t192 t193 t194 0) = some r := H
 have A6 := Aside0.mk A60
 clear A60
 have H' := Aside0.mk H
 clear H
 go_enter Tryd.func3, Tryd.ntmps3
 go_wp2_with (first | ((with_reducible refine gate_callee (f := 13) rfl ?_); refine goesL_ (some 19) rfl rfl Tryd.func13 (by kernel_rfl) rfl #[.string a2, .int .i64 22] rfl (by (try simp only [List.map_toArray, List.map_cons, List.map_nil]); first | done | rfl | (simp only [List.length_drop, List.length_take]; rfl)) ?_; (with_reducible refine (Pa.pritchellaw09_cut.calls a2 22 t190 _ A4.out).mono ?_); rintro e w7 ⟨rfl, hb⟩; refine ⟨_, rfl, ?_⟩; have n0_ := Aside0.mk (below_step (by repeat (first | (with_reducible first | exact HB.out | apply below_alloc | apply pw_below_drewN | apply below_drew1) | exact HB.out)) hb); clear HB; have HB := n0_; clear n0_; (try clear hb); (try clear hb2); (try clear hk); (try clear hi)) | ((with_reducible refine gate_callee (f := 14) rfl ?_); refine goesL_ (some 24) rfl rfl Tryd.func14 (by kernel_rfl) rfl #[.int .i64 a0, .int .i64 a1, .string t190] rfl (by (try simp only [List.map_toArray, List.map_cons, List.map_nil]); first | done | rfl | (simp only [List.length_drop, List.length_take]; rfl)) ?_; (with_reducible refine (mark_Restore.calls k a0 a1 t190 t191 t192 _ ?side1 A5.out).mono ?_); (case side1 => exact tabs_below HT.out (by repeat (first | (with_reducible first | exact HB.out | apply below_alloc | apply pw_below_drewN | apply below_drew1) | exact HB.out))); rintro e w8 ⟨rfl, hb⟩; refine ⟨_, rfl, ?_⟩; have n0_ := Aside0.mk (below_step (by repeat (first | (with_reducible first | exact HB.out | apply below_alloc | apply pw_below_drewN | apply below_drew1) | exact HB.out)) hb); clear HB; have HB := n0_; clear n0_; (try clear hb); (try clear hb2); (try clear hk); (try clear hi)) | ((with_reducible refine gate_callee (f := 15) rfl ?_); refine goesL_ (some 31) rfl rfl Tryd.func15 (by kernel_rfl) rfl #[.int .i64 a0, .int .i64 a1, .string t190] rfl (by (try simp only [List.map_toArray, List.map_cons, List.map_nil]); first | done | rfl | (simp only [List.length_drop, List.length_take]; rfl)) ?_; (with_reducible refine (mark_Remove.calls k a0 a1 t190 t193 t194 _ ?side1 A6.out).mono ?_); (case side1 => exact tabs_below HT.out (by repeat (first | (with_reducible first | exact HB.out | apply below_alloc | apply pw_below_drewN | apply below_drew1) | exact HB.out))); rintro e w9 ⟨rfl, hb⟩; refine ⟨_, rfl, ?_⟩; have n0_ := Aside0.mk (below_step (by repeat (first | (with_reducible first | exact HB.out | apply below_alloc | apply pw_below_drewN | apply below_drew1) | exact HB.out)) hb); clear HB; have HB := n0_; clear n0_; (try clear hb); (try clear hb2); (try clear hk); (try clear hi)))
 go_loopg [12] k (fun kq v12 w' => ∃ (x12_1 : Int), v12 = .int .i64 x12_1 ∧ Aside0 (pritchellaw09_MarkRestores.l0 kq a0 a1 t190 t191 t192 t193 t194 x12_1 = some r) ∧ Aside0 (kq ≤ k) ∧ Aside0 (Below w.heap.size w w'))
 case atStart => exact ⟨(0), (by first | rfl | (simp; done) | (simp [*]; done)), H', ⟨Nat.le_refl _⟩, ⟨by repeat (first | (with_reducible first | exact HB.out | apply below_alloc | apply pw_below_drewN | apply below_drew1) | exact HB.out)⟩⟩
 case round =>
  clear H'
  try clear c1
  try clear p2
  try clear c3
  obtain ⟨x12_1, rfl, HA, HK1, HB⟩ := hrel
  cases gk with
  | zero => exact absurd HA.out (by simp [pritchellaw09_MarkRestores.l0])
  | succ k1 =>
   have H := HA.out
   clear HA
   simp only [pritchellaw09_MarkRestores.l0] at H
   by_cases c10 : x12_1 < 2
   ·rw [if_pos c10] at H
    have c10b0 : decide (x12_1 < 2) = true := decide_eq_true c10
    clear c10
    replace H := Option.bind_eq_some_iff.mp H
    obtain ⟨t196, A110, H⟩ := H
    replace H : (if x12_1 = 1 then (pritchellaw09_MarkRestores.j1 k1 a0 a1 t190 t191 t192 t193 t194 x12_1 t193 t194 (⟨#[]⟩ : ByteArray) false t196) else (pritchellaw09_MarkRestores.j1 k1 a0 a1 t190 t191 t192 t193 t194 x12_1 t191 t192 (⟨#[]⟩ : ByteArray) false t196)) = some r := H
    have A11 := Aside0.mk A110
    clear A110
    have HC12 := Aside0.mk H
    clear H
    go_upto_if 45 with (first | ((with_reducible refine gate_callee (f := 16) rfl ?_); refine goesL_ (some 43) rfl rfl Tryd.func16 (by kernel_rfl) rfl #[.string t190, .int .i64 2, .int .i64 (wrap64 (20 + x12_1))] rfl (by (try simp only [List.map_toArray, List.map_cons, List.map_nil]); first | done | rfl | (simp only [List.length_drop, List.length_take]; rfl)) ?_; (with_reducible refine (Pa.pritchelref09_Word.calls k1 t190 2 (wrap64 (20 + x12_1)) t196 _ A11.out).mono ?_); rintro e w' ⟨rfl, ⟨nd, rfl⟩⟩; refine ⟨_, rfl, ?_⟩))
    (try simp only [Act.put, List.setIfInBounds_toArray, List.set_cons_zero, List.set_cons_succ])
    go_cut [13, 14] (fun v13 v14 wc => ∃ (kq : Nat) (x13_11 : ByteArray) (x14_11 : Int), v13 = .string x13_11 ∧ v14 = .int .i64 x14_11 ∧ Aside0 (pritchellaw09_MarkRestores.j1 kq a0 a1 t190 t191 t192 t193 t194 x12_1 x13_11 x14_11 (⟨#[]⟩ : ByteArray) false t196 = some r) ∧ Aside0 (kq ≤ k1) ∧ Aside0 (Below w.heap.size w wc))
    case first =>
     have H := HC12.out
     clear HC12
     by_cases c13 : x12_1 = 1
     ·rw [if_pos c13] at H
      have c13b0 : (x12_1 == 1) = true := beq_iff_eq.mpr c13
      have c13b1 : (x12_1 != 1) = false := bne_eq_false_iff_eq.mpr c13
      clear c13
      (first | rw [c13b0] | (simp only [i64_w, i32_w]; rw [c13b0]) | skip)
      have H' := Aside0.mk H
      clear H
      go_wp2
      go_meet
      case rel => exact ⟨_, (t193), (t194), (by first | rfl | (simp; done) | (simp [*]; done)), (by first | rfl | (simp; done) | (simp [*]; done)), H', ⟨by have := HK1.out; first | omega | exact Nat.le_refl _⟩, ⟨by repeat (first | (with_reducible first | exact HB.out | apply below_alloc | apply pw_below_drewN | apply below_drew1) | exact HB.out)⟩⟩
     ·rw [if_neg c13] at H
      have c13b0 : (x12_1 == 1) = false := beq_eq_false_iff_ne.mpr c13
      have c13b1 : (x12_1 != 1) = true := bne_iff_ne.mpr c13
      (first | rw [c13b0] | (simp only [i64_w, i32_w]; rw [c13b0]) | skip)
      have H' := Aside0.mk H
      clear H
      go_wp2
      go_meet
      case rel => exact ⟨_, (t191), (t192), (by first | rfl | (simp; done) | (simp [*]; done)), (by first | rfl | (simp; done) | (simp [*]; done)), H', ⟨by have := HK1.out; first | omega | exact Nat.le_refl _⟩, ⟨by repeat (first | (with_reducible first | exact HB.out | apply below_alloc | apply pw_below_drewN | apply below_drew1) | exact HB.out)⟩⟩
    case rest =>
     clear HC12
     try clear c1
     try clear p2
     try clear c3
     try clear p6
     try clear c10
     try clear c10b0
     try clear c13
     try clear c13b0
     try clear c13b1
     try clear p2
     obtain ⟨kq, x13_11, x14_11, rfl, rfl, HA, HJ11, HB⟩ := hcut
     cases kq with
     | zero => exact absurd HA.out (by simp [pritchellaw09_MarkRestores.j1])
     | succ kj11 =>
      have H := HA.out
      clear HA
      simp only [pritchellaw09_MarkRestores.j1] at H
      have HC14 := Aside0.mk H
      clear H
      go_upto_block 2 with (fail)
      go_cut [15, 16, 17] (fun v15 v16 v17 wc => ∃ (kq : Nat) (x15_13 : ByteArray) (x16_13 : Bool) (x17_13 : Int), v15 = .string x15_13 ∧ v16 = .bool x16_13 ∧ v17 = .int .i64 x17_13 ∧ Aside0 (pritchellaw09_MarkRestores.j3 kq a0 a1 t190 t191 t192 t193 t194 x12_1 x13_11 x14_11 x15_13 x16_13 x17_13 = some r) ∧ Aside0 (kq ≤ kj11) ∧ Aside0 (Below w.heap.size w wc))
      case first =>
       have H := HC14.out
       clear HC14
       by_cases c15 : t196 = 0
       ·rw [if_pos c15] at H
        have c15b0 : (t196 == 0) = true := beq_iff_eq.mpr c15
        have c15b1 : (t196 != 0) = false := bne_eq_false_iff_eq.mpr c15
        clear c15
        (first | rw [c15b0] | (simp only [i64_w, i32_w]; rw [c15b0]) | skip)
        have HC16 := Aside0.mk H
        clear H
        go_upto_region 14 with (fail)
        go_cut [58] (fun v58 wc => ∃ (kq : Nat) (x58_15 : Bool), v58 = .bool x58_15 ∧ Aside0 (pritchellaw09_MarkRestores.j2 kq a0 a1 t190 t191 t192 t193 t194 x12_1 x13_11 x14_11 (⟨#[]⟩ : ByteArray) false t196 x58_15 = some r) ∧ Aside0 (kq ≤ kj11) ∧ Aside0 (Below w.heap.size w wc))
        case first =>
         have H := HC16.out
         clear HC16
         by_cases c17 : a0 < 1
         ·rw [if_pos c17] at H
          have c17b0 : decide (a0 < 1) = true := decide_eq_true c17
          clear c17
          (first | rw [c17b0] | (simp only [i64_w, i32_w]; rw [c17b0]) | skip)
          have H' := Aside0.mk H
          clear H
          go_wp2
          go_meet
          case rel => exact ⟨_, (true), (by first | rfl | (simp; done) | (simp [*]; done)), H', ⟨by have := HK1.out; have := HJ11.out; first | omega | exact Nat.le_refl _⟩, ⟨by repeat (first | (with_reducible first | exact HB.out | apply below_alloc | apply pw_below_drewN | apply below_drew1) | exact HB.out)⟩⟩
         ·rw [if_neg c17] at H
          have c17b0 : decide (a0 < 1) = false := decide_eq_false c17
          clear c17
          (first | rw [c17b0] | (simp only [i64_w, i32_w]; rw [c17b0]) | skip)
          by_cases c18 : a0 > 20
          ·rw [if_pos c18] at H
           have c18b0 : decide (20 < a0) = true := decide_eq_true c18
           clear c18
           have H' := Aside0.mk H
           clear H
           go_wp2
           go_meet
           case rel => exact ⟨_, (true), (by first | rfl | (simp; done) | (simp [*]; done)), H', ⟨by have := HK1.out; have := HJ11.out; first | omega | exact Nat.le_refl _⟩, ⟨by repeat (first | (with_reducible first | exact HB.out | apply below_alloc | apply pw_below_drewN | apply below_drew1) | exact HB.out)⟩⟩
          ·rw [if_neg c18] at H
           have c18b0 : decide (20 < a0) = false := decide_eq_false c18
           clear c18
           by_cases c19 : a1 < 0
           ·rw [if_pos c19] at H
            have c19b0 : decide (a1 < 0) = true := decide_eq_true c19
            clear c19
            have H' := Aside0.mk H
            clear H
            go_wp2
            go_meet
            case rel => exact ⟨_, (true), (by first | rfl | (simp; done) | (simp [*]; done)), H', ⟨by have := HK1.out; have := HJ11.out; first | omega | exact Nat.le_refl _⟩, ⟨by repeat (first | (with_reducible first | exact HB.out | apply below_alloc | apply pw_below_drewN | apply below_drew1) | exact HB.out)⟩⟩
           ·rw [if_neg c19] at H
            have c19b0 : decide (a1 < 0) = false := decide_eq_false c19
            clear c19
            have H' := Aside0.mk H
            clear H
            go_wp2
            go_meet
            case rel => exact ⟨_, (decide (a1 > a0)), (by first | rfl | (simp; done) | (simp [*]; done)), H', ⟨by have := HK1.out; have := HJ11.out; first | omega | exact Nat.le_refl _⟩, ⟨by repeat (first | (with_reducible first | exact HB.out | apply below_alloc | apply pw_below_drewN | apply below_drew1) | exact HB.out)⟩⟩
        case rest =>
         clear HC16
         try clear c1
         try clear p2
         try clear c3
         try clear p6
         try clear c10
         try clear c10b0
         try clear c13
         try clear c13b0
         try clear c13b1
         try clear c14
         try clear c15
         try clear c15b0
         try clear c15b1
         try clear c16
         try clear c17
         try clear c17b0
         try clear c18
         try clear c18b0
         try clear c19
         try clear c19b0
         try clear p2
         try clear p6
         obtain ⟨kq, x58_15, rfl, HA, HJ15, HB⟩ := hcut
         cases kq with
         | zero => exact absurd HA.out (by simp [pritchellaw09_MarkRestores.j2])
         | succ kj15 =>
          have H := HA.out
          clear HA
          simp only [pritchellaw09_MarkRestores.j2] at H
          by_cases c20 : x58_15 = true
          ·subst c20
           have H1 : (pritchellaw09_MarkRestores.j3 kj15 a0 a1 t190 t191 t192 t193 t194 x12_1 x13_11 x14_11 (⟨#[]⟩ : ByteArray) false 1) = some r := by rw [if_pos rfl] at H; exact H
           clear H
           have H := H1
           clear H1
           have H' := Aside0.mk H
           clear H
           go_wp2
           go_meet
           case rel => exact ⟨_, ((⟨#[]⟩ : ByteArray)), (false), (1), (by first | rfl | (simp; done) | (simp [*]; done)), (by first | rfl | (simp; done) | (simp [*]; done)), (by first | rfl | (simp; done) | (simp [*]; done)), H', ⟨by have := HK1.out; have := HJ11.out; have := HJ15.out; first | omega | exact Nat.le_refl _⟩, ⟨by repeat (first | (with_reducible first | exact HB.out | apply below_alloc | apply pw_below_drewN | apply below_drew1) | exact HB.out)⟩⟩
          ·replace c20 := Bool.eq_false_iff.mpr c20
           subst c20
           have H1 : (if x12_1 = 0 then ((pritchelref09_Restore.f kj15 a0 a1 t190).bind fun bt197 => (pritchellaw09_MarkRestores.j3 kj15 a0 a1 t190 t191 t192 t193 t194 x12_1 x13_11 x14_11 bt197.1 bt197.2 t196)) else ((pritchelref09_Remove.f kj15 a0 a1 t190).bind fun bt199 => (pritchellaw09_MarkRestores.j3 kj15 a0 a1 t190 t191 t192 t193 t194 x12_1 x13_11 x14_11 bt199.1 bt199.2 t196))) = some r := by rw [if_neg (show ¬ (false = true) by decide)] at H; exact H
           clear H
           have H := H1
           clear H1
           by_cases c21 : x12_1 = 0
           ·rw [if_pos c21] at H
            have c21b0 : (x12_1 == 0) = true := beq_iff_eq.mpr c21
            have c21b1 : (x12_1 != 0) = false := bne_eq_false_iff_eq.mpr c21
            clear c21
            replace H := Option.bind_eq_some_iff.mp H
            obtain ⟨⟨t197, t198⟩, A220, H⟩ := H
            replace H : (pritchellaw09_MarkRestores.j3 kj15 a0 a1 t190 t191 t192 t193 t194 x12_1 x13_11 x14_11 t197 t198 t196) = some r := H
            have A22 := Aside0.mk A220
            clear A220
            have H' := Aside0.mk H
            clear H
            go_wp2_with (first | ((with_reducible refine gate_callee (f := 17) rfl ?_); refine goesL_ (some 81) rfl rfl Tryd.func17 (by kernel_rfl) rfl #[.int .i64 a0, .int .i64 a1, .string t190] rfl (by (try simp only [List.map_toArray, List.map_cons, List.map_nil]); first | done | rfl | (simp only [List.length_drop, List.length_take]; rfl)) ?_; (with_reducible refine (pritchelref09_Restore.calls kj15 a0 a1 t190 t197 t198 _ A22.out).mono ?_); rintro e w23 ⟨rfl, hb⟩; refine ⟨_, rfl, ?_⟩; have n0_ := Aside0.mk (below_step (by repeat (first | (with_reducible first | exact HB.out | apply below_alloc | apply pw_below_drewN | apply below_drew1) | exact HB.out)) hb); clear HB; have HB := n0_; clear n0_; (try clear hb); (try clear hb2); (try clear hk); (try clear hi)))
            go_meet
            case rel => exact ⟨_, (t197), (t198), (t196), (by first | rfl | (simp; done) | (simp [*]; done)), (by first | rfl | (simp; done) | (simp [*]; done)), (by first | rfl | (simp; done) | (simp [*]; done)), H', ⟨by have := HK1.out; have := HJ11.out; have := HJ15.out; first | omega | exact Nat.le_refl _⟩, ⟨by repeat (first | (with_reducible first | exact HB.out | apply below_alloc | apply pw_below_drewN | apply below_drew1) | exact HB.out)⟩⟩
           ·rw [if_neg c21] at H
            have c21b0 : (x12_1 == 0) = false := beq_eq_false_iff_ne.mpr c21
            have c21b1 : (x12_1 != 0) = true := bne_iff_ne.mpr c21
            replace H := Option.bind_eq_some_iff.mp H
            obtain ⟨⟨t199, t200⟩, A240, H⟩ := H
            replace H : (pritchellaw09_MarkRestores.j3 kj15 a0 a1 t190 t191 t192 t193 t194 x12_1 x13_11 x14_11 t199 t200 t196) = some r := H
            have A24 := Aside0.mk A240
            clear A240
            have H' := Aside0.mk H
            clear H
            go_wp2_with (first | ((with_reducible refine gate_callee (f := 18) rfl ?_); refine goesL_ (some 52) rfl rfl Tryd.func18 (by kernel_rfl) rfl #[.int .i64 a0, .int .i64 a1, .string t190] rfl (by (try simp only [List.map_toArray, List.map_cons, List.map_nil]); first | done | rfl | (simp only [List.length_drop, List.length_take]; rfl)) ?_; (with_reducible refine (pritchelref09_Remove.calls kj15 a0 a1 t190 t199 t200 _ A24.out).mono ?_); rintro e w25 ⟨rfl, hb⟩; refine ⟨_, rfl, ?_⟩; have n0_ := Aside0.mk (below_step (by repeat (first | (with_reducible first | exact HB.out | apply below_alloc | apply pw_below_drewN | apply below_drew1) | exact HB.out)) hb); clear HB; have HB := n0_; clear n0_; (try clear hb); (try clear hb2); (try clear hk); (try clear hi)))
            go_meet
            case rel => exact ⟨_, (t199), (t200), (t196), (by first | rfl | (simp; done) | (simp [*]; done)), (by first | rfl | (simp; done) | (simp [*]; done)), (by first | rfl | (simp; done) | (simp [*]; done)), H', ⟨by have := HK1.out; have := HJ11.out; have := HJ15.out; first | omega | exact Nat.le_refl _⟩, ⟨by repeat (first | (with_reducible first | exact HB.out | apply below_alloc | apply pw_below_drewN | apply below_drew1) | exact HB.out)⟩⟩
       ·rw [if_neg c15] at H
        have c15b0 : (t196 == 0) = false := beq_eq_false_iff_ne.mpr c15
        have c15b1 : (t196 != 0) = true := bne_iff_ne.mpr c15
        (first | rw [c15b0] | (simp only [i64_w, i32_w]; rw [c15b0]) | skip)
        have H' := Aside0.mk H
        clear H
        go_wp2
        go_meet
        case rel => exact ⟨_, ((⟨#[]⟩ : ByteArray)), (false), (t196), (by first | rfl | (simp; done) | (simp [*]; done)), (by first | rfl | (simp; done) | (simp [*]; done)), (by first | rfl | (simp; done) | (simp [*]; done)), H', ⟨by have := HK1.out; have := HJ11.out; first | omega | exact Nat.le_refl _⟩, ⟨by repeat (first | (with_reducible first | exact HB.out | apply below_alloc | apply pw_below_drewN | apply below_drew1) | exact HB.out)⟩⟩
      case rest =>
       clear HC14
       try clear c1
       try clear c2
       try clear p2
       try clear c3
       try clear p6
       try clear c10
       try clear c10b0
       try clear c13
       try clear c13b0
       try clear c13b1
       try clear c14
       try clear c15
       try clear c15b0
       try clear c15b1
       try clear c16
       try clear c17
       try clear c17b0
       try clear c18
       try clear c18b0
       try clear c19
       try clear c19b0
       try clear c20
       try clear c21
       try clear c21b0
       try clear c21b1
       try clear p2
       try clear p6
       obtain ⟨kq, x15_13, x16_13, x17_13, rfl, rfl, rfl, HA, HJ13, HB⟩ := hcut
       cases kq with
       | zero => exact absurd HA.out (by simp [pritchellaw09_MarkRestores.j3])
       | succ kj13 =>
        have H := HA.out
        clear HA
        simp only [pritchellaw09_MarkRestores.j3] at H
        have HC26 := Aside0.mk H
        clear H
        go_upto_region 18 with (fail)
        go_cut [89] (fun v89 wc => ∃ (kq : Nat) (x89_25 : Bool), v89 = .bool x89_25 ∧ Aside0 (pritchellaw09_MarkRestores.j4 kq a0 a1 t190 t191 t192 t193 t194 x12_1 x13_11 x14_11 x15_13 x17_13 x89_25 = some r) ∧ Aside0 (kq ≤ kj13) ∧ Aside0 (Below w.heap.size w wc))
        case first =>
         have H := HC26.out
         clear HC26
         by_cases c27 : x17_13 = 0
         ·rw [if_pos c27] at H
          have c27b0 : (x17_13 == 0) = true := beq_iff_eq.mpr c27
          have c27b1 : (x17_13 != 0) = false := bne_eq_false_iff_eq.mpr c27
          clear c27
          (first | rw [c27b0] | (simp only [i64_w, i32_w]; rw [c27b0]) | skip)
          have H' := Aside0.mk H
          clear H
          go_wp2
          go_meet
          case rel => exact ⟨_, (!x16_13), (by first | rfl | (simp; done) | (simp [*]; done)), H', ⟨by have := HK1.out; have := HJ11.out; have := HJ13.out; first | omega | exact Nat.le_refl _⟩, ⟨by repeat (first | (with_reducible first | exact HB.out | apply below_alloc | apply pw_below_drewN | apply below_drew1) | exact HB.out)⟩⟩
         ·rw [if_neg c27] at H
          have c27b0 : (x17_13 == 0) = false := beq_eq_false_iff_ne.mpr c27
          have c27b1 : (x17_13 != 0) = true := bne_iff_ne.mpr c27
          (first | rw [c27b0] | (simp only [i64_w, i32_w]; rw [c27b0]) | skip)
          have H' := Aside0.mk H
          clear H
          go_wp2
          go_meet
          case rel => exact ⟨_, (false), (by first | rfl | (simp; done) | (simp [*]; done)), H', ⟨by have := HK1.out; have := HJ11.out; have := HJ13.out; first | omega | exact Nat.le_refl _⟩, ⟨by repeat (first | (with_reducible first | exact HB.out | apply below_alloc | apply pw_below_drewN | apply below_drew1) | exact HB.out)⟩⟩
        case rest =>
         clear HC26
         try clear c1
         try clear c2
         try clear p2
         try clear c3
         try clear p6
         try clear c10
         try clear c10b0
         try clear c13
         try clear c13b0
         try clear c13b1
         try clear c14
         try clear c15
         try clear c15b0
         try clear c15b1
         try clear c16
         try clear c17
         try clear c17b0
         try clear c18
         try clear c18b0
         try clear c19
         try clear c19b0
         try clear c20
         try clear c21
         try clear c21b0
         try clear c21b1
         try clear c27
         try clear c27b0
         try clear c27b1
         try clear p2
         try clear p6
         obtain ⟨kq, x89_25, rfl, HA, HJ25, HB⟩ := hcut
         cases kq with
         | zero => exact absurd HA.out (by simp [pritchellaw09_MarkRestores.j4])
         | succ kj25 =>
          have H := HA.out
          clear HA
          simp only [pritchellaw09_MarkRestores.j4] at H
          by_cases c28 : x89_25 = true
          ·subst c28
           have H1 : (if x13_11.toList = x15_13.toList then (if x14_11 = 5 then (pritchellaw09_MarkRestores.l0 kj25 a0 a1 t190 t191 t192 t193 t194 (wrap64 (x12_1 + 1))) else (some false)) else (some false)) = some r := by rw [if_pos rfl] at H; exact H
           clear H
           have H := H1
           clear H1
           by_cases c29 : x13_11.toList = x15_13.toList
           ·rw [if_pos c29] at H
            have c29b0 : (x13_11.toList == x15_13.toList) = true := beq_iff_eq.mpr c29
            have c29b1 : (x13_11.toList != x15_13.toList) = false := bne_eq_false_iff_eq.mpr c29
            clear c29
            by_cases c30 : x14_11 = 5
            ·rw [if_pos c30] at H
             have c30b0 : (x14_11 == 5) = true := beq_iff_eq.mpr c30
             have c30b1 : (x14_11 != 5) = false := bne_eq_false_iff_eq.mpr c30
             clear c30
             have H' := Aside0.mk H
             clear H
             go_wp2
             go_roundg kj25
             case measure => have := HK1.out; have := HJ11.out; have := HJ13.out; have := HJ25.out; omega
             case rel => exact ⟨(wrap64 (x12_1 + 1)), (by first | rfl | (simp; done) | (simp [*]; done)), H', ⟨by have := HK1.out; have := HJ11.out; have := HJ13.out; have := HJ25.out; omega⟩, ⟨by repeat (first | (with_reducible first | exact HB.out | apply below_alloc | apply pw_below_drewN | apply below_drew1) | exact HB.out)⟩⟩
            ·rw [if_neg c30] at H
             have c30b0 : (x14_11 == 5) = false := beq_eq_false_iff_ne.mpr c30
             have c30b1 : (x14_11 != 5) = true := bne_iff_ne.mpr c30
             obtain rfl := Option.some.inj H
             go_wp2
             go_ret
             exact ⟨by first | rfl | (simp [errW_none, errW_some] <;> rfl) | (simp [*, errW_none, errW_some] <;> rfl), by repeat (first | (with_reducible first | exact HB.out | apply below_alloc | apply pw_below_drewN | apply below_drew1) | exact HB.out)⟩
           ·rw [if_neg c29] at H
            have c29b0 : (x13_11.toList == x15_13.toList) = false := beq_eq_false_iff_ne.mpr c29
            have c29b1 : (x13_11.toList != x15_13.toList) = true := bne_iff_ne.mpr c29
            obtain rfl := Option.some.inj H
            go_wp2
            go_ret
            exact ⟨by first | rfl | (simp [errW_none, errW_some] <;> rfl) | (simp [*, errW_none, errW_some] <;> rfl), by repeat (first | (with_reducible first | exact HB.out | apply below_alloc | apply pw_below_drewN | apply below_drew1) | exact HB.out)⟩
          ·replace c28 := Bool.eq_false_iff.mpr c28
           subst c28
           have H1 : (if x13_11.toList = x15_13.toList then (if x14_11 = x17_13 then (pritchellaw09_MarkRestores.l0 kj25 a0 a1 t190 t191 t192 t193 t194 (wrap64 (x12_1 + 1))) else (some false)) else (some false)) = some r := by rw [if_neg (show ¬ (false = true) by decide)] at H; exact H
           clear H
           have H := H1
           clear H1
           by_cases c31 : x13_11.toList = x15_13.toList
           ·rw [if_pos c31] at H
            have c31b0 : (x13_11.toList == x15_13.toList) = true := beq_iff_eq.mpr c31
            have c31b1 : (x13_11.toList != x15_13.toList) = false := bne_eq_false_iff_eq.mpr c31
            clear c31
            by_cases c32 : x14_11 = x17_13
            ·rw [if_pos c32] at H
             have c32b0 : (x14_11 == x17_13) = true := beq_iff_eq.mpr c32
             have c32b1 : (x14_11 != x17_13) = false := bne_eq_false_iff_eq.mpr c32
             clear c32
             have H' := Aside0.mk H
             clear H
             go_wp2
             go_roundg kj25
             case measure => have := HK1.out; have := HJ11.out; have := HJ13.out; have := HJ25.out; omega
             case rel => exact ⟨(wrap64 (x12_1 + 1)), (by first | rfl | (simp; done) | (simp [*]; done)), H', ⟨by have := HK1.out; have := HJ11.out; have := HJ13.out; have := HJ25.out; omega⟩, ⟨by repeat (first | (with_reducible first | exact HB.out | apply below_alloc | apply pw_below_drewN | apply below_drew1) | exact HB.out)⟩⟩
            ·rw [if_neg c32] at H
             have c32b0 : (x14_11 == x17_13) = false := beq_eq_false_iff_ne.mpr c32
             have c32b1 : (x14_11 != x17_13) = true := bne_iff_ne.mpr c32
             obtain rfl := Option.some.inj H
             go_wp2
             go_ret
             exact ⟨by first | rfl | (simp [errW_none, errW_some] <;> rfl) | (simp [*, errW_none, errW_some] <;> rfl), by repeat (first | (with_reducible first | exact HB.out | apply below_alloc | apply pw_below_drewN | apply below_drew1) | exact HB.out)⟩
           ·rw [if_neg c31] at H
            have c31b0 : (x13_11.toList == x15_13.toList) = false := beq_eq_false_iff_ne.mpr c31
            have c31b1 : (x13_11.toList != x15_13.toList) = true := bne_iff_ne.mpr c31
            obtain rfl := Option.some.inj H
            go_wp2
            go_ret
            exact ⟨by first | rfl | (simp [errW_none, errW_some] <;> rfl) | (simp [*, errW_none, errW_some] <;> rfl), by repeat (first | (with_reducible first | exact HB.out | apply below_alloc | apply pw_below_drewN | apply below_drew1) | exact HB.out)⟩
   ·rw [if_neg c10] at H
    have c10b0 : decide (x12_1 < 2) = false := decide_eq_false c10
    clear c10
    replace H := Option.bind_eq_some_iff.mp H
    obtain ⟨t195, A330, H⟩ := H
    replace H : (some t195) = some r := H
    have A33 := Aside0.mk A330
    clear A330
    obtain rfl := Option.some.inj H
    go_wp2_with (first | ((with_reducible refine gate_callee (f := 19) rfl ?_); refine goesL_ (some 98) rfl rfl Tryd.func19 (by kernel_rfl) rfl #[] rfl (by (try simp only [List.map_toArray, List.map_cons, List.map_nil]); first | done | rfl | (simp only [List.length_drop, List.length_take]; rfl)) ?_; (with_reducible refine (pritchellaw09_lives.calls k1  t195 _ ?side1 A33.out).mono ?_); (case side1 => exact tabs_below HT.out (by repeat (first | (with_reducible first | exact HB.out | apply below_alloc | apply pw_below_drewN | apply below_drew1) | exact HB.out))); rintro e w34 ⟨rfl, hb⟩; refine ⟨_, rfl, ?_⟩; have n0_ := Aside0.mk (below_step (by repeat (first | (with_reducible first | exact HB.out | apply below_alloc | apply pw_below_drewN | apply below_drew1) | exact HB.out)) hb); clear HB; have HB := n0_; clear n0_; (try clear hb); (try clear hb2); (try clear hk); (try clear hi)))
    go_ret
    exact ⟨by first | rfl | (simp [errW_none, errW_some] <;> rfl) | (simp [*, errW_none, errW_some] <;> rfl), by repeat (first | (with_reducible first | exact HB.out | apply below_alloc | apply pw_below_drewN | apply below_drew1) | exact HB.out)⟩

/-- THE ONE PURE STATEMENT of pritchellaw09_MarkRestores: yours. -/
def pritchellaw09_MarkRestores.Pure : Prop := ∀ (a0 : Int) (a1 : Int) (a2 : ByteArray), (Lit.int .i64 a0).wf = true → (Lit.int .i64 a1).wf = true → a2.size ≤ 140737488351232 → ∃ k, pritchellaw09_MarkRestores.f k a0 a1 a2 = some true
theorem pritchellaw09_MarkRestores.walk (P : pritchellaw09_MarkRestores.Pure) (a0 : Int) (a1 : Int) (a2 : ByteArray) (w : World) (w0 : (Lit.int .i64 a0).wf = true) (w1 : (Lit.int .i64 a1).wf = true) (w2 : a2.size ≤ 140737488351232) (hT : Lib.Utf8Tabs 0 1 w) :
  Calls Tryd.prog 3 #[.int .i64 a0, .int .i64 a1, .string a2] w fun e w' => e = .returned (.bool true) ∧ Below w.heap.size w w' := by
 obtain ⟨k, h⟩ := P a0 a1 a2 w0 w1 w2
 refine (pritchellaw09_MarkRestores.calls k a0 a1 a2 true w hT h).mono ?_
 rintro e w' ⟨rfl, hd⟩
 exact ⟨rfl, hd⟩

end Go.Proofs.YtopmcoohdhlnaaaDoor.Pb
