/- The program's check: whether words are too long, or hold another letter than a set's, for a set of ASCII letters. -/
import Derived.ArgAppend
import Derived.Below
import Derived.BigQuiet
import Derived.Deep.AppendLies
import Derived.Deep.CutBlock
import Derived.Deep.DeepCutAuto
import Derived.Deep.Draws
import Derived.Deep.LoopGhost
import Derived.Deep.OwnRows
import Derived.Deep.QuietTactic
import Derived.Deep.RegionHeld3
import Derived.KernelRfl
import Derived.Laws.BitsLemmas
import Derived.Laws.BytesArg
import Derived.Laws.IdiomCopy
import Derived.Laws.MakeOwn
import Derived.Laws.OwnMore
import Derived.Laws.RangeAny
import Derived.Laws.Rows
import Derived.Laws.Slices
import Derived.Lib.AppendStr
import Derived.Lib.ConvBytes
import Derived.Lib.Hide
import Derived.Lib.OthersKept
import Derived.Lib.TrimUEq
import Derived.Maps.AppendAt
import Derived.OrdersHeld
import Derived.Outline
import Derived.OwnWalk
import Derived.RowKit
import Derived.RowKit3
import Derived.Shelf.Slices.CompactS
import Derived.Shelf.Small.Utf8
import Derived.Shelf.Sort.Plain
import Derived.Shelf.Strings.Builder1
import Derived.Shelf.Strings.Builder2
import Derived.Shelf.Strings.OnBuilder
import Derived.Shelf.Unicode.DecodeAny
import Derived.Shelf.Unicode.DecodeLast
import Derived.Shelf.Unicode.DecodeSlow
import Derived.Tactics
import Derived.Test.YtopmcoohdhlnaaaDoorProg
import Derived.WalkKit
import Derived.WalkSmall
import Derived.WalkSpells
import Derived.WideLaws
import Derived.Test.YtopmcoohdhlnaaaDoorG0
import Derived.Test.YtopmcoohdhlnaaaDoorG1
import Derived.Test.YtopmcoohdhlnaaaDoorG2
import Derived.Test.YtopmcoohdhlnaaaDoorWLast
import Derived.Test.YtopmcoohdhlnaaaDoorWMore
import Derived.Test.YtopmcoohdhlnaaaDoorWShare
import Derived.Test.YtopmcoohdhlnaaaDoorWWords
namespace Go.Proofs.YtopmcoohdhlnaaaDoor.G
open Go.RowKit Go.Lib Go.Proofs.YtopmcoohdhlnaaaDoorW.PrintWords Go.Proofs.YtopmcoohdhlnaaaDoorW.PrintLast Go.Proofs.YtopmcoohdhlnaaaDoorW.PrintMore
set_option linter.unusedVariables false

/-- Does a word hold a letter that is none of the set? -/
def badWord (set x : ByteArray) : Bool := x.data.toList.any fun b => !inSet set b.toNat
theorem badWord_true {set x : ByteArray} (i : Nat) (h : i < x.size) (hb : inSet set (x[i]'h).toNat = false) : badWord set x = true := by
  unfold badWord
  rw [List.any_eq_true]
  exact ⟨x[i]'h, by simp [ByteArray.getElem_eq_getElem_data], by simp [hb]⟩
theorem badWord_false {set x : ByteArray} (h : ∀ i (h : i < x.size), inSet set (x[i]'h).toNat = true) : badWord set x = false := by
  unfold badWord
  rw [List.any_eq_false]
  intro b hb
  obtain ⟨i, hi, rfl⟩ := List.getElem_of_mem hb
  have := h i (by simpa using hi)
  simpa [ByteArray.getElem_eq_getElem_data] using this
theorem bad0_extract {set s : ByteArray} (i : Nat) (h : i < s.size) (hb : inSet set (s[i]'h).toNat = false) : Bad0 set (s.extract i s.size) := by
  have hs : (s.extract i s.size).size = s.size - i := by rw [ByteArray.size_extract]; omega
  refine ⟨by omega, ?_⟩
  rw [ByteArray.getElem_extract]
  simpa using hb

/-- The sets of letters that the program hands to check: they are ASCII. -/
def okSet (s : ByteArray) : Bool := s.data.toList.all fun b => decide (b.toNat < 128)
theorem okSet_ascii {s : ByteArray} (h : okSet s = true) : Ascii s := by
  intro i hi
  unfold okSet at h
  rw [List.all_eq_true] at h
  have := h (s[i]'hi) (by simp [ByteArray.getElem_eq_getElem_data])
  simpa using this

/-! ### mark_check: function 39 -/
def mark_check.f (a0 : Int) (a1 : ByteArray) (l2 : List ByteArray) : Option Int :=
  if okSet a1 = true ∧ a1.size ≤ 1000 ∧ a0 ≤ 1000000 ∧ l2.length ≤ 1000 then
    some (if l2.any (fun x => decide (a0 < (x.size : Int))) = true then 3 else if l2.any (badWord a1) = true then 2 else 0)
  else none

theorem any_take_succ {α : Type} (p : α → Bool) (l : List α) (k : Nat) (h : k < l.length) : (l.take (k + 1)).any p = ((l.take k).any p || p (l[k]'h)) := by
  rw [List.take_succ_eq_append_getElem h, List.any_append]
  simp
theorem rd_nat (l : List ByteArray) (k : Nat) (h : k < l.length) : rdOf ByteArray.empty l (k : Int) = l[k]'h := by
  unfold rdOf
  simp [h]
theorem any_of_take {α : Type} (p : α → Bool) (l : List α) (k : Nat) (h : k < l.length) (hp : p (l[k]'h) = true) : l.any p = true := List.any_eq_true.2 ⟨_, List.getElem_mem h, hp⟩

theorem not_empty {z : ByteArray} (h : 0 < z.size) : z.toList.isEmpty = false := by
  rw [toList_data]
  cases z with
  | mk d => cases d with
    | mk l => cases l with
      | nil => simp [ByteArray.size] at h
      | cons a b => rfl
theorem cutRight_empty (set : ByteArray) (w : World) : Calls Tryd.prog 52 #[.string ⟨#[]⟩, .string set] w fun e w' => e = .returned (.string ⟨#[]⟩) ∧ w = w' := by
  go_enter Tryd.func52, Tryd.ntmps52
  go_wp2
  refine wp_loop_rounds 1 ?_
  rw [rounds_succ]
  go_wp2
  go_ret
  exact ⟨rfl, rfl⟩

set_option maxHeartbeats 2000000 in
set_option maxRecDepth 100000 in
theorem mark_check.calls (a0 : Int) (a1 : ByteArray) (A2 : Option Addr) (c2 : Nat) (l2 : List ByteArray) (r : Int) (w : World) (hr2 : Kd.C Kd.string w A2 l2.length l2) (hc2 : l2.length ≤ c2) (hT : Lib.Utf8Tabs 0 1 w) (h : mark_check.f a0 a1 l2 = some r) :
    Calls Tryd.prog 39 #[.int .i64 a0, .string a1, .slice A2 l2.length c2] w fun e w' => e = .returned (.int .i64 r) ∧ Below w.heap.size w w' := by
  unfold mark_check.f at h
  split at h
  case isFalse => cases h
  case isTrue hg =>
  obtain ⟨hok, hsz, h1000, hln⟩ := hg
  have HA := Lib.hid (okSet_ascii hok); clear hok
  have HR := Lib.hid hr2; clear hr2
  have HT := Lib.hid hT; clear hT
  have HH := Lib.hid h; clear h
  clear hc2
  go_enter Tryd.func39, Tryd.ntmps39
  go_wp2
  go_loop [13] (fun i => ∃ k : Nat, k ≤ l2.length ∧ i = .int .i64 k ∧ Hid ((l2.take k).any (fun x => decide (a0 < (x.size : Int))) = false)) (fun i => l2.length - (intOf i).toNat)
  case atStart => exact ⟨0, Nat.zero_le _, rfl, Lib.hid (by simp)⟩
  case round =>
    obtain ⟨k, hk, rfl, HALL⟩ := hrel
    by_cases hlt : k < l2.length
    · obtain ⟨ad, e2, hx⟩ := Kd.at_string HR.out (k : Int) (by omega) (by omega)
      cases e2
      rw [rd_nat l2 k hlt, Int.toNat_natCast] at hx
      obtain ⟨x, hxx⟩ : ∃ x, l2[k]'hlt = x := ⟨_, rfl⟩
      rw [hxx] at hx
      have HX := Lib.hid hxx; clear hxx
      have HSUC := Lib.hid (any_take_succ (fun x => decide (a0 < (x.size : Int))) l2 k hlt)
      by_cases hbig : a0 < (x.size : Int)
      · go_wp2
        go_ret
        refine ⟨?_, Below.refl _ _⟩
        have := HH.out
        rw [if_pos (any_of_take _ l2 k hlt (by rw [HX.out]; simpa using hbig))] at this
        cases this
        rfl
      · go_wp2
        go_round
        case rel => exact ⟨k + 1, by omega, by go_num, Lib.hid (by rw [HSUC.out, HALL.out, HX.out]; simpa using hbig)⟩
        case measure => simp [intOf]; omega
    · obtain rfl : k = l2.length := by omega
      have HALL' : Hid (l2.any (fun x => decide (a0 < (x.size : Int))) = false) := Lib.hid (by have := HALL.out; rwa [List.take_of_length_le (Nat.le_refl _)] at this)
      clear HALL
      go_wp2
      go_loopw [24] (fun i wr => ∃ k : Nat, k ≤ l2.length ∧ i = .int .i64 k ∧ Hid ((l2.take k).any (badWord a1) = false) ∧ Below w.heap.size w wr) (fun i _ => l2.length - (intOf i).toNat)
      case atStart => exact ⟨0, Nat.zero_le _, rfl, Lib.hid (by simp), Below.refl _ _⟩
      case round =>
        obtain ⟨k, hk, rfl, HALL, hb⟩ := hrel
        by_cases hlt : k < l2.length
        · obtain ⟨ad, e2, hx⟩ := Kd.at_string (Kd.C_below HR.out hb) (k : Int) (by omega) (by omega)
          cases e2
          rw [rd_nat l2 k hlt, Int.toNat_natCast] at hx
          have hsmall : ((l2[k]'hlt).size : Int) ≤ a0 := by
            have := List.any_eq_false.1 HALL'.out _ (List.getElem_mem hlt)
            simpa using this
          obtain ⟨x, hxx⟩ : ∃ x, l2[k]'hlt = x := ⟨_, rfl⟩
          rw [hxx] at hx hsmall
          have HX := Lib.hid hxx; clear hxx
          have HSUC := Lib.hid (any_take_succ (badWord a1) l2 k hlt)
          have hxs : x.size ≤ 9223372036854775807 := by omega
          go_wp2_with fail
          refine (cutLeft_calls x a1 _ HA.out hxs (by omega)).mono ?_
          rintro e w1 ⟨y, rfl, hy, hb1⟩
          have hb2 : Below w.heap.size w w1 := hb.trans (hb1.mono hb.size)
          clear hb hb1 hx
          rcases hy with ⟨rfl, hall⟩ | ⟨i, hi, rfl, hbad⟩
          · have HG := Lib.hid (badWord_false hall); clear hall
            go_wp2_with fail
            refine (cutRight_empty a1 _).mono ?_
            rintro e w2 ⟨rfl, rfl⟩
            go_wp2
            go_roundw
            case rel => exact ⟨k + 1, by omega, by go_num, Lib.hid (by rw [HSUC.out, HALL.out, HX.out, HG.out]; rfl), hb2⟩
            case measure => simp [intOf]; omega
          · have HG := Lib.hid (badWord_true i hi hbad)
            have HB0 := Lib.hid (bad0_extract i hi hbad)
            have hys : (x.extract i x.size).size ≤ 9223372036854775807 := by rw [ByteArray.size_extract]; omega
            clear hbad
            go_wp2_with fail
            refine (cutRight_calls _ a1 _ HA.out HB0.out hys (by omega) (tabs_below HT.out hb2)).mono ?_
            rintro e w2 ⟨z, rfl, hz, hb3⟩
            have hb4 : Below w.heap.size w w2 := hb2.trans (hb3.mono hb2.size)
            clear hb2 hb3
            have hzl : z.toList.isEmpty = false := not_empty hz
            go_wp2
            go_ret
            refine ⟨?_, hb4⟩
            have := HH.out
            rw [if_neg (by rw [HALL'.out]; simp), if_pos (any_of_take _ l2 k hlt (by rw [HX.out]; exact HG.out))] at this
            cases this
            rfl
        · obtain rfl : k = l2.length := by omega
          go_wp2
          go_ret
          refine ⟨?_, hb⟩
          have := HH.out
          rw [if_neg (by rw [HALL'.out]; simp), if_neg (by have := HALL.out; rw [List.take_of_length_le (Nat.le_refl _)] at this; rw [this]; simp)] at this
          cases this
          rfl
end Go.Proofs.YtopmcoohdhlnaaaDoor.G
