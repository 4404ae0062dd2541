/- The program's cutRight, at a text whose first letter is none of the set: something is left; and check over it and cutLeft: whether words are too long, or hold another letter than a set's. -/
import Derived.Below
import Derived.Laws.RangeAny
import Derived.Lib.Hide
import Derived.Lib.OthersKept
import Derived.Lib.TrimUEq
import Derived.Outline
import Derived.Shelf.Slices.CompactS
import Derived.Shelf.Small.Utf8
import Derived.Shelf.Sort.Plain
import Derived.Shelf.Strings.Builder1
import Derived.Shelf.Strings.Builder2
import Derived.Shelf.Strings.OnBuilder
import Derived.Shelf.Unicode.DecodeAny
import Derived.Shelf.Unicode.DecodeLast
import Derived.Shelf.Unicode.DecodeSlow
import Derived.Test.YtopmcoohdhlnaaaDoorProg
import Derived.WalkKit
import Derived.WalkSmall
import Derived.WalkSpells
import Derived.Test.YtopmcoohdhlnaaaDoorG0
import Derived.Test.YtopmcoohdhlnaaaDoorG1
import Derived.Test.YtopmcoohdhlnaaaDoorS
namespace Go.Proofs.YtopmcoohdhlnaaaDoor.G
open Go.RowKit Go.Lib
set_option linter.unusedVariables false

theorem getD_byte (s : ByteArray) (i : Nat) (h : i < s.size) : (s.data.toList.getD i 0) = s[i]'h := by
  rw [List.getD_eq_getElem?_getD, List.getElem?_eq_getElem (by simpa using h)]
  rfl
/-- The rune that is decoded at the end, if it is one of an ASCII set: it is the last byte alone. -/
theorem last_in (s set : ByteArray) (ha : Ascii set) (h0 : 0 < s.size) (hc : inSet set (decodeLastL s.data.toList).1 = true) :
    (decodeLastL s.data.toList).2 = 1 ∧ inSet set (s[s.size - 1]'(by omega)).toNat = true := by
  have hl : s.data.toList.length = s.size := (Lib.size_eq s).symm
  have ht : s.data.toList.take s.size = s.data.toList := by rw [List.take_of_length_le (by omega)]
  have h := last_cases s.data.toList s.size h0 (by omega)
  rw [ht, getD_byte s (s.size - 1) (by omega)] at h
  have high : ∀ c, 128 ≤ c → inSet set c = true → False := fun c h1 h2 => by
    unfold inSet at h2
    rw [inTake_high set ha _ c (Nat.le_refl _) h1] at h2
    cases h2
  rcases h with ⟨h1, h2⟩ | ⟨h1, h2⟩ | ⟨h1, st, hst, h2, h3⟩
  · rw [h2] at hc ⊢
    exact ⟨rfl, hc⟩
  · rw [h2] at hc
    exact (high _ (by omega) hc).elim
  · exfalso
    rw [h2] at hc
    refine high _ ?_ hc
    rw [decodeL_drop] at h2 h3 ⊢
    by_cases hb : (s[st]'hst).toNat < 128
    · rw [decode_ascii s st hst hb] at h3
      have : st = s.size - 1 := by simp at h3; omega
      subst this
      omega
    · exact (decode_high s st hst (by omega)).1

/-- A text whose first letter is none of the set. -/
def Bad0 (set t : ByteArray) : Prop := ∃ h : 0 < t.size, inSet set (t[0]'h).toNat = false
theorem bad0_cut (set t : ByteArray) (ha : Ascii set) (h : Bad0 set t) (hc : inSet set (decodeLastL t.data.toList).1 = true) : (decodeLastL t.data.toList).2 = 1 ∧ 2 ≤ t.size ∧ Bad0 set (t.extract 0 (t.size - 1)) := by
  obtain ⟨h0, hb⟩ := h
  obtain ⟨h1, h2⟩ := last_in t set ha h0 hc
  have hne : t.size ≠ 1 := by
    intro e
    have : t.size - 1 = 0 := by omega
    simp only [this] at h2
    rw [h2] at hb
    cases hb
  refine ⟨h1, by omega, ?_⟩
  have hs : (t.extract 0 (t.size - 1)).size = t.size - 1 := by rw [ByteArray.size_extract]; omega
  refine ⟨by omega, ?_⟩
  rw [ByteArray.getElem_extract]
  simpa using hb

def CutRPost (w : World) (e : Ending) (w' : World) : Prop := ∃ r : ByteArray, e = .returned (.string r) ∧ 0 < r.size ∧ Below w.heap.size w w'
def lenOf : Value → Nat
  | .string s => s.size
  | _ => 0

set_option maxHeartbeats 1000000 in
set_option maxRecDepth 100000 in
theorem cutRight_calls (s set : ByteArray) (w : World) (ha : Ascii set) (hb0 : Bad0 set s) (hs : s.size ≤ 9223372036854775807) (hset : set.size ≤ 9223372036854775807) (hT : Utf8Tabs 0 1 w) :
    Calls Tryd.prog 52 #[.string s, .string set] w (CutRPost w) := by
  have HA := Lib.hid ha; clear ha
  have HT := Lib.hid hT; clear hT
  have HS0 := Lib.hid hb0; clear hb0
  go_enter Tryd.func52, Tryd.ntmps52
  go_wp2
  go_loopw [0] (fun v wr => ∃ t : ByteArray, v = .string t ∧ Hid (Bad0 set t) ∧ t.size ≤ s.size ∧ Below w.heap.size w wr) (fun v _ => lenOf v)
  case atStart => exact ⟨s, rfl, HS0, Nat.le_refl _, Below.refl _ _⟩
  case round =>
    obtain ⟨t, rfl, HB0, hts, hb⟩ := hrel
    clear HS0
    have h0 : 0 < t.size := HB0.out.1
    have h0' : (0 : Int) < (t.size : Int) := by omega
    go_wp2_with fail
    refine (Tryd.utf8_DecodeLastRuneInString t _ (by omega) (tabs_below HT.out hb)).mono ?_
    obtain ⟨c, hc⟩ : ∃ c, (decodeLastL t.data.toList).1 = c := ⟨_, rfl⟩
    obtain ⟨n, hn⟩ : ∃ n, (decodeLastL t.data.toList).2 = n := ⟨_, rfl⟩
    rw [hc, hn]
    have HC := Lib.hid hc; have HN := Lib.hid hn; clear hc hn
    rintro e w1 ⟨rfl, hbw⟩
    have hb1 : Below w.heap.size w w1 := hb.trans (hbw.mono hb.size)
    clear hb hbw
    go_wp2
    obtain ⟨wo, rfl⟩ : ∃ wo : World, wo = wr := ⟨_, rfl⟩
    go_loopw [7] (fun b wi => ∃ k : Nat, k ≤ set.size ∧ b = .bool (inTake set k c) ∧ wi.heap[w1.heap.size]? = some (.stringIter set k) ∧ Below w.heap.size w wi) (fun _ wi => set.size - wi.iterPos w1.heap.size)
    case atStart => exact ⟨0, Nat.zero_le _, by rw [inTake_zero], World.iter_heap w1 set 0, below_iter hb1 hb1.size _ _⟩
    case round =>
      obtain ⟨k, hk, rfl, hitk, hbk⟩ := hrel
      by_cases hks : k < set.size
      · obtain ⟨w2, hnx2, hit2, hsz2, hoth2, hbel2⟩ := next_named (P := Tryd.prog) wr w1.heap.size set k hitk hks
        have ha := HA.out k hks
        have hd : Utf8.decode set k = ((set[k]'hks).toNat, 1) := decode_ascii set k hks ha
        rw [hd] at hnx2 hit2
        have hb2 := hbel2 _ _ hb1.size hbk
        have hsuc := inTake_succ set k c hks
        have HSUC := Lib.hid hsuc; clear hsuc
        have hpi : wr.iterPos w1.heap.size = k := iterPos_of hitk
        have HPI2 := Lib.hid hpi; clear hpi
        have HI2 := Lib.hid hit2
        clear hoth2 hit2 hd hsz2
        obtain ⟨d, hdd⟩ : ∃ d, (set[k]'hks).toNat = d := ⟨_, rfl⟩
        rw [hdd] at hnx2 HSUC
        clear hdd ha
        obtain ⟨q, hq⟩ : ∃ q, inTake set k c = q := ⟨_, rfl⟩
        rw [hq]
        rw [hq] at HSUC
        cases q
        · by_cases hcd : c = d
          · have hcdb : ((c : Int) == (d : Int)) = true := by simp [hcd]
            go_wp2
            go_roundw
            case rel => exact ⟨k + 1, by omega, by rw [HSUC.out]; simp [hcd], HI2.out, hb2⟩
            case measure => rw [HPI2.out, iterPos_of HI2.out]; show set.size - (k + 1) < set.size - k; omega
          · have hcdb : ((c : Int) == (d : Int)) = false := by simp; omega
            go_wp2
            go_roundw
            case rel => exact ⟨k + 1, by omega, by rw [HSUC.out]; simp; omega, HI2.out, hb2⟩
            case measure => rw [HPI2.out, iterPos_of HI2.out]; show set.size - (k + 1) < set.size - k; omega
        · go_wp2
          go_roundw
          case rel => exact ⟨k + 1, by omega, by rw [HSUC.out]; simp, HI2.out, hb2⟩
          case measure => rw [HPI2.out, iterPos_of HI2.out]; show set.size - (k + 1) < set.size - k; omega
      · have hnx2 : ∀ ty, (Instr.next (.pointer (some ⟨w1.heap.size, 0, none⟩)) true ty).run Tryd.prog wr = _ := fun ty => run_next_end_at wr w1.heap.size set k ty hitk hks
        obtain rfl : k = set.size := by omega
        clear hitk
        obtain ⟨q, hq⟩ : ∃ q, inTake set set.size c = q := ⟨_, rfl⟩
        rw [hq]
        have HQ := Lib.hid hq; clear hq
        cases q
        · go_wp2
          go_ret
          exact ⟨_, rfl, h0, hbk⟩
        · obtain ⟨hn1, h2, HB1⟩ := bad0_cut set t HA.out HB0.out (by rw [HC.out]; exact HQ.out)
          rw [HN.out] at hn1
          have HB2 := Lib.hid HB1; clear HB1
          obtain ⟨m, hm⟩ : ∃ m, m = t.size - 1 := ⟨_, rfl⟩
          have hsub : (t.size : Int) - (n : Int) = (m : Int) := by omega
          rw [← hm] at HB2
          have hms : m ≤ t.size := by omega
          have hsz : (t.extract 0 m).size = m := by rw [ByteArray.size_extract]; omega
          have HSZ := Lib.hid hsz; have HM := Lib.hid hm; clear hsz hm hn1
          go_wp2
          exact ⟨⟨_, rfl, HB2, by rw [HSZ.out]; omega, hbk⟩, by show (t.extract 0 m).size < t.size; rw [HSZ.out, HM.out]; omega⟩
end Go.Proofs.YtopmcoohdhlnaaaDoor.G
