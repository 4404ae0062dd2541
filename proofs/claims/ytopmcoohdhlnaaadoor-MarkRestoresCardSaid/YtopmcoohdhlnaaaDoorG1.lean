/- The program's cutLeft: what is left of a text behind the letters of a set at its begin, for a set of ASCII letters. -/
import Derived.Laws.RangeAny
import Derived.Lib.Hide
import Derived.Lib.OthersKept
import Derived.Outline
import Derived.Test.YtopmcoohdhlnaaaDoorProg
import Derived.WalkKit
import Derived.WalkSmall
import Derived.WalkSpells
namespace Go.Proofs.YtopmcoohdhlnaaaDoor.G
open Go.RowKit Go.Lib
set_option linter.unusedVariables false

/-- Is a number that of a letter among the first k of a set? -/
def inTake (set : ByteArray) (k c : Nat) : Bool := (set.data.toList.take k).any fun b => b.toNat == c
def inSet (set : ByteArray) (c : Nat) : Bool := inTake set set.size c
theorem inTake_zero (set : ByteArray) (c : Nat) : inTake set 0 c = false := by simp [inTake]
theorem inTake_succ (set : ByteArray) (k c : Nat) (h : k < set.size) : inTake set (k + 1) c = (inTake set k c || (set[k]'h).toNat == c) := by
  unfold inTake
  rw [List.take_succ_eq_append_getElem (by simpa using h), List.any_append]
  simp
  rfl
def Ascii (set : ByteArray) : Prop := ∀ i (h : i < set.size), (set[i]'h).toNat < 128
theorem inTake_high (set : ByteArray) (ha : Ascii set) (k c : Nat) (hk : k ≤ set.size) (hc : 128 ≤ c) : inTake set k c = false := by
  induction k with
  | zero => exact inTake_zero set c
  | succ k ih =>
    rw [inTake_succ set k c (by omega), ih (by omega)]
    have := ha k (by omega)
    simp
    omega

/-- What is known of what cutLeft hands back. -/
def CutL (s set r : ByteArray) : Prop :=
  (r = ⟨#[]⟩ ∧ ∀ i (h : i < s.size), inSet set (s[i]'h).toNat = true) ∨ ∃ i, ∃ h : i < s.size, r = s.extract i s.size ∧ inSet set (s[i]'h).toNat = false
def CutLPost (s set : ByteArray) (w : World) (e : Ending) (w' : World) : Prop := ∃ r, e = .returned (.string r) ∧ CutL s set r ∧ Below w.heap.size w w'

/-- The first step of a range over a string, as the walk wants it: the world behind it under a name. -/
theorem next_named {P : Program} (wr : World) (k : Nat) (s : ByteArray) (pos : Nat) (hit : wr.heap[k]? = some (.stringIter s pos)) (hp : pos < s.size) :
    ∃ w1 : World, (∀ ty, (Instr.next (.pointer (some ⟨k, 0, none⟩)) true ty).run P wr = .ok (.tuple #[.bool true, .int .i64 pos, .int .i32 (Utf8.decode s pos).1]) w1) ∧
      w1.heap[k]? = some (.stringIter s (pos + (Utf8.decode s pos).2)) ∧ w1.heap.size = wr.heap.size ∧ (∀ j, j ≠ k → w1.heap[j]? = wr.heap[j]?) ∧ (∀ B a, B ≤ k → Below B a wr → Below B a w1) :=
  ⟨_, fun ty => run_next_any_at wr k s pos ty hit hp, iterAt_heap _ _ _ _ _ hit, iterAt_size _ _ _ _, fun j hj => iterAt_other _ _ _ _ _ hj, fun B a hk hb => below_iterAt hb hk _ _⟩
theorem iter_other (w : World) (s : ByteArray) (pos j : Nat) (h : j ≠ w.heap.size) : (w.iter s pos).heap[j]? = w.heap[j]? := by
  show (w.heap.push _)[j]? = _
  rw [Array.getElem?_push, if_neg h]
theorem iter_size (w : World) (s : ByteArray) (pos : Nat) : (w.iter s pos).heap.size = w.heap.size + 1 := by
  show (w.heap.push _).size = _
  simp
theorem below_iter {B : Nat} {a w : World} (h : Below B a w) (hB : B ≤ w.heap.size) (s : ByteArray) (pos : Nat) : Below B a (w.iter s pos) := h.alloc hB _

/-- The byte at a place decides: an ASCII letter is its own rune, of one byte; any other rune is none of an ASCII set. -/
theorem rune_ascii (s : ByteArray) (pos : Nat) (h : pos < s.size) (ha : (s[pos]'h).toNat < 128) : Utf8.decode s pos = ((s[pos]'h).toNat, 1) := decode_ascii s pos h ha

theorem CutL_step (s set : ByteArray) (ha : Ascii set) (pos : Nat) (h : pos < s.size) (hc : inTake set set.size (Utf8.decode s pos).1 = true) : (Utf8.decode s pos).2 = 1 ∧ inSet set (s[pos]'h).toNat = true := by
  by_cases hb : (s[pos]'h).toNat < 128
  · rw [decode_ascii s pos h hb] at hc ⊢
    exact ⟨rfl, hc⟩
  · rw [inTake_high set ha _ _ (Nat.le_refl _) (decode_high s pos h (by omega)).1] at hc
    cases hc
theorem CutL_stop (s set : ByteArray) (ha : Ascii set) (pos : Nat) (h : pos < s.size) (hc : inTake set set.size (Utf8.decode s pos).1 = false) : CutL s set (s.extract pos s.size) := by
  refine .inr ⟨pos, h, rfl, ?_⟩
  by_cases hb : (s[pos]'h).toNat < 128
  · rw [decode_ascii s pos h hb] at hc
    exact hc
  · exact inTake_high set ha _ _ (Nat.le_refl _) (by omega)
theorem CutL_more (s set : ByteArray) (pos : Nat) (hall : ∀ i (h : i < s.size), i < pos → inSet set (s[i]'h).toNat = true) {h0 : pos < s.size} (h1 : inSet set (s[pos]'h0).toNat = true) : ∀ i (h : i < s.size), i < pos + 1 → inSet set (s[i]'h).toNat = true := by
  intro i h hi
  by_cases e : i = pos
  · subst e; exact h1
  · exact hall i h (by omega)

set_option maxHeartbeats 1000000 in
set_option maxRecDepth 100000 in
theorem cutLeft_calls (s set : ByteArray) (w : World) (ha : Ascii set) (hs : s.size ≤ 9223372036854775807) (hset : set.size ≤ 9223372036854775807) :
    Calls Tryd.prog 53 #[.string s, .string set] w (CutLPost s set w) := by
  have HA := Lib.hid ha; clear ha
  have hat : ∃ wr : World, wr = w.iter s 0 := ⟨_, rfl⟩
  go_enter Tryd.func53, Tryd.ntmps53
  go_wp2
  go_loopw [5] (fun _ wr => ∃ pos : Nat, pos ≤ s.size ∧ (∀ i (h : i < s.size), i < pos → inSet set (s[i]'h).toNat = true) ∧ wr.heap[w.heap.size]? = some (.stringIter s pos) ∧ Below w.heap.size w wr) (fun _ wr => s.size - wr.iterPos w.heap.size)
  case atStart => exact ⟨0, Nat.zero_le _, fun i h hi => absurd hi (by omega), World.iter_heap w s 0, below_iter (Below.refl _ _) (Nat.le_refl _) _ _⟩
  case round =>
    obtain ⟨pos, hpos, hall, hit, hb⟩ := hrel
    have HALL := Lib.hid hall; clear hall hat
    by_cases hp : pos < s.size
    · obtain ⟨w1, hnx, hit1, hsz1, hoth1, hbel1⟩ := next_named (P := Tryd.prog) wr w.heap.size s pos hit hp
      have hb1 := hbel1 _ _ (Nat.le_refl _) hb
      have hlt1 : w.heap.size < w1.heap.size := (Array.getElem?_eq_some_iff.1 hit1).1
      have HIT1 := Lib.hid hit1; clear hit1 hoth1 hbel1
      have hpi : wr.iterPos w.heap.size = pos := iterPos_of hit
      have HPI := Lib.hid hpi; clear hpi hit
      clear hsz1
      obtain ⟨c, hc⟩ : ∃ c, (Utf8.decode s pos).1 = c := ⟨_, rfl⟩
      rw [hc] at hnx
      have HC := Lib.hid hc; clear hc
      go_wp2
      obtain ⟨wo, rfl⟩ : ∃ wo : World, wo = wr := ⟨_, rfl⟩
      go_loopw [7] (fun b wi => ∃ k : Nat, k ≤ set.size ∧ b = .bool (inTake set k c) ∧ wi.heap[w1.heap.size]? = some (.stringIter set k) ∧ (∀ j, j ≠ w1.heap.size → j < w1.heap.size → wi.heap[j]? = w1.heap[j]?) ∧ Below w.heap.size w wi) (fun _ wi => set.size - wi.iterPos w1.heap.size)
      case atStart => exact ⟨0, Nat.zero_le _, by rw [inTake_zero], World.iter_heap w1 set 0, fun j hj _ => iter_other _ _ _ _ hj, below_iter hb1 (by omega) _ _⟩
      case round =>
        obtain ⟨k, hk, rfl, hitk, hoth, hbk⟩ := hrel
        by_cases hks : k < set.size
        · obtain ⟨w2, hnx2, hit2, hsz2, hoth2, hbel2⟩ := next_named (P := Tryd.prog) wr w1.heap.size set k hitk hks
          have ha := HA.out k hks
          have hd : Utf8.decode set k = ((set[k]'hks).toNat, 1) := decode_ascii set k hks ha
          rw [hd] at hnx2 hit2
          have hb2 := hbel2 _ _ (by omega) hbk
          have hsuc := inTake_succ set k c hks
          have HSUC := Lib.hid hsuc; clear hsuc
          have hpi : wr.iterPos w1.heap.size = k := iterPos_of hitk
          have HPI2 := Lib.hid hpi; clear hpi
          have HO := Lib.hid hoth; have HO2 := Lib.hid hoth2; have HI2 := Lib.hid hit2
          clear hoth hoth2 hit2 hd hsz2
          obtain ⟨d, hdd⟩ : ∃ d, (set[k]'hks).toNat = d := ⟨_, rfl⟩
          rw [hdd] at hnx2 HSUC
          clear hdd ha
          obtain ⟨q, hq⟩ : ∃ q, inTake set k c = q := ⟨_, rfl⟩
          rw [hq]
          rw [hq] at HSUC
          cases q
          · by_cases hcd : c = d
            · have hcdb : ((c : Int) == (d : Int)) = true := by simp [hcd]
              go_wp2
              go_roundw
              case rel => exact ⟨k + 1, by omega, by rw [HSUC.out]; simp [hcd], HI2.out, fun j h1 h2 => (HO2.out j h1).trans (HO.out j h1 h2), hb2⟩
              case measure => rw [HPI2.out, iterPos_of HI2.out]; show set.size - (k + 1) < set.size - k; omega
            · have hcdb : ((c : Int) == (d : Int)) = false := by simp; omega
              go_wp2
              go_roundw
              case rel => exact ⟨k + 1, by omega, by rw [HSUC.out]; simp; omega, HI2.out, fun j h1 h2 => (HO2.out j h1).trans (HO.out j h1 h2), hb2⟩
              case measure => rw [HPI2.out, iterPos_of HI2.out]; show set.size - (k + 1) < set.size - k; omega
          · go_wp2
            go_roundw
            case rel => exact ⟨k + 1, by omega, by rw [HSUC.out]; simp, HI2.out, fun j h1 h2 => (HO2.out j h1).trans (HO.out j h1 h2), hb2⟩
            case measure => rw [HPI2.out, iterPos_of HI2.out]; show set.size - (k + 1) < set.size - k; omega
        · have hnx2 : ∀ ty, (Instr.next (.pointer (some ⟨w1.heap.size, 0, none⟩)) true ty).run Tryd.prog wr = _ := fun ty => run_next_end_at wr w1.heap.size set k ty hitk hks
          obtain rfl : k = set.size := by omega
          have HO := Lib.hid hoth; clear hoth hitk
          obtain ⟨q, hq⟩ : ∃ q, inTake set set.size c = q := ⟨_, rfl⟩
          rw [hq]
          have HQ := Lib.hid hq; clear hq
          cases q
          · have hps : (pos : Int) ≤ (s.size : Int) := by omega
            go_wp2
            go_ret
            exact ⟨_, rfl, CutL_stop s set HA.out pos hp (by rw [HC.out]; exact HQ.out), hbk⟩
          · have hst := CutL_step s set HA.out pos hp (by rw [HC.out]; exact HQ.out)
            have HST := Lib.hid hst; clear hst
            go_wp2
            go_roundw
            case rel => exact ⟨pos + 1, by omega, fun i h hi => CutL_more s set pos HALL.out (HST.out.2) i h hi, by rw [HO.out _ (by omega) hlt1, HIT1.out, HST.out.1], hbk⟩
            case measure => rw [HPI.out, iterPos_of (by rw [HO.out _ (by omega) hlt1]; exact HIT1.out), HST.out.1]; omega
    · have hnx : ∀ ty, (Instr.next (.pointer (some ⟨w.heap.size, 0, none⟩)) true ty).run Tryd.prog wr = _ := fun ty => run_next_end_at wr w.heap.size s pos ty hit hp
      clear hit
      go_wp2
      go_ret
      exact ⟨_, rfl, .inl ⟨rfl, fun i h => HALL.out i h (by omega)⟩, hb⟩
end Go.Proofs.YtopmcoohdhlnaaaDoor.G
