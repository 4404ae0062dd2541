/- The program's cutLeft: what is left of a text behind the letters of a set at its begin, for a set of ASCII letters. -/
import Derived.Laws.RangeAny
import Derived.Lib.Hide
import Derived.Lib.OthersKept
import Derived.Lib.TrimUEq
import Derived.Outline
import Derived.WalkSmall
import Derived.WalkSpells
import Derived.Test.YthbhgnnfpfblhaaDoorG0
import Derived.Test.YthbhgnnfpfblhaaDoorS
import Derived.Test.YthbhgnnfpfblhaaDoorWMore
namespace Go.Proofs.YthbhgnnfpfblhaaDoor.G
open Go.RowKit Go.Lib
set_option linter.unusedVariables false

/-- Is a number that of a letter among the first k of a set? -/
def inTake (set : ByteArray) (k c : Nat) : Bool := (set.data.toList.take k).any fun b => b.toNat == c
def inSet (set : ByteArray) (c : Nat) : Bool := inTake set set.size c
theorem inTake_zero (set : ByteArray) (c : Nat) : inTake set 0 c = false := by simp [inTake]
theorem inTake_succ (set : ByteArray) (k c : Nat) (h : k < set.size) : inTake set (k + 1) c = (inTake set k c || (set[k]'h).toNat == c) := by
  unfold inTake
  rw [List.take_succ_eq_append_getElem (by simpa using h), List.any_append]
  simp
  rfl
def Ascii (set : ByteArray) : Prop := ∀ i (h : i < set.size), (set[i]'h).toNat < 128
theorem inTake_high (set : ByteArray) (ha : Ascii set) (k c : Nat) (hk : k ≤ set.size) (hc : 128 ≤ c) : inTake set k c = false := by
  induction k with
  | zero => exact inTake_zero set c
  | succ k ih =>
    rw [inTake_succ set k c (by omega), ih (by omega)]
    have := ha k (by omega)
    simp
    omega

/-- What is known of what cutLeft hands back. -/
def CutL (s set r : ByteArray) : Prop :=
  (r = ⟨#[]⟩ ∧ ∀ i (h : i < s.size), inSet set (s[i]'h).toNat = true) ∨ ∃ i, ∃ h : i < s.size, r = s.extract i s.size ∧ inSet set (s[i]'h).toNat = false
def CutLPost (s set : ByteArray) (w : World) (e : Ending) (w' : World) : Prop := ∃ r, e = .returned (.string r) ∧ CutL s set r ∧ Below w.heap.size w w'

/-- The first step of a range over a string, as the walk wants it: the world behind it under a name. -/
theorem next_named {P : Program} (wr : World) (k : Nat) (s : ByteArray) (pos : Nat) (hit : wr.heap[k]? = some (.stringIter s pos)) (hp : pos < s.size) :
    ∃ w1 : World, (∀ ty, (Instr.next (.pointer (some ⟨k, 0, none⟩)) true ty).run P wr = .ok (.tuple #[.bool true, .int .i64 pos, .int .i32 (Utf8.decode s pos).1]) w1) ∧
      w1.heap[k]? = some (.stringIter s (pos + (Utf8.decode s pos).2)) ∧ w1.heap.size = wr.heap.size ∧ (∀ j, j ≠ k → w1.heap[j]? = wr.heap[j]?) ∧ (∀ B a, B ≤ k → Below B a wr → Below B a w1) :=
  ⟨_, fun ty => run_next_any_at wr k s pos ty hit hp, iterAt_heap _ _ _ _ _ hit, iterAt_size _ _ _ _, fun j hj => iterAt_other _ _ _ _ _ hj, fun B a hk hb => below_iterAt hb hk _ _⟩
theorem iter_other (w : World) (s : ByteArray) (pos j : Nat) (h : j ≠ w.heap.size) : (w.iter s pos).heap[j]? = w.heap[j]? := by
  show (w.heap.push _)[j]? = _
  rw [Array.getElem?_push, if_neg h]
theorem below_iter {B : Nat} {a w : World} (h : Below B a w) (hB : B ≤ w.heap.size) (s : ByteArray) (pos : Nat) : Below B a (w.iter s pos) := h.alloc hB _

theorem CutL_step (s set : ByteArray) (ha : Ascii set) (pos : Nat) (h : pos < s.size) (hc : inTake set set.size (Utf8.decode s pos).1 = true) : (Utf8.decode s pos).2 = 1 ∧ inSet set (s[pos]'h).toNat = true := by
  by_cases hb : (s[pos]'h).toNat < 128
  · rw [decode_ascii s pos h hb] at hc ⊢
    exact ⟨rfl, hc⟩
  · rw [inTake_high set ha _ _ (Nat.le_refl _) (decode_high s pos h (by omega)).1] at hc
    cases hc
theorem CutL_stop (s set : ByteArray) (ha : Ascii set) (pos : Nat) (h : pos < s.size) (hc : inTake set set.size (Utf8.decode s pos).1 = false) : CutL s set (s.extract pos s.size) := by
  refine .inr ⟨pos, h, rfl, ?_⟩
  by_cases hb : (s[pos]'h).toNat < 128
  · rw [decode_ascii s pos h hb] at hc
    exact hc
  · exact inTake_high set ha _ _ (Nat.le_refl _) (by omega)
theorem CutL_more (s set : ByteArray) (pos : Nat) (hall : ∀ i (h : i < s.size), i < pos → inSet set (s[i]'h).toNat = true) {h0 : pos < s.size} (h1 : inSet set (s[pos]'h0).toNat = true) : ∀ i (h : i < s.size), i < pos + 1 → inSet set (s[i]'h).toNat = true := by
  intro i h hi
  by_cases e : i = pos
  · subst e; exact h1
  · exact hall i h (by omega)

set_option maxHeartbeats 1000000 in
set_option maxRecDepth 100000 in
theorem cutLeft_calls (s set : ByteArray) (w : World) (ha : Ascii set) (hs : s.size ≤ 9223372036854775807) (hset : set.size ≤ 9223372036854775807) :
    Calls Tryd.prog 29 #[.string s, .string set] w (CutLPost s set w) := by
  have HA := Lib.hid ha; clear ha
  have hat : ∃ wr : World, wr = w.iter s 0 := ⟨_, rfl⟩
  go_enter Tryd.func29, Tryd.ntmps29
  go_wp2
  go_loopw [5] (fun _ wr => ∃ pos : Nat, pos ≤ s.size ∧ (∀ i (h : i < s.size), i < pos → inSet set (s[i]'h).toNat = true) ∧ wr.heap[w.heap.size]? = some (.stringIter s pos) ∧ Below w.heap.size w wr) (fun _ wr => s.size - wr.iterPos w.heap.size)
  case atStart => exact ⟨0, Nat.zero_le _, fun i h hi => absurd hi (by omega), World.iter_heap w s 0, below_iter (Below.refl _ _) (Nat.le_refl _) _ _⟩
  case round =>
    obtain ⟨pos, hpos, hall, hit, hb⟩ := hrel
    have HALL := Lib.hid hall; clear hall hat
    by_cases hp : pos < s.size
    · obtain ⟨w1, hnx, hit1, hsz1, hoth1, hbel1⟩ := next_named (P := Tryd.prog) wr w.heap.size s pos hit hp
      have hb1 := hbel1 _ _ (Nat.le_refl _) hb
      have hlt1 : w.heap.size < w1.heap.size := (Array.getElem?_eq_some_iff.1 hit1).1
      have HIT1 := Lib.hid hit1; clear hit1 hoth1 hbel1
      have hpi : wr.iterPos w.heap.size = pos := iterPos_of hit
      have HPI := Lib.hid hpi; clear hpi hit
      clear hsz1
      obtain ⟨c, hc⟩ : ∃ c, (Utf8.decode s pos).1 = c := ⟨_, rfl⟩
      rw [hc] at hnx
      have HC := Lib.hid hc; clear hc
      go_wp2
      obtain ⟨wo, rfl⟩ : ∃ wo : World, wo = wr := ⟨_, rfl⟩
      go_loopw [7] (fun b wi => ∃ k : Nat, k ≤ set.size ∧ b = .bool (inTake set k c) ∧ wi.heap[w1.heap.size]? = some (.stringIter set k) ∧ (∀ j, j ≠ w1.heap.size → j < w1.heap.size → wi.heap[j]? = w1.heap[j]?) ∧ Below w.heap.size w wi) (fun _ wi => set.size - wi.iterPos w1.heap.size)
      case atStart => exact ⟨0, Nat.zero_le _, by rw [inTake_zero], World.iter_heap w1 set 0, fun j hj _ => iter_other _ _ _ _ hj, below_iter hb1 (by omega) _ _⟩
      case round =>
        obtain ⟨k, hk, rfl, hitk, hoth, hbk⟩ := hrel
        by_cases hks : k < set.size
        · obtain ⟨w2, hnx2, hit2, hsz2, hoth2, hbel2⟩ := next_named (P := Tryd.prog) wr w1.heap.size set k hitk hks
          have ha := HA.out k hks
          have hd : Utf8.decode set k = ((set[k]'hks).toNat, 1) := decode_ascii set k hks ha
          rw [hd] at hnx2 hit2
          have hb2 := hbel2 _ _ (by omega) hbk
          have hsuc := inTake_succ set k c hks
          have HSUC := Lib.hid hsuc; clear hsuc
          have hpi : wr.iterPos w1.heap.size = k := iterPos_of hitk
          have HPI2 := Lib.hid hpi; clear hpi
          have HO := Lib.hid hoth; have HO2 := Lib.hid hoth2; have HI2 := Lib.hid hit2
          clear hoth hoth2 hit2 hd hsz2
          obtain ⟨d, hdd⟩ : ∃ d, (set[k]'hks).toNat = d := ⟨_, rfl⟩
          rw [hdd] at hnx2 HSUC
          clear hdd ha
          obtain ⟨q, hq⟩ : ∃ q, inTake set k c = q := ⟨_, rfl⟩
          rw [hq]
          rw [hq] at HSUC
          cases q
          · by_cases hcd : c = d
            · have hcdb : ((c : Int) == (d : Int)) = true := by simp [hcd]
              go_wp2
              go_roundw
              case rel => exact ⟨k + 1, by omega, by rw [HSUC.out]; simp [hcd], HI2.out, fun j h1 h2 => (HO2.out j h1).trans (HO.out j h1 h2), hb2⟩
              case measure => rw [HPI2.out, iterPos_of HI2.out]; show set.size - (k + 1) < set.size - k; omega
            · have hcdb : ((c : Int) == (d : Int)) = false := by simp; omega
              go_wp2
              go_roundw
              case rel => exact ⟨k + 1, by omega, by rw [HSUC.out]; simp; omega, HI2.out, fun j h1 h2 => (HO2.out j h1).trans (HO.out j h1 h2), hb2⟩
              case measure => rw [HPI2.out, iterPos_of HI2.out]; show set.size - (k + 1) < set.size - k; omega
          · go_wp2
            go_roundw
            case rel => exact ⟨k + 1, by omega, by rw [HSUC.out]; simp, HI2.out, fun j h1 h2 => (HO2.out j h1).trans (HO.out j h1 h2), hb2⟩
            case measure => rw [HPI2.out, iterPos_of HI2.out]; show set.size - (k + 1) < set.size - k; omega
        · have hnx2 : ∀ ty, (Instr.next (.pointer (some ⟨w1.heap.size, 0, none⟩)) true ty).run Tryd.prog wr = _ := fun ty => run_next_end_at wr w1.heap.size set k ty hitk hks
          obtain rfl : k = set.size := by omega
          have HO := Lib.hid hoth; clear hoth hitk
          obtain ⟨q, hq⟩ : ∃ q, inTake set set.size c = q := ⟨_, rfl⟩
          rw [hq]
          have HQ := Lib.hid hq; clear hq
          cases q
          · have hps : (pos : Int) ≤ (s.size : Int) := by omega
            go_wp2
            go_ret
            exact ⟨_, rfl, CutL_stop s set HA.out pos hp (by rw [HC.out]; exact HQ.out), hbk⟩
          · have hst := CutL_step s set HA.out pos hp (by rw [HC.out]; exact HQ.out)
            have HST := Lib.hid hst; clear hst
            go_wp2
            go_roundw
            case rel => exact ⟨pos + 1, by omega, fun i h hi => CutL_more s set pos HALL.out (HST.out.2) i h hi, by rw [HO.out _ (by omega) hlt1, HIT1.out, HST.out.1], hbk⟩
            case measure => rw [HPI.out, iterPos_of (by rw [HO.out _ (by omega) hlt1]; exact HIT1.out), HST.out.1]; omega
    · have hnx : ∀ ty, (Instr.next (.pointer (some ⟨w.heap.size, 0, none⟩)) true ty).run Tryd.prog wr = _ := fun ty => run_next_end_at wr w.heap.size s pos ty hit hp
      clear hit
      go_wp2
      go_ret
      exact ⟨_, rfl, .inl ⟨rfl, fun i h => HALL.out i h (by omega)⟩, hb⟩
end Go.Proofs.YthbhgnnfpfblhaaDoor.G
/- The program's cutRight, at a text whose first letter is none of the set: something is left; and check over it and cutLeft: whether words are too long, or hold another letter than a set's. -/
namespace Go.Proofs.YthbhgnnfpfblhaaDoor.G
open Go.RowKit Go.Lib
set_option linter.unusedVariables false

theorem getD_byte (s : ByteArray) (i : Nat) (h : i < s.size) : (s.data.toList.getD i 0) = s[i]'h := by
  rw [List.getD_eq_getElem?_getD, List.getElem?_eq_getElem (by simpa using h)]
  rfl
/-- The rune that is decoded at the end, if it is one of an ASCII set: it is the last byte alone. -/
theorem last_in (s set : ByteArray) (ha : Ascii set) (h0 : 0 < s.size) (hc : inSet set (decodeLastL s.data.toList).1 = true) :
    (decodeLastL s.data.toList).2 = 1 ∧ inSet set (s[s.size - 1]'(by omega)).toNat = true := by
  have hl : s.data.toList.length = s.size := (Lib.size_eq s).symm
  have ht : s.data.toList.take s.size = s.data.toList := by rw [List.take_of_length_le (by omega)]
  have h := last_cases s.data.toList s.size h0 (by omega)
  rw [ht, getD_byte s (s.size - 1) (by omega)] at h
  have high : ∀ c, 128 ≤ c → inSet set c = true → False := fun c h1 h2 => by
    unfold inSet at h2
    rw [inTake_high set ha _ c (Nat.le_refl _) h1] at h2
    cases h2
  rcases h with ⟨h1, h2⟩ | ⟨h1, h2⟩ | ⟨h1, st, hst, h2, h3⟩
  · rw [h2] at hc ⊢
    exact ⟨rfl, hc⟩
  · rw [h2] at hc
    exact (high _ (by omega) hc).elim
  · exfalso
    rw [h2] at hc
    refine high _ ?_ hc
    rw [decodeL_drop] at h2 h3 ⊢
    by_cases hb : (s[st]'hst).toNat < 128
    · rw [decode_ascii s st hst hb] at h3
      have : st = s.size - 1 := by simp at h3; omega
      subst this
      omega
    · exact (decode_high s st hst (by omega)).1

/-- A text whose first letter is none of the set. -/
def Bad0 (set t : ByteArray) : Prop := ∃ h : 0 < t.size, inSet set (t[0]'h).toNat = false
theorem bad0_cut (set t : ByteArray) (ha : Ascii set) (h : Bad0 set t) (hc : inSet set (decodeLastL t.data.toList).1 = true) : (decodeLastL t.data.toList).2 = 1 ∧ 2 ≤ t.size ∧ Bad0 set (t.extract 0 (t.size - 1)) := by
  obtain ⟨h0, hb⟩ := h
  obtain ⟨h1, h2⟩ := last_in t set ha h0 hc
  have hne : t.size ≠ 1 := by
    intro e
    have : t.size - 1 = 0 := by omega
    simp only [this] at h2
    rw [h2] at hb
    cases hb
  refine ⟨h1, by omega, ?_⟩
  have hs : (t.extract 0 (t.size - 1)).size = t.size - 1 := by rw [ByteArray.size_extract]; omega
  refine ⟨by omega, ?_⟩
  rw [ByteArray.getElem_extract]
  simpa using hb

def CutRPost (w : World) (e : Ending) (w' : World) : Prop := ∃ r : ByteArray, e = .returned (.string r) ∧ 0 < r.size ∧ Below w.heap.size w w'
def lenOf : Value → Nat
  | .string s => s.size
  | _ => 0

set_option maxHeartbeats 1000000 in
set_option maxRecDepth 100000 in
theorem cutRight_calls (s set : ByteArray) (w : World) (ha : Ascii set) (hb0 : Bad0 set s) (hs : s.size ≤ 9223372036854775807) (hset : set.size ≤ 9223372036854775807) (hT : Utf8Tabs 0 1 w) :
    Calls Tryd.prog 28 #[.string s, .string set] w (CutRPost w) := by
  have HA := Lib.hid ha; clear ha
  have HT := Lib.hid hT; clear hT
  have HS0 := Lib.hid hb0; clear hb0
  go_enter Tryd.func28, Tryd.ntmps28
  go_wp2
  go_loopw [0] (fun v wr => ∃ t : ByteArray, v = .string t ∧ Hid (Bad0 set t) ∧ t.size ≤ s.size ∧ Below w.heap.size w wr) (fun v _ => lenOf v)
  case atStart => exact ⟨s, rfl, HS0, Nat.le_refl _, Below.refl _ _⟩
  case round =>
    obtain ⟨t, rfl, HB0, hts, hb⟩ := hrel
    clear HS0
    have h0 : 0 < t.size := HB0.out.1
    have h0' : (0 : Int) < (t.size : Int) := by omega
    go_wp2_with fail
    refine (Tryd.utf8_DecodeLastRuneInString t _ (by omega) (tabs_below HT.out hb)).mono ?_
    obtain ⟨c, hc⟩ : ∃ c, (decodeLastL t.data.toList).1 = c := ⟨_, rfl⟩
    obtain ⟨n, hn⟩ : ∃ n, (decodeLastL t.data.toList).2 = n := ⟨_, rfl⟩
    rw [hc, hn]
    have HC := Lib.hid hc; have HN := Lib.hid hn; clear hc hn
    rintro e w1 ⟨rfl, hbw⟩
    have hb1 : Below w.heap.size w w1 := hb.trans (hbw.mono hb.size)
    clear hb hbw
    go_wp2
    obtain ⟨wo, rfl⟩ : ∃ wo : World, wo = wr := ⟨_, rfl⟩
    go_loopw [7] (fun b wi => ∃ k : Nat, k ≤ set.size ∧ b = .bool (inTake set k c) ∧ wi.heap[w1.heap.size]? = some (.stringIter set k) ∧ Below w.heap.size w wi) (fun _ wi => set.size - wi.iterPos w1.heap.size)
    case atStart => exact ⟨0, Nat.zero_le _, by rw [inTake_zero], World.iter_heap w1 set 0, below_iter hb1 hb1.size _ _⟩
    case round =>
      obtain ⟨k, hk, rfl, hitk, hbk⟩ := hrel
      by_cases hks : k < set.size
      · obtain ⟨w2, hnx2, hit2, hsz2, hoth2, hbel2⟩ := next_named (P := Tryd.prog) wr w1.heap.size set k hitk hks
        have ha := HA.out k hks
        have hd : Utf8.decode set k = ((set[k]'hks).toNat, 1) := decode_ascii set k hks ha
        rw [hd] at hnx2 hit2
        have hb2 := hbel2 _ _ hb1.size hbk
        have hsuc := inTake_succ set k c hks
        have HSUC := Lib.hid hsuc; clear hsuc
        have hpi : wr.iterPos w1.heap.size = k := iterPos_of hitk
        have HPI2 := Lib.hid hpi; clear hpi
        have HI2 := Lib.hid hit2
        clear hoth2 hit2 hd hsz2
        obtain ⟨d, hdd⟩ : ∃ d, (set[k]'hks).toNat = d := ⟨_, rfl⟩
        rw [hdd] at hnx2 HSUC
        clear hdd ha
        obtain ⟨q, hq⟩ : ∃ q, inTake set k c = q := ⟨_, rfl⟩
        rw [hq]
        rw [hq] at HSUC
        cases q
        · by_cases hcd : c = d
          · have hcdb : ((c : Int) == (d : Int)) = true := by simp [hcd]
            go_wp2
            go_roundw
            case rel => exact ⟨k + 1, by omega, by rw [HSUC.out]; simp [hcd], HI2.out, hb2⟩
            case measure => rw [HPI2.out, iterPos_of HI2.out]; show set.size - (k + 1) < set.size - k; omega
          · have hcdb : ((c : Int) == (d : Int)) = false := by simp; omega
            go_wp2
            go_roundw
            case rel => exact ⟨k + 1, by omega, by rw [HSUC.out]; simp; omega, HI2.out, hb2⟩
            case measure => rw [HPI2.out, iterPos_of HI2.out]; show set.size - (k + 1) < set.size - k; omega
        · go_wp2
          go_roundw
          case rel => exact ⟨k + 1, by omega, by rw [HSUC.out]; simp, HI2.out, hb2⟩
          case measure => rw [HPI2.out, iterPos_of HI2.out]; show set.size - (k + 1) < set.size - k; omega
      · have hnx2 : ∀ ty, (Instr.next (.pointer (some ⟨w1.heap.size, 0, none⟩)) true ty).run Tryd.prog wr = _ := fun ty => run_next_end_at wr w1.heap.size set k ty hitk hks
        obtain rfl : k = set.size := by omega
        clear hitk
        obtain ⟨q, hq⟩ : ∃ q, inTake set set.size c = q := ⟨_, rfl⟩
        rw [hq]
        have HQ := Lib.hid hq; clear hq
        cases q
        · go_wp2
          go_ret
          exact ⟨_, rfl, h0, hbk⟩
        · obtain ⟨hn1, h2, HB1⟩ := bad0_cut set t HA.out HB0.out (by rw [HC.out]; exact HQ.out)
          rw [HN.out] at hn1
          have HB2 := Lib.hid HB1; clear HB1
          obtain ⟨m, hm⟩ : ∃ m, m = t.size - 1 := ⟨_, rfl⟩
          have hsub : (t.size : Int) - (n : Int) = (m : Int) := by omega
          rw [← hm] at HB2
          have hms : m ≤ t.size := by omega
          have hsz : (t.extract 0 m).size = m := by rw [ByteArray.size_extract]; omega
          have HSZ := Lib.hid hsz; have HM := Lib.hid hm; clear hsz hm hn1
          go_wp2
          exact ⟨⟨_, rfl, HB2, by rw [HSZ.out]; omega, hbk⟩, by show (t.extract 0 m).size < t.size; rw [HSZ.out, HM.out]; omega⟩
end Go.Proofs.YthbhgnnfpfblhaaDoor.G
/- The program's check: whether words are too long, or hold another letter than a set's, for a set of ASCII letters. -/
namespace Go.Proofs.YthbhgnnfpfblhaaDoor.G
open Go.RowKit Go.Lib Go.Proofs.YthbhgnnfpfblhaaDoorW.PrintWords Go.Proofs.YthbhgnnfpfblhaaDoorW.PrintLast Go.Proofs.YthbhgnnfpfblhaaDoorW.PrintMore
set_option linter.unusedVariables false

/-- Does a word hold a letter that is none of the set? -/
def badWord (set x : ByteArray) : Bool := x.data.toList.any fun b => !inSet set b.toNat
theorem badWord_true {set x : ByteArray} (i : Nat) (h : i < x.size) (hb : inSet set (x[i]'h).toNat = false) : badWord set x = true := by
  unfold badWord
  rw [List.any_eq_true]
  exact ⟨x[i]'h, by simp [ByteArray.getElem_eq_getElem_data], by simp [hb]⟩
theorem badWord_false {set x : ByteArray} (h : ∀ i (h : i < x.size), inSet set (x[i]'h).toNat = true) : badWord set x = false := by
  unfold badWord
  rw [List.any_eq_false]
  intro b hb
  obtain ⟨i, hi, rfl⟩ := List.getElem_of_mem hb
  have := h i (by simpa using hi)
  simpa [ByteArray.getElem_eq_getElem_data] using this
theorem bad0_extract {set s : ByteArray} (i : Nat) (h : i < s.size) (hb : inSet set (s[i]'h).toNat = false) : Bad0 set (s.extract i s.size) := by
  have hs : (s.extract i s.size).size = s.size - i := by rw [ByteArray.size_extract]; omega
  refine ⟨by omega, ?_⟩
  rw [ByteArray.getElem_extract]
  simpa using hb

/-- The sets of letters that the program hands to check: they are ASCII. -/
def okSet (s : ByteArray) : Bool := s.data.toList.all fun b => decide (b.toNat < 128)
theorem okSet_ascii {s : ByteArray} (h : okSet s = true) : Ascii s := by
  intro i hi
  unfold okSet at h
  rw [List.all_eq_true] at h
  have := h (s[i]'hi) (by simp [ByteArray.getElem_eq_getElem_data])
  simpa using this

/-! ### mark_check: function 39 -/
def mark_check.f (a0 : Int) (a1 : ByteArray) (l2 : List ByteArray) : Option Int :=
  if okSet a1 = true ∧ a1.size ≤ 1000 ∧ a0 ≤ 1000000 ∧ l2.length ≤ 1000 then
    some (if l2.any (fun x => decide (a0 < (x.size : Int))) = true then 3 else if l2.any (badWord a1) = true then 2 else 0)
  else none

theorem any_take_succ {α : Type} (p : α → Bool) (l : List α) (k : Nat) (h : k < l.length) : (l.take (k + 1)).any p = ((l.take k).any p || p (l[k]'h)) := by
  rw [List.take_succ_eq_append_getElem h, List.any_append]
  simp
theorem rd_nat (l : List ByteArray) (k : Nat) (h : k < l.length) : rdOf ByteArray.empty l (k : Int) = l[k]'h := by
  unfold rdOf
  simp [h]
theorem any_of_take {α : Type} (p : α → Bool) (l : List α) (k : Nat) (h : k < l.length) (hp : p (l[k]'h) = true) : l.any p = true := List.any_eq_true.2 ⟨_, List.getElem_mem h, hp⟩

theorem not_empty {z : ByteArray} (h : 0 < z.size) : z.toList.isEmpty = false := by
  rw [toList_data]
  cases z with
  | mk d => cases d with
    | mk l => cases l with
      | nil => simp [ByteArray.size] at h
      | cons a b => rfl
theorem cutRight_empty (set : ByteArray) (w : World) : Calls Tryd.prog 28 #[.string ⟨#[]⟩, .string set] w fun e w' => e = .returned (.string ⟨#[]⟩) ∧ w = w' := by
  go_enter Tryd.func28, Tryd.ntmps28
  go_wp2
  refine wp_loop_rounds 1 ?_
  rw [rounds_succ]
  go_wp2
  go_ret
  exact ⟨rfl, rfl⟩

set_option maxHeartbeats 2000000 in
set_option maxRecDepth 100000 in
theorem mark_check.calls (a0 : Int) (a1 : ByteArray) (A2 : Option Addr) (c2 : Nat) (l2 : List ByteArray) (r : Int) (w : World) (hr2 : Kd.C Kd.string w A2 l2.length l2) (hc2 : l2.length ≤ c2) (hT : Lib.Utf8Tabs 0 1 w) (h : mark_check.f a0 a1 l2 = some r) :
    Calls Tryd.prog 17 #[.int .i64 a0, .string a1, .slice A2 l2.length c2] w fun e w' => e = .returned (.int .i64 r) ∧ Below w.heap.size w w' := by
  unfold mark_check.f at h
  split at h
  case isFalse => cases h
  case isTrue hg =>
  obtain ⟨hok, hsz, h1000, hln⟩ := hg
  have HA := Lib.hid (okSet_ascii hok); clear hok
  have HR := Lib.hid hr2; clear hr2
  have HT := Lib.hid hT; clear hT
  have HH := Lib.hid h; clear h
  clear hc2
  go_enter Tryd.func17, Tryd.ntmps17
  go_wp2
  go_loop [13] (fun i => ∃ k : Nat, k ≤ l2.length ∧ i = .int .i64 k ∧ Hid ((l2.take k).any (fun x => decide (a0 < (x.size : Int))) = false)) (fun i => l2.length - (RowKit.intOf i).toNat)
  case atStart => exact ⟨0, Nat.zero_le _, rfl, Lib.hid (by simp)⟩
  case round =>
    obtain ⟨k, hk, rfl, HALL⟩ := hrel
    by_cases hlt : k < l2.length
    · obtain ⟨ad, e2, hx⟩ := Kd.at_string HR.out (k : Int) (by omega) (by omega)
      cases e2
      rw [rd_nat l2 k hlt, Int.toNat_natCast] at hx
      obtain ⟨x, hxx⟩ : ∃ x, l2[k]'hlt = x := ⟨_, rfl⟩
      rw [hxx] at hx
      have HX := Lib.hid hxx; clear hxx
      have HSUC := Lib.hid (any_take_succ (fun x => decide (a0 < (x.size : Int))) l2 k hlt)
      by_cases hbig : a0 < (x.size : Int)
      · go_wp2
        go_ret
        refine ⟨?_, Below.refl _ _⟩
        have := HH.out
        rw [if_pos (any_of_take _ l2 k hlt (by rw [HX.out]; simpa using hbig))] at this
        cases this
        rfl
      · go_wp2
        go_round
        case rel => exact ⟨k + 1, by omega, by go_num, Lib.hid (by rw [HSUC.out, HALL.out, HX.out]; simpa using hbig)⟩
        case measure => simp [RowKit.intOf]; omega
    · obtain rfl : k = l2.length := by omega
      have HALL' : Hid (l2.any (fun x => decide (a0 < (x.size : Int))) = false) := Lib.hid (by have := HALL.out; rwa [List.take_of_length_le (Nat.le_refl _)] at this)
      clear HALL
      go_wp2
      go_loopw [24] (fun i wr => ∃ k : Nat, k ≤ l2.length ∧ i = .int .i64 k ∧ Hid ((l2.take k).any (badWord a1) = false) ∧ Below w.heap.size w wr) (fun i _ => l2.length - (RowKit.intOf i).toNat)
      case atStart => exact ⟨0, Nat.zero_le _, rfl, Lib.hid (by simp), Below.refl _ _⟩
      case round =>
        obtain ⟨k, hk, rfl, HALL, hb⟩ := hrel
        by_cases hlt : k < l2.length
        · obtain ⟨ad, e2, hx⟩ := Kd.at_string (Kd.C_below HR.out hb) (k : Int) (by omega) (by omega)
          cases e2
          rw [rd_nat l2 k hlt, Int.toNat_natCast] at hx
          have hsmall : ((l2[k]'hlt).size : Int) ≤ a0 := by
            have := List.any_eq_false.1 HALL'.out _ (List.getElem_mem hlt)
            simpa using this
          obtain ⟨x, hxx⟩ : ∃ x, l2[k]'hlt = x := ⟨_, rfl⟩
          rw [hxx] at hx hsmall
          have HX := Lib.hid hxx; clear hxx
          have HSUC := Lib.hid (any_take_succ (badWord a1) l2 k hlt)
          have hxs : x.size ≤ 9223372036854775807 := by omega
          go_wp2_with fail
          refine (cutLeft_calls x a1 _ HA.out hxs (by omega)).mono ?_
          rintro e w1 ⟨y, rfl, hy, hb1⟩
          have hb2 : Below w.heap.size w w1 := hb.trans (hb1.mono hb.size)
          clear hb hb1 hx
          rcases hy with ⟨rfl, hall⟩ | ⟨i, hi, rfl, hbad⟩
          · have HG := Lib.hid (badWord_false hall); clear hall
            go_wp2_with fail
            refine (cutRight_empty a1 _).mono ?_
            rintro e w2 ⟨rfl, rfl⟩
            go_wp2
            go_roundw
            case rel => exact ⟨k + 1, by omega, by go_num, Lib.hid (by rw [HSUC.out, HALL.out, HX.out, HG.out]; rfl), hb2⟩
            case measure => simp [RowKit.intOf]; omega
          · have HG := Lib.hid (badWord_true i hi hbad)
            have HB0 := Lib.hid (bad0_extract i hi hbad)
            have hys : (x.extract i x.size).size ≤ 9223372036854775807 := by rw [ByteArray.size_extract]; omega
            clear hbad
            go_wp2_with fail
            refine (cutRight_calls _ a1 _ HA.out HB0.out hys (by omega) (tabs_below HT.out hb2)).mono ?_
            rintro e w2 ⟨z, rfl, hz, hb3⟩
            have hb4 : Below w.heap.size w w2 := hb2.trans (hb3.mono hb2.size)
            clear hb2 hb3
            have hzl : z.toList.isEmpty = false := not_empty hz
            go_wp2
            go_ret
            refine ⟨?_, hb4⟩
            have := HH.out
            rw [if_neg (by rw [HALL'.out]; simp), if_pos (any_of_take _ l2 k hlt (by rw [HX.out]; exact HG.out))] at this
            cases this
            rfl
        · obtain rfl : k = l2.length := by omega
          go_wp2
          go_ret
          refine ⟨?_, hb⟩
          have := HH.out
          rw [if_neg (by rw [HALL'.out]; simp), if_neg (by have := HALL.out; rw [List.take_of_length_le (Nat.le_refl _)] at this; rw [this]; simp)] at this
          cases this
          rfl
end Go.Proofs.YthbhgnnfpfblhaaDoor.G
