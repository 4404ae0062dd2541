/- Plain laws: the word of a code of which a word is a shorter or a longer one, by the program and by the reference; the document's examples. -/
import Derived.ArgAppend
import Derived.Below
import Derived.BigQuiet
import Derived.Deep.AppendLies
import Derived.Deep.CutBlock
import Derived.Deep.DeepCutAuto
import Derived.Deep.Draws
import Derived.Deep.LoopGhost
import Derived.Deep.OwnRows
import Derived.Deep.QuietTactic
import Derived.Deep.RegionHeld3
import Derived.KernelRfl
import Derived.Laws.BitsLemmas
import Derived.Laws.BytesArg
import Derived.Laws.IdiomCopy
import Derived.Laws.MakeOwn
import Derived.Laws.OwnMore
import Derived.Laws.RangeAny
import Derived.Laws.Rows
import Derived.Laws.Slices
import Derived.Laws.StructEq
import Derived.Lib.AppendStr
import Derived.Lib.ConvBytes
import Derived.Lib.Hide
import Derived.Lib.OthersKept
import Derived.Lib.SliceRun
import Derived.Lib.TrimUEq
import Derived.Maps.AppendAt
import Derived.OrdersHeld
import Derived.Outline
import Derived.OwnWalk
import Derived.RowKit
import Derived.RowKit3
import Derived.Shelf.Slices.CompactS
import Derived.Shelf.Slices.In.SortNone
import Derived.Shelf.Small.Utf8
import Derived.Shelf.Sort.Plain
import Derived.Shelf.Strings.Builder1
import Derived.Shelf.Strings.Builder2
import Derived.Shelf.Strings.OnBuilder
import Derived.Shelf.Unicode.DecodeAny
import Derived.Shelf.Unicode.DecodeLast
import Derived.Shelf.Unicode.DecodeSlow
import Derived.Sort.OwnSorted
import Derived.Tactics
import Derived.Test.YtopmcoohdhlnaaaDoorProg
import Derived.WalkKit
import Derived.WalkSmall
import Derived.WalkSpells
import Derived.WideLaws
import Derived.Test.YtopmcoohdhlnaaaDoorG13
import Derived.Test.YtopmcoohdhlnaaaDoorG3
import Derived.Test.YtopmcoohdhlnaaaDoorG8
import Derived.Test.YtopmcoohdhlnaaaDoorM1
import Derived.Test.YtopmcoohdhlnaaaDoorM3
import Derived.Test.YtopmcoohdhlnaaaDoorPb1
import Derived.Test.YtopmcoohdhlnaaaDoorPb2
import Derived.Test.YtopmcoohdhlnaaaDoorPb3
import Derived.Test.YtopmcoohdhlnaaaDoorPb4
import Derived.Test.YtopmcoohdhlnaaaDoorPb7
import Derived.Test.YtopmcoohdhlnaaaDoorWLast
import Derived.Test.YtopmcoohdhlnaaaDoorWMore
import Derived.Test.YtopmcoohdhlnaaaDoorWShare
import Derived.Test.YtopmcoohdhlnaaaDoorWWords
namespace Go.Proofs.YtopmcoohdhlnaaaDoor.M
open Go Go.RowKit Go.Lib Go.Proofs Go.Proofs.YtopmcoohdhlnaaaDoorW.PrintWords Go.Proofs.YtopmcoohdhlnaaaDoorW.PrintLast
open G
set_option linter.unusedVariables false
set_option linter.unusedSimpArgs false
/-- The numbers of a code of letters are bad. -/
def badNums (n a : Int) : Prop := n < 1 ∨ n > 20 ∨ a < 0 ∨ a > n
instance (n a : Int) : Decidable (badNums n a) := by unfold badNums; exact inferInstance
def firstIn (n a : Nat) (l : List ByteArray) : ByteArray × Int := match l.find? (inL n a) with | some x => (x, 0) | none => (⟨#[]⟩, 5)
theorem only_ev (n a : Nat) (l : List ByteArray) (hn : n ≤ 1000) (hl : l.length ≤ 1000000000) : mark_code_only.f 0 n 2 a 0 l = some (firstIn n a l) := by
  unfold mark_code_only.f firstIn
  rw [if_pos]
  · have : inB 0 (n : Int) 2 (a : Int) 0 = inL n a := by
      funext x
      unfold inB
      rw [if_pos rfl]
      simp
    rw [this]
    generalize List.find? _ _ = o
    cases o <;> rfl
  · refine ⟨hl, ?_⟩
    unfold okCode
    exact ⟨by omega, by omega, by omega, Or.inl rfl⟩
/-- What Restore (over 20 letters, all longer words) and Remove (over 21, all shorter ones) return. -/
def specP (m : Nat) (l : List ByteArray) (n a : Int) (x : ByteArray) : ByteArray × Int :=
  if wrong m x ≠ 0 then (⟨#[]⟩, wrong m x) else if badNums n a then (⟨#[]⟩, 1) else firstIn n.toNat a.toNat l
theorem spec_wrong {m : Nat} {l : List ByteArray} {n a : Int} {x : ByteArray} (h : ¬ wrong m x = 0) : specP m l n a x = (⟨#[]⟩, wrong m x) := by
  unfold specP
  rw [if_pos h]
theorem spec_bad {m : Nat} {l : List ByteArray} {n a : Int} {x : ByteArray} (h : wrong m x = 0) (hb : badNums n a) : specP m l n a x = (⟨#[]⟩, 1) := by
  unfold specP
  rw [if_neg (by simp [h]), if_pos hb]
theorem spec_good {m : Nat} {l : List ByteArray} {n a : Int} {x : ByteArray} (h : wrong m x = 0) (hb : ¬ badNums n a) : specP m l n a x = firstIn n.toNat a.toNat l := by
  unfold specP
  rw [if_neg (by simp [h]), if_neg hb]
theorem wrong_size {m : Nat} {x : ByteArray} (h : wrong m x = 0) : x.size ≤ m := by
  unfold wrong at h
  split at h
  · cases h
  · omega
theorem restore_ev (n a : Int) (x : ByteArray) (k : Nat) (hk : 1 < k) : Pb.mark_Restore.f k n a x = some (specP 20 (putAll (putsAll x 2 (x.size + 1))) n a x) := by
  obtain ⟨k, rfl⟩ : ∃ m, k = m + 1 := ⟨k - 1, by omega⟩
  unfold Pb.mark_Restore.f
  have hc : mark_check.f 20 ⟨#[48, 49]⟩ [x] = some (wrong 20 x) := check_one 20 (by omega) x
  rw [hc, Option.bind_some]
  by_cases hw : wrong 20 x = 0
  · have hs := wrong_size hw
    rw [if_pos hw]
    by_cases h1 : n < 1
    · rw [if_pos h1, spec_bad hw (Or.inl h1)]; simp [Pb.mark_Restore.j0]
    · rw [if_neg h1]
      by_cases h2 : n > 20
      · rw [if_pos h2, spec_bad hw (Or.inr (Or.inl h2))]; simp [Pb.mark_Restore.j0]
      · rw [if_neg h2]
        by_cases h3 : a < 0
        · rw [if_pos h3, spec_bad hw (Or.inr (Or.inr (Or.inl h3)))]; simp [Pb.mark_Restore.j0]
        · rw [if_neg h3]
          by_cases h4 : a > n
          · rw [spec_bad hw (Or.inr (Or.inr (Or.inr h4)))]; simp [Pb.mark_Restore.j0, h4]
          · rw [spec_good hw (by unfold badNums; omega)]
            obtain ⟨n, rfl⟩ := Int.eq_ofNat_of_zero_le (show 0 ≤ n by omega)
            obtain ⟨a, rfl⟩ := Int.eq_ofNat_of_zero_le (show 0 ≤ a by omega)
            simp only [Pb.mark_Restore.j0]
            rw [if_neg (by simpa using h4), longer_ev x (by omega), Option.bind_some, only_ev n a _ (by omega) ?_]
            · rfl
            · have h := putAll_length (putsAll x 2 (x.size + 1))
              rw [putsAll_length] at h
              omega
  · rw [if_neg hw, spec_wrong hw]
theorem remove_ev (n a : Int) (x : ByteArray) (k : Nat) (hk : 100 < k) : Pb.mark_Remove.f k n a x = some (specP 21 (putAll (delAll x x.size)) n a x) := by
  obtain ⟨k, rfl⟩ : ∃ m, k = m + 1 := ⟨k - 1, by omega⟩
  unfold Pb.mark_Remove.f
  have hc : mark_check.f 21 ⟨#[48, 49]⟩ [x] = some (wrong 21 x) := check_one 21 (by omega) x
  rw [hc, Option.bind_some]
  by_cases hw : wrong 21 x = 0
  · have hs := wrong_size hw
    rw [if_pos hw]
    by_cases h1 : n < 1
    · rw [if_pos h1, spec_bad hw (Or.inl h1)]; simp [Pb.mark_Remove.j0]
    · rw [if_neg h1]
      by_cases h2 : n > 20
      · rw [if_pos h2, spec_bad hw (Or.inr (Or.inl h2))]; simp [Pb.mark_Remove.j0]
      · rw [if_neg h2]
        by_cases h3 : a < 0
        · rw [if_pos h3, spec_bad hw (Or.inr (Or.inr (Or.inl h3)))]; simp [Pb.mark_Remove.j0]
        · rw [if_neg h3]
          by_cases h4 : a > n
          · rw [spec_bad hw (Or.inr (Or.inr (Or.inr h4)))]; simp [Pb.mark_Remove.j0, h4]
          · rw [spec_good hw (by unfold badNums; omega)]
            obtain ⟨n, rfl⟩ := Int.eq_ofNat_of_zero_le (show 0 ≤ n by omega)
            obtain ⟨a, rfl⟩ := Int.eq_ofNat_of_zero_le (show 0 ≤ a by omega)
            simp only [Pb.mark_Remove.j0]
            rw [if_neg (by simpa using h4), shorter_ev x (by omega) k (by omega), Option.bind_some, only_ev n a _ (by omega) ?_]
            · rfl
            · have h := putAll_length (delAll x x.size)
              rw [delAll_length] at h
              omega
  · rw [if_neg hw, spec_wrong hw]
/-! ### the reference's -/
theorem rrestore_loop (n a : Nat) (hn : n ≤ 1000) (l : List ByteArray) (hl : l.length ≤ 1000000) (hs : ∀ y ∈ l, y.size ≤ 1000) (d : Nat) : ∀ (k i : Nat), l.length - i = d → i ≤ l.length → d + 1000 < k →
    Pb.pritchelref09_Restore.l0 k (n : Int) (a : Int) l (i : Int) = some (match (l.drop i).find? (fun y => decide (vt y % (n + 1) = a)) with | some y => (y, true) | none => (⟨#[]⟩, false)) := by
  induction d with
  | zero =>
    intro k i hd hi hk
    obtain ⟨k, rfl⟩ : ∃ m, k = m + 1 := ⟨k - 1, by omega⟩
    rw [List.drop_eq_nil_of_le (by omega)]
    simp only [Pb.pritchelref09_Restore.l0]
    rw [if_neg (by omega)]
    rfl
  | succ d ih =>
    intro k i hd hi hk
    obtain ⟨k, rfl⟩ : ∃ m, k = m + 1 := ⟨k - 1, by omega⟩
    have hlt : i < l.length := by omega
    have h := ih k (i + 1) (by omega) (by omega) (by omega)
    have hz := hs (l[i]) (List.getElem_mem hlt)
    have c1 : (i : Int) < (l.length : Int) := by omega
    have c2 : (0 : Int) ≤ (i : Int) := by omega
    have e1 := w64succ i (by omega)
    have e2 := w64succ n (by omega)
    have c3 : ¬ ((n + 1 : Nat) : Int) = 0 := by omega
    simp only [Pb.pritchelref09_Restore.l0]
    rw [if_pos c1, if_pos c2, rd_nat8 l i hlt, rsum_ev _ (by omega) k (by omega), Option.bind_some, e1, e2, if_neg c3, tmod_nat, h, List.drop_eq_getElem_cons hlt, List.find?_cons]
    by_cases hm : vt (l[i]) % (n + 1) = a
    · rw [if_pos (by omega), decide_eq_true hm]
    · rw [if_neg (by omega), decide_eq_false hm]
theorem rremove_loop (n a : Nat) (hn : n ≤ 1000) (l : List ByteArray) (hl : l.length ≤ 1000000) (hs : ∀ y ∈ l, y.size ≤ 1000) (d : Nat) : ∀ (k i : Nat), l.length - i = d → i ≤ l.length → d + 1000 < k →
    Pb.pritchelref09_Remove.l0 k (n : Int) (a : Int) l (i : Int) = some (match (l.drop i).find? (fun y => decide (vt y % (n + 1) = a)) with | some y => (y, true) | none => (⟨#[]⟩, false)) := by
  induction d with
  | zero =>
    intro k i hd hi hk
    obtain ⟨k, rfl⟩ : ∃ m, k = m + 1 := ⟨k - 1, by omega⟩
    rw [List.drop_eq_nil_of_le (by omega)]
    simp only [Pb.pritchelref09_Remove.l0]
    rw [if_neg (by omega)]
    rfl
  | succ d ih =>
    intro k i hd hi hk
    obtain ⟨k, rfl⟩ : ∃ m, k = m + 1 := ⟨k - 1, by omega⟩
    have hlt : i < l.length := by omega
    have h := ih k (i + 1) (by omega) (by omega) (by omega)
    have hz := hs (l[i]) (List.getElem_mem hlt)
    have c1 : (i : Int) < (l.length : Int) := by omega
    have c2 : (0 : Int) ≤ (i : Int) := by omega
    have e1 := w64succ i (by omega)
    have e2 := w64succ n (by omega)
    have c3 : ¬ ((n + 1 : Nat) : Int) = 0 := by omega
    simp only [Pb.pritchelref09_Remove.l0]
    rw [if_pos c1, if_pos c2, rd_nat8 l i hlt, rsum_ev _ (by omega) k (by omega), Option.bind_some, e1, e2, if_neg c3, tmod_nat, h, List.drop_eq_getElem_cons hlt, List.find?_cons]
    by_cases hm : vt (l[i]) % (n + 1) = a
    · rw [if_pos (by omega), decide_eq_true hm]
    · rw [if_neg (by omega), decide_eq_false hm]
/-- A find among words of one length. -/
theorem find_len (n a m : Nat) (l : List ByteArray) (h : ∀ y ∈ l, y.size = m) : l.find? (inL n a) = if m = n then l.find? (fun y => decide (vt y % (n + 1) = a)) else none := by
  induction l with
  | nil => simp
  | cons x r ih =>
    have hx := h x (by simp)
    rw [List.find?_cons, ih (fun y hy => h y (by simp [hy])), List.find?_cons]
    unfold inL
    rw [hx]
    by_cases e : m = n
    · rw [decide_eq_true e, Bool.true_and, if_pos e, if_pos e]
    · rw [decide_eq_false e, Bool.false_and, if_neg e, if_neg e]
def toBool2 (p : ByteArray × Int) : ByteArray × Bool := (p.1, decide (p.2 = 0))
theorem rrestore_ev (n a : Nat) (hn : 1 ≤ n ∧ n ≤ 1000) (x : ByteArray) (hx : x.size ≤ 990) (k : Nat) (hk : 1000000 < k) : Pb.pritchelref09_Restore.f k (n : Int) (a : Int) x = some (toBool2 (firstIn n a (putAll (putsAll x 2 (x.size + 1))))) := by
  have hsz : ∀ y ∈ putAll (putsAll x 2 (x.size + 1)), y.size = x.size + 1 := fun y hy => mem_put_size (by omega) hy
  have hlen := putAll_length (putsAll x 2 (x.size + 1))
  rw [putsAll_length] at hlen
  have ew : wrap64 ((n : Int) - 1) = ((n - 1 : Nat) : Int) := by
    obtain ⟨m, rfl⟩ : ∃ m, n = m + 1 := ⟨n - 1, by omega⟩
    rw [w64pred m (by omega)]; simp
  unfold Pb.pritchelref09_Restore.f firstIn
  rw [find_len n a (x.size + 1) _ hsz, ew]
  by_cases e : x.size + 1 = n
  · rw [if_pos (by omega), if_pos e]
    unfold pritchelref09_Longer.f
    rw [if_pos ⟨by omega, by decide, by decide⟩, Option.bind_some]
    have h := rrestore_loop n a (by omega) _ (by show (putAll (putsAll x 2 (x.size + 1))).length ≤ 1000000; omega) (fun y hy => by have := hsz y hy; omega) _ k 0 rfl (by omega) (by omega)
    rw [List.drop_zero] at h
    refine Eq.trans h ?_
    show some _ = some _
    congr 1
    show (match (putAll (putsAll x 2 (x.size + 1))).find? _ with | some y => (y, true) | none => (⟨#[]⟩, false)) = _
    split <;> rfl
  · rw [if_neg (by omega), if_neg e]
    rfl
theorem rremove_ev (n a : Nat) (hn : 1 ≤ n ∧ n ≤ 1000) (x : ByteArray) (hx : x.size ≤ 990) (k : Nat) (hk : 1000000 < k) : Pb.pritchelref09_Remove.f k (n : Int) (a : Int) x = some (toBool2 (firstIn n a (putAll (delAll x x.size)))) := by
  have hsz : ∀ y ∈ putAll (delAll x x.size), y.size = x.size - 1 := fun y hy => (mem_del_size hy).1
  have hlen := putAll_length (delAll x x.size)
  rw [delAll_length] at hlen
  have ew := w64succ n (by omega)
  unfold Pb.pritchelref09_Remove.f firstIn
  rw [find_len n a (x.size - 1) _ hsz, ew]
  by_cases e : x.size = n + 1
  · rw [if_pos (by omega), if_pos (by omega)]
    unfold pritchelref09_Shorter.f
    rw [if_pos (by omega), Option.bind_some]
    have h := rremove_loop n a (by omega) _ (by show (putAll (delAll x x.size)).length ≤ 1000000; omega) (fun y hy => by have := hsz y hy; omega) _ k 0 rfl (by omega) (by omega)
    rw [List.drop_zero] at h
    refine Eq.trans h ?_
    show some _ = some _
    congr 1
    split <;> rfl
  · rw [if_neg (by omega), if_neg (by omega)]
    rfl
/-! ### the document's examples -/
theorem le_mono {α : Type} {f : Nat → Option α} (h : ∀ k, LeO (f k) (f (k + 1))) {k m : Nat} {r : α} (hk : k ≤ m) (hr : f k = some r) : f m = some r := by
  induction m with
  | zero => obtain rfl : k = 0 := by omega
            exact hr
  | succ m ih =>
    by_cases e : k = m + 1
    · rw [← e]; exact hr
    · exact h m r (ih (by omega))
theorem lives_1000 : Pb.pritchellaw09_lives.f 1000 = some true := by
  unfold Pb.pritchellaw09_lives.f
  rw [restore_ev _ _ _ 1000 (by omega), remove_ev _ _ _ 1000 (by omega)]
  decide +kernel
theorem lives_ev (k : Nat) (hk : 1000 ≤ k) : Pb.pritchellaw09_lives.f k = some true := le_mono Pb.pritchellaw09_lives.mono hk lives_1000
end Go.Proofs.YtopmcoohdhlnaaaDoor.M
