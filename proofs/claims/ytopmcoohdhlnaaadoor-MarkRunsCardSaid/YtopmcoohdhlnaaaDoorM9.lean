/- Plain laws: how many different words a word becomes by one letter less (its runs) and by one letter more (its length and two). -/
import Derived.ArgAppend
import Derived.Below
import Derived.BigQuiet
import Derived.ChangeSlices
import Derived.Deep.AppendLies
import Derived.Deep.CutBlock
import Derived.Deep.DeepCutAuto
import Derived.Deep.Draws
import Derived.Deep.LoopGhost
import Derived.Deep.OwnRows
import Derived.Deep.QuietTactic
import Derived.Deep.RegionHeld3
import Derived.KernelRfl
import Derived.Laws.BitsLemmas
import Derived.Laws.BytesArg
import Derived.Laws.IdiomCopy
import Derived.Laws.MakeOwn
import Derived.Laws.OwnMore
import Derived.Laws.RangeAny
import Derived.Laws.Rows
import Derived.Laws.Slices
import Derived.Laws.StructEq
import Derived.Lib.AppendStr
import Derived.Lib.ConvBytes
import Derived.Lib.Hide
import Derived.Lib.OthersKept
import Derived.Lib.SliceRun
import Derived.Lib.TrimUEq
import Derived.Maps.AppendAt
import Derived.OrdersHeld
import Derived.Outline
import Derived.OwnWalk
import Derived.RowKit
import Derived.RowKit3
import Derived.Shelf.Slices.CompactS
import Derived.Shelf.Slices.In.SortNone
import Derived.Shelf.Small.Utf8
import Derived.Shelf.Sort.Plain
import Derived.Shelf.Strings.Builder1
import Derived.Shelf.Strings.Builder2
import Derived.Shelf.Strings.OnBuilder
import Derived.Shelf.Unicode.DecodeAny
import Derived.Shelf.Unicode.DecodeLast
import Derived.Shelf.Unicode.DecodeSlow
import Derived.SizedLaws
import Derived.Sort.OwnSorted
import Derived.Tactics
import Derived.Test.YtopmcoohdhlnaaaDoorProg
import Derived.WalkKit
import Derived.WalkSmall
import Derived.WalkSpells
import Derived.WideLaws
import Derived.Test.YtopmcoohdhlnaaaDoorG12
import Derived.Test.YtopmcoohdhlnaaaDoorG5
import Derived.Test.YtopmcoohdhlnaaaDoorM2
import Derived.Test.YtopmcoohdhlnaaaDoorM6
import Derived.Test.YtopmcoohdhlnaaaDoorWLast
import Derived.Test.YtopmcoohdhlnaaaDoorWMore
import Derived.Test.YtopmcoohdhlnaaaDoorWShare
import Derived.Test.YtopmcoohdhlnaaaDoorWWords
namespace Go.Proofs.YtopmcoohdhlnaaaDoor.M
open Go Go.RowKit Go.Lib Go.Proofs Go.Proofs.YtopmcoohdhlnaaaDoorW.PrintWords Go.Proofs.YtopmcoohdhlnaaaDoorW.PrintLast Go.Proofs.YtopmcoohdhlnaaaDoorW.PrintMore
open G
set_option linter.unusedVariables false
set_option linter.unusedSimpArgs false
theorem sl_nodup {l : List (List UInt8)} (h : SL l) : l.Nodup := List.Pairwise.imp (fun {a b} hab e => absurd (e ▸ hab) (List.lt_irrefl b)) h
theorem len_putAll (L K : List ByteArray) (hK : K.Nodup) (h : ∀ x, x ∈ L ↔ x ∈ K) : (G.putAll L).length = K.length := by
  obtain ⟨b1, b2⟩ := putAll_spec L
  have h1 : (G.putAll L).Nodup := by
    have hn := sl_nodup b1
    unfold bytesL at hn
    exact (List.pairwise_map.1 hn).imp (fun h e => h (by rw [e]))
  exact ((List.perm_ext_iff_of_nodup h1 hK).2 fun x => by rw [mem_putAll, h x]).length_eq
theorem nodup_good {β : Type} (f : Nat → β) (p : Nat → Bool) (n : Nat) (h : ∀ i j, i < j → j < n → p i = true → p j = true → f i ≠ f j) : ∀ m, m ≤ n → (((List.range m).filter p).map f).Nodup := by
  intro m
  induction m with
  | zero => intro _; simp
  | succ m ih =>
    intro hm
    rw [List.range_succ, List.filter_append, List.map_append, List.nodup_append]
    refine ⟨ih (by omega), ?_, ?_⟩
    · by_cases hp : p m = true
      · simp [List.filter, hp]
      · simp [List.filter, hp]
    · intro a ha b hb
      simp only [List.mem_map, List.mem_filter, List.mem_range] at ha
      obtain ⟨i, ⟨hi, hpi⟩, rfl⟩ := ha
      by_cases hp : p m = true
      · simp [List.filter, hp] at hb
        subst hb
        exact h i m hi (by omega) hpi hp
      · simp [List.filter, hp] at hb
/-! ### one letter less -/
def rstart (l : List UInt8) (i : Nat) : Bool := decide (i = 0) || decide (l[i]? ≠ l[i - 1]?)
theorem erase_at (l : List UInt8) (i j : Nat) : (l.take i ++ l.drop (i + 1))[j]? = if j < i then l[j]? else l[j + 1]? := by
  rw [← List.eraseIdx_eq_take_drop_succ, List.getElem?_eraseIdx]
theorem del_prev (x : ByteArray) (i : Nat) (h : (lst x)[i + 1]? = (lst x)[i]?) : delAt x (i + 1) = delAt x i := by
  apply lst_inj
  rw [lst_del, lst_del]
  apply List.ext_getElem?
  intro j
  rw [erase_at, erase_at]
  by_cases h1 : j < i
  · rw [if_pos (by omega), if_pos h1]
  · rw [if_neg h1]
    by_cases h2 : j = i
    · subst h2
      rw [if_pos (by omega), h]
    · rw [if_neg (by omega)]
theorem del_start (x : ByteArray) : ∀ i, ∃ j, j ≤ i ∧ rstart (lst x) j = true ∧ delAt x i = delAt x j := by
  intro i
  induction i with
  | zero => exact ⟨0, Nat.le_refl _, rfl, rfl⟩
  | succ i ih =>
    by_cases h : (lst x)[i + 1]? = (lst x)[i]?
    · obtain ⟨j, h1, h2, h3⟩ := ih
      exact ⟨j, by omega, h2, (del_prev x i h).trans h3⟩
    · exact ⟨i + 1, Nat.le_refl _, by unfold rstart; rw [Nat.add_sub_cancel, decide_eq_true h, Bool.or_true], rfl⟩
theorem del_differ (x : ByteArray) (i j : Nat) (hij : i < j) (hj : rstart (lst x) j = true) : delAt x i ≠ delAt x j := by
  intro e
  have e2 : (lst (delAt x i))[j - 1]? = (lst (delAt x j))[j - 1]? := by rw [e]
  rw [lst_del, lst_del, erase_at, erase_at, if_neg (by omega), if_pos (by omega), Nat.sub_add_cancel (by omega)] at e2
  unfold rstart at hj
  rw [decide_eq_false (by omega), Bool.false_or, decide_eq_true_eq] at hj
  exact hj e2
def runsTo (l : List UInt8) (n : Nat) : Nat := ((List.range n).filter (rstart l)).length
theorem runsTo_succ (l : List UInt8) (n : Nat) : runsTo l (n + 1) = runsTo l n + if rstart l n = true then 1 else 0 := by
  unfold runsTo
  rw [List.range_succ, List.filter_append, List.length_append]
  by_cases h : rstart l n = true <;> simp [List.filter, h]
theorem runsTo_le (l : List UInt8) (n : Nat) : runsTo l n ≤ n := by
  unfold runsTo
  exact Nat.le_trans (List.length_filter_le _ _) (by simp)
theorem shorter_count (x : ByteArray) : (G.putAll (delAll x x.size)).length = runsTo (lst x) x.size := by
  rw [len_putAll _ (((List.range x.size).filter (rstart (lst x))).map (delAt x)), List.length_map]
  · rfl
  · exact nodup_good _ _ x.size (fun i j h1 _ _ h2 => del_differ x i j h1 h2) _ (Nat.le_refl _)
  · intro y
    rw [mem_delAll]
    simp only [List.mem_map, List.mem_filter, List.mem_range]
    constructor
    · rintro ⟨i, hi, rfl⟩
      obtain ⟨j, h1, h2, h3⟩ := del_start x i
      exact ⟨j, ⟨by omega, h2⟩, h3.symm⟩
    · rintro ⟨j, ⟨h1, h2⟩, rfl⟩
      exact ⟨j, h1, rfl⟩
/-! ### one letter more -/
theorem ins_at (l : List UInt8) (i j : Nat) (c : UInt8) (hi : i ≤ l.length) : (l.take i ++ c :: l.drop i)[j]? = if j < i then l[j]? else if j = i then some c else l[j - 1]? := by
  have hl : (l.take i).length = i := by rw [List.length_take]; omega
  by_cases h1 : j < i
  · rw [if_pos h1, List.getElem?_append_left (by omega), List.getElem?_take, if_pos h1]
  · rw [if_neg h1, List.getElem?_append_right (by omega), hl]
    by_cases h2 : j = i
    · subst h2
      rw [if_pos rfl, Nat.sub_self]; rfl
    · rw [if_neg h2]
      obtain ⟨d, hd⟩ : ∃ d, j - i = d + 1 := ⟨j - i - 1, by omega⟩
      rw [hd, List.getElem?_cons_succ, List.getElem?_drop]
      congr 1
      omega
theorem put_at (x : ByteArray) (i j c : Nat) (hi : i ≤ x.size) (hc : c < 2) : (lst (putAt x i c))[j]? = if j < i then (lst x)[j]? else if j = i then some (UInt8.ofNat (48 + c)) else (lst x)[j - 1]? := by
  rw [lst_put x i c hc, ins_at _ _ _ _ (by rw [lst_length]; exact hi)]
theorem put_next (x : ByteArray) (i c : Nat) (hi : i < x.size) (hc : c < 2) (h : (lst x)[i]? = some (UInt8.ofNat (48 + c))) : putAt x i c = putAt x (i + 1) c := by
  apply lst_inj
  apply List.ext_getElem?
  intro j
  rw [put_at x i j c (by omega) hc, put_at x (i + 1) j c (by omega) hc]
  by_cases h1 : j < i
  · rw [if_pos h1, if_pos (by omega)]
  · by_cases h2 : j = i
    · subst h2
      rw [if_neg (by omega), if_pos rfl, if_pos (by omega), h]
    · rw [if_neg h1, if_neg h2, if_neg (by omega)]
      by_cases h3 : j = i + 1
      · subst h3
        rw [if_pos rfl, Nat.add_sub_cancel, h]
      · rw [if_neg h3]
def flipc (l : List UInt8) (i : Nat) : Nat := if l[i]? = some 48 then 1 else 0
theorem flipc_lt (l : List UInt8) (i : Nat) : flipc l i < 2 := by unfold flipc; split <;> omega
theorem flipc_ne (l : List UInt8) (i : Nat) : l[i]? ≠ some (UInt8.ofNat (48 + flipc l i)) := by
  unfold flipc
  by_cases h : l[i]? = some 48
  · rw [if_pos h, h]; decide
  · rw [if_neg h]; exact h
def insOf (x : ByteArray) (i : Nat) : ByteArray := if i < x.size then putAt x i (flipc (lst x) i) else putAt x x.size (i - x.size)
theorem longer_count (x : ByteArray) (hb : bin (lst x)) : (G.putAll (putsAll x 2 (x.size + 1))).length = x.size + 2 := by
  rw [len_putAll _ (((List.range (x.size + 2)).filter (fun _ => true)).map (insOf x)), List.length_map]
  · rw [List.filter_eq_self.2 (fun _ _ => rfl), List.length_range]
  · refine nodup_good _ _ (x.size + 2) (fun i j h1 hj _ _ e => ?_) _ (Nat.le_refl _)
    have e2 : (lst (insOf x i))[i]? = (lst (insOf x j))[i]? := by rw [e]
    unfold insOf at e2
    by_cases hi : i < x.size
    · rw [if_pos hi, put_at x i i _ (by omega) (flipc_lt _ _), if_neg (by omega), if_pos rfl] at e2
      by_cases hj2 : j < x.size
      · rw [if_pos hj2, put_at x j i _ (by omega) (flipc_lt _ _), if_pos h1] at e2
        exact flipc_ne _ _ e2.symm
      · rw [if_neg hj2, put_at x x.size i _ (by omega) (by omega), if_pos hi] at e2
        exact flipc_ne _ _ e2.symm
    · obtain rfl : i = x.size := by omega
      obtain rfl : j = x.size + 1 := by omega
      rw [if_neg (by omega), if_neg (by omega), put_at x x.size x.size _ (by omega) (by omega), put_at x x.size x.size _ (by omega) (by omega), if_neg (by omega), if_pos rfl, if_neg (by omega), if_pos rfl] at e2
      rw [Nat.sub_self, show x.size + 1 - x.size = 1 from by omega] at e2
      exact absurd e2 (by decide)
  · intro y
    rw [mem_putsAll]
    simp only [List.mem_map, List.mem_filter, List.mem_range]
    constructor
    · rintro ⟨i, c, hi, hc, rfl⟩
      have key : ∀ d i, x.size - i = d → i ≤ x.size → ∃ k, k < x.size + 2 ∧ insOf x k = putAt x i c := by
        intro d
        induction d with
        | zero =>
          intro i hd hi
          obtain rfl : i = x.size := by omega
          refine ⟨x.size + c, by omega, ?_⟩
          unfold insOf
          rw [if_neg (by omega), Nat.add_sub_cancel_left]
        | succ d ih =>
          intro i hd hi
          by_cases h : (lst x)[i]? = some (UInt8.ofNat (48 + c))
          · obtain ⟨k, h1, h2⟩ := ih (i + 1) (by omega) (by omega)
            exact ⟨k, h1, h2.trans (put_next x i c (by omega) hc h).symm⟩
          · refine ⟨i, by omega, ?_⟩
            unfold insOf
            rw [if_pos (by omega)]
            have hl : i < (lst x).length := by rw [lst_length]; omega
            have hbi := hb ((lst x)[i]'hl) (List.getElem_mem hl)
            rw [List.getElem?_eq_getElem hl] at h
            have : flipc (lst x) i = c := by
              unfold flipc
              rw [List.getElem?_eq_getElem hl]
              rcases (show c = 0 ∨ c = 1 by omega) with rfl | rfl
              · rcases hbi with hbi | hbi
                · exact absurd (by rw [hbi]; decide) h
                · rw [hbi]; decide
              · rcases hbi with hbi | hbi
                · rw [hbi]; decide
                · exact absurd (by rw [hbi]; decide) h
            rw [this]
      obtain ⟨k, h1, h2⟩ := key _ i rfl (by omega)
      exact ⟨k, ⟨h1, trivial⟩, h2⟩
    · rintro ⟨k, ⟨h1, h2⟩, rfl⟩
      unfold insOf
      by_cases hk : k < x.size
      · rw [if_pos hk]; exact ⟨k, _, by omega, flipc_lt _ _, rfl⟩
      · rw [if_neg hk]; exact ⟨x.size, _, by omega, by omega, rfl⟩
end Go.Proofs.YtopmcoohdhlnaaaDoor.M
