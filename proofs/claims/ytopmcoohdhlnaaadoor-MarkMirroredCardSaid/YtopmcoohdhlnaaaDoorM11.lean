/- Plain laws: the words of a code of letters, as a list without doubles; a word reversed; the complement of a word. -/
import Derived.ArgAppend
import Derived.Below
import Derived.BigQuiet
import Derived.ChangeSlices
import Derived.Deep.AppendLies
import Derived.Deep.CutBlock
import Derived.Deep.DeepCutAuto
import Derived.Deep.Draws
import Derived.Deep.LoopGhost
import Derived.Deep.OwnRows
import Derived.Deep.QuietTactic
import Derived.Deep.RegionHeld3
import Derived.KernelRfl
import Derived.Laws.BitsLemmas
import Derived.Laws.BytesArg
import Derived.Laws.IdiomCopy
import Derived.Laws.MakeOwn
import Derived.Laws.OwnMore
import Derived.Laws.RangeAny
import Derived.Laws.Rows
import Derived.Laws.Slices
import Derived.Laws.StructEq
import Derived.Lib.AppendStr
import Derived.Lib.ConvBytes
import Derived.Lib.Hide
import Derived.Lib.OthersKept
import Derived.Lib.SliceRun
import Derived.Lib.TrimUEq
import Derived.Maps.AppendAt
import Derived.OrdersHeld
import Derived.Outline
import Derived.OwnWalk
import Derived.RowKit
import Derived.RowKit3
import Derived.Shelf.Slices.CompactS
import Derived.Shelf.Slices.In.SortNone
import Derived.Shelf.Small.Utf8
import Derived.Shelf.Sort.Plain
import Derived.Shelf.Strings.Builder1
import Derived.Shelf.Strings.Builder2
import Derived.Shelf.Strings.OnBuilder
import Derived.Shelf.Unicode.DecodeAny
import Derived.Shelf.Unicode.DecodeLast
import Derived.Shelf.Unicode.DecodeSlow
import Derived.SizedLaws
import Derived.Sort.OwnSorted
import Derived.Tactics
import Derived.Test.YtopmcoohdhlnaaaDoorProg
import Derived.WalkKit
import Derived.WalkSmall
import Derived.WalkSpells
import Derived.WideLaws
import Derived.Test.YtopmcoohdhlnaaaDoorG11
import Derived.Test.YtopmcoohdhlnaaaDoorG4
import Derived.Test.YtopmcoohdhlnaaaDoorG8
import Derived.Test.YtopmcoohdhlnaaaDoorM1
import Derived.Test.YtopmcoohdhlnaaaDoorM2
import Derived.Test.YtopmcoohdhlnaaaDoorM6
import Derived.Test.YtopmcoohdhlnaaaDoorPa17
import Derived.Test.YtopmcoohdhlnaaaDoorPb6
import Derived.Test.YtopmcoohdhlnaaaDoorWLast
import Derived.Test.YtopmcoohdhlnaaaDoorWMore
import Derived.Test.YtopmcoohdhlnaaaDoorWN
import Derived.Test.YtopmcoohdhlnaaaDoorWShare
import Derived.Test.YtopmcoohdhlnaaaDoorWWords
namespace Go.Proofs.YtopmcoohdhlnaaaDoor.M
open Go Go.RowKit Go.Lib Go.Proofs Go.Proofs.YtopmcoohdhlnaaaDoorW.PrintWords Go.Proofs.YtopmcoohdhlnaaaDoorW.PrintLast Go.Proofs.YtopmcoohdhlnaaaDoorW.PrintMore
open G
set_option linter.unusedVariables false
set_option linter.unusedSimpArgs false
theorem lst_snoc (x : ByteArray) (b : UInt8) : lst (catB [x, ⟨#[b]⟩]) = lst x ++ [b] := by
  rw [catB_two, lst_append]
  rfl
theorem mem_allW (al : ByteArray) : ∀ (n : Nat) (x : ByteArray), x ∈ allW al n ↔ x.size = n ∧ ∀ b ∈ lst x, b ∈ lst al := by
  intro n
  induction n with
  | zero =>
    intro x
    rw [allW, List.mem_singleton]
    constructor
    · rintro rfl
      exact ⟨rfl, fun b hb => by cases hb⟩
    · rintro ⟨h, _⟩
      have : lst x = [] := List.eq_nil_of_length_eq_zero (by rw [lst_length]; exact h)
      exact lst_inj this
  | succ n ih =>
    intro x
    simp only [allW, stepW, extW, List.mem_flatMap, List.mem_map]
    constructor
    · rintro ⟨y, hy, b, hb, rfl⟩
      obtain ⟨h1, h2⟩ := (ih y).1 hy
      refine ⟨by rw [catB_snoc_size, h1], fun c hc => ?_⟩
      rw [lst_snoc, List.mem_append, List.mem_singleton] at hc
      rcases hc with hc | rfl
      · exact h2 c hc
      · exact hb
    · rintro ⟨h1, h2⟩
      have hl : (lst x).length = n + 1 := by rw [lst_length]; exact h1
      have hne : lst x ≠ [] := fun h => by rw [h] at hl; cases hl
      have hx := List.dropLast_concat_getLast hne
      refine ⟨⟨(lst x).dropLast.toArray⟩, (ih _).2 ⟨?_, ?_⟩, (lst x).getLast hne, h2 _ (List.getLast_mem hne), ?_⟩
      · show (lst x).dropLast.length = n
        rw [List.length_dropLast, hl]; rfl
      · intro b hb
        exact h2 b ((List.dropLast_sublist (lst x)).subset hb)
      · apply lst_inj
        rw [lst_snoc]
        exact hx
theorem allW_nodup (al : ByteArray) (hal : (lst al).Nodup) : ∀ n, (allW al n).Nodup := by
  intro n
  induction n with
  | zero => simp [allW]
  | succ n ih =>
    unfold allW stepW
    refine List.pairwise_flatMap.2 ⟨fun y _ => ?_, ih.imp ?_⟩
    · unfold extW
      refine List.pairwise_map.2 (List.Pairwise.imp ?_ hal)
      intro a b hab e
      have e2 : lst (catB [y, ⟨#[a]⟩]) = lst (catB [y, ⟨#[b]⟩]) := by rw [e]
      rw [lst_snoc, lst_snoc] at e2
      have := List.append_cancel_left e2
      injection this with h _
      exact hab h
    · intro y z hyz u hu v hv e
      simp only [extW, List.mem_map] at hu hv
      obtain ⟨a, _, rfl⟩ := hu
      obtain ⟨b, _, rfl⟩ := hv
      have e2 : lst (catB [y, ⟨#[a]⟩]) = lst (catB [z, ⟨#[b]⟩]) := by rw [e]
      rw [lst_snoc, lst_snoc] at e2
      exact hyz (lst_inj (List.append_inj_left' e2 rfl))
def wordsN (n a : Nat) : List ByteArray := (allW ⟨#[48, 49]⟩ n).filter (inL n a)
theorem mem_wordsN (n a : Nat) (x : ByteArray) : x ∈ wordsN n a ↔ x.size = n ∧ bin (lst x) ∧ vt x % (n + 1) = a := by
  unfold wordsN
  rw [List.mem_filter, mem_allW]
  unfold inL bin
  have h : ∀ b : UInt8, b ∈ lst ⟨#[48, 49]⟩ ↔ b = 48 ∨ b = 49 := fun b => by
    show b ∈ [48, 49] ↔ _
    simp
  simp only [h, Bool.and_eq_true, decide_eq_true_eq]
  constructor
  · rintro ⟨⟨h1, h2⟩, _, h3⟩; exact ⟨h1, h2, h3⟩
  · rintro ⟨h1, h2, h3⟩; exact ⟨⟨h1, h2⟩, h1, h3⟩
theorem wordsN_nodup (n a : Nat) : (wordsN n a).Nodup := List.Pairwise.filter _ (allW_nodup _ (by show ([48, 49] : List UInt8).Nodup; decide) n)
theorem wordsN_len (n a : Nat) (h : n ≤ 12) : (wordsN n a).length ≤ 4096 := by
  refine Nat.le_trans (List.length_filter_le _ _) ?_
  rw [allW_length]
  exact Nat.pow_le_pow_right (n := 2) (by omega) h
theorem Words_ev (n a : Nat) (h1 : 1 ≤ n) (h2 : n ≤ 12) (h3 : a ≤ n) : Pb.mark_Words.f (n : Int) (a : Int) = some (wordsN n a, 0) := by
  unfold Pb.mark_Words.f G.mark_code_words.f
  rw [if_neg (by omega), if_neg (by omega), if_neg (by omega), if_neg (by omega), if_pos ⟨by unfold okCode; exact ⟨by omega, by omega, by omega, Or.inl rfl⟩, by omega⟩]
  have e : Pa.mark_code_alphabet.f 0 (n : Int) 2 (a : Int) 0 = some ⟨#[48, 49]⟩ := rfl
  rw [e, Option.bind_some, if_pos (by decide), Option.bind_some]
  have : inB 0 (n : Int) 2 (a : Int) 0 = inL n a := by
    funext x
    unfold inB
    rw [if_pos rfl]
    simp
  rw [this, Int.toNat_natCast]
  rfl
/-! ### a word reversed -/
def rev (x : ByteArray) : ByteArray := ⟨(lst x).reverse.toArray⟩
theorem lst_rev (x : ByteArray) : lst (rev x) = (lst x).reverse := rfl
theorem rev_size (x : ByteArray) : (rev x).size = x.size := by rw [← lst_length, lst_rev, List.length_reverse, lst_length]
theorem rev_rev (x : ByteArray) : rev (rev x) = x := lst_inj (by rw [lst_rev, lst_rev, List.reverse_reverse])
theorem vtF_rev : ∀ l : List UInt8, vtF 1 l.reverse + vtF 1 l = (l.length + 1) * ones l := by
  intro l
  induction l with
  | nil => rfl
  | cons a l ih =>
    rw [List.reverse_cons, vtF_append, List.length_reverse]
    have e1 : vtF 1 (a :: l) = (if a = 49 then 1 else 0) + (vtF 1 l + ones l) := by
      rw [← vtF_succ l 1]
      simp [vtF]
    have e2 : vtF (1 + l.length) [a] = if a = 49 then 1 + l.length else 0 := by simp [vtF]
    have e3 : ones (a :: l) = ones l + if a = 49 then 1 else 0 := by
      unfold ones
      rw [List.countP_cons]
      simp
    rw [e1, e2, e3, List.length_cons]
    have e4 : (l.length + 1) * ones l + ones l = (l.length + 1 + 1) * ones l := by rw [Nat.add_mul (l.length + 1) 1, Nat.one_mul]
    by_cases h : a = 49
    · rw [if_pos h, if_pos h, Nat.mul_add, Nat.mul_one]
      omega
    · simp only [if_neg h, Nat.add_zero]
      omega
theorem mod_rest (u v N k : Nat) (hN : 0 < N) (h : u + v = N * k) : v % N = (N - u % N) % N := by
  have h1 : (u + v) % N = 0 := by rw [h, Nat.mul_mod_right]
  rw [Nat.add_mod] at h1
  have hu := Nat.mod_lt u hN
  have hv := Nat.mod_lt v hN
  obtain ⟨p, hp⟩ : ∃ p, u % N = p := ⟨_, rfl⟩
  obtain ⟨q, hq⟩ : ∃ q, v % N = q := ⟨_, rfl⟩
  rw [hp] at hu h1 ⊢
  rw [hq] at hv h1 ⊢
  by_cases hs : p + q < N
  · rw [Nat.mod_eq_of_lt hs] at h1
    obtain rfl : p = 0 := by omega
    obtain rfl : q = 0 := by omega
    rw [Nat.sub_zero, Nat.mod_self]
  · rw [Nat.mod_eq_sub_mod (by omega), Nat.mod_eq_of_lt (by omega)] at h1
    rw [Nat.mod_eq_of_lt (by omega)]
    omega
theorem rev_words (n c : Nat) (hc : c ≤ n) (x : ByteArray) : x ∈ wordsN n ((n + 1 - c) % (n + 1)) ↔ rev x ∈ wordsN n c := by
  rw [mem_wordsN, mem_wordsN, rev_size, lst_rev]
  have hb : bin (lst x).reverse ↔ bin (lst x) := by unfold bin; simp
  rw [hb]
  have key : x.size = n → vt x + vt (rev x) = (n + 1) * ones (lst x) := by
    intro h
    rw [vt_lst, vt_lst, lst_rev, Nat.add_comm, vtF_rev, lst_length, h]
  constructor
  · rintro ⟨h1, h2, h3⟩
    refine ⟨h1, h2, ?_⟩
    rw [mod_rest _ _ _ _ (by omega) (key h1), h3]
    by_cases h0 : c = 0
    · subst h0
      rw [Nat.sub_zero, Nat.mod_self, Nat.sub_zero, Nat.mod_self]
    · rw [Nat.mod_eq_of_lt (show n + 1 - c < n + 1 by omega), Nat.mod_eq_of_lt (by omega)]
      omega
  · rintro ⟨h1, h2, h3⟩
    refine ⟨h1, h2, ?_⟩
    have k2 := key h1
    rw [Nat.add_comm] at k2
    rw [mod_rest _ _ _ _ (by omega) k2, h3]
theorem rev_len (n c : Nat) (hc : c ≤ n) : (wordsN n c).length = (wordsN n ((n + 1 - c) % (n + 1))).length := by
  have h1 : ((wordsN n c).map rev).Nodup := List.pairwise_map.2 ((wordsN_nodup n c).imp fun {a b} h e => h (by rw [← rev_rev a, e, rev_rev]))
  have h2 := (List.perm_ext_iff_of_nodup h1 (wordsN_nodup n ((n + 1 - c) % (n + 1)))).2 fun x => by
    rw [List.mem_map, rev_words n c hc]
    constructor
    · rintro ⟨y, hy, rfl⟩
      rw [rev_rev]; exact hy
    · intro h
      exact ⟨rev x, h, rev_rev x⟩
  have := h2.length_eq
  rwa [List.length_map] at this
/-! ### the complement of a word -/
def flip (b : UInt8) : UInt8 := if b = 49 then 48 else 49
theorem vtF_flip : ∀ (l : List UInt8) (i : Nat), 2 * (vtF i l + vtF i (l.map flip)) + l.length = l.length * (2 * i + l.length) := by
  intro l
  induction l with
  | nil => intro i; simp [vtF]
  | cons a l ih =>
    intro i
    have h := ih (i + 1)
    have e1 : vtF i (a :: l) = (if a = 49 then i else 0) + vtF (i + 1) l := by simp [vtF]
    have e2 : vtF i ((a :: l).map flip) = (if a = 49 then 0 else i) + vtF (i + 1) (l.map flip) := by
      rw [List.map_cons]
      unfold flip
      by_cases ha : a = 49
      · simp [vtF, ha, flip]
      · simp [vtF, ha, flip]
    rw [e1, e2, List.length_cons]
    obtain ⟨n, hn⟩ : ∃ n, l.length = n := ⟨_, rfl⟩
    rw [hn] at h ⊢
    have e3 : (n + 1) * (2 * i + (n + 1)) = n * (2 * (i + 1) + n) + (2 * i + 1) := by
      rw [Nat.add_mul n 1, Nat.one_mul, show 2 * (i + 1) + n = (2 * i + (n + 1)) + 1 by omega, Nat.mul_add n _ 1, Nat.mul_one]
      omega
    rw [e3, ← h]
    split <;> omega
end Go.Proofs.YtopmcoohdhlnaaaDoor.M
