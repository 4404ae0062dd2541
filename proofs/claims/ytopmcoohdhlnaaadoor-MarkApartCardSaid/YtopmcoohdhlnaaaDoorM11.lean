/- Plain laws: the words of a code of letters, as a list without doubles; a word reversed; the complement of a word. -/
import Derived.Test.YtopmcoohdhlnaaaDoorM6
namespace Go.Proofs.YtopmcoohdhlnaaaDoor.M
open Go Go.RowKit Go.Lib Go.Proofs Go.Proofs.YtopmcoohdhlnaaaDoorW.PrintWords Go.Proofs.YtopmcoohdhlnaaaDoorW.PrintLast Go.Proofs.YtopmcoohdhlnaaaDoorW.PrintMore
open G
set_option linter.unusedVariables false
set_option linter.unusedSimpArgs false
theorem lst_snoc (x : ByteArray) (b : UInt8) : lst (catB [x, ⟨#[b]⟩]) = lst x ++ [b] := by
  rw [catB_two, lst_append]
  rfl
theorem mem_allW (al : ByteArray) : ∀ (n : Nat) (x : ByteArray), x ∈ allW al n ↔ x.size = n ∧ ∀ b ∈ lst x, b ∈ lst al := by
  intro n
  induction n with
  | zero =>
    intro x
    rw [allW, List.mem_singleton]
    constructor
    · rintro rfl
      exact ⟨rfl, fun b hb => by cases hb⟩
    · rintro ⟨h, _⟩
      have : lst x = [] := List.eq_nil_of_length_eq_zero (by rw [lst_length]; exact h)
      exact lst_inj this
  | succ n ih =>
    intro x
    simp only [allW, stepW, extW, List.mem_flatMap, List.mem_map]
    constructor
    · rintro ⟨y, hy, b, hb, rfl⟩
      obtain ⟨h1, h2⟩ := (ih y).1 hy
      refine ⟨by rw [catB_snoc_size, h1], fun c hc => ?_⟩
      rw [lst_snoc, List.mem_append, List.mem_singleton] at hc
      rcases hc with hc | rfl
      · exact h2 c hc
      · exact hb
    · rintro ⟨h1, h2⟩
      have hl : (lst x).length = n + 1 := by rw [lst_length]; exact h1
      have hne : lst x ≠ [] := fun h => by rw [h] at hl; cases hl
      have hx := List.dropLast_concat_getLast hne
      refine ⟨⟨(lst x).dropLast.toArray⟩, (ih _).2 ⟨?_, ?_⟩, (lst x).getLast hne, h2 _ (List.getLast_mem hne), ?_⟩
      · show (lst x).dropLast.length = n
        rw [List.length_dropLast, hl]; rfl
      · intro b hb
        exact h2 b ((List.dropLast_sublist (lst x)).subset hb)
      · apply lst_inj
        rw [lst_snoc]
        exact hx
def wordsN (n a : Nat) : List ByteArray := (allW ⟨#[48, 49]⟩ n).filter (inL n a)
theorem mem_wordsN (n a : Nat) (x : ByteArray) : x ∈ wordsN n a ↔ x.size = n ∧ bin (lst x) ∧ vt x % (n + 1) = a := by
  unfold wordsN
  rw [List.mem_filter, mem_allW]
  unfold inL bin
  have h : ∀ b : UInt8, b ∈ lst ⟨#[48, 49]⟩ ↔ b = 48 ∨ b = 49 := fun b => by
    show b ∈ [48, 49] ↔ _
    simp
  simp only [h, Bool.and_eq_true, decide_eq_true_eq]
  constructor
  · rintro ⟨⟨h1, h2⟩, _, h3⟩; exact ⟨h1, h2, h3⟩
  · rintro ⟨h1, h2, h3⟩; exact ⟨⟨h1, h2⟩, h1, h3⟩
theorem wordsN_len (n a : Nat) (h : n ≤ 12) : (wordsN n a).length ≤ 4096 := by
  refine Nat.le_trans (List.length_filter_le _ _) ?_
  rw [allW_length]
  exact Nat.pow_le_pow_right (n := 2) (by omega) h
theorem Words_ev (n a : Nat) (h1 : 1 ≤ n) (h2 : n ≤ 12) (h3 : a ≤ n) : Pb.mark_Words.f (n : Int) (a : Int) = some (wordsN n a, 0) := by
  unfold Pb.mark_Words.f G.mark_code_words.f
  rw [if_neg (by omega), if_neg (by omega), if_neg (by omega), if_neg (by omega), if_pos ⟨by unfold okCode; exact ⟨by omega, by omega, by omega, Or.inl rfl⟩, by omega⟩]
  have e : Pa.mark_code_alphabet.f 0 (n : Int) 2 (a : Int) 0 = some ⟨#[48, 49]⟩ := rfl
  rw [e, Option.bind_some, if_pos (by decide), Option.bind_some]
  have : inB 0 (n : Int) 2 (a : Int) 0 = inL n a := by
    funext x
    unfold inB
    rw [if_pos rfl]
    simp
  rw [this, Int.toNat_natCast]
  rfl
/-! ### a word reversed -/
/-! ### the complement of a word -/
end Go.Proofs.YtopmcoohdhlnaaaDoor.M
