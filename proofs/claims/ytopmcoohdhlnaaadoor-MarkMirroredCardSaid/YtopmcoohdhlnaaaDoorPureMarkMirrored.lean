/- The words of a code, reversed, are those of the mirrored code, as many; the sums of a word and of its complement add up to n(n + 1)/2: for all numbers and words. -/
import Derived.ArgAppend
import Derived.Below
import Derived.BigQuiet
import Derived.ChangeSlices
import Derived.Deep.AppendLies
import Derived.Deep.CutBlock
import Derived.Deep.DeepCutAuto
import Derived.Deep.Draws
import Derived.Deep.LoopGhost
import Derived.Deep.OwnRows
import Derived.Deep.QuietTactic
import Derived.Deep.RegionHeld3
import Derived.KernelRfl
import Derived.Laws.BitsLemmas
import Derived.Laws.BytesArg
import Derived.Laws.IdiomCopy
import Derived.Laws.MakeOwn
import Derived.Laws.OwnMore
import Derived.Laws.RangeAny
import Derived.Laws.Rows
import Derived.Laws.Slices
import Derived.Laws.StructEq
import Derived.Lib.AppendStr
import Derived.Lib.ConvBytes
import Derived.Lib.Hide
import Derived.Lib.OthersKept
import Derived.Lib.SliceRun
import Derived.Lib.TrimUEq
import Derived.Maps.AppendAt
import Derived.OrdersHeld
import Derived.Outline
import Derived.OwnWalk
import Derived.RowKit
import Derived.RowKit3
import Derived.Shelf.Slices.CompactS
import Derived.Shelf.Slices.In.SortNone
import Derived.Shelf.Small.Utf8
import Derived.Shelf.Sort.Plain
import Derived.Shelf.Strings.Builder1
import Derived.Shelf.Strings.Builder2
import Derived.Shelf.Strings.OnBuilder
import Derived.Shelf.Unicode.DecodeAny
import Derived.Shelf.Unicode.DecodeLast
import Derived.Shelf.Unicode.DecodeSlow
import Derived.SizedLaws
import Derived.Sort.OwnSorted
import Derived.Tactics
import Derived.Test.YtopmcoohdhlnaaaDoorProg
import Derived.WalkKit
import Derived.WalkSmall
import Derived.WalkSpells
import Derived.WideLaws
import Derived.Test.YtopmcoohdhlnaaaDoorG1
import Derived.Test.YtopmcoohdhlnaaaDoorM1
import Derived.Test.YtopmcoohdhlnaaaDoorM10
import Derived.Test.YtopmcoohdhlnaaaDoorM11
import Derived.Test.YtopmcoohdhlnaaaDoorM2
import Derived.Test.YtopmcoohdhlnaaaDoorM6
import Derived.Test.YtopmcoohdhlnaaaDoorM7
import Derived.Test.YtopmcoohdhlnaaaDoorPa12
import Derived.Test.YtopmcoohdhlnaaaDoorPb10
import Derived.Test.YtopmcoohdhlnaaaDoorPb11
import Derived.Test.YtopmcoohdhlnaaaDoorWInv
import Derived.Test.YtopmcoohdhlnaaaDoorWLast
import Derived.Test.YtopmcoohdhlnaaaDoorWMore
import Derived.Test.YtopmcoohdhlnaaaDoorWWords
namespace Go.Proofs.YtopmcoohdhlnaaaDoor.Pure
open Go Go.RowKit Go.Lib Go.Proofs Go.Proofs.YtopmcoohdhlnaaaDoorW.PrintWords Go.Proofs.YtopmcoohdhlnaaaDoorW.PrintLast Go.Proofs.YtopmcoohdhlnaaaDoorW.PrintMore
open G M Pb
set_option linter.unusedVariables false
set_option linter.unusedSimpArgs false
/-- A word reversed, letter by letter, from place j on down. -/
theorem mir_l1 (z : List Int) (l m T : List ByteArray) (i : Nat) (hi : i < l.length) (w : ByteArray) (hw : l.getD i ByteArray.empty = w) (hz : w.size ≤ 1000) (hT : T.length < 8796093022208) (hl : l.length ≤ 1000000) :
    ∀ (d : Nat), d ≤ w.size → ∀ (k : Nat) (x : ByteArray), lst x = ((lst w).drop d).reverse →
    pritchellaw09_MarkMirrored.l1 (k + (d + 1)) z l m T (i : Int) x ((d : Int) - 1) = pritchellaw09_MarkMirrored.l0 k z l m (T ++ [rev w]) ((i + 1 : Nat) : Int) := by
  intro d
  induction d with
  | zero =>
    intro hd k x hx
    have w1 := w64succ i (by omega)
    rw [pritchellaw09_MarkMirrored.l1, if_neg (by omega), if_pos hT, w1]
    have : x = rev w := lst_inj (by rw [hx, lst_rev, List.drop_zero])
    rw [this]
  | succ d ih =>
    intro hd k x hx
    have e : ((d + 1 : Nat) : Int) - 1 = (d : Int) := by omega
    have hlt : d < w.size := by omega
    have w1 := w64succ d (by omega)
    have w2 : wrap64 ((d : Int) - 1) = (d : Int) - 1 := w64 (by omega) (by omega)
    have r : rdOf ByteArray.empty l (i : Int) = w := by rw [rdOf_nat]; exact hw
    have hxs : x.size ≤ 1000 := by rw [← lst_length, hx, List.length_reverse, List.length_drop, lst_length]; omega
    have hes : (w.extract d (d + 1)).size ≤ 1 := by rw [ByteArray.size_extract]; omega
    have h := ih (by omega) k (x ++ w.extract d (d + 1)) (by rw [lst_append, lst_one w d hlt, hx, lst_drop_cons w d hlt, List.reverse_cons])
    rw [e, show k + (d + 1 + 1) = (k + (d + 1)) + 1 from by omega, pritchellaw09_MarkMirrored.l1]
    simp only [r, w1, w2, Int.toNat_natCast]
    rw [if_pos (by omega), if_pos (by omega), if_pos (by omega), if_pos (by omega), if_pos (by omega), if_pos (by omega), if_pos (by omega)]
    exact h
theorem mir_l0 (z : List Int) (l m : List ByteArray) (hl : l.length ≤ 1000000) (hz : ∀ w ∈ l, w.size ≤ 1000) (d : Nat) : ∀ i, l.length - i = d → i ≤ l.length → ∃ c, ∀ k,
    pritchellaw09_MarkMirrored.l0 (k + c) z l m ((l.take i).map rev) (i : Int) = pritchellaw09_MarkMirrored.l2 k z m (l.map rev) 0 := by
  induction d with
  | zero =>
    intro i hd hi
    obtain rfl : i = l.length := by omega
    refine ⟨1, fun k => ?_⟩
    rw [pritchellaw09_MarkMirrored.l0, if_neg (by omega), List.take_length]
  | succ d ih =>
    intro i hd hi
    have hlt : i < l.length := by omega
    obtain ⟨c, hc⟩ := ih (i + 1) (by omega) (by omega)
    obtain ⟨w, hw⟩ : ∃ w, l.getD i ByteArray.empty = w := ⟨_, rfl⟩
    have hg : l[i]'hlt = w := by rw [← hw, List.getD_eq_getElem?_getD, List.getElem?_eq_getElem hlt]; rfl
    have hwz : w.size ≤ 1000 := hz w (hg ▸ List.getElem_mem hlt)
    refine ⟨c + (w.size + 1) + 1, fun k => ?_⟩
    have r : rdOf ByteArray.empty l (i : Int) = w := by rw [rdOf_nat]; exact hw
    have h := mir_l1 z l m ((l.take i).map rev) i hlt w hw hwz (by rw [List.length_map, List.length_take]; omega) hl w.size (Nat.le_refl _) (k + c) ⟨#[]⟩ (by rw [List.drop_eq_nil_of_le (by rw [lst_length]; omega)]; rfl)
    have w2 : wrap64 ((w.size : Int) - 1) = (w.size : Int) - 1 := w64 (by omega) (by omega)
    have hk := hc k
    rw [List.take_succ_eq_append_getElem hlt, List.map_append, List.map_cons, List.map_nil, hg] at hk
    rw [show k + (c + (w.size + 1) + 1) = (k + c + (w.size + 1)) + 1 from by omega, pritchellaw09_MarkMirrored.l0, if_pos (by omega), if_pos (by omega), r, w2, h, hk]
def anyIs (w : ByteArray) (l : List ByteArray) : Bool := l.any fun y => y.toList == w.toList
theorem anyIs_mem {w : ByteArray} {l : List ByteArray} (h : w ∈ l) : anyIs w l = true := by
  unfold anyIs
  rw [List.any_eq_true]
  exact ⟨w, h, beq_iff_eq.2 rfl⟩
theorem anyIs_snoc (w y : ByteArray) (l : List ByteArray) : anyIs w (l ++ [y]) = (anyIs w l || (y.toList == w.toList)) := by
  unfold anyIs
  rw [List.any_append, List.any_cons, List.any_nil, Bool.or_false]
theorem mir_l3 (z : List Int) (m T : List ByteArray) (i : Nat) (hi : i < T.length) (w : ByteArray) (hw : T.getD i ByteArray.empty = w) (hm : w ∈ m) (hml : m.length ≤ 1000000) (hT : T.length ≤ 1000000) (d : Nat) : ∀ j, m.length - j = d → j ≤ m.length → ∀ k,
    pritchellaw09_MarkMirrored.l3 (k + (d + 1)) z m T (i : Int) (anyIs w (m.take j)) (j : Int) = pritchellaw09_MarkMirrored.l2 k z m T ((i + 1 : Nat) : Int) := by
  induction d with
  | zero =>
    intro j hd hj k
    obtain rfl : j = m.length := by omega
    have w1 := w64succ i (by omega)
    rw [pritchellaw09_MarkMirrored.l3, if_neg (by omega), List.take_length, if_pos (anyIs_mem hm), w1]
  | succ d ih =>
    intro j hd hj k
    have hlt : j < m.length := by omega
    have a1 : (j : Int) < (m.length : Int) := by omega
    have a2 : (0 : Int) ≤ (j : Int) := by omega
    have a3 : (0 : Int) ≤ (i : Int) := by omega
    have a4 : (i : Int) < (T.length : Int) := by omega
    have h := ih (j + 1) (by omega) (by omega) k
    have r : rdOf ByteArray.empty T (i : Int) = w := by rw [rdOf_nat]; exact hw
    have r2 : rdOf ByteArray.empty m (j : Int) = m[j]'hlt := by rw [rdOf_nat, List.getD_eq_getElem?_getD, List.getElem?_eq_getElem hlt]; rfl
    have w1 := w64succ j (by omega)
    rw [List.take_succ_eq_append_getElem hlt, anyIs_snoc] at h
    rw [show k + (d + 1 + 1) = (k + (d + 1)) + 1 from by omega, pritchellaw09_MarkMirrored.l3, if_pos a1, w1, r, r2]
    cases hin : anyIs w (m.take j) with
    | true =>
      rw [if_pos rfl]
      rw [hin, Bool.true_or] at h
      exact h
    | false =>
      rw [if_neg (by simp), if_pos a2, if_pos a3, if_pos a4]
      rw [hin, Bool.false_or] at h
      exact h
theorem mir_l2 (z : List Int) (m T : List ByteArray) (hm : ∀ w ∈ T, w ∈ m) (hml : m.length ≤ 1000000) (hT : T.length ≤ 1000000) (d : Nat) : ∀ i, T.length - i = d → i ≤ T.length → ∃ c, ∀ k,
    pritchellaw09_MarkMirrored.l2 (k + c) z m T (i : Int) = (Pa.pritchellaw09_word.f k z 2 20).bind fun s => pritchellaw09_MarkMirrored.l4 k s ⟨#[]⟩ 0 := by
  induction d with
  | zero =>
    intro i hd hi
    obtain rfl : i = T.length := by omega
    refine ⟨1, fun k => ?_⟩
    rw [pritchellaw09_MarkMirrored.l2, if_neg (by omega)]
  | succ d ih =>
    intro i hd hi
    have hlt : i < T.length := by omega
    obtain ⟨c, hc⟩ := ih (i + 1) (by omega) (by omega)
    obtain ⟨w, hw⟩ : ∃ w, T.getD i ByteArray.empty = w := ⟨_, rfl⟩
    have hg : T[i]'hlt = w := by rw [← hw, List.getD_eq_getElem?_getD, List.getElem?_eq_getElem hlt]; rfl
    have h := mir_l3 z m T i hlt w hw (hm w (hg ▸ List.getElem_mem hlt)) hml hT m.length 0 (by omega) (by omega)
    refine ⟨c + (m.length + 1) + 1, fun k => ?_⟩
    have h2 := h (k + c)
    rw [hc k] at h2
    rw [show k + (c + (m.length + 1) + 1) = (k + c + (m.length + 1)) + 1 from by omega, pritchellaw09_MarkMirrored.l2, if_pos (by omega)]
    exact h2
theorem dflip (b : UInt8) (h : b = 48 ∨ b = 49) : ∃ n : Nat, ((b.toNat : Int) - 48) % 256 = (n : Int) ∧ n < 2 ∧ lst ((⟨#[49, 48]⟩ : ByteArray).extract n (n + 1)) = [M.flip b] := by
  rcases h with rfl | rfl
  · exact ⟨0, by decide, by decide, by decide⟩
  · exact ⟨1, by decide, by decide, by decide⟩
theorem Sum_ev (s : ByteArray) (hs : s.size ≤ 20) (hb : bin (lst s)) (k : Nat) (hk : 100 < k) : mark_Sum.f k s = some ((vt s : Int), 0) := by
  unfold mark_Sum.f
  have hc : mark_check.f 20 ⟨#[48, 49]⟩ [s] = some (wrong 20 s) := check_one 20 (by decide) s
  rw [hc, Option.bind_some, wrong_bin hs hb, if_pos rfl, sum_ev s (by omega) k (by omega), Option.bind_some]
theorem flip_bin (l : List UInt8) : bin (l.map M.flip) := by
  intro b hb
  rw [List.mem_map] at hb
  obtain ⟨c, _, rfl⟩ := hb
  unfold M.flip
  split
  · exact Or.inl rfl
  · exact Or.inr rfl
theorem tri_arith (n u v : Nat) (hn : n ≤ 20) (hm : 2 * (u + v) + n = n * (2 * 1 + n)) (hu : u ≤ 420) (hv : v ≤ 420) :
    (wrap64 ((u : Int) + (v : Int)) == wrap64 (Int.tdiv (wrap64 ((n : Int) * wrap64 ((n : Int) + 1))) 2)) = true := by
  have hm : n * (n + 1) = 2 * (u + v) := by
    have e1 : n * (2 * 1 + n) = n * (n + 1) + n := by rw [show 2 * 1 + n = (n + 1) + 1 by omega, Nat.mul_add n (n + 1) 1, Nat.mul_one]
    omega
  have hm2 : (n : Int) * ((n + 1 : Nat) : Int) = ((2 * (u + v) : Nat) : Int) := by rw [← hm]; exact (Int.natCast_mul n (n + 1)).symm
  have b1 : n + 1 ≤ 1000000000000 := by omega
  have b2 : 2 * (u + v) ≤ 1000000000000 := by omega
  have b3 : u + v ≤ 1000000000000 := by omega
  have e4 : Int.tdiv ((2 * (u + v) : Nat) : Int) 2 = ((u + v : Nat) : Int) := by
    rw [Int.tdiv_eq_ediv_of_nonneg (by omega)]; omega
  have w1 := w64succ n b1
  have w2 := w64n (2 * (u + v)) b2
  have w3 := w64add u v b3
  have w4 := w64n (u + v) b3
  rw [w1, hm2, w2, e4, w3, w4]
  exact beq_iff_eq.2 rfl
theorem mir_step (n ts : Nat) (hn : n < 2) (ht : ts ≤ 20) (f : ByteArray → Option Bool) (r : Option Bool) (h : f ((⟨#[49, 48]⟩ : ByteArray).extract n (n + 1)) = r) :
    (if 0 ≤ (n : Int) then (if (n : Int) ≤ (((n : Int) + 1) % 256) then (if (((n : Int) + 1) % 256) ≤ 2 then (if ts + ((⟨#[49, 48]⟩ : ByteArray).extract ((n : Int)).toNat ((((n : Int) + 1) % 256)).toNat).size ≤ 9223372036854775807 then f ((⟨#[49, 48]⟩ : ByteArray).extract ((n : Int)).toNat ((((n : Int) + 1) % 256)).toNat) else none) else none) else none) else none) = r := by
  have e5 : ((n : Int) + 1) % 256 = ((n + 1 : Nat) : Int) := by omega
  have hez : ((⟨#[49, 48]⟩ : ByteArray).extract n (n + 1)).size ≤ 1 := by rw [ByteArray.size_extract]; omega
  rw [e5, Int.toNat_natCast, Int.toNat_natCast, if_pos (by omega), if_pos (by omega), if_pos (by omega), if_pos (by omega)]
  exact h
theorem mir_l4 (s : ByteArray) (hs : s.size ≤ 20) (hb : bin (lst s)) (d : Nat) : ∀ (k i : Nat) (t : ByteArray), s.size - i = d → i ≤ s.size → d + 200 < k → lst t = ((lst s).take i).map M.flip →
    pritchellaw09_MarkMirrored.l4 k s t (i : Int) = some true := by
  induction d with
  | zero =>
    intro k i t hd hi hk ht
    obtain ⟨k, rfl⟩ : ∃ m, k = m + 1 := ⟨k - 1, by omega⟩
    obtain rfl : i = s.size := by omega
    rw [← lst_length, List.take_length] at ht
    have htz : t.size = s.size := by rw [← lst_length, ht, List.length_map, lst_length]
    have htb : bin (lst t) := by rw [ht]; exact flip_bin _
    have hv := vtF_flip (lst s) 1
    rw [← ht, ← vt_lst, ← vt_lst, lst_length] at hv
    have h1 := vtF_le (lst s) 1
    have h2 := vtF_le (lst t) 1
    rw [← vt_lst, lst_length] at h1 h2
    rw [htz] at h2
    rw [pritchellaw09_MarkMirrored.l4, if_neg (by omega), Sum_ev s hs hb k (by omega), Option.bind_some, Sum_ev t (by omega) htb k (by omega), Option.bind_some, if_pos rfl, if_pos rfl]
    have hq : s.size * (1 + s.size) ≤ 420 := Nat.mul_le_mul (show s.size ≤ 20 by omega) (show 1 + s.size ≤ 21 by omega)
    rw [tri_arith s.size (vt s) (vt t) hs hv (Nat.le_trans h1 hq) (Nat.le_trans h2 hq)]
  | succ d ih =>
    intro k i t hd hi hk ht
    obtain ⟨k, rfl⟩ : ∃ m, k = m + 1 := ⟨k - 1, by omega⟩
    have hlt : i < s.size := by omega
    have hil : i < (lst s).length := by rw [lst_length]; exact hlt
    have htz : t.size ≤ 20 := by rw [← lst_length, ht, List.length_map, List.length_take, lst_length]; omega
    have b1 : s.size - (i + 1) = d := by omega
    have b2 : i + 1 ≤ s.size := by omega
    have b3 : d + 200 < k := by omega
    have b4 : i + 1 ≤ 1000000000000 := by omega
    have b5 : (i : Int) < (s.size : Int) := by omega
    have b6 : (0 : Int) ≤ (i : Int) := by omega
    have w1 := w64succ i b4
    obtain ⟨n, h1, h2, h3⟩ := dflip (s[i]'hlt) (hb _ (List.getElem_mem hil))
    have h := ih k (i + 1) (t ++ (⟨#[49, 48]⟩ : ByteArray).extract n (n + 1)) b1 b2 b3 (by rw [lst_append, h3, ht, List.take_succ_eq_append_getElem hil, List.map_append]; rfl)
    rw [pritchellaw09_MarkMirrored.l4, if_pos b5, if_pos b6, bt_nat s i hlt, h1, w1]
    exact mir_step n t.size h2 htz (fun e => pritchellaw09_MarkMirrored.l4 k s (t ++ e) ((i + 1 : Nat) : Int)) _ h
theorem mir_end (z : List Int) (hz : ∀ x ∈ z, (Lit.int .u8 x).wf = true) (n c : Nat) (h1 : 1 ≤ n) (h2 : n ≤ 12) (h3 : c ≤ n) : ∃ K, 3000000 < K ∧ pritchellaw09_MarkMirrored.j0 K z (wordsN n c) (wordsN n ((n + 1 - c) % (n + 1))) false = some true := by
  have wl := wordsN_len n c h2
  have wm := wordsN_len n ((n + 1 - c) % (n + 1)) h2
  have wz : ∀ w ∈ wordsN n c, w.size ≤ 1000 := fun w h => by have := ((mem_wordsN n c w).1 h).1; omega
  obtain ⟨c1, e1⟩ := mir_l0 z (wordsN n c) (wordsN n ((n + 1 - c) % (n + 1))) (by omega) wz _ 0 rfl (Nat.zero_le _)
  obtain ⟨c2, e2⟩ := mir_l2 z (wordsN n ((n + 1 - c) % (n + 1))) ((wordsN n c).map rev) (fun w h => by
    rw [List.mem_map] at h
    obtain ⟨y, hy, rfl⟩ := h
    rw [rev_words n c h3, rev_rev]; exact hy) (by omega) (by rw [List.length_map]; omega) _ 0 rfl (Nat.zero_le _)
  obtain ⟨K, hK⟩ : ∃ K, K = 3000001 := ⟨_, rfl⟩
  obtain ⟨s, hs, hsz, hsb⟩ := law_word z hz 2 20 (by omega) (by omega) K (by omega)
  replace hs : Pa.pritchellaw09_word.f K z 2 20 = some s := hs
  refine ⟨K + c2 + c1 + 1, by omega, ?_⟩
  rw [pritchellaw09_MarkMirrored.j0, if_neg (by simp)]
  have e1' := e1 (K + c2)
  rw [List.take_zero, List.map_nil] at e1'
  have e2' := e2 K
  have b1 : s.size ≤ 20 := by omega
  have b2 : s.size + 200 < K := by omega
  have e3 := mir_l4 s b1 (below_bin hsb) s.size K 0 ⟨#[]⟩ (Nat.sub_zero _) (Nat.zero_le _) b2 rfl
  rw [hs, Option.bind_some] at e2'
  exact e1'.trans (e2'.trans e3)
theorem mir_nums (p q : Nat) (hp : p ≤ 255) (hq : q ≤ 255) : ∃ n c : Nat, 1 ≤ n ∧ n ≤ 12 ∧ c ≤ n ∧ wrap64 (Int.tmod (wrap64 (p : Int)) 12 + 1) = (n : Int) ∧ Int.tmod (wrap64 (q : Int)) ((n + 1 : Nat) : Int) = (c : Int) ∧ wrap64 ((n : Int) + 1) = ((n + 1 : Nat) : Int) ∧ Int.tmod (wrap64 (((n + 1 : Nat) : Int) - (c : Int))) ((n + 1 : Nat) : Int) = (((n + 1 - c) % (n + 1) : Nat) : Int) := by
  have b1 : p ≤ 1000000000000 := by omega
  have b2 : q ≤ 1000000000000 := by omega
  have b3 : p % 12 + 1 ≤ 12 := by omega
  have b4 : q % (p % 12 + 1 + 1) ≤ p % 12 + 1 := by have := Nat.mod_lt q (show 0 < p % 12 + 1 + 1 by omega); omega
  obtain ⟨n, hn⟩ : ∃ n, p % 12 + 1 = n := ⟨_, rfl⟩
  rw [hn] at b3 b4
  obtain ⟨c, hc⟩ : ∃ c, q % (n + 1) = c := ⟨_, rfl⟩
  rw [hc] at b4
  have b5 : p % 12 + 1 ≤ 1000000000000 := by omega
  have b6 : n + 1 ≤ 1000000000000 := by omega
  have b7 : n + 1 - c ≤ 1000000000000 := by omega
  have b8 : ((n + 1 : Nat) : Int) - (c : Int) = ((n + 1 - c : Nat) : Int) := by omega
  have b9 : 1 ≤ n := by omega
  have t1 : Int.tmod (p : Int) 12 = ((p % 12 : Nat) : Int) := tmod_nat p 12
  refine ⟨n, c, b9, b3, b4, ?_, ?_, w64succ n b6, ?_⟩
  · rw [w64n p b1, t1, w64succ _ b5, hn]
  · rw [w64n q b2, tmod_nat, hc]
  · rw [b8, w64n _ b7, tmod_nat]
theorem MarkMirrored : pritchellaw09_MarkMirrored.Pure := by
  intro a0 a1 z h0 h1 _ _ hz
  have ha0 : 0 ≤ a0 ∧ a0 ≤ 255 := u8_range h0
  have ha1 : 0 ≤ a1 ∧ a1 ≤ 255 := u8_range h1
  obtain ⟨p, rfl⟩ := Int.eq_ofNat_of_zero_le ha0.1
  obtain ⟨q, rfl⟩ := Int.eq_ofNat_of_zero_le ha1.1
  obtain ⟨n, c, n1, n2, n3, e1, e2, e3, e4⟩ := mir_nums p q (by omega) (by omega)
  obtain ⟨K, hK, hj⟩ := mir_end z hz n c n1 n2 n3
  have f1 := Words_ev n c n1 n2 n3
  have b1 : (n + 1 - c) % (n + 1) ≤ n := Nat.le_of_lt_succ (Nat.mod_lt _ (Nat.succ_pos n))
  have f2 := Words_ev n ((n + 1 - c) % (n + 1)) n1 n2 b1
  have b2 : ¬ ((n + 1 : Nat) : Int) = 0 := by omega
  have b3 : 1000 ≤ K := by omega
  have hl := lives_ev K b3
  refine ⟨K, ?_⟩
  unfold pritchellaw09_MarkMirrored.f
  simp only [e1, e3, e2, e4]
  rw [if_neg b2, f1, Option.bind_some, f2, Option.bind_some]
  simp only [if_true]
  rw [if_pos (by rw [rev_len n c n3]), hl, Option.bind_some]
  exact hj
end Go.Proofs.YtopmcoohdhlnaaaDoor.Pure
