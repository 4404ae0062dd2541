/- slices.Sort and slices.Compact at []string, at a row that the call itself owns: what the row holds behind them. -/
import Derived.Lib.Hide
import Derived.Shelf.Slices.In.SortNone
import Derived.Sort.OwnSorted
import Derived.Test.YtopmcoohdhlnaaaDoorS
import Derived.Test.YtopmcoohdhlnaaaDoorWMore
namespace Go.Proofs.YtopmcoohdhlnaaaDoor.G
open Go Go.RowKit Go.Lib Go.Sort Go.Proofs Go.Proofs.YtopmcoohdhlnaaaDoorW.PrintWords Go.Proofs.YtopmcoohdhlnaaaDoorW.PrintLast Go.Proofs.YtopmcoohdhlnaaaDoorW.PrintMore
set_option linter.unusedVariables false

/-- The words' bytes, and words of bytes. -/
def bytesL (l : List ByteArray) : List (List UInt8) := l.map (·.data.toList)
def wordsL (l : List (List UInt8)) : List ByteArray := l.map fun x => ⟨x.toArray⟩
theorem encs_bytes (l : List ByteArray) : encs Value.string l = (bytesL l).map encStr := by
  simp [encs, bytesL, encStr, Function.comp_def]
theorem encs_words (l : List (List UInt8)) : encs Value.string (wordsL l) = l.map encStr := by
  simp [encs, wordsL, encStr, Function.comp_def]
def sortB (l : List (List UInt8)) : List (List UInt8) := l.mergeSort fun x y => decide (x ≤ y)
def SortPost (l : List ByteArray) (v : Value) (B : Nat) (w : World) (e : Ending) (w' : World) : Prop := e = .returned (.tuple #[]) ∧ w'.ownsRow B 9 1 v (sortB (bytesL l)).length ((sortB (bytesL l)).map encStr) ∧ Below B w w'
theorem sort_owns (l : List ByteArray) (v : Value) (B : Nat) (w : World) (hown : w.ownsRow B 9 1 v l.length (encs Value.string l)) (hB : B ≤ w.heap.size) (hn : l.length ≤ 1000000) :
    Calls Tryd.prog 57 #[v] w (SortPost l v B w) := by
  rw [encs_bytes] at hown
  have hlen : (bytesL l).length = l.length := by simp [bytesL]
  have hsl : (sortB (bytesL l)).length = l.length := by simp [sortB, hlen]
  rcases hown.2 with ⟨rfl, h0⟩ | ⟨g, cap, cur, rfl, hbase, hb, h1, h2, h3, h4⟩
  · have hnil : l = [] := List.eq_nil_of_length_eq_zero h0
    subst hnil
    refine (Any.slices_Sort_string_none Tryd.lays190 none 0 w).mono ?_
    rintro e w' ⟨rfl, rfl⟩
    exact ⟨rfl, by simpa [sortB, bytesL] using hown, Below.refl _ _⟩
  · have hH : Holds encStr w g 0 (bytesL l).toArray := holds_of_block hb (by rw [hlen]; simpa using h4)
    have hc := Tryd.slices_Sort_string g 0 cap (bytesL l) w hH (Array.getElem?_eq_some_iff.1 hb).1 (by omega)
    rw [hlen] at hc
    refine hc.mono ?_
    rintro e w' ⟨rfl, n, os, rfl⟩
    refine ⟨rfl, ?_, (Below.refl _ _).grown (grownBy_sorted _) hB (fun j hj => by cases hj; exact hbase)⟩
    have := ownsRow_sorted (n := n) (os := os) (ss := bytesL l) (ts := sortB (bytesL l)) (by rw [hsl, hlen]) hbase hb (by omega) h2 h3
    rw [hlen] at this
    rw [hsl]
    exact this
def CompPost (s : List (List UInt8)) (B : Nat) (w : World) (e : Ending) (w' : World) : Prop := ∃ v', e = .returned v' ∧ w'.ownsRow B 9 1 v' (Lib.compact s).length ((Lib.compact s).map encStr) ∧ Below B w w'
theorem compact_owns (s : List (List UInt8)) (v : Value) (B : Nat) (w : World) (hown : w.ownsRow B 9 1 v s.length (s.map encStr)) (hB : B ≤ w.heap.size) (hn : s.length ≤ 1000000) :
    Calls Tryd.prog 58 #[v] w (CompPost s B w) := by
  rcases hown.2 with ⟨rfl, h0⟩ | ⟨g, cap, cur, rfl, hbase, hb, h1, h2, h3, h4⟩
  · have hnil : s = [] := List.eq_nil_of_length_eq_zero h0
    subst hnil
    refine (Tryd.slices_Compact_string_empty none 0 w).mono ?_
    rintro e w' ⟨rfl, rfl⟩
    exact ⟨_, rfl, by simpa [Lib.compact, compactUpTo] using hown, Below.refl _ _⟩
  · have hH : Holds encStr w g 0 s.toArray := holds_of_block hb (by simpa using h4)
    refine (Tryd.slices_Compact_string g 0 cap s w hH (by omega) (by omega)).mono ?_
    rintro e w' ⟨rfl, q, rfl⟩
    have hcl : (Lib.compact s).length ≤ s.length := by
      unfold Lib.compact compactUpTo
      rw [List.length_map]
      exact Nat.le_trans (List.length_filter_le _ _) (by simp)
    obtain ⟨ts, hts⟩ : ∃ ts, ts = Lib.compact s ++ List.replicate (s.length - (Lib.compact s).length) ([] : List UInt8) := ⟨_, rfl⟩
    have htl : ts.length = s.length := by rw [hts]; simp; omega
    have ho := ownsRow_sorted (n := q) (os := #[]) (ss := s) (ts := ts) htl hbase hb (by omega) h2 h3
    have hg := grownBy_sorted (w := w) (g := g) (n := q) (os := #[]) ts.toArray
    have eg : ∀ W : World, grow W #[] = W := fun W => by simp [grow]
    rw [eg] at ho hg
    rw [← hts]
    refine ⟨_, rfl, ?_, (Below.refl _ _).grown hg hB (fun j hj => by cases hj; exact hbase)⟩
    refine ⟨by simp, .inr ?_⟩
    rcases ho.2 with ⟨h, _⟩ | ⟨g', cap', cur', hv, hbase', hb', h1', h2', h3', h4'⟩
    · cases h
    · cases hv
      refine ⟨g, cap, cur', rfl, hbase', hb', by omega, h2', h3', ?_⟩
      rw [Nat.mul_one] at h4' ⊢
      have : (cur'.toList.take s.length).take (Lib.compact s).length = (ts.map encStr).take (Lib.compact s).length := by rw [h4']
      rw [List.take_take, Nat.min_eq_left hcl] at this
      rw [this, hts, List.map_append, List.take_append_of_le_length (by simp), List.take_of_length_le (by simp)]
end Go.Proofs.YtopmcoohdhlnaaaDoor.G
