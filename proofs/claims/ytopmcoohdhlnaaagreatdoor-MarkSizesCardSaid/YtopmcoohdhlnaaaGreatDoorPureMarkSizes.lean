/- Size returns the number of words of a code, and Words its words, or ErrArg: for all numbers. -/
import Derived.Test.YtopmcoohdhlnaaaGreatDoorXQ2
import Derived.Test.YtopmcoohdhlnaaaGreatDoorXN0
namespace Go.Proofs.YtopmcoohdhlnaaaGreatDoor.G
end Go.Proofs.YtopmcoohdhlnaaaGreatDoor.G
namespace Go.Proofs.YtopmcoohdhlnaaaGreatDoor.M
end Go.Proofs.YtopmcoohdhlnaaaGreatDoor.M
namespace Go.Proofs.YtopmcoohdhlnaaaGreatDoor.Pure
open Go Go.RowKit Go.Proofs.YtopmcoohdhlnaaaGreatDoorW.PrintWords Go.Proofs.YtopmcoohdhlnaaaGreatDoorW.PrintLast Go.Proofs.YtopmcoohdhlnaaaGreatDoorW.PrintMore
open G M N
set_option linter.unusedVariables false
set_option linter.unusedSimpArgs false
theorem lives_Ev : Ev (fun k => Pb.pritchellaw09_lives.f k) true := ⟨1000, fun k hk => lives_ev k hk⟩
theorem same_Ev (l : List ByteArray) (hl : l.length ≤ 1000000) : Ev (fun k => Pa.pritchelref09_Same.f k l l) true := ⟨1000001, fun k hk => same_ev l hl k (by omega)⟩
/-- The numbers are no code's. -/
theorem size_bad {n a : Int} (h : n < 1 ∨ n > 200 ∨ a < 0 ∨ a > n) : Ev (fun k => Qa.mark_Size.f k n a) (⟨#[]⟩, 1) := by
 (have hj : Ev (fun k => Qa.mark_Size.j0 k n a true) ((⟨#[]⟩ : ByteArray), (1 : Int)) := now1 fun k => by rw [Qa.mark_Size.j0, if_pos rfl]); refine Ev.congr (fun k => ?_) hj; unfold Qa.mark_Size.f; by_cases h1 : n < 1
 ·rw [if_pos h1]
 ·rw [if_neg h1]; by_cases h2 : n > 200
  ·rw [if_pos h2]
  ·rw [if_neg h2]; by_cases h3 : a < 0
   ·rw [if_pos h3]
   ·rw [if_neg h3, decide_eq_true (by omega)]
theorem words_bad {n a : Int} (h : n < 1 ∨ n > 12 ∨ a < 0 ∨ a > n) : Pb.mark_Words.f n a = some ([], 1) := by
 unfold Pb.mark_Words.f; by_cases h1 : n < 1
 ·rw [if_pos h1]
 ·rw [if_neg h1]; by_cases h2 : n > 12
  ·rw [if_pos h2]
  ·rw [if_neg h2]; by_cases h3 : a < 0
   ·rw [if_pos h3]
   ·rw [if_neg h3, if_pos (by omega)]
theorem bad_end (n a : Int) : Ev (fun k => Qw.pritchellaw09_MarkSizes.j0 k n a ⟨#[]⟩ 1 [] 1 true) true := by
 refine Ev.step (f := fun k => (Pb.pritchellaw09_lives.f k).bind fun t107 => (some t107)) (fun k => ?_) (Ev.bind lives_Ev (Ev.just fun k => rfl)); rw [Qw.pritchellaw09_MarkSizes.j0, if_pos rfl, if_pos (by rw [ByteArray.toList_eq]), if_pos rfl, if_pos (by simp), if_pos rfl]
theorem MarkSizes : Qw.pritchellaw09_MarkSizes.Pure := by
 intro n a _ _; apply Ev.rounds; unfold Qw.pritchellaw09_MarkSizes.f; by_cases h : n < 1 ∨ n > 200 ∨ a < 0 ∨ a > n
 ·refine Ev.bind (size_bad h) ?_; rw [words_bad (by omega)]; refine Ev.congr (f := fun k => Qw.pritchellaw09_MarkSizes.j0 k n a ⟨#[]⟩ 1 [] 1 true) (fun k => ?_) (bad_end n a); simp only [Option.bind_some]; by_cases h1 : n < 1
  ·rw [if_pos h1]
  ·rw [if_neg h1]; by_cases h2 : n > 200
   ·rw [if_pos h2]
   ·rw [if_neg h2]; by_cases h3 : a < 0
    ·rw [if_pos h3]
    ·rw [if_neg h3, decide_eq_true (by omega)]
 ·obtain ⟨n, rfl⟩ : ∃ m : Nat, n = (m : Int) := ⟨n.toNat, by omega⟩; obtain ⟨a, rfl⟩ : ∃ m : Nat, a = (m : Int) := ⟨a.toNat, by omega⟩; (have hn1 : 1 ≤ n := by omega); (have hn2 : n ≤ 200 := by omega); have ha : a ≤ n := by omega
  obtain ⟨L, e, hw, hend⟩ : ∃ L e, Pb.mark_Words.f (n : Int) (a : Int) = some (L, e) ∧ Ev (fun k => Qw.pritchellaw09_MarkSizes.j1 k (n : Int) (a : Int) L e false) true := by
   by_cases h12 : n ≤ 12
   ·refine ⟨_, _, Words_ev n a hn1 h12 ha, ?_⟩; refine Ev.step (f := fun k => (Qa.pritchelref09_Words.f k (n : Int) (a : Int)).bind fun t118 => ((Pa.pritchelref09_Same.f k (wordsN n a) t118).bind fun t121 => (if t121 = true then (some ((0 : Int) == 0)) else (some false)))) (fun k => ?_) (Ev.bind (rwords_ev n a h12) (Ev.bind (same_Ev _ (by have := wordsN_len n a h12; omega)) (Ev.just fun k => rfl))); rw [Qw.pritchellaw09_MarkSizes.j1, if_neg (by decide), if_neg (by omega)]
   ·refine ⟨_, _, words_bad (by omega), now1 fun k => ?_⟩; rw [Qw.pritchellaw09_MarkSizes.j1, if_neg (by decide), if_pos (by omega), if_pos (by simp)]; rfl
  refine Ev.bind (size_ev n a hn1 hn2 ha) ?_; rw [hw]; refine Ev.congr (f := fun k => Qw.pritchellaw09_MarkSizes.j0 k (n : Int) (a : Int) (txt (cnt n a)) 0 L e false) (fun k => ?_) ?_
  ·simp only [Option.bind_some]; rw [if_neg (by omega), if_neg (by omega), if_neg (by omega), decide_eq_false (by omega)]
  ·have hend2 : Ev (fun k => Qw.pritchellaw09_MarkSizes.j1 k (n : Int) (a : Int) L e (!true)) true := hend; refine Ev.step (f := fun k => (Qa.pritchelref09_Size.f k (n : Int) (a : Int)).bind fun bt108 => ((Qa.pritchelref01_Int.f k 1).bind fun bt112 => ((Qv.pritchelref01_Is.f k (txt (cnt n a)) bt108.1 bt108.2 bt112.1 bt112.2).bind fun t116 => (if t116 = true then ((Pb.pritchellaw09_lives.f k).bind fun t117 => (Qw.pritchellaw09_MarkSizes.j1 k (n : Int) (a : Int) L e (!t117))) else (Qw.pritchellaw09_MarkSizes.j1 k (n : Int) (a : Int) L e true))))) (fun k => ?_) (Ev.bind (rsize_ev n a hn2 ha) (Ev.bind (int_ev 1 (by omega)) (Ev.bind (is_ev (rowN_lt hn2 a)) (Ev.bind lives_Ev hend2)))); rw [Qw.pritchellaw09_MarkSizes.j0, if_neg (by decide)]; rfl
end Go.Proofs.YtopmcoohdhlnaaaGreatDoor.Pure
