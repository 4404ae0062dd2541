/- Plain laws: Common and Distance of two words, evaluated; what is wrong with two words. -/
import Derived.Test.YthbhgnnfpfblhaaDoorM7
import Derived.Test.YthbhgnnfpfblhaaDoorPb12
namespace Go.Proofs.YthbhgnnfpfblhaaDoor.G
end Go.Proofs.YthbhgnnfpfblhaaDoor.G
namespace Go.Proofs.YthbhgnnfpfblhaaDoor.M
open Go Go.RowKit Go.Lib Go.Proofs Go.Proofs.YthbhgnnfpfblhaaDoorW.PrintWords Go.Proofs.YthbhgnnfpfblhaaDoorW.PrintLast Go.Proofs.YthbhgnnfpfblhaaDoorW.PrintMore
open G
set_option linter.unusedVariables false
set_option linter.unusedSimpArgs false
def wrong2 (m : Nat) (s t : ByteArray) : Int := if wrong m s = 0 then wrong m t else if wrong m t = 3 then wrong m t else wrong m s
theorem check_two (m : Nat) (hm : m ≤ 1000) (s t : ByteArray) : mark_check.f (m : Int) ⟨#[48, 49]⟩ [s, t] = some (wrong2 m s t) := by
  unfold mark_check.f wrong2 wrong
  rw [if_pos ⟨by decide, by decide, by omega, by simp⟩]
  by_cases h1 : m < s.size <;> by_cases h2 : m < t.size <;> by_cases h3 : badWord ⟨#[48, 49]⟩ s = true <;> by_cases h4 : badWord ⟨#[48, 49]⟩ t = true <;> simp [h1, h2, h3, h4]
theorem wrong2_size {m : Nat} {s t : ByteArray} (h : wrong2 m s t = 0) : s.size ≤ m ∧ t.size ≤ m := by
  unfold wrong2 at h
  by_cases h1 : wrong m s = 0
  · rw [if_pos h1] at h
    exact ⟨wrong_size h1, wrong_size h⟩
  · rw [if_neg h1] at h
    by_cases h2 : wrong m t = 3
    · rw [if_pos h2] at h; omega
    · rw [if_neg h2] at h; exact absurd h h1
theorem Common_ev (s t : ByteArray) : ∃ c, ∀ k, c ≤ k → Pb.mark_Common.f k s t = some (if wrong2 20 s t = 0 then (dp s t 0 0, 0) else (⟨#[]⟩, wrong2 20 s t)) := by
  have hc : mark_check.f 20 ⟨#[48, 49]⟩ [s, t] = some (wrong2 20 s t) := check_two 20 (by omega) s t
  by_cases h : wrong2 20 s t = 0
  · have hz := wrong2_size h
    obtain ⟨c, hf⟩ := common_ev s t (by omega) (by omega)
    refine ⟨c, fun k hk => ?_⟩
    unfold Pb.mark_Common.f
    have e := hf (k - c)
    rw [show k - c + c = k from by omega] at e
    rw [hc, Option.bind_some, if_pos h, e, if_pos h]
    rfl
  · refine ⟨0, fun k hk => ?_⟩
    unfold Pb.mark_Common.f
    rw [hc, Option.bind_some, if_neg h, if_neg h]
theorem Distance_ev (s t : ByteArray) : ∃ c, ∀ k, c ≤ k → Pb.mark_Distance.f k s t = some (if wrong2 20 s t = 0 then (((s.size : Int) + (t.size : Int) - 2 * ((dp s t 0 0).size : Int)), 0) else (0, wrong2 20 s t)) := by
  obtain ⟨c, hc⟩ := Common_ev s t
  refine ⟨c, fun k hk => ?_⟩
  unfold Pb.mark_Distance.f
  rw [hc k hk, Option.bind_some]
  by_cases h : wrong2 20 s t = 0
  · have hz := wrong2_size h
    have hd := dp_size s t _ 0 0 rfl
    simp only [if_pos h]
    rw [if_pos trivial]
    obtain ⟨x, hx⟩ : ∃ x, (dp s t 0 0).size = x := ⟨_, rfl⟩
    rw [hx] at hd ⊢
    have e1 : wrap64 ((s.size : Int) + (t.size : Int)) = (s.size : Int) + (t.size : Int) := w64 (by omega) (by omega)
    have e2 : wrap64 (2 * (x : Int)) = 2 * (x : Int) := w64 (by omega) (by omega)
    have e3 : wrap64 ((s.size : Int) + (t.size : Int) - 2 * (x : Int)) = (s.size : Int) + (t.size : Int) - 2 * (x : Int) := w64 (by omega) (by omega)
    rw [e1, e2, e3]
  · simp only [if_neg h]
end Go.Proofs.YthbhgnnfpfblhaaDoor.M
