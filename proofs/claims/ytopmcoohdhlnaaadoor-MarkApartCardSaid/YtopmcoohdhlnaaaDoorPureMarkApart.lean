/- No two words of a code have a shorter word in common, or a longer one; different words of a code have a distance of 4 at least: for all numbers. -/
import Derived.Test.YtopmcoohdhlnaaaDoorM13
import Derived.Test.YtopmcoohdhlnaaaDoorM8
import Derived.Test.YtopmcoohdhlnaaaDoorPd1
namespace Go.Proofs.YtopmcoohdhlnaaaDoor.Pure
open Go Go.RowKit Go.Lib Go.Proofs Go.Proofs.YtopmcoohdhlnaaaDoorW.PrintWords Go.Proofs.YtopmcoohdhlnaaaDoorW.PrintLast Go.Proofs.YtopmcoohdhlnaaaDoorW.PrintMore
open G M Pb Pd
set_option linter.unusedVariables false
set_option linter.unusedSimpArgs false
theorem u16_range {x : Int} (h : (Lit.int .u16 x).wf = true) : 0 ≤ x ∧ x ≤ 65535 := by
  have m1 : IntKind.u16.min = 0 := by decide
  have m2 : IntKind.u16.max = 65535 := by decide
  simp [Lit.wf] at h
  omega
theorem apart_j0 (n a x y : Nat) (h1 : 1 ≤ n) (h2 : n ≤ 12) (ha : a ≤ n) (hx : x ≤ 65535) (hy : y ≤ 65535) : ∃ c, ∀ k, c ≤ k → pritchellaw09_MarkApart.j0 k (x : Int) (y : Int) (wordsN n a) false = some true := by
  obtain ⟨e, he⟩ := code_has n a ha
  have hlen := wordsN_len n a h2
  obtain ⟨L, hL⟩ : ∃ L, wordsN n a = L := ⟨_, rfl⟩
  have hpos : 0 < L.length := by rw [← hL]; exact List.length_pos_of_mem he
  rw [hL] at hlen ⊢
  have wx : wrap64 (x : Int) = (x : Int) := w64n x (by omega)
  have wy : wrap64 (y : Int) = (y : Int) := w64n y (by omega)
  have hx2 : x % L.length < L.length := Nat.mod_lt _ hpos
  have hy2 : y % L.length < L.length := Nat.mod_lt _ hpos
  obtain ⟨s, hs⟩ : ∃ s, L[x % L.length]'hx2 = s := ⟨_, rfl⟩
  obtain ⟨t, ht⟩ : ∃ t, L[y % L.length]'hy2 = t := ⟨_, rfl⟩
  have rs : rdOf ByteArray.empty L ((x % L.length : Nat) : Int) = s := by rw [rd_nat L _ hx2, hs]
  have rt : rdOf ByteArray.empty L ((y % L.length : Nat) : Int) = t := by rw [rd_nat L _ hy2, ht]
  have ms : s ∈ wordsN n a := by rw [hL, ← hs]; exact List.getElem_mem hx2
  have mt : t ∈ wordsN n a := by rw [hL, ← ht]; exact List.getElem_mem hy2
  obtain ⟨s1, s2, s3⟩ := (mem_wordsN n a s).1 ms
  obtain ⟨t1, t2, t3⟩ := (mem_wordsN n a t).1 mt
  have ws : wrong 20 s = 0 := wrong_bin (by omega) s2
  have wt : wrong 20 t = 0 := wrong_bin (by omega) t2
  by_cases hst : s = t
  · refine ⟨1, fun k hk => ?_⟩
    obtain ⟨k, rfl⟩ : ∃ m, k = m + 1 := ⟨k - 1, by omega⟩
    rw [pritchellaw09_MarkApart.j0, if_neg (by decide), if_neg (by omega), wx, wy, tmod_nat, tmod_nat, rs, rt, if_pos (by omega), if_pos (by omega), if_pos (by omega), if_pos (by omega), if_pos (by rw [hst])]
  · have hdist := apart_dist n a s t ms mt hst
    obtain ⟨c1, hd⟩ := Distance_ev s t
    have w2 : wrong2 20 s t = 0 := by unfold wrong2; rw [if_pos ws]; exact wt
    have lp : (G.putAll (delAll s s.size)).length ≤ 1000000 := len_dels s (by omega)
    have lq : (G.putAll (delAll t t.size)).length ≤ 1000000 := len_dels t (by omega)
    have lu : (G.putAll (putsAll s 2 (s.size + 1))).length ≤ 1000000 := len_puts s 2 (by omega) (by omega)
    have lv : (G.putAll (putsAll t 2 (t.size + 1))).length ≤ 1000000 := len_puts t 2 (by omega) (by omega)
    obtain ⟨c2, m1⟩ := meet_ev _ _ lp lq (fun u hu v hv e => by
      rw [mem_putAll, mem_delAll] at hu hv
      obtain ⟨i, hi, rfl⟩ := hu
      obtain ⟨j, hj, rfl⟩ := hv
      exact hst (apart_del n a s t ms mt i j hi hj e))
    obtain ⟨c3, m2⟩ := meet_ev _ _ lu lv (fun u hu v hv e => by
      rw [mem_putAll, mem_putsAll] at hu hv
      obtain ⟨i, c, hi, hc, rfl⟩ := hu
      obtain ⟨j, d, hj, hd, rfl⟩ := hv
      exact hst (apart_put n a s t ms mt i j c d (by omega) (by omega) hc hd e))
    refine ⟨c1 + c2 + c3 + 1010, fun k hk => ?_⟩
    obtain ⟨k, rfl⟩ : ∃ m, k = m + 1 := ⟨k - 1, by omega⟩
    have hne : ¬ s.toList = t.toList := by
      intro e
      rw [toList_data, toList_data] at e
      exact hst (lst_inj e)
    have e1 := hd k (by omega)
    rw [if_pos w2] at e1
    have e2 := m1 k (by omega)
    have e3 := m2 k (by omega)
    rw [pritchellaw09_MarkApart.j0, if_neg (by decide), if_neg (by omega), wx, wy, tmod_nat, tmod_nat, rs, rt, if_pos (by omega), if_pos (by omega), if_pos (by omega), if_pos (by omega), if_neg hne]
    rw [Shorter_good s ws (by omega) k (by omega), Option.bind_some, Shorter_good t wt (by omega) k (by omega), Option.bind_some, Longer_good s ws, Option.bind_some, Longer_good t wt, Option.bind_some, e1, Option.bind_some]
    dsimp only
    rw [if_pos rfl, if_pos rfl, if_pos rfl, if_pos rfl, if_pos rfl, if_pos (by omega), e2, Option.bind_some, if_neg (by decide), e3, Option.bind_some]
    rfl
theorem apart_n (p : Nat) (hp : p ≤ 255) : wrap64 (Int.tmod (wrap64 (p : Int)) 12 + 1) = ((p % 12 + 1 : Nat) : Int) := by
  have w1 : wrap64 (p : Int) = (p : Int) := w64n p (by omega)
  have e1 : Int.tmod (p : Int) ((12 : Nat) : Int) = ((p % 12 : Nat) : Int) := tmod_nat p 12
  have b : p % 12 + 1 ≤ 1000000000000 := by omega
  rw [w1, show (12 : Int) = ((12 : Nat) : Int) from rfl, e1]
  exact w64succ (p % 12) b
theorem apart_a (q n : Nat) (hq : q ≤ 255) (hn : n ≤ 12) : wrap64 ((n : Int) + 1) = ((n + 1 : Nat) : Int) ∧ Int.tmod (wrap64 (q : Int)) ((n + 1 : Nat) : Int) = ((q % (n + 1) : Nat) : Int) := by
  have w1 : wrap64 (q : Int) = (q : Int) := w64n q (by omega)
  have b : n + 1 ≤ 1000000000000 := by omega
  refine ⟨w64succ n b, ?_⟩
  rw [w1]
  exact tmod_nat q (n + 1)
theorem apart_f (p q x y : Nat) (hp : p ≤ 255) (hq : q ≤ 255) (hx : x ≤ 65535) (hy : y ≤ 65535) : ∃ k, pritchellaw09_MarkApart.f k (p : Int) (q : Int) (x : Int) (y : Int) = some true := by
  have en := apart_n p hp
  have hn1 : 1 ≤ p % 12 + 1 ∧ p % 12 + 1 ≤ 12 := by omega
  obtain ⟨n, hn⟩ : ∃ n, p % 12 + 1 = n := ⟨_, rfl⟩
  rw [hn] at en hn1
  clear hn
  obtain ⟨ea, eb⟩ := apart_a q n hq hn1.2
  have ha : q % (n + 1) ≤ n := Nat.le_of_lt_succ (Nat.mod_lt q (Nat.succ_pos n))
  obtain ⟨a, haq⟩ : ∃ a, q % (n + 1) = a := ⟨_, rfl⟩
  rw [haq] at eb ha
  clear haq
  obtain ⟨c, hc⟩ := apart_j0 n a x y hn1.1 hn1.2 ha hx hy
  obtain ⟨K, hK⟩ : ∃ K, c ≤ K ∧ 1000 ≤ K := ⟨c + 1000, by omega, by omega⟩
  obtain ⟨z, hz⟩ := code_has n a ha
  have hl : 0 < (wordsN n a).length := List.length_pos_of_mem hz
  have hj := hc K hK.1
  have e5 := Words_ev n a hn1.1 hn1.2 ha
  have e6 := lives_ev K hK.2
  have e7 : ¬ ((n + 1 : Nat) : Int) = 0 := by omega
  have e8 : ¬ (((wordsN n a).length : Nat) : Int) = 0 := by omega
  refine ⟨K, ?_⟩
  unfold pritchellaw09_MarkApart.f
  rw [en, ea, eb, if_neg e7, e5]
  simp only [Option.bind_some, if_true, if_neg e8, e6, Bool.not_true]
  exact hj
theorem MarkApart : pritchellaw09_MarkApart.Pure := by
  intro a0 a1 a2 a3 h0 h1 h2 h3
  have r0 := u8_range h0
  have r1 := u8_range h1
  have r2 := u16_range h2
  have r3 := u16_range h3
  clear h0 h1 h2 h3
  obtain ⟨p, rfl⟩ := Int.eq_ofNat_of_zero_le r0.1
  obtain ⟨q, rfl⟩ := Int.eq_ofNat_of_zero_le r1.1
  obtain ⟨x, rfl⟩ := Int.eq_ofNat_of_zero_le r2.1
  obtain ⟨y, rfl⟩ := Int.eq_ofNat_of_zero_le r3.1
  exact apart_f p q x y (by omega) (by omega) (by omega) (by omega)
end Go.Proofs.YtopmcoohdhlnaaaDoor.Pure
