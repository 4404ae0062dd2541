/- The sizes of the codes of n sum to 2^n; that of 0 is the greatest one, that of 1 the least one: for all n from 1 to 60. -/
import Derived.Test.YtopmcoohdhlnaaaGreatDoorXB1
import Derived.Test.YtopmcoohdhlnaaaGreatDoorXQ2
import Derived.Test.YtopmcoohdhlnaaaGreatDoorXN0
namespace Go.Proofs.YtopmcoohdhlnaaaGreatDoor.G
end Go.Proofs.YtopmcoohdhlnaaaGreatDoor.G
namespace Go.Proofs.YtopmcoohdhlnaaaGreatDoor.M
end Go.Proofs.YtopmcoohdhlnaaaGreatDoor.M
namespace Go.Proofs.YtopmcoohdhlnaaaGreatDoor.Pure
open Go Go.RowKit Go.Proofs.YtopmcoohdhlnaaaGreatDoorW.PrintWords Go.Proofs.YtopmcoohdhlnaaaGreatDoorW.PrintLast Go.Proofs.YtopmcoohdhlnaaaGreatDoorW.PrintMore
open G M N
set_option linter.unusedVariables false
set_option linter.unusedSimpArgs false
theorem len_le {x : Nat} (h : x < 10 ^ 80) : (d4 x).length ≤ 10000 := Nat.le_trans (d480 h) (by decide)
theorem mul1_ev {x : Nat} (h : x < 10 ^ 80) : Ev (fun k => Qa.pritchelref01_Mul.f k false (d4 x) false (d4 1)) (false, d4 x) := by
 have := mul_ev (x := x) (c := 1) (len_le h) (by decide); rw [Nat.mul_one] at this; exact this
theorem whole_ev (n : Nat) (hn : n < 100) : Ev (fun k => Qa.pritchelref01_Whole.f k (n : Int)) (false, d4 n, false, d4 1) := by
 unfold Qa.pritchelref01_Whole.f; exact Ev.bind (int_ev n (by omega)) (Ev.bind (int_ev 1 (by decide)) (Ev.just fun k => rfl))
theorem one80 : 1 < 10 ^ 80 := by decide
theorem addq_ev {x y : Nat} (hx : x < 10 ^ 80) (hy : y < 10 ^ 80) : Ev (fun k => Qa.pritchelref01_AddQ.f k false (d4 x) false (d4 1) false (d4 y) false (d4 1)) (false, d4 (x + y), false, d4 1) := by
 unfold Qa.pritchelref01_AddQ.f; exact Ev.bind (mul1_ev hx) (Ev.bind (mul1_ev hy) (Ev.bind (add_ev (len_le hx) (len_le hy)) (Ev.bind (mul1_ev one80) (Ev.just fun k => rfl))))
theorem mulq_ev {x : Nat} (hx : x < 10 ^ 80) : Ev (fun k => Qa.pritchelref01_MulQ.f k false (d4 x) false (d4 1) false (d4 2) false (d4 1)) (false, d4 (x * 2), false, d4 1) := by
 unfold Qa.pritchelref01_MulQ.f; exact Ev.bind (mul_ev (len_le hx) (by decide)) (Ev.bind (mul1_ev one80) (Ev.just fun k => rfl))
theorem cmpq_ev {x y : Nat} (hx : x < 10 ^ 80) (hy : y < 10 ^ 80) : Ev (fun k => Qa.pritchelref01_CmpQ.f k false (d4 x) false (d4 1) false (d4 y) false (d4 1)) (cm x y) := by
 unfold Qa.pritchelref01_CmpQ.f; exact Ev.bind (mul1_ev hx) (Ev.bind (mul1_ev hy) (Ev.bind (cmp_ev (len_le hx) (len_le hy)) (Ev.just fun k => rfl)))
/-- The sizes so far. -/
def ts (l : List Nat) : List Qx.S37 := l.map fun v => ⟨⟨false, d4 v⟩, ⟨false, d4 1⟩⟩
theorem ts_len (l : List Nat) : (ts l).length = l.length := by simp [ts]
theorem ts_rd (l : List Nat) (v : Nat) (h : v < l.length) : Qx.rd_T37 (ts l) (v : Int) = ⟨⟨false, d4 (l.getD v 0)⟩, ⟨false, d4 1⟩⟩ := by
 unfold Qx.rd_T37 ts; rw [Int.toNat_natCast, List.getD_eq_getElem?_getD, List.getElem?_map, List.getD_eq_getElem?_getD, List.getElem?_eq_getElem h]; rfl
theorem p60 {n : Nat} (h : n ≤ 60) : 2 ^ n < 10 ^ 80 := Nat.lt_of_le_of_lt (Nat.pow_le_pow_right (by decide) h) (by decide)
theorem cnt80 {n : Nat} (h : n ≤ 60) (a : Nat) : cnt n a < 10 ^ 80 := rowN_lt (Nat.le_trans h (by decide)) a
theorem sum_take_le : ∀ (l : List Nat) (i : Nat), (l.take i).sum ≤ l.sum
 | [], i => by simp
 | x :: r, 0 => by simp
 | x :: r, i + 1 => by
  have := sum_take_le r i; rw [List.take_succ_cons, List.sum_cons, List.sum_cons]; omega
theorem all_l2 (n : Nat) (h1 : 1 ≤ n) (hn : n ≤ 60) : ∀ (d a : Nat), a + d = n + 1 →
  Ev (fun k => Qx.pritchellaw09_MarkAll.l2 k (n : Int) (ts (rowN n n)) (a : Int) false (d4 (2 ^ n)) false (d4 1) false (d4 (cnt n 0)) false (d4 1) false (d4 (cnt n 1)) false (d4 1) false (d4 (2 ^ n)) false (d4 1)) true := by
 have hl := rowN_len n n; intro d
 induction d with
 | zero =>
  intro a ha; have hc := cmpq_ev (p60 hn) (p60 hn); (have e : cm ((2 ^ n : Nat) : Int) ((2 ^ n : Nat) : Int) = 0 := by unfold cm; rw [if_neg (Int.lt_irrefl _), if_neg (Int.lt_irrefl _)]); rw [e] at hc; have hv : Ev (fun k => Pb.pritchellaw09_lives.f k) true := ⟨1000, fun k hk => lives_ev k hk⟩; refine Ev.step (f := ?_) (fun k => ?_) ?_; rotate_left
  ·rw [Qx.pritchellaw09_MarkAll.l2, if_neg (by omega)]
  ·exact Ev.bind hc (Ev.congr (fun k => if_pos rfl) (Ev.bind hv (Ev.just fun k => rfl)))
 | succ d ih =>
  intro a ha; have h := ih (a + 1) (by omega); obtain ⟨g0, g1⟩ := (sizes_all n h1 hn).1 a (by omega); have c1 := cmpq_ev (cnt80 hn a) (cnt80 hn 0); have c2 := cmpq_ev (cnt80 hn a) (cnt80 hn 1)
  have q1 : ¬ cm (cnt n a) (cnt n 0) > 0 := by
   unfold cm; rw [if_neg (show ¬ ((cnt n 0 : Nat) : Int) < (cnt n a : Nat) from Int.not_lt.2 (Int.ofNat_le.2 g0))]; split <;> decide
  have q2 : ¬ cm (cnt n a) (cnt n 1) < 0 := by
   unfold cm; rw [if_neg (show ¬ ((cnt n a : Nat) : Int) < (cnt n 1 : Nat) from Int.not_lt.2 (Int.ofNat_le.2 g1))]; split <;> decide
  (have p1 : (a : Int) ≤ (n : Int) := by omega); (have p2 : 0 ≤ (a : Int) := by omega); (have p3 : (a : Int) < ((ts (rowN n n)).length : Int) := by rw [ts_len]; omega); (have p4 : wrap64 ((a : Int) + 1) = ((a + 1 : Nat) : Int) := by rw [w6 (by omega) (by omega)]; omega); have rd := ts_rd (rowN n n) a (by omega); refine Ev.step (f := ?_) (fun k => ?_) ?_; rotate_left
  ·rw [Qx.pritchellaw09_MarkAll.l2, if_pos p1, if_pos p2, if_pos p3, rd, p4]
  ·exact Ev.bind c1 (Ev.congr (fun k => if_neg q1) (Ev.bind c2 (Ev.congr (fun k => if_neg q2) h)))
theorem all_l1 (n : Nat) (h1 : 1 ≤ n) (hn : n ≤ 60) : ∀ (d i : Nat), i + d = n →
  Ev (fun k => Qx.pritchellaw09_MarkAll.l1 k (n : Int) (ts (rowN n n)) (i : Int) false (d4 (2 ^ n)) false (d4 1) false (d4 (cnt n 0)) false (d4 1) false (d4 (cnt n 1)) false (d4 1) false (d4 (2 ^ i)) false (d4 1)) true := by
 intro d
 induction d with
 | zero =>
  intro i hi; (obtain rfl : i = n := by omega); refine Ev.step (f := ?_) (fun k => ?_) ?_; rotate_left
  ·rw [Qx.pritchellaw09_MarkAll.l1, if_neg (Int.lt_irrefl _)]
  ·exact all_l2 i h1 hn (i + 1) 0 (by omega)
 | succ d ih =>
  intro i hi; have h := ih (i + 1) (by omega); rw [Nat.pow_succ] at h; (have p1 : (i : Int) < (n : Int) := by omega); (have p4 : wrap64 ((i : Int) + 1) = ((i + 1 : Nat) : Int) := by rw [w6 (by omega) (by omega)]; omega); refine Ev.step (f := ?_) (fun k => ?_) ?_; rotate_left
  ·rw [Qx.pritchellaw09_MarkAll.l1, if_pos p1, p4]
  ·exact Ev.bind (whole_ev 2 (by decide)) (Ev.bind (mulq_ev (p60 (show i ≤ 60 by omega))) h)
theorem all_l0 (n : Nat) (h1 : 1 ≤ n) (hn : n ≤ 60) : ∀ (d a : Nat), a + d = n + 1 →
  Ev (fun k => Qx.pritchellaw09_MarkAll.l0 k (n : Int) (ts ((rowN n n).take a)) (a : Int) false (d4 ((rowN n n).take a).sum) false (d4 1)) true := by
 have hl := rowN_len n n; have hs := (sizes_all n h1 hn).2; intro d
 induction d with
 | zero =>
  intro a ha; rw [List.take_of_length_le (by omega), hs]; have r0 := ts_rd (rowN n n) 0 (by omega); have r1 := ts_rd (rowN n n) 1 (by omega); (have p1 : ¬ (a : Int) ≤ (n : Int) := by omega); (have p2 : (0 : Int) < ((ts (rowN n n)).length : Int) := by rw [ts_len]; omega); (have p3 : (1 : Int) < ((ts (rowN n n)).length : Int) := by rw [ts_len]; omega); have h := all_l1 n h1 hn n 0 (by omega); refine Ev.step (f := ?_) (fun k => ?_) ?_; rotate_left
  ·rw [Qx.pritchellaw09_MarkAll.l0, if_neg p1, if_pos p2, if_pos p3, show Qx.rd_T37 (ts (rowN n n)) 0 = _ from r0, show Qx.rd_T37 (ts (rowN n n)) 1 = _ from r1]
  ·exact Ev.bind (whole_ev 1 (by decide)) h
 | succ d ih =>
  intro a ha; have h := ih (a + 1) (by omega); (have p1 : (a : Int) ≤ (n : Int) := by omega); have hlt : a < (rowN n n).length := by omega
  have eg : (rowN n n)[a] = cnt n a := by
   unfold cnt; rw [List.getD_eq_getElem?_getD, List.getElem?_eq_getElem hlt]; rfl
  (have p3 : (ts ((rowN n n).take a)).length < 2199023255552 := by rw [ts_len, List.length_take]; omega); have p4 : wrap64 ((a : Int) + 1) = ((a + 1 : Nat) : Int) := by rw [w6 (by omega) (by omega)]; omega
  have et : ts ((rowN n n).take (a + 1)) = ts ((rowN n n).take a) ++ [⟨⟨false, d4 (cnt n a)⟩, ⟨false, d4 1⟩⟩] := by
   rw [List.take_succ_eq_append_getElem hlt, eg]; simp [ts]
  have es : ((rowN n n).take (a + 1)).sum = ((rowN n n).take a).sum + cnt n a := by
   rw [List.take_succ_eq_append_getElem hlt, eg]; simp
  have b : ((rowN n n).take a).sum < 10 ^ 80 := Nat.lt_of_le_of_lt (sum_take_le _ _) (hs ▸ p60 hn); rw [et, es] at h
  have hj : Ev (fun k => Qx.pritchellaw09_MarkAll.j1 k (n : Int) (ts ((rowN n n).take a)) (a : Int) (txt (cnt n a)) false false (d4 ((rowN n n).take a).sum) false (d4 1)) true := by
   refine Ev.step (f := ?_) (fun k => ?_) ?_; rotate_left
   ·rw [Qx.pritchellaw09_MarkAll.j1, if_neg (by decide), p4]
   ·exact Ev.bind (ofn_ev (cnt80 hn a)) (Ev.congr (fun k => if_pos p3) (Ev.bind (ofn_ev (cnt80 hn a)) (Ev.bind (addq_ev b (cnt80 hn a)) h)))
  refine Ev.step (f := ?_) (fun k => ?_) ?_; rotate_left
  ·rw [Qx.pritchellaw09_MarkAll.l0, if_pos p1]
  ·exact Ev.bind (size_ev n a h1 (Nat.le_trans hn (by decide)) (by omega)) (Ev.congr (fun k => if_pos rfl) (Ev.bind (integer_ev (cnt80 hn a)) hj))
theorem MarkAll : Qx.pritchellaw09_MarkAll.Pure := by
 intro x hx; apply Ev.rounds
 have hb : 0 ≤ x ∧ x ≤ 255 := by
  simp only [Lit.wf, IntKind.min, IntKind.max, IntKind.bits, IntKind.signed] at hx; simp at hx; omega
 obtain ⟨n, hn⟩ : ∃ n : Nat, n = x.toNat % 60 + 1 := ⟨_, rfl⟩
 have e : wrap64 (Int.tmod (wrap64 x) 60 + 1) = (n : Int) := by
  rw [w6 (x := x) (by omega) (by omega), Int.tmod_eq_emod_of_nonneg (by omega), w6 (by omega) (by omega)]; omega
 have h := all_l0 n (by omega) (by omega) (n + 1) 0 (by omega); rw [List.take_zero] at h; unfold Qx.pritchellaw09_MarkAll.f; rw [e]; exact Ev.bind (whole_ev 0 (by decide)) h
end Go.Proofs.YtopmcoohdhlnaaaGreatDoor.Pure
