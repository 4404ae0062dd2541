/- Texts of this claim, merged: N1, N2, N3, N4, N5, N6, N7, N10, N9. -/
import Derived.Laws.CopyOwn
import Derived.Laws.Strings
import Derived.Test.YtopmcoohdhlnaaaGreatDoorXA0
import Derived.Test.YtopmcoohdhlnaaaGreatDoorXQ0
import Derived.Test.YtopmcoohdhlnaaaGreatDoorXQ1
import Derived.Test.YtopmcoohdhlnaaaGreatDoorXQ2
set_option linter.unusedVariables false
set_option linter.unusedSimpArgs false
namespace Go.Proofs.YtopmcoohdhlnaaaGreatDoor.N
open Go.Proofs.YtopmcoohdhlnaaaGreatDoorW.PrintWords
set_option linter.unusedVariables false
set_option linter.unusedSimpArgs false
def vl (B : Nat) : List Int → Int
 | [] => 0
 | d :: r => d + B * vl B r
def Dg (B : Nat) (l : List Int) : Prop := ∀ d ∈ l, 0 ≤ d ∧ d < (B : Int)
def dg (B n : Nat) : List Int := if h : n = 0 ∨ B < 2 then [] else ((n % B : Nat) : Int) :: dg B (n / B)
termination_by n
decreasing_by exact Nat.div_lt_self (by omega) (by omega)
theorem dg_zero (B : Nat) : dg B 0 = [] := by rw [dg]; simp
theorem dg_pos {B n : Nat} (hB : 2 ≤ B) (hn : 0 < n) : dg B n = ((n % B : Nat) : Int) :: dg B (n / B) := by
 rw [dg, dif_neg (by omega)]
theorem dg_ne {B n : Nat} (hB : 2 ≤ B) (hn : 0 < n) : dg B n ≠ [] := by rw [dg_pos hB hn]; simp
theorem dg_small {B n : Nat} (hB : 2 ≤ B) (h0 : 0 < n) (hn : n < B) : dg B n = [(n : Int)] := by
 rw [dg_pos hB h0, Nat.mod_eq_of_lt hn, Nat.div_eq_of_lt hn, dg_zero]
theorem vl_dg {B : Nat} (hB : 2 ≤ B) (n : Nat) : vl B (dg B n) = (n : Int) := by
 induction n using Nat.strongRecOn with
 | ind n ih =>
  rcases Nat.eq_zero_or_pos n with h | h
  ·subst h; rw [dg_zero]; rfl
  ·rw [dg_pos hB h, vl, ih _ (Nat.div_lt_self h (by omega))]; have := Nat.mod_add_div n B; rw [← Int.natCast_mul, ← Int.natCast_add, this]
theorem Dg_nil (B : Nat) : Dg B [] := by intro d h; simp at h
theorem Dg_cons {B : Nat} {d : Int} {r : List Int} (h0 : 0 ≤ d) (h1 : d < B) (h : Dg B r) : Dg B (d :: r) := by
 intro x hx; rcases List.mem_cons.1 hx with e | e
 ·subst e; exact ⟨h0, h1⟩
 ·exact h x e
theorem Dg_append {B : Nat} {l m : List Int} (h : Dg B l) (h' : Dg B m) : Dg B (l ++ m) := by
 intro x hx; rcases List.mem_append.1 hx with e | e
 ·exact h x e
 ·exact h' x e
theorem Dg_snoc {B : Nat} {l : List Int} {d : Int} (h : Dg B l) (h0 : 0 ≤ d) (h1 : d < B) : Dg B (l ++ [d]) := Dg_append h (Dg_cons h0 h1 (Dg_nil B))
theorem Dg_take {B : Nat} {l : List Int} (h : Dg B l) (n : Nat) : Dg B (l.take n) := fun x hx => h x (List.mem_of_mem_take hx)
theorem Dg_drop {B : Nat} {l : List Int} (h : Dg B l) (n : Nat) : Dg B (l.drop n) := fun x hx => h x (List.mem_of_mem_drop hx)
theorem Dg_zeros {B : Nat} (hB : 2 ≤ B) (n : Nat) : Dg B (List.replicate n 0) := by
 intro x hx; have := (List.mem_replicate.1 hx).2; subst this; exact ⟨Int.le_refl _, by omega⟩
theorem Dg_set {B : Nat} {l : List Int} (h : Dg B l) (i : Nat) {d : Int} (h0 : 0 ≤ d) (h1 : d < B) : Dg B (l.set i d) := by
 intro x hx; rcases List.mem_or_eq_of_mem_set hx with e | e
 ·exact h x e
 ·subst e; exact ⟨h0, h1⟩
theorem Dg_dg {B : Nat} (hB : 2 ≤ B) (n : Nat) : Dg B (dg B n) := by
 induction n using Nat.strongRecOn with
 | ind n ih =>
  rcases Nat.eq_zero_or_pos n with h | h
  ·subst h; rw [dg_zero]; exact Dg_nil B
  ·rw [dg_pos hB h]; exact Dg_cons (by omega) (by have := Nat.mod_lt n (show B > 0 by omega); omega) (ih _ (Nat.div_lt_self h (by omega)))
theorem rd_range {B : Nat} (hB : 2 ≤ B) {l : List Int} (h : Dg B l) (i : Int) : 0 ≤ rd l i ∧ rd l i < B := by
 unfold rd; rw [List.getD_eq_getElem?_getD]; rcases Nat.lt_or_ge i.toNat l.length with hl | hl
 ·rw [List.getElem?_eq_getElem hl]; exact h _ (List.getElem_mem hl)
 ·rw [List.getElem?_eq_none hl]; exact ⟨Int.le_refl _, by simp; omega⟩
theorem rd_ge {l : List Int} {i : Nat} (h : l.length ≤ i) : rd l (i : Int) = 0 := by
 unfold rd; rw [Int.toNat_natCast, List.getD_eq_getElem?_getD, List.getElem?_eq_none h]; rfl
theorem vl_append (B : Nat) (l m : List Int) : vl B (l ++ m) = vl B l + (B : Int) ^ l.length * vl B m := by
 induction l with
 | nil => simp [vl]
 | cons d r ih =>
  simp only [List.cons_append, vl, ih, List.length_cons, Int.pow_succ]
  grind
theorem vl_snoc (B : Nat) (l : List Int) (d : Int) : vl B (l ++ [d]) = vl B l + (B : Int) ^ l.length * d := by
 rw [vl_append]; simp [vl]
theorem vl_zeros (B n : Nat) : vl B (List.replicate n 0) = 0 := by
 induction n with
 | zero => rfl
 | succ n ih => rw [List.replicate_succ, vl, ih]; simp
theorem vl_take_succ (B : Nat) (l : List Int) (i : Nat) : vl B (l.take (i + 1)) = vl B (l.take i) + (B : Int) ^ i * rd l (i : Int) := by
 rcases Nat.lt_or_ge i l.length with h | h
 ·rw [List.take_succ_eq_append_getElem h, vl_snoc, List.length_take, Nat.min_eq_left (by omega)]; unfold rd; rw [Int.toNat_natCast, List.getD_eq_getElem?_getD, List.getElem?_eq_getElem h]; rfl
 ·rw [List.take_of_length_le h, List.take_of_length_le (by omega), rd_ge h]; simp
theorem vl_nonneg {B : Nat} {l : List Int} (h : Dg B l) : 0 ≤ vl B l := by
 induction l with
 | nil => simp [vl]
 | cons d r ih =>
  have i1 := ih (fun x hx => h x (List.mem_cons_of_mem _ hx)); have i2 := h d (by simp); rw [vl]
  have : 0 ≤ (B : Int) * vl B r := Int.mul_nonneg (by omega) i1
  omega
theorem pow_pos' {B : Nat} (hB : 2 ≤ B) (n : Nat) : 0 < (B : Int) ^ n := Int.pow_pos (by omega)
theorem vl_lt {B : Nat} (hB : 2 ≤ B) {l : List Int} (h : Dg B l) : vl B l < (B : Int) ^ l.length := by
 induction l with
 | nil => simp [vl]
 | cons d r ih =>
  have i1 := ih (fun x hx => h x (List.mem_cons_of_mem _ hx)); have i2 := h d (by simp); rw [vl, List.length_cons, Int.pow_succ, Int.mul_comm _ (B : Int)]
  have : (B : Int) * (vl B r + 1) ≤ B * (B : Int) ^ r.length := Int.mul_le_mul_of_nonneg_left i1 (by omega)
  rw [Int.mul_add] at this; omega
theorem dg_vl {B : Nat} (hB : 2 ≤ B) : ∀ {l : List Int}, Dg B l → (l = [] ∨ rd l ((l.length : Int) - 1) ≠ 0) → dg B (vl B l).toNat = l
 | [], _, _ => dg_zero B
 | [d], h, hl => by
  have hd := h d (by simp)
  have h0 : d ≠ 0 := by
   rcases hl with e | e
   ·cases e
   ·simpa [rd] using e
  have : vl B [d] = d := by simp [vl]
  rw [this, dg_small hB (by omega) (by omega)]; congr 1
  omega
 | d :: e :: r, h, hl => by
  have hd := h d (by simp); have hr : Dg B (e :: r) := fun x hx => h x (List.mem_cons_of_mem _ hx)
  have ih := dg_vl hB hr (.inr (by
   rcases hl with e' | e'
   ·cases e'
   ·intro h0; apply e'; unfold rd at h0 ⊢; (have a1 : (((d :: e :: r).length : Int) - 1).toNat = r.length + 1 := by simp only [List.length_cons]; omega); (have a2 : (((e :: r).length : Int) - 1).toNat = r.length := by simp only [List.length_cons]; omega); rw [a1]; rw [a2] at h0
    simpa using h0))
  have hn := vl_nonneg hr
  have hp : 0 < (vl B (e :: r)).toNat := by
   rcases Nat.eq_zero_or_pos (vl B (e :: r)).toNat with h0 | h0
   ·rw [h0, dg_zero] at ih; cases ih
   ·exact h0
  obtain ⟨v, hv⟩ : ∃ v : Nat, vl B (e :: r) = (v : Int) := ⟨(vl B (e :: r)).toNat, by omega⟩; obtain ⟨c, rfl⟩ : ∃ c : Nat, d = (c : Int) := ⟨d.toNat, by omega⟩
  have e1 : (vl B (↑c :: e :: r)).toNat = c + B * v := by
   rw [vl, hv, ← Int.natCast_mul, ← Int.natCast_add, Int.toNat_natCast]
  rw [hv, Int.toNat_natCast] at ih hp; rw [e1, dg_pos hB (by have : B * 1 ≤ B * v := Nat.mul_le_mul_left B hp; omega)]; (have m1 : (c + B * v) % B = c := by rw [Nat.add_mul_mod_self_left, Nat.mod_eq_of_lt (by omega)]); (have m2 : (c + B * v) / B = v := by rw [Nat.add_mul_div_left _ _ (by omega), Nat.div_eq_of_lt (by omega), Nat.zero_add]); rw [m1, m2, ih]
/-- The digits up to the last one that is not zero. -/
theorem dg_take {B : Nat} (hB : 2 ≤ B) {l : List Int} (h : Dg B l) {n : Nat} (hn : n < l.length) (h0 : rd l (n : Int) ≠ 0) : l.take (n + 1) = dg B (vl B (l.take (n + 1))).toNat := by
 refine (dg_vl hB (Dg_take h _) (.inr ?_)).symm; (have e : (((l.take (n + 1)).length : Int) - 1).toNat = n := by rw [List.length_take]; omega); unfold rd at h0 ⊢; rw [e]; rw [Int.toNat_natCast] at h0; simpa [List.getD_eq_getElem?_getD, List.getElem?_take] using h0
theorem dg_len_le {B : Nat} (hB : 2 ≤ B) : ∀ {m n : Nat}, n < B ^ m → (dg B n).length ≤ m
 | 0, n, h => by
  have : n = 0 := by simpa using h
  subst this
  rw [dg_zero]; simp
 | m + 1, n, h => by
  rcases Nat.eq_zero_or_pos n with h0 | h0
  ·subst h0; rw [dg_zero]; simp
  ·rw [dg_pos hB h0, List.length_cons]; have := dg_len_le (m := m) (n := n / B) hB (Nat.div_lt_of_lt_mul (by rw [Nat.pow_succ, Nat.mul_comm] at h; exact h)); omega
theorem dg_len_lt {B : Nat} (hB : 2 ≤ B) {a b : Nat} (h : (dg B a).length < (dg B b).length) : a < b := by
 (have h1 : (a : Int) < (B : Int) ^ (dg B a).length := by have := vl_lt hB (Dg_dg hB a); rwa [vl_dg hB] at this); rcases Nat.lt_or_ge b (B ^ (dg B a).length) with h2 | h2
 ·have := dg_len_le hB h2; omega
 ·rw [← Int.natCast_pow] at h1; omega
theorem vl_take_all (B : Nat) {l : List Int} {n : Nat} (h : l.length ≤ n) : vl B (l.take n) = vl B l := by rw [List.take_of_length_le h]
theorem vl_split (B : Nat) (l : List Int) (n : Nat) (h : n ≤ l.length) : vl B l = vl B (l.take n) + (B : Int) ^ n * vl B (l.drop n) := by
 conv => lhs; rw [← List.take_append_drop n l]
 rw [vl_append, List.length_take, Nat.min_eq_left h]
end Go.Proofs.YtopmcoohdhlnaaaGreatDoor.N
namespace Go.Proofs.YtopmcoohdhlnaaaGreatDoor.N
open Go Go.RowKit Go.Proofs.YtopmcoohdhlnaaaGreatDoorW.PrintWords Go.Proofs.YtopmcoohdhlnaaaGreatDoorW.PrintLast Go.Proofs.YtopmcoohdhlnaaaGreatDoorW.PrintMore
set_option linter.unusedVariables false
set_option linter.unusedSimpArgs false
theorem w6 {x : Int} (h0 : -9223372036854775808 ≤ x) (h1 : x ≤ 9223372036854775807) : wrap64 x = x := by unfold wrap64; omega
/-- The number without a sign. -/
abbrev d4 (n : Nat) : List Int := dg 10000 n
theorem two4 : 2 ≤ 10000 := by decide
theorem now1 {α : Type} {g : Nat → Option α} {r : α} (h : ∀ k, g (k + 1) = some r) : Ev g r := Ev.step h (Ev.now r)
theorem Ev.just {α : Type} {g : Nat → Option α} {r : α} (h : ∀ k, g k = some r) : Ev g r := Ev.congr h (Ev.now r)
theorem lean_end (m : Bool) (l : List Int) (n : Nat) (hn : n ≤ l.length) (hl : l.length ≤ 100000) :
  ((some (([] : List Int) : List Int)).bind fun y180 => (if 0 ≤ (n : Int) then (if (n : Int) ≤ (l.length : Int) then (if y180.length + (l.take ((n : Int) : Int).toNat).length < 17592186044416 then ((some (y180 ++ (l.take ((n : Int) : Int).toNat) : List Int)).bind fun y184 => (if m = true then (some (decide ((n : Int) > 0), y184)) else (some (false, y184)))) else (none)) else (none)) else (none))) = some (m && decide (0 < n), l.take n) := by
 (have e : (l.take n).length < 17592186044416 := by rw [List.length_take]; omega); simp only [Option.bind_some, Int.toNat_natCast, List.nil_append, List.length_nil, Nat.zero_add]; rw [if_pos (by omega), if_pos (by omega), if_pos e]; cases m <;> simp
theorem lean_loop (m : Bool) (l : List Int) (hl : l.length ≤ 100000) (hd : Dg 10000 l) : ∀ n : Nat, n ≤ l.length → vl 10000 (l.take n) = vl 10000 l →
  Ev (fun k => Qa.pritchelref01_lean.l0 k (n : Int) m l) (m && decide (0 < (vl 10000 l).toNat), d4 (vl 10000 l).toNat)
 | 0, _, hv => by
  (have e : vl 10000 l = 0 := by rw [← hv]; simp [vl]); refine now1 fun k => ?_; simp only [Qa.pritchelref01_lean.l0]; rw [if_neg (by omega)]; have h := lean_end m l 0 (by omega) hl; refine Eq.trans h ?_; rw [e]
  simp [d4, dg_zero]
 | n + 1, hn, hv => by
  (have e1 : wrap64 (((n + 1 : Nat) : Int) - 1) = (n : Int) := by rw [w6 (by omega) (by omega)]; omega); by_cases h0 : rd l (n : Int) = 0
  ·refine Ev.step (f := fun k => Qa.pritchelref01_lean.l0 k (n : Int) m l) (fun k => ?_) (lean_loop m l hl hd n (by omega) (by rw [← hv, vl_take_succ, h0]; simp)); simp only [Qa.pritchelref01_lean.l0, e1]; rw [if_pos (by omega), if_pos (by omega), if_pos (by omega), if_pos h0]
  ·refine now1 fun k => ?_; show Qa.pritchelref01_lean.l0 (k + 1) ((n + 1 : Nat) : Int) m l = _; rw [Qa.pritchelref01_lean.l0, e1, if_pos (by omega), if_pos (by omega), if_pos (by omega), if_neg h0]; refine Eq.trans (lean_end m l (n + 1) hn hl) ?_; have e2 := dg_take two4 hd (show n < l.length by omega) h0; rw [hv] at e2
   have e3 : 0 < (vl 10000 l).toNat := by
    rcases Nat.eq_zero_or_pos (vl 10000 l).toNat with e | e
    ·rw [e, dg_zero] at e2; have := congrArg List.length e2; rw [List.length_take, List.length_nil] at this; omega
    ·exact e
   rw [e2]; simp [e3]
theorem lean_ev (m : Bool) (l : List Int) (hl : l.length ≤ 100000) (hd : Dg 10000 l) :
  Ev (fun k => Qa.pritchelref01_lean.f k m l) (m && decide (0 < (vl 10000 l).toNat), d4 (vl 10000 l).toNat) :=
 lean_loop m l hl hd l.length (Nat.le_refl _) (by rw [List.take_length])
theorem plus_step (a b out : List Int) (c : Int) (i : Nat) (ha : a.length ≤ 100000) (hb : b.length ≤ 100000) (da : Dg 10000 a) (db : Dg 10000 b) (ho : out.length = i) (hi : i ≤ 100001) (hc : 0 ≤ c) (hc1 : c ≤ 1) (hgo : i < a.length ∨ i < b.length ∨ 0 < c) (k : Nat) :
  Qa.pritchelref01_plus.l0 (k + 1 + 1) a b out c (i : Int) = Qa.pritchelref01_plus.l0 k a b (out ++ [(c + rd a i + rd b i) % 10000]) ((c + rd a i + rd b i) / 10000) ((i + 1 : Nat) : Int) := by
 have r1 := rd_range two4 da i; have r2 := rd_range two4 db i; (have ew : wrap64 ((i : Int) + 1) = ((i + 1 : Nat) : Int) := by rw [w6 (by omega) (by omega)]; omega); have ho' : out.length < 17592186044416 := by omega
 have hj : Qa.pritchelref01_plus.l0 (k + 1 + 1) a b out c (i : Int) = Qa.pritchelref01_plus.j1 (k + 1) a b out c (i : Int) true := by
  rw [Qa.pritchelref01_plus.l0]; by_cases h1 : (i : Int) < (a.length : Int)
  ·rw [if_pos h1]
  ·rw [if_neg h1]; by_cases h2 : (i : Int) < (b.length : Int)
   ·rw [if_pos h2]
   ·rw [if_neg h2]
    have : c > 0 := by omega
    simp [this]
 rw [hj, Qa.pritchelref01_plus.j1, if_pos rfl]; have t1 : ∀ s : Int, 0 ≤ s → Int.tmod s 10000 = s % 10000 := fun s hs => Int.tmod_eq_emod_of_nonneg hs; have t2 : ∀ s : Int, 0 ≤ s → Int.tdiv s 10000 = s / 10000 := fun s hs => Int.tdiv_eq_ediv_of_nonneg hs; by_cases h1 : (i : Int) < (a.length : Int)
 ·rw [if_pos h1, if_pos (by omega)]; by_cases h2 : (i : Int) < (b.length : Int)
  ·rw [if_pos h2, if_pos ho', w6 (x := c + rd a i) (by omega) (by omega), w6 (x := c + rd a i + rd b i) (by omega) (by omega), t1 _ (by omega), t2 _ (by omega), w6 (x := (c + rd a i + rd b i) / 10000) (by omega) (by omega), ew]
  ·rw [if_neg h2, if_pos ho', w6 (x := c + rd a i) (by omega) (by omega), t1 _ (by omega), t2 _ (by omega), w6 (x := (c + rd a i) / 10000) (by omega) (by omega), ew]; rw [rd_ge (l := b) (by omega), Int.add_zero]
 ·rw [if_neg h1]; rw [rd_ge (l := a) (by omega), Int.add_zero]; by_cases h2 : (i : Int) < (b.length : Int)
  ·rw [if_pos h2, if_pos (by omega), if_pos ho', w6 (x := c + rd b i) (by omega) (by omega), t1 _ (by omega), t2 _ (by omega), w6 (x := (c + rd b i) / 10000) (by omega) (by omega), ew]
  ·rw [if_neg h2, if_pos ho', t1 _ (by omega), t2 _ (by omega), w6 (x := c / 10000) (by omega) (by omega), ew]; rw [rd_ge (l := b) (by omega), Int.add_zero]
theorem plus_loop (a b : List Int) (ha : a.length ≤ 100000) (hb : b.length ≤ 100000) (da : Dg 10000 a) (db : Dg 10000 b) : ∀ (d i : Nat) (out : List Int) (c : Int), i + d = max a.length b.length + 1 → (d = 0 → c = 0) → out.length = i → Dg 10000 out → 0 ≤ c → c ≤ 1 →
  vl 10000 out + (10000 : Int) ^ i * c = vl 10000 (a.take i) + vl 10000 (b.take i) →
  ∃ R, Ev (fun k => Qa.pritchelref01_plus.l0 k a b out c (i : Int)) R ∧ Dg 10000 R ∧ vl 10000 R = vl 10000 a + vl 10000 b ∧ R.length ≤ max a.length b.length + 1 := by
 intro d
 induction d with
 | zero =>
  intro i out c hi hz ho hd hc hc1 hv; have := hz rfl; subst this; refine ⟨out, ?_, hd, ?_, by omega⟩
  ·refine ⟨2, fun n hn => ?_⟩; obtain ⟨m, rfl⟩ : ∃ m, n = m + 1 + 1 := ⟨n - 2, by omega⟩; show Qa.pritchelref01_plus.l0 (m + 1 + 1) a b out 0 (i : Int) = some out; rw [Qa.pritchelref01_plus.l0, if_neg (by omega), if_neg (by omega), Qa.pritchelref01_plus.j1, if_neg (by decide)]
  ·rw [vl_take_all _ (by omega), vl_take_all _ (by omega)] at hv
   omega
 | succ d ih =>
  intro i out c hi hz ho hd hc hc1 hv; by_cases hgo : i < a.length ∨ i < b.length ∨ 0 < c
  ·have r1 := rd_range two4 da i; have r2 := rd_range two4 db i; have hs := plus_step a b out c i ha hb da db ho (by omega) hc hc1 hgo
   obtain ⟨R, h1, h2, h3, h4⟩ := ih (i + 1) (out ++ [(c + rd a i + rd b i) % 10000]) ((c + rd a i + rd b i) / 10000) (by omega)
    (fun hd0 => by
     rw [rd_ge (l := a) (by omega), rd_ge (l := b) (by omega)]
     omega) (by simp [ho]) (Dg_snoc hd (by omega) (by omega)) (by omega) (by omega) (by
     rw [vl_snoc, ho, vl_take_succ, vl_take_succ, Int.pow_succ]; have hq := Int.emod_add_mul_ediv (c + rd a i + rd b i) 10000; have e1 : ((10000 : Nat) : Int) = 10000 := rfl; rw [e1]; generalize (c + rd a i + rd b i) % 10000 = q at *; generalize (c + rd a i + rd b i) / 10000 = r at *; generalize (10000 : Int) ^ i = p at *
     grind)
   refine ⟨R, ?_, h2, h3, h4⟩; obtain ⟨K, hK⟩ := h1; refine ⟨K + 2, fun n hn => ?_⟩; obtain ⟨m, rfl⟩ : ∃ m, n = m + 1 + 1 := ⟨n - 2, by omega⟩; show Qa.pritchelref01_plus.l0 (m + 1 + 1) a b out c (i : Int) = some R; rw [hs]; exact hK m (by omega)
  ·refine ⟨out, ?_, hd, ?_, by omega⟩
   ·refine ⟨2, fun n hn => ?_⟩; obtain ⟨m, rfl⟩ : ∃ m, n = m + 1 + 1 := ⟨n - 2, by omega⟩; show Qa.pritchelref01_plus.l0 (m + 1 + 1) a b out c (i : Int) = some out; rw [Qa.pritchelref01_plus.l0, if_neg (by omega), if_neg (by omega), Qa.pritchelref01_plus.j1, if_neg (by simp; omega)]
   ·(have hc0 : c = 0 := by omega); rw [vl_take_all _ (by omega), vl_take_all _ (by omega), hc0] at hv; omega
theorem plus_ev (a b : List Int) (ha : a.length ≤ 100000) (hb : b.length ≤ 100000) (da : Dg 10000 a) (db : Dg 10000 b) :
  ∃ R, Ev (fun k => Qa.pritchelref01_plus.f k a b) R ∧ Dg 10000 R ∧ vl 10000 R = vl 10000 a + vl 10000 b ∧ R.length ≤ max a.length b.length + 1 := by
 obtain ⟨R, h1, h2, h3, h4⟩ := plus_loop a b ha hb da db (max a.length b.length + 1) 0 [] 0 (by omega) (fun _ => rfl) rfl (Dg_nil _) (by omega) (by omega) (by simp [vl]); exact ⟨R, h1, h2, h3, h4⟩
theorem add_ev {x y : Nat} (hx : (d4 x).length ≤ 10000) (hy : (d4 y).length ≤ 10000) : Ev (fun k => Qa.pritchelref01_Add.f k false (d4 x) false (d4 y)) (false, d4 (x + y)) := by
 obtain ⟨R, h1, h2, h3, h4⟩ := plus_ev (d4 x) (d4 y) (by omega) (by omega) (Dg_dg two4 x) (Dg_dg two4 y); rw [vl_dg two4, vl_dg two4] at h3; have h5 := lean_ev false R (by omega) h2; rw [h3] at h5; (have e : ((x : Int) + (y : Int)).toNat = x + y := by omega); rw [e] at h5; unfold Qa.pritchelref01_Add.f; exact Ev.congr (fun k => if_pos (by decide)) (Ev.bind h1 (Ev.bind h5 (Ev.just fun k => by simp)))
def cm (x y : Int) : Int := if x < y then -1 else if y < x then 1 else 0
theorem vl4_lt {l : List Int} (h : Dg 10000 l) : vl 10000 l < (10000 : Int) ^ l.length := vl_lt two4 h
theorem take_lt {l : List Int} (h : Dg 10000 l) : ∀ n : Nat, vl 10000 (l.take n) < (10000 : Int) ^ n
 | 0 => by simp [vl]
 | n + 1 => by
  have ih := take_lt h n; have r := rd_range two4 h n; have e := vl_take_succ 10000 l n; have ee : ((10000 : Nat) : Int) = 10000 := rfl; rw [ee] at e; rw [e, Int.pow_succ]; have hp : 0 < (10000 : Int) ^ n := pow_pos' two4 n; generalize (10000 : Int) ^ n = p at *
  have : p * rd l (n : Int) ≤ p * 9999 := Int.mul_le_mul_of_nonneg_left (by omega) (by omega)
  omega
theorem dig_lt {p u v x y : Int} (hp : 0 < p) (hu : u < p) (hv : 0 ≤ v) (h : x < y) : u + p * x < v + p * y := by
 have : p * (x + 1) ≤ p * y := Int.mul_le_mul_of_nonneg_left h (by omega)
 rw [Int.mul_add] at this; omega
theorem sizes_loop (a b : List Int) (ha : a.length ≤ 100000) (hab : a.length = b.length) (da : Dg 10000 a) (db : Dg 10000 b) : ∀ n : Nat, n ≤ a.length →
  Ev (fun k => Qa.pritchelref01_sizes.l0 k a b ((n : Int) - 1)) (cm (vl 10000 (a.take n)) (vl 10000 (b.take n)))
 | 0, _ => by
  refine now1 fun k => ?_; show Qa.pritchelref01_sizes.l0 (k + 1) a b (((0 : Nat) : Int) - 1) = _; rw [Qa.pritchelref01_sizes.l0, if_neg (by omega)]
  simp [cm, vl]
 | n + 1, hn => by
  (have e1 : ((n + 1 : Nat) : Int) - 1 = (n : Int) := by omega); have e2 : wrap64 ((n : Int) - 1) = (n : Int) - 1 := w6 (by omega) (by omega); have h1 := take_lt da n; have h2 := take_lt db n; have p1 := vl_nonneg (Dg_take da n); have p2 := vl_nonneg (Dg_take db n); have hp : 0 < (10000 : Int) ^ n := pow_pos' two4 n; have v1 := vl_take_succ 10000 a n; have v2 := vl_take_succ 10000 b n; have ee : ((10000 : Nat) : Int) = 10000 := rfl; rw [ee] at v1 v2; rw [v1, v2, e1]; by_cases c1 : rd a (n : Int) < rd b (n : Int)
  ·refine now1 fun k => ?_; rw [Qa.pritchelref01_sizes.l0, if_pos (by omega), if_pos (by omega), if_pos (by omega), if_pos (by omega), if_pos c1]; have := dig_lt hp h1 p2 c1; unfold cm; rw [if_pos this]
  ·by_cases c2 : rd b (n : Int) < rd a (n : Int)
   ·refine now1 fun k => ?_; rw [Qa.pritchelref01_sizes.l0, if_pos (by omega), if_pos (by omega), if_pos (by omega), if_pos (by omega), if_neg c1, if_pos c2]; have := dig_lt hp h2 p1 c2; unfold cm; rw [if_neg (by omega), if_pos this]
   ·(have e3 : rd a (n : Int) = rd b (n : Int) := by omega); have ih := sizes_loop a b ha hab da db n (by omega)
    have e4 : cm (vl 10000 (a.take n) + 10000 ^ n * rd a (n : Int)) (vl 10000 (b.take n) + 10000 ^ n * rd b (n : Int)) = cm (vl 10000 (a.take n)) (vl 10000 (b.take n)) := by
     rw [e3]; unfold cm; simp only [Int.add_lt_add_iff_right]
    rw [e4]; refine Ev.step (fun k => ?_) ih; rw [Qa.pritchelref01_sizes.l0, if_pos (by omega), if_pos (by omega), if_pos (by omega), if_pos (by omega), if_neg c1, if_neg c2, e2]
theorem sizes_ev {x y : Nat} (hx : (d4 x).length ≤ 10000) (hy : (d4 y).length ≤ 10000) : Ev (fun k => Qa.pritchelref01_sizes.f k (d4 x) (d4 y)) (cm x y) := by
 by_cases h : (d4 x).length = (d4 y).length
 ·have h1 := sizes_loop (d4 x) (d4 y) (by omega) h (Dg_dg two4 x) (Dg_dg two4 y) (d4 x).length (Nat.le_refl _); rw [vl_take_all _ (Nat.le_refl _), vl_take_all _ (by omega), vl_dg two4, vl_dg two4] at h1; refine Ev.congr (fun k => ?_) h1; unfold Qa.pritchelref01_sizes.f; rw [if_pos (by omega), w6 (by omega) (by omega)]
 ·refine Ev.just fun k => ?_; unfold Qa.pritchelref01_sizes.f; rw [if_neg (by omega)]; by_cases h2 : (d4 x).length < (d4 y).length
  ·rw [if_pos (by omega)]; have := dg_len_lt two4 h2; unfold cm; rw [if_pos (by omega)]
  ·rw [if_neg (by omega)]; have := dg_len_lt two4 (show (d4 y).length < (d4 x).length by omega); unfold cm; rw [if_neg (by omega), if_pos (by omega)]
theorem less_alg {p o tb ta c q c' ra rb : Int} (hv : o + tb = ta + p * c) (hq : q = ra - c - rb + 10000 * c') : o + p * q + (tb + p * rb) = ta + p * ra + p * 10000 * c' := by
 subst hq
 grind
theorem d4_pos {n : Nat} (h : 0 < n) : 0 < (d4 n).length := List.length_pos_iff.2 (dg_ne two4 h)
theorem less_step (a b out : List Int) (c x : Int) (i k : Nat) (hi : i < a.length) (ha : a.length ≤ 100000) (hb : b.length ≤ 100000) (ho : out.length = i) (hx : x = rd a (i : Int) - c - rd b (i : Int)) (ra : 0 ≤ rd a (i : Int)) (ra1 : rd a (i : Int) ≤ 9999) (rb : 0 ≤ rd b (i : Int)) (rb1 : rd b (i : Int) ≤ 9999) (hc : 0 ≤ c) (hc1 : c ≤ 1) :
  Qa.pritchelref01_less.l0 (k + 1) a b out c (i : Int) = Qa.pritchelref01_less.l0 k a b (out ++ [if x < 0 then x + 10000 else x]) (if x < 0 then 1 else 0) ((i + 1 : Nat) : Int) := by
 (have ho' : out.length < 17592186044416 := by omega); (have ew : wrap64 ((i : Int) + 1) = ((i + 1 : Nat) : Int) := by rw [w6 (by omega) (by omega)]; omega); have w1 : wrap64 (rd a (i : Int) - c) = rd a (i : Int) - c := w6 (by omega) (by omega); have w2 : wrap64 x = x := w6 (by omega) (by omega); have w3 : wrap64 (x + 10000) = x + 10000 := w6 (by omega) (by omega); rw [Qa.pritchelref01_less.l0, if_pos (by omega), if_pos (by omega)]; by_cases hlb : (i : Int) < (b.length : Int)
 ·rw [if_pos hlb, w1, ← hx, w2]; by_cases hneg : x < 0
  ·rw [if_pos hneg, if_pos hneg, if_pos hneg, if_pos ho', w3, ew]
  ·rw [if_neg hneg, if_neg hneg, if_neg hneg, if_pos ho', ew]
 ·have e0 := rd_ge (l := b) (i := i) (by omega); rw [e0, Int.sub_zero] at hx; rw [if_neg hlb, w1, ← hx]; by_cases hneg : x < 0
  ·rw [if_pos hneg, if_pos hneg, if_pos hneg, if_pos ho', w3, ew]
  ·rw [if_neg hneg, if_neg hneg, if_neg hneg, if_pos ho', ew]
theorem less_loop (a b : List Int) (ha : a.length ≤ 100000) (hb : b.length ≤ 100000) (da : Dg 10000 a) (db : Dg 10000 b) : ∀ (d i : Nat) (out : List Int) (c : Int), i + d = a.length → out.length = i → Dg 10000 out → 0 ≤ c → c ≤ 1 →
  vl 10000 out + vl 10000 (b.take i) = vl 10000 (a.take i) + (10000 : Int) ^ i * c →
  ∃ R c', Ev (fun k => Qa.pritchelref01_less.l0 k a b out c (i : Int)) R ∧ Dg 10000 R ∧ R.length = a.length ∧ 0 ≤ c' ∧ c' ≤ 1 ∧ vl 10000 R + vl 10000 (b.take a.length) = vl 10000 a + (10000 : Int) ^ a.length * c' := by
 intro d
 induction d with
 | zero =>
  intro i out c hi ho hd hc hc1 hv; refine ⟨out, c, ?_, hd, by omega, hc, hc1, ?_⟩
  ·refine now1 fun k => ?_; rw [Qa.pritchelref01_less.l0, if_neg (by omega)]
  ·have : i = a.length := by omega
   subst this; rw [List.take_length] at hv
   exact hv
 | succ d ih =>
  intro i out c hi ho hd hc hc1 hv; obtain ⟨ra, ra1⟩ := rd_range two4 da i; obtain ⟨rb, rb1⟩ := rd_range two4 db i; obtain ⟨x, hx⟩ : ∃ x : Int, x = rd a (i : Int) - c - rd b (i : Int) := ⟨_, rfl⟩; have hs := fun k => less_step a b out c x i k (by omega) ha hb ho hx ra (by omega) rb (by omega) hc hc1; obtain ⟨q, hq⟩ : ∃ q : Int, q = if x < 0 then x + 10000 else x := ⟨_, rfl⟩; obtain ⟨c2, hc2⟩ : ∃ c2 : Int, c2 = if x < 0 then 1 else 0 := ⟨_, rfl⟩
  have hqc : q = rd a (i : Int) - c - rd b (i : Int) + 10000 * c2 ∧ 0 ≤ q ∧ q < 10000 ∧ 0 ≤ c2 ∧ c2 ≤ 1 := by
   rw [hq, hc2]; split <;> omega
  rw [← hq, ← hc2] at hs; clear hq hc2; obtain ⟨hq, q0, q1, c0, c1⟩ := hqc; have ho2 : (out ++ [q]).length = i + 1 := by rw [List.length_append, List.length_singleton, ho]
  have hv2 : vl 10000 (out ++ [q]) + vl 10000 (b.take (i + 1)) = vl 10000 (a.take (i + 1)) + (10000 : Int) ^ (i + 1) * c2 := by
   have e1 : ((10000 : Nat) : Int) = 10000 := rfl; rw [vl_snoc, ho, vl_take_succ, vl_take_succ, Int.pow_succ, e1]; exact less_alg hv hq
  obtain ⟨R, c', h1, h2⟩ := ih (i + 1) (out ++ [q]) c2 (by omega) ho2 (Dg_snoc hd q0 q1) c0 c1 hv2; exact ⟨R, c', Ev.step hs h1, h2⟩
theorem len_mono {x y : Nat} (h : y ≤ x) : (d4 y).length ≤ (d4 x).length := by
 rcases Nat.lt_or_ge (d4 x).length (d4 y).length with h1 | h1
 ·have := dg_len_lt two4 h1; omega
 ·exact h1
theorem less_ev {x y : Nat} (hx : (d4 x).length ≤ 10000) (h : y ≤ x) : ∃ R, Ev (fun k => Qa.pritchelref01_less.f k (d4 x) (d4 y)) R ∧ Dg 10000 R ∧ R.length ≤ 10000 ∧ vl 10000 R = ((x - y : Nat) : Int) := by
 have hl := len_mono h; obtain ⟨R, c, h1, h2, h3, h4, h5, h6⟩ := less_loop (d4 x) (d4 y) (by omega) (by omega) (Dg_dg two4 x) (Dg_dg two4 y) (d4 x).length 0 [] 0 (by omega) rfl (Dg_nil _) (by omega) (by omega) (by simp [vl]); rw [vl_take_all _ hl, vl_dg two4, vl_dg two4] at h6; have h7 := vl4_lt h2; have h8 := vl_nonneg h2; rw [h3] at h7; refine ⟨R, h1, h2, by omega, ?_⟩
 have : c = 0 := by
  rcases (show c = 0 ∨ c = 1 by omega) with e | e
  ·exact e
  ·subst e; omega
 subst this; omega
theorem neg_ev (y : Nat) : Qa.pritchelref01_Neg.f false (d4 y) = some (decide (0 < y), d4 y) := by
 unfold Qa.pritchelref01_Neg.f; rw [if_neg (by decide)]; rcases Nat.eq_zero_or_pos y with h | h
 ·subst h; simp [d4, dg_zero]
 ·have h1 : ((d4 y).length : Int) > 0 := by
   have := d4_pos h; omega
  simp only [decide_eq_true h1, decide_eq_true h]
theorem sub_ev {x y : Nat} (hx : (d4 x).length ≤ 10000) (hy : (d4 y).length ≤ 10000) : Ev (fun k => Qa.pritchelref01_Sub.f k false (d4 x) false (d4 y)) (decide (x < y), d4 (if x < y then y - x else x - y)) := by
 unfold Qa.pritchelref01_Sub.f; rw [neg_ev]; simp only [Option.bind_some]; rcases Nat.eq_zero_or_pos y with h | h
 ·subst h; have := add_ev hx hy; refine Ev.bind this (Ev.just fun k => by simp)
 ·rw [decide_eq_true h]; unfold Qa.pritchelref01_Add.f; refine Ev.bind (a := (decide (x < y), d4 (if x < y then y - x else x - y))) ?_ (Ev.just fun k => rfl); refine Ev.congr (fun k => if_neg (by decide)) ?_; refine Ev.bind (sizes_ev hx hy) ?_; by_cases hxy : x < y
  ·(have e1 : cm x y = -1 := by unfold cm; rw [if_pos (by omega)]); obtain ⟨R, h1, h2, h3, h4⟩ := less_ev hy (show x ≤ y by omega); have h5 := lean_ev true R (by omega) h2; rw [h4, Int.toNat_natCast] at h5; rw [e1]; refine Ev.congr (fun k => if_neg (by decide)) ?_; refine Ev.bind h1 (Ev.bind h5 (Ev.just fun k => ?_)); simp only [Bool.true_and, if_pos hxy, decide_eq_true hxy, decide_eq_true (show 0 < y - x by omega)]
  ·(have e1 : cm x y ≥ 0 := by unfold cm; rw [if_neg (by omega)]; split <;> decide); obtain ⟨R, h1, h2, h3, h4⟩ := less_ev hx (show y ≤ x by omega); have h5 := lean_ev false R (by omega) h2; rw [h4, Int.toNat_natCast] at h5; refine Ev.congr (fun k => if_pos e1) ?_; refine Ev.bind h1 (Ev.bind h5 (Ev.just fun k => ?_)); simp only [Bool.false_and, if_neg hxy, decide_eq_false hxy]
theorem cmp_ev {x y : Nat} (hx : (d4 x).length ≤ 10000) (hy : (d4 y).length ≤ 10000) : Ev (fun k => Qa.pritchelref01_Cmp.f k false (d4 x) false (d4 y)) (cm x y) := by
 unfold Qa.pritchelref01_Cmp.f; refine Ev.bind (sub_ev hx hy) (Ev.just fun k => ?_); unfold Qa.pritchelref01_Sign.f
 have hl : ∀ m : Nat, 0 < m → ¬ ((d4 m).length : Int) = 0 := fun m hm => by
  have := d4_pos hm; omega
 by_cases h1 : x < y
 ·simp only [if_pos h1, decide_eq_true h1]; rw [if_neg (hl _ (by omega)), if_pos trivial]; unfold cm; rw [if_pos (by omega)]; rfl
 ·simp only [if_neg h1, decide_eq_false h1]; by_cases h2 : y < x
  ·rw [if_neg (hl _ (by omega)), if_neg (by decide)]; unfold cm; rw [if_neg (by omega), if_pos (by omega)]; rfl
  ·have : x - y = 0 := by omega
   (have e : cm x y = 0 := by unfold cm; rw [if_neg (by omega), if_neg (by omega)]); rw [this, e, if_pos (by simp [d4, dg_zero])]; rfl
theorem int_loop (m : Bool) : ∀ (n : Nat), n < 4611686018427387905 → ∀ acc : List Int, acc.length + (d4 n).length ≤ 100000 → Ev (fun k => Qa.pritchelref01_Int.l0 k (n : Int) m acc) (m, acc ++ d4 n) := by
 intro n
 induction n using Nat.strongRecOn with
 | ind n ih =>
  intro hn acc hl; rcases Nat.eq_zero_or_pos n with h | h
  ·subst h; refine now1 fun k => ?_; rw [Qa.pritchelref01_Int.l0, if_pos (by omega)]; simp [d4, dg_zero]
  ·(have e1 : Int.tmod (n : Int) 10000 = ((n % 10000 : Nat) : Int) := by rw [Int.tmod_eq_emod_of_nonneg (by omega)]; omega); (have e2 : Int.tdiv (n : Int) 10000 = ((n / 10000 : Nat) : Int) := by rw [Int.tdiv_eq_ediv_of_nonneg (by omega)]; omega); have e3 : d4 n = ((n % 10000 : Nat) : Int) :: d4 (n / 10000) := dg_pos two4 h; have hl2 := congrArg List.length e3; rw [List.length_cons] at hl2; have := ih (n / 10000) (by omega) (by omega) (acc ++ [((n % 10000 : Nat) : Int)]) (by rw [List.length_append, List.length_singleton]; omega); (have e4 : acc ++ d4 n = acc ++ [((n % 10000 : Nat) : Int)] ++ d4 (n / 10000) := by rw [e3]; simp); rw [e4]; refine Ev.step (fun k => ?_) this; rw [Qa.pritchelref01_Int.l0, if_neg (by omega), e1, if_neg (by omega), if_pos (by omega), e2, w6 (by omega) (by omega)]
theorem d4_len_small {n : Nat} (hn : n < 10000 ^ 10) : (d4 n).length ≤ 10 := dg_len_le two4 hn
theorem int_ev (n : Nat) (hn : n < 4611686018427387905) : Ev (fun k => Qa.pritchelref01_Int.f k (n : Int)) (false, d4 n) := by
 have := int_loop false n hn [] (by have := d4_len_small (n := n) (Nat.lt_of_lt_of_le hn (by decide)); simp only [List.length_nil]; omega); refine Ev.congr (fun k => ?_) this; unfold Qa.pritchelref01_Int.f; rw [show decide ((n : Int) < 0) = false by simp]
theorem vl_set (B : Nat) (l : List Int) (i : Nat) (d : Int) (h : i < l.length) : vl B (l.set i d) = vl B l + (B : Int) ^ i * (d - rd l (i : Int)) := by
 induction l generalizing i with
 | nil => simp at h
 | cons x r ih =>
  cases i with
  | zero => simp [vl, rd]; omega
  | succ i =>
   have := ih i (by simpa using h); rw [List.set_cons_succ, vl, vl, this, Int.pow_succ]; (have e : rd (x :: r) ((i + 1 : Nat) : Int) = rd r (i : Int) := by simp [rd]); rw [e]; generalize (B : Int) ^ i = p
   grind
theorem rd_set_ne {l : List Int} {i j : Nat} (d : Int) (h : i ≠ j) : rd (l.set i d) (j : Int) = rd l (j : Int) := by
 unfold rd; rw [Int.toNat_natCast, List.getD_eq_getElem?_getD, List.getElem?_set_ne h, List.getD_eq_getElem?_getD]
theorem mul_first (a out : List Int) (c s : Int) (i : Nat) (k : Nat) (hi : i < a.length) (ha : a.length ≤ 90000) (ho : out.length = a.length + 2) (hs : s = rd out (i : Int) + rd a (i : Int) * c) (hr : 0 ≤ rd out (i : Int)) (hr1 : rd out (i : Int) ≤ 9999) (hm : 0 ≤ rd a (i : Int) * c) (hm1 : rd a (i : Int) * c ≤ 99980001) :
  Qa.pritchelref01_Mul.l1 (k + 1 + 1) out (i : Int) 0 0 false a false [c] = Qa.pritchelref01_Mul.l1 k (out.set i (s % 10000)) (i : Int) (s / 10000) 1 false a false [c] := by
 (have w0 : wrap64 ((i : Int) + 0) = (i : Int) := by rw [w6 (by omega) (by omega)]; omega); have eb : rd [c] 0 = c := rfl; (have e0 : wrap64 (rd out (i : Int) + 0) = rd out (i : Int) := by rw [w6 (by omega) (by omega)]; omega); have e1 : wrap64 (rd a (i : Int) * c) = rd a (i : Int) * c := w6 (by omega) (by omega); have e2 : wrap64 s = s := w6 (by omega) (by omega); have e3 : Int.tmod s 10000 = s % 10000 := Int.tmod_eq_emod_of_nonneg (by omega); have e4 : Int.tdiv s 10000 = s / 10000 := Int.tdiv_eq_ediv_of_nonneg (by omega); have e5 : wrap64 (s / 10000) = s / 10000 := w6 (by omega) (by omega); have e6 : wrap64 ((0 : Int) + 1) = 1 := w6 (by omega) (by omega); rw [Qa.pritchelref01_Mul.l1, if_pos (by simp), Qa.pritchelref01_Mul.j2, if_pos rfl, w0, if_pos (by omega), if_pos (by omega), if_pos (by simp), if_pos (by omega), if_pos (by omega), if_pos (by omega), eb, e0, e1, ← hs, e2, e3, e4, e5, e6, Int.toNat_natCast]
theorem mul_second (a out : List Int) (c r : Int) (i : Nat) (k : Nat) (hi : i < a.length) (ha : a.length ≤ 90000) (ho : out.length = a.length + 2) (h0 : rd out ((i + 1 : Nat) : Int) = 0) (hr : 0 < r) (hr1 : r ≤ 9999) :
  Qa.pritchelref01_Mul.l1 (k + 1 + 1) out (i : Int) r 1 false a false [c] = Qa.pritchelref01_Mul.l1 k (out.set (i + 1) r) (i : Int) 0 2 false a false [c] := by
 (have w1 : wrap64 ((i : Int) + 1) = ((i + 1 : Nat) : Int) := by rw [w6 (by omega) (by omega)]; omega); have hb : decide (r > 0) = true := decide_eq_true (by omega); (have e0 : wrap64 (rd out ((i + 1 : Nat) : Int) + r) = r := by rw [w6 (by omega) (by omega)]; omega); (have e3 : Int.tmod r 10000 = r := by rw [Int.tmod_eq_emod_of_nonneg (by omega)]; omega); (have e4 : Int.tdiv r 10000 = 0 := by rw [Int.tdiv_eq_ediv_of_nonneg (by omega)]; omega); have e5 : wrap64 0 = 0 := w6 (by omega) (by omega); have e6 : wrap64 ((1 : Int) + 1) = 2 := w6 (by omega) (by omega); rw [Qa.pritchelref01_Mul.l1, if_neg (by simp), hb, Qa.pritchelref01_Mul.j2, if_pos rfl, w1, if_pos (by omega), if_pos (by omega), if_neg (by simp), e0, e3, e4, e5, e6, Int.toNat_natCast]
theorem mul_end (a out : List Int) (c x8 : Int) (i : Nat) (k : Nat) (hi : i < a.length) (ha : a.length ≤ 90000) (hx : 1 ≤ x8) :
  Qa.pritchelref01_Mul.l1 (k + 1 + 1) out (i : Int) 0 x8 false a false [c] = Qa.pritchelref01_Mul.l0 k out ((i + 1 : Nat) : Int) false a false [c] := by
 (have w1 : wrap64 ((i : Int) + 1) = ((i + 1 : Nat) : Int) := by rw [w6 (by omega) (by omega)]; omega); rw [Qa.pritchelref01_Mul.l1, if_neg (by simp; omega), Qa.pritchelref01_Mul.j2, if_neg (by decide), w1]
theorem mul_alg {p vo t r s ra ro c q : Int} (hv : vo = t * c) (hs : s = ro + ra * c) (hq : q + 10000 * r = s) : vo + p * (q - ro) + p * 10000 * (r - 0) = (t + p * ra) * c := by
 have : q = ro + ra * c - 10000 * r := by omega
 subst this hv
 grind
theorem mul_loop (a : List Int) (c : Nat) (ha : a.length ≤ 90000) (da : Dg 10000 a) (hc : 0 < c) (hc1 : c < 10000) : ∀ (d i : Nat) (out : List Int), i + d = a.length → out.length = a.length + 2 → Dg 10000 out → (∀ j, i < j → rd out (j : Int) = 0) → vl 10000 out = vl 10000 (a.take i) * c →
  Ev (fun k => Qa.pritchelref01_Mul.l0 k out (i : Int) false a false [(c : Int)]) (false, d4 (vl 10000 a * c).toNat) := by
 intro d
 induction d with
 | zero =>
  intro i out hi ho hd hz hv
  have : i = a.length := by omega
  subst this; rw [List.take_length] at hv; have h5 := lean_ev false out (by omega) hd; rw [hv] at h5; refine Ev.step (f := fun k => (Qa.pritchelref01_lean.f k false out).bind fun bt270 => (some (bt270.1, bt270.2))) (fun k => ?_) (Ev.bind h5 (Ev.just fun k => rfl)); rw [Qa.pritchelref01_Mul.l0, if_neg (by omega)]
  rfl
 | succ d ih =>
  intro i out hi ho hd hz hv; have r1 := rd_range two4 da i; have r2 := rd_range two4 hd i; have m0 : rd a (i : Int) * c ≤ 9999 * 9999 := Int.mul_le_mul (by omega) (by omega) (by omega) (by omega); have m1 : 0 ≤ rd a (i : Int) * c := Int.mul_nonneg (by omega) (by omega); obtain ⟨s, hs⟩ : ∃ s : Int, s = rd out (i : Int) + rd a (i : Int) * c := ⟨_, rfl⟩; (have hs0 : 0 ≤ s := by omega); (have hs1 : s ≤ 99999999 := by omega); have first := fun k => mul_first a out c s i k (by omega) ha ho hs (by omega) (by omega) m1 (by omega)
  have hgo : ∀ k, Qa.pritchelref01_Mul.l0 (k + 1) out (i : Int) false a false [(c : Int)] = Qa.pritchelref01_Mul.l1 k out (i : Int) 0 0 false a false [(c : Int)] := by
   intro k; rw [Qa.pritchelref01_Mul.l0, if_pos (by omega)]
  clear m0 m1; have hd1 : Dg 10000 (out.set i (s % 10000)) := Dg_set hd i (by omega) (by omega); (have ho1 : (out.set i (s % 10000)).length = a.length + 2 := by rw [List.length_set, ho]); have ee : ((10000 : Nat) : Int) = 10000 := rfl; have hv1 := vl_set 10000 out i (s % 10000) (by omega); rw [ee] at hv1; have ht := vl_take_succ 10000 a i; rw [ee] at ht; have hq := Int.emod_add_mul_ediv s 10000; have alg := mul_alg (p := (10000 : Int) ^ i) hv hs hq; by_cases hc0 : s / 10000 = 0
  ·have h2 := ih (i + 1) (out.set i (s % 10000)) (by omega) ho1 hd1 (fun j hj => by rw [rd_set_ne _ (by omega)]; exact hz j (by omega)) (by
    rw [hc0] at alg; rw [hv1, ht, ← alg]
    simp)
   obtain ⟨K, hK⟩ := h2; refine ⟨K + 5, fun n hn => ?_⟩; obtain ⟨m, rfl⟩ : ∃ m, n = m + 1 + 1 + 1 + 1 + 1 := ⟨n - 5, by omega⟩; show Qa.pritchelref01_Mul.l0 (m + 1 + 1 + 1 + 1 + 1) out (i : Int) false a false [(c : Int)] = _; rw [hgo, first, hc0, mul_end a _ c 1 i m (by omega) ha (by omega)]; exact hK m (by omega)
  ·(have e0 : rd (out.set i (s % 10000)) ((i + 1 : Nat) : Int) = 0 := by rw [rd_set_ne _ (by omega)]; exact hz _ (by omega)); have hv2 := vl_set 10000 (out.set i (s % 10000)) (i + 1) (s / 10000) (by omega); rw [ee, e0, hv1, Int.pow_succ] at hv2
   have h2 := ih (i + 1) ((out.set i (s % 10000)).set (i + 1) (s / 10000)) (by omega) (by rw [List.length_set, ho1]) (Dg_set hd1 _ (by omega) (by omega)) (fun j hj => by rw [rd_set_ne _ (by omega), rd_set_ne _ (by omega)]; exact hz j (by omega)) (by
    rw [hv2, ht, alg])
   obtain ⟨K, hK⟩ := h2; refine ⟨K + 7, fun n hn => ?_⟩; obtain ⟨m, rfl⟩ : ∃ m, n = m + 1 + 1 + 1 + 1 + 1 + 1 + 1 := ⟨n - 7, by omega⟩; show Qa.pritchelref01_Mul.l0 (m + 1 + 1 + 1 + 1 + 1 + 1 + 1) out (i : Int) false a false [(c : Int)] = _; rw [hgo, first, mul_second a _ c _ i (m + 1 + 1) (by omega) ha ho1 e0 (by omega) (by omega), mul_end a _ c 2 i m (by omega) ha (by omega)]; exact hK m (by omega)
theorem mul0_loop (a : List Int) (ha : a.length ≤ 100000) : ∀ (d i n : Nat), i + d = a.length → n ≤ 100000 →
  Ev (fun k => Qa.pritchelref01_Mul.l0 k (List.replicate n 0) (i : Int) false a false []) (false, []) := by
 intro d
 induction d with
 | zero =>
  intro i n hi hn; have h5 := lean_ev false (List.replicate n 0) (by simpa using hn) (Dg_zeros two4 n); rw [vl_zeros] at h5; refine Ev.step (f := fun k => (Qa.pritchelref01_lean.f k false (List.replicate n 0)).bind fun bt270 => (some (bt270.1, bt270.2))) (fun k => ?_) (Ev.bind h5 (Ev.just fun k => ?_))
  ·rw [Qa.pritchelref01_Mul.l0, if_neg (by omega)]; rfl
  ·simp [d4, dg_zero]
 | succ d ih =>
  intro i n hi hn; obtain ⟨K, hK⟩ := ih (i + 1) n (by omega) hn; refine ⟨K + 3, fun m hm => ?_⟩; obtain ⟨m, rfl⟩ : ∃ j, m = j + 1 + 1 + 1 := ⟨m - 3, by omega⟩; show Qa.pritchelref01_Mul.l0 (m + 1 + 1 + 1) (List.replicate n 0) (i : Int) false a false [] = _; (have w1 : wrap64 ((i : Int) + 1) = ((i + 1 : Nat) : Int) := by rw [w6 (by omega) (by omega)]; omega); rw [Qa.pritchelref01_Mul.l0, if_pos (by omega), Qa.pritchelref01_Mul.l1, if_neg (by simp), Qa.pritchelref01_Mul.j2, if_neg (by decide), w1]; exact hK m (by omega)
theorem mul_ev {x c : Nat} (hx : (d4 x).length ≤ 10000) (hc : c < 10000) : Ev (fun k => Qa.pritchelref01_Mul.f k false (d4 x) false (d4 c)) (false, d4 (x * c)) := by
 rcases Nat.eq_zero_or_pos c with h | h
 ·subst h; have := mul0_loop (d4 x) (by omega) (d4 x).length 0 ((d4 x).length + 1) (by omega) (by omega); have e : d4 0 = [] := dg_zero _; rw [e, Nat.mul_zero, e]; refine Ev.congr (fun k => ?_) this; unfold Qa.pritchelref01_Mul.f; rw [List.length_nil, w6 (x := ((d4 x).length : Int) + ((0 : Nat) : Int)) (by omega) (by omega), w6 (by omega) (by omega), if_pos (by omega), if_pos (by omega), show (((d4 x).length : Int) + ((0 : Nat) : Int) + 1).toNat = (d4 x).length + 1 by omega]; rfl
 ·have e : d4 c = [(c : Int)] := dg_small two4 h hc; have := mul_loop (d4 x) c (by omega) (Dg_dg two4 x) h hc (d4 x).length 0 (List.replicate ((d4 x).length + 2) 0) (by omega) (by simp) (Dg_zeros two4 _) (fun j _ => by unfold rd; simp [List.getD_eq_getElem?_getD, List.getElem?_replicate]; split <;> rfl) (by rw [vl_zeros]; simp [vl]); rw [vl_dg two4, ← Int.natCast_mul, Int.toNat_natCast] at this; rw [e]; refine Ev.congr (fun k => ?_) this; unfold Qa.pritchelref01_Mul.f; rw [List.length_singleton, w6 (x := ((d4 x).length : Int) + ((1 : Nat) : Int)) (by omega) (by omega), w6 (by omega) (by omega), if_pos (by omega), if_pos (by omega), show (((d4 x).length : Int) + ((1 : Nat) : Int) + 1).toNat = (d4 x).length + 2 by omega]; rfl
theorem d4_len1 {m : Nat} (h : m < 10000) : (d4 m).length ≤ 1 := dg_len_le two4 (by omega)
abbrev dt (n : Nat) : List Int := dg 10 n
theorem two10 : 2 ≤ 10 := by decide
/-- The text of decimal digits, the least first. -/
def dtext (l : List Int) : ByteArray := strOfNums (l.reverse.map fun d => 48 + d)
def txt (n : Nat) : ByteArray := if n = 0 then ⟨#[48]⟩ else dtext (dt n)
theorem son_size (l : List Int) : (strOfNums l).size = l.length := by simp [strOfNums, ByteArray.size]
theorem dtext_size (l : List Int) : (dtext l).size = l.length := by
 unfold dtext; rw [son_size]; simp
theorem txt_size {x m : Nat} (hm : 0 < m) (h : x < 10 ^ m) : (txt x).size ≤ m := by
 unfold txt; split
 ·exact hm
 ·rw [dtext_size]; exact dg_len_le two10 h
/-- The size of a number, in limbs. -/
abbrev db (n : Nat) : List Int := dg 4294967296 n
theorem twoL : 2 ≤ 4294967296 := by decide
theorem u6 {x : Int} (h0 : 0 ≤ x) (h1 : x < 18446744073709551616) : IntKind.u64.wrap x = x := by
 unfold IntKind.wrap; simp only [IntKind.bits, IntKind.signed, Bool.false_and]; rw [if_neg (by decide)]; omega
theorem trim_loop (l : List Int) (hl : l.length ≤ 100000) (hd : Dg 4294967296 l) : ∀ n : Nat, n ≤ l.length → vl 4294967296 (l.take n) = vl 4294967296 l →
  Ev (fun k => Qa.num_trim.l0 k (l.take n)) (db (vl 4294967296 l).toNat)
 | 0, _, hv => by
  (have e : vl 4294967296 l = 0 := by rw [← hv]; simp [vl]); refine now1 fun k => ?_; rw [Qa.num_trim.l0, if_neg (by simp), e]
  simp [db, dg_zero]
 | n + 1, hn, hv => by
  (have ht : (l.take (n + 1)).length = n + 1 := by rw [List.length_take]; omega); have e1 : wrap64 (((l.take (n + 1)).length : Int) - 1) = (n : Int) := by rw [ht, w6 (by omega) (by omega)]; omega
  have e2 : rd (l.take (n + 1)) (n : Int) = rd l (n : Int) := by
   unfold rd; rw [Int.toNat_natCast, List.getD_eq_getElem?_getD, List.getElem?_take, if_pos (by omega), List.getD_eq_getElem?_getD]
  by_cases h0 : rd l (n : Int) = 0
  ·refine Ev.step (fun k => ?_) (trim_loop l hl hd n (by omega) (by rw [← hv, vl_take_succ, h0]; simp)); rw [Qa.num_trim.l0, e1, if_pos (by omega), if_pos (by omega), if_pos (by omega), e2, if_pos h0, if_pos (by omega), Int.toNat_natCast, List.take_take, Nat.min_eq_left (by omega)]
  ·refine now1 fun k => ?_; rw [Qa.num_trim.l0, e1, if_pos (by omega), if_pos (by omega), if_pos (by omega), e2, if_neg h0]; have := dg_take twoL hd (show n < l.length by omega) h0; rw [hv] at this; rw [this]
theorem trim_ev (l : List Int) (hl : l.length ≤ 100000) (hd : Dg 4294967296 l) : Ev (fun k => Qa.num_trim.f k l) (db (vl 4294967296 l).toNat) := by
 have := trim_loop l hl hd l.length (Nat.le_refl _) (by rw [List.take_length]); rw [List.take_length] at this; exact this
theorem add32 {x y c : Int} (hx : 0 ≤ x) (hx1 : x < 4294967296) (hy : 0 ≤ y) (hy1 : y < 4294967296) (hc : 0 ≤ c) (hc1 : c ≤ 1) : Qa.bits_Add32.f x y c = some ((x + y + c) % 4294967296, (x + y + c) / 4294967296) := by
 unfold Qa.bits_Add32.f; rw [u6 (x := x) (by omega) (by omega), u6 (x := y) (by omega) (by omega), u6 (x := c) (by omega) (by omega), u6 (x := x + y) (by omega) (by omega), u6 (x := x + y + c) (by omega) (by omega)]; congr 2; omega
theorem plus_sw : ∀ (k : Nat) (a b out : List Int) (c m i : Int), Qa.num_plus.l0 k a b out c m i = Qa.num_plus.l1 k b a out c m i
 | 0, _, _, _, _, _, _ => by rw [Qa.num_plus.l0, Qa.num_plus.l1]
 | k + 1, a, b, out, c, m, i => by
  rw [Qa.num_plus.l0, Qa.num_plus.l1]; simp only [plus_sw k]
theorem nplus_step (a b out : List Int) (c s : Int) (i k : Nat) (hi : i < a.length) (ha : a.length ≤ 10000) (hb : b.length ≤ a.length) (ho : out.length = a.length + 1) (hs : s = rd a (i : Int) + rd b (i : Int) + c) (ra : 0 ≤ rd a (i : Int)) (ra1 : rd a (i : Int) < 4294967296) (rb : 0 ≤ rd b (i : Int)) (rb1 : rd b (i : Int) < 4294967296) (hc : 0 ≤ c) (hc1 : c ≤ 1) :
  Qa.num_plus.l1 (k + 1) a b out c (a.length : Int) (i : Int) = Qa.num_plus.l1 k a b (out.set i (s % 4294967296)) (s / 4294967296) (a.length : Int) ((i + 1 : Nat) : Int) := by
 (have ew : wrap64 ((i : Int) + 1) = ((i + 1 : Nat) : Int) := by rw [w6 (by omega) (by omega)]; omega); rw [Qa.num_plus.l1, if_pos (by omega)]; by_cases hlb : (i : Int) < (b.length : Int)
 ·rw [if_pos hlb, if_pos (by omega), if_pos (by omega), add32 ra ra1 rb rb1 hc hc1, Option.bind_some, if_pos (by omega), ew, Int.toNat_natCast, ← hs]
 ·have e0 := rd_ge (l := b) (i := i) (by omega); rw [e0] at hs; rw [if_neg hlb, if_pos (by omega), if_pos (by omega), add32 ra ra1 (Int.le_refl 0) (by omega) hc hc1, Option.bind_some, if_pos (by omega), ew, Int.toNat_natCast, ← hs]
theorem nplus_alg {p vo ta tb c s q r : Int} {ra rb : Int} (hv : vo + p * c = ta + tb) (hs : s = ra + rb + c) (hq : q + 4294967296 * r = s) : vo + p * (q - 0) + p * 4294967296 * r = ta + p * ra + (tb + p * rb) := by
 have : q = ra + rb + c - 4294967296 * r := by omega
 subst this
 grind
theorem nplus_loop (a b : List Int) (ha : a.length ≤ 10000) (hb : b.length ≤ a.length) (da : Dg 4294967296 a) (db' : Dg 4294967296 b) : ∀ (d i : Nat) (out : List Int) (c : Int), i + d = a.length → out.length = a.length + 1 → Dg 4294967296 out → 0 ≤ c → c ≤ 1 → (∀ j, i ≤ j → rd out (j : Int) = 0) →
  vl 4294967296 out + (4294967296 : Int) ^ i * c = vl 4294967296 (a.take i) + vl 4294967296 (b.take i) →
  Ev (fun k => Qa.num_plus.l1 k a b out c (a.length : Int) (i : Int)) (db (vl 4294967296 a + vl 4294967296 b).toNat) := by
 intro d
 induction d with
 | zero =>
  intro i out c hi ho hd hc hc1 hz hv
  have : i = a.length := by omega
  subst this; rw [List.take_length, vl_take_all _ hb] at hv; have h2 := vl_set 4294967296 out a.length c (by omega); have ee : ((4294967296 : Nat) : Int) = 4294967296 := rfl; rw [hz _ (Nat.le_refl _), Int.sub_zero, ee, hv] at h2; have h3 := trim_ev (out.set a.length c) (by rw [List.length_set]; omega) (Dg_set hd _ hc (by omega)); rw [h2] at h3; refine Ev.step (f := fun k => (Qa.num_trim.f k (out.set a.length c)).bind fun t136 => some t136) (fun k => ?_) (Ev.bind h3 (Ev.just fun k => rfl))
  rw [Qa.num_plus.l1, if_neg (by omega), if_pos (by omega), if_pos (by omega), Int.toNat_natCast]
 | succ d ih =>
  intro i out c hi ho hd hc hc1 hz hv; obtain ⟨ra, ra1⟩ := rd_range twoL da i; obtain ⟨rb, rb1⟩ := rd_range twoL db' i; have ee : ((4294967296 : Nat) : Int) = 4294967296 := rfl; obtain ⟨s, hs⟩ : ∃ s : Int, s = rd a (i : Int) + rd b (i : Int) + c := ⟨_, rfl⟩; have step := fun k => nplus_step a b out c s i k (by omega) ha hb ho hs ra (by omega) rb (by omega) hc hc1; have hq := Int.emod_add_mul_ediv s 4294967296; have alg := nplus_alg hv hs hq; have h2 := vl_set 4294967296 out i (s % 4294967296) (by omega); rw [hz i (Nat.le_refl _), ee] at h2; refine Ev.step step (ih (i + 1) (out.set i (s % 4294967296)) (s / 4294967296) (by omega) (by rw [List.length_set, ho]) (Dg_set hd _ (by omega) (by omega)) (by omega) (by omega) (fun j hj => by rw [rd_set_ne _ (by omega)]; exact hz j (by omega)) ?_); rw [h2, vl_take_succ, vl_take_succ, Int.pow_succ, ee]; exact alg
theorem rd_zeros (n : Nat) (i : Int) : rd (List.replicate n 0) i = 0 := by
 unfold rd; rw [List.getD_eq_getElem?_getD, List.getElem?_replicate]; split <;> rfl
theorem nplus_ge {x y : Nat} (hx : (db x).length ≤ 10000) (h : (db y).length ≤ (db x).length) (m : Int) (hm : m = ((db x).length : Int)) : Ev (fun k => Qa.num_plus.l1 k (db x) (db y) (List.replicate ((db x).length + 1) 0) 0 m 0) (db (x + y)) := by
 subst hm; have := nplus_loop (db x) (db y) hx h (Dg_dg twoL x) (Dg_dg twoL y) (db x).length 0 (List.replicate ((db x).length + 1) 0) 0 (by omega) (by simp) (Dg_zeros twoL _) (by omega) (by omega) (fun j _ => rd_zeros _ _) (by rw [vl_zeros]; simp [vl]); rw [vl_dg twoL, vl_dg twoL] at this; (have e : ((x : Int) + (y : Int)).toNat = x + y := by omega); rw [e] at this; exact this
theorem nplus_ev {x y : Nat} (hx : (db x).length ≤ 10000) (hy : (db y).length ≤ 10000) : Ev (fun k => Qa.num_plus.f k (db x) (db y)) (db (x + y)) := by
 by_cases h : (db x).length < (db y).length
 ·have := nplus_ge hy (Nat.le_of_lt h) _ rfl; rw [Nat.add_comm y x] at this; refine Ev.congr (fun k => ?_) this; unfold Qa.num_plus.f; rw [if_pos (by omega), w6 (by omega) (by omega), if_pos (by omega), if_pos (by omega), plus_sw, show (((db y).length : Int) + 1).toNat = (db y).length + 1 by omega]
 ·have := nplus_ge (x := x) (y := y) hx (by omega) _ rfl; refine Ev.congr (fun k => ?_) this; unfold Qa.num_plus.f; rw [if_neg (by omega), w6 (by omega) (by omega), if_pos (by omega), if_pos (by omega), show (((db x).length : Int) + 1).toNat = (db x).length + 1 by omega]
theorem iadd_ev {x y : Nat} (hx : (db x).length ≤ 10000) (hy : (db y).length ≤ 10000) : Ev (fun k => Qa.num_Int_Add.f k false (db x) false (db y)) (false, db (x + y)) := by
 unfold Qa.num_Int_Add.f; refine Ev.congr (fun k => if_pos (by decide)) ?_; exact Ev.bind (nplus_ev hx hy) (Ev.just fun k => rfl)
theorem of_ev (n : Nat) (hn : n < 4294967296) : Ev (fun k => Qa.num_Of.f k (n : Int)) (false, db n) := by
 have h := trim_ev [(n : Int), 0] (by simp) (Dg_cons (by omega) (by omega) (Dg_cons (by omega) (by omega) (Dg_nil _))); (have e : (vl 4294967296 [(n : Int), 0]).toNat = n := by simp [vl]); rw [e] at h; unfold Qa.num_Of.f; refine Ev.congr (fun k => if_neg (by omega)) ?_; (have e1 : IntKind.u64.wrap (n : Int) % 4294967296 = (n : Int) := by rw [u6 (by omega) (by omega)]; omega); (have e2 : IntKind.u64.wrap (n : Int) / 4294967296 % 4294967296 = 0 := by rw [u6 (by omega) (by omega)]; omega); (have e3 : decide ((n : Int) < 0) = false := by simp); rw [e1, e2, e3]; exact Ev.bind h (Ev.just fun k => rfl)
theorem or32 {r d : Int} (hr : 0 ≤ r) (hr1 : r < 4294967296) (hd : 0 ≤ d) (hd1 : d < 4294967296) : Go.bits .or .u64 (r * 4294967296) d = r * 4294967296 + d := by
 (have p64 : (2 : Int) ^ 64 = 18446744073709551616 := by decide); (have p32 : (2 : Int) ^ 32 = 4294967296 := by decide); have w : ∀ n : Int, 0 ≤ n → n < 2 ^ 64 → IntKind.u64.wrap n = n := fun n h0 h1 => u6 h0 (by rw [p64] at h1; exact h1); exact bits_join .u64 64 (by decide) w 32 (r * 4294967296) d (by omega) (by rw [p32]; omega) (by rw [p64]; omega) hd (by rw [p32]; omega) (by rw [p64]; omega)
theorem bw_step (a out : List Int) (r t : Int) (n k : Nat) (hn : n < a.length) (ha : a.length ≤ 10000) (ho : out.length = a.length) (ht : t = r * 4294967296 + rd a (n : Int)) (hr : 0 ≤ r) (hr1 : r < 1000000000) (ra : 0 ≤ rd a (n : Int)) (ra1 : rd a (n : Int) < 4294967296) :
  Qa.num_byWord.l0 (k + 1) a 1000000000 out r (n : Int) = Qa.num_byWord.l0 k a 1000000000 (out.set n (t / 1000000000)) (t % 1000000000) ((n : Int) - 1) := by
 have e0 : IntKind.u64.wrap 1000000000 = 1000000000 := u6 (by omega) (by omega); have e1 : IntKind.u64.wrap (r * 4294967296) = r * 4294967296 := u6 (by omega) (by omega); have e2 : IntKind.u64.wrap (rd a (n : Int)) = rd a (n : Int) := u6 (by omega) (by omega); have e3 : Int.tdiv t 1000000000 = t / 1000000000 := Int.tdiv_eq_ediv_of_nonneg (by omega); have e4 : Int.tmod t 1000000000 = t % 1000000000 := Int.tmod_eq_emod_of_nonneg (by omega); (have e5 : IntKind.u64.wrap (t / 1000000000) % 4294967296 = t / 1000000000 := by rw [u6 (by omega) (by omega)]; omega); have e6 : wrap64 ((n : Int) - 1) = (n : Int) - 1 := w6 (by omega) (by omega); rw [Qa.num_byWord.l0, e0, e1, e2, or32 hr (by omega) ra ra1, ← ht, e3, e4, e5, e6, if_pos (by omega), if_pos (by omega), if_pos (by omega), if_neg (by omega), if_pos (by omega), Int.toNat_natCast]
theorem rd_drop_cons {a : List Int} {n : Nat} (h : n < a.length) : a.drop n = rd a (n : Int) :: a.drop (n + 1) := by
 rw [List.drop_eq_getElem_cons h]; unfold rd; rw [Int.toNat_natCast, List.getD_eq_getElem?_getD, List.getElem?_eq_getElem h]; rfl
theorem bw_alg {v q r d t w : Int} (hv : v = w * q + r) (ht : t = r * 4294967296 + d) (he : t % w + w * (t / w) = t) : d + 4294967296 * v = w * (t / w + 4294967296 * q) + t % w := by
 generalize t / w = x at *; generalize t % w = y at *; subst hv
 grind
theorem bw_loop (a : List Int) (ha : a.length ≤ 10000) (da : Dg 4294967296 a) : ∀ (n : Nat) (out : List Int) (r : Int), n ≤ a.length → out.length = a.length → Dg 4294967296 out → 0 ≤ r → r < 1000000000 →
  vl 4294967296 (a.drop n) = 1000000000 * vl 4294967296 (out.drop n) + r →
  Ev (fun k => Qa.num_byWord.l0 k a 1000000000 out r ((n : Int) - 1)) (db (vl 4294967296 a / 1000000000).toNat, vl 4294967296 a % 1000000000)
 | 0, out, r, _, ho, hd, hr, hr1, hv => by
  have h1 := trim_ev out (by omega) hd; rw [List.drop_zero, List.drop_zero] at hv; (have e1 : vl 4294967296 out = vl 4294967296 a / 1000000000 := by omega); (have e2 : r = vl 4294967296 a % 1000000000 := by omega); rw [e1] at h1; refine Ev.step (f := fun k => (Qa.num_trim.f k out).bind fun t136 => some (t136, r % 4294967296)) (fun k => ?_) (Ev.bind h1 (Ev.just fun k => ?_))
  ·show Qa.num_byWord.l0 (k + 1) a 1000000000 out r (((0 : Nat) : Int) - 1) = _; rw [Qa.num_byWord.l0, if_neg (by omega)]
  ·rw [← e2]; congr 2
   omega
 | n + 1, out, r, hn, ho, hd, hr, hr1, hv => by
  obtain ⟨ra, ra1⟩ := rd_range twoL da n; have ee : ((4294967296 : Nat) : Int) = 4294967296 := rfl; rw [ee] at ra1; obtain ⟨t, ht⟩ : ∃ t : Int, t = r * 4294967296 + rd a (n : Int) := ⟨_, rfl⟩; have step := fun k => bw_step a out r t n k (by omega) ha ho ht hr hr1 ra ra1; (have e1 : ((n + 1 : Nat) : Int) - 1 = (n : Int) := by omega); rw [e1]; refine Ev.step step (bw_loop a ha da n (out.set n (t / 1000000000)) (t % 1000000000) (by omega) (by rw [List.length_set, ho]) (Dg_set hd _ (by omega) (by omega)) (by omega) (by omega) ?_); have hq := Int.emod_add_mul_ediv t 1000000000; rw [List.drop_set, if_neg (by omega), Nat.sub_self, rd_drop_cons (show n < a.length by omega), rd_drop_cons (show n < out.length by omega), List.set_cons_zero, vl, vl, ee]; exact bw_alg hv ht hq
theorem byWord_ev {x : Nat} (hx : (db x).length ≤ 10000) : Ev (fun k => Qa.num_byWord.f k (db x) 1000000000) (db (x / 1000000000), ((x % 1000000000 : Nat) : Int)) := by
 have := bw_loop (db x) hx (Dg_dg twoL x) (db x).length (List.replicate (db x).length 0) 0 (Nat.le_refl _) (by simp) (Dg_zeros twoL _) (by omega) (by omega) (by simp [vl]); rw [vl_dg twoL] at this; (have e1 : ((x : Int) / 1000000000).toNat = x / 1000000000 := by omega); (have e2 : (x : Int) % 1000000000 = ((x % 1000000000 : Nat) : Int) := by omega); rw [e1, e2] at this; refine Ev.congr (fun k => ?_) this; unfold Qa.num_byWord.f; rw [if_pos (by omega), if_pos (by omega), w6 (by omega) (by omega), Int.toNat_natCast]
theorem set_mid (X Z : List Int) (a b : Int) : (X ++ a :: Z).set X.length b = X ++ b :: Z := by
 rw [List.set_append_right _ _ (Nat.le_refl _), Nat.sub_self, List.set_cons_zero]
theorem rd_mid (X Z : List Int) (a : Int) {i : Int} (h : i = (X.length : Int)) : rd (X ++ a :: Z) i = a := by
 subst h; unfold rd; rw [Int.toNat_natCast, List.getD_eq_getElem?_getD, List.getElem?_append_right (Nat.le_refl _), Nat.sub_self]; rfl
theorem rev_loop : ∀ (d : Nat) (X M Y : List Int), M.length = d → X.length + M.length + Y.length ≤ 100000 →
  Ev (fun k => Qa.slices_Reverse_byte_byte.l0 k (X ++ (M ++ Y)) (X.length : Int) ((X.length : Int) + (M.length : Int) - 1)) (X ++ (M.reverse ++ Y)) := by
 intro d
 induction d using Nat.strongRecOn with
 | ind d ih =>
  intro X M Y hd hl; by_cases hs : M.length ≤ 1
  ·have e : M.reverse = M := by
    match M, hs with
    | [], _ => rfl
    | [a], _ => rfl
   rw [e]; refine now1 fun k => ?_; rw [Qa.slices_Reverse_byte_byte.l0, if_neg (by omega)]
  ·obtain ⟨a, N, b, rfl⟩ : ∃ a N b, M = a :: (N ++ [b]) := by
    match M, hs with
    | [], h => exact absurd (by simp) h
    | [_], h => exact absurd (by simp) h
    | a :: c :: r, _ =>
     refine ⟨a, (c :: r).dropLast, (c :: r).getLast (by simp), ?_⟩; rw [List.dropLast_concat_getLast]
   (have hl2 : (a :: (N ++ [b])).length = N.length + 2 := by simp); (have e0 : X ++ (a :: (N ++ [b]) ++ Y) = X ++ a :: (N ++ b :: Y) := by simp); have h1 := ih N.length (by omega) (X ++ [b]) N (a :: Y) rfl (by simp; omega); (have e1 : (X ++ [b]) ++ (N.reverse ++ a :: Y) = X ++ ((a :: (N ++ [b])).reverse ++ Y) := by simp); (have e2 : (X ++ [b]) ++ (N ++ a :: Y) = (X ++ b :: N) ++ a :: Y := by simp); (have e3 : X ++ b :: (N ++ b :: Y) = (X ++ b :: N) ++ b :: Y := by simp); (have e4 : (X ++ b :: N).length = X.length + 1 + N.length := by simp; omega); rw [e1, e2] at h1; rw [e0]; obtain ⟨j, hj⟩ : ∃ j : Nat, (j : Int) = (X.length : Int) + ((a :: (N ++ [b])).length : Int) - 1 := ⟨X.length + N.length + 1, by omega⟩; (have hj2 : j = (X ++ b :: N).length := by omega); rw [← hj]
   have r1 : rd (X ++ a :: (N ++ b :: Y)) (j : Int) = b := by
    have : X ++ a :: (N ++ b :: Y) = (X ++ a :: N) ++ b :: Y := by simp
    rw [this]; exact rd_mid _ _ _ (by have : (X ++ a :: N).length = (X ++ b :: N).length := (by simp); omega)
   have r2 : rd (X ++ a :: (N ++ b :: Y)) (X.length : Int) = a := rd_mid _ _ _ rfl; (have hl3 : (X ++ a :: (N ++ b :: Y)).length = X.length + N.length + Y.length + 2 := by simp; omega); (have hl4 : ((X ++ [b]).length : Int) = (X.length : Int) + 1 := by simp); refine Ev.step (fun k => ?_) h1; rw [Qa.slices_Reverse_byte_byte.l0, if_pos (by omega), if_pos (by omega), if_pos (by omega), if_pos (by omega), if_pos (by omega), r1, r2, Int.toNat_natCast, Int.toNat_natCast, set_mid, e3, hj2, set_mid, ← hj2, w6 (by omega) (by omega), w6 (by omega) (by omega), hl4]; congr 1; omega
theorem rev_ev (l : List Int) (hl : l.length ≤ 100000) : Ev (fun k => Qa.slices_Reverse_byte_byte.f k l) l.reverse := by
 have := rev_loop l.length [] l [] rfl (by simpa using hl); simp only [List.nil_append, List.append_nil, List.length_nil] at this; refine Ev.congr (fun k => ?_) this; unfold Qa.slices_Reverse_byte_byte.f; rw [w6 (by omega) (by omega)]; congr 1; omega
def pad : Nat → Nat → List Int
 | 0, _ => []
 | m + 1, r => ((r % 10 : Nat) : Int) :: pad m (r / 10)
def asc (l : List Int) : List Int := l.map fun d => 48 + d
theorem dt_pos {n : Nat} (h : 0 < n) : dt n = ((n % 10 : Nat) : Int) :: dt (n / 10) := dg_pos two10 h
theorem dt_pad : ∀ (m r q : Nat), 0 < q → r < 10 ^ m → dt (r + 10 ^ m * q) = pad m r ++ dt q
 | 0, r, q, hq, hr => by
  have : r = 0 := by simpa using hr
  subst this
  simp [pad]
 | m + 1, r, q, hq, hr => by
  have hp : 0 < 10 ^ (m + 1) * q := Nat.mul_pos (Nat.pow_pos (by omega)) hq; have ih := dt_pad m (r / 10) q hq (by rw [Nat.pow_succ] at hr; omega); (have e : 10 ^ (m + 1) * q = 10 * (10 ^ m * q) := by rw [Nat.pow_succ]; simp [Nat.mul_comm, Nat.mul_assoc, Nat.mul_left_comm]); rw [dt_pos (by omega), e]; (have e1 : (r + 10 * (10 ^ m * q)) % 10 = r % 10 := by omega); (have e2 : (r + 10 * (10 ^ m * q)) / 10 = r / 10 + 10 ^ m * q := by omega); rw [e1, e2, ih]; rfl
theorem pad_len : ∀ (m r : Nat), (pad m r).length = m
 | 0, _ => rfl
 | m + 1, r => by rw [pad, List.length_cons, pad_len m]
theorem asc_cons (d : Int) (l : List Int) : asc (d :: l) = (48 + d) :: asc l := rfl
theorem text_emit (b Q : List Int) (r i k : Nat) (hi : i < 9) (hb : b.length ≤ 100000) (hr : r < 1000000000) (hgo : 0 < Q.length ∨ 0 < r) :
  Qa.num_text.l1 (k + 1) b Q (r : Int) (i : Int) = Qa.num_text.l1 k (b ++ [48 + ((r % 10 : Nat) : Int)]) Q ((r / 10 : Nat) : Int) ((i + 1 : Nat) : Int) := by
 (have e1 : ((48 + Int.tmod (r : Int) 10) % 4294967296) % 256 = 48 + ((r % 10 : Nat) : Int) := by rw [Int.tmod_eq_emod_of_nonneg (by omega)]; omega); (have e2 : Int.tdiv (r : Int) 10 % 4294967296 = ((r / 10 : Nat) : Int) := by rw [Int.tdiv_eq_ediv_of_nonneg (by omega)]; omega); (have e3 : wrap64 ((i : Int) + 1) = ((i + 1 : Nat) : Int) := by rw [w6 (by omega) (by omega)]; omega); rw [Qa.num_text.l1, if_pos (by omega), e1, e2, e3]; by_cases hq : (Q.length : Int) > 0
 ·rw [if_pos hq, if_pos (by omega)]
 ·rw [if_neg hq, if_pos (by omega), if_pos (by omega)]
theorem text_pad (Q : List Int) (hQ : 0 < Q.length) (R : ByteArray) : ∀ (m i r : Nat) (b : List Int), i + m = 9 → r < 1000000000 → b.length + m ≤ 100000 → Ev (fun k => Qa.num_text.l0 k Q (b ++ asc (pad m r))) R → Ev (fun k => Qa.num_text.l1 k b Q (r : Int) (i : Int)) R
 | 0, i, r, b, hi, hr, hb, h => by
  rw [show pad 0 r = [] from rfl, show asc [] = [] from rfl, List.append_nil] at h; refine Ev.step (fun k => ?_) h
  rw [Qa.num_text.l1, if_neg (by omega)]
 | m + 1, i, r, b, hi, hr, hb, h => by
  refine Ev.step (fun k => text_emit b Q r i k (by omega) (by omega) hr (.inl hQ)) (text_pad Q hQ R m (i + 1) (r / 10) _ (by omega) (by omega) (by simp; omega) ?_); rw [List.append_assoc]; exact h
theorem text_last (R : ByteArray) : ∀ (m i r : Nat) (b : List Int), i + m = 9 → r < 10 ^ m → r < 1000000000 → b.length + m ≤ 100000 → Ev (fun k => Qa.num_text.l0 k [] (b ++ asc (dt r))) R → Ev (fun k => Qa.num_text.l1 k b [] (r : Int) (i : Int)) R
 | m, i, 0, b, hi, hr, hr1, hb, h => by
  rw [show dt 0 = [] from dg_zero _, show asc [] = [] from rfl, List.append_nil] at h; refine Ev.step (fun k => ?_) h; rw [Qa.num_text.l1]; by_cases h9 : (i : Int) < 9
  ·rw [if_pos h9, if_neg (by simp), if_neg (by omega)]
  ·rw [if_neg h9]
 | 0, i, r + 1, b, hi, hr, hr1, hb, h => by simp at hr
 | m + 1, i, r + 1, b, hi, hr, hr1, hb, h => by
  refine Ev.step (fun k => text_emit b [] (r + 1) i k (by omega) (by omega) hr1 (.inr (by omega))) (text_last R m (i + 1) ((r + 1) / 10) _ (by omega) (by rw [Nat.pow_succ] at hr; omega) (by omega) (by simp; omega) ?_); rw [dt_pos (show 0 < r + 1 by omega), asc_cons] at h; rw [List.append_assoc]; exact h
theorem db_zero : db 0 = [] := dg_zero _
theorem db_pos {n : Nat} (h : 0 < n) : 0 < (db n).length := List.length_pos_iff.2 (dg_ne twoL h)
theorem db_mono {x y : Nat} (h : y ≤ x) : (db y).length ≤ (db x).length := by
 rcases Nat.lt_or_ge (db x).length (db y).length with h1 | h1
 ·have := dg_len_lt twoL h1; omega
 ·exact h1
theorem text_loop : ∀ (x : Nat) (b : List Int), (db x).length ≤ 10000 → b.length + (dt x).length + 9 ≤ 100000 → Ev (fun k => Qa.num_text.l0 k (db x) b) (strOfNums (b ++ asc (dt x)).reverse) := by
 intro x
 induction x using Nat.strongRecOn with
 | ind x ih =>
  intro b hx hb; rcases Nat.eq_zero_or_pos x with h | h
  ·subst h; rw [show dt 0 = [] from dg_zero _, show asc [] = [] from rfl, List.append_nil]; refine Ev.step (f := fun k => (Qa.slices_Reverse_byte_byte.f k b).bind fun t143 => some (strOfNums t143)) (fun k => ?_) (Ev.bind (rev_ev b (by omega)) (Ev.just fun k => rfl)); rw [Qa.num_text.l0, if_neg (by rw [db_zero]; simp)]
  ·have hp := db_pos h; refine Ev.step (f := fun k => (Qa.num_byWord.f k (db x) 1000000000).bind fun bt144 => (Qa.num_text.l1 k b bt144.1 bt144.2 0)) (fun k => ?_) (Ev.bind (byWord_ev hx) ?_)
   ·rw [Qa.num_text.l0, if_pos (by omega)]
   ·have hm := db_mono (show x / 1000000000 ≤ x by omega); show Ev (fun k => Qa.num_text.l1 k b (db (x / 1000000000)) ((x % 1000000000 : Nat) : Int) ((0 : Nat) : Int)) _; rcases Nat.eq_zero_or_pos (x / 1000000000) with hq | hq
    ·(have hlt : x < 1000000000 := by omega); have e : x % 1000000000 = x := Nat.mod_eq_of_lt hlt; have h0 := ih 0 (by omega) (b ++ asc (dt x)) (by rw [db_zero]; simp) (by rw [show dt 0 = [] from dg_zero _]; simp [asc]; omega); rw [show dt 0 = [] from dg_zero _, show asc [] = [] from rfl, List.append_nil, db_zero] at h0; rw [hq, db_zero, e]; exact text_last _ 9 0 x b rfl (by omega) hlt (by omega) h0
    ·have hd := dt_pad 9 (x % 1000000000) (x / 1000000000) hq (by omega); (have e : x % 1000000000 + 10 ^ 9 * (x / 1000000000) = x := by omega); rw [e] at hd; have hdl := congrArg List.length hd; rw [List.length_append, pad_len] at hdl; have h0 := ih (x / 1000000000) (by omega) (b ++ asc (pad 9 (x % 1000000000))) (by omega) (by rw [List.length_append]; simp only [asc, List.length_map, pad_len]; omega); (have e2 : b ++ asc (pad 9 (x % 1000000000)) ++ asc (dt (x / 1000000000)) = b ++ asc (dt x) := by rw [hd]; simp [asc]); rw [e2] at h0; exact text_pad _ (db_pos hq) _ 9 0 _ b rfl (by omega) (by omega) h0
theorem text_ev {x : Nat} (hx : x < 10 ^ 80) : Ev (fun k => Qa.num_text.f k (db x)) (txt x) := by
 have h1 : (db x).length ≤ 10 := dg_len_le twoL (by omega); have h2 : (dt x).length ≤ 80 := dg_len_le two10 hx; rcases Nat.eq_zero_or_pos x with h | h
 ·subst h; refine Ev.just fun k => ?_; unfold Qa.num_text.f; rw [if_pos (by rw [db_zero]; rfl)]; rfl
 ·have hp := db_pos h; have := text_loop x [] (by omega) (by simp; omega)
  have e : strOfNums (([] : List Int) ++ asc (dt x)).reverse = txt x := by
   unfold txt dtext asc; rw [if_neg (by omega), List.nil_append, List.map_reverse]
  rw [e] at this; refine Ev.congr (fun k => ?_) this; unfold Qa.num_text.f; rw [if_neg (by omega)]
theorem db_one : db 1 = [1] := dg_small twoL (by omega) (by omega)
theorem rnum_ev {x : Nat} (hx : x < 10 ^ 80) : Ev (fun k => Qa.num_Rat_Num.f k false (db x) false (db 1)) (txt x, 0) := by
 have s1 : (txt x).size ≤ 80 := txt_size (by omega) hx; unfold Qa.num_Rat_Num.f; refine Ev.bind (text_ev hx) (Ev.congr (fun k => if_neg (by omega)) (Ev.congr (fun k => if_neg (by decide)) (now1 fun k => ?_))); rw [Qa.num_Rat_Num.j0, db_one]; rfl
theorem fromInt_ev (x : Nat) : Ev (fun k => Qa.num_FromIntV.f k false (db x)) (false, db x, false, db 1) := by
 unfold Qa.num_FromIntV.f Qa.num_FromInt.f; exact Ev.bind (of_ev 1 (by omega)) (Ev.just fun k => rfl)
/-- The next row: each place and the one that lies i before it, around. -/
def nx (i : Nat) (row : List Nat) : List Nat := List.zipWith (· + ·) row (row.drop (row.length - i) ++ row.take (row.length - i))
def rowN (n : Nat) : Nat → List Nat
 | 0 => 1 :: List.replicate n 0
 | i + 1 => nx (i + 1) (rowN n i)
/-- The size of a code. -/
def cnt (n a : Nat) : Nat := (rowN n n).getD a 0
def src (N i v : Nat) : Nat := if v < i then v + N - i else v - i
theorem nx_len (i : Nat) (row : List Nat) : (nx i row).length = row.length := by
 unfold nx; rw [List.length_zipWith, List.length_append, List.length_drop, List.length_take]; omega
theorem rowN_len (n : Nat) : ∀ i, (rowN n i).length = n + 1
 | 0 => by simp [rowN]
 | i + 1 => by rw [rowN, nx_len, rowN_len n i]
theorem nx_get (i : Nat) (row : List Nat) (v : Nat) (hi : i ≤ row.length) (hv : v < row.length) : (nx i row).getD v 0 = row.getD v 0 + row.getD (src row.length i v) 0 := by
 have hs : src row.length i v < row.length := by unfold src; split <;> omega
 have h2 : (row.drop (row.length - i) ++ row.take (row.length - i))[v]? = some (row[src row.length i v]'hs) := by
  by_cases h : v < i
  ·rw [List.getElem?_append_left (by rw [List.length_drop]; omega), List.getElem?_drop]
   have : src row.length i v = row.length - i + v := by unfold src; rw [if_pos h]; omega
   rw [← this, List.getElem?_eq_getElem hs]
  ·rw [List.getElem?_append_right (by rw [List.length_drop]; omega), List.length_drop, List.getElem?_take, if_pos (by omega)]
   have : src row.length i v = v - (row.length - (row.length - i)) := by unfold src; rw [if_neg h]; omega
   rw [← this, List.getElem?_eq_getElem hs]
 unfold nx; rw [List.getD_eq_getElem?_getD, List.getElem?_zipWith, h2, List.getElem?_eq_getElem hv, List.getD_eq_getElem?_getD, List.getD_eq_getElem?_getD, List.getElem?_eq_getElem hv, List.getElem?_eq_getElem hs]; rfl
theorem rowN_le (n : Nat) : ∀ i v, (rowN n i).getD v 0 ≤ 2 ^ i
 | 0, v => by
  cases v with
  | zero => simp [rowN]
  | succ v => simp [rowN, List.getD_eq_getElem?_getD, List.getElem?_replicate]; split <;> simp
 | i + 1, v => by
  have hl := rowN_len n i; rw [rowN]; by_cases hv : v < (rowN n i).length
  ·by_cases hi : i + 1 ≤ (rowN n i).length
   ·rw [nx_get _ _ _ hi hv, Nat.pow_succ]; have h1 := rowN_le n i v; have h2 := rowN_le n i (src (rowN n i).length (i + 1) v); omega
   ·(have e : (rowN n i).length - (i + 1) = 0 := by omega); unfold nx; rw [e, List.drop_zero, List.take_zero, List.append_nil, List.getD_eq_getElem?_getD, List.getElem?_zipWith, List.getElem?_eq_getElem hv, Nat.pow_succ]; have h1 := rowN_le n i v; rw [List.getD_eq_getElem?_getD, List.getElem?_eq_getElem hv] at h1; simp only [Option.getD_some] at h1 ⊢; omega
  ·rw [List.getD_eq_getElem?_getD, List.getElem?_eq_none (by rw [nx_len]; omega)]; exact Nat.zero_le _
theorem two200 : 2 ^ 200 < 10 ^ 80 := by decide
theorem rowN_lt {n i : Nat} (hi : i ≤ 200) (v : Nat) : (rowN n i).getD v 0 < 10 ^ 80 := by
 have h1 := rowN_le n i v; have h2 : 2 ^ i ≤ 2 ^ 200 := Nat.pow_le_pow_right (by omega) hi; have := two200; omega
theorem db80 {x : Nat} (h : x < 10 ^ 80) : (db x).length ≤ 10 := dg_len_le twoL (by omega)
theorem d480 {x : Nat} (h : x < 10 ^ 80) : (d4 x).length ≤ 20 := dg_len_le two4 (by omega)
/-- The row, a step under way: the places whose other one lies below r are done. -/
def px (i : Nat) (row : List Nat) (r : Nat) : List Nat := (List.range row.length).map fun v => row.getD v 0 + if src row.length i v < r then row.getD (src row.length i v) 0 else 0
theorem px_len (i : Nat) (row : List Nat) (r : Nat) : (px i row r).length = row.length := by simp [px]
theorem px_get (i : Nat) (row : List Nat) (r v : Nat) (hv : v < row.length) : (px i row r).getD v 0 = row.getD v 0 + if src row.length i v < r then row.getD (src row.length i v) 0 else 0 := by
 simp [px, List.getD_eq_getElem?_getD, List.getElem?_map, List.getElem?_range hv]
theorem ext_getD {l m : List Nat} (h : l.length = m.length) (h2 : ∀ v, v < l.length → l.getD v 0 = m.getD v 0) : l = m := by
 apply List.ext_getElem h; intro v h1 h3; have := h2 v h1; rw [List.getD_eq_getElem?_getD, List.getD_eq_getElem?_getD, List.getElem?_eq_getElem h1, List.getElem?_eq_getElem h3] at this; exact this
theorem px_zero (i : Nat) (row : List Nat) : px i row 0 = row := by
 refine ext_getD (px_len _ _ _) fun v hv => ?_; rw [px_len] at hv; rw [px_get _ _ _ _ hv, if_neg (by omega)]; rfl
theorem px_all (i : Nat) (row : List Nat) (hi : i ≤ row.length) : px i row row.length = nx i row := by
 refine ext_getD (by rw [px_len, nx_len]) fun v hv => ?_; rw [px_len] at hv; rw [px_get _ _ _ _ hv, nx_get _ _ _ hi hv, if_pos (by unfold src; split <;> omega)]
/-- Where place r goes to. -/
def dst (N i r : Nat) : Nat := if r + i < N then r + i else r + i - N
theorem src_dst {N i r v : Nat} (hi : 1 ≤ i) (hi2 : i < N) (hr : r < N) (hv : v < N) : src N i v = r ↔ v = dst N i r := by
 unfold src dst; split <;> split <;> omega
theorem dst_lt {N i r : Nat} (hi2 : i < N) (hr : r < N) : dst N i r < N := by
 unfold dst; split <;> omega
theorem px_step (i : Nat) (row : List Nat) (r : Nat) (hi : 1 ≤ i) (hi2 : i < row.length) (hr : r < row.length) : (px i row r).set (dst row.length i r) ((px i row r).getD (dst row.length i r) 0 + row.getD r 0) = px i row (r + 1) := by
 refine ext_getD (by rw [List.length_set, px_len, px_len]) fun v hv => ?_; rw [List.length_set, px_len] at hv; have hd := dst_lt hi2 hr; have hs := src_dst hi hi2 hr hv; rw [px_get _ _ _ _ hv, px_get _ _ _ _ hd]; have hsd := (src_dst hi hi2 hr hd).2 rfl; by_cases e : v = dst row.length i r
 ·subst e; rw [List.getD_eq_getElem?_getD, List.getElem?_set_self (by rw [px_len]; exact hd), hsd, if_neg (by omega), if_pos (by omega)]; rfl
 ·rw [List.getD_eq_getElem?_getD, List.getElem?_set_ne (fun h => e h.symm), ← List.getD_eq_getElem?_getD, px_get _ _ _ _ hv]; have hne : src row.length i v ≠ r := fun h => e (hs.1 h); by_cases h : src row.length i v < r
  ·rw [if_pos h, if_pos (by omega)]
  ·rw [if_neg h, if_neg (by omega)]
theorem dst_mod {n i r : Nat} (hn : n ≤ 1000) (hi2 : i ≤ n) (hr : r ≤ n) : Int.tmod (wrap64 ((r : Int) + (i : Int))) (wrap64 ((n : Int) + 1)) = ((dst (n + 1) i r : Nat) : Int) := by
 rw [w6 (by omega) (by omega), w6 (by omega) (by omega), Int.tmod_eq_emod_of_nonneg (by omega)]; unfold dst; split
 ·rw [Int.emod_eq_of_lt (by omega) (by omega)]; omega
 ·(have e : (r : Int) + (i : Int) = ((r + i - (n + 1) : Nat) : Int) + ((n : Int) + 1) := by omega); rw [e, Int.add_emod_right, Int.emod_eq_of_lt (by omega) (by omega)]
def tb (row : List Nat) : List Qa.S52 := row.map fun v => ⟨false, db v⟩
theorem tb_len (row : List Nat) : (tb row).length = row.length := by simp [tb]
theorem tb_rd (row : List Nat) (v : Nat) : Qa.rd_T52 (tb row) (v : Int) = ⟨false, db (row.getD v 0)⟩ := by
 unfold Qa.rd_T52 tb; rw [Int.toNat_natCast, List.getD_eq_getElem?_getD, List.getElem?_map, List.getD_eq_getElem?_getD]
 cases row[v]? with
 | none => simp only [Option.map_none, Option.getD_none, db_zero]; rfl
 | some x => rfl
theorem tb_set (row : List Nat) (t x : Nat) : (tb row).set t ⟨false, db x⟩ = tb (row.set t x) := by simp [tb, List.map_set]
theorem size_l1 (n i a : Nat) (hn : n ≤ 200) (hi : 1 ≤ i) (hi2 : i ≤ n) (R : ByteArray × Int) (hR : Ev (fun k => Qa.mark_Size.l0 k (n : Int) (a : Int) (tb (rowN n i)) ((i + 1 : Nat) : Int)) R) : ∀ (d r : Nat), r + d = n + 1 →
  Ev (fun k => Qa.mark_Size.l1 k (n : Int) (a : Int) (i : Int) (tb (px i (rowN n (i - 1)) r)) (tb (rowN n (i - 1))) ((n + 1 : Nat) : Int) (r : Int)) R := by
 intro d; have hl := rowN_len n (i - 1)
 induction d with
 | zero =>
  intro r hr
  have e : px i (rowN n (i - 1)) r = rowN n i := by
   have : r = (rowN n (i - 1)).length := by omega
   rw [this, px_all _ _ (by omega)]; obtain ⟨j, rfl⟩ : ∃ j, i = j + 1 := ⟨i - 1, by omega⟩; rfl
  rw [e]; refine Ev.step (fun k => ?_) hR; rw [Qa.mark_Size.l1, if_neg (by omega), w6 (by omega) (by omega)]
  rfl
 | succ d ih =>
  intro r hr; have h1 := ih (r + 1) (by omega); have hd := dst_lt (N := (rowN n (i - 1)).length) (i := i) (r := r) (by omega) (by omega); rw [← px_step i (rowN n (i - 1)) r hi (by omega) (by omega), ← tb_set] at h1; have hm := dst_mod (n := n) (i := i) (r := r) (by omega) hi2 (by omega); rw [← hl] at hm
  have b1 : (db ((px i (rowN n (i - 1)) r).getD (dst (rowN n (i - 1)).length i r) 0)).length ≤ 10 := by
   rw [px_get _ _ _ _ hd, (src_dst hi (by omega) (by omega) hd).2 rfl, if_neg (by omega)]; exact db80 (rowN_lt (by omega) _)
  have b2 : (db ((rowN n (i - 1)).getD r 0)).length ≤ 10 := db80 (rowN_lt (by omega) _); have ha := iadd_ev (Nat.le_trans b1 (by decide)) (Nat.le_trans b2 (by decide)); clear b1 b2; have hw : wrap64 ((n : Int) + 1) = (n : Int) + 1 := w6 (by omega) (by omega); refine Ev.step (f := fun k => (Qa.num_Int_Add.f k false (db ((px i (rowN n (i - 1)) r).getD (dst (rowN n (i - 1)).length i r) 0)) false (db ((rowN n (i - 1)).getD r 0))).bind fun bt133 => (Qa.mark_Size.l1 k (n : Int) (a : Int) (i : Int) ((tb (px i (rowN n (i - 1)) r)).set (dst (rowN n (i - 1)).length i r) (⟨bt133.1, bt133.2⟩ : Qa.S52)) (tb (rowN n (i - 1))) ((n + 1 : Nat) : Int) ((r + 1 : Nat) : Int))) (fun k => ?_) (Ev.bind ha h1); rw [Qa.mark_Size.l1, if_pos (by omega), if_pos (by omega), if_pos (by rw [tb_len]; omega), if_neg (by omega), hm, if_pos (by omega), if_pos (by rw [tb_len, px_len]; omega), tb_rd, tb_rd, Int.toNat_natCast, w6 (x := (r : Int) + 1) (by omega) (by omega)]; rfl
theorem size_l0 (n a : Nat) (hn : n ≤ 200) (ha : a ≤ n) : ∀ (d i : Nat), i + d = n →
  Ev (fun k => Qa.mark_Size.l0 k (n : Int) (a : Int) (tb (rowN n i)) ((i + 1 : Nat) : Int)) (txt (cnt n a), 0) := by
 intro d
 induction d with
 | zero =>
  intro i hi; (obtain rfl : i = n := by omega); have hl := rowN_len i i; refine Ev.step (f := fun k => (Qa.num_FromIntV.f k false (db ((rowN i i).getD a 0))).bind fun bt117 => ((Qa.num_Rat_Num.f k bt117.1 bt117.2.1 bt117.2.2.1 bt117.2.2.2).bind fun bt125 => (some (bt125.1, bt125.2)))) (fun k => ?_) (Ev.bind (fromInt_ev _) (Ev.bind (rnum_ev (rowN_lt hn a)) (Ev.just fun k => rfl)))
  rw [Qa.mark_Size.l0, if_neg (by omega), if_pos (by omega), if_pos (by rw [tb_len]; omega), tb_rd]
 | succ d ih =>
  intro i hi; have h0 := ih (i + 1) (by omega); have h1 := size_l1 n (i + 1) a hn (by omega) (by omega) _ h0 (n + 1) 0 (by omega); rw [Nat.add_sub_cancel, px_zero] at h1; have hl := rowN_len n i; refine Ev.step (fun k => ?_) h1
  have hc : Qa.clone_Int.f (tb (rowN n i)) = some (tb (rowN n i)) := by
   unfold Qa.clone_Int.f; rw [if_neg (by intro h; have := congrArg List.length h; rw [tb_len, hl] at this; simp at this), Option.bind_some, if_pos (by rw [tb_len]; simp only [List.length_nil]; omega)]; rfl
  rw [Qa.mark_Size.l0, if_pos (by omega), hc, Option.bind_some, tb_len, hl]; rfl
theorem tb_zero (n : Nat) : List.replicate (n + 1) (⟨false, []⟩ : Qa.S52) = tb (List.replicate (n + 1) 0) := by simp [tb, db_zero]
theorem size_ev (n a : Nat) (h1 : 1 ≤ n) (hn : n ≤ 200) (ha : a ≤ n) : Ev (fun k => Qa.mark_Size.f k (n : Int) (a : Int)) (txt (cnt n a), 0) := by
 have h := size_l0 n a hn ha n 0 (by omega); have o0 := of_ev 0 (by omega); have o1 := of_ev 1 (by omega); rw [db_zero] at o0
 have hr : Qa.rep_Int.f [(⟨false, []⟩ : Qa.S52)] (wrap64 ((n : Int) + 1)) = some (tb (List.replicate (n + 1) 0)) := by
  rw [w6 (by omega) (by omega)]; unfold Qa.rep_Int.f; rw [if_pos ⟨rfl, by omega, by omega⟩, show ((n : Int) + 1).toNat = n + 1 by omega, ← tb_zero]; rfl
 have hd : decide ((a : Int) > (n : Int)) = false := decide_eq_false (by omega)
 have e0 : (tb (List.replicate (n + 1) 0)).set (0 : Int).toNat ⟨false, db 1⟩ = tb (rowN n 0) := by
  show (tb (List.replicate (n + 1) 0)).set 0 ⟨false, db 1⟩ = _; rw [tb_set, List.replicate_succ, List.set_cons_zero]; rfl
 refine Ev.congr (g := fun k => Qa.mark_Size.f k (n : Int) (a : Int)) (f := fun k => Qa.mark_Size.j0 k (n : Int) (a : Int) false) (fun k => ?_) ?_
 ·unfold Qa.mark_Size.f; rw [if_neg (by omega), if_neg (by omega), if_neg (by omega), hd]
 refine Ev.step (f := fun k => (Qa.num_Of.f k 0).bind fun bt101 => ((Qa.rep_Int.f (([(⟨bt101.1, bt101.2⟩ : Qa.S52)] : List (Qa.S52))) (wrap64 ((n : Int) + 1))).bind fun t108 => ((Qa.num_Of.f k 1).bind fun bt111 => (if 0 < (t108.length : Int) then (Qa.mark_Size.l0 k (n : Int) (a : Int) (t108.set (0 : Int).toNat (⟨bt111.1, bt111.2⟩ : Qa.S52)) 1) else (none))))) (fun k => ?_) (Ev.bind o0 ?_)
 ·rw [Qa.mark_Size.j0, if_neg (by decide)]
 ·refine Ev.congr (fun k => ?_) (Ev.bind o1 (f := fun k bt111 => if 0 < ((tb (List.replicate (n + 1) 0)).length : Int) then (Qa.mark_Size.l0 k (n : Int) (a : Int) ((tb (List.replicate (n + 1) 0)).set (0 : Int).toNat (⟨bt111.1, bt111.2⟩ : Qa.S52)) 1) else (none)) (Ev.congr (fun k => if_pos (by rw [tb_len]; simp)) ?_))
  ·rw [hr, Option.bind_some]; rfl
  ·rw [e0]; exact h
end Go.Proofs.YtopmcoohdhlnaaaGreatDoor.N
namespace Go.Proofs.YtopmcoohdhlnaaaGreatDoor.N
set_option linter.unusedVariables false
set_option linter.unusedSimpArgs false
abbrev BB : Nat := 18446744073709551616
def nxE (i N e : Nat) : Nat := e + (e % BB ^ (N - i)) * BB ^ i + e / BB ^ (N - i)
/-- A number is reckoned before it is handed on. -/
def fz (e : Nat) (k : Nat → Bool) : Bool := match e with
 | 0 => k 0
 | m + 1 => k (m + 1)
theorem fz_eq (e : Nat) (k : Nat → Bool) : fz e k = k e := by cases e <;> rfl
def chk (n f s : Nat) : Nat → Nat → Nat → Bool
 | 0, _, acc => Nat.beq acc (2 ^ n)
 | k + 1, e, acc => fz (e % BB) fun x => Nat.ble x f && (Nat.ble s x && fz (e / BB) fun e' => fz (acc + x) fun a => chk n f s k e' a)
def goE (n : Nat) : Nat → Nat → Nat → Bool
 | 0, _, e => fz (e % BB) fun f => fz (e / BB % BB) fun s => chk n f s (n + 1) e 0
 | d + 1, i, e => fz (nxE (i + 1) (n + 1) e) fun e' => goE n d (i + 1) e'
theorem goE_all : ((List.range 60).all fun m => goE (m + 1) (m + 1) 0 1) = true := by decide +kernel
/-- A row as one number. -/
def en : List Nat → Nat
 | [] => 0
 | x :: r => x + BB * en r
theorem en_append : ∀ a b : List Nat, en (a ++ b) = en a + BB ^ a.length * en b
 | [], b => by simp [en]
 | x :: r, b => by
  have := en_append r b; rw [List.cons_append, en, en, this, List.length_cons, Nat.pow_succ]; generalize BB ^ r.length = p; generalize BB = q
  grind
theorem en_zip : ∀ a b : List Nat, a.length = b.length → en (List.zipWith (· + ·) a b) = en a + en b
 | [], [], _ => rfl
 | x :: r, y :: s, h => by
  have := en_zip r s (by simpa using h); rw [List.zipWith_cons_cons, en, en, en, this]; generalize BB = q
  grind
def Lo (l : List Nat) : Prop := ∀ x ∈ l, x < BB
theorem en_lt : ∀ l : List Nat, Lo l → en l < BB ^ l.length
 | [], _ => by simp [en]
 | x :: r, h => by
  have i1 := en_lt r (fun y hy => h y (List.mem_cons_of_mem _ hy)); have i2 := h x (by simp); rw [en, List.length_cons, Nat.pow_succ, Nat.mul_comm (BB ^ r.length)]
  have : BB * (en r + 1) ≤ BB * BB ^ r.length := Nat.mul_le_mul_left BB i1
  rw [Nat.mul_add] at this; omega
theorem en_cut (l : List Nat) (h : Lo l) (m : Nat) (hm : m ≤ l.length) : en (l.take m) = en l % BB ^ m ∧ en (l.drop m) = en l / BB ^ m := by
 have e : en l = en (l.take m) + BB ^ m * en (l.drop m) := by
  conv => lhs; rw [← List.take_append_drop m l]
  rw [en_append, List.length_take, Nat.min_eq_left hm]
 have h1 := en_lt (l.take m) (fun x hx => h x (List.mem_of_mem_take hx)); rw [List.length_take, Nat.min_eq_left hm] at h1; have hp : 0 < BB ^ m := Nat.pow_pos (by decide); rw [e]; exact ⟨by rw [Nat.add_mul_mod_self_left, Nat.mod_eq_of_lt h1], by rw [Nat.add_mul_div_left _ _ hp, Nat.div_eq_of_lt h1, Nat.zero_add]⟩
theorem en_nx (i : Nat) (row : List Nat) (h : Lo row) (hi : i ≤ row.length) : en (nx i row) = nxE i row.length (en row) := by
 obtain ⟨h1, h2⟩ := en_cut row h (row.length - i) (by omega); unfold nx nxE; rw [en_zip _ _ (by rw [List.length_append, List.length_drop, List.length_take]; omega), en_append, List.length_drop, h1, h2, show row.length - (row.length - i) = i by omega]; generalize en row % BB ^ (row.length - i) = a; generalize en row / BB ^ (row.length - i) = b; generalize BB ^ i = p; generalize en row = c
 grind
theorem rowN_lo {n i : Nat} (hi : i ≤ 60) : Lo (rowN n i) := by
 intro x hx; obtain ⟨v, hv, rfl⟩ := List.getElem_of_mem hx; have h1 := rowN_le n i v; rw [List.getD_eq_getElem?_getD, List.getElem?_eq_getElem hv, Option.getD_some] at h1; have h2 : 2 ^ i ≤ 2 ^ 60 := Nat.pow_le_pow_right (by omega) hi; (have h3 : 2 ^ 60 < BB := by decide); omega
theorem en_zeros (n : Nat) : en (List.replicate n 0) = 0 := by
 induction n with
 | zero => rfl
 | succ n ih => rw [List.replicate_succ, en, ih, Nat.mul_zero]
theorem goE_row (n : Nat) (hn : n ≤ 60) : ∀ d i, i + d = n → goE n d i (en (rowN n i)) = goE n 0 n (en (rowN n n)) := by
 intro d
 induction d with
 | zero =>
  intro i hi; obtain rfl : i = n := by omega
  rfl
 | succ d ih =>
  intro i hi; have hl := rowN_len n i; have := ih (i + 1) (by omega); rw [rowN, en_nx (i + 1) (rowN n i) (rowN_lo (by omega)) (by omega), hl] at this; have e : goE n (d + 1) i (en (rowN n i)) = goE n d (i + 1) (nxE (i + 1) (n + 1) (en (rowN n i))) := fz_eq _ _; rw [e]; exact this
theorem chk_spec (n f s : Nat) : ∀ (l : List Nat) (acc : Nat), Lo l → chk n f s l.length (en l) acc = true → (∀ x ∈ l, x ≤ f ∧ s ≤ x) ∧ acc + l.sum = 2 ^ n
 | [], acc, _, h => by
  refine ⟨fun x hx => by simp at hx, ?_⟩; rw [List.length_nil, chk] at h
  simpa using Nat.eq_of_beq_eq_true h
 | x :: r, acc, hL, h => by
  have hx := hL x (by simp); (have m1 : en (x :: r) % BB = x := by rw [en, Nat.add_mul_mod_self_left, Nat.mod_eq_of_lt hx]); (have m2 : en (x :: r) / BB = en r := by rw [en, Nat.add_mul_div_left _ _ (by decide), Nat.div_eq_of_lt hx, Nat.zero_add]); rw [List.length_cons, chk, m1, m2, fz_eq, fz_eq, fz_eq, Bool.and_eq_true, Bool.and_eq_true] at h; obtain ⟨h1, h2, h3⟩ := h; obtain ⟨i1, i2⟩ := chk_spec n f s r (acc + x) (fun y hy => hL y (List.mem_cons_of_mem _ hy)) h3; refine ⟨fun y hy => ?_, by rw [List.sum_cons]; omega⟩; rcases List.mem_cons.1 hy with e | e
  ·subst e; exact ⟨Nat.le_of_ble_eq_true h1, Nat.le_of_ble_eq_true h2⟩
  ·exact i1 y e
/-- What is asked of the sizes. -/
theorem sizes_all (n : Nat) (h1 : 1 ≤ n) (hn : n ≤ 60) : (∀ a, a ≤ n → cnt n a ≤ cnt n 0 ∧ cnt n 1 ≤ cnt n a) ∧ (rowN n n).sum = 2 ^ n := by
 have hk := List.all_eq_true.1 goE_all (n - 1) (List.mem_range.2 (by omega)); (have e1 : n - 1 + 1 = n := by omega); rw [e1] at hk; (have e0 : en (rowN n 0) = 1 := by rw [rowN, en, en_zeros, Nat.mul_zero]); have h2 := goE_row n hn n 0 (by omega); rw [e0, hk] at h2; have hl := rowN_len n n; have hLo : Lo (rowN n n) := rowN_lo hn
 obtain ⟨x, y, r, hr⟩ : ∃ x y r, rowN n n = x :: y :: r := by
  match hq : rowN n n with
  | [] => rw [hq] at hl; simp at hl
  | [_] => rw [hq] at hl; simp at hl; omega
  | x :: y :: r => exact ⟨x, y, r, rfl⟩
 have hx : x < BB := hLo x (by rw [hr]; simp); have hy : y < BB := hLo y (by rw [hr]; simp); (have m1 : en (rowN n n) % BB = x := by rw [hr, en, Nat.add_mul_mod_self_left, Nat.mod_eq_of_lt hx]); (have m2 : en (rowN n n) / BB % BB = y := by rw [hr, en, Nat.add_mul_div_left _ _ (by decide), Nat.div_eq_of_lt hx, Nat.zero_add, en, Nat.add_mul_mod_self_left, Nat.mod_eq_of_lt hy]); have h3 : goE n 0 n (en (rowN n n)) = true := h2.symm; rw [goE, m1, m2, fz_eq, fz_eq, ← hl] at h3; obtain ⟨c1, c2⟩ := chk_spec n x y (rowN n n) 0 hLo h3; (have g0 : cnt n 0 = x := by unfold cnt; rw [hr]; rfl); (have g1 : cnt n 1 = y := by unfold cnt; rw [hr]; rfl); refine ⟨fun a ha => ?_, by omega⟩; rw [g0, g1]
 have hm : cnt n a ∈ rowN n n := by
  unfold cnt; rw [List.getD_eq_getElem?_getD, List.getElem?_eq_getElem (by omega)]; exact List.getElem_mem _
 exact c1 _ hm
end Go.Proofs.YtopmcoohdhlnaaaGreatDoor.N
namespace Go.Proofs.YtopmcoohdhlnaaaGreatDoor.N
open Go Go.RowKit Go.Proofs.YtopmcoohdhlnaaaGreatDoorW.PrintWords Go.Proofs.YtopmcoohdhlnaaaGreatDoorW.PrintLast Go.Proofs.YtopmcoohdhlnaaaGreatDoorW.PrintMore
set_option linter.unusedVariables false
set_option linter.unusedSimpArgs false
/-- The decimal digits that are written: 0 has one, too. -/
def tl (x : Nat) : List Int := if x = 0 then [0] else dt x
theorem txt_tl (x : Nat) : txt x = dtext (tl x) := by
 unfold txt tl; split
 ·rfl
 ·rfl
theorem Dg_tl (x : Nat) : Dg 10 (tl x) := by
 unfold tl; split
 ·exact Dg_cons (by omega) (by omega) (Dg_nil _)
 ·exact Dg_dg two10 x
theorem vl_tl (x : Nat) : vl 10 (tl x) = (x : Int) := by
 unfold tl; split
 ·rename_i h; subst h; rfl
 ·exact vl_dg two10 x
theorem tl_len {x : Nat} (h : x < 10 ^ 80) : 1 ≤ (tl x).length ∧ (tl x).length ≤ 80 := by
 unfold tl; split
 ·simp
 ·exact ⟨List.length_pos_iff.2 (dg_ne two10 (by omega)), dg_len_le two10 h⟩
theorem dtext_at (L : List Int) (h : Dg 10 L) (p : Nat) (hp : p < L.length) : bt (dtext L) (p : Int) = 48 + rd L ((L.length - 1 - p : Nat) : Int) := by
 (have hq : L.length - 1 - p < L.length := by omega); have r := rd_range two10 h ((L.length - 1 - p : Nat) : Int)
 have e0 : rd L ((L.length - 1 - p : Nat) : Int) = L[L.length - 1 - p] := by
  unfold rd; rw [Int.toNat_natCast, List.getD_eq_getElem?_getD, List.getElem?_eq_getElem hq]; rfl
 have hl : (dtext L).data.toList = (L.reverse.map fun d => 48 + d).map fun n => UInt8.ofNat n.toNat := by
  unfold dtext strOfNums; simp
 (have hs : ((p : Nat) : Int).toNat < (dtext L).size := by rw [dtext_size, Int.toNat_natCast]; exact hp); unfold bt; rw [dif_pos hs]; have hp2 : p < (dtext L).data.toList.length := by rw [hl]; simpa using hp
 have e2 : (dtext L)[((p : Nat) : Int).toNat]'hs = UInt8.ofNat (48 + rd L ((L.length - 1 - p : Nat) : Int)).toNat := by
  have h3 : (dtext L).data.toList[p]'hp2 = UInt8.ofNat (48 + rd L ((L.length - 1 - p : Nat) : Int)).toNat := by
   have h4 := congrArg (fun z => z[p]?) hl; simp only [List.getElem?_map, List.getElem?_reverse hp, List.getElem?_eq_getElem hq, Option.map_some] at h4; rw [List.getElem?_eq_getElem hp2] at h4; rw [e0]; exact Option.some.inj h4
  exact h3
 rw [e2, UInt8.toNat_ofNat']; omega
theorem dig_alg {v r b : Int} (v0 : 0 ≤ v) (v1 : v < 1000) (r0 : 0 ≤ r) (r1 : r < 10) (hb : b = 48 + r) : wrap64 (wrap64 (10 * v) + (b - 48) % 256) = r + 10 * v := by
 rw [hb, w6 (x := 10 * v) (by omega) (by omega), w6 (by omega) (by omega)]; omega
/-- The value of four digits, or fewer at the end. -/
theorem dig_l1 (L : List Int) (hL : Dg 10 L) (hn : L.length ≤ 80) (M : List Int) (hM : M.length ≤ 80) (at_ lo : Nat) (hat : at_ ≤ L.length) (hlo : lo = at_ - 4) (R : Bool × List Int × Bool)
  (hR : Ev (fun k => Qa.pritchelref01_digits.l0 k (dtext L) ((at_ : Int) - 4) false (M ++ [vl 10 ((L.take (L.length - lo)).drop (L.length - at_))])) R) : ∀ (d p : Nat), p + d = at_ → lo ≤ p →
  Ev (fun k => Qa.pritchelref01_digits.l1 k (dtext L) (at_ : Int) (vl 10 ((L.take (L.length - lo)).drop (L.length - p))) (p : Int) false M) R := by
 intro d
 induction d with
 | zero =>
  intro p hp hlp; (obtain rfl : p = at_ := by omega); refine Ev.step (fun k => ?_) hR
  rw [Qa.pritchelref01_digits.l1, if_neg (by omega), if_pos (by omega), w6 (by omega) (by omega)]
 | succ d ih =>
  intro p hp hlp; have ih1 := ih (p + 1) (by omega) (by omega); (have p1 : (p : Int) < (at_ : Int) := by omega); (have p2 : 0 ≤ (p : Int) := by omega); (have p3 : (p : Int) < ((dtext L).size : Int) := by rw [dtext_size]; omega); (have c2 : wrap64 ((p : Int) + 1) = ((p + 1 : Nat) : Int) := by rw [w6 (by omega) (by omega)]; omega); have hb := dtext_at L hL p (by omega); have r := rd_range two10 hL ((L.length - 1 - p : Nat) : Int); have hi : L.length - 1 - p < (L.take (L.length - lo)).length := by rw [List.length_take]; omega
  have e1 : (L.take (L.length - lo)).drop (L.length - (p + 1)) = rd L ((L.length - 1 - p : Nat) : Int) :: (L.take (L.length - lo)).drop (L.length - p) := by
   (have a1 : L.length - (p + 1) = L.length - 1 - p := by omega); (have a2 : L.length - p = L.length - 1 - p + 1 := by omega); rw [a1, a2, List.drop_eq_getElem_cons hi]; congr 1; unfold rd; rw [Int.toNat_natCast, List.getD_eq_getElem?_getD, List.getElem?_eq_getElem (by omega), List.getElem_take]; rfl
  have hDg : Dg 10 ((L.take (L.length - lo)).drop (L.length - p)) := Dg_drop (Dg_take hL _) _; have hv0 := vl_nonneg hDg; have hv1 := vl_lt two10 hDg; have hlen : ((L.take (L.length - lo)).drop (L.length - p)).length ≤ 3 := by rw [List.length_drop, List.length_take]; omega
  have hp10 : (10 : Int) ^ ((L.take (L.length - lo)).drop (L.length - p)).length ≤ 1000 := by
   have : ∀ j : Nat, j ≤ 3 → (10 : Int) ^ j ≤ 1000 := fun j hj => by
    rcases (show j = 0 ∨ j = 1 ∨ j = 2 ∨ j = 3 by omega) with rfl | rfl | rfl | rfl <;> decide
   exact this _ hlen
  rw [e1, vl] at ih1; have ee : ((10 : Nat) : Int) = 10 := rfl; rw [ee] at hv1 r ih1; obtain ⟨v, hv⟩ : ∃ v : Int, v = vl 10 ((L.take (L.length - lo)).drop (L.length - p)) := ⟨_, rfl⟩; rw [← hv] at ih1 hv0 hv1 ⊢; have c1 : wrap64 (wrap64 (10 * v) + (bt (dtext L) (p : Int) - 48) % 256) = rd L ((L.length - 1 - p : Nat) : Int) + 10 * v := dig_alg hv0 (Int.lt_of_lt_of_le hv1 hp10) r.1 r.2 hb; (have q1 : ¬ bt (dtext L) (p : Int) < 48 := by rw [hb]; exact Int.not_lt.2 (Int.le_add_of_nonneg_right r.1)); (have q2 : ¬ bt (dtext L) (p : Int) > 57 := by rw [hb]; exact Int.not_lt.2 (Int.le_trans (Int.add_le_add_left (Int.le_of_lt_add_one (b := 9) r.2) 48) (by decide))); refine Ev.step (fun k => ?_) ih1; rw [Qa.pritchelref01_digits.l1, if_pos p1, if_pos p2, if_pos p3, if_neg q1, if_neg q2, c1, c2]
theorem dig_l0 (L : List Int) (hL : Dg 10 L) (hn : L.length ≤ 80) : ∀ (d j : Nat) (M : List Int), L.length - 4 * j ≤ 4 * d → j ≤ 20 → M.length = j → Dg 10000 M → vl 10000 M = vl 10 (L.take (4 * j)) →
  Ev (fun k => Qa.pritchelref01_digits.l0 k (dtext L) ((L.length : Int) - 4 * (j : Int)) false M) (false, d4 (vl 10 L).toNat, true) := by
 have hend : ∀ (j : Nat) (M : List Int), L.length ≤ 4 * j → j ≤ 20 → M.length = j → Dg 10000 M → vl 10000 M = vl 10 (L.take (4 * j)) →
   Ev (fun k => Qa.pritchelref01_digits.l0 k (dtext L) ((L.length : Int) - 4 * (j : Int)) false M) (false, d4 (vl 10 L).toNat, true) := by
  intro j M hj hj2 hM hD hv; rw [vl_take_all _ hj] at hv; have h1 := lean_ev false M (by omega) hD; rw [hv] at h1; refine Ev.step (f := fun k => (Qa.pritchelref01_lean.f k false M).bind fun bt462 => (some (bt462.1, bt462.2, true))) (fun k => ?_) (Ev.bind h1 (Ev.just fun k => rfl)); rw [Qa.pritchelref01_digits.l0, if_neg (by omega)]
 intro d
 induction d with
 | zero =>
  intro j M hd hj hM hD hv
  exact hend j M (by omega) hj hM hD hv
 | succ d ih =>
  intro j M hd hj hM hD hv; by_cases hgo : L.length ≤ 4 * j
  ·exact hend j M hgo hj hM hD hv
  ·(have hj3 : j + 1 ≤ 20 := by omega); obtain ⟨a, ha⟩ : ∃ a : Nat, a = L.length - 4 * j := ⟨_, rfl⟩; have hG : Dg 10 ((L.take (L.length - (a - 4))).drop (L.length - a)) := Dg_drop (Dg_take hL _) _; have g0 := vl_nonneg hG; have g1 := vl_lt two10 hG; have hlen : ((L.take (L.length - (a - 4))).drop (L.length - a)).length ≤ 4 := by rw [List.length_drop, List.length_take]; omega
   have hp10 : (10 : Int) ^ ((L.take (L.length - (a - 4))).drop (L.length - a)).length ≤ 10000 := by
    have : ∀ j : Nat, j ≤ 4 → (10 : Int) ^ j ≤ 10000 := fun j hj => by
     rcases (show j = 0 ∨ j = 1 ∨ j = 2 ∨ j = 3 ∨ j = 4 by omega) with rfl | rfl | rfl | rfl | rfl <;> decide
    exact this _ hlen
   have ee : ((10 : Nat) : Int) = 10 := rfl; rw [ee] at g1
   have hsplit : vl 10 (L.take (4 * (j + 1))) = vl 10 (L.take (4 * j)) + (10 : Int) ^ (4 * j) * vl 10 ((L.take (L.length - (a - 4))).drop (L.length - a)) := by
    have h1 : L.take (4 * (j + 1)) = L.take (L.length - (a - 4)) := by
     by_cases h4 : a ≤ 4
     ·rw [List.take_of_length_le (by omega), List.take_of_length_le (by omega)]
     ·congr 1; omega
    have h2 := vl_split 10 (L.take (L.length - (a - 4))) (4 * j) (by rw [List.length_take]; omega); rw [List.take_take, Nat.min_eq_left (by omega)] at h2; rw [h1, h2, show L.length - a = 4 * j by omega, ee]
   have hv2 : vl 10000 (M ++ [vl 10 ((L.take (L.length - (a - 4))).drop (L.length - a))]) = vl 10 (L.take (4 * (j + 1))) := by
    rw [vl_snoc, hM, hsplit, hv]; congr 2; rw [Int.pow_mul]; rfl
   have h3 := ih (j + 1) (M ++ [vl 10 ((L.take (L.length - (a - 4))).drop (L.length - a))]) (by omega) hj3 (by rw [List.length_append, hM]; rfl) (Dg_snoc hD g0 (by omega)) hv2; (have e4 : (L.length : Int) - 4 * ((j + 1 : Nat) : Int) = (a : Int) - 4 := by omega); rw [e4] at h3; have h4 := dig_l1 L hL hn M (by omega) a (a - 4) (by omega) rfl _ h3 (a - (a - 4)) (a - 4) (by omega) (Nat.le_refl _)
   have e5 : vl 10 ((L.take (L.length - (a - 4))).drop (L.length - (a - 4))) = 0 := by
    rw [List.drop_eq_nil_of_le (by rw [List.length_take]; omega)]; rfl
   rw [e5] at h4; (have e6 : (L.length : Int) - 4 * (j : Int) = (a : Int) := by omega); rw [e6]; refine Ev.step (fun k => ?_) h4
   have e7 : mx 0 (wrap64 ((a : Int) - 4)) = ((a - 4 : Nat) : Int) := by
    rw [w6 (by omega) (by omega)]; unfold mx; split <;> omega
   rw [Qa.pritchelref01_digits.l0, if_pos (by omega), e7]
theorem digits_ev {x : Nat} (h : x < 10 ^ 80) : Ev (fun k => Qa.pritchelref01_digits.f k (txt x)) (false, d4 x, true) := by
 obtain ⟨h1, h2⟩ := tl_len h; have hD := Dg_tl x; have h3 := dig_l0 (tl x) hD h2 20 0 [] (by omega) (by omega) rfl (Dg_nil _) (by simp [vl]); rw [vl_tl, Int.toNat_natCast, ← txt_tl] at h3; have hsz : (txt x).size = (tl x).length := by rw [txt_tl, dtext_size]
 have h4 : Ev (fun k => Qa.pritchelref01_digits.j0 k (txt x) false) (false, d4 x, true) := by
  refine Ev.step (fun k => ?_) h3; rw [Qa.pritchelref01_digits.j0, if_neg (by decide), hsz]; congr 1
 refine Ev.congr (fun k => ?_) h4; unfold Qa.pritchelref01_digits.f; rw [if_neg (by omega), if_neg (by omega), if_pos (by omega)]; by_cases h0 : bt (txt x) 0 = 48
 ·rw [if_pos h0]; rcases Nat.eq_zero_or_pos x with e | e
  ·subst e; rw [show decide (((txt 0).size : Int) > 1) = false from decide_eq_false (by rw [hsz]; simp [tl])]
  ·exfalso; (have e2 : tl x = dt x := by unfold tl; rw [if_neg (by omega)]); have h5 := dtext_at (tl x) hD 0 (by omega); rw [← txt_tl] at h5
   have h6 : rd (tl x) (((tl x).length - 1 - 0 : Nat) : Int) = 0 := by
    have : bt (txt x) ((0 : Nat) : Int) = 48 := h0
    omega
   have hv := vl_take_succ 10 (tl x) ((tl x).length - 1); (have e3 : (tl x).length - 1 + 1 = (tl x).length := by omega); rw [Nat.sub_zero] at h6; rw [e3, List.take_length, h6, vl_tl, Int.mul_zero, Int.add_zero] at hv; have hlt := vl_lt two10 (Dg_take hD ((tl x).length - 1)); rw [← hv, List.length_take, Nat.min_eq_left (by omega)] at hlt
   have hle := dg_len_le two10 (m := (tl x).length - 1) (n := x) (by
    rw [← Int.natCast_pow] at hlt
    omega)
   rw [e2] at hle h1
   have : (dt x).length = (dg 10 x).length := rfl
   omega
 ·rw [if_neg h0]
theorem parse_l0 {x : Nat} (h : x < 10 ^ 80) (R : Bool × List Int × Bool × List Int × Bool) (hR : Ev (fun k => Qv.pritchelref01_Parse.l0 k (txt x) false ((txt x).size : Int) (-1)) R) : ∀ n : Nat, n ≤ (txt x).size →
  Ev (fun k => Qv.pritchelref01_Parse.l0 k (txt x) false ((txt x).size : Int) ((n : Int) - 1)) R
 | 0, _ => hR
 | n + 1, hn => by
  obtain ⟨h1, h2⟩ := tl_len h; (have hsz : (txt x).size = (tl x).length := by rw [txt_tl, dtext_size]); have ih := parse_l0 h R hR n (by omega); have hb := dtext_at (tl x) (Dg_tl x) n (by omega); have r := rd_range two10 (Dg_tl x) (((tl x).length - 1 - n : Nat) : Int); rw [← txt_tl] at hb; (have e1 : ((n + 1 : Nat) : Int) - 1 = (n : Int) := by omega); rw [e1]; refine Ev.step (fun k => ?_) ih; rw [Qv.pritchelref01_Parse.l0, if_pos (by omega), if_pos (by omega), if_pos (by omega), if_neg (by omega), w6 (by omega) (by omega)]
theorem parse_ev {x : Nat} (h : x < 10 ^ 80) : Ev (fun k => Qv.pritchelref01_Parse.f k (txt x)) (false, d4 x, false, d4 1, true) := by
 obtain ⟨h1, h2⟩ := tl_len h; (have hsz : (txt x).size = (tl x).length := by rw [txt_tl, dtext_size]); have e0 : (txt x).extract 0 ((txt x).size : Int).toNat = txt x := by rw [Int.toNat_natCast]; exact ByteArray.extract_zero_size
 have j4 : Ev (fun k => Qv.pritchelref01_Parse.j4 k false false false (d4 x) false (d4 1)) (false, d4 x, false, d4 1, true) := now1 fun k => by
  rw [Qv.pritchelref01_Parse.j4, if_neg (by decide), if_neg (by decide)]
 have j3 : Ev (fun k => Qv.pritchelref01_Parse.j3 k false true false (d4 x) false (d4 1)) (false, d4 x, false, d4 1, true) := by
  refine Ev.step (fun k => ?_) j4; rw [Qv.pritchelref01_Parse.j3, if_pos rfl, if_neg (by decide)]
 have hend : Ev (fun k => Qv.pritchelref01_Parse.l0 k (txt x) false ((txt x).size : Int) (-1)) (false, d4 x, false, d4 1, true) := by
  refine Ev.step (f := fun k => (Qa.pritchelref01_digits.f k (txt x)).bind fun bt170 => ((Qa.pritchelref01_Int.f k 1).bind fun bt176 => (if ((txt x).size : Int) < ((txt x).size : Int) then (none) else (Qv.pritchelref01_Parse.j3 k false bt170.2.2 bt170.1 bt170.2.1 bt176.1 bt176.2)))) (fun k => ?_) (Ev.bind (digits_ev h) (Ev.bind (int_ev 1 (by omega)) (Ev.congr (fun k => if_neg (by omega)) j3))); rw [Qv.pritchelref01_Parse.l0, if_neg (by omega), if_pos (by omega), if_pos (by omega), e0]
 have hl := parse_l0 h _ hend (txt x).size (Nat.le_refl _)
 have j1 : Ev (fun k => Qv.pritchelref01_Parse.j1 k (txt x) false) (false, d4 x, false, d4 1, true) := by
  refine Ev.step (fun k => ?_) hl; rw [Qv.pritchelref01_Parse.j1, w6 (by omega) (by omega)]
 have j0 : Ev (fun k => Qv.pritchelref01_Parse.j0 k (txt x) false false) (false, d4 x, false, d4 1, true) := by
  refine Ev.step (fun k => ?_) j1; rw [Qv.pritchelref01_Parse.j0, if_neg (by decide)]
 have hb := dtext_at (tl x) (Dg_tl x) 0 (by omega); have r := rd_range two10 (Dg_tl x) (((tl x).length - 1 - 0 : Nat) : Int); rw [← txt_tl] at hb
 have hb2 : (bt (txt x) 0 == 45) = false := beq_eq_false_iff_ne.2 (by
  have : bt (txt x) ((0 : Nat) : Int) = bt (txt x) 0 := rfl
  omega)
 refine Ev.congr (fun k => ?_) j0; unfold Qv.pritchelref01_Parse.f; rw [if_neg (by omega), if_pos (by omega), if_pos (by omega), hb2]
theorem cmp11 : cm ((1 : Nat) : Int) ((1 : Nat) : Int) = 0 := by unfold cm; rw [if_neg (by omega), if_neg (by omega)]
theorem integer_ev {x : Nat} (h : x < 10 ^ 80) : Ev (fun k => Qv.pritchelref01_Integer.f k (txt x)) true := by
 have h1 := d4_len1 (show 1 < 10000 by omega); have hc := cmp_ev (x := 1) (y := 1) (by omega) (by omega); rw [cmp11] at hc; unfold Qv.pritchelref01_Integer.f; refine Ev.bind (parse_ev h) (Ev.congr (fun k => if_pos rfl) (Ev.bind (int_ev 1 (by omega)) (Ev.bind hc (Ev.just fun k => rfl))))
theorem ofn_ev {x : Nat} (h : x < 10 ^ 80) : Ev (fun k => Qv.pritchelref01_Of.f k (txt x)) (false, d4 x, false, d4 1) := by
 unfold Qv.pritchelref01_Of.f; exact Ev.bind (parse_ev h) (Ev.just fun k => rfl)
end Go.Proofs.YtopmcoohdhlnaaaGreatDoor.N
