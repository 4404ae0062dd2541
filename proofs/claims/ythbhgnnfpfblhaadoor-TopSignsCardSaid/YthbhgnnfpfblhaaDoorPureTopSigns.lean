/- Two different rows of Sylvester's matrix differ in exactly half of their signs; as words, their Distance is 0 for one row alone and at most twice the number of differences; the likenesses around sum to the square of the length minus twice the number of minus signs: for all numbers. -/
import Derived.Test.YthbhgnnfpfblhaaDoorM14
import Derived.Test.YthbhgnnfpfblhaaDoorM8
import Derived.Test.YthbhgnnfpfblhaaDoorQa6
namespace Go.Proofs.YthbhgnnfpfblhaaDoor.G
end Go.Proofs.YthbhgnnfpfblhaaDoor.G
namespace Go.Proofs.YthbhgnnfpfblhaaDoor.M
end Go.Proofs.YthbhgnnfpfblhaaDoor.M
namespace Go.Proofs.YthbhgnnfpfblhaaDoor.Pb
end Go.Proofs.YthbhgnnfpfblhaaDoor.Pb
namespace Go.Proofs.YthbhgnnfpfblhaaDoor.Qa
end Go.Proofs.YthbhgnnfpfblhaaDoor.Qa
namespace Go.Proofs.YthbhgnnfpfblhaaDoor.Pure
open Go Go.RowKit Go.Lib Go.Proofs Go.Proofs.YthbhgnnfpfblhaaDoorW.PrintWords Go.Proofs.YthbhgnnfpfblhaaDoorW.PrintLast Go.Proofs.YthbhgnnfpfblhaaDoorW.PrintMore
open G M Pb Qa
set_option linter.unusedVariables false
set_option linter.unusedSimpArgs false
theorem u8_range {x : Int} (h : (Lit.int .u8 x).wf = true) : 0 ≤ x ∧ x ≤ 255 := by
  have m1 : IntKind.u8.min = 0 := by decide
  have m2 : IntKind.u8.max = 255 := by decide
  simp [Lit.wf] at h
  omega
def conv (b : UInt8) : UInt8 := if b = 45 then 49 else 48
def onesL (l : List UInt8) : Nat := l.countP (· = 45)
def differL : List UInt8 → List UInt8 → Nat
  | a :: l, b :: m => (if a = b then 0 else 1) + differL l m
  | _, _ => 0
def sumW (a : List Int) (s : Int) : Int := a.foldl (fun s x => wrap64 (s + x)) s
def rows (k : Nat) : List ByteArray := match gait_Sylvester.f 400 (k : Int) with | some (l, _) => l | none => []
def sylOk (k : Nat) : Bool := match gait_Sylvester.f 400 (k : Int) with | some (l, e) => decide (e = 0) && decide ((l.length : Int) = shl .i64 1 (k : Int)) && decide (1 ≤ l.length) && decide (l.length ≤ 16) | none => false
def okRow (n : Nat) (p : ByteArray) : Bool := decide (p.size = n) && okSigns p && (match gait_Around.f 400 p with
  | some (a, e) => decide (e = 0) && decide (a.length = p.size) && decide (sumW a 0 = wrap64 ((wrap64 ((p.size : Int) - (wrap64 (2 * (onesL (lst p) : Int))))) * (wrap64 ((p.size : Int) - (wrap64 (2 * (onesL (lst p) : Int)))))))
  | none => false)
def okPair (p q : ByteArray) : Bool := decide (lst p = lst q) || decide (2 * differL (lst p) (lst q) = p.size)
theorem all_ok : ∀ k : Fin 5, (sylOk k.val && (rows k.val).all fun p => okRow (rows k.val).length p && (rows k.val).all fun q => okPair p q) = true := by decide +kernel
/-! ### words out of signs -/
theorem differL_snoc : ∀ (l m : List UInt8) (a b : UInt8), l.length = m.length → differL (l ++ [a]) (m ++ [b]) = differL l m + if a = b then 0 else 1
  | [], [], a, b, _ => by simp [differL]
  | x :: l, y :: m, a, b, h => by
    have := differL_snoc l m a b (by simpa using h)
    simp only [List.cons_append, differL, this]
    omega
theorem differL_le : ∀ (l m : List UInt8), differL l m ≤ l.length
  | [], _ => by simp [differL]
  | _ :: _, [] => by simp [differL]
  | a :: l, b :: m => by
    have := differL_le l m
    simp only [differL, List.length_cons]
    split <;> omega
theorem differL_map (f : UInt8 → UInt8) : ∀ (l m : List UInt8), differL (l.map f) (m.map f) ≤ differL l m
  | [], _ => by simp [differL]
  | _ :: _, [] => by simp [differL]
  | a :: l, b :: m => by
    have := differL_map f l m
    simp only [List.map_cons, differL]
    by_cases h : a = b
    · subst h; simp; exact this
    · rw [if_neg h]; split <;> omega
theorem agree : ∀ (l m : List UInt8), l.length = m.length → ∃ c : List UInt8, c.Sublist l ∧ c.Sublist m ∧ l.length = c.length + differL l m
  | [], [], _ => ⟨[], List.Sublist.refl _, List.Sublist.refl _, rfl⟩
  | a :: l, b :: m, h => by
    obtain ⟨c, h1, h2, h3⟩ := agree l m (by simpa using h)
    by_cases hab : a = b
    · subst hab
      exact ⟨a :: c, h1.cons_cons a, h2.cons_cons a, by simp only [differL, List.length_cons, if_true]; omega⟩
    · exact ⟨c, h1.trans (List.sublist_cons_self a l), h2.trans (List.sublist_cons_self b m), by simp only [differL, List.length_cons, if_neg hab]; omega⟩
theorem dist_le (s t : ByteArray) (h : s.size = t.size) : dist s t ≤ 2 * (differL (lst s) (lst t) : Int) := by
  obtain ⟨c, h1, h2, h3⟩ := agree (lst s) (lst t) (by rw [lst_length, lst_length, h])
  have h4 := lcs_ge s t c h1 h2
  rw [lst_length] at h3
  unfold dist
  omega
theorem conv_inj : ∀ (l m : List UInt8), (∀ b ∈ l, b = 43 ∨ b = 45) → (∀ b ∈ m, b = 43 ∨ b = 45) → l.map conv = m.map conv → l = m
  | [], [], _, _, _ => rfl
  | [], _ :: _, _, _, h => by simp at h
  | _ :: _, [], _, _, h => by simp at h
  | a :: l, b :: m, h1, h2, h => by
    rw [List.map_cons, List.map_cons] at h
    injection h with h3 h4
    have e := conv_inj l m (fun x hx => h1 x (List.mem_cons_of_mem a hx)) (fun x hx => h2 x (List.mem_cons_of_mem b hx)) h4
    have e2 : a = b := by
      rcases h1 a (List.mem_cons_self ..) with rfl | rfl <;> rcases h2 b (List.mem_cons_self ..) with rfl | rfl <;> first | rfl | (exfalso; revert h3; decide)
    rw [e, e2]
theorem conv_bin (l : List UInt8) : bin (l.map conv) := by
  intro b hb
  rw [List.mem_map] at hb
  obtain ⟨a, _, rfl⟩ := hb
  unfold conv
  split
  · exact Or.inr rfl
  · exact Or.inl rfl
/-- What the law does behind its first loop. -/
def tailF (k : Nat) (p q s t : ByteArray) (o dd : Int) : Option Bool := (gait_Around.f k p).bind fun bt147 => ((Pb.mark_Distance.f k s t).bind fun bt151 => (if bt147.2 = 0 then (if bt151.2 = 0 then (pritcheltop_TopSigns.j4 k p q o dd bt147.1 bt151.1 ((bt147.1.length : Int) != (p.size : Int))) else (pritcheltop_TopSigns.j4 k p q o dd bt147.1 bt151.1 true)) else (pritcheltop_TopSigns.j4 k p q o dd bt147.1 bt151.1 true)))
theorem take_snoc (x : ByteArray) (i : Nat) (h : i < x.size) : (lst x).take (i + 1) = (lst x).take i ++ [x[i]'h] := by
  have hl : i < (lst x).length := by rw [lst_length]; exact h
  rw [List.take_succ_eq_append_getElem hl]
  rfl
theorem eq45 (b : UInt8) : ((b.toNat : Int) = 45) ↔ b = 45 := by
  constructor
  · intro h
    apply UInt8.toNat_inj.1
    show b.toNat = 45
    omega
  · rintro rfl; rfl
theorem eqb (a b : UInt8) : ((a.toNat : Int) = (b.toNat : Int)) ↔ a = b := by
  constructor
  · intro h
    exact UInt8.toNat_inj.1 (by omega)
  · rintro rfl; rfl
theorem one_snoc (s : ByteArray) (c : UInt8) : lst (s ++ (⟨#[c]⟩ : ByteArray)) = lst s ++ [c] := by rw [lst_append]; rfl
theorem signs_loop (p q : ByteArray) (hpq : p.size = q.size) (hn : p.size ≤ 64) (S T : ByteArray) (hS : lst S = (lst p).map conv) (hT : lst T = (lst q).map conv) (d : Nat) :
    ∀ (i : Nat) (s t : ByteArray) (o dd : Nat), p.size - i = d → i ≤ p.size → lst s = ((lst p).take i).map conv → lst t = ((lst q).take i).map conv → o = onesL ((lst p).take i) → dd = differL ((lst p).take i) ((lst q).take i) →
    ∃ c, ∀ k, pritcheltop_TopSigns.l0 (k + c) p q s t (o : Int) (dd : Int) (i : Int) = tailF k p q S T (onesL (lst p) : Int) (differL (lst p) (lst q) : Int) := by
  induction d with
  | zero =>
    intro i s t o dd hd hi hs ht ho hdd
    obtain rfl : i = p.size := by omega
    rw [← lst_length, List.take_length] at hs ho
    have e : (lst q).take p.size = lst q := by rw [hpq, ← lst_length, List.take_length]
    rw [e] at ht
    rw [← lst_length, List.take_length, lst_length, e] at hdd
    obtain rfl : s = S := lst_inj (by rw [hs, hS])
    obtain rfl : t = T := lst_inj (by rw [ht, hT])
    subst ho hdd
    refine ⟨2, fun k => ?_⟩
    rw [pritcheltop_TopSigns.l0, if_neg (by omega), pritcheltop_TopSigns.j2, if_neg (by decide)]
    rfl
  | succ d ih =>
    intro i s t o dd hd hi hs ht ho hdd
    have hp : i < p.size := by omega
    have hq : i < q.size := by omega
    have hol : o ≤ 64 := by
      rw [ho]
      have : onesL ((lst p).take i) ≤ ((lst p).take i).length := List.countP_le_length
      rw [List.length_take, lst_length] at this
      omega
    have hdl : dd ≤ 64 := by
      rw [hdd]
      have := differL_le ((lst p).take i) ((lst q).take i)
      rw [List.length_take, lst_length] at this
      omega
    have hsz : s.size ≤ 64 := by rw [← lst_length, hs, List.length_map, List.length_take, lst_length]; omega
    have htz : t.size ≤ 64 := by rw [← lst_length, ht, List.length_map, List.length_take, lst_length]; omega
    have tp := take_snoc p i hp
    have tq := take_snoc q i hq
    obtain ⟨a, ha⟩ : ∃ a, p[i]'hp = a := ⟨_, rfl⟩
    obtain ⟨b, hb⟩ : ∃ b, q[i]'hq = b := ⟨_, rfl⟩
    have btp : bt p (i : Int) = (a.toNat : Int) := by rw [bt_nat p i hp, ha]
    have btq : bt q (i : Int) = (b.toNat : Int) := by rw [bt_nat q i hq, hb]
    rw [ha] at tp
    rw [hb] at tq
    have sl : ∀ c : UInt8, (s ++ (⟨#[c]⟩ : ByteArray)).size ≤ 65 := fun c => by rw [ByteArray.size_append]; show s.size + 1 ≤ 65; omega
    -- the words with one letter more
    have next := ih (i + 1) (s ++ ⟨#[conv a]⟩) (t ++ ⟨#[conv b]⟩) (onesL ((lst p).take (i + 1))) (differL ((lst p).take (i + 1)) ((lst q).take (i + 1))) (by omega) (by omega) (by rw [one_snoc, hs, tp, List.map_append]; rfl) (by rw [one_snoc, ht, tq, List.map_append]; rfl) rfl rfl
    obtain ⟨c, hc⟩ := next
    have eo : onesL ((lst p).take (i + 1)) = o + if a = 45 then 1 else 0 := by
      rw [tp, ho]
      unfold onesL
      rw [List.countP_append, List.countP_singleton]
      simp
    have ed : differL ((lst p).take (i + 1)) ((lst q).take (i + 1)) = dd + if a = b then 0 else 1 := by
      rw [tp, tq, hdd]
      exact differL_snoc _ _ a b (by rw [List.length_take, List.length_take, lst_length, lst_length]; omega)
    rw [eo, ed] at hc
    refine ⟨c + 3, fun k => ?_⟩
    have hk := hc k
    have z1 : s.size + (⟨#[49]⟩ : ByteArray).size ≤ 9223372036854775807 := by show s.size + 1 ≤ _; omega
    have z2 : s.size + (⟨#[48]⟩ : ByteArray).size ≤ 9223372036854775807 := by show s.size + 1 ≤ _; omega
    have z3 : t.size + 1 ≤ 9223372036854775807 := by omega
    have z4 : t.size + (⟨#[48]⟩ : ByteArray).size ≤ 9223372036854775807 := by show t.size + 1 ≤ _; omega
    have g1 : (i : Int) < (p.size : Int) := by omega
    have g2 : (i : Int) < (q.size : Int) := by omega
    have g3 : (0 : Int) ≤ (i : Int) := by omega
    have gd : decide ((i : Int) < (q.size : Int)) = true := decide_eq_true g2
    have kk : k + (c + 3) = (k + c) + 1 + 1 + 1 := rfl
    have l1 : i + 1 ≤ 1000000000000 := by omega
    have l2 : o + 1 ≤ 1000000000000 := by omega
    have l3 : dd + 1 ≤ 1000000000000 := by omega
    have w1 := w64succ i l1
    have w2 := w64succ o l2
    have w3 := w64succ dd l3
    rw [kk, pritcheltop_TopSigns.l0, if_pos g1, gd, pritcheltop_TopSigns.j2, if_pos rfl, if_pos g3, if_pos g1, btp, w2]
    by_cases h1 : a = 45
    · rw [if_pos ((eq45 a).2 h1), pritcheltop_TopSigns.j3, if_pos g3, if_pos g2, btp, btq]
      rw [if_pos h1] at hk
      have ca : conv a = 49 := by rw [h1]; rfl
      rw [ca] at hk
      by_cases h2 : b = 45
      · have cb : conv b = 49 := by rw [h2]; rfl
        rw [cb] at hk
        rw [if_pos ((eq45 b).2 h2), if_pos g1]
        by_cases h3 : a = b
        · rw [if_pos h3] at hk
          rw [if_pos ((eqb a b).2 h3), if_pos z1, if_pos z3, w1]
          exact hk
        · rw [if_neg h3] at hk
          rw [if_neg (fun h => h3 ((eqb a b).1 h)), if_pos z1, if_pos z3, w1, w3]
          exact hk
      · have cb : conv b = 48 := by unfold conv; rw [if_neg h2]
        rw [cb] at hk
        rw [if_neg (fun h => h2 ((eq45 b).1 h)), if_pos g1]
        by_cases h3 : a = b
        · rw [if_pos h3] at hk
          rw [if_pos ((eqb a b).2 h3), if_pos z1, if_pos z4, w1]
          exact hk
        · rw [if_neg h3] at hk
          rw [if_neg (fun h => h3 ((eqb a b).1 h)), if_pos z1, if_pos z4, w1, w3]
          exact hk
    · rw [if_neg (fun h => h1 ((eq45 a).1 h)), pritcheltop_TopSigns.j3, if_pos g3, if_pos g2, btp, btq]
      rw [if_neg h1, Nat.add_zero] at hk
      have ca : conv a = 48 := by unfold conv; rw [if_neg h1]
      rw [ca] at hk
      by_cases h2 : b = 45
      · have cb : conv b = 49 := by rw [h2]; rfl
        rw [cb] at hk
        rw [if_pos ((eq45 b).2 h2), if_pos g1]
        by_cases h3 : a = b
        · rw [if_pos h3] at hk
          rw [if_pos ((eqb a b).2 h3), if_pos z2, if_pos z3, w1]
          exact hk
        · rw [if_neg h3] at hk
          rw [if_neg (fun h => h3 ((eqb a b).1 h)), if_pos z2, if_pos z3, w1, w3]
          exact hk
      · have cb : conv b = 48 := by unfold conv; rw [if_neg h2]
        rw [cb] at hk
        rw [if_neg (fun h => h2 ((eq45 b).1 h)), if_pos g1]
        by_cases h3 : a = b
        · rw [if_pos h3] at hk
          rw [if_pos ((eqb a b).2 h3), if_pos z2, if_pos z4, w1]
          exact hk
        · rw [if_neg h3] at hk
          rw [if_neg (fun h => h3 ((eqb a b).1 h)), if_pos z2, if_pos z4, w1, w3]
          exact hk
/-- What the law answers in the end. -/
def finF (p q : ByteArray) (o dd d acc : Int) : Option Bool := if acc = (wrap64 ((wrap64 ((p.size : Int) - (wrap64 (2 * o)))) * (wrap64 ((p.size : Int) - (wrap64 (2 * o)))))) then (if ((p.toList == q.toList) == (d == 0)) = true then (if d ≤ (wrap64 (2 * dd)) then (if p.toList = q.toList then (some true) else (some ((wrap64 (2 * dd)) == (p.size : Int)))) else (some false)) else (some false)) else (some false)
theorem sum_loop (p q : ByteArray) (o dd d : Int) (a : List Int) (ha : a.length ≤ 1000) (e : Nat) : ∀ (i : Nat) (acc : Int) (k : Nat), a.length - i = e → i ≤ a.length →
    pritcheltop_TopSigns.l1 (k + (e + 1)) p q o dd a d acc (i : Int) = finF p q o dd d (sumW (a.drop i) acc) := by
  induction e with
  | zero =>
    intro i acc k he hi
    obtain rfl : i = a.length := by omega
    rw [pritcheltop_TopSigns.l1, if_neg (by omega), List.drop_length]
    rfl
  | succ e ih =>
    intro i acc k he hi
    have hlt : i < a.length := by omega
    have g1 : (i : Int) < (a.length : Int) := by omega
    have g2 : (0 : Int) ≤ (i : Int) := by omega
    have r : rd a (i : Int) = a[i]'hlt := by
      unfold rd
      rw [Int.toNat_natCast, List.getD_eq_getElem?_getD, List.getElem?_eq_getElem hlt]
      rfl
    have h := ih (i + 1) (wrap64 (acc + a[i]'hlt)) k (by omega) (by omega)
    have l1 : i + 1 ≤ 1000000000000 := by omega
    have w1 := w64succ i l1
    have kk : k + (e + 1 + 1) = (k + (e + 1)) + 1 := rfl
    rw [kk, pritcheltop_TopSigns.l1, if_pos g1, if_pos g2, r, w1, h, List.drop_eq_getElem_cons hlt]
    rfl
theorem signs_bytes {p : ByteArray} (h : okSigns p = true) : 1 ≤ p.size ∧ p.size ≤ 64 ∧ ∀ b ∈ lst p, b = 43 ∨ b = 45 := by
  unfold okSigns at h
  simp only [Bool.and_eq_true, decide_eq_true_eq, List.all_eq_true] at h
  refine ⟨h.1.1, h.1.2, fun b hb => ?_⟩
  have := h.2 b hb
  simpa using this
theorem row_out {n : Nat} {p : ByteArray} (h : okRow n p = true) : p.size = n ∧ okSigns p = true ∧ ∃ a, gait_Around.f 400 p = some (a, 0) ∧ a.length = p.size ∧ sumW a 0 = wrap64 ((wrap64 ((p.size : Int) - (wrap64 (2 * (onesL (lst p) : Int))))) * (wrap64 ((p.size : Int) - (wrap64 (2 * (onesL (lst p) : Int)))))) := by
  unfold okRow at h
  rw [Bool.and_eq_true, Bool.and_eq_true, decide_eq_true_eq] at h
  obtain ⟨⟨h1, h2⟩, h3⟩ := h
  refine ⟨h1, h2, ?_⟩
  revert h3
  cases gait_Around.f 400 p with
  | none => intro h3; cases h3
  | some x =>
    obtain ⟨a, e⟩ := x
    intro h3
    dsimp only at h3
    rw [Bool.and_eq_true, Bool.and_eq_true, decide_eq_true_eq, decide_eq_true_eq, decide_eq_true_eq] at h3
    obtain ⟨⟨rfl, h4⟩, h5⟩ := h3
    exact ⟨a, rfl, h4, h5⟩
theorem fin_true (p q S T : ByteArray) (hS : lst S = (lst p).map conv) (hT : lst T = (lst q).map conv) (hpq : p.size = q.size) (hp : okSigns p = true) (hq : okSigns q = true) (hok : okPair p q = true) (acc : Int)
    (hacc : acc = wrap64 ((wrap64 ((p.size : Int) - (wrap64 (2 * (onesL (lst p) : Int))))) * (wrap64 ((p.size : Int) - (wrap64 (2 * (onesL (lst p) : Int))))))) :
    finF p q (onesL (lst p) : Int) (differL (lst p) (lst q) : Int) (dist S T) acc = some true := by
  obtain ⟨p1, p2, p3⟩ := signs_bytes hp
  obtain ⟨q1, q2, q3⟩ := signs_bytes hq
  have hst : S.size = T.size := by rw [← lst_length, ← lst_length, hS, hT, List.length_map, List.length_map, lst_length, lst_length, hpq]
  have hd1 := dist_le S T hst
  have hd2 : differL (lst S) (lst T) ≤ differL (lst p) (lst q) := by rw [hS, hT]; exact differL_map conv _ _
  have hdl := differL_le (lst p) (lst q)
  rw [lst_length] at hdl
  have w2 : wrap64 (2 * (differL (lst p) (lst q) : Int)) = 2 * (differL (lst p) (lst q) : Int) := w64 (by omega) (by omega)
  have e1 : ((p.toList == q.toList) == (dist S T == 0)) = true := by
    rw [dist_zero S T, beq_iff_eq, Bool.eq_iff_iff, beq_iff_eq, beq_iff_eq, toList_data, toList_data, toList_data, toList_data]
    constructor
    · intro h
      show lst S = lst T
      rw [hS, hT]
      exact congrArg _ h
    · intro h
      have h2 : lst S = lst T := h
      rw [hS, hT] at h2
      exact conv_inj _ _ p3 q3 h2
  have e2 : dist S T ≤ 2 * (differL (lst p) (lst q) : Int) := by omega
  unfold finF
  rw [if_pos hacc, if_pos e1, w2, if_pos e2]
  by_cases h : p.toList = q.toList
  · rw [if_pos h]
  · rw [if_neg h]
    unfold okPair at hok
    rw [Bool.or_eq_true, decide_eq_true_eq, decide_eq_true_eq] at hok
    rcases hok with hok | hok
    · exact absurd (by rw [toList_data, toList_data]; exact hok) h
    · have : ((2 * (differL (lst p) (lst q) : Int)) == (p.size : Int)) = true := by rw [beq_iff_eq]; omega
      rw [this]
theorem top_pair (n : Nat) (hn : n ≤ 16) (p q : ByteArray) (hp : okRow n p = true) (hq : okRow n q = true) (hok : okPair p q = true) : ∃ c, ∀ k, c ≤ k → pritcheltop_TopSigns.l0 k p q ⟨#[]⟩ ⟨#[]⟩ 0 0 0 = some true := by
  obtain ⟨p1, p2, a, p3, p4, p5⟩ := row_out hp
  obtain ⟨q1, q2, _⟩ := row_out hq
  obtain ⟨z1, z2, z3⟩ := signs_bytes p2
  obtain ⟨y1, y2, y3⟩ := signs_bytes q2
  have hpq : p.size = q.size := by omega
  obtain ⟨S, hS⟩ : ∃ S : ByteArray, lst S = (lst p).map conv := ⟨⟨((lst p).map conv).toArray⟩, rfl⟩
  obtain ⟨T, hT⟩ : ∃ T : ByteArray, lst T = (lst q).map conv := ⟨⟨((lst q).map conv).toArray⟩, rfl⟩
  obtain ⟨c0, h0⟩ := signs_loop p q hpq z2 S T hS hT p.size 0 ⟨#[]⟩ ⟨#[]⟩ 0 0 (by omega) (by omega) rfl rfl rfl rfl
  obtain ⟨c1, h1⟩ := Distance_ev S T
  have sS : S.size = p.size := by rw [← lst_length, hS, List.length_map, lst_length]
  have sT : T.size = q.size := by rw [← lst_length, hT, List.length_map, lst_length]
  have hw : wrong2 20 S T = 0 := by
    unfold wrong2
    rw [if_pos (wrong_bin (by omega) (by rw [hS]; exact conv_bin _))]
    exact wrong_bin (by omega) (by rw [hT]; exact conv_bin _)
  refine ⟨c0 + c1 + 1000, fun k hk => ?_⟩
  obtain ⟨m, hm⟩ : ∃ m, k = m + c0 := ⟨k - c0, by omega⟩
  have hm1 : c1 ≤ m := by omega
  have hm2 : 400 ≤ m := by omega
  obtain ⟨m', hm'⟩ : ∃ m', m = m' + (a.length + 1) + 1 := ⟨m - (a.length + 2), by omega⟩
  have e0 := h0 m
  have e1 := h1 m hm1
  rw [if_pos hw] at e1
  have e2 : gait_Around.f m p = some (a, 0) := le_mono (gait_Around.mono p) hm2 p3
  have e3 : ((a.length : Int) != (p.size : Int)) = false := by rw [bne_eq_false_iff_eq]; omega
  rw [hm]
  refine e0.trans ?_
  unfold tailF
  rw [e2, Option.bind_some, e1, Option.bind_some]
  dsimp only
  rw [if_pos rfl, if_pos rfl, e3, hm', pritcheltop_TopSigns.j4, if_neg (by decide)]
  have e4 := sum_loop p q (onesL (lst p) : Int) (differL (lst p) (lst q) : Int) (dist S T) a (by omega) a.length 0 0 m' (by omega) (by omega)
  rw [List.drop_zero] at e4
  refine Eq.trans e4 ?_
  exact fin_true p q S T hS hT hpq p2 q2 hok _ p5
theorem syl_out {k : Nat} (h : sylOk k = true) : gait_Sylvester.f 400 (k : Int) = some (rows k, 0) ∧ ((rows k).length : Int) = shl .i64 1 (k : Int) ∧ 1 ≤ (rows k).length ∧ (rows k).length ≤ 16 := by
  unfold sylOk at h
  unfold rows
  revert h
  cases gait_Sylvester.f 400 (k : Int) with
  | none => intro h; cases h
  | some x =>
    obtain ⟨l, e⟩ := x
    intro h
    dsimp only at h ⊢
    rw [Bool.and_eq_true, Bool.and_eq_true, Bool.and_eq_true, decide_eq_true_eq, decide_eq_true_eq, decide_eq_true_eq, decide_eq_true_eq] at h
    obtain ⟨⟨⟨rfl, h1⟩, h2⟩, h3⟩ := h
    exact ⟨rfl, h1, h2, h3⟩
theorem top_f (x i j : Nat) (hx : x ≤ 255) (hi : i ≤ 255) (hj : j ≤ 255) : ∃ k, pritcheltop_TopSigns.f k (x : Int) (i : Int) (j : Int) = some true := by
  have hall := all_ok ⟨x % 5, Nat.mod_lt _ (by omega)⟩
  rw [Bool.and_eq_true, List.all_eq_true] at hall
  obtain ⟨hs, hr⟩ := hall
  dsimp only at hs hr
  obtain ⟨s1, s2, s3, s4⟩ := syl_out hs
  have wx : wrap64 (x : Int) = (x : Int) := w64n x (Nat.le_trans hx (by decide))
  have wi : wrap64 (i : Int) = (i : Int) := w64n i (Nat.le_trans hi (by decide))
  have wj : wrap64 (j : Int) = (j : Int) := w64n j (Nat.le_trans hj (by decide))
  have ex : Int.tmod (x : Int) 5 = ((x % 5 : Nat) : Int) := tmod_nat x 5
  obtain ⟨m, hm⟩ : ∃ m, x % 5 = m := ⟨_, rfl⟩
  rw [hm] at s1 s2 s3 s4 hr ex
  obtain ⟨R, hR⟩ : ∃ R, rows m = R := ⟨_, rfl⟩
  rw [hR] at s1 s2 s3 s4 hr
  have i2 : i % R.length < R.length := Nat.mod_lt _ s3
  have j2 : j % R.length < R.length := Nat.mod_lt _ s3
  obtain ⟨p, hp⟩ : ∃ p, R[i % R.length]'i2 = p := ⟨_, rfl⟩
  obtain ⟨q, hq⟩ : ∃ q, R[j % R.length]'j2 = q := ⟨_, rfl⟩
  have rp : rdOf ByteArray.empty R ((i % R.length : Nat) : Int) = p := by rw [rd_nat R _ i2, hp]
  have rq : rdOf ByteArray.empty R ((j % R.length : Nat) : Int) = q := by rw [rd_nat R _ j2, hq]
  have hp2 := hr p (by rw [← hp]; exact List.getElem_mem i2)
  have hq2 := hr q (by rw [← hq]; exact List.getElem_mem j2)
  rw [Bool.and_eq_true, List.all_eq_true] at hp2 hq2
  have hpq := hp2.2 q (by rw [← hq]; exact List.getElem_mem j2)
  obtain ⟨c, hc⟩ := top_pair R.length s4 p q hp2.1 hq2.1 hpq
  have e1 : gait_Sylvester.f (c + 400 + 1) (m : Int) = some (R, 0) := le_mono (gait_Sylvester.mono (m : Int)) (show 400 ≤ c + 400 + 1 by omega) s1
  have e2 := hc (c + 400) (by omega)
  have e3 : ((R.length : Int) != shl .i64 1 (m : Int)) = false := by rw [bne_eq_false_iff_eq]; exact s2
  have g0 : (0 : Int) ≤ (m : Int) := by omega
  have g1 : ¬ (R.length : Int) = 0 := by omega
  have g2 : (0 : Int) ≤ ((i % R.length : Nat) : Int) := by omega
  have g3 : ((i % R.length : Nat) : Int) < (R.length : Int) := by omega
  have g4 : (0 : Int) ≤ ((j % R.length : Nat) : Int) := by omega
  have g5 : ((j % R.length : Nat) : Int) < (R.length : Int) := by omega
  refine ⟨c + 400 + 1, ?_⟩
  unfold pritcheltop_TopSigns.f
  rw [wx, ex, e1]
  simp only [Option.bind_some, if_true, if_pos g0, e3]
  rw [pritcheltop_TopSigns.j0, if_neg (by decide), if_neg g1, wi, wj, tmod_nat, tmod_nat, if_pos g2, if_pos g3, if_pos g4, if_pos g5, rp, rq]
  exact e2
theorem TopSigns : pritcheltop_TopSigns.Pure := by
  intro a0 a1 a2 h0 h1 h2
  have r0 := u8_range h0
  have r1 := u8_range h1
  have r2 := u8_range h2
  clear h0 h1 h2
  obtain ⟨x, rfl⟩ := Int.eq_ofNat_of_zero_le r0.1
  obtain ⟨i, rfl⟩ := Int.eq_ofNat_of_zero_le r1.1
  obtain ⟨j, rfl⟩ := Int.eq_ofNat_of_zero_le r2.1
  exact top_f x i j (by omega) (by omega) (by omega)
end Go.Proofs.YthbhgnnfpfblhaaDoor.Pure
