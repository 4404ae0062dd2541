/- Plain laws of what the printed sum, steps and membership of a code compute: the Varshamov-Tenengolts sum of a word, the steps of a word of digits, whether a word is one of a code. -/
import Derived.Test.YtopmcoohdhlnaaaDoorPa16
namespace Go.Proofs.YtopmcoohdhlnaaaDoor.M
open Go.RowKit Go.Proofs.YtopmcoohdhlnaaaDoorW.PrintWords Go.Proofs.YtopmcoohdhlnaaaDoorW.PrintLast
open Pa
set_option linter.unusedVariables false

/-- The sum of the numbers of the letters 1, numbered from i on. -/
def vtF : Nat → List UInt8 → Nat
  | _, [] => 0
  | i, b :: r => (if b = 49 then i else 0) + vtF (i + 1) r
def vt (x : ByteArray) : Nat := vtF 1 x.data.toList
theorem bt_nat (x : ByteArray) (i : Nat) (h : i < x.size) : bt x (i : Int) = ((x[i]'h).toNat : Int) := by
  unfold bt
  simp [h]
theorem bytes_drop (x : ByteArray) (i : Nat) (h : i < x.size) : x.data.toList.drop i = (x[i]'h) :: x.data.toList.drop (i + 1) := by
  rw [List.drop_eq_getElem_cons (by simpa using h)]
  rfl
theorem toNat_49 (b : UInt8) : ((b.toNat : Int) = 49) ↔ b = 49 := by
  constructor
  · intro h
    apply UInt8.toNat_inj.1
    have : b.toNat = 49 := by omega
    rw [this]; rfl
  · rintro rfl; rfl
theorem w64 {x : Int} (h0 : -1000000000000 ≤ x) (h1 : x ≤ 1000000000000) : wrap64 x = x := by unfold wrap64; omega

theorem w64n (a : Nat) (h : a ≤ 1000000000000) : wrap64 (a : Int) = (a : Int) := w64 (by omega) (by omega)
theorem w64add (a b : Nat) (h : a + b ≤ 1000000000000) : wrap64 ((a : Int) + (b : Int)) = ((a + b : Nat) : Int) := by
  rw [← Int.natCast_add]
  exact w64n _ h
theorem w64succ (a : Nat) (h : a + 1 ≤ 1000000000000) : wrap64 ((a : Int) + 1) = ((a + 1 : Nat) : Int) := w64add a 1 h
theorem sum_loop (x : ByteArray) (hx : x.size ≤ 100000) (d : Nat) : ∀ (k i acc : Nat), x.size - i = d → i ≤ x.size → d < k → acc + (x.size - i) * (i + 1 + (x.size - i)) ≤ 100000000000 →
    mark_sum.l0 k x (acc : Int) (x.size : Int) (i : Int) = some ((acc + vtF (i + 1) (x.data.toList.drop i) : Nat) : Int) := by
  induction d with
  | zero =>
    intro k i acc hd hi hk hb
    obtain ⟨k, rfl⟩ : ∃ m, k = m + 1 := ⟨k - 1, by omega⟩
    have : x.data.toList.drop i = [] := List.drop_eq_nil_of_le (by simp; show x.size ≤ i; omega)
    rw [this]
    simp only [mark_sum.l0]
    rw [if_neg (by omega)]
    simp [vtF]
  | succ d ih =>
    intro k i acc hd hi hk hb
    obtain ⟨k, rfl⟩ : ∃ m, k = m + 1 := ⟨k - 1, by omega⟩
    have hlt : i < x.size := by omega
    have hmul : (x.size - (i + 1)) * (i + 1 + 1 + (x.size - (i + 1))) + (i + 1 + (x.size - i)) = (x.size - i) * (i + 1 + (x.size - i)) := by
      have e1 : x.size - i = (x.size - (i + 1)) + 1 := by omega
      rw [e1, Nat.add_mul, Nat.one_mul]
      have e2 : i + 1 + 1 + (x.size - (i + 1)) = i + 1 + (x.size - (i + 1) + 1) := by omega
      rw [e2]
    simp only [mark_sum.l0]
    rw [if_pos (by omega), if_pos (by omega), if_pos (by omega), bt_nat x i hlt, bytes_drop x i hlt]
    have ew : wrap64 ((i : Int) + 1) = ((i + 1 : Nat) : Int) := by rw [w64 (by omega) (by omega)]; omega
    rw [ew]
    by_cases hb1 : (x[i]'hlt) = 49
    · rw [if_pos ((toNat_49 _).2 hb1)]
      have ew2 : wrap64 ((acc : Int) + ((i + 1 : Nat) : Int)) = ((acc + (i + 1) : Nat) : Int) := by rw [w64 (by omega) (by omega)]; omega
      rw [ew2, ih k (i + 1) (acc + (i + 1)) (by omega) (by omega) (by omega) (by omega)]
      simp only [vtF, hb1, if_true]
      congr 2
      omega
    · rw [if_neg (fun h => hb1 ((toNat_49 _).1 h))]
      rw [ih k (i + 1) acc (by omega) (by omega) (by omega) (by omega)]
      simp only [vtF, if_neg hb1]
      congr 2
      omega
theorem sum_ev (x : ByteArray) (hx : x.size ≤ 100000) (k : Nat) (hk : x.size < k) : mark_sum.f k x = some (vt x : Int) := by
  have hb : 0 + (x.size - 0) * (0 + 1 + (x.size - 0)) ≤ 100000000000 := by
    have : (x.size - 0) * (0 + 1 + (x.size - 0)) ≤ 100000 * 100001 := Nat.mul_le_mul (by omega) (by omega)
    omega
  have h := sum_loop x hx x.size k 0 0 (by omega) (by omega) hk hb
  unfold mark_sum.f
  simpa [vt] using h

theorem beq_nat (u a : Nat) : ((u : Int) == (a : Int)) = decide (u = a) := by
  by_cases h : u = a
  · subst h; simp
  · simp [h]; omega
/-- The word's place in the code of letters. -/
def inL (n a : Nat) (x : ByteArray) : Bool := decide (x.size = n) && decide (vt x % (n + 1) = a)
theorem tmod_nat (u n : Nat) : Int.tmod (u : Int) ((n : Nat) : Int) = ((u % n : Nat) : Int) := by
  rw [Int.tmod_eq_emod_of_nonneg (by omega)]
  rfl
theorem in_eq (n a : Nat) (x : ByteArray) (q b : Int) (k : Nat) : mark_code_in.f k 0 n q a b x = if (x.size : Int) = (n : Int) then ((mark_sum.f k x).bind fun t => if wrap64 ((n : Int) + 1) = 0 then none else some (Int.tmod t (wrap64 ((n : Int) + 1)) == (a : Int))) else some false := by
  unfold mark_code_in.f
  rfl
theorem in_ev (n a : Nat) (x : ByteArray) (q b : Int) (hn : n ≤ 100000) (k : Nat) (hk : n < k) : mark_code_in.f k 0 n q a b x = some (inL n a x) := by
  rw [in_eq]
  unfold inL
  by_cases hs : x.size = n
  · subst hs
    have ew : wrap64 ((x.size : Int) + 1) = ((x.size + 1 : Nat) : Int) := by rw [w64 (by omega) (by omega)]; rfl
    rw [if_pos rfl, sum_ev x hn k hk, Option.bind_some, ew, if_neg (by omega), tmod_nat, beq_nat, decide_eq_true rfl, Bool.true_and]
  · rw [if_neg (by omega), decide_eq_false hs, Bool.false_and]

/-! ### digits -/
/-- The steps of digits. -/
def stepsF : List UInt8 → List UInt8
  | [] => []
  | [_] => []
  | a :: b :: r => (if a.toNat ≤ b.toNat then 49 else 48) :: stepsF (b :: r)
def dval (b : UInt8) : Nat := (b.toNat + 208) % 256
def dsum (l : List UInt8) : Nat := (l.map dval).sum
theorem dval_int (b : UInt8) : ((b.toNat : Int) - 48) % 256 = (dval b : Int) := by
  unfold dval
  have : b.toNat < 256 := UInt8.toNat_lt b
  omega
def numsF (l : List UInt8) : List Int := l.map fun b => (b.toNat : Int)
theorem strOfNums_numsF (l : List UInt8) : strOfNums (numsF l) = ⟨l.toArray⟩ := by
  unfold strOfNums numsF
  congr 2
  rw [List.map_map]
  conv => rhs; rw [← List.map_id l]
  congr 1
  funext b
  simp
theorem steps_loop (x : ByteArray) (hx : x.size ≤ 100000) (d : Nat) : ∀ (k i : Nat) (acc : List UInt8), x.size - (i + 1) = d → i < x.size → d < k → acc.length = i →
    mark_steps.l0 k x (numsF acc) ((i + 1 : Nat) : Int) = some ⟨(acc ++ stepsF (x.data.toList.drop i)).toArray⟩ := by
  induction d with
  | zero =>
    intro k i acc hd hi hk hl
    obtain ⟨k, rfl⟩ : ∃ m, k = m + 1 := ⟨k - 1, by omega⟩
    rw [bytes_drop x i hi]
    have : x.data.toList.drop (i + 1) = [] := List.drop_eq_nil_of_le (by simp; show x.size ≤ i + 1; omega)
    rw [this]
    simp only [mark_steps.l0]
    rw [if_neg (by omega), strOfNums_numsF]
    simp [stepsF]
  | succ d ih =>
    intro k i acc hd hi hk hl
    obtain ⟨k, rfl⟩ : ∃ m, k = m + 1 := ⟨k - 1, by omega⟩
    have hi1 : i + 1 < x.size := by omega
    have ew : wrap64 (((i + 1 : Nat) : Int) - 1) = (i : Int) := by rw [w64 (by omega) (by omega)]; omega
    have ew2 : wrap64 (((i + 1 : Nat) : Int) + 1) = ((i + 1 + 1 : Nat) : Int) := by rw [w64 (by omega) (by omega)]; omega
    have hlen : (numsF acc).length = i := by simp [numsF, hl]
    simp only [mark_steps.l0]
    rw [if_pos (by omega), if_pos (by omega), ew, if_pos (by omega), if_pos (by omega), bt_nat x (i + 1) hi1, bt_nat x i hi, ew2, hlen]
    rw [bytes_drop x i hi, bytes_drop x (i + 1) hi1]
    by_cases hc : (x[i]'hi).toNat ≤ (x[i + 1]'hi1).toNat
    · rw [if_pos (by omega), if_pos (by omega)]
      have := ih k (i + 1) (acc ++ [49]) (by omega) hi1 (by omega) (by simp [hl])
      rw [show numsF acc ++ [49] = numsF (acc ++ [49]) from by simp [numsF], this, bytes_drop x (i + 1) hi1]
      simp [stepsF, hc]
    · rw [if_neg (by omega), if_pos (by omega)]
      have := ih k (i + 1) (acc ++ [48]) (by omega) hi1 (by omega) (by simp [hl])
      rw [show numsF acc ++ [48] = numsF (acc ++ [48]) from by simp [numsF], this, bytes_drop x (i + 1) hi1]
      simp [stepsF, hc]
theorem steps_ev (x : ByteArray) (hx : x.size ≤ 100000) (k : Nat) (hk : x.size < k) : mark_steps.f k x = some ⟨(stepsF x.data.toList).toArray⟩ := by
  unfold mark_steps.f
  by_cases h0 : x.size = 0
  · obtain ⟨k, rfl⟩ : ∃ m, k = m + 1 := ⟨k - 1, by omega⟩
    have : x.data.toList = [] := List.eq_nil_of_length_eq_zero (by simpa using h0)
    rw [this]
    simp only [mark_steps.l0]
    rw [if_neg (by omega)]
    rfl
  · have := steps_loop x hx (x.size - 1) k 0 [] (by omega) (by omega) (by omega) rfl
    simpa [numsF] using this
theorem stepsF_length : ∀ l : List UInt8, (stepsF l).length = l.length - 1
  | [] => rfl
  | [_] => rfl
  | a :: b :: r => by
    have := stepsF_length (b :: r)
    simp only [stepsF, List.length_cons] at this ⊢
    omega
/-- The word's place in the code of digits. -/
def inD (n q a b : Nat) (x : ByteArray) : Bool := decide (x.size = n) && (decide (dsum x.data.toList % q = b) && decide (vtF 1 (stepsF x.data.toList) % n = a))
theorem ind_loop (x : ByteArray) (hx : x.size ≤ 100000) (n q a b : Nat) (hn : 0 < n) (hq : 0 < q) (d : Nat) : ∀ (k i acc : Nat), x.size - i = d → i ≤ x.size → d + x.size + 1 < k → acc + 255 * (x.size - i) ≤ 1000000000 →
    mark_code_in.l0 k x (acc : Int) (x.size : Int) (i : Int) 1 n q a b = some (decide ((acc + dsum (x.data.toList.drop i)) % q = b) && decide (vtF 1 (stepsF x.data.toList) % n = a)) := by
  induction d with
  | zero =>
    intro k i acc hd hi hk hb
    obtain ⟨k, rfl⟩ : ∃ m, k = m + 1 := ⟨k - 1, by omega⟩
    have : x.data.toList.drop i = [] := List.drop_eq_nil_of_le (by simp; show x.size ≤ i; omega)
    rw [this]
    simp only [mark_code_in.l0]
    rw [if_neg (by omega), if_neg (by omega), tmod_nat]
    have e0 : acc + dsum [] = acc := by simp [dsum]
    rw [e0]
    by_cases hb1 : acc % q = b
    · rw [if_pos (by omega), decide_eq_true hb1, Bool.true_and, steps_ev x hx k (by omega)]
      simp only [Option.bind_some]
      have hs : (⟨(stepsF x.data.toList).toArray⟩ : ByteArray).size = x.size - 1 := by
        show (stepsF x.data.toList).toArray.size = _
        rw [List.size_toArray, stepsF_length, Array.length_toList]; rfl
      rw [sum_ev _ (by omega) k (by omega)]
      simp only [Option.bind_some]
      rw [if_neg (by omega), tmod_nat, beq_nat]
      rfl
    · rw [if_neg (by omega), decide_eq_false hb1, Bool.false_and]
  | succ d ih =>
    intro k i acc hd hi hk hb
    obtain ⟨k, rfl⟩ : ∃ m, k = m + 1 := ⟨k - 1, by omega⟩
    have hlt : i < x.size := by omega
    rw [bytes_drop x i hlt]
    have hbt := bt_nat x i hlt
    obtain ⟨c, hc⟩ : ∃ c, (x[i]'hlt) = c := ⟨_, rfl⟩
    rw [hc] at hbt ⊢
    have hdv : dval c ≤ 255 := by unfold dval; omega
    have hcons : dsum (c :: x.data.toList.drop (i + 1)) = dval c + dsum (x.data.toList.drop (i + 1)) := by simp only [dsum, List.map_cons, List.sum_cons]
    rw [hcons]
    have hdi := dval_int c
    obtain ⟨v, hv⟩ : ∃ v, dval c = v := ⟨_, rfl⟩
    rw [hv] at hdv hdi ⊢
    have h1 : x.size - (i + 1) = d := by omega
    have h2 : i + 1 ≤ x.size := by omega
    have h3 : d + x.size + 1 < k := by omega
    have h4 : acc + v + 255 * (x.size - (i + 1)) ≤ 1000000000 := by omega
    have h := ih k (i + 1) (acc + v) h1 h2 h3 h4
    have c1 : (i : Int) < (x.size : Int) := by omega
    have c2 : (0 : Int) ≤ (i : Int) := by omega
    have b1 : i + 1 ≤ 1000000000000 := by omega
    have b2 : acc + v ≤ 1000000000000 := by omega
    have ew := w64succ i b1
    have ew2 := w64add acc v b2
    clear hb ih h1 h2 h3 h4
    simp only [mark_code_in.l0]
    rw [if_pos c1, if_pos c2, if_pos c1, hbt, hdi, ew, ew2, h, Nat.add_assoc]
theorem in_eqD (n a : Nat) (x : ByteArray) (q b : Int) (k : Nat) : mark_code_in.f k 1 n q a b x = if (x.size : Int) = (n : Int) then mark_code_in.l0 k x 0 (x.size : Int) 0 1 n q a b else some false := by
  unfold mark_code_in.f
  rw [if_neg (show ¬ ((1 : Int) = 0) by decide)]
theorem ind_ev (n q a b : Nat) (x : ByteArray) (hn0 : 0 < n) (hq : 0 < q) (hn : n ≤ 100000) (k : Nat) (hk : 2 * n + 1 < k) : mark_code_in.f k 1 n q a b x = some (inD n q a b x) := by
  rw [in_eqD]
  unfold inD
  by_cases hs : x.size = n
  · subst hs
    have h := ind_loop x hn x.size q a b hn0 hq x.size k 0 0 (by omega) (by omega) (by omega) (by omega)
    rw [if_pos rfl, decide_eq_true rfl, Bool.true_and]
    rw [show ((0 : Nat) : Int) = 0 from rfl] at h
    rw [h, List.drop_zero, Nat.zero_add]
  · rw [if_neg (by omega), decide_eq_false hs, Bool.false_and]
end Go.Proofs.YtopmcoohdhlnaaaDoor.M
