/- Contracts of library functions and of gait.check, as far as the signs ask: one byte repeated; a slice of numbers copied; a row of signs is one. -/
import Derived.ChangeSlices
import Derived.Laws.CopyOwn
import Derived.Lib.SliceRun
import Derived.Shelf.Slices.CompactS
import Derived.Shelf.Slices.In.SortNone
import Derived.SizedLaws
import Derived.Sort.OwnSorted
import Derived.Test.YthbhgnnfpfblhaaDoorG1
import Derived.Test.YthbhgnnfpfblhaaDoorM1
import Derived.Test.YthbhgnnfpfblhaaDoorWTab
namespace Go.Proofs.YthbhgnnfpfblhaaDoor.G
open Go.RowKit Go.Lib Go.Proofs.YthbhgnnfpfblhaaDoorW.PrintWords Go.Proofs.YthbhgnnfpfblhaaDoorW.PrintLast Go.Proofs.YthbhgnnfpfblhaaDoorW.PrintMore
attribute [local go_sem] max2_int min2_int max_two min_two max_three min_three max_four min_four
set_option linter.unusedVariables false
set_option linter.unusedSimpArgs false
theorem info5 : (Tryd.prog.info? 5).map (fun i => (i.zero, i.size, i.bytes)) = some (some (.int .u8 0), 1, 1) := by kernel_rfl
/-! ### slices.Repeat: function 7 -/
def slices_Repeat.f (l0 : List Int) (a1 : Int) : Option (List Int) := if l0.length = 1 ∧ 1 ≤ a1 ∧ a1 ≤ 1000 then some (List.replicate a1.toNat (l0.getD 0 0)) else none
theorem mul_one_calls (n : Nat) (hn : n ≤ 1000) (w : World) : Calls Tryd.prog 14 #[.int .u64 1, .int .u64 (n : Int)] w fun e w' => e = .returned (.tuple #[.int .u64 0, .int .u64 (n : Int)]) ∧ w' = w := by
  have h := Tryd.bits_Mul 1 n (by omega) (by omega) w
  refine h.mono ?_
  rintro e w' ⟨rfl, rfl⟩
  refine ⟨?_, rfl⟩
  have e1 : 1 * n / 18446744073709551616 = 0 := Nat.div_eq_of_lt (by omega)
  have e2 : 1 * n % 18446744073709551616 = n := by rw [Nat.one_mul]; exact Nat.mod_eq_of_lt (by omega)
  rw [e1, e2]
  rfl
/-- A row that was made just now. -/
theorem made_row {w1 : World} {B n : Nat} {v : Value} (hn : 1 ≤ n) (ho : (Kd.int .u8).R 5 w1 B (fun _ => True) v (List.replicate (n : Int).toNat (0 : Int))) :
    ∃ (g cap : Nat) (cur : List Value), v = .slice (some ⟨g, 0, none⟩) n cap ∧ B ≤ g ∧ w1.heap[g]? = some (.cells cur.toArray 5 (0, 0)) ∧ n ≤ cap ∧ cap ≤ maxLen ∧ cur.length = cap := by
  have h := Kd.own_of_R ho
  rw [List.length_replicate, Int.toNat_natCast] at h
  obtain ⟨_, hv⟩ := h
  rcases hv with ⟨_, h0⟩ | ⟨g, cap, cur, hv, hB, hg, h1, h2, h3, _⟩
  · omega
  · exact ⟨g, cap, cur.toList, hv, hB, by simpa using hg, h1, h2, by rw [Array.length_toList, h3, Nat.mul_one]⟩
theorem row_done {w1 : World} {B n g cap : Nat} {cur : List Value} {x : Int} (hB : B ≤ g) (hg : w1.heap[g]? = some (.cells cur.toArray 5 (0, 0))) (h1 : n ≤ cap) (h2 : cap ≤ maxLen) (h3 : cur.length = cap) (hx : ∀ j, j < n → cur[j]? = some (.int .u8 x)) :
    (Kd.int .u8).R 5 w1 B (fun _ => True) (.slice (some ⟨g, 0, none⟩) n cap) (List.replicate n x) := by
  refine Kd.R_of_own ⟨?_, Or.inr ⟨g, cap, cur.toArray, ?_, hB, hg, ?_, h2, by simp [h3], ?_⟩⟩ (fun _ _ => trivial)
  · simp [encs]
  · rw [List.length_replicate]
  · rw [List.length_replicate]; exact h1
  · rw [List.length_replicate, Nat.mul_one]
    apply List.ext_getElem?
    intro j
    show (cur.take n)[j]? = (encs (Value.int .u8) (List.replicate n x))[j]?
    by_cases hj : j < n
    · rw [List.getElem?_take_of_lt hj, hx j hj]
      simp [encs, hj]
    · rw [List.getElem?_eq_none (by rw [List.length_take]; omega), List.getElem?_eq_none (by simp [encs]; omega)]
theorem rep_at {w : World} {g m t : Nat} {cur : List Value} {X : Value} (hg : w.heap[g]? = some (.cells cur.toArray 5 (0, 0))) (hx : ∀ j, j < m → cur[j]? = some X) (ht : t ≤ m) : ∀ j v, (List.replicate t X)[j]? = some v → w.cell? ((⟨g, 0, none⟩ : Addr).add j) = some v := by
  intro j v hj
  rw [List.getElem?_replicate] at hj
  split at hj
  · obtain rfl := Option.some.inj hj
    have e : (⟨g, 0, none⟩ : Addr).add j = ⟨g, j, none⟩ := by by_cases h0 : j = 0 <;> simp [Addr.add, h0]
    rw [e, blk_cell hg j]
    have := hx j (by omega)
    simpa using this
  · cases hj
theorem one_at {w : World} {ad : Addr} {x : Int} (h : w.cell? (ad.add 0) = some (.int .u8 x)) : ∀ j v, [Value.int .u8 x][j]? = some v → w.cell? (ad.add j) = some v := by
  intro j v hj
  match j, hj with
  | 0, hj => (obtain rfl := Option.some.inj hj; exact h)
theorem one_min {n : Nat} (h : 1 ≤ n) : ([Value.int .u8 0].length : Nat) = Nat.min 1 n := by
  show 1 = min 1 n
  omega
theorem one_fit {n cap : Nat} {cur : List Value} (h : 1 ≤ n) (h1 : n ≤ cap) (h2 : cur.length = cap) : 0 + [Value.int .u8 0].length ≤ cur.length := by
  show 0 + 1 ≤ _
  omega
theorem one_cell (x : Int) : ∀ v ∈ [Value.int .u8 x], v.oneCell' = true := by
  intro v hv
  rw [List.mem_singleton] at hv
  subst hv
  rfl
theorem splice_fill {cur : List Value} {m t : Nat} {X : Value} (h : ∀ j, j < m → cur[j]? = some X) (hl : m + t ≤ cur.length) : ∀ j, j < m + t → (splice cur m (List.replicate t X))[j]? = some X := by
  intro j hj
  unfold splice
  by_cases hm : j < m
  · rw [List.getElem?_append_left (by rw [List.length_take]; omega), List.getElem?_take_of_lt hm]
    exact h j hm
  · rw [List.getElem?_append_right (by rw [List.length_take]; omega), List.length_take, List.getElem?_append_left (by rw [List.length_replicate]; omega), List.getElem?_replicate, if_pos (by omega)]

def slices_Repeat.T9 : Bool × List (List Nat × List Nat) := (true, [([], []), ([], []), ([], []), ([1, 2], [1, 2]), ([], []), ([], []), ([4, 5], [4, 5]), ([3, 6], [3, 6]), ([0, 7], [0, 7]), ([8, 7, 0, 1, 2, 3, 4, 5, 6, 7, 8], [0, 2, 5, 8])])
def slices_Repeat.B9 : List Nat := [0, 0, 0, 6, 0, 0, 48, 126, 255, 511]
theorem slices_Repeat.tab9 : rtab .any (opsOf Tryd.f7 9) = slices_Repeat.T9 := by kernel_rfl
theorem slices_Repeat.bits9 : waitsOk slices_Repeat.T9.2 slices_Repeat.B9 = true := by kernel_rfl
set_option maxHeartbeats 8000000 in
set_option maxRecDepth 100000 in
theorem slices_Repeat.calls (A0 : Option Addr) (c0 : Nat) (l0 : List Int) (a1 : Int) (r : List Int) (w : World) (hr0 : Kd.C (Kd.int .u8) w A0 l0.length l0) (hc0 : l0.length ≤ c0) (h : slices_Repeat.f l0 a1 = some r) :
    Calls Tryd.prog 7 #[.slice A0 l0.length c0, .int .i64 a1] w fun e w' => ∃ v0_ : Value, e = .returned v0_ ∧ Kd.R (Kd.int .u8) 5 w' w.heap.size (fun _ => True) v0_ r ∧ Below w.heap.size w w' := by
  unfold slices_Repeat.f at h
  split at h
  case isFalse => cases h
  case isTrue hok =>
  obtain ⟨h1, h2, h3⟩ := hok
  obtain rfl := Option.some.inj h
  clear h
  obtain ⟨n, rfl⟩ := Int.eq_ofNat_of_zero_le (show 0 ≤ a1 by omega)
  obtain ⟨x, rfl⟩ : ∃ x, l0 = [x] := by
    match l0, h1 with
    | [x], _ => exact ⟨x, rfl⟩
  obtain ⟨ad, hA, hx⟩ := Kd.at_int hr0 0 (by decide) (by show (0 : Int) < ((1 : Nat) : Int); decide)
  subst hA
  have hx0 : w.cell? (ad.add 0) = some (.int .u8 x) := hx
  clear hx hr0 h1
  have hn1 : 1 ≤ n := by omega
  have hn2 : n ≤ 1000 := by omega
  clear h2 h3
  have HB := Aside0.mk (Below.refl w.heap.size w)
  have HX := Aside0.mk hx0
  clear hx0
  have hu := Tryd.underlying32
  have b1 : decide ((n : Int) < 0) = false := decide_eq_false (by omega)
  have b2 : IntKind.u64.wrap (n : Int) = (n : Int) := by simp only [IntKind.wrap, IntKind.bits, IntKind.signed]; simp; omega
  have b3 : decide ((n : Int) > 9223372036854775807) = false := decide_eq_false (by omega)
  have b4 : wrap64 (n : Int) = (n : Int) := by unfold wrap64; omega
  go_enter Tryd.func7, Tryd.ntmps7
  go_wp2_with (first
    | ((with_reducible refine gate_callee (f := 14) rfl ?_); refine goesL_ (some 18) rfl rfl Tryd.func14 (by kernel_rfl) rfl #[.int .u64 1, .int .u64 (n : Int)] rfl (by (try simp only [List.map_toArray, List.map_cons, List.map_nil]); first | done | rfl) ?_; (with_reducible refine (mul_one_calls n hn2 _).mono ?_); rintro e w1 ⟨rfl, hw_⟩; obtain rfl := hw_.symm; refine ⟨_, rfl, ?_⟩)
    | ((with_reducible refine gate_dst (N := 30) rfl ?_); refine Kd.R_make (Kd.int .u8) _ 5 rfl (N := 30) rfl 32 _ _ rfl (n : Int) rfl rfl Tryd.underlying32 (.int .u8 0) 1 info5 rfl (by decide) (by decide) (0 : Int) (ok := fun _ => True) (okp := fun _ => True) rfl (fun _ hk => hk) trivial (by omega) (by simp only [Int.toNat_natCast]; omega) (Below.refl _ _) (Nat.le_refl _) ?_; intro v1 w5 ho hb hg_ hnew_; clear hg_ hnew_; obtain ⟨g, cap, cur, rfl, hBg, hcur, hncap, hcm, hcl⟩ := made_row hn1 ho; have n0_ := Aside0.mk (below_step (by repeat (first | (with_reducible first | exact HB.out | apply below_alloc | apply pw_below_drewN | apply below_drew1) | exact HB.out | exact Below.refl _ _)) hb); have n1_ := Aside0.mk ((hb.cell (World.block_lt_of_cell? _ _ HX.out)).trans HX.out); clear HB HX; have HB := n0_; have HX := n1_; clear n0_ n1_; have HG := Aside0.mk hcur; have GB := Aside0.mk hBg; have HN := Aside0.mk hncap; have HM := Aside0.mk hcm; have HL := Aside0.mk hcl; clear ho hb hcur hBg hncap hcm hcl)
    | ((with_reducible refine gate_builtin (b := .copy) (xs := #[.tmp 31, .tmp 32]) rfl ?_); refine wpList_copy_splice rfl (.tmp 31) (.tmp 32) 32 32 rfl 5 Tryd.underlying32 (by kernel_rfl) (some ⟨g, 0, none⟩) (some ad) n cap 1 c0 rfl rfl g 0 cur 5 HG.out [.int .u8 x] ?cn ?cp ?cf ?c1 w.heap.size w HB.out GB.out ?_; (case cn => exact one_min hn1); (case cp => exact fun _ => ⟨rfl, ad, rfl, one_at HX.out⟩); (case cf => exact one_fit hn1 HN.out HL.out); (case c1 => exact one_cell x); intro w6 hg6 hb6; have n0_ := Aside0.mk hb6; have n1_ := Aside0.mk hg6; clear HB HG; have HB := n0_; have HG := n1_; clear n0_ n1_ hb6 hg6))
  have HI := Aside0.mk (show ∃ cur2 : List Value, w6.heap[g]? = some (.cells cur2.toArray 5 (0, 0)) ∧ cur2.length = cap ∧ ∀ j, j < 1 → cur2[j]? = some (.int .u8 x) from ⟨_, HG.out, (length_splice cur 0 [Value.int .u8 x] (one_fit hn1 HN.out HL.out)).trans HL.out, splice_fill (t := 1) (m := 0) (fun j hj => absurd hj (Nat.not_lt_zero j)) (one_fit hn1 HN.out HL.out)⟩)
  clear HG HL HX
  go_loopg [8] (n - 1) (fun kq v8 w' => ∃ m : Nat, v8 = .int .i64 (m : Int) ∧ Aside0 (1 ≤ m ∧ m ≤ n ∧ kq = n - m) ∧ Aside0 (∃ cur2 : List Value, w'.heap[g]? = some (.cells cur2.toArray 5 (0, 0)) ∧ cur2.length = cap ∧ ∀ j, j < m → cur2[j]? = some (.int .u8 x)) ∧ Aside0 (Below w.heap.size w w'))
  case atStart => exact ⟨1, rfl, ⟨⟨by omega, hn1, rfl⟩⟩, HI, HB⟩
  case round =>
    clear HI HB
    obtain ⟨m, rfl, HK, HI, HB⟩ := hrel
    obtain ⟨m1, m2, mk⟩ := HK.out
    clear HK b2 b4
    by_cases hmn : m < n
    · have q1 : decide ((m : Int) < (n : Int)) = true := decide_eq_true (by omega)
      have hmc : m < cap := Nat.lt_of_lt_of_le hmn HN.out
      obtain ⟨cur2, hg2, hl2, hx2⟩ := HI.out
      have HG := Aside0.mk hg2
      have HL := Aside0.mk hl2
      have HX := Aside0.mk hx2
      clear HI hg2 hl2 hx2
      have q2 : (m : Int) ≤ (n : Int) := by omega
      have q3 : (m : Int) ≤ (cap : Int) := by omega
      have q4 : (cap = m) = False := eq_false (by omega)
      have q5 : (m = cap) = False := eq_false (by omega)
      have q6 : m ≤ cap := by omega
      have q7 : (n : Int) ≤ (cap : Int) := by have := HN.out; omega
      try go_wp2
      have n0_ := Aside0.mk (below_drew1 HB.out)
      have n1_ := Aside0.mk (blk_drew HG.out)
      clear HB HG
      have HB := n0_
      have HG := n1_
      clear n0_ n1_
      refine start_ (n := 10) (S := fun w' => True) (ds := []) #[false, false, false, false, false, false, false, false, false, false] (by kernel_rfl) rfl rfl trivial (fun hHeld => ?_); refine with_tabW slices_Repeat.tab9 slices_Repeat.bits9 (fun HT_ HW_ => ?_)
      generalize wr.drew = w20 at HB HG hHeld ⊢
      refine pure_ (i := 0) (N := some 38) (v := ?_) (a' := ?_) #[true, false, false, false, false, false, false, false, false, false] rfl rfl (any_of HT_.out (by kernel_rfl)) (fun _ _ _ h => h) (Or.inl ⟨by rfl, ?_⟩) ?_ ?_
      rotate_left
      · intro w'
        go_simp
        with_reducible rfl
      rotate_left
      · simp only [Act.put, List.setIfInBounds_toArray, List.set_cons_zero, List.set_cons_succ, i64_w, i32_w]
        rfl
      refine pure_ (i := 1) (N := some 39) (v := ?_) (a' := ?_) #[true, true, false, false, false, false, false, false, false, false] rfl rfl (any_of HT_.out (by kernel_rfl)) (fun _ _ _ h => h) (Or.inl ⟨by rfl, ?_⟩) ?_ ?_
      rotate_left
      · intro w'
        go_simp
        with_reducible rfl
      rotate_left
      · simp only [Act.put, List.setIfInBounds_toArray, List.set_cons_zero, List.set_cons_succ, i64_w, i32_w]
        rfl
      refine pure_ (i := 2) (N := some 40) (v := ?_) (a' := ?_) #[true, true, true, false, false, false, false, false, false, false] rfl rfl (any_of HT_.out (by kernel_rfl)) (fun _ _ _ h => h) (Or.inl ⟨by rfl, ?_⟩) ?_ ?_
      rotate_left
      · intro w'
        go_simp
        with_reducible rfl
      rotate_left
      · simp only [Act.put, List.setIfInBounds_toArray, List.set_cons_zero, List.set_cons_succ, i64_w, i32_w]
        rfl
      refine pure_ (i := 3) (N := some 41) (v := ?_) (a' := ?_) #[true, true, true, true, false, false, false, false, false, false] rfl rfl (any_of HT_.out (by kernel_rfl)) (fun _ _ _ h => h) (Or.inl ⟨by rfl, ?_⟩) ?_ ?_
      rotate_left
      · intro w'
        go_simp
        with_reducible rfl
      rotate_left
      · simp only [Act.put, List.setIfInBounds_toArray, List.set_cons_zero, List.set_cons_succ, i64_w, i32_w]
        rfl
      refine pure_ (i := 4) (N := some 42) (v := ?_) (a' := ?_) #[true, true, true, true, true, false, false, false, false, false] rfl rfl (any_of HT_.out (by kernel_rfl)) (fun _ _ _ h => h) (Or.inl ⟨by rfl, ?_⟩) ?_ ?_
      rotate_left
      · intro w'
        go_simp
        with_reducible rfl
      rotate_left
      · simp only [Act.put, List.setIfInBounds_toArray, List.set_cons_zero, List.set_cons_succ, i64_w, i32_w]
        rfl
      refine pure_ (i := 5) (N := some 43) (v := ?_) (a' := ?_) #[true, true, true, true, true, true, false, false, false, false] rfl rfl (any_of HT_.out (by kernel_rfl)) (fun _ _ _ h => h) (Or.inl ⟨by rfl, ?_⟩) ?_ ?_
      rotate_left
      · intro w'
        go_simp
        with_reducible rfl
      rotate_left
      · simp only [Act.put, List.setIfInBounds_toArray, List.set_cons_zero, List.set_cons_succ, i64_w, i32_w]
        rfl
      refine pure_ (i := 6) (N := some 44) (v := ?_) (a' := ?_) #[true, true, true, true, true, true, true, false, false, false] rfl rfl (any_of HT_.out (by kernel_rfl)) (fun _ _ _ h => h) (Or.inl ⟨by rfl, ?_⟩) ?_ ?_
      rotate_left
      · intro w'
        go_simp
        with_reducible rfl
      rotate_left
      · simp only [Act.put, List.setIfInBounds_toArray, List.set_cons_zero, List.set_cons_succ, i64_w, i32_w]
        rfl
      obtain ⟨t, ht⟩ : ∃ t, t = min m (n - m) := ⟨_, rfl⟩
      have t1 : t ≤ m := by omega
      have t2 : m + t ≤ n := by omega
      have t3 : 1 ≤ t := by omega
      have hmeas : n - (m + t) < gk := by rw [mk]; omega
      have HTT := Aside0.mk ht
      clear ht
      have hlc : m + (List.replicate t (Value.int .u8 x)).length ≤ cur2.length := by rw [List.length_replicate, HL.out]; have := HN.out; omega
      refine one_ (i := 7) (N := some 45) #[true, true, true, true, true, true, true, true, false, false] rfl rfl (one_of HT_.out (by kernel_rfl)) (by decide) (fun K hK => ?_)
      refine step_copy_splice rfl (.tmp 41) (.tmp 44) 32 32 rfl 5 Tryd.underlying32 (by kernel_rfl) (some ⟨g, m, none⟩) (some ⟨g, 0, none⟩) (n - m) (cap - m) m cap rfl rfl g m cur2 5 HG.out (List.replicate t (.int .u8 x)) (by rw [List.length_replicate]; exact HTT.out) (fun _ => ⟨rfl, ⟨g, 0, none⟩, rfl, rep_at HG.out HX.out t1⟩) hlc (fun v hv => by rw [List.eq_of_mem_replicate hv]; rfl) w.heap.size w HB.out GB.out (fun w8 hg8 hb8 => ?_)
      refine hK.out _ _ trivial (fun hHeld => ?_)
      clear hK K
      refine norm_ (a' := ?_) ?_ ?_
      rotate_left
      · show Act.put _ (some 45) _ = _
        simp only [Act.put, List.setIfInBounds_toArray, List.set_cons_zero, List.set_cons_succ, i64_w, i32_w, List.length_replicate]
        rfl
      have q8 : wrap64 ((m : Int) + (t : Int)) = ((m + t : Nat) : Int) := M.w64add m t (Nat.le_trans t2 (Nat.le_trans hn2 (by decide)))
      refine pure_ (i := 8) (N := some 46) (v := ?_) (a' := ?_) #[true, true, true, true, true, true, true, true, true, false] rfl rfl (any_of HT_.out (by kernel_rfl)) (fun _ _ _ h => h) (Or.inl ⟨by rfl, ?_⟩) ?_ ?_
      rotate_left
      · intro w'
        go_simp
        with_reducible rfl
      rotate_left
      · simp only [Act.put, List.setIfInBounds_toArray, List.set_cons_zero, List.set_cons_succ, i64_w, i32_w]
        rfl
      refine pure_ (i := 9) (N := some 8) (v := ?_) (a' := ?_) #[true, true, true, true, true, true, true, true, true, true] rfl rfl (any_of HT_.out (by kernel_rfl)) (fun _ _ _ h => h) (Or.inl ⟨by rfl, ?_⟩) ?_ ?_
      rotate_left
      · intro w'
        go_simp
        with_reducible rfl
      rotate_left
      · simp only [Act.put, List.setIfInBounds_toArray, List.set_cons_zero, List.set_cons_succ, i64_w, i32_w]
        rfl
      refine done_ (done_of HT_.out (by kernel_rfl)) ?_
      try go_wp2
      go_roundg (n - (m + t))
      case measure => exact hmeas
      case rel => exact ⟨m + t, rfl, ⟨⟨Nat.le_trans m1 (Nat.le_add_right m t), t2, rfl⟩⟩, ⟨_, hg8, (length_splice cur2 m _ hlc).trans HL.out, splice_fill HX.out (by rw [List.length_replicate] at hlc; exact hlc)⟩, ⟨hb8⟩⟩
    · have q1 : decide ((m : Int) < (n : Int)) = false := decide_eq_false (by omega)
      obtain rfl : m = n := by omega
      go_wp2
      go_ret
      obtain ⟨cur2, hg2, hl2, hx2⟩ := HI.out
      exact ⟨_, rfl, row_done GB.out hg2 HN.out HM.out hl2 hx2, HB.out⟩
/-! ### slices.Clone: function 12 -/
theorem add_plain (b off j : Nat) : (⟨b, off, none⟩ : Addr).add j = ⟨b, off + j, none⟩ := by
  by_cases h : j = 0
  · subst h; rfl
  · simp [Addr.add, h]
theorem spot_none {w : World} {b off : Nat} {sp : Option Nat} {v : Value} (h : w.cell? ((⟨b, off, sp⟩ : Addr).add 0) = some v) : sp = none := by
  have e : (⟨b, off, sp⟩ : Addr).add 0 = ⟨b, off, sp⟩ := rfl
  rw [e] at h
  unfold World.cell? at h
  cases sp with
  | none => rfl
  | some k =>
    exfalso
    revert h
    dsimp only
    split <;> simp
def slices_Clone.f (l0 : List Int) : Option (List Int) := if 1 ≤ l0.length ∧ l0.length ≤ 1000000 then some l0 else none
theorem slices_Clone.calls (A0 : Option Addr) (c0 : Nat) (l0 : List Int) (r : List Int) (w : World) (hr0 : Kd.C (Kd.int .i64) w A0 l0.length l0) (hc0 : l0.length ≤ c0) (h : slices_Clone.f l0 = some r) :
    Calls Tryd.prog 12 #[.slice A0 l0.length c0] w fun e w' => ∃ v0_ : Value, e = .returned v0_ ∧ Kd.R (Kd.int .i64) 3 w' w.heap.size (fun _ => True) v0_ r ∧ Below w.heap.size w w' := by
  unfold slices_Clone.f at h
  split at h
  case isFalse => cases h
  case isTrue hok =>
  obtain ⟨h1, h2⟩ := hok
  obtain rfl := Option.some.inj h
  obtain ⟨ad, hA, _⟩ := Kd.at_int hr0 0 (by decide) (by omega)
  subst hA
  have hc : ∀ j, j < l0.length → w.cell? (ad.add j) = some (.int .i64 (l0.getD j 0)) := by
    intro j hj
    obtain ⟨ad2, h3, h4⟩ := Kd.at_int hr0 (j : Int) (by omega) (by omega)
    obtain rfl := Option.some.inj h3
    rw [Int.toNat_natCast] at h4
    rw [h4]
    rfl
  obtain ⟨b, off, sp⟩ := ad
  obtain rfl : sp = none := spot_none (hc 0 (by omega))
  have hc2 : ∀ j, j < l0.length → w.cell? ⟨b, off + j, none⟩ = some (.int .i64 (l0.getD j 0)) := fun j hj => by
    have := hc j hj
    rw [add_plain] at this
    exact this
  refine (Tryd.slices_Clone_int b off l0.length c0 l0 w (Nat.le_refl _) (by omega) hc2).mono ?_
  rintro e w' ⟨v, rfl, ho, _, hb⟩
  refine ⟨v, rfl, Kd.R_of_own ?_ (fun _ _ => trivial), hb⟩
  rw [List.take_length] at ho
  exact ho
/-! ### gait.check: function 9 -/
def okSigns (s : ByteArray) : Bool := decide (1 ≤ s.size) && decide (s.size ≤ 64) && s.data.toList.all fun b => [43, 45].contains b
def gait_check.f (l0 : List ByteArray) : Option Int := match l0 with | [s] => if okSigns s = true then some 0 else none | _ => none
theorem dw_nil {α : Type} (p : α → Bool) : ∀ (l : List α), (∀ b ∈ l, p b = true) → l.dropWhile p = []
  | [], _ => rfl
  | a :: l, h => by
    rw [List.dropWhile_cons, if_pos (h a (List.mem_cons_self ..))]
    exact dw_nil p l (fun b hb => h b (List.mem_cons_of_mem a hb))
theorem trim_all (s : ByteArray) (h : okSigns s = true) : (⟨(Lib.trimS s.data.toList [43, 45]).toArray⟩ : ByteArray) = ⟨#[]⟩ := by
  have ha : ∀ b ∈ s.data.toList, ([43, 45] : List UInt8).contains b = true := by
    unfold okSigns at h
    simp only [Bool.and_eq_true, List.all_eq_true] at h
    exact h.2
  have e : Lib.trimRightS s.data.toList [43, 45] = [] := by
    unfold Lib.trimRightS
    rw [dw_nil _ _ (fun b hb => ha b (List.mem_reverse.1 hb))]
    rfl
  unfold Lib.trimS
  rw [e]
  rfl
theorem trim_calls (s : ByteArray) (h : okSigns s = true) (w : World) : Calls Tryd.prog 15 #[.string s, .string ⟨#[43, 45]⟩] w fun e w' => e = .returned (.string ⟨#[]⟩) ∧ Below w.heap.size w w' := by
  have hs : s.size ≤ 9223372036854775807 := by
    unfold okSigns at h
    simp only [Bool.and_eq_true, decide_eq_true_eq] at h
    omega
  have hc := Any.strings_Trim_laid Tryd.lays160 (by kernel_rfl) s ⟨#[43, 45]⟩ w hs (by decide) (ascii_of_all (by decide))
  have e := trim_all s h
  change Calls Tryd.prog 15 _ _ (fun e w' => e = .returned (.string ⟨(Lib.trimS s.data.toList [43, 45]).toArray⟩) ∧ Below w.heap.size w w') at hc
  rw [e] at hc
  exact hc
set_option maxHeartbeats 8000000 in
set_option maxRecDepth 100000 in
theorem gait_check.calls (A0 : Option Addr) (c0 : Nat) (l0 : List ByteArray) (r : Int) (w : World) (hr0 : Kd.C Kd.string w A0 l0.length l0) (hc0 : l0.length ≤ c0) (h : gait_check.f l0 = some r) :
    Calls Tryd.prog 9 #[.slice A0 l0.length c0] w fun e w' => e = .returned (.int .i64 r) ∧ Below w.heap.size w w' := by
  match l0, h with
  | [s], h =>
    unfold gait_check.f at h
    dsimp only at h
    split at h
    case isFalse => cases h
    case isTrue hok =>
    obtain rfl := Option.some.inj h
    obtain ⟨ad, hA, hx⟩ := Kd.at_string hr0 0 (by decide) (by show (0 : Int) < ((1 : Nat) : Int); decide)
    subst hA
    have hs : w.cell? (ad.add 0) = some (.string s) := hx
    clear hx hr0
    have HO := Aside0.mk hok
    obtain ⟨z1, z2⟩ : 1 ≤ s.size ∧ s.size ≤ 64 := by
      unfold okSigns at hok
      simp only [Bool.and_eq_true, decide_eq_true_eq] at hok
      exact ⟨hok.1.1, hok.1.2⟩
    clear hok
    have HB := Aside0.mk (Below.refl w.heap.size w)
    have HS := Aside0.mk hs
    go_enter Tryd.func9, Tryd.ntmps9
    go_wp2
    go_loopg [9] 1 (fun kq v9 w' => ∃ p : Nat, v9 = .int .i64 (p : Int) ∧ Aside0 (p + kq = 1) ∧ Aside0 (Below w.heap.size w w'))
    case atStart => exact ⟨0, rfl, ⟨rfl⟩, HB⟩
    case round =>
      obtain ⟨p, rfl, HP, HB1⟩ := hrel
      clear HB
      have HB := HB1
      clear HB1
      by_cases hp : p = 0
      · subst hp
        have c1 : wr.cell? (ad.add 0) = some (.string s) := (HB.out.cell (World.block_lt_of_cell? _ _ HS.out)).trans HS.out
        have c1b : wr.cell? ad = some (.string s) := c1
        have c2 : decide ((64 : Int) < (s.size : Int)) = false := decide_eq_false (by omega)
        have c3 : decide ((s.size : Int) > 64) = false := decide_eq_false (by omega)
        have c4 : ¬ (s.size : Int) > 64 := by omega
        go_wp2
        go_roundg 0
        case measure => have := HP.out; omega
        case rel => exact ⟨1, rfl, ⟨rfl⟩, HB⟩
      · obtain rfl : p = 1 := by have := HP.out; omega
        go_wp2
        go_loopg [19] 1 (fun kq v19 w' => ∃ p : Nat, v19 = .int .i64 (p : Int) ∧ Aside0 (p + kq = 1) ∧ Aside0 (Below w.heap.size w w'))
        case atStart => exact ⟨0, rfl, ⟨rfl⟩, HB⟩
        case round =>
          clear HB
          obtain ⟨p, rfl, HQ, HB⟩ := hrel
          by_cases hp : p = 0
          · subst hp
            have c1 : wr.cell? (ad.add 0) = some (.string s) := (HB.out.cell (World.block_lt_of_cell? _ _ HS.out)).trans HS.out
            have c1b : wr.cell? ad = some (.string s) := c1
            have c5 : (s.toList == ([] : List UInt8)) = false := beq_eq_false_iff_ne.mpr (by
              intro e
              rw [toList_data] at e
              have : s.data.toList.length = 0 := by rw [e]; rfl
              rw [Array.length_toList] at this
              have : s.size = 0 := this
              omega)
            have c6 : s.toList.isEmpty = false := not_empty z1
            go_wp2_with (go_at_call 15; (with_reducible refine (trim_calls s HO.out _).mono ?_); rintro e w8 ⟨rfl, hb⟩; have n0_ := Aside0.mk (below_step (by repeat (first | (with_reducible first | exact HB.out | apply below_alloc | apply pw_below_drewN | apply below_drew1) | exact HB.out | exact Below.refl _ _)) hb); clear HB; have HB := n0_; clear n0_ hb)
            go_roundg 0
            case measure => have := HQ.out; omega
            case rel => exact ⟨1, rfl, ⟨rfl⟩, HB⟩
          · obtain rfl : p = 1 := by have := HQ.out; omega
            go_wp2
            go_ret
            exact ⟨rfl, HB.out⟩

end Go.Proofs.YthbhgnnfpfblhaaDoor.G
