/- The reference's Shorter and Longer: all words that come of a word by one letter less, or by one letter more, in byte order, each once. The steps of the regions that draw their order were printed by a program of this session. -/
import Derived.ArgAppend
import Derived.Below
import Derived.BigQuiet
import Derived.Deep.AppendLies
import Derived.Deep.CutBlock
import Derived.Deep.DeepCutAuto
import Derived.Deep.Draws
import Derived.Deep.LoopGhost
import Derived.Deep.OwnRows
import Derived.Deep.QuietTactic
import Derived.Deep.RegionHeld3
import Derived.KernelRfl
import Derived.Laws.BitsLemmas
import Derived.Laws.BytesArg
import Derived.Laws.IdiomCopy
import Derived.Laws.MakeOwn
import Derived.Laws.OwnMore
import Derived.Laws.Rows
import Derived.Laws.Slices
import Derived.Laws.StructEq
import Derived.Lib.AppendStr
import Derived.Lib.ConvBytes
import Derived.Lib.Hide
import Derived.Lib.SliceRun
import Derived.Maps.AppendAt
import Derived.OrdersHeld
import Derived.Outline
import Derived.OwnWalk
import Derived.RowKit
import Derived.RowKit3
import Derived.Shelf.Slices.CompactS
import Derived.Shelf.Slices.In.SortNone
import Derived.Shelf.Small.Utf8
import Derived.Shelf.Sort.Plain
import Derived.Shelf.Strings.Builder1
import Derived.Shelf.Strings.Builder2
import Derived.Shelf.Strings.OnBuilder
import Derived.Shelf.Unicode.DecodeAny
import Derived.Shelf.Unicode.DecodeLast
import Derived.Shelf.Unicode.DecodeSlow
import Derived.Sort.OwnSorted
import Derived.Tactics
import Derived.Test.YtopmcoohdhlnaaaDoorProg
import Derived.WalkKit
import Derived.WideLaws
import Derived.Test.YtopmcoohdhlnaaaDoorG12
import Derived.Test.YtopmcoohdhlnaaaDoorG6
import Derived.Test.YtopmcoohdhlnaaaDoorWApart
import Derived.Test.YtopmcoohdhlnaaaDoorWLast
import Derived.Test.YtopmcoohdhlnaaaDoorWMore
import Derived.Test.YtopmcoohdhlnaaaDoorWN
import Derived.Test.YtopmcoohdhlnaaaDoorWShare
import Derived.Test.YtopmcoohdhlnaaaDoorWTab
import Derived.Test.YtopmcoohdhlnaaaDoorWWords
namespace Go.Proofs.YtopmcoohdhlnaaaDoor.G
open Go.RowKit Go.Lib Go.Proofs.YtopmcoohdhlnaaaDoorW.PrintWords Go.Proofs.YtopmcoohdhlnaaaDoorW.PrintLast Go.Proofs.YtopmcoohdhlnaaaDoorW.PrintMore
attribute [local go_sem] max2_int min2_int max_two min_two max_three min_three max_four min_four
set_option linter.unusedVariables false
set_option linter.unusedSimpArgs false
/-- Words put into a list, one after the other. -/
def putAll (l : List ByteArray) : List ByteArray := l.foldl putL []
theorem putAll_snoc (l : List ByteArray) (x : ByteArray) : putAll (l ++ [x]) = putL (putAll l) x := by simp [putAll]
theorem putAll_length (l : List ByteArray) : (putAll l).length ≤ l.length := by
  have : ∀ (l acc : List ByteArray), (l.foldl putL acc).length ≤ acc.length + l.length := by
    intro l
    induction l with
    | nil => intro acc; simp
    | cons x r ih => intro acc; have h1 := ih (putL acc x); have h2 := putL_length acc x; simp only [List.foldl_cons, List.length_cons]; omega
  simpa [putAll] using this l []
/-- A word without its letter k. -/
def delAt (x : ByteArray) (k : Nat) : ByteArray := x.extract 0 k ++ x.extract (k + 1) x.size
def delAll (x : ByteArray) (n : Nat) : List ByteArray := (List.range n).map (delAt x)
theorem delAll_succ (x : ByteArray) (n : Nat) : delAll x (n + 1) = delAll x n ++ [delAt x n] := by simp [delAll, List.range_succ]
theorem delAll_length (x : ByteArray) (n : Nat) : (delAll x n).length = n := by simp [delAll]
/-- A word with letter c of 0123 put in behind its first k. -/
def putAt (x : ByteArray) (k c : Nat) : ByteArray := x.extract 0 k ++ (⟨#[48, 49, 50, 51]⟩ : ByteArray).extract c (c + 1) ++ x.extract k x.size
def putsTo (x : ByteArray) (k q : Nat) : List ByteArray := (List.range q).map (putAt x k)
def putsAll (x : ByteArray) (q n : Nat) : List ByteArray := (List.range n).flatMap fun k => putsTo x k q
theorem putsTo_succ (x : ByteArray) (k q : Nat) : putsTo x k (q + 1) = putsTo x k q ++ [putAt x k q] := by simp [putsTo, List.range_succ]
theorem putsAll_succ (x : ByteArray) (q n : Nat) : putsAll x q (n + 1) = putsAll x q n ++ putsTo x n q := by simp [putsAll, List.range_succ]
theorem putsAll_length (x : ByteArray) (q n : Nat) : (putsAll x q n).length = n * q := by
  induction n with
  | zero => simp [putsAll]
  | succ n ih => rw [putsAll_succ, List.length_append, ih]; simp [putsTo, Nat.add_mul]
def pritchelref09_Shorter.T5 : Bool × List (List Nat × List Nat) := (true, [([], []), ([], []), ([], []), ([1, 2], [1, 2]), ([], []), ([], []), ([5], [5]), ([4, 6], [4, 6]), ([3, 7], [3, 7]), ([0, 8], [0, 8]), ([9, 9, 0, 1, 2, 3, 4, 5, 6, 7, 8, 9], [0, 9])])
def pritchelref09_Shorter.B5 : List Nat := [0, 0, 0, 6, 0, 0, 32, 112, 254, 511, 1023]
theorem pritchelref09_Shorter.tab5 : rtab .any (opsOf Tryd.f37 5) = pritchelref09_Shorter.T5 := by kernel_rfl
theorem pritchelref09_Shorter.bits5 : waitsOk pritchelref09_Shorter.T5.2 pritchelref09_Shorter.B5 = true := by kernel_rfl

theorem wrapOne (k m : Nat) (hm : m ≤ 1000000) (h : k + 1 ≤ m) : ∃ j : Int, wrap64 ((k : Int) + 1) = j ∧ IntKind.i64.wrap ((k : Int) + 1) = j ∧ (0 ≤ j) = True ∧ decide (0 ≤ j) = true ∧ (j ≤ (m : Int)) = True ∧ decide (j ≤ (m : Int)) = true ∧ j.toNat = k + 1 ∧ ((k : Int) ≤ j) = True ∧ decide ((k : Int) ≤ j) = true ∧ (0 ≤ (k : Int)) = True := by
  have e : wrap64 ((k : Int) + 1) = (k : Int) + 1 := by unfold wrap64; omega
  exact ⟨(k : Int) + 1, e, (i64_w _).trans e, eq_true (by omega), by simp; omega, eq_true (by omega), by simp; omega, by omega, eq_true (by omega), by simp; omega, eq_true (by omega)⟩
/-! ### pritchelref09_Shorter: function 37 -/
def pritchelref09_Shorter.f (a0 : ByteArray) : Option (List ByteArray) := if a0.size ≤ 1000 then some (putAll (delAll a0 a0.size)) else none
set_option maxHeartbeats 2000000 in
set_option maxRecDepth 100000 in
theorem pritchelref09_Shorter.calls (a0 : ByteArray) (r : List ByteArray) (w : World) (h : pritchelref09_Shorter.f a0 = some r) :
    Calls Tryd.prog 37 #[.string a0] w fun e w' => ∃ v0_ : Value, e = .returned (v0_) ∧ Kd.R Kd.string 9 w' w.heap.size (fun _ => True) v0_ r ∧ Below w.heap.size w w' := by
  unfold pritchelref09_Shorter.f at h
  split at h
  case isFalse => cases h
  case isTrue hsz =>
  obtain rfl := Option.some.inj h
  clear h
  go_enter Tryd.func37, Tryd.ntmps37
  go_wp2_with (first | ((with_reducible refine gate_dst (N := 5) rfl ?_); refine Kd.R_lit Kd.string _ 9 ?hg (N := 5) ?hd (xs := ([] : List ByteArray)) (inner := []) (ok := fun _ => True) (okp := fun _ => True) ?hr ?hp (fun _ hk => hk) trivial (Below.refl _ _) (Nat.le_refl _) (by simp) ?_; (case hd => rfl); (case hg => rfl); (case hr => first | (go_simp; done) | (go_simp; rfl)); (case hp => exact (Reps.none _ _)); intro v9 w4 ho hb hg_ hnew_; clear hg_ hnew_; have HO := Aside0.mk ho; have HB := Aside0.mk hb; clear ho hb))
  go_loopw [3, 4] (fun v i wr => ∃ k : Nat, k ≤ a0.size ∧ i = .int .i64 k ∧ Aside0 (Kd.R Kd.string 9 wr w.heap.size (fun _ => True) v (putAll (delAll a0 k))) ∧ Aside0 (Below w.heap.size w wr)) (fun _ i _ => a0.size - (Go.RowKit.intOf i).toNat)
  case atStart => exact ⟨0, Nat.zero_le _, rfl, HO, HB⟩
  case round =>
    clear HO HB
    obtain ⟨k, hk, rfl, HO, HB⟩ := hrel
    by_cases hlt : k < a0.size
    · have LEN := Aside0.mk (show (putAll (delAll a0 k)).length ≤ 1000000 from by have := putAll_length (delAll a0 k); rw [delAll_length] at this; omega)
      have hdec : decide ((k : Int) < (a0.size : Int)) = true := by simp; omega
      have hk1 : k + 1 ≤ a0.size := by omega
      have hs1 : (a0.extract 0 k).size = k := by rw [ByteArray.size_extract]; omega
      have hs2 : (a0.extract (k + 1) a0.size).size = a0.size - (k + 1) := by rw [ByteArray.size_extract]; omega
      have hsum : (9223372036854775807 < (a0.extract 0 k).size + (a0.extract (k + 1) a0.size).size) = False := eq_false (by rw [hs1, hs2]; omega)
      have hsum2 : (9223372036854775807 < k + (a0.size - (k + 1))) = False := eq_false (by omega)
      have hsum3 : (9223372036854775807 < (a0.extract 0 k).size + (a0.extract (k + 1) a0.size).size) = False := hsum
      clear hs1 hs2
      obtain ⟨j, hj, hjw, hj0, hj0b, hj1, hj1b, hjn, hj2, hj2b, hj3⟩ := wrapOne k a0.size (by omega) hk1
      try go_wp2
      have n0_ := Aside0.mk (Kd.R_drew HO.out)
      have n1_ := Aside0.mk (below_drew1 HB.out)
      clear HO HB
      have HO := n0_
      have HB := n1_
      clear n0_ n1_
      refine start_ (n := 11) (S := fun w' => True) (ds := []) #[false, false, false, false, false, false, false, false, false, false, false] (by kernel_rfl) rfl rfl trivial (fun hHeld => ?_); refine with_tabW pritchelref09_Shorter.tab5 pritchelref09_Shorter.bits5 (fun HT_ HW_ => ?_)
      generalize wr.drew = w10 at HO HB hHeld ⊢
      refine pure_ (i := 0) (N := some 12) (v := ?_) (a' := ?_) #[true, false, false, false, false, false, false, false, false, false, false] rfl rfl (any_of HT_.out (by kernel_rfl)) (fun _ _ _ h => h) (Or.inl ⟨by rfl, ?_⟩) ?_ ?_
      rotate_left
      · intro w'
        go_simp
        with_reducible rfl
      rotate_left
      · simp only [Act.put, List.setIfInBounds_toArray, List.set_cons_zero, List.set_cons_succ, i64_w, i32_w]
        rfl
      refine pure_ (i := 1) (N := some 13) (v := ?_) (a' := ?_) #[true, true, false, false, false, false, false, false, false, false, false] rfl rfl (any_of HT_.out (by kernel_rfl)) (fun _ _ _ h => h) (Or.inl ⟨by rfl, ?_⟩) ?_ ?_
      rotate_left
      · intro w'
        go_simp
        with_reducible rfl
      rotate_left
      · simp only [Act.put, List.setIfInBounds_toArray, List.set_cons_zero, List.set_cons_succ, i64_w, i32_w]
        rfl
      refine pure_ (i := 2) (N := some 14) (v := ?_) (a' := ?_) #[true, true, true, false, false, false, false, false, false, false, false] rfl rfl (any_of HT_.out (by kernel_rfl)) (fun _ _ _ h => h) (Or.inl ⟨by rfl, ?_⟩) ?_ ?_
      rotate_left
      · intro w'
        go_simp
        with_reducible rfl
      rotate_left
      · simp only [Act.put, List.setIfInBounds_toArray, List.set_cons_zero, List.set_cons_succ, i64_w, i32_w]
        rfl
      refine pure_ (i := 3) (N := some 15) (v := ?_) (a' := ?_) #[true, true, true, true, false, false, false, false, false, false, false] rfl rfl (any_of HT_.out (by kernel_rfl)) (fun _ _ _ h => h) (Or.inl ⟨by rfl, ?_⟩) ?_ ?_
      rotate_left
      · intro w'
        go_simp
        with_reducible rfl
      rotate_left
      · simp only [Act.put, List.setIfInBounds_toArray, List.set_cons_zero, List.set_cons_succ, i64_w, i32_w]
        rfl
      refine pure_ (i := 4) (N := some 16) (v := ?_) (a' := ?_) #[true, true, true, true, true, false, false, false, false, false, false] rfl rfl (any_of HT_.out (by kernel_rfl)) (fun _ _ _ h => h) (Or.inl ⟨by rfl, ?_⟩) ?_ ?_
      rotate_left
      · intro w'
        go_simp
        with_reducible rfl
      rotate_left
      · simp only [Act.put, List.setIfInBounds_toArray, List.set_cons_zero, List.set_cons_succ, i64_w, i32_w]
        rfl
      refine pure_ (i := 5) (N := some 17) (v := ?_) (a' := ?_) #[true, true, true, true, true, true, false, false, false, false, false] rfl rfl (any_of HT_.out (by kernel_rfl)) (fun _ _ _ h => h) (Or.inl ⟨by rfl, ?_⟩) ?_ ?_
      rotate_left
      · intro w'
        go_simp
        with_reducible rfl
      rotate_left
      · simp only [Act.put, List.setIfInBounds_toArray, List.set_cons_zero, List.set_cons_succ, i64_w, i32_w]
        rfl
      refine pure_ (i := 6) (N := some 18) (v := ?_) (a' := ?_) #[true, true, true, true, true, true, true, false, false, false, false] rfl rfl (any_of HT_.out (by kernel_rfl)) (fun _ _ _ h => h) (Or.inl ⟨by rfl, ?_⟩) ?_ ?_
      rotate_left
      · intro w'
        go_simp
        with_reducible rfl
      rotate_left
      · simp only [Act.put, List.setIfInBounds_toArray, List.set_cons_zero, List.set_cons_succ, i64_w, i32_w]
        rfl
      refine pure_ (i := 7) (N := some 19) (v := ?_) (a' := ?_) #[true, true, true, true, true, true, true, true, false, false, false] rfl rfl (any_of HT_.out (by kernel_rfl)) (fun _ _ _ h => h) (Or.inl ⟨by rfl, ?_⟩) ?_ ?_
      rotate_left
      · intro w'
        go_simp
        with_reducible rfl
      rotate_left
      · simp only [Act.put, List.setIfInBounds_toArray, List.set_cons_zero, List.set_cons_succ, i64_w, i32_w]
        rfl
      refine pure_ (i := 8) (N := some 20) (v := ?_) (a' := ?_) #[true, true, true, true, true, true, true, true, true, false, false] rfl rfl (any_of HT_.out (by kernel_rfl)) (fun _ _ _ h => h) (Or.inl ⟨by rfl, ?_⟩) ?_ ?_
      rotate_left
      · intro w'
        go_simp
        with_reducible rfl
      rotate_left
      · simp only [Act.put, List.setIfInBounds_toArray, List.set_cons_zero, List.set_cons_succ, i64_w, i32_w]
        rfl
      refine one_ (i := 9) (N := some 21) #[true, true, true, true, true, true, true, true, true, true, false] rfl rfl (one_of HT_.out (by kernel_rfl)) (by decide) (fun K hK => ?_)
      refine goes_ Tryd.func51 (by kernel_rfl) rfl #[u3, .string (delAt a0 k)] (by rfl) rfl rfl (by (try simp only [List.map_toArray, List.map_cons, List.map_nil]); first | done | rfl) ?_
      refine (put_calls u3 (putAll (delAll a0 k)) (delAt a0 k) w.heap.size _ HO.out LEN.out HB.out.size).mono ?_
      rintro e w14 ⟨v14, rfl, ho, hb⟩
      refine ⟨_, rfl, ?_⟩
      have n1_ := Aside0.mk (HB.out.trans hb)
      clear HO HB hb
      have HO := Aside0.mk ho
      have HB := n1_
      clear n1_ ho
      refine hK.out _ _ trivial (fun hHeld => ?_)
      clear hK K
      refine norm_ (a' := ?_) ?_ ?_
      rotate_left
      · show Act.put _ (some 21) _ = _
        simp only [Act.put, List.setIfInBounds_toArray, List.set_cons_zero, List.set_cons_succ, i64_w, i32_w]
        rfl
      refine pure_ (i := 10) (N := some 3) (v := ?_) (a' := ?_) #[true, true, true, true, true, true, true, true, true, true, true] rfl rfl (any_of HT_.out (by kernel_rfl)) (fun _ _ _ h => h) (Or.inl ⟨by rfl, ?_⟩) ?_ ?_
      rotate_left
      · intro w'
        go_simp
        with_reducible rfl
      rotate_left
      · simp only [Act.put, List.setIfInBounds_toArray, List.set_cons_zero, List.set_cons_succ, i64_w, i32_w]
        rfl
      refine done_ (done_of HT_.out (by kernel_rfl)) ?_
      try go_wp2
      go_roundw
      case rel => exact ⟨k + 1, by omega, by go_num, ⟨by rw [delAll_succ, putAll_snoc]; exact HO.out⟩, HB⟩
      case measure => simp [Go.RowKit.intOf]; omega
    · obtain rfl : k = a0.size := by omega
      go_wp2
      go_ret
      exact ⟨_, rfl, HO.out, HB.out⟩
def pritchelref09_Longer.T8 : Bool × List (List Nat × List Nat) := (true, [([], []), ([], []), ([], []), ([1, 2], [1, 2]), ([], []), ([], []), ([5], [5]), ([4, 6], [4, 6]), ([3, 7], [3, 7]), ([], []), ([], []), ([9, 10], [9, 10]), ([8, 11], [8, 11]), ([0, 12], [0, 12]), ([13, 13, 0, 1, 2, 3, 4, 5, 6, 7, 8, 9, 10, 11, 12, 13], [0, 13])])
def pritchelref09_Longer.B8 : List Nat := [0, 0, 0, 6, 0, 0, 32, 112, 254, 0, 0, 1536, 4094, 8191, 16383]
theorem pritchelref09_Longer.tab8 : rtab .any (opsOf Tryd.f36 8) = pritchelref09_Longer.T8 := by kernel_rfl
theorem pritchelref09_Longer.bits8 : waitsOk pritchelref09_Longer.T8.2 pritchelref09_Longer.B8 = true := by kernel_rfl

/-! ### pritchelref09_Longer: function 36 -/
def pritchelref09_Longer.f (a0 : ByteArray) (a1 : Int) : Option (List ByteArray) := if a0.size ≤ 1000 ∧ 0 ≤ a1 ∧ a1 ≤ 4 then some (putAll (putsAll a0 a1.toNat (a0.size + 1))) else none
theorem puts_len (x : ByteArray) (k q c : Nat) (hk : k ≤ 1001) (hq : q ≤ 4) (hc : c ≤ q) : (putAll (putsAll x q k ++ putsTo x k c)).length ≤ 1000000 := by
  have h := putAll_length (putsAll x q k ++ putsTo x k c)
  rw [List.length_append, putsAll_length] at h
  have : (putsTo x k c).length = c := by simp [putsTo]
  have h2 : k * q ≤ 1001 * 4 := Nat.mul_le_mul hk hq
  omega
set_option maxHeartbeats 2000000 in
set_option maxRecDepth 100000 in
theorem pritchelref09_Longer.calls (a0 : ByteArray) (a1 : Int) (r : List ByteArray) (w : World) (h : pritchelref09_Longer.f a0 a1 = some r) :
    Calls Tryd.prog 36 #[.string a0, .int .i64 a1] w fun e w' => ∃ v0_ : Value, e = .returned (v0_) ∧ Kd.R Kd.string 9 w' w.heap.size (fun _ => True) v0_ r ∧ Below w.heap.size w w' := by
  unfold pritchelref09_Longer.f at h
  split at h
  case isFalse => cases h
  case isTrue hg =>
  obtain ⟨hsz, hq0, hq4⟩ := hg
  obtain rfl := Option.some.inj h
  clear h
  obtain ⟨q, rfl⟩ := Int.eq_ofNat_of_zero_le hq0
  rw [Int.toNat_natCast]
  have hq : q ≤ 4 := by omega
  clear hq0 hq4
  go_enter Tryd.func36, Tryd.ntmps36
  go_wp2_with (first | ((with_reducible refine gate_dst (N := 8) rfl ?_); refine Kd.R_lit Kd.string _ 9 ?hg (N := 8) ?hd (xs := ([] : List ByteArray)) (inner := []) (ok := fun _ => True) (okp := fun _ => True) ?hr ?hp (fun _ hk => hk) trivial (Below.refl _ _) (Nat.le_refl _) (by simp) ?_; (case hd => rfl); (case hg => rfl); (case hr => first | (go_simp; done) | (go_simp; rfl)); (case hp => exact (Reps.none _ _)); intro v9 w4 ho hb hg_ hnew_; clear hg_ hnew_; have HO := Aside0.mk ho; have HB := Aside0.mk hb; clear ho hb))
  go_loopw [5, 6] (fun v i wr => ∃ k : Nat, k ≤ a0.size + 1 ∧ i = .int .i64 k ∧ Aside0 (Kd.R Kd.string 9 wr w.heap.size (fun _ => True) v (putAll (putsAll a0 q k))) ∧ Aside0 (Below w.heap.size w wr)) (fun _ i _ => a0.size + 1 - (Go.RowKit.intOf i).toNat)
  case atStart => exact ⟨0, Nat.zero_le _, rfl, HO, HB⟩
  case round =>
    clear HO HB
    obtain ⟨k, hk, rfl, HO, HB⟩ := hrel
    by_cases hlt : k ≤ a0.size
    · have hdec : decide ((k : Int) ≤ (a0.size : Int)) = true := by simp; omega
      go_wp2
      obtain ⟨wo, rfl⟩ : ∃ wo : World, wo = wr := ⟨_, rfl⟩
      go_loopw [5, 7] (fun v i wr => ∃ c : Nat, c ≤ q ∧ i = .int .i64 c ∧ Aside0 (Kd.R Kd.string 9 wr w.heap.size (fun _ => True) v (putAll (putsAll a0 q k ++ putsTo a0 k c))) ∧ Aside0 (Below w.heap.size w wr)) (fun _ i _ => q - (Go.RowKit.intOf i).toNat)
      case atStart => exact ⟨0, Nat.zero_le _, rfl, ⟨by simpa [putsTo] using HO.out⟩, HB⟩
      case round =>
        clear HO HB
        obtain ⟨c, hc, rfl, HO, HB⟩ := hrel
        by_cases hcq : c < q
        · have LEN := Aside0.mk (puts_len a0 k q c (by omega) hq hc)
          have hdec2 : decide ((c : Int) < (q : Int)) = true := by simp; omega
          have hc4 : c + 1 ≤ 4 := by omega
          have hs1 : (a0.extract 0 k).size = k := by rw [ByteArray.size_extract]; omega
          have hs2 : (a0.extract k a0.size).size = a0.size - k := by rw [ByteArray.size_extract]; omega
          have hs3 : ((⟨#[48, 49, 50, 51]⟩ : ByteArray).extract c (c + 1)).size = 1 := by rw [ByteArray.size_extract]; show min (c + 1) 4 - c = 1; omega
          have hsum : (9223372036854775807 < (a0.extract 0 k).size + ((⟨#[48, 49, 50, 51]⟩ : ByteArray).extract c (c + 1)).size) = False := eq_false (by rw [hs1, hs3]; omega)
          have hsum2 : (9223372036854775807 < k + 1) = False := eq_false (by omega)
          have hsum3 : (9223372036854775807 < (a0.extract 0 k ++ (⟨#[48, 49, 50, 51]⟩ : ByteArray).extract c (c + 1)).size + (a0.extract k a0.size).size) = False := eq_false (by rw [ByteArray.size_append, hs1, hs2, hs3]; omega)
          have hsum4 : (9223372036854775807 < k + 1 + (a0.size - k)) = False := eq_false (by omega)
          clear hs1 hs2 hs3
          obtain ⟨j, hj, hjw, hj0, hj0b, hj1, hj1b, hjn, hj2, hj2b, hj3⟩ := wrapOne c 4 (by omega) hc4
          replace hj1 : (j ≤ 4) = True := hj1
          replace hj1b : decide (j ≤ 4) = true := hj1b
          have hj1c : j ≤ 4 := of_eq_true hj1
          have hj2c : (c : Int) ≤ j := of_eq_true hj2
          try go_wp2
          have n0_ := Aside0.mk (Kd.R_drew HO.out)
          have n1_ := Aside0.mk (below_drew1 HB.out)
          clear HO HB
          have HO := n0_
          have HB := n1_
          clear n0_ n1_
          refine start_ (n := 15) (S := fun w' => True) (ds := []) #[false, false, false, false, false, false, false, false, false, false, false, false, false, false, false] (by kernel_rfl) rfl rfl trivial (fun hHeld => ?_); refine with_tabW pritchelref09_Longer.tab8 pritchelref09_Longer.bits8 (fun HT_ HW_ => ?_)
          generalize wr.drew = w10 at HO HB hHeld ⊢
          refine pure_ (i := 0) (N := some 20) (v := ?_) (a' := ?_) #[true, false, false, false, false, false, false, false, false, false, false, false, false, false, false] rfl rfl (any_of HT_.out (by kernel_rfl)) (fun _ _ _ h => h) (Or.inl ⟨by rfl, ?_⟩) ?_ ?_
          rotate_left
          · intro w'
            go_simp
            with_reducible rfl
          rotate_left
          · simp only [Act.put, List.setIfInBounds_toArray, List.set_cons_zero, List.set_cons_succ, i64_w, i32_w]
            rfl
          refine pure_ (i := 1) (N := some 21) (v := ?_) (a' := ?_) #[true, true, false, false, false, false, false, false, false, false, false, false, false, false, false] rfl rfl (any_of HT_.out (by kernel_rfl)) (fun _ _ _ h => h) (Or.inl ⟨by rfl, ?_⟩) ?_ ?_
          rotate_left
          · intro w'
            go_simp
            with_reducible rfl
          rotate_left
          · simp only [Act.put, List.setIfInBounds_toArray, List.set_cons_zero, List.set_cons_succ, i64_w, i32_w]
            rfl
          refine pure_ (i := 2) (N := some 22) (v := ?_) (a' := ?_) #[true, true, true, false, false, false, false, false, false, false, false, false, false, false, false] rfl rfl (any_of HT_.out (by kernel_rfl)) (fun _ _ _ h => h) (Or.inl ⟨by rfl, ?_⟩) ?_ ?_
          rotate_left
          · intro w'
            go_simp
            with_reducible rfl
          rotate_left
          · simp only [Act.put, List.setIfInBounds_toArray, List.set_cons_zero, List.set_cons_succ, i64_w, i32_w]
            rfl
          refine pure_ (i := 3) (N := some 23) (v := ?_) (a' := ?_) #[true, true, true, true, false, false, false, false, false, false, false, false, false, false, false] rfl rfl (any_of HT_.out (by kernel_rfl)) (fun _ _ _ h => h) (Or.inl ⟨by rfl, ?_⟩) ?_ ?_
          rotate_left
          · intro w'
            go_simp
            with_reducible rfl
          rotate_left
          · simp only [Act.put, List.setIfInBounds_toArray, List.set_cons_zero, List.set_cons_succ, i64_w, i32_w]
            rfl
          refine pure_ (i := 4) (N := some 24) (v := ?_) (a' := ?_) #[true, true, true, true, true, false, false, false, false, false, false, false, false, false, false] rfl rfl (any_of HT_.out (by kernel_rfl)) (fun _ _ _ h => h) (Or.inl ⟨by rfl, ?_⟩) ?_ ?_
          rotate_left
          · intro w'
            go_simp
            with_reducible rfl
          rotate_left
          · simp only [Act.put, List.setIfInBounds_toArray, List.set_cons_zero, List.set_cons_succ, i64_w, i32_w]
            rfl
          refine pure_ (i := 5) (N := some 25) (v := ?_) (a' := ?_) #[true, true, true, true, true, true, false, false, false, false, false, false, false, false, false] rfl rfl (any_of HT_.out (by kernel_rfl)) (fun _ _ _ h => h) (Or.inl ⟨by rfl, ?_⟩) ?_ ?_
          rotate_left
          · intro w'
            go_simp
            with_reducible rfl
          rotate_left
          · simp only [Act.put, List.setIfInBounds_toArray, List.set_cons_zero, List.set_cons_succ, i64_w, i32_w]
            rfl
          refine pure_ (i := 6) (N := some 26) (v := ?_) (a' := ?_) #[true, true, true, true, true, true, true, false, false, false, false, false, false, false, false] rfl rfl (any_of HT_.out (by kernel_rfl)) (fun _ _ _ h => h) (Or.inl ⟨by rfl, ?_⟩) ?_ ?_
          rotate_left
          · intro w'
            go_simp
            with_reducible rfl
          rotate_left
          · simp only [Act.put, List.setIfInBounds_toArray, List.set_cons_zero, List.set_cons_succ, i64_w, i32_w]
            rfl
          refine pure_ (i := 7) (N := some 27) (v := ?_) (a' := ?_) #[true, true, true, true, true, true, true, true, false, false, false, false, false, false, false] rfl rfl (any_of HT_.out (by kernel_rfl)) (fun _ _ _ h => h) (Or.inl ⟨by rfl, ?_⟩) ?_ ?_
          rotate_left
          · intro w'
            go_simp
            with_reducible rfl
          rotate_left
          · simp only [Act.put, List.setIfInBounds_toArray, List.set_cons_zero, List.set_cons_succ, i64_w, i32_w]
            rfl
          refine pure_ (i := 8) (N := some 28) (v := ?_) (a' := ?_) #[true, true, true, true, true, true, true, true, true, false, false, false, false, false, false] rfl rfl (any_of HT_.out (by kernel_rfl)) (fun _ _ _ h => h) (Or.inl ⟨by rfl, ?_⟩) ?_ ?_
          rotate_left
          · intro w'
            go_simp
            with_reducible rfl
          rotate_left
          · simp only [Act.put, List.setIfInBounds_toArray, List.set_cons_zero, List.set_cons_succ, i64_w, i32_w]
            rfl
          refine pure_ (i := 9) (N := some 29) (v := ?_) (a' := ?_) #[true, true, true, true, true, true, true, true, true, true, false, false, false, false, false] rfl rfl (any_of HT_.out (by kernel_rfl)) (fun _ _ _ h => h) (Or.inl ⟨by rfl, ?_⟩) ?_ ?_
          rotate_left
          · intro w'
            go_simp
            with_reducible rfl
          rotate_left
          · simp only [Act.put, List.setIfInBounds_toArray, List.set_cons_zero, List.set_cons_succ, i64_w, i32_w]
            rfl
          refine pure_ (i := 10) (N := some 30) (v := ?_) (a' := ?_) #[true, true, true, true, true, true, true, true, true, true, true, false, false, false, false] rfl rfl (any_of HT_.out (by kernel_rfl)) (fun _ _ _ h => h) (Or.inl ⟨by rfl, ?_⟩) ?_ ?_
          rotate_left
          · intro w'
            go_simp
            with_reducible rfl
          rotate_left
          · simp only [Act.put, List.setIfInBounds_toArray, List.set_cons_zero, List.set_cons_succ, i64_w, i32_w]
            rfl
          refine pure_ (i := 11) (N := some 31) (v := ?_) (a' := ?_) #[true, true, true, true, true, true, true, true, true, true, true, true, false, false, false] rfl rfl (any_of HT_.out (by kernel_rfl)) (fun _ _ _ h => h) (Or.inl ⟨by rfl, ?_⟩) ?_ ?_
          rotate_left
          · intro w'
            go_simp
            with_reducible rfl
          rotate_left
          · simp only [Act.put, List.setIfInBounds_toArray, List.set_cons_zero, List.set_cons_succ, i64_w, i32_w]
            rfl
          refine pure_ (i := 12) (N := some 32) (v := ?_) (a' := ?_) #[true, true, true, true, true, true, true, true, true, true, true, true, true, false, false] rfl rfl (any_of HT_.out (by kernel_rfl)) (fun _ _ _ h => h) (Or.inl ⟨by rfl, ?_⟩) ?_ ?_
          rotate_left
          · intro w'
            go_simp
            with_reducible rfl
          rotate_left
          · simp only [Act.put, List.setIfInBounds_toArray, List.set_cons_zero, List.set_cons_succ, i64_w, i32_w]
            rfl
          refine one_ (i := 13) (N := some 33) #[true, true, true, true, true, true, true, true, true, true, true, true, true, true, false] rfl rfl (one_of HT_.out (by kernel_rfl)) (by decide) (fun K hK => ?_)
          refine goes_ Tryd.func51 (by kernel_rfl) rfl #[u5, .string (putAt a0 k c)] (by rfl) rfl rfl (by (try simp only [List.map_toArray, List.map_cons, List.map_nil]); first | done | rfl) ?_
          refine (put_calls u5 (putAll (putsAll a0 q k ++ putsTo a0 k c)) (putAt a0 k c) w.heap.size _ HO.out LEN.out HB.out.size).mono ?_
          rintro e w14 ⟨v14, rfl, ho, hb⟩
          refine ⟨_, rfl, ?_⟩
          have n1_ := Aside0.mk (HB.out.trans hb)
          clear HO HB hb
          have HO := Aside0.mk ho
          have HB := n1_
          clear n1_ ho
          refine hK.out _ _ trivial (fun hHeld => ?_)
          clear hK K
          refine norm_ (a' := ?_) ?_ ?_
          rotate_left
          · show Act.put _ (some 33) _ = _
            simp only [Act.put, List.setIfInBounds_toArray, List.set_cons_zero, List.set_cons_succ, i64_w, i32_w]
            rfl
          refine pure_ (i := 14) (N := some 5) (v := ?_) (a' := ?_) #[true, true, true, true, true, true, true, true, true, true, true, true, true, true, true] rfl rfl (any_of HT_.out (by kernel_rfl)) (fun _ _ _ h => h) (Or.inl ⟨by rfl, ?_⟩) ?_ ?_
          rotate_left
          · intro w'
            go_simp
            with_reducible rfl
          rotate_left
          · simp only [Act.put, List.setIfInBounds_toArray, List.set_cons_zero, List.set_cons_succ, i64_w, i32_w]
            rfl
          refine done_ (done_of HT_.out (by kernel_rfl)) ?_
          try go_wp2
          go_roundw
          case rel => exact ⟨c + 1, by omega, by go_num, ⟨by rw [putsTo_succ, ← List.append_assoc, putAll_snoc]; exact HO.out⟩, HB⟩
          case measure => simp [Go.RowKit.intOf]; omega
        · obtain rfl : c = q := by omega
          have HO' := Aside0.mk (show Kd.R Kd.string 9 wr w.heap.size (fun _ => True) _ (putAll (putsAll a0 c (k + 1))) from by rw [putsAll_succ]; exact HO.out)
          clear HO
          go_wp2
          go_roundw
          case rel => exact ⟨k + 1, by omega, by go_num, HO', HB⟩
          case measure => simp [Go.RowKit.intOf]; omega
    · obtain rfl : k = a0.size + 1 := by omega
      go_wp2
      go_ret
      exact ⟨_, rfl, HO.out, HB.out⟩
end Go.Proofs.YtopmcoohdhlnaaaDoor.G
