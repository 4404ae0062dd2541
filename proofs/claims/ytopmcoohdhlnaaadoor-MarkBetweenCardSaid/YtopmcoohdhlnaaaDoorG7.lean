/- The program's longer, over the letters 0 and 1: all words that come of a word by putting in one letter, each once, in byte order. The steps of the region that draws its order were printed by a program of this session. -/
import Derived.Test.YtopmcoohdhlnaaaDoorG1
import Derived.Test.YtopmcoohdhlnaaaDoorG6
namespace Go.Proofs.YtopmcoohdhlnaaaDoor.G
open Go.RowKit Go.Lib Go.Sort Go.Proofs.YtopmcoohdhlnaaaDoorW.PrintWords Go.Proofs.YtopmcoohdhlnaaaDoorW.PrintLast Go.Proofs.YtopmcoohdhlnaaaDoorW.PrintMore
attribute [local go_sem] max2_int min2_int max_two min_two max_three min_three max_four min_four
set_option linter.unusedVariables false
set_option linter.unusedSimpArgs false
/-- A word with a letter put in behind its first k. -/
def insAt (x : ByteArray) (k : Nat) (c : UInt8) : ByteArray := catB [x.extract 0 k, ⟨#[c]⟩, x.extract k x.size]
/-- All of them, for the first n places, letter 0 first. -/
def insAll (x : ByteArray) (n : Nat) : List ByteArray := (List.range n).flatMap fun k => [insAt x k 48, insAt x k 49]
theorem insAll_succ (x : ByteArray) (n : Nat) : insAll x (n + 1) = insAll x n ++ [insAt x n 48, insAt x n 49] := by simp [insAll, List.range_succ]
theorem insAll_length (x : ByteArray) (n : Nat) : (insAll x n).length = 2 * n := by
  induction n with
  | zero => rfl
  | succ n ih => rw [insAll_succ, List.length_append, ih]; rfl
/-! ### mark_longer: function 41 -/
def mark_longer.f (a0 a1 : ByteArray) : Option (List ByteArray) := if a1 = ⟨#[48, 49]⟩ ∧ a0.size ≤ 1000 then some (setL (insAll a0 (a0.size + 1))) else none
theorem ins_joined (x : ByteArray) (k : Nat) (c : UInt8) (hx : x.size ≤ 1000) (hk : k ≤ x.size) : mark_joined.f [x.extract 0 k, ⟨#[c]⟩, x.extract k x.size] = some (insAt x k c) := by
  unfold mark_joined.f
  rw [if_pos]
  · rfl
  · refine ⟨?_, by simp⟩
    have h1 : (x.extract 0 k).data.toList.length = k := by
      have : (x.extract 0 k).size = k := by rw [ByteArray.size_extract]; omega
      rw [Array.length_toList]; exact this
    have h2 : (x.extract k x.size).data.toList.length = x.size - k := by
      have : (x.extract k x.size).size = x.size - k := by rw [ByteArray.size_extract]; omega
      rw [Array.length_toList]; exact this
    show ((List.map _ _).flatten.toArray).size ≤ _
    simp only [List.map_cons, List.map_nil, List.flatten_cons, List.flatten_nil, List.append_nil, List.size_toArray, List.length_append]
    simp only [Array.length_toList] at h1 h2 ⊢
    simp only [List.size_toArray, List.length_cons, List.length_nil]
    omega
theorem it_drew {w : World} {k : Nat} {s : ByteArray} {p : Nat} (h : w.heap[k]? = some (.stringIter s p)) : w.drew.heap[k]? = some (.stringIter s p) := h
theorem it_below {w w1 : World} {k : Nat} {s : ByteArray} {p : Nat} (h : w.heap[k]? = some (.stringIter s p)) (hb : Below w.heap.size w w1) : w1.heap[k]? = some (.stringIter s p) :=
  (hb.block k (Array.getElem?_eq_some_iff.1 h).1).trans h
theorem it_grown {w w1 : World} {k : Nat} {s : ByteArray} {p e B : Nat} {ok : Nat → Prop} {v : Value} {xs : List ByteArray} (h : w.heap[k]? = some (.stringIter s p)) (hr : Kd.R Kd.string e w B ok v xs) (hg : w.grownBy w1 v.ownBlock) : w1.heap[k]? = some (.stringIter s p) := by
  refine (hg.block k (Array.getElem?_eq_some_iff.1 h).1 ?_).trans h
  intro e1
  obtain ⟨cells, hc⟩ := own_typed (Kd.own_of_R hr) k e1.symm
  rw [h] at hc
  cases hc
/-- A row of the call's own, where a range's iterator is moved on. -/
theorem R_iter {w w1 : World} {k : Nat} {s : ByteArray} {p e B : Nat} {v : Value} {xs : List ByteArray} (h : w.heap[k]? = some (.stringIter s p)) (hr : Kd.R Kd.string e w B (fun _ => True) v xs) (ho : ∀ j, j ≠ k → w1.heap[j]? = w.heap[j]?) : Kd.R Kd.string e w1 B (fun _ => True) v xs := by
  refine Kd.R_mono (Kd.R_step (Kd.R_bound hr) (fun j hj _ => ho j ?_)) (fun _ _ => trivial)
  rintro rfl
  obtain ⟨_, _, _, q, _, cells, hc⟩ := hj
  rw [h] at hc
  cases hc
theorem R_newiter {w : World} {s : ByteArray} {e B : Nat} {v : Value} {xs : List ByteArray} (hr : Kd.R Kd.string e w B (fun _ => True) v xs) : Kd.R Kd.string e (w.iter s 0) B (fun _ => True) v xs :=
  Kd.R_below hr ((Below.refl _ _).alloc (Nat.le_refl _) _)
theorem decode01_0 : Utf8.decode ⟨#[48, 49]⟩ 0 = (48, 1) := by decide +kernel
theorem decode01_1 : Utf8.decode ⟨#[48, 49]⟩ 1 = (49, 1) := by decide +kernel
/-- What the inner loop has laid behind the elder words. -/
def insTo (x : ByteArray) (k j : Nat) : List ByteArray := [insAt x k 48, insAt x k 49].take j
theorem to_len (x : ByteArray) (k j : Nat) : (insAll x k ++ insTo x k j).length ≤ 2 * k + 2 := by
  rw [List.length_append, insAll_length]
  have : (insTo x k j).length ≤ 2 := by unfold insTo; rw [List.length_take]; exact Nat.min_le_right _ _
  omega

def mark_longer.T8 : Bool × List (List Nat × List Nat) := (true, [([], []), ([], []), ([], []), ([1, 2], [1, 2]), ([], []), ([4], [4]), ([], []), ([], []), ([6, 7], [6, 7]), ([3, 5, 8], [3, 5, 8]), ([9], [9]), ([10], [10]), ([0, 11, 10], [0, 11]), ([12, 12, 0, 1, 2, 3, 4, 5, 6, 7, 8, 9, 10, 11, 12], [0, 12])])
def mark_longer.B8 : List Nat := [0, 0, 0, 6, 0, 16, 0, 0, 192, 510, 1022, 2046, 4095, 8191]
theorem mark_longer.tab8 : rtab .any (opsOf Tryd.f41 8) = mark_longer.T8 := by kernel_rfl
theorem mark_longer.bits8 : waitsOk mark_longer.T8.2 mark_longer.B8 = true := by kernel_rfl
set_option maxHeartbeats 8000000 in
set_option maxRecDepth 100000 in
theorem mark_longer.calls (a0 a1 : ByteArray) (r : List ByteArray) (w : World) (h : mark_longer.f a0 a1 = some r) :
    Calls Tryd.prog 41 #[.string a0, .string a1] w fun e w' => ∃ v0_ : Value, e = .returned (v0_) ∧ Kd.R Kd.string 9 w' w.heap.size (fun _ => True) v0_ r ∧ Below w.heap.size w w' := by
  unfold mark_longer.f at h
  split at h
  case isFalse => cases h
  case isTrue hg =>
  obtain ⟨rfl, hsz⟩ := hg
  obtain rfl := Option.some.inj h
  clear h
  go_enter Tryd.func41, Tryd.ntmps41
  go_wp2
  go_loopw [5, 12] (fun v i wr => ∃ k : Nat, k ≤ a0.size + 1 ∧ i = .int .i64 k ∧ Aside0 (Kd.R Kd.string 9 wr w.heap.size (fun _ => True) v (insAll a0 k)) ∧ Aside0 (Below w.heap.size w wr)) (fun _ i _ => a0.size + 1 - (intOf i).toNat)
  case atStart => exact ⟨0, Nat.zero_le _, rfl, ⟨Kd.R_nil _ _ _ _ _⟩, ⟨Below.refl _ _⟩⟩
  case round =>
    obtain ⟨k, hk, rfl, HO, HB⟩ := hrel
    by_cases hlt : k < a0.size + 1
    · have LEN := Aside0.mk (insAll_length a0 k)
      have hk1 : k ≤ a0.size := by omega
      have hdec : decide ((k : Int) < (a0.size : Int) + 1) = true := by simp; omega
      have HJ48 := Aside0.mk (ins_joined a0 k 48 hsz (by omega))
      have HJ49 := Aside0.mk (ins_joined a0 k 49 hsz (by omega))
      go_wp2
      obtain ⟨wo, rfl⟩ : ∃ wo : World, wo = wr := ⟨_, rfl⟩
      have HSZ := Aside0.mk (HB.out.size)
      go_loopw [5] (fun v wi => ∃ j : Nat, j ≤ 2 ∧ Aside0 (Kd.R Kd.string 9 wi w.heap.size (fun _ => True) v (insAll a0 k ++ insTo a0 k j)) ∧ Aside0 (wi.heap[wo.heap.size]? = some (.stringIter ⟨#[48, 49]⟩ j)) ∧ Aside0 (Below w.heap.size w wi)) (fun _ wi => 2 - wi.iterPos wo.heap.size)
      case atStart => exact ⟨0, Nat.zero_le _, ⟨by simpa [insTo] using R_newiter HO.out⟩, ⟨World.iter_heap wo _ 0⟩, ⟨below_iter HB.out HSZ.out _ _⟩⟩
      case round =>
        clear HO HB
        obtain ⟨j, hj, HO, HIT, HB⟩ := hrel
        match j, hj with
        | 0, _ =>
          have POS := Aside0.mk (iterPos_of HIT.out)
          obtain ⟨w2, hnx2, hit2, hsz2, hoth2, hbel2⟩ := next_named (P := Tryd.prog) wr wo.heap.size ⟨#[48, 49]⟩ 0 HIT.out (by decide)
          rw [decode01_0] at hnx2 hit2
          have n0_ := Aside0.mk (R_iter HIT.out HO.out hoth2)
          have n1_ := Aside0.mk (hbel2 _ _ HSZ.out HB.out)
          clear HO HB HIT hsz2 hoth2 hbel2
          have HO := n0_
          have HB := n1_
          have HIT := Aside0.mk hit2
          clear n0_ n1_ hit2
          try go_wp2
          have n0_ := Aside0.mk (Kd.R_drew HO.out)
          have n1_ := Aside0.mk (below_drew1 HB.out)
          have n2_ := Aside0.mk (it_drew HIT.out)
          clear HO HB HIT
          have HO := n0_
          have HB := n1_
          have HIT := n2_
          clear n0_ n1_ n2_
          refine start_ (n := 14) (S := fun w' => True) (ds := []) #[false, false, false, false, false, false, false, false, false, false, false, false, false, false] (by kernel_rfl) rfl rfl trivial (fun hHeld => ?_); refine with_tabW mark_longer.tab8 mark_longer.bits8 (fun HT_ HW_ => ?_)
          generalize w2.drew = w10 at HO HB HIT hHeld ⊢
          refine pure_ (i := 0) (N := some 20) (v := ?_) (a' := ?_) #[true, false, false, false, false, false, false, false, false, false, false, false, false, false] rfl rfl (any_of HT_.out (by kernel_rfl)) (fun _ _ _ h => h) (Or.inl ⟨by rfl, ?_⟩) ?_ ?_
          rotate_left
          · intro w'
            go_simp
            with_reducible rfl
          rotate_left
          · simp only [Act.put, List.setIfInBounds_toArray, List.set_cons_zero, List.set_cons_succ, i64_w, i32_w]
            rfl
          refine pure_ (i := 1) (N := some 21) (v := ?_) (a' := ?_) #[true, true, false, false, false, false, false, false, false, false, false, false, false, false] rfl rfl (any_of HT_.out (by kernel_rfl)) (fun _ _ _ h => h) (Or.inl ⟨by rfl, ?_⟩) ?_ ?_
          rotate_left
          · intro w'
            go_simp
            with_reducible rfl
          rotate_left
          · simp only [Act.put, List.setIfInBounds_toArray, List.set_cons_zero, List.set_cons_succ, i64_w, i32_w]
            rfl
          refine pure_ (i := 2) (N := some 22) (v := ?_) (a' := ?_) #[true, true, true, false, false, false, false, false, false, false, false, false, false, false] rfl rfl (any_of HT_.out (by kernel_rfl)) (fun _ _ _ h => h) (Or.inl ⟨by rfl, ?_⟩) ?_ ?_
          rotate_left
          · intro w'
            go_simp
            with_reducible rfl
          rotate_left
          · simp only [Act.put, List.setIfInBounds_toArray, List.set_cons_zero, List.set_cons_succ, i64_w, i32_w]
            rfl
          refine pure_ (i := 3) (N := some 23) (v := ?_) (a' := ?_) #[true, true, true, true, false, false, false, false, false, false, false, false, false, false] rfl rfl (any_of HT_.out (by kernel_rfl)) (fun _ _ _ h => h) (Or.inl ⟨by rfl, ?_⟩) ?_ ?_
          rotate_left
          · intro w'
            go_simp
            with_reducible rfl
          rotate_left
          · simp only [Act.put, List.setIfInBounds_toArray, List.set_cons_zero, List.set_cons_succ, i64_w, i32_w]
            rfl
          refine pure_ (i := 4) (N := some 24) (v := ?_) (a' := ?_) #[true, true, true, true, true, false, false, false, false, false, false, false, false, false] rfl rfl (any_of HT_.out (by kernel_rfl)) (fun _ _ _ h => h) (Or.inl ⟨by rfl, ?_⟩) ?_ ?_
          rotate_left
          · intro w'
            go_simp
            with_reducible rfl
          rotate_left
          · simp only [Act.put, List.setIfInBounds_toArray, List.set_cons_zero, List.set_cons_succ, i64_w, i32_w]
            rfl
          refine pure_ (i := 5) (N := some 25) (v := ?_) (a' := ?_) #[true, true, true, true, true, true, false, false, false, false, false, false, false, false] rfl rfl (any_of HT_.out (by kernel_rfl)) (fun _ _ _ h => h) (Or.inl ⟨by rfl, ?_⟩) ?_ ?_
          rotate_left
          · intro w'
            go_simp
            with_reducible rfl
          rotate_left
          · simp only [Act.put, List.setIfInBounds_toArray, List.set_cons_zero, List.set_cons_succ, i64_w, i32_w]
            rfl
          refine pure_ (i := 6) (N := some 26) (v := ?_) (a' := ?_) #[true, true, true, true, true, true, true, false, false, false, false, false, false, false] rfl rfl (any_of HT_.out (by kernel_rfl)) (fun _ _ _ h => h) (Or.inl ⟨by rfl, ?_⟩) ?_ ?_
          rotate_left
          · intro w'
            go_simp
            with_reducible rfl
          rotate_left
          · simp only [Act.put, List.setIfInBounds_toArray, List.set_cons_zero, List.set_cons_succ, i64_w, i32_w]
            rfl
          refine pure_ (i := 7) (N := some 27) (v := ?_) (a' := ?_) #[true, true, true, true, true, true, true, true, false, false, false, false, false, false] rfl rfl (any_of HT_.out (by kernel_rfl)) (fun _ _ _ h => h) (Or.inl ⟨by rfl, ?_⟩) ?_ ?_
          rotate_left
          · intro w'
            go_simp
            with_reducible rfl
          rotate_left
          · simp only [Act.put, List.setIfInBounds_toArray, List.set_cons_zero, List.set_cons_succ, i64_w, i32_w]
            rfl
          refine pure_ (i := 8) (N := some 28) (v := ?_) (a' := ?_) #[true, true, true, true, true, true, true, true, true, false, false, false, false, false] rfl rfl (any_of HT_.out (by kernel_rfl)) (fun _ _ _ h => h) (Or.inl ⟨by rfl, ?_⟩) ?_ ?_
          rotate_left
          · intro w'
            go_simp
            with_reducible rfl
          rotate_left
          · simp only [Act.put, List.setIfInBounds_toArray, List.set_cons_zero, List.set_cons_succ, i64_w, i32_w]
            rfl
          refine one_ (i := 9) (N := some 29) #[true, true, true, true, true, true, true, true, true, true, false, false, false, false] rfl rfl (one_of HT_.out (by kernel_rfl)) (by decide) (fun K hK => ?_)
          refine Kd.R_lit_step Kd.string _ 9 ?hg (N := 29) ?hd (xs := ([a0.extract 0 k, (⟨#[48]⟩ : ByteArray), a0.extract k a0.size] : List ByteArray)) (inner := [.string (a0.extract 0 k), .string ((⟨#[48]⟩ : ByteArray)), .string (a0.extract k a0.size)]) (ok := fun _ => True) (okp := fun _ => True) ?hr ?hp (fun _ hk => hk) trivial (Below.refl _ _) (Nat.le_refl _) (by simp) ?_; (case hd => rfl); (case hg => rfl); (case hr => first | (go_simp; done) | (go_simp; rfl)); (case hp => exact (Reps.one (show Kd.M Kd.string _ _ _ (a0.extract 0 k) [.string (a0.extract 0 k)] from rfl) (Reps.one (show Kd.M Kd.string _ _ _ ((⟨#[48]⟩ : ByteArray)) [.string ((⟨#[48]⟩ : ByteArray))] from rfl) (Reps.one (show Kd.M Kd.string _ _ _ (a0.extract k a0.size) [.string (a0.extract k a0.size)] from rfl) (Reps.none _ _)))))
          intro v222 w11 ho12 hb hg_ hnew_
          clear hg_ hnew_
          have n0_ := Aside0.mk (Kd.R_elder' (by (with_reducible repeat (first | apply Kd.R_alloc | apply Kd.R_drewN | apply Kd.R_drew)); exact HO.out) (Kd.R_base ho12) hb)
          have n1_ := Aside0.mk (Kd.R_lower (Kd.R_new' ho12 (Kd.R_lt (by (with_reducible repeat (first | apply Kd.R_alloc | apply Kd.R_drewN | apply Kd.R_drew)); exact HO.out))) (below_size (by repeat (first | (with_reducible first | exact HB.out | apply below_alloc | apply pw_below_drewN | apply below_drew1) | exact HB.out))))
          have n2_ := Aside0.mk (below_step (by repeat (first | (with_reducible first | exact HB.out | apply below_alloc | apply pw_below_drewN | apply below_drew1) | exact HB.out)) hb)
          have n3_ := Aside0.mk (it_below HIT.out hb)
          clear HO HB HIT
          have HO := n0_
          have HL := n1_
          have HB := n2_
          have HIT := n3_
          clear n0_ n1_ n2_ n3_ hb ho12
          obtain ⟨Ao13, co13, eo13⟩ := Kd.R_slice HL.out
          subst eo13
          refine hK.out _ _ trivial (fun hHeld => ?_)
          clear hK K
          refine norm_ (a' := ?_) ?_ ?_
          rotate_left
          · show Act.put _ (some 29) _ = _
            simp only [Act.put, List.setIfInBounds_toArray, List.set_cons_zero, List.set_cons_succ, i64_w, i32_w]
            rfl
          refine one_ (i := 10) (N := some 30) #[true, true, true, true, true, true, true, true, true, true, true, false, false, false] rfl rfl (one_of HT_.out (by kernel_rfl)) (by decide) (fun K hK => ?_)
          refine goes_ Tryd.func56 (by kernel_rfl) rfl #[.slice Ao13 ([a0.extract 0 k, (⟨#[48]⟩ : ByteArray), a0.extract k a0.size] : List ByteArray).length co13] (by rfl) rfl rfl (by (try simp only [List.map_toArray, List.map_cons, List.map_nil]); first | done | rfl) ?_
          with_reducible refine (mark_joined.calls _ _ ([a0.extract 0 k, (⟨#[48]⟩ : ByteArray), a0.extract k a0.size] : List ByteArray) (insAt a0 k 48) _ ?side1 ?side2 HJ48.out).mono ?_
          (case side1 => repeat (first | exact (Kd.R_reads' HL.out).2.2 | (with_reducible refine Kd.C_alloc ?_ _) | (with_reducible refine Kd.C_drewN ?_ _) | (with_reducible refine Kd.C_drew ?_)))
          (case side2 => exact (Kd.R_reads' HL.out).2.1)
          rintro e w14 ⟨rfl, hb⟩
          refine ⟨_, rfl, ?_⟩
          have n0_ := Aside0.mk (Kd.R_below (by (with_reducible repeat (first | apply Kd.R_alloc | apply Kd.R_drewN | apply Kd.R_drew)); exact HO.out) hb)
          have n1_ := Aside0.mk (Kd.R_below (by (with_reducible repeat (first | apply Kd.R_alloc | apply Kd.R_drewN | apply Kd.R_drew)); exact HL.out) hb)
          have n2_ := Aside0.mk (below_step (by repeat (first | (with_reducible first | exact HB.out | apply below_alloc | apply pw_below_drewN | apply below_drew1) | exact HB.out)) hb)
          have n3_ := Aside0.mk (it_below HIT.out hb)
          clear HO HL HB HIT hb
          have HO := n0_
          have HL := n1_
          have HB := n2_
          have HIT := n3_
          clear n0_ n1_ n2_ n3_
          refine hK.out _ _ trivial (fun hHeld => ?_)
          clear hK K
          refine norm_ (a' := ?_) ?_ ?_
          rotate_left
          · show Act.put _ (some 30) _ = _
            simp only [Act.put, List.setIfInBounds_toArray, List.set_cons_zero, List.set_cons_succ, i64_w, i32_w]
            rfl
          refine one_ (i := 11) (N := some 31) #[true, true, true, true, true, true, true, true, true, true, true, true, false, false] rfl rfl (one_of HT_.out (by kernel_rfl)) (by decide) (fun K hK => ?_)
          refine value_ (w1 := ?_) (v := ?_) (by rfl) rfl ?_ ?_
          rotate_left 2
          · go_simp
            constructor
            · rfl
            · rfl
          refine hK.out _ _ trivial (fun hHeld => ?_)
          clear hK K
          refine norm_ (a' := ?_) ?_ ?_
          rotate_left
          · show Act.put _ (some 31) _ = _
            simp only [Act.put, List.setIfInBounds_toArray, List.set_cons_zero, List.set_cons_succ, i64_w, i32_w]
            rfl
          refine one_ (i := 12) (N := some 32) #[true, true, true, true, true, true, true, true, true, true, true, true, true, false] rfl rfl (one_of HT_.out (by kernel_rfl)) (by decide) (fun K hK => ?_)
          refine Kd.R_append_step Kd.string (w0 := w) w.heap.size (by rfl) (.tmp 20) (.tmp 31) 40 9 (.string ⟨#[]⟩) 16 rfl Tryd.underlying40 info9 rfl (by decide) (by omega) u5 (insAll a0 k ++ insTo a0 k 0) (insAt a0 k 48) [.string (insAt a0 k 48)] (fun k_ => some k_ ≠ (.slice Ao13 ([a0.extract 0 k, (⟨#[48]⟩ : ByteArray), a0.extract k a0.size] : List ByteArray).length co13 : Value).ownBlock) (fun _ => False) rfl rfl ?aP (fun _ hk => hk.elim) ?aF ?aO ?aB ?aS ?aL ?_
          (case aP => exact rfl)
          (case aB => exact (by repeat (first | (with_reducible first | exact HB.out | apply below_alloc | apply pw_below_drewN | apply below_drew1) | exact HB.out)))
          (case aF => exact (fun k_ hk => Kd.fresh' (Kd.R_lt (by (with_reducible repeat (first | apply Kd.R_alloc | apply Kd.R_drewN | apply Kd.R_drew)); exact HL.out)) k_ hk))
          (case aO => exact (by (with_reducible repeat (first | apply Kd.R_alloc | apply Kd.R_drewN | apply Kd.R_drew)); exact Kd.R_mono HO.out (fun _ hk => hk.2)))
          (case aS => exact (below_size (by repeat (first | (with_reducible first | exact HB.out | apply below_alloc | apply pw_below_drewN | apply below_drew1) | exact HB.out))))
          (case aL => have := to_len a0 k 0; omega)
          intro v226 w15 ho hb hg hat
          have n3_ := Aside0.mk (it_grown HIT.out (by (with_reducible repeat (first | apply Kd.R_alloc | apply Kd.R_drewN | apply Kd.R_drew)); exact HO.out) hg)
          clear HL HB HO HIT
          have HB := Aside0.mk hb
          have HO := Aside0.mk ho
          have HIT := n3_
          clear n3_ ho hb hg hat
          refine hK.out _ _ trivial (fun hHeld => ?_)
          clear hK K
          refine norm_ (a' := ?_) ?_ ?_
          rotate_left
          · show Act.put _ (some 32) _ = _
            simp only [Act.put, List.setIfInBounds_toArray, List.set_cons_zero, List.set_cons_succ, i64_w, i32_w]
            rfl
          refine pure_ (i := 13) (N := some 5) (v := ?_) (a' := ?_) #[true, true, true, true, true, true, true, true, true, true, true, true, true, true] rfl rfl (any_of HT_.out (by kernel_rfl)) (fun _ _ _ h => h) (Or.inl ⟨by rfl, ?_⟩) ?_ ?_
          rotate_left
          · intro w'
            go_simp
            with_reducible rfl
          rotate_left
          · simp only [Act.put, List.setIfInBounds_toArray, List.set_cons_zero, List.set_cons_succ, i64_w, i32_w]
            rfl
          refine done_ (done_of HT_.out (by kernel_rfl)) ?_
          try go_wp2
          go_roundw
          case rel => exact ⟨1, by omega, ⟨by simpa [insTo] using Kd.R_mono HO.out (fun _ _ => trivial)⟩, HIT, HB⟩
          case measure => rw [POS.out, iterPos_of HIT.out]; decide
        | 1, _ =>
          have POS := Aside0.mk (iterPos_of HIT.out)
          obtain ⟨w2, hnx2, hit2, hsz2, hoth2, hbel2⟩ := next_named (P := Tryd.prog) wr wo.heap.size ⟨#[48, 49]⟩ 1 HIT.out (by decide)
          rw [decode01_1] at hnx2 hit2
          have n0_ := Aside0.mk (R_iter HIT.out HO.out hoth2)
          have n1_ := Aside0.mk (hbel2 _ _ HSZ.out HB.out)
          clear HO HB HIT hsz2 hoth2 hbel2
          have HO := n0_
          have HB := n1_
          have HIT := Aside0.mk hit2
          clear n0_ n1_ hit2
          try go_wp2
          have n0_ := Aside0.mk (Kd.R_drew HO.out)
          have n1_ := Aside0.mk (below_drew1 HB.out)
          have n2_ := Aside0.mk (it_drew HIT.out)
          clear HO HB HIT
          have HO := n0_
          have HB := n1_
          have HIT := n2_
          clear n0_ n1_ n2_
          refine start_ (n := 14) (S := fun w' => True) (ds := []) #[false, false, false, false, false, false, false, false, false, false, false, false, false, false] (by kernel_rfl) rfl rfl trivial (fun hHeld => ?_); refine with_tabW mark_longer.tab8 mark_longer.bits8 (fun HT_ HW_ => ?_)
          generalize w2.drew = w10 at HO HB HIT hHeld ⊢
          refine pure_ (i := 0) (N := some 20) (v := ?_) (a' := ?_) #[true, false, false, false, false, false, false, false, false, false, false, false, false, false] rfl rfl (any_of HT_.out (by kernel_rfl)) (fun _ _ _ h => h) (Or.inl ⟨by rfl, ?_⟩) ?_ ?_
          rotate_left
          · intro w'
            go_simp
            with_reducible rfl
          rotate_left
          · simp only [Act.put, List.setIfInBounds_toArray, List.set_cons_zero, List.set_cons_succ, i64_w, i32_w]
            rfl
          refine pure_ (i := 1) (N := some 21) (v := ?_) (a' := ?_) #[true, true, false, false, false, false, false, false, false, false, false, false, false, false] rfl rfl (any_of HT_.out (by kernel_rfl)) (fun _ _ _ h => h) (Or.inl ⟨by rfl, ?_⟩) ?_ ?_
          rotate_left
          · intro w'
            go_simp
            with_reducible rfl
          rotate_left
          · simp only [Act.put, List.setIfInBounds_toArray, List.set_cons_zero, List.set_cons_succ, i64_w, i32_w]
            rfl
          refine pure_ (i := 2) (N := some 22) (v := ?_) (a' := ?_) #[true, true, true, false, false, false, false, false, false, false, false, false, false, false] rfl rfl (any_of HT_.out (by kernel_rfl)) (fun _ _ _ h => h) (Or.inl ⟨by rfl, ?_⟩) ?_ ?_
          rotate_left
          · intro w'
            go_simp
            with_reducible rfl
          rotate_left
          · simp only [Act.put, List.setIfInBounds_toArray, List.set_cons_zero, List.set_cons_succ, i64_w, i32_w]
            rfl
          refine pure_ (i := 3) (N := some 23) (v := ?_) (a' := ?_) #[true, true, true, true, false, false, false, false, false, false, false, false, false, false] rfl rfl (any_of HT_.out (by kernel_rfl)) (fun _ _ _ h => h) (Or.inl ⟨by rfl, ?_⟩) ?_ ?_
          rotate_left
          · intro w'
            go_simp
            with_reducible rfl
          rotate_left
          · simp only [Act.put, List.setIfInBounds_toArray, List.set_cons_zero, List.set_cons_succ, i64_w, i32_w]
            rfl
          refine pure_ (i := 4) (N := some 24) (v := ?_) (a' := ?_) #[true, true, true, true, true, false, false, false, false, false, false, false, false, false] rfl rfl (any_of HT_.out (by kernel_rfl)) (fun _ _ _ h => h) (Or.inl ⟨by rfl, ?_⟩) ?_ ?_
          rotate_left
          · intro w'
            go_simp
            with_reducible rfl
          rotate_left
          · simp only [Act.put, List.setIfInBounds_toArray, List.set_cons_zero, List.set_cons_succ, i64_w, i32_w]
            rfl
          refine pure_ (i := 5) (N := some 25) (v := ?_) (a' := ?_) #[true, true, true, true, true, true, false, false, false, false, false, false, false, false] rfl rfl (any_of HT_.out (by kernel_rfl)) (fun _ _ _ h => h) (Or.inl ⟨by rfl, ?_⟩) ?_ ?_
          rotate_left
          · intro w'
            go_simp
            with_reducible rfl
          rotate_left
          · simp only [Act.put, List.setIfInBounds_toArray, List.set_cons_zero, List.set_cons_succ, i64_w, i32_w]
            rfl
          refine pure_ (i := 6) (N := some 26) (v := ?_) (a' := ?_) #[true, true, true, true, true, true, true, false, false, false, false, false, false, false] rfl rfl (any_of HT_.out (by kernel_rfl)) (fun _ _ _ h => h) (Or.inl ⟨by rfl, ?_⟩) ?_ ?_
          rotate_left
          · intro w'
            go_simp
            with_reducible rfl
          rotate_left
          · simp only [Act.put, List.setIfInBounds_toArray, List.set_cons_zero, List.set_cons_succ, i64_w, i32_w]
            rfl
          refine pure_ (i := 7) (N := some 27) (v := ?_) (a' := ?_) #[true, true, true, true, true, true, true, true, false, false, false, false, false, false] rfl rfl (any_of HT_.out (by kernel_rfl)) (fun _ _ _ h => h) (Or.inl ⟨by rfl, ?_⟩) ?_ ?_
          rotate_left
          · intro w'
            go_simp
            with_reducible rfl
          rotate_left
          · simp only [Act.put, List.setIfInBounds_toArray, List.set_cons_zero, List.set_cons_succ, i64_w, i32_w]
            rfl
          refine pure_ (i := 8) (N := some 28) (v := ?_) (a' := ?_) #[true, true, true, true, true, true, true, true, true, false, false, false, false, false] rfl rfl (any_of HT_.out (by kernel_rfl)) (fun _ _ _ h => h) (Or.inl ⟨by rfl, ?_⟩) ?_ ?_
          rotate_left
          · intro w'
            go_simp
            with_reducible rfl
          rotate_left
          · simp only [Act.put, List.setIfInBounds_toArray, List.set_cons_zero, List.set_cons_succ, i64_w, i32_w]
            rfl
          refine one_ (i := 9) (N := some 29) #[true, true, true, true, true, true, true, true, true, true, false, false, false, false] rfl rfl (one_of HT_.out (by kernel_rfl)) (by decide) (fun K hK => ?_)
          refine Kd.R_lit_step Kd.string _ 9 ?hg (N := 29) ?hd (xs := ([a0.extract 0 k, (⟨#[49]⟩ : ByteArray), a0.extract k a0.size] : List ByteArray)) (inner := [.string (a0.extract 0 k), .string ((⟨#[49]⟩ : ByteArray)), .string (a0.extract k a0.size)]) (ok := fun _ => True) (okp := fun _ => True) ?hr ?hp (fun _ hk => hk) trivial (Below.refl _ _) (Nat.le_refl _) (by simp) ?_; (case hd => rfl); (case hg => rfl); (case hr => first | (go_simp; done) | (go_simp; rfl)); (case hp => exact (Reps.one (show Kd.M Kd.string _ _ _ (a0.extract 0 k) [.string (a0.extract 0 k)] from rfl) (Reps.one (show Kd.M Kd.string _ _ _ ((⟨#[49]⟩ : ByteArray)) [.string ((⟨#[49]⟩ : ByteArray))] from rfl) (Reps.one (show Kd.M Kd.string _ _ _ (a0.extract k a0.size) [.string (a0.extract k a0.size)] from rfl) (Reps.none _ _)))))
          intro v222 w11 ho12 hb hg_ hnew_
          clear hg_ hnew_
          have n0_ := Aside0.mk (Kd.R_elder' (by (with_reducible repeat (first | apply Kd.R_alloc | apply Kd.R_drewN | apply Kd.R_drew)); exact HO.out) (Kd.R_base ho12) hb)
          have n1_ := Aside0.mk (Kd.R_lower (Kd.R_new' ho12 (Kd.R_lt (by (with_reducible repeat (first | apply Kd.R_alloc | apply Kd.R_drewN | apply Kd.R_drew)); exact HO.out))) (below_size (by repeat (first | (with_reducible first | exact HB.out | apply below_alloc | apply pw_below_drewN | apply below_drew1) | exact HB.out))))
          have n2_ := Aside0.mk (below_step (by repeat (first | (with_reducible first | exact HB.out | apply below_alloc | apply pw_below_drewN | apply below_drew1) | exact HB.out)) hb)
          have n3_ := Aside0.mk (it_below HIT.out hb)
          clear HO HB HIT
          have HO := n0_
          have HL := n1_
          have HB := n2_
          have HIT := n3_
          clear n0_ n1_ n2_ n3_ hb ho12
          obtain ⟨Ao13, co13, eo13⟩ := Kd.R_slice HL.out
          subst eo13
          refine hK.out _ _ trivial (fun hHeld => ?_)
          clear hK K
          refine norm_ (a' := ?_) ?_ ?_
          rotate_left
          · show Act.put _ (some 29) _ = _
            simp only [Act.put, List.setIfInBounds_toArray, List.set_cons_zero, List.set_cons_succ, i64_w, i32_w]
            rfl
          refine one_ (i := 10) (N := some 30) #[true, true, true, true, true, true, true, true, true, true, true, false, false, false] rfl rfl (one_of HT_.out (by kernel_rfl)) (by decide) (fun K hK => ?_)
          refine goes_ Tryd.func56 (by kernel_rfl) rfl #[.slice Ao13 ([a0.extract 0 k, (⟨#[49]⟩ : ByteArray), a0.extract k a0.size] : List ByteArray).length co13] (by rfl) rfl rfl (by (try simp only [List.map_toArray, List.map_cons, List.map_nil]); first | done | rfl) ?_
          with_reducible refine (mark_joined.calls _ _ ([a0.extract 0 k, (⟨#[49]⟩ : ByteArray), a0.extract k a0.size] : List ByteArray) (insAt a0 k 49) _ ?side1 ?side2 HJ49.out).mono ?_
          (case side1 => repeat (first | exact (Kd.R_reads' HL.out).2.2 | (with_reducible refine Kd.C_alloc ?_ _) | (with_reducible refine Kd.C_drewN ?_ _) | (with_reducible refine Kd.C_drew ?_)))
          (case side2 => exact (Kd.R_reads' HL.out).2.1)
          rintro e w14 ⟨rfl, hb⟩
          refine ⟨_, rfl, ?_⟩
          have n0_ := Aside0.mk (Kd.R_below (by (with_reducible repeat (first | apply Kd.R_alloc | apply Kd.R_drewN | apply Kd.R_drew)); exact HO.out) hb)
          have n1_ := Aside0.mk (Kd.R_below (by (with_reducible repeat (first | apply Kd.R_alloc | apply Kd.R_drewN | apply Kd.R_drew)); exact HL.out) hb)
          have n2_ := Aside0.mk (below_step (by repeat (first | (with_reducible first | exact HB.out | apply below_alloc | apply pw_below_drewN | apply below_drew1) | exact HB.out)) hb)
          have n3_ := Aside0.mk (it_below HIT.out hb)
          clear HO HL HB HIT hb
          have HO := n0_
          have HL := n1_
          have HB := n2_
          have HIT := n3_
          clear n0_ n1_ n2_ n3_
          refine hK.out _ _ trivial (fun hHeld => ?_)
          clear hK K
          refine norm_ (a' := ?_) ?_ ?_
          rotate_left
          · show Act.put _ (some 30) _ = _
            simp only [Act.put, List.setIfInBounds_toArray, List.set_cons_zero, List.set_cons_succ, i64_w, i32_w]
            rfl
          refine one_ (i := 11) (N := some 31) #[true, true, true, true, true, true, true, true, true, true, true, true, false, false] rfl rfl (one_of HT_.out (by kernel_rfl)) (by decide) (fun K hK => ?_)
          refine value_ (w1 := ?_) (v := ?_) (by rfl) rfl ?_ ?_
          rotate_left 2
          · go_simp
            constructor
            · rfl
            · rfl
          refine hK.out _ _ trivial (fun hHeld => ?_)
          clear hK K
          refine norm_ (a' := ?_) ?_ ?_
          rotate_left
          · show Act.put _ (some 31) _ = _
            simp only [Act.put, List.setIfInBounds_toArray, List.set_cons_zero, List.set_cons_succ, i64_w, i32_w]
            rfl
          refine one_ (i := 12) (N := some 32) #[true, true, true, true, true, true, true, true, true, true, true, true, true, false] rfl rfl (one_of HT_.out (by kernel_rfl)) (by decide) (fun K hK => ?_)
          refine Kd.R_append_step Kd.string (w0 := w) w.heap.size (by rfl) (.tmp 20) (.tmp 31) 40 9 (.string ⟨#[]⟩) 16 rfl Tryd.underlying40 info9 rfl (by decide) (by omega) u5 (insAll a0 k ++ insTo a0 k 1) (insAt a0 k 49) [.string (insAt a0 k 49)] (fun k_ => some k_ ≠ (.slice Ao13 ([a0.extract 0 k, (⟨#[49]⟩ : ByteArray), a0.extract k a0.size] : List ByteArray).length co13 : Value).ownBlock) (fun _ => False) rfl rfl ?aP (fun _ hk => hk.elim) ?aF ?aO ?aB ?aS ?aL ?_
          (case aP => exact rfl)
          (case aB => exact (by repeat (first | (with_reducible first | exact HB.out | apply below_alloc | apply pw_below_drewN | apply below_drew1) | exact HB.out)))
          (case aF => exact (fun k_ hk => Kd.fresh' (Kd.R_lt (by (with_reducible repeat (first | apply Kd.R_alloc | apply Kd.R_drewN | apply Kd.R_drew)); exact HL.out)) k_ hk))
          (case aO => exact (by (with_reducible repeat (first | apply Kd.R_alloc | apply Kd.R_drewN | apply Kd.R_drew)); exact Kd.R_mono HO.out (fun _ hk => hk.2)))
          (case aS => exact (below_size (by repeat (first | (with_reducible first | exact HB.out | apply below_alloc | apply pw_below_drewN | apply below_drew1) | exact HB.out))))
          (case aL => have := to_len a0 k 1; omega)
          intro v226 w15 ho hb hg hat
          have n3_ := Aside0.mk (it_grown HIT.out (by (with_reducible repeat (first | apply Kd.R_alloc | apply Kd.R_drewN | apply Kd.R_drew)); exact HO.out) hg)
          clear HL HB HO HIT
          have HB := Aside0.mk hb
          have HO := Aside0.mk ho
          have HIT := n3_
          clear n3_ ho hb hg hat
          refine hK.out _ _ trivial (fun hHeld => ?_)
          clear hK K
          refine norm_ (a' := ?_) ?_ ?_
          rotate_left
          · show Act.put _ (some 32) _ = _
            simp only [Act.put, List.setIfInBounds_toArray, List.set_cons_zero, List.set_cons_succ, i64_w, i32_w]
            rfl
          refine pure_ (i := 13) (N := some 5) (v := ?_) (a' := ?_) #[true, true, true, true, true, true, true, true, true, true, true, true, true, true] rfl rfl (any_of HT_.out (by kernel_rfl)) (fun _ _ _ h => h) (Or.inl ⟨by rfl, ?_⟩) ?_ ?_
          rotate_left
          · intro w'
            go_simp
            with_reducible rfl
          rotate_left
          · simp only [Act.put, List.setIfInBounds_toArray, List.set_cons_zero, List.set_cons_succ, i64_w, i32_w]
            rfl
          refine done_ (done_of HT_.out (by kernel_rfl)) ?_
          try go_wp2
          go_roundw
          case rel => exact ⟨2, by omega, ⟨by simpa [insTo] using Kd.R_mono HO.out (fun _ _ => trivial)⟩, HIT, HB⟩
          case measure => rw [POS.out, iterPos_of HIT.out]; decide
        | 2, _ =>
          have hnx2 : ∀ ty, (Instr.next (.pointer (some ⟨wo.heap.size, 0, none⟩)) true ty).run Tryd.prog wr = _ := fun ty => run_next_end_at wr wo.heap.size ⟨#[48, 49]⟩ 2 ty HIT.out (by decide)
          have HO' := Aside0.mk (show Kd.R Kd.string 9 wr w.heap.size (fun _ => True) _ (insAll a0 (k + 1)) from by rw [insAll_succ]; exact HO.out)
          clear HO
          go_wp2
          go_roundw
          case rel => exact ⟨k + 1, by omega, by go_num, HO', HB⟩
          case measure => simp [intOf]; omega
    · obtain rfl : k = a0.size + 1 := by omega
      obtain ⟨Ao18, co18, eo18⟩ := Kd.R_slice HO.out
      subst eo18
      have hB0 : w.heap.size ≤ wr.heap.size := below_size HB.out
      have HOW := Aside0.mk (Kd.own_of_R HO.out)
      have LEN := Aside0.mk (insAll_length a0 (a0.size + 1))
      obtain ⟨xs, hxs⟩ : ∃ xs, insAll a0 (a0.size + 1) = xs := ⟨_, rfl⟩
      rw [hxs] at HOW LEN ⊢
      have HXS := Aside0.mk hxs
      clear HO hxs
      go_wp2_with fail
      refine (sort_owns xs _ w.heap.size _ HOW.out hB0 (by have := LEN.out; omega)).mono ?_
      rintro e w2 ⟨rfl, ho2, hb2⟩
      have HO2 := Aside0.mk ho2
      have HB2 := Aside0.mk (HB.out.trans hb2)
      have HE := Aside0.mk (show (sortB (bytesL xs)).length = xs.length by simp [sortB, bytesL])
      have hB2 : w.heap.size ≤ w2.heap.size := HB2.out.size
      clear ho2 hb2
      go_wp2_with fail
      refine (compact_owns (sortB (bytesL xs)) _ w.heap.size _ HO2.out hB2 (by rw [HE.out]; have := LEN.out; omega)).mono ?_
      rintro e w3 ⟨v', rfl, ho3, hb3⟩
      have HO3 := Aside0.mk ho3
      have HB3 := Aside0.mk (HB2.out.trans hb3)
      clear ho3 hb3
      go_wp2
      go_ret
      exact ⟨v', rfl, by rw [HXS.out]; exact setL_owns HO3.out, HB3.out⟩
end Go.Proofs.YtopmcoohdhlnaaaDoor.G
