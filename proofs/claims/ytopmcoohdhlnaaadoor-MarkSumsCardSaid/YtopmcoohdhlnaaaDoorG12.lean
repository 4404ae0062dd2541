import Derived.ArgAppend
import Derived.Below
import Derived.BigQuiet
import Derived.Deep.AppendLies
import Derived.Deep.CutBlock
import Derived.Deep.DeepCutAuto
import Derived.Deep.Draws
import Derived.Deep.LoopGhost
import Derived.Deep.OwnRows
import Derived.Deep.QuietTactic
import Derived.Deep.RegionHeld3
import Derived.KernelRfl
import Derived.Laws.BitsLemmas
import Derived.Laws.BytesArg
import Derived.Laws.IdiomCopy
import Derived.Laws.MakeOwn
import Derived.Laws.OwnMore
import Derived.Laws.Rows
import Derived.Laws.Slices
import Derived.Laws.StructEq
import Derived.Lib.AppendStr
import Derived.Lib.ConvBytes
import Derived.Lib.Hide
import Derived.Lib.SliceRun
import Derived.Maps.AppendAt
import Derived.OrdersHeld
import Derived.Outline
import Derived.OwnWalk
import Derived.RowKit
import Derived.RowKit3
import Derived.Shelf.Slices.CompactS
import Derived.Shelf.Slices.In.SortNone
import Derived.Shelf.Small.Utf8
import Derived.Shelf.Sort.Plain
import Derived.Shelf.Strings.Builder1
import Derived.Shelf.Strings.Builder2
import Derived.Shelf.Strings.OnBuilder
import Derived.Shelf.Unicode.DecodeAny
import Derived.Shelf.Unicode.DecodeLast
import Derived.Shelf.Unicode.DecodeSlow
import Derived.Sort.OwnSorted
import Derived.Tactics
import Derived.Test.YtopmcoohdhlnaaaDoorProg
import Derived.WalkKit
import Derived.WideLaws
import Derived.Test.YtopmcoohdhlnaaaDoorG6
import Derived.Test.YtopmcoohdhlnaaaDoorG8
import Derived.Test.YtopmcoohdhlnaaaDoorPa0
import Derived.Test.YtopmcoohdhlnaaaDoorWApart
import Derived.Test.YtopmcoohdhlnaaaDoorWLast
import Derived.Test.YtopmcoohdhlnaaaDoorWMore
import Derived.Test.YtopmcoohdhlnaaaDoorWN
import Derived.Test.YtopmcoohdhlnaaaDoorWRepsOne
import Derived.Test.YtopmcoohdhlnaaaDoorWShare
import Derived.Test.YtopmcoohdhlnaaaDoorWTab
import Derived.Test.YtopmcoohdhlnaaaDoorWWords
/- The reference's put: a list of words in byte order with one more, unless it is there. The steps of the region that draws its order were printed by a program of this session. -/
namespace Go.Proofs.YtopmcoohdhlnaaaDoor.G
open Go.RowKit Go.Lib Go.Proofs.YtopmcoohdhlnaaaDoorW.PrintWords Go.Proofs.YtopmcoohdhlnaaaDoorW.PrintLast Go.Proofs.YtopmcoohdhlnaaaDoorW.PrintMore
attribute [local go_sem] max2_int min2_int max_two min_two max_three min_three max_four min_four
set_option linter.unusedVariables false
set_option linter.unusedSimpArgs false
/-- A list with one more word, ahead of the first that is not less, unless that is the word. -/
def putL : List ByteArray → ByteArray → List ByteArray
  | [], s => [s]
  | x :: r, s => if Op.bytesLess x.toList s.toList = true then x :: putL r s else if x.toList = s.toList then x :: r else s :: x :: r
theorem putL_at : ∀ (l : List ByteArray) (s : ByteArray) (k : Nat) (hk : k < l.length), (∀ j (hj : j < l.length), j < k → Op.bytesLess (l[j]'hj).toList s.toList = true) → Op.bytesLess (l[k]'hk).toList s.toList = false →
    putL l s = if (l[k]'hk).toList = s.toList then l else l.take k ++ [s] ++ l.drop k
  | [], _, _, hk, _, _ => absurd hk (by simp)
  | x :: r, s, 0, hk, _, h => by
    simp only [putL, List.getElem_cons_zero, List.take_zero, List.drop_zero, List.nil_append] at h ⊢
    rw [if_neg (by rw [h]; simp)]
    rfl
  | x :: r, s, k + 1, hk, hall, h => by
    have h0 := hall 0 (by simp) (by omega)
    simp only [List.getElem_cons_zero] at h0
    have ih := putL_at r s k (by simpa using hk) (fun j hj hjk => by have := hall (j + 1) (by simpa using hj) (by omega); simpa using this) (by simpa using h)
    simp only [putL, List.getElem_cons_succ, List.take_succ_cons, List.drop_succ_cons] at ih ⊢
    rw [if_pos h0, ih]
    split <;> simp
theorem putL_end : ∀ (l : List ByteArray) (s : ByteArray), (∀ j (hj : j < l.length), Op.bytesLess (l[j]'hj).toList s.toList = true) → putL l s = l ++ [s]
  | [], s, _ => rfl
  | x :: r, s, hall => by
    have h0 := hall 0 (by simp)
    simp only [List.getElem_cons_zero] at h0
    have ih := putL_end r s (fun j hj => by have := hall (j + 1) (by simpa using hj); simpa using this)
    simp only [putL]
    rw [if_pos h0, ih]
    rfl
theorem putL_length (l : List ByteArray) (s : ByteArray) : (putL l s).length ≤ l.length + 1 := by
  induction l with
  | nil => simp [putL]
  | cons x r ih =>
    simp only [putL]
    split
    · simp only [List.length_cons]; omega
    · split <;> simp
theorem bnd37 (l : List ByteArray) (k : Nat) (hl : l.length ≤ 1000000) (hk : k ≤ l.length) : (([] : List ByteArray).length + k) * 16 ≤ 140737488355328 := by
  rw [List.length_nil]; omega
theorem bnd40 (l : List ByteArray) (k : Nat) (hl : l.length ≤ 1000000) : (([] ++ l.take k).length + 1) * 16 ≤ 140737488355328 := by
  rw [List.nil_append, List.length_take]; omega
theorem bnd44 (l : List ByteArray) (s : ByteArray) (k : Nat) (hl : l.length ≤ 1000000) (hk : k ≤ l.length) : (([] ++ l.take k ++ [s]).length + (l.length - k)) * 16 ≤ 140737488355328 := by
  rw [List.nil_append, List.length_append, List.length_take, List.length_singleton]; omega
theorem bnd44' (l : List ByteArray) (s : ByteArray) (k : Nat) (hl : l.length ≤ 1000000) : (([] ++ l.take k ++ [s]).length + 0) * 16 ≤ 140737488355328 := by
  rw [List.nil_append, List.length_append, List.length_take, List.length_singleton]; omega
theorem below_lower {B : Nat} {w w1 : World} (h : Below w.heap.size w w1) (hB : B ≤ w.heap.size) : Below B w w1 := h.mono hB
theorem readC {w : World} {A : Option Addr} {n : Nat} {xs : List ByteArray} (h : Kd.C Kd.string w A n xs) : ReadsRow (fun x cs => cs = [Value.string x]) Kd.string.sz w A n xs := h
theorem C_takeL {w : World} {A : Option Addr} {l : List ByteArray} {k : Nat} (h : Kd.C Kd.string w A l.length l) (hk : k ≤ l.length) : Kd.C Kd.string w A k (l.take k) := by
  have := Kd.C_take h hk
  rwa [List.length_take, Nat.min_eq_left hk] at this
theorem C_dropL {w : World} {A : Option Addr} {l : List ByteArray} {k c : Nat} (h : Kd.C Kd.string w A l.length l) (hk : k ≤ l.length) (hc : l.length ≤ c) : Kd.C Kd.string w (if c = k then A else A.map (·.add k)) (l.length - k) (l.drop k) := by
  have := Kd.C_drop h hk hc
  rw [List.length_drop] at this
  simpa [Kd.string, Kd.scalar] using this
def PutPost (l : List ByteArray) (s : ByteArray) (B : Nat) (w : World) (e : Ending) (w' : World) : Prop := ∃ v', e = .returned v' ∧ Kd.R Kd.string 9 w' B (fun _ => True) v' (putL l s) ∧ Below B w w'
def pritchelref09_put.T6 : Bool × List (List Nat × List Nat) := (true, [([], []), ([], []), ([], []), ([1, 2], [1, 2]), ([0, 3], [0, 3]), ([], []), ([5], [5]), ([4, 6, 4], [4, 6]), ([], []), ([], []), ([8, 9], [8, 9]), ([7, 10, 7], [7, 10]), ([11, 11, 0, 1, 2, 3, 4, 5, 6, 7, 8, 9, 10, 11], [11])])
def pritchelref09_put.B6 : List Nat := [0, 0, 0, 6, 15, 0, 32, 127, 0, 0, 768, 2047, 4095]
theorem pritchelref09_put.tab6 : rtab .any (opsOf Tryd.f51 6) = pritchelref09_put.T6 := by kernel_rfl
theorem pritchelref09_put.bits6 : waitsOk pritchelref09_put.T6.2 pritchelref09_put.B6 = true := by kernel_rfl

set_option maxHeartbeats 8000000 in
set_option maxRecDepth 100000 in
theorem put_calls (v : Value) (l : List ByteArray) (s : ByteArray) (B : Nat) (w : World) (hr : Kd.R Kd.string 9 w B (fun _ => True) v l) (hl : l.length ≤ 1000000) (hB : B ≤ w.heap.size) :
    Calls Tryd.prog 51 #[v, .string s] w (PutPost l s B w) := by
  obtain ⟨A, c, hv, hc, hC⟩ := Kd.R_reads hr
  subst hv
  have HR := Lib.hid hr; clear hr
  have HRC0 := Aside0.mk hC; clear hC
  go_enter Tryd.func51, Tryd.ntmps51
  go_wp2
  go_loop [5] (fun i => ∃ k : Nat, k ≤ l.length ∧ i = .int .i64 k ∧ Hid (∀ j (hj : j < l.length), j < k → Op.bytesLess (l[j]'hj).toList s.toList = true)) (fun i => l.length - (Go.RowKit.intOf i).toNat)
  case atStart => exact ⟨0, Nat.zero_le _, rfl, Lib.hid (fun j hj h => absurd h (by omega))⟩
  case round =>
    obtain ⟨k, hk, rfl, HALL⟩ := hrel
    by_cases hlt : k < l.length
    · obtain ⟨ad, e2, hx⟩ := Kd.at_string HRC0.out (k : Int) (by omega) (by omega)
      cases e2
      rw [rd_nat8 l k hlt, Int.toNat_natCast] at hx
      obtain ⟨x, hxx⟩ : ∃ x, l[k]'hlt = x := ⟨_, rfl⟩
      rw [hxx] at hx
      have HX := Lib.hid hxx; clear hxx
      have hdec : decide ((k : Int) < (l.length : Int)) = true := by simp; omega
      have hdec2 : decide (k < l.length) = true := by simp; omega
      by_cases hless : Op.bytesLess x.toList s.toList = true
      · go_wp2
        go_round
        case rel => exact ⟨k + 1, by omega, by go_num, Lib.hid (fun j hj hjk => by
          by_cases e : j = k
          · subst e; rw [HX.out]; exact hless
          · exact HALL.out j hj (by omega))⟩
        case measure => simp [Go.RowKit.intOf]; omega
      · have hless' : Op.bytesLess x.toList s.toList = false := by simpa using hless
        clear hless
        have HPA := Lib.hid (putL_at l s k hlt HALL.out (by rw [HX.out]; exact hless'))
        by_cases heq : x.toList = s.toList
        · have hbeq : (x.toList == s.toList) = true := by simpa using heq
          have HPE : Hid (putL l s = l) := Lib.hid (by rw [HPA.out, if_pos (by rw [HX.out]; exact heq)])
          clear heq
          go_wp2
          go_ret
          exact ⟨_, rfl, by rw [HPE.out]; exact HR.out, Below.refl _ _⟩
        · have hbeq : (x.toList == s.toList) = false := by simpa using heq
          have HPUT : Hid (putL l s = [] ++ l.take k ++ [s] ++ l.drop k) := Lib.hid (by rw [HPA.out, if_neg (by rw [HX.out]; exact heq)]; rfl)
          clear heq HPA
          have hkc : k ≤ c := by omega
          have hck : ¬ c = k := by omega
          go_wp2
          clear hx
          try go_wp2
          have HB := Aside0.mk (below_drew1 (Below.refl w.heap.size w))
          refine start_ (n := 13) (S := fun w' => True) (ds := []) #[false, false, false, false, false, false, false, false, false, false, false, false, false] (by kernel_rfl) rfl rfl trivial (fun hHeld => ?_); refine with_tabW pritchelref09_put.tab6 pritchelref09_put.bits6 (fun HT_ HW_ => ?_)
          generalize w.drew = w10 at HB hHeld ⊢
          refine pure_ (i := 1) (N := some 34) (v := ?_) (a' := ?_) #[false, true, false, false, false, false, false, false, false, false, false, false, false] rfl rfl (any_of HT_.out (by kernel_rfl)) (fun _ _ _ h => h) (Or.inl ⟨by rfl, ?_⟩) ?_ ?_
          rotate_left
          · intro w'
            go_simp
            with_reducible rfl
          rotate_left
          · simp only [Act.put, List.setIfInBounds_toArray, List.set_cons_zero, List.set_cons_succ, i64_w, i32_w]
            rfl
          refine pure_ (i := 2) (N := some 35) (v := ?_) (a' := ?_) #[false, true, true, false, false, false, false, false, false, false, false, false, false] rfl rfl (any_of HT_.out (by kernel_rfl)) (fun _ _ _ h => h) (Or.inl ⟨by rfl, ?_⟩) ?_ ?_
          rotate_left
          · intro w'
            go_simp
            with_reducible rfl
          rotate_left
          · simp only [Act.put, List.setIfInBounds_toArray, List.set_cons_zero, List.set_cons_succ, i64_w, i32_w]
            rfl
          refine pure_ (i := 3) (N := some 36) (v := ?_) (a' := ?_) #[false, true, true, true, false, false, false, false, false, false, false, false, false] rfl rfl (any_of HT_.out (by kernel_rfl)) (fun _ _ _ h => h) (Or.inl ⟨by rfl, ?_⟩) ?_ ?_
          rotate_left
          · intro w'
            go_simp
            with_reducible rfl
          rotate_left
          · simp only [Act.put, List.setIfInBounds_toArray, List.set_cons_zero, List.set_cons_succ, i64_w, i32_w]
            rfl
          refine pure_ (i := 5) (N := some 38) (v := ?_) (a' := ?_) #[false, true, true, true, false, true, false, false, false, false, false, false, false] rfl rfl (any_of HT_.out (by kernel_rfl)) (fun _ _ _ h => h) (Or.inl ⟨by rfl, ?_⟩) ?_ ?_
          rotate_left
          · intro w'
            go_simp
            with_reducible rfl
          rotate_left
          · simp only [Act.put, List.setIfInBounds_toArray, List.set_cons_zero, List.set_cons_succ, i64_w, i32_w]
            rfl
          refine pure_ (i := 8) (N := some 41) (v := ?_) (a' := ?_) #[false, true, true, true, false, true, false, false, true, false, false, false, false] rfl rfl (any_of HT_.out (by kernel_rfl)) (fun _ _ _ h => h) (Or.inl ⟨by rfl, ?_⟩) ?_ ?_
          rotate_left
          · intro w'
            go_simp
            with_reducible rfl
          rotate_left
          · simp only [Act.put, List.setIfInBounds_toArray, List.set_cons_zero, List.set_cons_succ, i64_w, i32_w]
            rfl
          refine pure_ (i := 9) (N := some 42) (v := ?_) (a' := ?_) #[false, true, true, true, false, true, false, false, true, true, false, false, false] rfl rfl (any_of HT_.out (by kernel_rfl)) (fun _ _ _ h => h) (Or.inl ⟨by rfl, ?_⟩) ?_ ?_
          rotate_left
          · intro w'
            go_simp
            with_reducible rfl
          rotate_left
          · simp only [Act.put, List.setIfInBounds_toArray, List.set_cons_zero, List.set_cons_succ, i64_w, i32_w]
            rfl
          refine pure_ (i := 10) (N := some 43) (v := ?_) (a' := ?_) #[false, true, true, true, false, true, false, false, true, true, true, false, false] rfl rfl (any_of HT_.out (by kernel_rfl)) (fun _ _ _ h => h) (Or.inl ⟨by rfl, ?_⟩) ?_ ?_
          rotate_left
          · intro w'
            go_simp
            with_reducible rfl
          rotate_left
          · simp only [Act.put, List.setIfInBounds_toArray, List.set_cons_zero, List.set_cons_succ, i64_w, i32_w]
            rfl
          refine two_ (i := 0) (j := 6) (Ni := some 33) (Nj := some 39) #[true, true, true, true, false, true, false, false, true, true, true, false, false] #[false, true, true, true, false, true, true, false, true, true, true, false, false] rfl rfl rfl rfl (two_of HT_.out (by kernel_rfl)) (by decide) (by decide) (fun K hK => ?_) (fun K hK => ?_)
          · refine Kd.R_lit_step Kd.string _ 9 ?hg (N := 33) ?hd (xs := ([] : List ByteArray)) (inner := []) (ok := fun _ => True) (okp := fun _ => True) ?hr ?hp (fun _ hk => hk) trivial (Below.refl _ _) (Nat.le_refl _) (by simp) ?_; (case hd => rfl); (case hg => rfl); (case hr => first | (go_simp; done) | (go_simp; rfl)); (case hp => exact (Reps.none _ _))
            intro v33 w33 ho hb hg_ hnew_
            clear hg_ hnew_
            have n0_ := Aside0.mk (Kd.R_lower ho HB.out.size)
            have n1_ := Aside0.mk (below_step HB.out hb)
            clear HB ho hb
            have H33 := n0_
            have HB := n1_
            clear n0_ n1_
            refine hK.out _ _ trivial (fun hHeld => ?_)
            clear hK K
            refine norm_ (a' := ?_) ?_ ?_
            rotate_left
            · show Act.put _ (some 33) _ = _
              simp only [Act.put, List.setIfInBounds_toArray, List.set_cons_zero, List.set_cons_succ, i64_w, i32_w]
              rfl
            refine two_ (i := 4) (j := 6) (Ni := some 37) (Nj := some 39) #[true, true, true, true, true, true, false, false, true, true, true, false, false] #[true, true, true, true, false, true, true, false, true, true, true, false, false] rfl rfl rfl rfl (two_of HT_.out (by kernel_rfl)) (by decide) (by decide) (fun K hK => ?_) (fun K hK => ?_)
            · refine Kd.R_append_rows_step Kd.string (w0 := w) w.heap.size (by rfl) (.tmp 33) (.tmp 36) 40 9 (.string ⟨#[]⟩) 16 rfl Tryd.underlying40 info9 rfl (by decide) (by decide) v33 ([] : List ByteArray) (l.take k) (some ad) k c (fun _ => True) (fun _ => False) rfl rfl ?aO (readC (C_takeL (Kd.C_below HRC0.out HB.out) hk)) (fun _ _ h_ => h_) (fun _ hk => hk.elim) (fun _ _ => trivial) HB.out HB.out.size ?aL ?_
              (case aO => exact Kd.R_mono H33.out (fun _ _ => trivial))
              (case aL => exact bnd37 l k hl hk)
              intro v37 w37 ho hb hg hat
              clear HB H33
              have H37 := Aside0.mk ho
              have HB := Aside0.mk hb
              clear ho hb hg hat
              refine hK.out _ _ trivial (fun hHeld => ?_)
              clear hK K
              refine norm_ (a' := ?_) ?_ ?_
              rotate_left
              · show Act.put _ (some 37) _ = _
                simp only [Act.put, List.setIfInBounds_toArray, List.set_cons_zero, List.set_cons_succ, i64_w, i32_w]
                rfl
              refine one_ (i := 6) (N := some 39) #[true, true, true, true, true, true, true, false, true, true, true, false, false] rfl rfl (one_of HT_.out (by kernel_rfl)) (by decide) (fun K hK => ?_)
              refine Kd.R_lit_step Kd.string _ 9 ?hg (N := 39) ?hd (xs := ([s] : List ByteArray)) (inner := [.string s]) (ok := fun _ => True) (okp := fun _ => True) ?hr ?hp (fun _ hk => hk) trivial (Below.refl _ _) (Nat.le_refl _) (by simp) ?_; (case hd => rfl); (case hg => rfl); (case hr => first | (go_simp; done) | (go_simp; rfl)); (case hp => exact (Reps.one (show Kd.M Kd.string _ _ _ s [.string s] from rfl) (Reps.none _ _)))
              intro v39 w39 ho hb hg_ hnew_
              clear hg_ hnew_
              have n0_ := Aside0.mk (Kd.R_lower (Kd.R_new' ho (Kd.R_lt H37.out)) HB.out.size)
              have m_ := Aside0.mk (Kd.R_below H37.out hb)
              clear H37
              have H37 := m_
              clear m_
              have n1_ := Aside0.mk (below_step HB.out hb)
              clear HB ho hb
              have H39 := n0_
              have HB := n1_
              clear n0_ n1_
              refine hK.out _ _ trivial (fun hHeld => ?_)
              clear hK K
              refine norm_ (a' := ?_) ?_ ?_
              rotate_left
              · show Act.put _ (some 39) _ = _
                simp only [Act.put, List.setIfInBounds_toArray, List.set_cons_zero, List.set_cons_succ, i64_w, i32_w]
                rfl
              refine one_ (i := 7) (N := some 40) #[true, true, true, true, true, true, true, true, true, true, true, false, false] rfl rfl (one_of HT_.out (by kernel_rfl)) (by decide) (fun K hK => ?_)
              obtain ⟨A39, c39, e39⟩ := Kd.R_slice H39.out
              subst e39
              refine Kd.R_append_rows_step Kd.string (w0 := w) w.heap.size (by rfl) (.tmp 37) (.tmp 39) 40 9 (.string ⟨#[]⟩) 16 rfl Tryd.underlying40 info9 rfl (by decide) (by decide) v37 ([] ++ l.take k) [s] A39 1 c39 (fun _ => True) (fun _ => False) rfl rfl ?aO (readC (Kd.R_reads' H39.out).2.2) (fun _ _ h_ => h_) (fun _ hk => hk.elim) (fun _ _ => trivial) HB.out HB.out.size ?aL ?_
              (case aO => exact Kd.R_mono H37.out (fun _ _ => trivial))
              (case aL => exact bnd40 l k hl)
              intro v40 w40 ho hb hg hat
              clear HB H37 H39
              have H40 := Aside0.mk ho
              have HB := Aside0.mk hb
              clear ho hb hg hat
              refine hK.out _ _ trivial (fun hHeld => ?_)
              clear hK K
              refine norm_ (a' := ?_) ?_ ?_
              rotate_left
              · show Act.put _ (some 40) _ = _
                simp only [Act.put, List.setIfInBounds_toArray, List.set_cons_zero, List.set_cons_succ, i64_w, i32_w]
                rfl
              refine one_ (i := 11) (N := some 44) #[true, true, true, true, true, true, true, true, true, true, true, true, false] rfl rfl (one_of HT_.out (by kernel_rfl)) (by decide) (fun K hK => ?_)
              refine Kd.R_append_rows_step Kd.string (w0 := w) w.heap.size (by rfl) (.tmp 40) (.tmp 43) 40 9 (.string ⟨#[]⟩) 16 rfl Tryd.underlying40 info9 rfl (by decide) (by decide) v40 ([] ++ l.take k ++ [s]) (l.drop k) (some (ad.add k)) (l.length - k) (c - k) (fun _ => True) (fun _ => False) rfl rfl ?aO (readC (by have h_ := C_dropL (Kd.C_below HRC0.out HB.out) hk hc; rwa [if_neg hck] at h_)) (fun _ _ h_ => h_) (fun _ hk => hk.elim) (fun _ _ => trivial) HB.out HB.out.size ?aL ?_
              (case aO => exact Kd.R_mono H40.out (fun _ _ => trivial))
              (case aL => exact bnd44 l s k hl hk)
              intro v44 w44 ho hb hg hat
              clear HB H40
              have H44 := Aside0.mk ho
              have HB := Aside0.mk hb
              clear ho hb hg hat
              refine hK.out _ _ trivial (fun hHeld => ?_)
              clear hK K
              refine norm_ (a' := ?_) ?_ ?_
              rotate_left
              · show Act.put _ (some 44) _ = _
                simp only [Act.put, List.setIfInBounds_toArray, List.set_cons_zero, List.set_cons_succ, i64_w, i32_w]
                rfl
              refine pure_ (i := 12) (N := some 4) (v := ?_) (a' := ?_) #[true, true, true, true, true, true, true, true, true, true, true, true, true] rfl rfl (any_of HT_.out (by kernel_rfl)) (fun _ _ _ h => h) (Or.inl ⟨by rfl, ?_⟩) ?_ ?_
              rotate_left
              · intro w'
                go_simp
                with_reducible rfl
              rotate_left
              · simp only [Act.put, List.setIfInBounds_toArray, List.set_cons_zero, List.set_cons_succ, i64_w, i32_w]
                rfl
              refine done_ (done_of HT_.out (by kernel_rfl)) ?_
              try go_wp2
              all_goals go_ret
              all_goals exact ⟨_, rfl, Kd.R_lower (by have := H44.out; rw [HPUT.out]; exact this) hB, below_lower HB.out hB⟩
            · refine Kd.R_lit_step Kd.string _ 9 ?hg (N := 39) ?hd (xs := ([s] : List ByteArray)) (inner := [.string s]) (ok := fun _ => True) (okp := fun _ => True) ?hr ?hp (fun _ hk => hk) trivial (Below.refl _ _) (Nat.le_refl _) (by simp) ?_; (case hd => rfl); (case hg => rfl); (case hr => first | (go_simp; done) | (go_simp; rfl)); (case hp => exact (Reps.one (show Kd.M Kd.string _ _ _ s [.string s] from rfl) (Reps.none _ _)))
              intro v39 w39 ho hb hg_ hnew_
              clear hg_ hnew_
              have n0_ := Aside0.mk (Kd.R_lower (Kd.R_new' ho (Kd.R_lt H33.out)) HB.out.size)
              have m_ := Aside0.mk (Kd.R_below H33.out hb)
              clear H33
              have H33 := m_
              clear m_
              have n1_ := Aside0.mk (below_step HB.out hb)
              clear HB ho hb
              have H39 := n0_
              have HB := n1_
              clear n0_ n1_
              refine hK.out _ _ trivial (fun hHeld => ?_)
              clear hK K
              refine norm_ (a' := ?_) ?_ ?_
              rotate_left
              · show Act.put _ (some 39) _ = _
                simp only [Act.put, List.setIfInBounds_toArray, List.set_cons_zero, List.set_cons_succ, i64_w, i32_w]
                rfl
              refine one_ (i := 4) (N := some 37) #[true, true, true, true, true, true, true, false, true, true, true, false, false] rfl rfl (one_of HT_.out (by kernel_rfl)) (by decide) (fun K hK => ?_)
              refine Kd.R_append_rows_step Kd.string (w0 := w) w.heap.size (by rfl) (.tmp 33) (.tmp 36) 40 9 (.string ⟨#[]⟩) 16 rfl Tryd.underlying40 info9 rfl (by decide) (by decide) v33 ([] : List ByteArray) (l.take k) (some ad) k c (fun _ => True) (fun _ => False) rfl rfl ?aO (readC (C_takeL (Kd.C_below HRC0.out HB.out) hk)) (fun _ _ h_ => h_) (fun _ hk => hk.elim) (fun _ _ => trivial) HB.out HB.out.size ?aL ?_
              (case aO => exact Kd.R_mono H33.out (fun _ _ => trivial))
              (case aL => exact bnd37 l k hl hk)
              intro v37 w37 ho hb hg hat
              have m_ := Aside0.mk (Kd.R_after (ok := (fun _ => True)) (Kd.R_mono H39.out (fun _ h_ => ⟨trivial, h_.2⟩)) hg hat)
              clear H39
              have H39 := m_
              clear m_
              clear HB H33
              have H37 := Aside0.mk ho
              have HB := Aside0.mk hb
              clear ho hb hg hat
              refine hK.out _ _ trivial (fun hHeld => ?_)
              clear hK K
              refine norm_ (a' := ?_) ?_ ?_
              rotate_left
              · show Act.put _ (some 37) _ = _
                simp only [Act.put, List.setIfInBounds_toArray, List.set_cons_zero, List.set_cons_succ, i64_w, i32_w]
                rfl
              refine one_ (i := 7) (N := some 40) #[true, true, true, true, true, true, true, true, true, true, true, false, false] rfl rfl (one_of HT_.out (by kernel_rfl)) (by decide) (fun K hK => ?_)
              obtain ⟨A39, c39, e39⟩ := Kd.R_slice H39.out
              subst e39
              refine Kd.R_append_rows_step Kd.string (w0 := w) w.heap.size (by rfl) (.tmp 37) (.tmp 39) 40 9 (.string ⟨#[]⟩) 16 rfl Tryd.underlying40 info9 rfl (by decide) (by decide) v37 ([] ++ l.take k) [s] A39 1 c39 (fun _ => True) (fun _ => False) rfl rfl ?aO (readC (Kd.R_reads' H39.out).2.2) (fun _ _ h_ => h_) (fun _ hk => hk.elim) (fun _ _ => trivial) HB.out HB.out.size ?aL ?_
              (case aO => exact Kd.R_mono H37.out (fun _ _ => trivial))
              (case aL => exact bnd40 l k hl)
              intro v40 w40 ho hb hg hat
              clear HB H37 H39
              have H40 := Aside0.mk ho
              have HB := Aside0.mk hb
              clear ho hb hg hat
              refine hK.out _ _ trivial (fun hHeld => ?_)
              clear hK K
              refine norm_ (a' := ?_) ?_ ?_
              rotate_left
              · show Act.put _ (some 40) _ = _
                simp only [Act.put, List.setIfInBounds_toArray, List.set_cons_zero, List.set_cons_succ, i64_w, i32_w]
                rfl
              refine one_ (i := 11) (N := some 44) #[true, true, true, true, true, true, true, true, true, true, true, true, false] rfl rfl (one_of HT_.out (by kernel_rfl)) (by decide) (fun K hK => ?_)
              refine Kd.R_append_rows_step Kd.string (w0 := w) w.heap.size (by rfl) (.tmp 40) (.tmp 43) 40 9 (.string ⟨#[]⟩) 16 rfl Tryd.underlying40 info9 rfl (by decide) (by decide) v40 ([] ++ l.take k ++ [s]) (l.drop k) (some (ad.add k)) (l.length - k) (c - k) (fun _ => True) (fun _ => False) rfl rfl ?aO (readC (by have h_ := C_dropL (Kd.C_below HRC0.out HB.out) hk hc; rwa [if_neg hck] at h_)) (fun _ _ h_ => h_) (fun _ hk => hk.elim) (fun _ _ => trivial) HB.out HB.out.size ?aL ?_
              (case aO => exact Kd.R_mono H40.out (fun _ _ => trivial))
              (case aL => exact bnd44 l s k hl hk)
              intro v44 w44 ho hb hg hat
              clear HB H40
              have H44 := Aside0.mk ho
              have HB := Aside0.mk hb
              clear ho hb hg hat
              refine hK.out _ _ trivial (fun hHeld => ?_)
              clear hK K
              refine norm_ (a' := ?_) ?_ ?_
              rotate_left
              · show Act.put _ (some 44) _ = _
                simp only [Act.put, List.setIfInBounds_toArray, List.set_cons_zero, List.set_cons_succ, i64_w, i32_w]
                rfl
              refine pure_ (i := 12) (N := some 4) (v := ?_) (a' := ?_) #[true, true, true, true, true, true, true, true, true, true, true, true, true] rfl rfl (any_of HT_.out (by kernel_rfl)) (fun _ _ _ h => h) (Or.inl ⟨by rfl, ?_⟩) ?_ ?_
              rotate_left
              · intro w'
                go_simp
                with_reducible rfl
              rotate_left
              · simp only [Act.put, List.setIfInBounds_toArray, List.set_cons_zero, List.set_cons_succ, i64_w, i32_w]
                rfl
              refine done_ (done_of HT_.out (by kernel_rfl)) ?_
              try go_wp2
              all_goals go_ret
              all_goals exact ⟨_, rfl, Kd.R_lower (by have := H44.out; rw [HPUT.out]; exact this) hB, below_lower HB.out hB⟩
          · refine Kd.R_lit_step Kd.string _ 9 ?hg (N := 39) ?hd (xs := ([s] : List ByteArray)) (inner := [.string s]) (ok := fun _ => True) (okp := fun _ => True) ?hr ?hp (fun _ hk => hk) trivial (Below.refl _ _) (Nat.le_refl _) (by simp) ?_; (case hd => rfl); (case hg => rfl); (case hr => first | (go_simp; done) | (go_simp; rfl)); (case hp => exact (Reps.one (show Kd.M Kd.string _ _ _ s [.string s] from rfl) (Reps.none _ _)))
            intro v39 w39 ho hb hg_ hnew_
            clear hg_ hnew_
            have n0_ := Aside0.mk (Kd.R_lower ho HB.out.size)
            have n1_ := Aside0.mk (below_step HB.out hb)
            clear HB ho hb
            have H39 := n0_
            have HB := n1_
            clear n0_ n1_
            refine hK.out _ _ trivial (fun hHeld => ?_)
            clear hK K
            refine norm_ (a' := ?_) ?_ ?_
            rotate_left
            · show Act.put _ (some 39) _ = _
              simp only [Act.put, List.setIfInBounds_toArray, List.set_cons_zero, List.set_cons_succ, i64_w, i32_w]
              rfl
            refine one_ (i := 0) (N := some 33) #[true, true, true, true, false, true, true, false, true, true, true, false, false] rfl rfl (one_of HT_.out (by kernel_rfl)) (by decide) (fun K hK => ?_)
            refine Kd.R_lit_step Kd.string _ 9 ?hg (N := 33) ?hd (xs := ([] : List ByteArray)) (inner := []) (ok := fun _ => True) (okp := fun _ => True) ?hr ?hp (fun _ hk => hk) trivial (Below.refl _ _) (Nat.le_refl _) (by simp) ?_; (case hd => rfl); (case hg => rfl); (case hr => first | (go_simp; done) | (go_simp; rfl)); (case hp => exact (Reps.none _ _))
            intro v33 w33 ho hb hg_ hnew_
            clear hg_ hnew_
            have m_ := Aside0.mk (Kd.R_elder' (Kd.R_mono H39.out (fun _ _ => trivial)) (Kd.R_base ho) hb)
            clear H39
            have H39 := m_
            clear m_
            have n0_ := Aside0.mk (Kd.R_lower ho HB.out.size)
            have n1_ := Aside0.mk (below_step HB.out hb)
            clear HB ho hb
            have H33 := n0_
            have HB := n1_
            clear n0_ n1_
            refine hK.out _ _ trivial (fun hHeld => ?_)
            clear hK K
            refine norm_ (a' := ?_) ?_ ?_
            rotate_left
            · show Act.put _ (some 33) _ = _
              simp only [Act.put, List.setIfInBounds_toArray, List.set_cons_zero, List.set_cons_succ, i64_w, i32_w]
              rfl
            refine one_ (i := 4) (N := some 37) #[true, true, true, true, true, true, true, false, true, true, true, false, false] rfl rfl (one_of HT_.out (by kernel_rfl)) (by decide) (fun K hK => ?_)
            refine Kd.R_append_rows_step Kd.string (w0 := w) w.heap.size (by rfl) (.tmp 33) (.tmp 36) 40 9 (.string ⟨#[]⟩) 16 rfl Tryd.underlying40 info9 rfl (by decide) (by decide) v33 ([] : List ByteArray) (l.take k) (some ad) k c (fun _ => True) (fun _ => False) rfl rfl ?aO (readC (C_takeL (Kd.C_below HRC0.out HB.out) hk)) (fun _ _ h_ => h_) (fun _ hk => hk.elim) (fun _ _ => trivial) HB.out HB.out.size ?aL ?_
            (case aO => exact Kd.R_mono H33.out (fun _ _ => trivial))
            (case aL => exact bnd37 l k hl hk)
            intro v37 w37 ho hb hg hat
            have m_ := Aside0.mk (Kd.R_after (ok := (fun _ => True)) (Kd.R_mono H39.out (fun _ h_ => ⟨trivial, h_.2⟩)) hg hat)
            clear H39
            have H39 := m_
            clear m_
            clear HB H33
            have H37 := Aside0.mk ho
            have HB := Aside0.mk hb
            clear ho hb hg hat
            refine hK.out _ _ trivial (fun hHeld => ?_)
            clear hK K
            refine norm_ (a' := ?_) ?_ ?_
            rotate_left
            · show Act.put _ (some 37) _ = _
              simp only [Act.put, List.setIfInBounds_toArray, List.set_cons_zero, List.set_cons_succ, i64_w, i32_w]
              rfl
            refine one_ (i := 7) (N := some 40) #[true, true, true, true, true, true, true, true, true, true, true, false, false] rfl rfl (one_of HT_.out (by kernel_rfl)) (by decide) (fun K hK => ?_)
            obtain ⟨A39, c39, e39⟩ := Kd.R_slice H39.out
            subst e39
            refine Kd.R_append_rows_step Kd.string (w0 := w) w.heap.size (by rfl) (.tmp 37) (.tmp 39) 40 9 (.string ⟨#[]⟩) 16 rfl Tryd.underlying40 info9 rfl (by decide) (by decide) v37 ([] ++ l.take k) [s] A39 1 c39 (fun _ => True) (fun _ => False) rfl rfl ?aO (readC (Kd.R_reads' H39.out).2.2) (fun _ _ h_ => h_) (fun _ hk => hk.elim) (fun _ _ => trivial) HB.out HB.out.size ?aL ?_
            (case aO => exact Kd.R_mono H37.out (fun _ _ => trivial))
            (case aL => exact bnd40 l k hl)
            intro v40 w40 ho hb hg hat
            clear HB H37 H39
            have H40 := Aside0.mk ho
            have HB := Aside0.mk hb
            clear ho hb hg hat
            refine hK.out _ _ trivial (fun hHeld => ?_)
            clear hK K
            refine norm_ (a' := ?_) ?_ ?_
            rotate_left
            · show Act.put _ (some 40) _ = _
              simp only [Act.put, List.setIfInBounds_toArray, List.set_cons_zero, List.set_cons_succ, i64_w, i32_w]
              rfl
            refine one_ (i := 11) (N := some 44) #[true, true, true, true, true, true, true, true, true, true, true, true, false] rfl rfl (one_of HT_.out (by kernel_rfl)) (by decide) (fun K hK => ?_)
            refine Kd.R_append_rows_step Kd.string (w0 := w) w.heap.size (by rfl) (.tmp 40) (.tmp 43) 40 9 (.string ⟨#[]⟩) 16 rfl Tryd.underlying40 info9 rfl (by decide) (by decide) v40 ([] ++ l.take k ++ [s]) (l.drop k) (some (ad.add k)) (l.length - k) (c - k) (fun _ => True) (fun _ => False) rfl rfl ?aO (readC (by have h_ := C_dropL (Kd.C_below HRC0.out HB.out) hk hc; rwa [if_neg hck] at h_)) (fun _ _ h_ => h_) (fun _ hk => hk.elim) (fun _ _ => trivial) HB.out HB.out.size ?aL ?_
            (case aO => exact Kd.R_mono H40.out (fun _ _ => trivial))
            (case aL => exact bnd44 l s k hl hk)
            intro v44 w44 ho hb hg hat
            clear HB H40
            have H44 := Aside0.mk ho
            have HB := Aside0.mk hb
            clear ho hb hg hat
            refine hK.out _ _ trivial (fun hHeld => ?_)
            clear hK K
            refine norm_ (a' := ?_) ?_ ?_
            rotate_left
            · show Act.put _ (some 44) _ = _
              simp only [Act.put, List.setIfInBounds_toArray, List.set_cons_zero, List.set_cons_succ, i64_w, i32_w]
              rfl
            refine pure_ (i := 12) (N := some 4) (v := ?_) (a' := ?_) #[true, true, true, true, true, true, true, true, true, true, true, true, true] rfl rfl (any_of HT_.out (by kernel_rfl)) (fun _ _ _ h => h) (Or.inl ⟨by rfl, ?_⟩) ?_ ?_
            rotate_left
            · intro w'
              go_simp
              with_reducible rfl
            rotate_left
            · simp only [Act.put, List.setIfInBounds_toArray, List.set_cons_zero, List.set_cons_succ, i64_w, i32_w]
              rfl
            refine done_ (done_of HT_.out (by kernel_rfl)) ?_
            try go_wp2
            all_goals go_ret
            all_goals exact ⟨_, rfl, Kd.R_lower (by have := H44.out; rw [HPUT.out]; exact this) hB, below_lower HB.out hB⟩
    · obtain rfl : k = l.length := by omega
      have hdec : decide ((l.length : Int) < (l.length : Int)) = false := by simp
      have hkc : l.length ≤ c := hc
      have HPUT : Hid (putL l s = [] ++ l.take l.length ++ [s] ++ l.drop l.length) := Lib.hid (by rw [putL_end l s (fun j hj => HALL.out j hj hj), List.take_of_length_le (Nat.le_refl _), List.drop_of_length_le (Nat.le_refl _)]; simp)
      try go_wp2
      have HB := Aside0.mk (below_drew1 (Below.refl w.heap.size w))
      refine start_ (n := 13) (S := fun w' => True) (ds := []) #[false, false, false, false, false, false, false, false, false, false, false, false, false] (by kernel_rfl) rfl rfl trivial (fun hHeld => ?_); refine with_tabW pritchelref09_put.tab6 pritchelref09_put.bits6 (fun HT_ HW_ => ?_)
      generalize w.drew = w10 at HB hHeld ⊢
      refine pure_ (i := 1) (N := some 34) (v := ?_) (a' := ?_) #[false, true, false, false, false, false, false, false, false, false, false, false, false] rfl rfl (any_of HT_.out (by kernel_rfl)) (fun _ _ _ h => h) (Or.inl ⟨by rfl, ?_⟩) ?_ ?_
      rotate_left
      · intro w'
        go_simp
        with_reducible rfl
      rotate_left
      · simp only [Act.put, List.setIfInBounds_toArray, List.set_cons_zero, List.set_cons_succ, i64_w, i32_w]
        rfl
      refine pure_ (i := 2) (N := some 35) (v := ?_) (a' := ?_) #[false, true, true, false, false, false, false, false, false, false, false, false, false] rfl rfl (any_of HT_.out (by kernel_rfl)) (fun _ _ _ h => h) (Or.inl ⟨by rfl, ?_⟩) ?_ ?_
      rotate_left
      · intro w'
        go_simp
        with_reducible rfl
      rotate_left
      · simp only [Act.put, List.setIfInBounds_toArray, List.set_cons_zero, List.set_cons_succ, i64_w, i32_w]
        rfl
      refine pure_ (i := 3) (N := some 36) (v := ?_) (a' := ?_) #[false, true, true, true, false, false, false, false, false, false, false, false, false] rfl rfl (any_of HT_.out (by kernel_rfl)) (fun _ _ _ h => h) (Or.inl ⟨by rfl, ?_⟩) ?_ ?_
      rotate_left
      · intro w'
        go_simp
        with_reducible rfl
      rotate_left
      · simp only [Act.put, List.setIfInBounds_toArray, List.set_cons_zero, List.set_cons_succ, i64_w, i32_w]
        rfl
      refine pure_ (i := 5) (N := some 38) (v := ?_) (a' := ?_) #[false, true, true, true, false, true, false, false, false, false, false, false, false] rfl rfl (any_of HT_.out (by kernel_rfl)) (fun _ _ _ h => h) (Or.inl ⟨by rfl, ?_⟩) ?_ ?_
      rotate_left
      · intro w'
        go_simp
        with_reducible rfl
      rotate_left
      · simp only [Act.put, List.setIfInBounds_toArray, List.set_cons_zero, List.set_cons_succ, i64_w, i32_w]
        rfl
      refine pure_ (i := 8) (N := some 41) (v := ?_) (a' := ?_) #[false, true, true, true, false, true, false, false, true, false, false, false, false] rfl rfl (any_of HT_.out (by kernel_rfl)) (fun _ _ _ h => h) (Or.inl ⟨by rfl, ?_⟩) ?_ ?_
      rotate_left
      · intro w'
        go_simp
        with_reducible rfl
      rotate_left
      · simp only [Act.put, List.setIfInBounds_toArray, List.set_cons_zero, List.set_cons_succ, i64_w, i32_w]
        rfl
      refine pure_ (i := 9) (N := some 42) (v := ?_) (a' := ?_) #[false, true, true, true, false, true, false, false, true, true, false, false, false] rfl rfl (any_of HT_.out (by kernel_rfl)) (fun _ _ _ h => h) (Or.inl ⟨by rfl, ?_⟩) ?_ ?_
      rotate_left
      · intro w'
        go_simp
        with_reducible rfl
      rotate_left
      · simp only [Act.put, List.setIfInBounds_toArray, List.set_cons_zero, List.set_cons_succ, i64_w, i32_w]
        rfl
      refine pure_ (i := 10) (N := some 43) (v := ?_) (a' := ?_) #[false, true, true, true, false, true, false, false, true, true, true, false, false] rfl rfl (any_of HT_.out (by kernel_rfl)) (fun _ _ _ h => h) (Or.inl ⟨by rfl, ?_⟩) ?_ ?_
      rotate_left
      · intro w'
        go_simp
        with_reducible rfl
      rotate_left
      · simp only [Act.put, List.setIfInBounds_toArray, List.set_cons_zero, List.set_cons_succ, i64_w, i32_w]
        rfl
      refine two_ (i := 0) (j := 6) (Ni := some 33) (Nj := some 39) #[true, true, true, true, false, true, false, false, true, true, true, false, false] #[false, true, true, true, false, true, true, false, true, true, true, false, false] rfl rfl rfl rfl (two_of HT_.out (by kernel_rfl)) (by decide) (by decide) (fun K hK => ?_) (fun K hK => ?_)
      · refine Kd.R_lit_step Kd.string _ 9 ?hg (N := 33) ?hd (xs := ([] : List ByteArray)) (inner := []) (ok := fun _ => True) (okp := fun _ => True) ?hr ?hp (fun _ hk => hk) trivial (Below.refl _ _) (Nat.le_refl _) (by simp) ?_; (case hd => rfl); (case hg => rfl); (case hr => first | (go_simp; done) | (go_simp; rfl)); (case hp => exact (Reps.none _ _))
        intro v33 w33 ho hb hg_ hnew_
        clear hg_ hnew_
        have n0_ := Aside0.mk (Kd.R_lower ho HB.out.size)
        have n1_ := Aside0.mk (below_step HB.out hb)
        clear HB ho hb
        have H33 := n0_
        have HB := n1_
        clear n0_ n1_
        refine hK.out _ _ trivial (fun hHeld => ?_)
        clear hK K
        refine norm_ (a' := ?_) ?_ ?_
        rotate_left
        · show Act.put _ (some 33) _ = _
          simp only [Act.put, List.setIfInBounds_toArray, List.set_cons_zero, List.set_cons_succ, i64_w, i32_w]
          rfl
        refine two_ (i := 4) (j := 6) (Ni := some 37) (Nj := some 39) #[true, true, true, true, true, true, false, false, true, true, true, false, false] #[true, true, true, true, false, true, true, false, true, true, true, false, false] rfl rfl rfl rfl (two_of HT_.out (by kernel_rfl)) (by decide) (by decide) (fun K hK => ?_) (fun K hK => ?_)
        · refine Kd.R_append_rows_step Kd.string (w0 := w) w.heap.size (by rfl) (.tmp 33) (.tmp 36) 40 9 (.string ⟨#[]⟩) 16 rfl Tryd.underlying40 info9 rfl (by decide) (by decide) v33 ([] : List ByteArray) (l.take l.length) A l.length c (fun _ => True) (fun _ => False) rfl rfl ?aO (readC (C_takeL (Kd.C_below HRC0.out HB.out) hk)) (fun _ _ h_ => h_) (fun _ hk => hk.elim) (fun _ _ => trivial) HB.out HB.out.size ?aL ?_
          (case aO => exact Kd.R_mono H33.out (fun _ _ => trivial))
          (case aL => exact bnd37 l l.length hl hk)
          intro v37 w37 ho hb hg hat
          clear HB H33
          have H37 := Aside0.mk ho
          have HB := Aside0.mk hb
          clear ho hb hg hat
          refine hK.out _ _ trivial (fun hHeld => ?_)
          clear hK K
          refine norm_ (a' := ?_) ?_ ?_
          rotate_left
          · show Act.put _ (some 37) _ = _
            simp only [Act.put, List.setIfInBounds_toArray, List.set_cons_zero, List.set_cons_succ, i64_w, i32_w]
            rfl
          refine one_ (i := 6) (N := some 39) #[true, true, true, true, true, true, true, false, true, true, true, false, false] rfl rfl (one_of HT_.out (by kernel_rfl)) (by decide) (fun K hK => ?_)
          refine Kd.R_lit_step Kd.string _ 9 ?hg (N := 39) ?hd (xs := ([s] : List ByteArray)) (inner := [.string s]) (ok := fun _ => True) (okp := fun _ => True) ?hr ?hp (fun _ hk => hk) trivial (Below.refl _ _) (Nat.le_refl _) (by simp) ?_; (case hd => rfl); (case hg => rfl); (case hr => first | (go_simp; done) | (go_simp; rfl)); (case hp => exact (Reps.one (show Kd.M Kd.string _ _ _ s [.string s] from rfl) (Reps.none _ _)))
          intro v39 w39 ho hb hg_ hnew_
          clear hg_ hnew_
          have n0_ := Aside0.mk (Kd.R_lower (Kd.R_new' ho (Kd.R_lt H37.out)) HB.out.size)
          have m_ := Aside0.mk (Kd.R_below H37.out hb)
          clear H37
          have H37 := m_
          clear m_
          have n1_ := Aside0.mk (below_step HB.out hb)
          clear HB ho hb
          have H39 := n0_
          have HB := n1_
          clear n0_ n1_
          refine hK.out _ _ trivial (fun hHeld => ?_)
          clear hK K
          refine norm_ (a' := ?_) ?_ ?_
          rotate_left
          · show Act.put _ (some 39) _ = _
            simp only [Act.put, List.setIfInBounds_toArray, List.set_cons_zero, List.set_cons_succ, i64_w, i32_w]
            rfl
          refine one_ (i := 7) (N := some 40) #[true, true, true, true, true, true, true, true, true, true, true, false, false] rfl rfl (one_of HT_.out (by kernel_rfl)) (by decide) (fun K hK => ?_)
          obtain ⟨A39, c39, e39⟩ := Kd.R_slice H39.out
          subst e39
          refine Kd.R_append_rows_step Kd.string (w0 := w) w.heap.size (by rfl) (.tmp 37) (.tmp 39) 40 9 (.string ⟨#[]⟩) 16 rfl Tryd.underlying40 info9 rfl (by decide) (by decide) v37 ([] ++ l.take l.length) [s] A39 1 c39 (fun _ => True) (fun _ => False) rfl rfl ?aO (readC (Kd.R_reads' H39.out).2.2) (fun _ _ h_ => h_) (fun _ hk => hk.elim) (fun _ _ => trivial) HB.out HB.out.size ?aL ?_
          (case aO => exact Kd.R_mono H37.out (fun _ _ => trivial))
          (case aL => exact bnd40 l l.length hl)
          intro v40 w40 ho hb hg hat
          clear HB H37 H39
          have H40 := Aside0.mk ho
          have HB := Aside0.mk hb
          clear ho hb hg hat
          refine hK.out _ _ trivial (fun hHeld => ?_)
          clear hK K
          refine norm_ (a' := ?_) ?_ ?_
          rotate_left
          · show Act.put _ (some 40) _ = _
            simp only [Act.put, List.setIfInBounds_toArray, List.set_cons_zero, List.set_cons_succ, i64_w, i32_w]
            rfl
          refine one_ (i := 11) (N := some 44) #[true, true, true, true, true, true, true, true, true, true, true, true, false] rfl rfl (one_of HT_.out (by kernel_rfl)) (by decide) (fun K hK => ?_)
          refine Kd.R_append_rows_step Kd.string (w0 := w) w.heap.size (by rfl) (.tmp 40) (.tmp 43) 40 9 (.string ⟨#[]⟩) 16 rfl Tryd.underlying40 info9 rfl (by decide) (by decide) v40 ([] ++ l.take l.length ++ [s]) (l.drop l.length) (if c = l.length then A else A.map (·.add l.length)) 0 (c - l.length) (fun _ => True) (fun _ => False) rfl rfl ?aO (readC (by have h_ := C_dropL (Kd.C_below HRC0.out HB.out) hk hc; rwa [Nat.sub_self] at h_)) (fun _ _ h_ => h_) (fun _ hk => hk.elim) (fun _ _ => trivial) HB.out HB.out.size ?aL ?_
          (case aO => exact Kd.R_mono H40.out (fun _ _ => trivial))
          (case aL => exact bnd44' l s l.length hl)
          intro v44 w44 ho hb hg hat
          clear HB H40
          have H44 := Aside0.mk ho
          have HB := Aside0.mk hb
          clear ho hb hg hat
          refine hK.out _ _ trivial (fun hHeld => ?_)
          clear hK K
          refine norm_ (a' := ?_) ?_ ?_
          rotate_left
          · show Act.put _ (some 44) _ = _
            simp only [Act.put, List.setIfInBounds_toArray, List.set_cons_zero, List.set_cons_succ, i64_w, i32_w]
            rfl
          refine pure_ (i := 12) (N := some 4) (v := ?_) (a' := ?_) #[true, true, true, true, true, true, true, true, true, true, true, true, true] rfl rfl (any_of HT_.out (by kernel_rfl)) (fun _ _ _ h => h) (Or.inl ⟨by rfl, ?_⟩) ?_ ?_
          rotate_left
          · intro w'
            go_simp
            with_reducible rfl
          rotate_left
          · simp only [Act.put, List.setIfInBounds_toArray, List.set_cons_zero, List.set_cons_succ, i64_w, i32_w]
            rfl
          refine done_ (done_of HT_.out (by kernel_rfl)) ?_
          try go_wp2
          all_goals go_ret
          all_goals exact ⟨_, rfl, Kd.R_lower (by have := H44.out; rw [HPUT.out]; exact this) hB, below_lower HB.out hB⟩
        · refine Kd.R_lit_step Kd.string _ 9 ?hg (N := 39) ?hd (xs := ([s] : List ByteArray)) (inner := [.string s]) (ok := fun _ => True) (okp := fun _ => True) ?hr ?hp (fun _ hk => hk) trivial (Below.refl _ _) (Nat.le_refl _) (by simp) ?_; (case hd => rfl); (case hg => rfl); (case hr => first | (go_simp; done) | (go_simp; rfl)); (case hp => exact (Reps.one (show Kd.M Kd.string _ _ _ s [.string s] from rfl) (Reps.none _ _)))
          intro v39 w39 ho hb hg_ hnew_
          clear hg_ hnew_
          have n0_ := Aside0.mk (Kd.R_lower (Kd.R_new' ho (Kd.R_lt H33.out)) HB.out.size)
          have m_ := Aside0.mk (Kd.R_below H33.out hb)
          clear H33
          have H33 := m_
          clear m_
          have n1_ := Aside0.mk (below_step HB.out hb)
          clear HB ho hb
          have H39 := n0_
          have HB := n1_
          clear n0_ n1_
          refine hK.out _ _ trivial (fun hHeld => ?_)
          clear hK K
          refine norm_ (a' := ?_) ?_ ?_
          rotate_left
          · show Act.put _ (some 39) _ = _
            simp only [Act.put, List.setIfInBounds_toArray, List.set_cons_zero, List.set_cons_succ, i64_w, i32_w]
            rfl
          refine one_ (i := 4) (N := some 37) #[true, true, true, true, true, true, true, false, true, true, true, false, false] rfl rfl (one_of HT_.out (by kernel_rfl)) (by decide) (fun K hK => ?_)
          refine Kd.R_append_rows_step Kd.string (w0 := w) w.heap.size (by rfl) (.tmp 33) (.tmp 36) 40 9 (.string ⟨#[]⟩) 16 rfl Tryd.underlying40 info9 rfl (by decide) (by decide) v33 ([] : List ByteArray) (l.take l.length) A l.length c (fun _ => True) (fun _ => False) rfl rfl ?aO (readC (C_takeL (Kd.C_below HRC0.out HB.out) hk)) (fun _ _ h_ => h_) (fun _ hk => hk.elim) (fun _ _ => trivial) HB.out HB.out.size ?aL ?_
          (case aO => exact Kd.R_mono H33.out (fun _ _ => trivial))
          (case aL => exact bnd37 l l.length hl hk)
          intro v37 w37 ho hb hg hat
          have m_ := Aside0.mk (Kd.R_after (ok := (fun _ => True)) (Kd.R_mono H39.out (fun _ h_ => ⟨trivial, h_.2⟩)) hg hat)
          clear H39
          have H39 := m_
          clear m_
          clear HB H33
          have H37 := Aside0.mk ho
          have HB := Aside0.mk hb
          clear ho hb hg hat
          refine hK.out _ _ trivial (fun hHeld => ?_)
          clear hK K
          refine norm_ (a' := ?_) ?_ ?_
          rotate_left
          · show Act.put _ (some 37) _ = _
            simp only [Act.put, List.setIfInBounds_toArray, List.set_cons_zero, List.set_cons_succ, i64_w, i32_w]
            rfl
          refine one_ (i := 7) (N := some 40) #[true, true, true, true, true, true, true, true, true, true, true, false, false] rfl rfl (one_of HT_.out (by kernel_rfl)) (by decide) (fun K hK => ?_)
          obtain ⟨A39, c39, e39⟩ := Kd.R_slice H39.out
          subst e39
          refine Kd.R_append_rows_step Kd.string (w0 := w) w.heap.size (by rfl) (.tmp 37) (.tmp 39) 40 9 (.string ⟨#[]⟩) 16 rfl Tryd.underlying40 info9 rfl (by decide) (by decide) v37 ([] ++ l.take l.length) [s] A39 1 c39 (fun _ => True) (fun _ => False) rfl rfl ?aO (readC (Kd.R_reads' H39.out).2.2) (fun _ _ h_ => h_) (fun _ hk => hk.elim) (fun _ _ => trivial) HB.out HB.out.size ?aL ?_
          (case aO => exact Kd.R_mono H37.out (fun _ _ => trivial))
          (case aL => exact bnd40 l l.length hl)
          intro v40 w40 ho hb hg hat
          clear HB H37 H39
          have H40 := Aside0.mk ho
          have HB := Aside0.mk hb
          clear ho hb hg hat
          refine hK.out _ _ trivial (fun hHeld => ?_)
          clear hK K
          refine norm_ (a' := ?_) ?_ ?_
          rotate_left
          · show Act.put _ (some 40) _ = _
            simp only [Act.put, List.setIfInBounds_toArray, List.set_cons_zero, List.set_cons_succ, i64_w, i32_w]
            rfl
          refine one_ (i := 11) (N := some 44) #[true, true, true, true, true, true, true, true, true, true, true, true, false] rfl rfl (one_of HT_.out (by kernel_rfl)) (by decide) (fun K hK => ?_)
          refine Kd.R_append_rows_step Kd.string (w0 := w) w.heap.size (by rfl) (.tmp 40) (.tmp 43) 40 9 (.string ⟨#[]⟩) 16 rfl Tryd.underlying40 info9 rfl (by decide) (by decide) v40 ([] ++ l.take l.length ++ [s]) (l.drop l.length) (if c = l.length then A else A.map (·.add l.length)) 0 (c - l.length) (fun _ => True) (fun _ => False) rfl rfl ?aO (readC (by have h_ := C_dropL (Kd.C_below HRC0.out HB.out) hk hc; rwa [Nat.sub_self] at h_)) (fun _ _ h_ => h_) (fun _ hk => hk.elim) (fun _ _ => trivial) HB.out HB.out.size ?aL ?_
          (case aO => exact Kd.R_mono H40.out (fun _ _ => trivial))
          (case aL => exact bnd44' l s l.length hl)
          intro v44 w44 ho hb hg hat
          clear HB H40
          have H44 := Aside0.mk ho
          have HB := Aside0.mk hb
          clear ho hb hg hat
          refine hK.out _ _ trivial (fun hHeld => ?_)
          clear hK K
          refine norm_ (a' := ?_) ?_ ?_
          rotate_left
          · show Act.put _ (some 44) _ = _
            simp only [Act.put, List.setIfInBounds_toArray, List.set_cons_zero, List.set_cons_succ, i64_w, i32_w]
            rfl
          refine pure_ (i := 12) (N := some 4) (v := ?_) (a' := ?_) #[true, true, true, true, true, true, true, true, true, true, true, true, true] rfl rfl (any_of HT_.out (by kernel_rfl)) (fun _ _ _ h => h) (Or.inl ⟨by rfl, ?_⟩) ?_ ?_
          rotate_left
          · intro w'
            go_simp
            with_reducible rfl
          rotate_left
          · simp only [Act.put, List.setIfInBounds_toArray, List.set_cons_zero, List.set_cons_succ, i64_w, i32_w]
            rfl
          refine done_ (done_of HT_.out (by kernel_rfl)) ?_
          try go_wp2
          all_goals go_ret
          all_goals exact ⟨_, rfl, Kd.R_lower (by have := H44.out; rw [HPUT.out]; exact this) hB, below_lower HB.out hB⟩
      · refine Kd.R_lit_step Kd.string _ 9 ?hg (N := 39) ?hd (xs := ([s] : List ByteArray)) (inner := [.string s]) (ok := fun _ => True) (okp := fun _ => True) ?hr ?hp (fun _ hk => hk) trivial (Below.refl _ _) (Nat.le_refl _) (by simp) ?_; (case hd => rfl); (case hg => rfl); (case hr => first | (go_simp; done) | (go_simp; rfl)); (case hp => exact (Reps.one (show Kd.M Kd.string _ _ _ s [.string s] from rfl) (Reps.none _ _)))
        intro v39 w39 ho hb hg_ hnew_
        clear hg_ hnew_
        have n0_ := Aside0.mk (Kd.R_lower ho HB.out.size)
        have n1_ := Aside0.mk (below_step HB.out hb)
        clear HB ho hb
        have H39 := n0_
        have HB := n1_
        clear n0_ n1_
        refine hK.out _ _ trivial (fun hHeld => ?_)
        clear hK K
        refine norm_ (a' := ?_) ?_ ?_
        rotate_left
        · show Act.put _ (some 39) _ = _
          simp only [Act.put, List.setIfInBounds_toArray, List.set_cons_zero, List.set_cons_succ, i64_w, i32_w]
          rfl
        refine one_ (i := 0) (N := some 33) #[true, true, true, true, false, true, true, false, true, true, true, false, false] rfl rfl (one_of HT_.out (by kernel_rfl)) (by decide) (fun K hK => ?_)
        refine Kd.R_lit_step Kd.string _ 9 ?hg (N := 33) ?hd (xs := ([] : List ByteArray)) (inner := []) (ok := fun _ => True) (okp := fun _ => True) ?hr ?hp (fun _ hk => hk) trivial (Below.refl _ _) (Nat.le_refl _) (by simp) ?_; (case hd => rfl); (case hg => rfl); (case hr => first | (go_simp; done) | (go_simp; rfl)); (case hp => exact (Reps.none _ _))
        intro v33 w33 ho hb hg_ hnew_
        clear hg_ hnew_
        have m_ := Aside0.mk (Kd.R_elder' (Kd.R_mono H39.out (fun _ _ => trivial)) (Kd.R_base ho) hb)
        clear H39
        have H39 := m_
        clear m_
        have n0_ := Aside0.mk (Kd.R_lower ho HB.out.size)
        have n1_ := Aside0.mk (below_step HB.out hb)
        clear HB ho hb
        have H33 := n0_
        have HB := n1_
        clear n0_ n1_
        refine hK.out _ _ trivial (fun hHeld => ?_)
        clear hK K
        refine norm_ (a' := ?_) ?_ ?_
        rotate_left
        · show Act.put _ (some 33) _ = _
          simp only [Act.put, List.setIfInBounds_toArray, List.set_cons_zero, List.set_cons_succ, i64_w, i32_w]
          rfl
        refine one_ (i := 4) (N := some 37) #[true, true, true, true, true, true, true, false, true, true, true, false, false] rfl rfl (one_of HT_.out (by kernel_rfl)) (by decide) (fun K hK => ?_)
        refine Kd.R_append_rows_step Kd.string (w0 := w) w.heap.size (by rfl) (.tmp 33) (.tmp 36) 40 9 (.string ⟨#[]⟩) 16 rfl Tryd.underlying40 info9 rfl (by decide) (by decide) v33 ([] : List ByteArray) (l.take l.length) A l.length c (fun _ => True) (fun _ => False) rfl rfl ?aO (readC (C_takeL (Kd.C_below HRC0.out HB.out) hk)) (fun _ _ h_ => h_) (fun _ hk => hk.elim) (fun _ _ => trivial) HB.out HB.out.size ?aL ?_
        (case aO => exact Kd.R_mono H33.out (fun _ _ => trivial))
        (case aL => exact bnd37 l l.length hl hk)
        intro v37 w37 ho hb hg hat
        have m_ := Aside0.mk (Kd.R_after (ok := (fun _ => True)) (Kd.R_mono H39.out (fun _ h_ => ⟨trivial, h_.2⟩)) hg hat)
        clear H39
        have H39 := m_
        clear m_
        clear HB H33
        have H37 := Aside0.mk ho
        have HB := Aside0.mk hb
        clear ho hb hg hat
        refine hK.out _ _ trivial (fun hHeld => ?_)
        clear hK K
        refine norm_ (a' := ?_) ?_ ?_
        rotate_left
        · show Act.put _ (some 37) _ = _
          simp only [Act.put, List.setIfInBounds_toArray, List.set_cons_zero, List.set_cons_succ, i64_w, i32_w]
          rfl
        refine one_ (i := 7) (N := some 40) #[true, true, true, true, true, true, true, true, true, true, true, false, false] rfl rfl (one_of HT_.out (by kernel_rfl)) (by decide) (fun K hK => ?_)
        obtain ⟨A39, c39, e39⟩ := Kd.R_slice H39.out
        subst e39
        refine Kd.R_append_rows_step Kd.string (w0 := w) w.heap.size (by rfl) (.tmp 37) (.tmp 39) 40 9 (.string ⟨#[]⟩) 16 rfl Tryd.underlying40 info9 rfl (by decide) (by decide) v37 ([] ++ l.take l.length) [s] A39 1 c39 (fun _ => True) (fun _ => False) rfl rfl ?aO (readC (Kd.R_reads' H39.out).2.2) (fun _ _ h_ => h_) (fun _ hk => hk.elim) (fun _ _ => trivial) HB.out HB.out.size ?aL ?_
        (case aO => exact Kd.R_mono H37.out (fun _ _ => trivial))
        (case aL => exact bnd40 l l.length hl)
        intro v40 w40 ho hb hg hat
        clear HB H37 H39
        have H40 := Aside0.mk ho
        have HB := Aside0.mk hb
        clear ho hb hg hat
        refine hK.out _ _ trivial (fun hHeld => ?_)
        clear hK K
        refine norm_ (a' := ?_) ?_ ?_
        rotate_left
        · show Act.put _ (some 40) _ = _
          simp only [Act.put, List.setIfInBounds_toArray, List.set_cons_zero, List.set_cons_succ, i64_w, i32_w]
          rfl
        refine one_ (i := 11) (N := some 44) #[true, true, true, true, true, true, true, true, true, true, true, true, false] rfl rfl (one_of HT_.out (by kernel_rfl)) (by decide) (fun K hK => ?_)
        refine Kd.R_append_rows_step Kd.string (w0 := w) w.heap.size (by rfl) (.tmp 40) (.tmp 43) 40 9 (.string ⟨#[]⟩) 16 rfl Tryd.underlying40 info9 rfl (by decide) (by decide) v40 ([] ++ l.take l.length ++ [s]) (l.drop l.length) (if c = l.length then A else A.map (·.add l.length)) 0 (c - l.length) (fun _ => True) (fun _ => False) rfl rfl ?aO (readC (by have h_ := C_dropL (Kd.C_below HRC0.out HB.out) hk hc; rwa [Nat.sub_self] at h_)) (fun _ _ h_ => h_) (fun _ hk => hk.elim) (fun _ _ => trivial) HB.out HB.out.size ?aL ?_
        (case aO => exact Kd.R_mono H40.out (fun _ _ => trivial))
        (case aL => exact bnd44' l s l.length hl)
        intro v44 w44 ho hb hg hat
        clear HB H40
        have H44 := Aside0.mk ho
        have HB := Aside0.mk hb
        clear ho hb hg hat
        refine hK.out _ _ trivial (fun hHeld => ?_)
        clear hK K
        refine norm_ (a' := ?_) ?_ ?_
        rotate_left
        · show Act.put _ (some 44) _ = _
          simp only [Act.put, List.setIfInBounds_toArray, List.set_cons_zero, List.set_cons_succ, i64_w, i32_w]
          rfl
        refine pure_ (i := 12) (N := some 4) (v := ?_) (a' := ?_) #[true, true, true, true, true, true, true, true, true, true, true, true, true] rfl rfl (any_of HT_.out (by kernel_rfl)) (fun _ _ _ h => h) (Or.inl ⟨by rfl, ?_⟩) ?_ ?_
        rotate_left
        · intro w'
          go_simp
          with_reducible rfl
        rotate_left
        · simp only [Act.put, List.setIfInBounds_toArray, List.set_cons_zero, List.set_cons_succ, i64_w, i32_w]
          rfl
        refine done_ (done_of HT_.out (by kernel_rfl)) ?_
        try go_wp2
        all_goals go_ret
        all_goals exact ⟨_, rfl, Kd.R_lower (by have := H44.out; rw [HPUT.out]; exact this) hB, below_lower HB.out hB⟩
end Go.Proofs.YtopmcoohdhlnaaaDoor.G
/- The reference's Shorter and Longer: all words that come of a word by one letter less, or by one letter more, in byte order, each once. The steps of the regions that draw their order were printed by a program of this session. -/
namespace Go.Proofs.YtopmcoohdhlnaaaDoor.G
open Go.RowKit Go.Lib Go.Proofs.YtopmcoohdhlnaaaDoorW.PrintWords Go.Proofs.YtopmcoohdhlnaaaDoorW.PrintLast Go.Proofs.YtopmcoohdhlnaaaDoorW.PrintMore
attribute [local go_sem] max2_int min2_int max_two min_two max_three min_three max_four min_four
set_option linter.unusedVariables false
set_option linter.unusedSimpArgs false
/-- Words put into a list, one after the other. -/
def putAll (l : List ByteArray) : List ByteArray := l.foldl putL []
theorem putAll_snoc (l : List ByteArray) (x : ByteArray) : putAll (l ++ [x]) = putL (putAll l) x := by simp [putAll]
theorem putAll_length (l : List ByteArray) : (putAll l).length ≤ l.length := by
  have : ∀ (l acc : List ByteArray), (l.foldl putL acc).length ≤ acc.length + l.length := by
    intro l
    induction l with
    | nil => intro acc; simp
    | cons x r ih => intro acc; have h1 := ih (putL acc x); have h2 := putL_length acc x; simp only [List.foldl_cons, List.length_cons]; omega
  simpa [putAll] using this l []
/-- A word without its letter k. -/
def delAt (x : ByteArray) (k : Nat) : ByteArray := x.extract 0 k ++ x.extract (k + 1) x.size
def delAll (x : ByteArray) (n : Nat) : List ByteArray := (List.range n).map (delAt x)
theorem delAll_succ (x : ByteArray) (n : Nat) : delAll x (n + 1) = delAll x n ++ [delAt x n] := by simp [delAll, List.range_succ]
theorem delAll_length (x : ByteArray) (n : Nat) : (delAll x n).length = n := by simp [delAll]
/-- A word with letter c of 0123 put in behind its first k. -/
def putAt (x : ByteArray) (k c : Nat) : ByteArray := x.extract 0 k ++ (⟨#[48, 49, 50, 51]⟩ : ByteArray).extract c (c + 1) ++ x.extract k x.size
def putsTo (x : ByteArray) (k q : Nat) : List ByteArray := (List.range q).map (putAt x k)
def putsAll (x : ByteArray) (q n : Nat) : List ByteArray := (List.range n).flatMap fun k => putsTo x k q
theorem putsTo_succ (x : ByteArray) (k q : Nat) : putsTo x k (q + 1) = putsTo x k q ++ [putAt x k q] := by simp [putsTo, List.range_succ]
theorem putsAll_succ (x : ByteArray) (q n : Nat) : putsAll x q (n + 1) = putsAll x q n ++ putsTo x n q := by simp [putsAll, List.range_succ]
theorem putsAll_length (x : ByteArray) (q n : Nat) : (putsAll x q n).length = n * q := by
  induction n with
  | zero => simp [putsAll]
  | succ n ih => rw [putsAll_succ, List.length_append, ih]; simp [putsTo, Nat.add_mul]
def pritchelref09_Shorter.T5 : Bool × List (List Nat × List Nat) := (true, [([], []), ([], []), ([], []), ([1, 2], [1, 2]), ([], []), ([], []), ([5], [5]), ([4, 6], [4, 6]), ([3, 7], [3, 7]), ([0, 8], [0, 8]), ([9, 9, 0, 1, 2, 3, 4, 5, 6, 7, 8, 9], [0, 9])])
def pritchelref09_Shorter.B5 : List Nat := [0, 0, 0, 6, 0, 0, 32, 112, 254, 511, 1023]
theorem pritchelref09_Shorter.tab5 : rtab .any (opsOf Tryd.f37 5) = pritchelref09_Shorter.T5 := by kernel_rfl
theorem pritchelref09_Shorter.bits5 : waitsOk pritchelref09_Shorter.T5.2 pritchelref09_Shorter.B5 = true := by kernel_rfl

theorem wrapOne (k m : Nat) (hm : m ≤ 1000000) (h : k + 1 ≤ m) : ∃ j : Int, wrap64 ((k : Int) + 1) = j ∧ IntKind.i64.wrap ((k : Int) + 1) = j ∧ (0 ≤ j) = True ∧ decide (0 ≤ j) = true ∧ (j ≤ (m : Int)) = True ∧ decide (j ≤ (m : Int)) = true ∧ j.toNat = k + 1 ∧ ((k : Int) ≤ j) = True ∧ decide ((k : Int) ≤ j) = true ∧ (0 ≤ (k : Int)) = True := by
  have e : wrap64 ((k : Int) + 1) = (k : Int) + 1 := by unfold wrap64; omega
  exact ⟨(k : Int) + 1, e, (i64_w _).trans e, eq_true (by omega), by simp; omega, eq_true (by omega), by simp; omega, by omega, eq_true (by omega), by simp; omega, eq_true (by omega)⟩
/-! ### pritchelref09_Shorter: function 37 -/
def pritchelref09_Shorter.f (a0 : ByteArray) : Option (List ByteArray) := if a0.size ≤ 1000 then some (putAll (delAll a0 a0.size)) else none
set_option maxHeartbeats 2000000 in
set_option maxRecDepth 100000 in
theorem pritchelref09_Shorter.calls (a0 : ByteArray) (r : List ByteArray) (w : World) (h : pritchelref09_Shorter.f a0 = some r) :
    Calls Tryd.prog 37 #[.string a0] w fun e w' => ∃ v0_ : Value, e = .returned (v0_) ∧ Kd.R Kd.string 9 w' w.heap.size (fun _ => True) v0_ r ∧ Below w.heap.size w w' := by
  unfold pritchelref09_Shorter.f at h
  split at h
  case isFalse => cases h
  case isTrue hsz =>
  obtain rfl := Option.some.inj h
  clear h
  go_enter Tryd.func37, Tryd.ntmps37
  go_wp2_with (first | ((with_reducible refine gate_dst (N := 5) rfl ?_); refine Kd.R_lit Kd.string _ 9 ?hg (N := 5) ?hd (xs := ([] : List ByteArray)) (inner := []) (ok := fun _ => True) (okp := fun _ => True) ?hr ?hp (fun _ hk => hk) trivial (Below.refl _ _) (Nat.le_refl _) (by simp) ?_; (case hd => rfl); (case hg => rfl); (case hr => first | (go_simp; done) | (go_simp; rfl)); (case hp => exact (Reps.none _ _)); intro v9 w4 ho hb hg_ hnew_; clear hg_ hnew_; have HO := Aside0.mk ho; have HB := Aside0.mk hb; clear ho hb))
  go_loopw [3, 4] (fun v i wr => ∃ k : Nat, k ≤ a0.size ∧ i = .int .i64 k ∧ Aside0 (Kd.R Kd.string 9 wr w.heap.size (fun _ => True) v (putAll (delAll a0 k))) ∧ Aside0 (Below w.heap.size w wr)) (fun _ i _ => a0.size - (Go.RowKit.intOf i).toNat)
  case atStart => exact ⟨0, Nat.zero_le _, rfl, HO, HB⟩
  case round =>
    clear HO HB
    obtain ⟨k, hk, rfl, HO, HB⟩ := hrel
    by_cases hlt : k < a0.size
    · have LEN := Aside0.mk (show (putAll (delAll a0 k)).length ≤ 1000000 from by have := putAll_length (delAll a0 k); rw [delAll_length] at this; omega)
      have hdec : decide ((k : Int) < (a0.size : Int)) = true := by simp; omega
      have hk1 : k + 1 ≤ a0.size := by omega
      have hs1 : (a0.extract 0 k).size = k := by rw [ByteArray.size_extract]; omega
      have hs2 : (a0.extract (k + 1) a0.size).size = a0.size - (k + 1) := by rw [ByteArray.size_extract]; omega
      have hsum : (9223372036854775807 < (a0.extract 0 k).size + (a0.extract (k + 1) a0.size).size) = False := eq_false (by rw [hs1, hs2]; omega)
      have hsum2 : (9223372036854775807 < k + (a0.size - (k + 1))) = False := eq_false (by omega)
      have hsum3 : (9223372036854775807 < (a0.extract 0 k).size + (a0.extract (k + 1) a0.size).size) = False := hsum
      clear hs1 hs2
      obtain ⟨j, hj, hjw, hj0, hj0b, hj1, hj1b, hjn, hj2, hj2b, hj3⟩ := wrapOne k a0.size (by omega) hk1
      try go_wp2
      have n0_ := Aside0.mk (Kd.R_drew HO.out)
      have n1_ := Aside0.mk (below_drew1 HB.out)
      clear HO HB
      have HO := n0_
      have HB := n1_
      clear n0_ n1_
      refine start_ (n := 11) (S := fun w' => True) (ds := []) #[false, false, false, false, false, false, false, false, false, false, false] (by kernel_rfl) rfl rfl trivial (fun hHeld => ?_); refine with_tabW pritchelref09_Shorter.tab5 pritchelref09_Shorter.bits5 (fun HT_ HW_ => ?_)
      generalize wr.drew = w10 at HO HB hHeld ⊢
      refine pure_ (i := 0) (N := some 12) (v := ?_) (a' := ?_) #[true, false, false, false, false, false, false, false, false, false, false] rfl rfl (any_of HT_.out (by kernel_rfl)) (fun _ _ _ h => h) (Or.inl ⟨by rfl, ?_⟩) ?_ ?_
      rotate_left
      · intro w'
        go_simp
        with_reducible rfl
      rotate_left
      · simp only [Act.put, List.setIfInBounds_toArray, List.set_cons_zero, List.set_cons_succ, i64_w, i32_w]
        rfl
      refine pure_ (i := 1) (N := some 13) (v := ?_) (a' := ?_) #[true, true, false, false, false, false, false, false, false, false, false] rfl rfl (any_of HT_.out (by kernel_rfl)) (fun _ _ _ h => h) (Or.inl ⟨by rfl, ?_⟩) ?_ ?_
      rotate_left
      · intro w'
        go_simp
        with_reducible rfl
      rotate_left
      · simp only [Act.put, List.setIfInBounds_toArray, List.set_cons_zero, List.set_cons_succ, i64_w, i32_w]
        rfl
      refine pure_ (i := 2) (N := some 14) (v := ?_) (a' := ?_) #[true, true, true, false, false, false, false, false, false, false, false] rfl rfl (any_of HT_.out (by kernel_rfl)) (fun _ _ _ h => h) (Or.inl ⟨by rfl, ?_⟩) ?_ ?_
      rotate_left
      · intro w'
        go_simp
        with_reducible rfl
      rotate_left
      · simp only [Act.put, List.setIfInBounds_toArray, List.set_cons_zero, List.set_cons_succ, i64_w, i32_w]
        rfl
      refine pure_ (i := 3) (N := some 15) (v := ?_) (a' := ?_) #[true, true, true, true, false, false, false, false, false, false, false] rfl rfl (any_of HT_.out (by kernel_rfl)) (fun _ _ _ h => h) (Or.inl ⟨by rfl, ?_⟩) ?_ ?_
      rotate_left
      · intro w'
        go_simp
        with_reducible rfl
      rotate_left
      · simp only [Act.put, List.setIfInBounds_toArray, List.set_cons_zero, List.set_cons_succ, i64_w, i32_w]
        rfl
      refine pure_ (i := 4) (N := some 16) (v := ?_) (a' := ?_) #[true, true, true, true, true, false, false, false, false, false, false] rfl rfl (any_of HT_.out (by kernel_rfl)) (fun _ _ _ h => h) (Or.inl ⟨by rfl, ?_⟩) ?_ ?_
      rotate_left
      · intro w'
        go_simp
        with_reducible rfl
      rotate_left
      · simp only [Act.put, List.setIfInBounds_toArray, List.set_cons_zero, List.set_cons_succ, i64_w, i32_w]
        rfl
      refine pure_ (i := 5) (N := some 17) (v := ?_) (a' := ?_) #[true, true, true, true, true, true, false, false, false, false, false] rfl rfl (any_of HT_.out (by kernel_rfl)) (fun _ _ _ h => h) (Or.inl ⟨by rfl, ?_⟩) ?_ ?_
      rotate_left
      · intro w'
        go_simp
        with_reducible rfl
      rotate_left
      · simp only [Act.put, List.setIfInBounds_toArray, List.set_cons_zero, List.set_cons_succ, i64_w, i32_w]
        rfl
      refine pure_ (i := 6) (N := some 18) (v := ?_) (a' := ?_) #[true, true, true, true, true, true, true, false, false, false, false] rfl rfl (any_of HT_.out (by kernel_rfl)) (fun _ _ _ h => h) (Or.inl ⟨by rfl, ?_⟩) ?_ ?_
      rotate_left
      · intro w'
        go_simp
        with_reducible rfl
      rotate_left
      · simp only [Act.put, List.setIfInBounds_toArray, List.set_cons_zero, List.set_cons_succ, i64_w, i32_w]
        rfl
      refine pure_ (i := 7) (N := some 19) (v := ?_) (a' := ?_) #[true, true, true, true, true, true, true, true, false, false, false] rfl rfl (any_of HT_.out (by kernel_rfl)) (fun _ _ _ h => h) (Or.inl ⟨by rfl, ?_⟩) ?_ ?_
      rotate_left
      · intro w'
        go_simp
        with_reducible rfl
      rotate_left
      · simp only [Act.put, List.setIfInBounds_toArray, List.set_cons_zero, List.set_cons_succ, i64_w, i32_w]
        rfl
      refine pure_ (i := 8) (N := some 20) (v := ?_) (a' := ?_) #[true, true, true, true, true, true, true, true, true, false, false] rfl rfl (any_of HT_.out (by kernel_rfl)) (fun _ _ _ h => h) (Or.inl ⟨by rfl, ?_⟩) ?_ ?_
      rotate_left
      · intro w'
        go_simp
        with_reducible rfl
      rotate_left
      · simp only [Act.put, List.setIfInBounds_toArray, List.set_cons_zero, List.set_cons_succ, i64_w, i32_w]
        rfl
      refine one_ (i := 9) (N := some 21) #[true, true, true, true, true, true, true, true, true, true, false] rfl rfl (one_of HT_.out (by kernel_rfl)) (by decide) (fun K hK => ?_)
      refine goes_ Tryd.func51 (by kernel_rfl) rfl #[u3, .string (delAt a0 k)] (by rfl) rfl rfl (by (try simp only [List.map_toArray, List.map_cons, List.map_nil]); first | done | rfl) ?_
      refine (put_calls u3 (putAll (delAll a0 k)) (delAt a0 k) w.heap.size _ HO.out LEN.out HB.out.size).mono ?_
      rintro e w14 ⟨v14, rfl, ho, hb⟩
      refine ⟨_, rfl, ?_⟩
      have n1_ := Aside0.mk (HB.out.trans hb)
      clear HO HB hb
      have HO := Aside0.mk ho
      have HB := n1_
      clear n1_ ho
      refine hK.out _ _ trivial (fun hHeld => ?_)
      clear hK K
      refine norm_ (a' := ?_) ?_ ?_
      rotate_left
      · show Act.put _ (some 21) _ = _
        simp only [Act.put, List.setIfInBounds_toArray, List.set_cons_zero, List.set_cons_succ, i64_w, i32_w]
        rfl
      refine pure_ (i := 10) (N := some 3) (v := ?_) (a' := ?_) #[true, true, true, true, true, true, true, true, true, true, true] rfl rfl (any_of HT_.out (by kernel_rfl)) (fun _ _ _ h => h) (Or.inl ⟨by rfl, ?_⟩) ?_ ?_
      rotate_left
      · intro w'
        go_simp
        with_reducible rfl
      rotate_left
      · simp only [Act.put, List.setIfInBounds_toArray, List.set_cons_zero, List.set_cons_succ, i64_w, i32_w]
        rfl
      refine done_ (done_of HT_.out (by kernel_rfl)) ?_
      try go_wp2
      go_roundw
      case rel => exact ⟨k + 1, by omega, by go_num, ⟨by rw [delAll_succ, putAll_snoc]; exact HO.out⟩, HB⟩
      case measure => simp [Go.RowKit.intOf]; omega
    · obtain rfl : k = a0.size := by omega
      go_wp2
      go_ret
      exact ⟨_, rfl, HO.out, HB.out⟩
def pritchelref09_Longer.T8 : Bool × List (List Nat × List Nat) := (true, [([], []), ([], []), ([], []), ([1, 2], [1, 2]), ([], []), ([], []), ([5], [5]), ([4, 6], [4, 6]), ([3, 7], [3, 7]), ([], []), ([], []), ([9, 10], [9, 10]), ([8, 11], [8, 11]), ([0, 12], [0, 12]), ([13, 13, 0, 1, 2, 3, 4, 5, 6, 7, 8, 9, 10, 11, 12, 13], [0, 13])])
def pritchelref09_Longer.B8 : List Nat := [0, 0, 0, 6, 0, 0, 32, 112, 254, 0, 0, 1536, 4094, 8191, 16383]
theorem pritchelref09_Longer.tab8 : rtab .any (opsOf Tryd.f36 8) = pritchelref09_Longer.T8 := by kernel_rfl
theorem pritchelref09_Longer.bits8 : waitsOk pritchelref09_Longer.T8.2 pritchelref09_Longer.B8 = true := by kernel_rfl

/-! ### pritchelref09_Longer: function 36 -/
def pritchelref09_Longer.f (a0 : ByteArray) (a1 : Int) : Option (List ByteArray) := if a0.size ≤ 1000 ∧ 0 ≤ a1 ∧ a1 ≤ 4 then some (putAll (putsAll a0 a1.toNat (a0.size + 1))) else none
theorem puts_len (x : ByteArray) (k q c : Nat) (hk : k ≤ 1001) (hq : q ≤ 4) (hc : c ≤ q) : (putAll (putsAll x q k ++ putsTo x k c)).length ≤ 1000000 := by
  have h := putAll_length (putsAll x q k ++ putsTo x k c)
  rw [List.length_append, putsAll_length] at h
  have : (putsTo x k c).length = c := by simp [putsTo]
  have h2 : k * q ≤ 1001 * 4 := Nat.mul_le_mul hk hq
  omega
set_option maxHeartbeats 2000000 in
set_option maxRecDepth 100000 in
theorem pritchelref09_Longer.calls (a0 : ByteArray) (a1 : Int) (r : List ByteArray) (w : World) (h : pritchelref09_Longer.f a0 a1 = some r) :
    Calls Tryd.prog 36 #[.string a0, .int .i64 a1] w fun e w' => ∃ v0_ : Value, e = .returned (v0_) ∧ Kd.R Kd.string 9 w' w.heap.size (fun _ => True) v0_ r ∧ Below w.heap.size w w' := by
  unfold pritchelref09_Longer.f at h
  split at h
  case isFalse => cases h
  case isTrue hg =>
  obtain ⟨hsz, hq0, hq4⟩ := hg
  obtain rfl := Option.some.inj h
  clear h
  obtain ⟨q, rfl⟩ := Int.eq_ofNat_of_zero_le hq0
  rw [Int.toNat_natCast]
  have hq : q ≤ 4 := by omega
  clear hq0 hq4
  go_enter Tryd.func36, Tryd.ntmps36
  go_wp2_with (first | ((with_reducible refine gate_dst (N := 8) rfl ?_); refine Kd.R_lit Kd.string _ 9 ?hg (N := 8) ?hd (xs := ([] : List ByteArray)) (inner := []) (ok := fun _ => True) (okp := fun _ => True) ?hr ?hp (fun _ hk => hk) trivial (Below.refl _ _) (Nat.le_refl _) (by simp) ?_; (case hd => rfl); (case hg => rfl); (case hr => first | (go_simp; done) | (go_simp; rfl)); (case hp => exact (Reps.none _ _)); intro v9 w4 ho hb hg_ hnew_; clear hg_ hnew_; have HO := Aside0.mk ho; have HB := Aside0.mk hb; clear ho hb))
  go_loopw [5, 6] (fun v i wr => ∃ k : Nat, k ≤ a0.size + 1 ∧ i = .int .i64 k ∧ Aside0 (Kd.R Kd.string 9 wr w.heap.size (fun _ => True) v (putAll (putsAll a0 q k))) ∧ Aside0 (Below w.heap.size w wr)) (fun _ i _ => a0.size + 1 - (Go.RowKit.intOf i).toNat)
  case atStart => exact ⟨0, Nat.zero_le _, rfl, HO, HB⟩
  case round =>
    clear HO HB
    obtain ⟨k, hk, rfl, HO, HB⟩ := hrel
    by_cases hlt : k ≤ a0.size
    · have hdec : decide ((k : Int) ≤ (a0.size : Int)) = true := by simp; omega
      go_wp2
      obtain ⟨wo, rfl⟩ : ∃ wo : World, wo = wr := ⟨_, rfl⟩
      go_loopw [5, 7] (fun v i wr => ∃ c : Nat, c ≤ q ∧ i = .int .i64 c ∧ Aside0 (Kd.R Kd.string 9 wr w.heap.size (fun _ => True) v (putAll (putsAll a0 q k ++ putsTo a0 k c))) ∧ Aside0 (Below w.heap.size w wr)) (fun _ i _ => q - (Go.RowKit.intOf i).toNat)
      case atStart => exact ⟨0, Nat.zero_le _, rfl, ⟨by simpa [putsTo] using HO.out⟩, HB⟩
      case round =>
        clear HO HB
        obtain ⟨c, hc, rfl, HO, HB⟩ := hrel
        by_cases hcq : c < q
        · have LEN := Aside0.mk (puts_len a0 k q c (by omega) hq hc)
          have hdec2 : decide ((c : Int) < (q : Int)) = true := by simp; omega
          have hc4 : c + 1 ≤ 4 := by omega
          have hs1 : (a0.extract 0 k).size = k := by rw [ByteArray.size_extract]; omega
          have hs2 : (a0.extract k a0.size).size = a0.size - k := by rw [ByteArray.size_extract]; omega
          have hs3 : ((⟨#[48, 49, 50, 51]⟩ : ByteArray).extract c (c + 1)).size = 1 := by rw [ByteArray.size_extract]; show min (c + 1) 4 - c = 1; omega
          have hsum : (9223372036854775807 < (a0.extract 0 k).size + ((⟨#[48, 49, 50, 51]⟩ : ByteArray).extract c (c + 1)).size) = False := eq_false (by rw [hs1, hs3]; omega)
          have hsum2 : (9223372036854775807 < k + 1) = False := eq_false (by omega)
          have hsum3 : (9223372036854775807 < (a0.extract 0 k ++ (⟨#[48, 49, 50, 51]⟩ : ByteArray).extract c (c + 1)).size + (a0.extract k a0.size).size) = False := eq_false (by rw [ByteArray.size_append, hs1, hs2, hs3]; omega)
          have hsum4 : (9223372036854775807 < k + 1 + (a0.size - k)) = False := eq_false (by omega)
          clear hs1 hs2 hs3
          obtain ⟨j, hj, hjw, hj0, hj0b, hj1, hj1b, hjn, hj2, hj2b, hj3⟩ := wrapOne c 4 (by omega) hc4
          replace hj1 : (j ≤ 4) = True := hj1
          replace hj1b : decide (j ≤ 4) = true := hj1b
          have hj1c : j ≤ 4 := of_eq_true hj1
          have hj2c : (c : Int) ≤ j := of_eq_true hj2
          try go_wp2
          have n0_ := Aside0.mk (Kd.R_drew HO.out)
          have n1_ := Aside0.mk (below_drew1 HB.out)
          clear HO HB
          have HO := n0_
          have HB := n1_
          clear n0_ n1_
          refine start_ (n := 15) (S := fun w' => True) (ds := []) #[false, false, false, false, false, false, false, false, false, false, false, false, false, false, false] (by kernel_rfl) rfl rfl trivial (fun hHeld => ?_); refine with_tabW pritchelref09_Longer.tab8 pritchelref09_Longer.bits8 (fun HT_ HW_ => ?_)
          generalize wr.drew = w10 at HO HB hHeld ⊢
          refine pure_ (i := 0) (N := some 20) (v := ?_) (a' := ?_) #[true, false, false, false, false, false, false, false, false, false, false, false, false, false, false] rfl rfl (any_of HT_.out (by kernel_rfl)) (fun _ _ _ h => h) (Or.inl ⟨by rfl, ?_⟩) ?_ ?_
          rotate_left
          · intro w'
            go_simp
            with_reducible rfl
          rotate_left
          · simp only [Act.put, List.setIfInBounds_toArray, List.set_cons_zero, List.set_cons_succ, i64_w, i32_w]
            rfl
          refine pure_ (i := 1) (N := some 21) (v := ?_) (a' := ?_) #[true, true, false, false, false, false, false, false, false, false, false, false, false, false, false] rfl rfl (any_of HT_.out (by kernel_rfl)) (fun _ _ _ h => h) (Or.inl ⟨by rfl, ?_⟩) ?_ ?_
          rotate_left
          · intro w'
            go_simp
            with_reducible rfl
          rotate_left
          · simp only [Act.put, List.setIfInBounds_toArray, List.set_cons_zero, List.set_cons_succ, i64_w, i32_w]
            rfl
          refine pure_ (i := 2) (N := some 22) (v := ?_) (a' := ?_) #[true, true, true, false, false, false, false, false, false, false, false, false, false, false, false] rfl rfl (any_of HT_.out (by kernel_rfl)) (fun _ _ _ h => h) (Or.inl ⟨by rfl, ?_⟩) ?_ ?_
          rotate_left
          · intro w'
            go_simp
            with_reducible rfl
          rotate_left
          · simp only [Act.put, List.setIfInBounds_toArray, List.set_cons_zero, List.set_cons_succ, i64_w, i32_w]
            rfl
          refine pure_ (i := 3) (N := some 23) (v := ?_) (a' := ?_) #[true, true, true, true, false, false, false, false, false, false, false, false, false, false, false] rfl rfl (any_of HT_.out (by kernel_rfl)) (fun _ _ _ h => h) (Or.inl ⟨by rfl, ?_⟩) ?_ ?_
          rotate_left
          · intro w'
            go_simp
            with_reducible rfl
          rotate_left
          · simp only [Act.put, List.setIfInBounds_toArray, List.set_cons_zero, List.set_cons_succ, i64_w, i32_w]
            rfl
          refine pure_ (i := 4) (N := some 24) (v := ?_) (a' := ?_) #[true, true, true, true, true, false, false, false, false, false, false, false, false, false, false] rfl rfl (any_of HT_.out (by kernel_rfl)) (fun _ _ _ h => h) (Or.inl ⟨by rfl, ?_⟩) ?_ ?_
          rotate_left
          · intro w'
            go_simp
            with_reducible rfl
          rotate_left
          · simp only [Act.put, List.setIfInBounds_toArray, List.set_cons_zero, List.set_cons_succ, i64_w, i32_w]
            rfl
          refine pure_ (i := 5) (N := some 25) (v := ?_) (a' := ?_) #[true, true, true, true, true, true, false, false, false, false, false, false, false, false, false] rfl rfl (any_of HT_.out (by kernel_rfl)) (fun _ _ _ h => h) (Or.inl ⟨by rfl, ?_⟩) ?_ ?_
          rotate_left
          · intro w'
            go_simp
            with_reducible rfl
          rotate_left
          · simp only [Act.put, List.setIfInBounds_toArray, List.set_cons_zero, List.set_cons_succ, i64_w, i32_w]
            rfl
          refine pure_ (i := 6) (N := some 26) (v := ?_) (a' := ?_) #[true, true, true, true, true, true, true, false, false, false, false, false, false, false, false] rfl rfl (any_of HT_.out (by kernel_rfl)) (fun _ _ _ h => h) (Or.inl ⟨by rfl, ?_⟩) ?_ ?_
          rotate_left
          · intro w'
            go_simp
            with_reducible rfl
          rotate_left
          · simp only [Act.put, List.setIfInBounds_toArray, List.set_cons_zero, List.set_cons_succ, i64_w, i32_w]
            rfl
          refine pure_ (i := 7) (N := some 27) (v := ?_) (a' := ?_) #[true, true, true, true, true, true, true, true, false, false, false, false, false, false, false] rfl rfl (any_of HT_.out (by kernel_rfl)) (fun _ _ _ h => h) (Or.inl ⟨by rfl, ?_⟩) ?_ ?_
          rotate_left
          · intro w'
            go_simp
            with_reducible rfl
          rotate_left
          · simp only [Act.put, List.setIfInBounds_toArray, List.set_cons_zero, List.set_cons_succ, i64_w, i32_w]
            rfl
          refine pure_ (i := 8) (N := some 28) (v := ?_) (a' := ?_) #[true, true, true, true, true, true, true, true, true, false, false, false, false, false, false] rfl rfl (any_of HT_.out (by kernel_rfl)) (fun _ _ _ h => h) (Or.inl ⟨by rfl, ?_⟩) ?_ ?_
          rotate_left
          · intro w'
            go_simp
            with_reducible rfl
          rotate_left
          · simp only [Act.put, List.setIfInBounds_toArray, List.set_cons_zero, List.set_cons_succ, i64_w, i32_w]
            rfl
          refine pure_ (i := 9) (N := some 29) (v := ?_) (a' := ?_) #[true, true, true, true, true, true, true, true, true, true, false, false, false, false, false] rfl rfl (any_of HT_.out (by kernel_rfl)) (fun _ _ _ h => h) (Or.inl ⟨by rfl, ?_⟩) ?_ ?_
          rotate_left
          · intro w'
            go_simp
            with_reducible rfl
          rotate_left
          · simp only [Act.put, List.setIfInBounds_toArray, List.set_cons_zero, List.set_cons_succ, i64_w, i32_w]
            rfl
          refine pure_ (i := 10) (N := some 30) (v := ?_) (a' := ?_) #[true, true, true, true, true, true, true, true, true, true, true, false, false, false, false] rfl rfl (any_of HT_.out (by kernel_rfl)) (fun _ _ _ h => h) (Or.inl ⟨by rfl, ?_⟩) ?_ ?_
          rotate_left
          · intro w'
            go_simp
            with_reducible rfl
          rotate_left
          · simp only [Act.put, List.setIfInBounds_toArray, List.set_cons_zero, List.set_cons_succ, i64_w, i32_w]
            rfl
          refine pure_ (i := 11) (N := some 31) (v := ?_) (a' := ?_) #[true, true, true, true, true, true, true, true, true, true, true, true, false, false, false] rfl rfl (any_of HT_.out (by kernel_rfl)) (fun _ _ _ h => h) (Or.inl ⟨by rfl, ?_⟩) ?_ ?_
          rotate_left
          · intro w'
            go_simp
            with_reducible rfl
          rotate_left
          · simp only [Act.put, List.setIfInBounds_toArray, List.set_cons_zero, List.set_cons_succ, i64_w, i32_w]
            rfl
          refine pure_ (i := 12) (N := some 32) (v := ?_) (a' := ?_) #[true, true, true, true, true, true, true, true, true, true, true, true, true, false, false] rfl rfl (any_of HT_.out (by kernel_rfl)) (fun _ _ _ h => h) (Or.inl ⟨by rfl, ?_⟩) ?_ ?_
          rotate_left
          · intro w'
            go_simp
            with_reducible rfl
          rotate_left
          · simp only [Act.put, List.setIfInBounds_toArray, List.set_cons_zero, List.set_cons_succ, i64_w, i32_w]
            rfl
          refine one_ (i := 13) (N := some 33) #[true, true, true, true, true, true, true, true, true, true, true, true, true, true, false] rfl rfl (one_of HT_.out (by kernel_rfl)) (by decide) (fun K hK => ?_)
          refine goes_ Tryd.func51 (by kernel_rfl) rfl #[u5, .string (putAt a0 k c)] (by rfl) rfl rfl (by (try simp only [List.map_toArray, List.map_cons, List.map_nil]); first | done | rfl) ?_
          refine (put_calls u5 (putAll (putsAll a0 q k ++ putsTo a0 k c)) (putAt a0 k c) w.heap.size _ HO.out LEN.out HB.out.size).mono ?_
          rintro e w14 ⟨v14, rfl, ho, hb⟩
          refine ⟨_, rfl, ?_⟩
          have n1_ := Aside0.mk (HB.out.trans hb)
          clear HO HB hb
          have HO := Aside0.mk ho
          have HB := n1_
          clear n1_ ho
          refine hK.out _ _ trivial (fun hHeld => ?_)
          clear hK K
          refine norm_ (a' := ?_) ?_ ?_
          rotate_left
          · show Act.put _ (some 33) _ = _
            simp only [Act.put, List.setIfInBounds_toArray, List.set_cons_zero, List.set_cons_succ, i64_w, i32_w]
            rfl
          refine pure_ (i := 14) (N := some 5) (v := ?_) (a' := ?_) #[true, true, true, true, true, true, true, true, true, true, true, true, true, true, true] rfl rfl (any_of HT_.out (by kernel_rfl)) (fun _ _ _ h => h) (Or.inl ⟨by rfl, ?_⟩) ?_ ?_
          rotate_left
          · intro w'
            go_simp
            with_reducible rfl
          rotate_left
          · simp only [Act.put, List.setIfInBounds_toArray, List.set_cons_zero, List.set_cons_succ, i64_w, i32_w]
            rfl
          refine done_ (done_of HT_.out (by kernel_rfl)) ?_
          try go_wp2
          go_roundw
          case rel => exact ⟨c + 1, by omega, by go_num, ⟨by rw [putsTo_succ, ← List.append_assoc, putAll_snoc]; exact HO.out⟩, HB⟩
          case measure => simp [Go.RowKit.intOf]; omega
        · obtain rfl : c = q := by omega
          have HO' := Aside0.mk (show Kd.R Kd.string 9 wr w.heap.size (fun _ => True) _ (putAll (putsAll a0 c (k + 1))) from by rw [putsAll_succ]; exact HO.out)
          clear HO
          go_wp2
          go_roundw
          case rel => exact ⟨k + 1, by omega, by go_num, HO', HB⟩
          case measure => simp [Go.RowKit.intOf]; omega
    · obtain rfl : k = a0.size + 1 := by omega
      go_wp2
      go_ret
      exact ⟨_, rfl, HO.out, HB.out⟩
end Go.Proofs.YtopmcoohdhlnaaaDoor.G
