/- The program's words: all words of a length over a code's letters, and of these the words of the code, in byte order. -/
import Derived.Test.YtopmcoohdhlnaaaDoorG7
import Derived.Test.YtopmcoohdhlnaaaDoorG9
import Derived.Test.YtopmcoohdhlnaaaDoorPa17
namespace Go.Proofs.YtopmcoohdhlnaaaDoor.G
open Go.RowKit Go.Lib Go.Proofs.YtopmcoohdhlnaaaDoorW.PrintWords Go.Proofs.YtopmcoohdhlnaaaDoorW.PrintLast Go.Proofs.YtopmcoohdhlnaaaDoorW.PrintMore
set_option linter.unusedVariables false
set_option linter.unusedSimpArgs false

/-- The words that come of a word by one letter more at the end. -/
def extW (al x : ByteArray) : List ByteArray := al.data.toList.map fun b => catB [x, ⟨#[b]⟩]
def stepW (al : ByteArray) (l : List ByteArray) : List ByteArray := l.flatMap (extW al)
/-- All words of n letters, in byte order. -/
def allW (al : ByteArray) : Nat → List ByteArray
  | 0 => [⟨#[]⟩]
  | n + 1 => stepW al (allW al n)
theorem extW_length (al x : ByteArray) : (extW al x).length = al.size := by simp [extW]
theorem stepW_length (al : ByteArray) (l : List ByteArray) : (stepW al l).length = l.length * al.size := by
  induction l with
  | nil => simp [stepW]
  | cons x r ih =>
    unfold stepW at ih ⊢
    rw [List.flatMap_cons, List.length_append, extW_length, ih, List.length_cons, Nat.add_mul, Nat.one_mul, Nat.add_comm]
theorem allW_length (al : ByteArray) (n : Nat) : (allW al n).length = al.size ^ n := by
  induction n with
  | zero => rfl
  | succ n ih => rw [allW, stepW_length, ih, Nat.pow_succ]
theorem catB_snoc_size (x : ByteArray) (b : UInt8) : (catB [x, ⟨#[b]⟩]).size = x.size + 1 := by
  show ((List.map _ _).flatten.toArray).size = _
  simp only [List.map_cons, List.map_nil, List.flatten_cons, List.flatten_nil, List.append_nil, List.size_toArray, List.length_append, Array.length_toList]
  rfl
theorem allW_size (al : ByteArray) : ∀ (n : Nat) (x : ByteArray), x ∈ allW al n → x.size = n
  | 0, x, h => by
    have : x = ⟨#[]⟩ := by simpa [allW] using h
    subst this; rfl
  | n + 1, x, h => by
    simp only [allW, stepW, List.mem_flatMap] at h
    obtain ⟨y, hy, hx⟩ := h
    simp only [extW, List.mem_map] at hx
    obtain ⟨b, _, rfl⟩ := hx
    rw [catB_snoc_size, allW_size al n y hy]
theorem stepW_take_succ (al : ByteArray) (l : List ByteArray) (k : Nat) (h : k < l.length) : stepW al (l.take (k + 1)) = stepW al (l.take k) ++ extW al (l[k]'h) := by
  rw [List.take_succ_eq_append_getElem h]
  unfold stepW
  rw [List.flatMap_append]
  simp
theorem extW_take_succ (al x : ByteArray) (j : Nat) (h : j < al.size) : (extW al x).take (j + 1) = (extW al x).take j ++ [catB [x, ⟨#[al[j]'h]⟩]] := by
  rw [List.take_succ_eq_append_getElem (by rw [extW_length]; exact h)]
  congr 1
  simp [extW]
  rfl
theorem snoc_joined (x : ByteArray) (b : UInt8) (h : x.size ≤ 1000) : mark_joined.f [x, ⟨#[b]⟩] = some (catB [x, ⟨#[b]⟩]) := by
  unfold mark_joined.f
  rw [if_pos ⟨by rw [catB_snoc_size]; omega, by simp⟩]
theorem joined_two (A : Option Addr) (c : Nat) (x : ByteArray) (b : UInt8) (w : World) (hr : Kd.C Kd.string w A 2 [x, ⟨#[b]⟩]) (hc : 2 ≤ c) (h : mark_joined.f [x, ⟨#[b]⟩] = some (catB [x, ⟨#[b]⟩])) :
    Calls Tryd.prog 56 #[.slice A 2 c] w fun e w' => e = .returned (.string (catB [x, ⟨#[b]⟩])) ∧ Below w.heap.size w w' := mark_joined.calls A c [x, ⟨#[b]⟩] _ w hr hc h
theorem enc_byte : ∀ c : Fin 128, Utf8.encode ((c.val : Nat) : Int) = ⟨#[UInt8.ofNat c.val]⟩ := by decide +kernel
theorem enc_ascii (b : UInt8) (h : b.toNat < 128) : Utf8.encode (b.toNat : Int) = ⟨#[b]⟩ := by
  have := enc_byte ⟨b.toNat, h⟩
  rw [this]
  simp
theorem box_grown {w w1 : World} {g B : Nat} {a0 a1 a2 a3 a4 : Int} {ok : Nat → Prop} {v : Value} {xs : List ByteArray} (h : IsBox w g a0 a1 a2 a3 a4) (hr : Kd.R Kd.string 9 w B ok v xs) (hg : w.grownBy w1 v.ownBlock) : IsBox w1 g a0 a1 a2 a3 a4 :=
  blk_grown h hg (Kd.R_ne hr h (by decide))
theorem IsBox.iter {w w1 : World} {g k : Nat} {s : ByteArray} {p : Nat} {a0 a1 a2 a3 a4 : Int} (h : IsBox w g a0 a1 a2 a3 a4) (hk : w.heap[k]? = some (.stringIter s p)) (ho : ∀ j, j ≠ k → w1.heap[j]? = w.heap[j]?) : IsBox w1 g a0 a1 a2 a3 a4 := by
  refine (ho g ?_).trans h
  rintro rfl
  unfold IsBox at h
  rw [hk] at h
  cases h
theorem R_iter2 {w w1 : World} {k : Nat} {s : ByteArray} {p e B : Nat} {ok : Nat → Prop} {v : Value} {xs : List ByteArray} (h : w.heap[k]? = some (.stringIter s p)) (hr : Kd.R Kd.string e w B ok v xs) (ho : ∀ j, j ≠ k → w1.heap[j]? = w.heap[j]?) : Kd.R Kd.string e w1 B ok v xs := by
  refine Kd.R_mono (Kd.R_step (Kd.R_bound hr) (fun j hj _ => ho j ?_)) (fun _ hj => hj.1)
  rintro rfl
  obtain ⟨_, _, _, q, _, cells, hc⟩ := hj
  rw [h] at hc
  cases hc
theorem R_newiter2 {w : World} {s : ByteArray} {e B : Nat} {ok : Nat → Prop} {v : Value} {xs : List ByteArray} (hr : Kd.R Kd.string e w B ok v xs) : Kd.R Kd.string e (w.iter s 0) B ok v xs :=
  Kd.R_below hr ((Below.refl _ _).alloc (Nat.le_refl _) _)

/-! ### mark_code_words: function 45 -/
def mark_code_words.f (a0 a1 a2 a3 a4 : Int) : Option (List ByteArray) :=
  if okCode a0 a1 a2 a3 a4 ∧ a1 ≤ 12 then
    (Pa.mark_code_alphabet.f a0 a1 a2 a3 a4).bind fun al => if okSet al = true ∧ 1 ≤ al.size ∧ al.size ≤ 4 then some ((allW al a1.toNat).filter (inB a0 a1 a2 a3 a4)) else none
  else none
set_option maxHeartbeats 8000000 in
set_option maxRecDepth 100000 in
theorem mark_code_words.calls (a0 a1 a2 a3 a4 : Int) (r : List ByteArray) (w : World) (h : mark_code_words.f a0 a1 a2 a3 a4 = some r) :
    Calls Tryd.prog 45 #[.agg #[.int .i64 a0, .int .i64 a1, .int .i64 a2, .int .i64 a3, .int .i64 a4]] w fun e w' => ∃ v0_ : Value, e = .returned (v0_) ∧ Kd.R Kd.string 9 w' w.heap.size (fun _ => True) v0_ r ∧ Below w.heap.size w w' := by
  unfold mark_code_words.f at h
  split at h
  case isFalse => cases h
  case isTrue hok =>
  obtain ⟨hok, h12⟩ := hok
  obtain ⟨al, hal, h2⟩ := Option.bind_eq_some_iff.1 h
  clear h
  split at h2
  case isFalse => cases h2
  case isTrue hg =>
  obtain ⟨hs, hs1, hs4⟩ := hg
  obtain rfl := Option.some.inj h2
  clear h2
  obtain ⟨N, rfl⟩ := Int.eq_ofNat_of_zero_le hok.1
  have hN : N ≤ 12 := by omega
  have HA := Lib.hid (okSet_ascii hs)
  have HOK := Lib.hid hok
  have HAL := Lib.hid hal
  clear hok hal hs h12
  have hu68 := Tryd.underlying68
  have hu3 := Tryd.underlying3
  go_enter Tryd.func45, Tryd.ntmps45
  go_wp2_with (first | ((with_reducible refine gate_dst (N := 1) rfl ?_); refine box_event ?hg (N := 1) ?hd (cs := #[.int .i64 a0, .int .i64 (N : Int), .int .i64 a2, .int .i64 a3, .int .i64 a4]) (t := 68) ?hr ?_; (case hd => rfl); (case hg => rfl); (case hr => first | (go_simp; done) | (go_simp; rfl)); intro gb hgb w3 hbox hb; have HGB := Aside0.mk hgb; have HBX := Aside0.mk (show IsBox w3 gb a0 (N : Int) a2 a3 a4 from hbox); have HB := Aside0.mk hb; clear hgb hbox hb) | ((with_reducible refine gate_dst (N := 9) rfl ?_); refine Kd.R_lit Kd.string _ 9 ?hg (N := 9) ?hd (xs := ([⟨#[]⟩] : List ByteArray)) (inner := [.string ⟨#[]⟩]) (ok := fun _ => True) (okp := fun _ => True) ?hr ?hp (fun _ hk => hk) trivial (Below.refl _ _) (Nat.le_refl _) (by simp) ?_; (case hd => rfl); (case hg => rfl); (case hr => first | (go_simp; done) | (go_simp; rfl)); (case hp => exact (Reps.one (show Kd.M Kd.string _ _ _ (⟨#[]⟩ : ByteArray) [.string ⟨#[]⟩] from rfl) (Reps.none _ _))); intro v9 w4 ho hb hg_ hnew_; clear hg_ hnew_; have n0_ := Aside0.mk (Kd.R_lower ho (below_size HB.out)); have n1_ := Aside0.mk (HBX.out.below hb); have n2_ := Aside0.mk (below_step HB.out hb); clear HB HBX; have HO := n0_; have HBX := n1_; have HB := n2_; clear n0_ n1_ n2_ ho hb; have c1 : w4.cell? ⟨gb, 1, none⟩ = some (.int .i64 (N : Int)) := (blk_cell HBX.out 1).trans rfl))
  go_loopw [3, 12] (fun v i wr => ∃ n : Nat, n ≤ N ∧ i = .int .i64 n ∧ Aside0 (Kd.R Kd.string 9 wr w.heap.size (fun _ => True) v (allW al n)) ∧ Aside0 (IsBox wr gb a0 (N : Int) a2 a3 a4) ∧ Aside0 (Below w.heap.size w wr)) (fun _ i _ => N - (Go.RowKit.intOf i).toNat)
  case atStart => exact ⟨0, Nat.zero_le _, rfl, HO, HBX, HB⟩
  case round =>
    clear HO HBX HB c1
    obtain ⟨n, hn, rfl, HO, HBX, HB⟩ := hrel
    have LEN0 := Aside0.mk (show (allW al n).length ≤ 16777216 from by rw [allW_length]; exact Nat.le_trans (Nat.pow_le_pow_left hs4 n) (Nat.le_trans (Nat.pow_le_pow_right (by decide) (by omega : n ≤ 12)) (by decide)))
    have hlen := LEN0.out
    by_cases hlt : n < N
    · obtain ⟨A, c, eo⟩ := Kd.R_slice HO.out
      subst eo
      have hdec : decide ((n : Int) < (N : Int)) = true := by simp; omega
      go_wp2
      obtain ⟨wo, rfl⟩ : ∃ wo : World, wo = wr := ⟨_, rfl⟩
      go_loopw [4, 16] (fun v i wr => ∃ k : Nat, k ≤ (allW al n).length ∧ i = .int .i64 k ∧ Aside0 (Kd.R Kd.string 9 wr w.heap.size (fun k_ => some k_ ≠ (v : Value).ownBlock) (.slice A (allW al n).length c) (allW al n)) ∧ Aside0 (Kd.R Kd.string 9 wr w.heap.size (fun k_ => some k_ ≠ (.slice A (allW al n).length c : Value).ownBlock) v (stepW al ((allW al n).take k))) ∧ Aside0 (IsBox wr gb a0 (N : Int) a2 a3 a4) ∧ Aside0 (Below w.heap.size w wr)) (fun _ i _ => (allW al n).length - (Go.RowKit.intOf i).toNat)
      case atStart => exact ⟨0, Nat.zero_le _, rfl, ⟨Kd.R_mono HO.out (fun _ _ => by simp [Value.ownBlock])⟩, ⟨Kd.R_nil _ _ _ _ _⟩, HBX, HB⟩
      case round =>
        clear HO HBX HB
        obtain ⟨k, hk, rfl, HO3, HO4, HBX, HB⟩ := hrel
        by_cases hkl : k < (allW al n).length
        · obtain ⟨ad, e2, hx⟩ := Kd.at_string (Kd.R_reads' HO3.out).2.2 (k : Int) (by omega) (by omega)
          cases e2
          rw [rd_nat8 (allW al n) k hkl, Int.toNat_natCast] at hx
          have hxs := allW_size al n _ (List.getElem_mem hkl)
          have HSTEP := Aside0.mk (stepW_take_succ al (allW al n) k hkl)
          obtain ⟨x, hxx⟩ : ∃ x, (allW al n)[k]'hkl = x := ⟨_, rfl⟩
          rw [hxx] at hx hxs HSTEP
          clear hxx
          have hxs2 : x.size ≤ 1000 := by omega
          clear hxs
          have hdec2 : decide ((k : Int) < ((allW al n).length : Int)) = true := by simp; omega
          have c0 : wr.cell? ⟨gb, 0, none⟩ = some (.int .i64 a0) := (blk_cell HBX.out 0).trans rfl
          have c1 : wr.cell? ⟨gb, 1, none⟩ = some (.int .i64 (N : Int)) := (blk_cell HBX.out 1).trans rfl
          have c2 : wr.cell? ⟨gb, 2, none⟩ = some (.int .i64 a2) := (blk_cell HBX.out 2).trans rfl
          have c3 : wr.cell? ⟨gb, 3, none⟩ = some (.int .i64 a3) := (blk_cell HBX.out 3).trans rfl
          have c4 : wr.cell? ⟨gb, 4, none⟩ = some (.int .i64 a4) := (blk_cell HBX.out 4).trans rfl
          go_wp2_with fail
          refine (Pa.mark_code_alphabet.calls a0 (N : Int) a2 a3 a4 al _ HAL.out).mono ?_
          rintro e w1 ⟨rfl, hb⟩
          have n0_ := Aside0.mk (Kd.R_below HO3.out hb)
          have n1_ := Aside0.mk (Kd.R_below HO4.out hb)
          have n2_ := Aside0.mk (HBX.out.below hb)
          have n3_ := Aside0.mk (below_step HB.out hb)
          clear HO3 HO4 HBX HB hb c0 c1 c2 c3 c4 hx
          have HO3 := n0_
          have HO4 := n1_
          have HBX := n2_
          have HB := n3_
          clear n0_ n1_ n2_ n3_
          have HSZ := Aside0.mk (HB.out.size)
          go_wp2
          obtain ⟨wp, rfl⟩ : ∃ wp : World, wp = wr := ⟨_, rfl⟩
          go_loopw [4] (fun v wi => ∃ j : Nat, j ≤ al.size ∧ Aside0 (Kd.R Kd.string 9 wi w.heap.size (fun k_ => some k_ ≠ (v : Value).ownBlock) (.slice (some ad) (allW al n).length c) (allW al n)) ∧ Aside0 (Kd.R Kd.string 9 wi w.heap.size (fun k_ => some k_ ≠ (.slice (some ad) (allW al n).length c : Value).ownBlock) v (stepW al ((allW al n).take k) ++ (extW al x).take j)) ∧ Aside0 (IsBox wi gb a0 (N : Int) a2 a3 a4) ∧ Aside0 (wi.heap[w1.heap.size]? = some (.stringIter al j)) ∧ Aside0 (Below w.heap.size w wi)) (fun _ wi => al.size - wi.iterPos w1.heap.size)
          case atStart => exact ⟨0, Nat.zero_le _, ⟨R_newiter2 HO3.out⟩, ⟨by simpa using R_newiter2 HO4.out⟩, ⟨HBX.out.below ((Below.refl _ _).alloc (Nat.le_refl _) _)⟩, ⟨World.iter_heap w1 al 0⟩, ⟨below_iter HB.out HSZ.out _ _⟩⟩
          case round =>
            clear HO3 HO4 HBX HB
            obtain ⟨j, hj, HO3, HO4, HBX, HIT, HB⟩ := hrel
            have POS := Aside0.mk (iterPos_of HIT.out)
            by_cases hjl : j < al.size
            · obtain ⟨w2, hnx2, hit2, hsz2, hoth2, hbel2⟩ := next_named (P := Tryd.prog) wr w1.heap.size al j HIT.out hjl
              have ha := HA.out j hjl
              have hd : Utf8.decode al j = ((al[j]'hjl).toNat, 1) := decode_ascii al j hjl ha
              rw [hd] at hnx2 hit2
              have HTK := Aside0.mk (extW_take_succ al x j hjl)
              obtain ⟨b, hbv⟩ : ∃ b, (al[j]'hjl) = b := ⟨_, rfl⟩
              rw [hbv] at hnx2 ha HTK
              clear hbv hd
              have henc := enc_ascii b ha
              have HJ := Aside0.mk (snoc_joined x b hxs2)
              have LEN := Aside0.mk (show (stepW al ((allW al n).take k) ++ (extW al x).take j).length ≤ 100000000 from by
                rw [List.length_append, stepW_length, List.length_take, List.length_take, extW_length]
                have h1 : min k (allW al n).length * al.size ≤ 16777216 * 4 := Nat.mul_le_mul (Nat.le_trans (Nat.min_le_right _ _) LEN0.out) hs4
                omega)
              have LENB := Aside0.mk (show ((stepW al ((allW al n).take k) ++ (extW al x).take j).length + 1) * 16 ≤ 140737488355328 from by have := LEN.out; omega)
              clear LEN
              have n0_ := Aside0.mk (R_iter2 HIT.out HO3.out hoth2)
              have n1_ := Aside0.mk (R_iter2 HIT.out HO4.out hoth2)
              have n2_ := Aside0.mk (HBX.out.iter HIT.out hoth2)
              have n3_ := Aside0.mk (hbel2 _ _ HSZ.out HB.out)
              have n4_ := Aside0.mk hit2
              clear HO3 HO4 HBX HB HIT hoth2 hbel2 hit2 hsz2
              have HO3 := n0_
              have HO4 := n1_
              have HBX := n2_
              have HB := n3_
              have HIT := n4_
              clear n0_ n1_ n2_ n3_ n4_
              obtain ⟨d, hdd⟩ : ∃ d, b.toNat = d := ⟨_, rfl⟩
              rw [hdd] at hnx2 henc ha
              clear hdd
              go_wp2_with (first | ((with_reducible refine gate_dst (N := 30) rfl ?_); refine Kd.R_lit Kd.string _ 9 ?hg (N := 30) ?hd (xs := ([x, ⟨#[b]⟩] : List ByteArray)) (inner := [.string x, .string ⟨#[b]⟩]) (ok := fun _ => True) (okp := fun _ => True) ?hr ?hp (fun _ hk => hk) trivial (Below.refl _ _) (Nat.le_refl _) (by simp) ?_; (case hd => rfl); (case hg => rfl); (case hr => first | (go_simp; done) | (go_simp; rfl)); (case hp => exact (Reps.one (show Kd.M Kd.string _ _ _ x [.string x] from rfl) (Reps.one (show Kd.M Kd.string _ _ _ (⟨#[b]⟩ : ByteArray) [.string ⟨#[b]⟩] from rfl) (Reps.none _ _)))); intro v30 w5 ho hb hg_ hnew_; clear hg_ hnew_; have n0_ := Aside0.mk (Kd.R_mono (Kd.R_elder' (by (with_reducible repeat (first | apply Kd.R_alloc | apply Kd.R_drewN | apply Kd.R_drew)); exact HO3.out) (Kd.R_base ho) hb) (fun _ h_ => h_.1)); have n1_ := Aside0.mk (Kd.R_elder' (by (with_reducible repeat (first | apply Kd.R_alloc | apply Kd.R_drewN | apply Kd.R_drew)); exact HO4.out) (Kd.R_base ho) hb); have n2_ := Aside0.mk (Kd.R_lower (Kd.R_new' ho (Kd.R_lt (by (with_reducible repeat (first | apply Kd.R_alloc | apply Kd.R_drewN | apply Kd.R_drew)); exact HO4.out))) (below_size (by repeat (first | (with_reducible first | exact HB.out | apply below_alloc | apply pw_below_drewN | apply below_drew1) | exact HB.out)))); have n3_ := Aside0.mk (below_step (by repeat (first | (with_reducible first | exact HB.out | apply below_alloc | apply pw_below_drewN | apply below_drew1) | exact HB.out)) hb); have n4_ := Aside0.mk (it_below HIT.out hb); have n5_ := Aside0.mk (HBX.out.below hb); clear HO3 HO4 HB HIT HBX; have HO3 := n0_; have HO4 := n1_; have HL := n2_; have HB := n3_; have HIT := n4_; have HBX := n5_; clear n0_ n1_ n2_ n3_ n4_ n5_ ho hb; obtain ⟨Ao, co, eo⟩ := Kd.R_slice HL.out; subst eo))
              refine (joined_two _ _ x b _ (Kd.R_reads' HL.out).2.2 (Kd.R_reads' HL.out).2.1 HJ.out).mono ?_
              rintro e w14 ⟨rfl, hb⟩
              have n0_ := Aside0.mk (Kd.R_below HO3.out hb)
              have n1_ := Aside0.mk (Kd.R_below HO4.out hb)
              have n2_ := Aside0.mk (Kd.R_below HL.out hb)
              have n3_ := Aside0.mk (below_step HB.out hb)
              have n4_ := Aside0.mk (it_below HIT.out hb)
              have n5_ := Aside0.mk (HBX.out.below hb)
              clear HO3 HO4 HL HB HIT HBX hb
              have HO3 := n0_
              have HO4 := n1_
              have HL := n2_
              have HB := n3_
              have HIT := n4_
              have HBX := n5_
              clear n0_ n1_ n2_ n3_ n4_ n5_
              go_wp2_with (first | ((with_reducible refine gate_builtin (b := .append) (xs := #[.tmp 26, .tmp 32]) rfl ?_); at_builtin; refine Kd.R_append Kd.string (w0 := w) w.heap.size rfl (.tmp 26) (.tmp 32) 40 9 (.string ⟨#[]⟩) 16 rfl Tryd.underlying40 info9 rfl (by decide) (by decide) u4 (stepW al ((allW al n).take k) ++ (extW al x).take j) (catB [x, ⟨#[b]⟩]) [.string (catB [x, ⟨#[b]⟩])] (fun k_ => some k_ ≠ (.slice (some ad) (allW al n).length c : Value).ownBlock) (fun _ => False) rfl rfl ?aP (fun _ hk => hk.elim) ?aF ?aO ?aB ?aS ?aL ?_; (case aP => exact rfl); (case aB => exact (by repeat (first | (with_reducible first | exact HB.out | apply below_alloc | apply pw_below_drewN | apply below_drew1) | exact HB.out))); (case aF => exact (fun k_ hk => Kd.fresh' (Kd.R_lt (by (with_reducible repeat (first | apply Kd.R_alloc | apply Kd.R_drewN | apply Kd.R_drew)); exact HO3.out)) k_ hk)); (case aO => exact (by (with_reducible repeat (first | apply Kd.R_alloc | apply Kd.R_drewN | apply Kd.R_drew)); exact Kd.R_mono HO4.out (fun _ hk => hk.1))); (case aS => exact (below_size (by repeat (first | (with_reducible first | exact HB.out | apply below_alloc | apply pw_below_drewN | apply below_drew1) | exact HB.out)))); (case aL => exact LENB.out); intro v33 w15 ho hb hg hat; have n0_ := Aside0.mk (Kd.R_mono (Kd.R_after (ok := (fun _ => True)) (by (with_reducible repeat (first | apply Kd.R_alloc | apply Kd.R_drewN | apply Kd.R_drew)); exact Kd.R_mono HO3.out (fun _ hk => ⟨trivial, hk⟩)) hg hat) (fun _ h_ => h_.2)); have n4_ := Aside0.mk (it_grown HIT.out HO4.out hg); have n5_ := Aside0.mk (box_grown HBX.out HO4.out hg); clear HO3 HO4 HL HB HIT HBX; have HO3 := n0_; have HO4 := Aside0.mk ho; have HB := Aside0.mk hb; have HIT := n4_; have HBX := n5_; clear n0_ n4_ n5_ ho hb hg hat))
              go_roundw
              case rel => exact ⟨j + 1, by omega, HO3, ⟨by rw [HTK.out, ← List.append_assoc]; exact HO4.out⟩, HBX, HIT, HB⟩
              case measure => rw [POS.out, iterPos_of HIT.out]; show al.size - (j + 1) < al.size - j; omega
            · obtain rfl : j = al.size := by omega
              have hnx2 : ∀ ty, (Instr.next (.pointer (some ⟨w1.heap.size, 0, none⟩)) true ty).run Tryd.prog wr = _ := fun ty => run_next_end_at wr w1.heap.size al al.size ty HIT.out (by omega)
              have HO4' := Aside0.mk (show Kd.R Kd.string 9 wr w.heap.size (fun k_ => some k_ ≠ (.slice (some ad) (allW al n).length c : Value).ownBlock) _ (stepW al ((allW al n).take (k + 1))) from by rw [HSTEP.out]; have := HO4.out; rwa [List.take_of_length_le (l := extW al x) (by rw [extW_length]; exact Nat.le_refl _)] at this)
              clear HO4 POS
              go_wp2
              go_roundw
              case rel => exact ⟨k + 1, by omega, by go_num, HO3, HO4', HBX, HB⟩
              case measure => simp [Go.RowKit.intOf]; omega
        · obtain rfl : k = (allW al n).length := by omega
          have HO4' := Aside0.mk (show Kd.R Kd.string 9 wr w.heap.size (fun _ => True) _ (allW al (n + 1)) from by have := HO4.out; rw [List.take_of_length_le (Nat.le_refl _)] at this; exact Kd.R_mono this (fun _ _ => trivial))
          clear HO4 HO3
          go_wp2
          go_roundw
          case rel => exact ⟨n + 1, by omega, by go_num, HO4', HBX, HB⟩
          case measure => simp [Go.RowKit.intOf]; omega
    · obtain rfl : n = N := by omega
      have hne : 0 < (allW al n).length := by rw [allW_length]; exact Nat.pow_pos (by omega)
      rcases (Kd.own_of_R HO.out).2 with ⟨_, h0⟩ | ⟨gr, cap, cur, rfl, _⟩
      · omega
      have hB1 : w.heap.size ≤ wr.heap.size := HB.out.size
      have hmf := HBX.out
      clear hmf
      go_wp2_with fail
      refine (delete_calls gb a0 (n : Int) a2 a3 a4 w.heap.size gr cap (allW al n) _ HO.out (by have := LEN0.out; omega) hB1 HBX.out HOK.out).mono ?_
      rintro e w2 ⟨v', rfl, hr, hb⟩
      have HR := Aside0.mk hr
      have HB2 := Aside0.mk (HB.out.trans hb)
      clear hr hb
      go_wp2
      go_ret
      exact ⟨v', rfl, HR.out, HB2.out⟩
end Go.Proofs.YtopmcoohdhlnaaaDoor.G
